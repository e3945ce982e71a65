/-
  Part I of a proof: the statement, proved of every input, with no condition.
-/
import Derived.Test.YtmkkkahidonnjaaH
import Derived.Test.YtmkkkahidonnjaaProg
import Derived.Test.YtmkkkahidonnjaaRows
set_option maxRecDepth 100000
namespace Go.Proofs.Ytmkkkahidonnjaa
open Go Go.Idl Go.Idl.N
theorem rdF3 : RdF Try.prog 3 (fun p : Int => [.int .i64 p]) (fun p => (Lit.int .i64 p).wf = true) :=
 rd_int (by kernel_rfl)
theorem rdF2 : RdF Try.prog 2 (fun p : Int => [.int .i64 p]) (fun p => (Lit.int .i64 p).wf = true) :=
 rd_int (by kernel_rfl)
theorem rdF60 : RdF Try.prog 60 (fun p : (Int × Int) => [.int .i64 p.1, .int .i64 p.2]) (fun p => ((Lit.int .i64 p.1).wf = true) ∧ ((Lit.int .i64 p.2).wf = true)) :=
 rd_stF' [(2, 0), (2, 1)] (by kernel_rfl) (tot := 2) (by kernel_rfl) (rp_consF rdF2 (by kernel_rfl) (rp_oneF rdF2 (by kernel_rfl)))
theorem rdC23 : RdC Try.prog 23 (fun p : (List (Int × Int)) => [.sl (List.map e60 p) false]) (fun p => (∀ x ∈ p, ((Lit.int .i64 x.1).wf = true) ∧ ((Lit.int .i64 x.2).wf = true)) ∧ List.length p ≤ maxLen) :=
 rd_sl (g := e60) (es := 2) (by kernel_rfl) (by kernel_rfl) rdF60 (fun _ => rfl) (fun _ => rfl)
theorem rdF70 : RdF Try.prog 70 (fun p : (Int × Int) => [.int .i64 p.1, .int .i64 p.2]) (fun p => ((Lit.int .i64 p.1).wf = true) ∧ ((Lit.int .i64 p.2).wf = true)) :=
 rd_stF' [(2, 0), (2, 1)] (by kernel_rfl) (tot := 2) (by kernel_rfl) (rp_consF rdF2 (by kernel_rfl) (rp_oneF rdF2 (by kernel_rfl)))
theorem rdC22 : RdC Try.prog 22 (fun p : (List (Int × Int)) => [.sl (List.map e70 p) false]) (fun p => (∀ x ∈ p, ((Lit.int .i64 x.1).wf = true) ∧ ((Lit.int .i64 x.2).wf = true)) ∧ List.length p ≤ maxLen) :=
 rd_sl (g := e70) (es := 2) (by kernel_rfl) (by kernel_rfl) rdF70 (fun _ => rfl) (fun _ => rfl)
theorem params3 : Try.f3.params.toList = [22, 23, 3] := by kernel_rfl
theorem own : ownKnob Try.checked.prog.godebug = none := by kernel_rfl
theorem laid : laidOutB Try.checked.prog = true := by kernel_rfl
theorem lifted (os : Os) (started : os.Started) (H : Type) (enc : TypeId × Value → H) :
  ReturnsInHanded {} Try.checked os 3 .any (Rows.shopPlansSpec.pre6 enc Try.prog Try.f3 Rows.shopPlansRow.domain false) (Rows.shopPlansSpec.post enc Try.prog Try.f3 false true false false) := by
 refine lifted_of (C := Try.checked) (tb := 4) started own (by kernel_rfl) Try.func3
  (ChangeSpec.witness6 (enc := enc) (C := Try.checked) false ⟨#[], #[.slice none 0 0, .slice none 0 0, .int .i64 0], []⟩ 8 (by kernel_rfl) (by kernel_rfl) (by kernel_rfl) (by kernel_rfl))
  laid (by kernel_rfl) (by kernel_rfl) (by kernel_rfl) rfl (fun ds hd => ?_) (by rw [params3]; exact (args_cons (rd_arg1 (by kernel_rfl) rdC22) (args_cons (rd_arg1 (by kernel_rfl) rdC23) (args_cons (rd_arg1 (by kernel_rfl) rdF3.c) args_nil)))) (fun ps hg => ?_)
 ·rw [params3] at hd
  match ds, hd with
  | [d0, d1, d2], _ => exact ⟨rfl, rfl, rfl⟩
 ·obtain ⟨p0, qs0, k0, ⟨p1, qs1, k1, ⟨p2, qs2, k2, rfl, rfl⟩, rfl⟩, rfl⟩ := hg
  exact F3_ok 1000 p0 p1 p2 false false true (law3 p0 p1 p2)
theorem shopPlans : Rows.ShopPlansSaid :=
 OpenClaim.holds_of_wide 3 Try.f3 rfl rfl rfl rfl rfl rfl rfl ⟨rfl, rfl, rfl, rfl, rfl⟩ rfl rfl rfl rfl rfl (by kernel_rfl) Try.func3 (by kernel_rfl)
  (of_decide_eq_true (by kernel_rfl)) (by unfold Func.isWrapper; first | (rw [if_pos (by decide +kernel)]; kernel_rfl) | (rw [if_neg (by decide +kernel)]; exact ⟨rfl, rfl⟩))
  (fun os started H enc _ => lifted os started H enc)
end Go.Proofs.Ytmkkkahidonnjaa
