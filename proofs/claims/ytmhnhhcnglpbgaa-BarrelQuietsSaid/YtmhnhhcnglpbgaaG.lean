/-
  Part G of a proof: the statement, proved of every input, with no condition.
-/
import Derived.Test.YtmhnhhcnglpbgaaF
import Derived.Test.YtmhnhhcnglpbgaaProg
import Derived.Test.YtmhnhhcnglpbgaaRows
set_option maxRecDepth 100000
namespace Go.Proofs.Ytmhnhhcnglpbgaa
open Go Go.Idl Go.Idl.N
theorem rdF3 : RdF Try.prog 3 (fun p : Int => [.int .i64 p]) (fun p => (Lit.int .i64 p).wf = true) :=
  rd_int (by kernel_rfl)
theorem rdF2 : RdF Try.prog 2 (fun p : Int => [.int .i64 p]) (fun p => (Lit.int .i64 p).wf = true) :=
  rd_int (by kernel_rfl)
theorem rdF68 : RdF Try.prog 68 (fun p : (Int × Int) => [.int .i64 p.1, .int .i64 p.2]) (fun p => ((Lit.int .i64 p.1).wf = true) ∧ ((Lit.int .i64 p.2).wf = true)) :=
  rd_stF' [(2, 0), (2, 1)] (by kernel_rfl) (tot := 2) (by kernel_rfl) (rp_consF rdF2 (by kernel_rfl) (rp_oneF rdF2 (by kernel_rfl)))
theorem rdC22 : RdC Try.prog 22 (fun p : (List (Int × Int)) => [.sl (List.map e68 p) false]) (fun p => (∀ x ∈ p, ((Lit.int .i64 x.1).wf = true) ∧ ((Lit.int .i64 x.2).wf = true)) ∧ List.length p ≤ maxLen) :=
  rd_sl (g := e68) (es := 2) (by kernel_rfl) (by kernel_rfl) rdF68 (fun _ => rfl) (fun _ => rfl)
theorem params7 : Try.f7.params.toList = [22, 2, 3] := by kernel_rfl
theorem own : ownKnob Try.checked.prog.godebug = none := by kernel_rfl
theorem laid : laidOutB Try.checked.prog = true := by kernel_rfl
theorem lifted (os : Os) (started : os.Started) (H : Type) (enc : TypeId × Value → H) :
    ReturnsInHanded {} Try.checked os 7 .any (Rows.barrelQuietsSpec.pre6 enc Try.prog Try.f7 Rows.barrelQuietsRow.domain false) (Rows.barrelQuietsSpec.post enc Try.prog Try.f7 false true false false) := by
  refine lifted_of (C := Try.checked) (tb := 4) started own (by kernel_rfl) Try.func7
    (ChangeSpec.witness6 (enc := enc) (C := Try.checked) false ⟨#[], #[.slice none 0 0, .int .i64 0, .int .i64 0], []⟩ 8 (by kernel_rfl) (by kernel_rfl) (by kernel_rfl) (by kernel_rfl))
    laid (by kernel_rfl) (by kernel_rfl) (by kernel_rfl) rfl (fun ds hd => ?_) (by rw [params7]; exact (args_cons (rd_arg1 (by kernel_rfl) rdC22) (args_cons (rd_arg1 (by kernel_rfl) rdF2.c) (args_cons (rd_arg1 (by kernel_rfl) rdF3.c) args_nil)))) (fun ps hg => ?_)
  · rw [params7] at hd
    match ds, hd with
    | [d0, d1, d2], _ => exact ⟨rfl, rfl, rfl⟩
  · obtain ⟨p0, qs0, k0, ⟨p1, qs1, k1, ⟨p2, qs2, k2, rfl, rfl⟩, rfl⟩, rfl⟩ := hg
    exact F7_ok 1000 p0 p1 p2 false true (law7 p0 p1 p2)
theorem barrelQuiets : Rows.BarrelQuietsSaid :=
  OpenClaim.holds_of_wide 7 Try.f7 rfl rfl rfl rfl rfl rfl rfl ⟨rfl, rfl, rfl, rfl, rfl⟩ rfl rfl rfl rfl rfl (by kernel_rfl) Try.func7 (by kernel_rfl)
    (of_decide_eq_true (by kernel_rfl)) (by unfold Func.isWrapper; first | (rw [if_pos (by decide +kernel)]; kernel_rfl) | (rw [if_neg (by decide +kernel)]; exact ⟨rfl, rfl⟩))
    (fun os started H enc _ => lifted os started H enc)
end Go.Proofs.Ytmhnhhcnglpbgaa
