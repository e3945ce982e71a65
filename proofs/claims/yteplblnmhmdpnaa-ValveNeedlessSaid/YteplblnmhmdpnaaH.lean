/-
  Part H of a proof: the statement, proved of every input, with no condition.
-/
import Derived.Test.YteplblnmhmdpnaaG
import Derived.Test.YteplblnmhmdpnaaProg
import Derived.Test.YteplblnmhmdpnaaRows
set_option maxRecDepth 100000
namespace Go.Proofs.Yteplblnmhmdpnaa
open Go Go.Idl Go.Idl.N
theorem rdF3 : RdF Try.prog 3 (fun p : Int => [.int .i64 p]) (fun p => (Lit.int .i64 p).wf = true) :=
  rd_int (by kernel_rfl)
theorem rdF62 : RdF Try.prog 62 (fun p : (Int × Int) => [.int .i64 p.1, .int .i64 p.2]) (fun p => ((Lit.int .i64 p.1).wf = true) ∧ ((Lit.int .i64 p.2).wf = true)) :=
  rd_arF (n := 2) (e := 3) [(3, 0), (3, 1)] (by kernel_rfl) (by kernel_rfl) (tot := 2) (by kernel_rfl) (rp_consF rdF3 (by kernel_rfl) (rp_oneF rdF3 (by kernel_rfl)))
theorem rdC22 : RdC Try.prog 22 (fun p : (List (Int × Int)) => [.sl (List.map e62 p) false]) (fun p => (∀ x ∈ p, ((Lit.int .i64 x.1).wf = true) ∧ ((Lit.int .i64 x.2).wf = true)) ∧ List.length p ≤ maxLen) :=
  rd_sl (g := e62) (es := 2) (by kernel_rfl) (by kernel_rfl) rdF62 (fun _ => rfl) (fun _ => rfl)
theorem rdC24 : RdC Try.prog 24 (fun p : (Int × (List (Int × Int))) => [.int .i64 p.1, .sl (List.map e62 p.2) false]) (fun p => ((Lit.int .i64 p.1).wf = true) ∧ ((∀ x ∈ p.2, ((Lit.int .i64 x.1).wf = true) ∧ ((Lit.int .i64 x.2).wf = true)) ∧ List.length p.2 ≤ maxLen)) :=
  rd_stC' [(3, 0), (22, 1)] (by kernel_rfl) (tot := 2) (by kernel_rfl) (rp_consC rdF3.c (by kernel_rfl) (rp_oneC rdC22 (by kernel_rfl)))
theorem params5 : Try.f5.params.toList = [24, 3] := by kernel_rfl
theorem own : ownKnob Try.checked.prog.godebug = none := by kernel_rfl
theorem laid : laidOutB Try.checked.prog = true := by kernel_rfl
theorem lifted (os : Os) (started : os.Started) (H : Type) (enc : TypeId × Value → H) :
    ReturnsInHanded {} Try.checked os 5 .any (Rows.valveNeedlessSpec.pre6 enc Try.prog Try.f5 Rows.valveNeedlessRow.domain false) (Rows.valveNeedlessSpec.post enc Try.prog Try.f5 false true false false) := by
  refine lifted_of (C := Try.checked) (tb := 4) started own (by kernel_rfl) Try.func5
    (ChangeSpec.witness6 (enc := enc) (C := Try.checked) false ⟨#[], #[.agg #[.int .i64 0, .slice none 0 0], .int .i64 0], []⟩ 8 (by kernel_rfl) (by kernel_rfl) (by kernel_rfl) (by kernel_rfl))
    laid (by kernel_rfl) (by kernel_rfl) (by kernel_rfl) rfl (fun ds hd => ?_) (by rw [params5]; exact (args_cons (rd_argA (by kernel_rfl) rdC24) (args_cons (rd_arg1 (by kernel_rfl) rdF3.c) args_nil))) (fun ps hg => ?_)
  · rw [params5] at hd
    match ds, hd with
    | [d0, d1], _ => exact ⟨rfl, rfl, rfl⟩
  · obtain ⟨p0, qs0, k0, ⟨p1, qs1, k1, rfl, rfl⟩, rfl⟩ := hg
    exact F5_ok 1000 p0 p1  true (law5 p0 p1)
theorem valveNeedless : Rows.ValveNeedlessSaid :=
  OpenClaim.holds_of_wide 5 Try.f5 rfl rfl rfl rfl rfl rfl rfl ⟨rfl, rfl, rfl, rfl, rfl⟩ rfl rfl rfl rfl rfl (by kernel_rfl) Try.func5 (by kernel_rfl)
    (of_decide_eq_true (by kernel_rfl)) (by unfold Func.isWrapper; first | (rw [if_pos (by decide +kernel)]; kernel_rfl) | (rw [if_neg (by decide +kernel)]; exact ⟨rfl, rfl⟩))
    (fun os started H enc _ => lifted os started H enc)
end Go.Proofs.Yteplblnmhmdpnaa
