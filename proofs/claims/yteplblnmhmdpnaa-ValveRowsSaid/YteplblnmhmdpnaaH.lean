/-
  Part H of a proof: the statement, proved of every input, with no condition.
-/
import Derived.Test.YteplblnmhmdpnaaG
import Derived.Test.YteplblnmhmdpnaaProg
import Derived.Test.YteplblnmhmdpnaaRows
set_option maxRecDepth 100000
namespace Go.Proofs.Yteplblnmhmdpnaa
open Go Go.Idl Go.Idl.N
theorem rdI3 : RdF Try.prog 3 (fun n : Int => [.int .i64 n]) (fun n => (Lit.int .i64 n).wf = true) := rd_int (by kernel_rfl)
theorem rdI2 : RdF Try.prog 2 (fun n : Int => [.int .i64 n]) (fun n => (Lit.int .i64 n).wf = true) := rd_int (by kernel_rfl)
theorem rdPair : RdF Try.prog 62 (fun p : Int × Int => [.int .i64 p.1, .int .i64 p.2]) (fun p => (Lit.int .i64 p.1).wf = true ∧ (Lit.int .i64 p.2).wf = true) :=
  rd_arF (n := 2) (e := 3) [(3, 0), (3, 1)] (by kernel_rfl) (by kernel_rfl) (tot := 2) (by kernel_rfl) (rp_consF rdI3 (by kernel_rfl) (rp_oneF rdI3 (by kernel_rfl)))
theorem rdRow : RdC Try.prog 24 (fun p : Int × List (Int × Int) => [.int .i64 p.1, .sl (List.map e62 p.2) false]) (fun p => (Lit.int .i64 p.1).wf = true ∧ (∀ x ∈ p.2, (Lit.int .i64 x.1).wf = true ∧ (Lit.int .i64 x.2).wf = true) ∧ p.2.length ≤ maxLen) :=
  rd_stC' [(3, 0), (22, 1)] (by kernel_rfl) (tot := 2) (by kernel_rfl) (rp_consC rdI3.c (by kernel_rfl) (rp_oneC (rd_sl (g := e62) (es := 2) (by kernel_rfl) (by kernel_rfl) rdPair (fun _ => rfl) (fun _ => rfl)) (by kernel_rfl)))
theorem rdInts : RdC Try.prog 36 (fun L : List Int => [.sl (List.map e3 L) false]) (fun L => (∀ x ∈ L, (Lit.int .i64 x).wf = true) ∧ L.length ≤ maxLen) := rd_sl (g := e3) (es := 1) (by kernel_rfl) (by kernel_rfl) rdI3 (fun _ => rfl) (fun _ => rfl)
theorem rdLongs : RdC Try.prog 25 (fun L : List Int => [.sl (List.map e2 L) false]) (fun L => (∀ x ∈ L, (Lit.int .i64 x).wf = true) ∧ L.length ≤ maxLen) := rd_sl (g := e2) (es := 1) (by kernel_rfl) (by kernel_rfl) rdI2 (fun _ => rfl) (fun _ => rfl)
theorem params3 : Try.f3.params.toList = [24, 25] := by kernel_rfl
theorem own : ownKnob Try.checked.prog.godebug = none := by kernel_rfl
theorem laid : laidOutB Try.checked.prog = true := by kernel_rfl
theorem lifted3 (os : Os) (started : os.Started) (H : Type) (enc : TypeId × Value → H) :
    ReturnsInHanded {} Try.checked os 3 .any (Rows.valveRowsSpec.pre6 enc Try.prog Try.f3 Rows.valveRowsRow.domain false) (Rows.valveRowsSpec.post enc Try.prog Try.f3 false true false false) := by
  refine lifted_of (C := Try.checked) (tb := 4) started own (by kernel_rfl) Try.func3
    (ChangeSpec.witness6 (enc := enc) (C := Try.checked) false ⟨#[], #[.agg #[.int .i64 0, .slice none 0 0], .slice none 0 0], []⟩ 8 (by kernel_rfl) (by kernel_rfl) (by kernel_rfl) (by kernel_rfl))
    laid (by kernel_rfl) (by kernel_rfl) (by kernel_rfl) rfl (fun ds hd => ?_) (by rw [params3]; exact args_cons (rd_argA (by kernel_rfl) rdRow) (args_cons (rd_arg1 (by kernel_rfl) rdLongs) args_nil)) (fun ps hg => ?_)
  · rw [params3] at hd
    match ds, hd with
    | [d0, d1], _ => exact ⟨rfl, rfl, rfl⟩
  · obtain ⟨p0, qs, k0, ⟨p1, qs1, k1, rfl, rfl⟩, rfl⟩ := hg
    exact F3_ok 400 p0 p1 false true (law3 p0 p1)
theorem valveRows : Rows.ValveRowsSaid :=
  OpenClaim.holds_of_wide 3 Try.f3 rfl rfl rfl rfl rfl rfl rfl ⟨rfl, rfl, rfl, rfl, rfl⟩ rfl rfl rfl rfl rfl (by kernel_rfl) Try.func3 (by kernel_rfl)
    (of_decide_eq_true (by kernel_rfl)) (by unfold Func.isWrapper; first | (rw [if_pos (by decide +kernel)]; kernel_rfl) | (rw [if_neg (by decide +kernel)]; exact ⟨rfl, rfl⟩))
    (fun os started H enc _ => lifted3 os started H enc)
end Go.Proofs.Yteplblnmhmdpnaa
