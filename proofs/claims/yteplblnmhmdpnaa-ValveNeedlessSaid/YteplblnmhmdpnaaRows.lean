/-
  No cell of these rows narrows 'for every input' (looked for: loops, veiled, ifaces, maps, wideKeys, modest, calm, conditions, laid).
  DERIVED. THE GIVEN ROWS OF THIS SEAT. 3 by the template 'for every input the law returns true; each argument reads behind the call as it read before'; 0 by the template 'total and deterministic' (their statements: YteplblnmhmdpnaaTotals.lean).
  GIVEN WITH THE SEED: the statements are not yours to turn. If you find one false, say at which input.
  Laid BY PROGRAM, IN A SANDBOX (cutbox-rows.mjs): the forced cells as the released guide's own fill.sh prints them over the translation 254016618ff4ed43… (all of the seat's roots in one cut). By AI agents, Wed Nov 11 2026. No macro, syntax, notation, axiom, sorry.
-/
import Derived.Test.YteplblnmhmdpnaaChecked
import GoSem.Claim
import GoSem.ClaimJoined
import GoSem.ClaimMapViews
import Derived.JoinedTies
import Derived.KernelRfl
namespace Go.Proofs.Yteplblnmhmdpnaa
/- THE CELL 'sum', in the pinned program and in every row, IS THE sha256 OF THE DUMP (.gsa) THAT YteplblnmhmdpnaaProg.lean LOADS. Nothing in Lean hashes anything: it is a label: what it is worth is what the hold of that sum in a sandbox is worth. -/
noncomputable def Try.pinned : Pinned := { name := "yteplblnmhmdpnaa", sum := "254016618ff4ed430b3464b83f3f19f62f388b2b83e253db88f584816cc99204", checked := Try.checked }
namespace Rows
def none {H : Type} : Left H := { results := [], args := [] }

/-- 'fipplelaw11.ValveRows': WHATEVER THE INPUT: true; the input reads as it did. -/
def valveRowsSpec : ChangeSpec := { name := "valveRows", fn := fun _ => fun
  | [d1, d2] => { results := [.lit (.bool true)], args := [d1, d2] }
  | _ => none }
def valveRowsRow : OpenClaim := { program := "yteplblnmhmdpnaa", sum := "254016618ff4ed430b3464b83f3f19f62f388b2b83e253db88f584816cc99204", func := "fipple/fipplelaw11.ValveRows", spec := "valveRows", unfollowed := true, recurses := true, plainKeys := false, apart := false }
def ValveRowsSaid : Prop := valveRowsRow.holds Try.pinned (OpenSpec.ofChange valveRowsSpec)

/-- ITS FALSE NEIGHBOUR: 'it returns false'. Refute it at one input. -/
def valveRowsWrong : ChangeSpec := { name := "valveRows", fn := fun _ => fun
  | [d1, d2] => { results := [.lit (.bool false)], args := [d1, d2] }
  | _ => none }
def ValveRowsWrongFalsely : Prop := valveRowsRow.holds Try.pinned (OpenSpec.ofChange valveRowsWrong)

/-- 'fipplelaw11.ValvePatterns': WHATEVER THE INPUT: true; the input reads as it did. -/
def valvePatternsSpec : ChangeSpec := { name := "valvePatterns", fn := fun _ => fun
  | [d1, d2] => { results := [.lit (.bool true)], args := [d1, d2] }
  | _ => none }
def valvePatternsRow : OpenClaim := { program := "yteplblnmhmdpnaa", sum := "254016618ff4ed430b3464b83f3f19f62f388b2b83e253db88f584816cc99204", func := "fipple/fipplelaw11.ValvePatterns", spec := "valvePatterns", unfollowed := true, recurses := true, plainKeys := false, apart := false }
def ValvePatternsSaid : Prop := valvePatternsRow.holds Try.pinned (OpenSpec.ofChange valvePatternsSpec)

/-- ITS FALSE NEIGHBOUR: 'it returns false'. Refute it at one input. -/
def valvePatternsWrong : ChangeSpec := { name := "valvePatterns", fn := fun _ => fun
  | [d1, d2] => { results := [.lit (.bool false)], args := [d1, d2] }
  | _ => none }
def ValvePatternsWrongFalsely : Prop := valvePatternsRow.holds Try.pinned (OpenSpec.ofChange valvePatternsWrong)

/-- 'fipplelaw11.ValveNeedless': WHATEVER THE INPUT: true; the input reads as it did. -/
def valveNeedlessSpec : ChangeSpec := { name := "valveNeedless", fn := fun _ => fun
  | [d1, d2] => { results := [.lit (.bool true)], args := [d1, d2] }
  | _ => none }
def valveNeedlessRow : OpenClaim := { program := "yteplblnmhmdpnaa", sum := "254016618ff4ed430b3464b83f3f19f62f388b2b83e253db88f584816cc99204", func := "fipple/fipplelaw11.ValveNeedless", spec := "valveNeedless", unfollowed := true, recurses := true, plainKeys := false, apart := false }
def ValveNeedlessSaid : Prop := valveNeedlessRow.holds Try.pinned (OpenSpec.ofChange valveNeedlessSpec)

/-- ITS FALSE NEIGHBOUR: 'it returns false'. Refute it at one input. -/
def valveNeedlessWrong : ChangeSpec := { name := "valveNeedless", fn := fun _ => fun
  | [d1, d2] => { results := [.lit (.bool false)], args := [d1, d2] }
  | _ => none }
def ValveNeedlessWrongFalsely : Prop := valveNeedlessRow.holds Try.pinned (OpenSpec.ofChange valveNeedlessWrong)

/- THE SECOND FORM. 'bulk': how many values and letters a reading holds, each counted each time it is reached (what is shared counts as often as it is met; a slice's spare places count too). A statement '..UptoSaid' is the law's where the arguments, and the package variables that the reading takes, are together of bulk at most 1048576: NARROWER than '..Said'. Prove '..Said' where nothing that the law and all that it calls make is longer than what came in: it says more and counts as full. Else prove '..UptoSaid'. A law counts once. -/
mutual
def uptoBulk {H : Type} : DataW H → Nat
  | .lit (.string bytes) => bytes.length + 1
  | .lit _ => 1
  | .nil => 1
  | .ptr d => uptoBulk d + 1
  | .slice elems spare => uptoBulkAll elems + uptoBulkAll spare + 1
  | .agg parts => uptoBulkAll parts + 1
  | .iface _ d => uptoBulk d + 1
  | .map entries => uptoBulkEntries entries + 1
  | .held _ => 1
def uptoBulkAll {H : Type} : List (DataW H) → Nat
  | [] => 0
  | d :: r => uptoBulk d + uptoBulkAll r
def uptoBulkEntries {H : Type} : List (Lit × DataW H) → Nat
  | [] => 0
  | x :: r => uptoBulkEntry x + uptoBulkEntries r
def uptoBulkEntry {H : Type} : Lit × DataW H → Nat
  | (.string bytes, d) => bytes.length + uptoBulk d + 1
  | (_, d) => uptoBulk d + 1
 end
def uptoSmall : (H : Type) → List (DataW H) → Bool := fun _ ds => decide (uptoBulkAll ds ≤ 1048576)
def OpenSpec.upto (s : _root_.Go.ChangeSpec) : _root_.Go.OpenSpec := { _root_.Go.OpenSpec.ofChange s with cond := some uptoSmall }

/-- 'fipplelaw11.ValveRows', WHERE WHAT IT READS IS OF BULK AT MOST 1048576: true; the input reads as it did. -/
def valveRowsUptoRow : OpenClaim := { program := "yteplblnmhmdpnaa", sum := "254016618ff4ed430b3464b83f3f19f62f388b2b83e253db88f584816cc99204", func := "fipple/fipplelaw11.ValveRows", spec := "valveRows", unfollowed := true, recurses := true, plainKeys := false, apart := false, narrowed := true }
def ValveRowsUptoSaid : Prop := valveRowsUptoRow.holds Try.pinned (OpenSpec.upto valveRowsSpec)

/-- 'fipplelaw11.ValvePatterns', WHERE WHAT IT READS IS OF BULK AT MOST 1048576: true; the input reads as it did. -/
def valvePatternsUptoRow : OpenClaim := { program := "yteplblnmhmdpnaa", sum := "254016618ff4ed430b3464b83f3f19f62f388b2b83e253db88f584816cc99204", func := "fipple/fipplelaw11.ValvePatterns", spec := "valvePatterns", unfollowed := true, recurses := true, plainKeys := false, apart := false, narrowed := true }
def ValvePatternsUptoSaid : Prop := valvePatternsUptoRow.holds Try.pinned (OpenSpec.upto valvePatternsSpec)

/-- 'fipplelaw11.ValveNeedless', WHERE WHAT IT READS IS OF BULK AT MOST 1048576: true; the input reads as it did. -/
def valveNeedlessUptoRow : OpenClaim := { program := "yteplblnmhmdpnaa", sum := "254016618ff4ed430b3464b83f3f19f62f388b2b83e253db88f584816cc99204", func := "fipple/fipplelaw11.ValveNeedless", spec := "valveNeedless", unfollowed := true, recurses := true, plainKeys := false, apart := false, narrowed := true }
def ValveNeedlessUptoSaid : Prop := valveNeedlessUptoRow.holds Try.pinned (OpenSpec.upto valveNeedlessSpec)

end Rows
end Go.Proofs.Yteplblnmhmdpnaa
