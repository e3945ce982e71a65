/-
  No cell of these rows narrows 'for every input' (looked for: loops, veiled, ifaces, maps, wideKeys, modest, calm, conditions, laid).
  DERIVED. THE GIVEN ROWS OF THIS SEAT. 5 by the template 'for every input the law returns true; each argument reads behind the call as it read before'; 0 by the template 'total and deterministic' (their statements: YtmhnhhcnglpbgaaTotals.lean).
  GIVEN WITH THE SEED: the statements are not yours to turn. If you find one false, say at which input.
  Laid BY PROGRAM, IN A SANDBOX (cutbox-rows.mjs): the forced cells as the released guide's own fill.sh prints them over the translation 132b300391381ab5… (all of the seat's roots in one cut). By AI agents, Wed Nov 11 2026. No macro, syntax, notation, axiom, sorry.
-/
import Derived.Test.YtmhnhhcnglpbgaaChecked
import GoSem.Claim
import GoSem.ClaimJoined
import GoSem.ClaimMapViews
import Derived.JoinedTies
import Derived.KernelRfl
namespace Go.Proofs.Ytmhnhhcnglpbgaa
/- THE CELL 'sum', in the pinned program and in every row, IS THE sha256 OF THE DUMP (.gsa) THAT YtmhnhhcnglpbgaaProg.lean LOADS. Nothing in Lean hashes anything: it is a label: what it is worth is what the hold of that sum in a sandbox is worth. -/
noncomputable def Try.pinned : Pinned := { name := "ytmhnhhcnglpbgaa", sum := "132b300391381ab5c689f2c1da7207d9c45175c0069cd5db7ce647446fcd1656", checked := Try.checked }
namespace Rows
def none {H : Type} : Left H := { results := [], args := [] }

/-- 'fipplelaw07.BarrelPins': WHATEVER THE INPUT: true; the input reads as it did. -/
def barrelPinsSpec : ChangeSpec := { name := "barrelPins", fn := fun _ => fun
  | [d1, d2] => { results := [.lit (.bool true)], args := [d1, d2] }
  | _ => none }
def barrelPinsRow : OpenClaim := { program := "ytmhnhhcnglpbgaa", sum := "132b300391381ab5c689f2c1da7207d9c45175c0069cd5db7ce647446fcd1656", func := "fipple/fipplelaw07.BarrelPins", spec := "barrelPins", unfollowed := true, recurses := true, plainKeys := false, apart := false }
def BarrelPinsSaid : Prop := barrelPinsRow.holds Try.pinned (OpenSpec.ofChange barrelPinsSpec)

/-- ITS FALSE NEIGHBOUR: 'it returns false'. Refute it at one input. -/
def barrelPinsWrong : ChangeSpec := { name := "barrelPins", fn := fun _ => fun
  | [d1, d2] => { results := [.lit (.bool false)], args := [d1, d2] }
  | _ => none }
def BarrelPinsWrongFalsely : Prop := barrelPinsRow.holds Try.pinned (OpenSpec.ofChange barrelPinsWrong)

/-- 'fipplelaw07.BarrelFirsts': WHATEVER THE INPUT: true; the input reads as it did. -/
def barrelFirstsSpec : ChangeSpec := { name := "barrelFirsts", fn := fun _ => fun
  | [d1, d2, d3] => { results := [.lit (.bool true)], args := [d1, d2, d3] }
  | _ => none }
def barrelFirstsRow : OpenClaim := { program := "ytmhnhhcnglpbgaa", sum := "132b300391381ab5c689f2c1da7207d9c45175c0069cd5db7ce647446fcd1656", func := "fipple/fipplelaw07.BarrelFirsts", spec := "barrelFirsts", unfollowed := true, recurses := true, plainKeys := false, apart := false }
def BarrelFirstsSaid : Prop := barrelFirstsRow.holds Try.pinned (OpenSpec.ofChange barrelFirstsSpec)

/-- ITS FALSE NEIGHBOUR: 'it returns false'. Refute it at one input. -/
def barrelFirstsWrong : ChangeSpec := { name := "barrelFirsts", fn := fun _ => fun
  | [d1, d2, d3] => { results := [.lit (.bool false)], args := [d1, d2, d3] }
  | _ => none }
def BarrelFirstsWrongFalsely : Prop := barrelFirstsRow.holds Try.pinned (OpenSpec.ofChange barrelFirstsWrong)

/-- 'fipplelaw07.BarrelClashes': WHATEVER THE INPUT: true; the input reads as it did. -/
def barrelClashesSpec : ChangeSpec := { name := "barrelClashes", fn := fun _ => fun
  | [d1, d2, d3] => { results := [.lit (.bool true)], args := [d1, d2, d3] }
  | _ => none }
def barrelClashesRow : OpenClaim := { program := "ytmhnhhcnglpbgaa", sum := "132b300391381ab5c689f2c1da7207d9c45175c0069cd5db7ce647446fcd1656", func := "fipple/fipplelaw07.BarrelClashes", spec := "barrelClashes", unfollowed := true, recurses := true, plainKeys := false, apart := false }
def BarrelClashesSaid : Prop := barrelClashesRow.holds Try.pinned (OpenSpec.ofChange barrelClashesSpec)

/-- ITS FALSE NEIGHBOUR: 'it returns false'. Refute it at one input. -/
def barrelClashesWrong : ChangeSpec := { name := "barrelClashes", fn := fun _ => fun
  | [d1, d2, d3] => { results := [.lit (.bool false)], args := [d1, d2, d3] }
  | _ => none }
def BarrelClashesWrongFalsely : Prop := barrelClashesRow.holds Try.pinned (OpenSpec.ofChange barrelClashesWrong)

/-- 'fipplelaw07.BarrelGroups': WHATEVER THE INPUT: true; the input reads as it did. -/
def barrelGroupsSpec : ChangeSpec := { name := "barrelGroups", fn := fun _ => fun
  | [d1, d2] => { results := [.lit (.bool true)], args := [d1, d2] }
  | _ => none }
def barrelGroupsRow : OpenClaim := { program := "ytmhnhhcnglpbgaa", sum := "132b300391381ab5c689f2c1da7207d9c45175c0069cd5db7ce647446fcd1656", func := "fipple/fipplelaw07.BarrelGroups", spec := "barrelGroups", unfollowed := true, recurses := true, plainKeys := false, apart := false }
def BarrelGroupsSaid : Prop := barrelGroupsRow.holds Try.pinned (OpenSpec.ofChange barrelGroupsSpec)

/-- ITS FALSE NEIGHBOUR: 'it returns false'. Refute it at one input. -/
def barrelGroupsWrong : ChangeSpec := { name := "barrelGroups", fn := fun _ => fun
  | [d1, d2] => { results := [.lit (.bool false)], args := [d1, d2] }
  | _ => none }
def BarrelGroupsWrongFalsely : Prop := barrelGroupsRow.holds Try.pinned (OpenSpec.ofChange barrelGroupsWrong)

/-- 'fipplelaw07.BarrelQuiets': WHATEVER THE INPUT: true; the input reads as it did. -/
def barrelQuietsSpec : ChangeSpec := { name := "barrelQuiets", fn := fun _ => fun
  | [d1, d2, d3] => { results := [.lit (.bool true)], args := [d1, d2, d3] }
  | _ => none }
def barrelQuietsRow : OpenClaim := { program := "ytmhnhhcnglpbgaa", sum := "132b300391381ab5c689f2c1da7207d9c45175c0069cd5db7ce647446fcd1656", func := "fipple/fipplelaw07.BarrelQuiets", spec := "barrelQuiets", unfollowed := true, recurses := true, plainKeys := false, apart := false }
def BarrelQuietsSaid : Prop := barrelQuietsRow.holds Try.pinned (OpenSpec.ofChange barrelQuietsSpec)

/-- ITS FALSE NEIGHBOUR: 'it returns false'. Refute it at one input. -/
def barrelQuietsWrong : ChangeSpec := { name := "barrelQuiets", fn := fun _ => fun
  | [d1, d2, d3] => { results := [.lit (.bool false)], args := [d1, d2, d3] }
  | _ => none }
def BarrelQuietsWrongFalsely : Prop := barrelQuietsRow.holds Try.pinned (OpenSpec.ofChange barrelQuietsWrong)

/- THE SECOND FORM. 'bulk': how many values and letters a reading holds, each counted each time it is reached (what is shared counts as often as it is met; a slice's spare places count too). A statement '..UptoSaid' is the law's where the arguments, and the package variables that the reading takes, are together of bulk at most 1048576: NARROWER than '..Said'. Prove '..Said' where nothing that the law and all that it calls make is longer than what came in: it says more and counts as full. Else prove '..UptoSaid'. A law counts once. -/
mutual
def uptoBulk {H : Type} : DataW H → Nat
  | .lit (.string bytes) => bytes.length + 1
  | .lit _ => 1
  | .nil => 1
  | .ptr d => uptoBulk d + 1
  | .slice elems spare => uptoBulkAll elems + uptoBulkAll spare + 1
  | .agg parts => uptoBulkAll parts + 1
  | .iface _ d => uptoBulk d + 1
  | .map entries => uptoBulkEntries entries + 1
  | .held _ => 1
def uptoBulkAll {H : Type} : List (DataW H) → Nat
  | [] => 0
  | d :: r => uptoBulk d + uptoBulkAll r
def uptoBulkEntries {H : Type} : List (Lit × DataW H) → Nat
  | [] => 0
  | x :: r => uptoBulkEntry x + uptoBulkEntries r
def uptoBulkEntry {H : Type} : Lit × DataW H → Nat
  | (.string bytes, d) => bytes.length + uptoBulk d + 1
  | (_, d) => uptoBulk d + 1
 end
def uptoSmall : (H : Type) → List (DataW H) → Bool := fun _ ds => decide (uptoBulkAll ds ≤ 1048576)
def OpenSpec.upto (s : _root_.Go.ChangeSpec) : _root_.Go.OpenSpec := { _root_.Go.OpenSpec.ofChange s with cond := some uptoSmall }

/-- 'fipplelaw07.BarrelPins', WHERE WHAT IT READS IS OF BULK AT MOST 1048576: true; the input reads as it did. -/
def barrelPinsUptoRow : OpenClaim := { program := "ytmhnhhcnglpbgaa", sum := "132b300391381ab5c689f2c1da7207d9c45175c0069cd5db7ce647446fcd1656", func := "fipple/fipplelaw07.BarrelPins", spec := "barrelPins", unfollowed := true, recurses := true, plainKeys := false, apart := false, narrowed := true }
def BarrelPinsUptoSaid : Prop := barrelPinsUptoRow.holds Try.pinned (OpenSpec.upto barrelPinsSpec)

/-- 'fipplelaw07.BarrelFirsts', WHERE WHAT IT READS IS OF BULK AT MOST 1048576: true; the input reads as it did. -/
def barrelFirstsUptoRow : OpenClaim := { program := "ytmhnhhcnglpbgaa", sum := "132b300391381ab5c689f2c1da7207d9c45175c0069cd5db7ce647446fcd1656", func := "fipple/fipplelaw07.BarrelFirsts", spec := "barrelFirsts", unfollowed := true, recurses := true, plainKeys := false, apart := false, narrowed := true }
def BarrelFirstsUptoSaid : Prop := barrelFirstsUptoRow.holds Try.pinned (OpenSpec.upto barrelFirstsSpec)

/-- 'fipplelaw07.BarrelClashes', WHERE WHAT IT READS IS OF BULK AT MOST 1048576: true; the input reads as it did. -/
def barrelClashesUptoRow : OpenClaim := { program := "ytmhnhhcnglpbgaa", sum := "132b300391381ab5c689f2c1da7207d9c45175c0069cd5db7ce647446fcd1656", func := "fipple/fipplelaw07.BarrelClashes", spec := "barrelClashes", unfollowed := true, recurses := true, plainKeys := false, apart := false, narrowed := true }
def BarrelClashesUptoSaid : Prop := barrelClashesUptoRow.holds Try.pinned (OpenSpec.upto barrelClashesSpec)

/-- 'fipplelaw07.BarrelGroups', WHERE WHAT IT READS IS OF BULK AT MOST 1048576: true; the input reads as it did. -/
def barrelGroupsUptoRow : OpenClaim := { program := "ytmhnhhcnglpbgaa", sum := "132b300391381ab5c689f2c1da7207d9c45175c0069cd5db7ce647446fcd1656", func := "fipple/fipplelaw07.BarrelGroups", spec := "barrelGroups", unfollowed := true, recurses := true, plainKeys := false, apart := false, narrowed := true }
def BarrelGroupsUptoSaid : Prop := barrelGroupsUptoRow.holds Try.pinned (OpenSpec.upto barrelGroupsSpec)

/-- 'fipplelaw07.BarrelQuiets', WHERE WHAT IT READS IS OF BULK AT MOST 1048576: true; the input reads as it did. -/
def barrelQuietsUptoRow : OpenClaim := { program := "ytmhnhhcnglpbgaa", sum := "132b300391381ab5c689f2c1da7207d9c45175c0069cd5db7ce647446fcd1656", func := "fipple/fipplelaw07.BarrelQuiets", spec := "barrelQuiets", unfollowed := true, recurses := true, plainKeys := false, apart := false, narrowed := true }
def BarrelQuietsUptoSaid : Prop := barrelQuietsUptoRow.holds Try.pinned (OpenSpec.upto barrelQuietsSpec)

end Rows
end Go.Proofs.Ytmhnhhcnglpbgaa
