/-
  No cell of these rows narrows 'for every input' (looked for: loops, veiled, ifaces, maps, wideKeys, modest, calm, conditions, laid).
  DERIVED. THE GIVEN ROWS OF THIS SEAT. 4 by the template 'for every input the law returns true; each argument reads behind the call as it read before'; 0 by the template 'total and deterministic' (their statements: YtmkkkahidonnjaaTotals.lean).
  GIVEN WITH THE SEED: the statements are not yours to turn. If you find one false, say at which input.
  Laid BY PROGRAM, IN A SANDBOX (cutbox-rows.mjs): the forced cells as the released guide's own fill.sh prints them over the translation 4cee939654ba9bf3… (all of the seat's roots in one cut). By AI agents, Wed Nov 11 2026. No macro, syntax, notation, axiom, sorry.
-/
import Derived.Test.YtmkkkahidonnjaaChecked
import GoSem.Claim
import GoSem.ClaimJoined
import GoSem.ClaimMapViews
import Derived.JoinedTies
import Derived.KernelRfl
namespace Go.Proofs.Ytmkkkahidonnjaa
/- THE CELL 'sum', in the pinned program and in every row, IS THE sha256 OF THE DUMP (.gsa) THAT YtmkkkahidonnjaaProg.lean LOADS. Nothing in Lean hashes anything: it is a label: what it is worth is what the hold of that sum in a sandbox is worth. -/
noncomputable def Try.pinned : Pinned := { name := "ytmkkkahidonnjaa", sum := "4cee939654ba9bf3aaf18ecf4bfc1dd2b26c6ceeea369e5ec4e75d484ccbabbc", checked := Try.checked }
namespace Rows
def none {H : Type} : Left H := { results := [], args := [] }

/-- 'fipplelaw03.ShopPlans': WHATEVER THE INPUT: true; the input reads as it did. -/
def shopPlansSpec : ChangeSpec := { name := "shopPlans", fn := fun _ => fun
  | [d1, d2, d3] => { results := [.lit (.bool true)], args := [d1, d2, d3] }
  | _ => none }
def shopPlansRow : OpenClaim := { program := "ytmkkkahidonnjaa", sum := "4cee939654ba9bf3aaf18ecf4bfc1dd2b26c6ceeea369e5ec4e75d484ccbabbc", func := "fipple/fipplelaw03.ShopPlans", spec := "shopPlans", unfollowed := true, recurses := true, plainKeys := false, apart := false }
def ShopPlansSaid : Prop := shopPlansRow.holds Try.pinned (OpenSpec.ofChange shopPlansSpec)

/-- ITS FALSE NEIGHBOUR: 'it returns false'. Refute it at one input. -/
def shopPlansWrong : ChangeSpec := { name := "shopPlans", fn := fun _ => fun
  | [d1, d2, d3] => { results := [.lit (.bool false)], args := [d1, d2, d3] }
  | _ => none }
def ShopPlansWrongFalsely : Prop := shopPlansRow.holds Try.pinned (OpenSpec.ofChange shopPlansWrong)

/-- 'fipplelaw03.ShopBounds': WHATEVER THE INPUT: true; the input reads as it did. -/
def shopBoundsSpec : ChangeSpec := { name := "shopBounds", fn := fun _ => fun
  | [d1, d2, d3] => { results := [.lit (.bool true)], args := [d1, d2, d3] }
  | _ => none }
def shopBoundsRow : OpenClaim := { program := "ytmkkkahidonnjaa", sum := "4cee939654ba9bf3aaf18ecf4bfc1dd2b26c6ceeea369e5ec4e75d484ccbabbc", func := "fipple/fipplelaw03.ShopBounds", spec := "shopBounds", unfollowed := true, recurses := true, plainKeys := false, apart := false }
def ShopBoundsSaid : Prop := shopBoundsRow.holds Try.pinned (OpenSpec.ofChange shopBoundsSpec)

/-- ITS FALSE NEIGHBOUR: 'it returns false'. Refute it at one input. -/
def shopBoundsWrong : ChangeSpec := { name := "shopBounds", fn := fun _ => fun
  | [d1, d2, d3] => { results := [.lit (.bool false)], args := [d1, d2, d3] }
  | _ => none }
def ShopBoundsWrongFalsely : Prop := shopBoundsRow.holds Try.pinned (OpenSpec.ofChange shopBoundsWrong)

/-- 'fipplelaw03.ShopOrders': WHATEVER THE INPUT: true; the input reads as it did. -/
def shopOrdersSpec : ChangeSpec := { name := "shopOrders", fn := fun _ => fun
  | [d1, d2] => { results := [.lit (.bool true)], args := [d1, d2] }
  | _ => none }
def shopOrdersRow : OpenClaim := { program := "ytmkkkahidonnjaa", sum := "4cee939654ba9bf3aaf18ecf4bfc1dd2b26c6ceeea369e5ec4e75d484ccbabbc", func := "fipple/fipplelaw03.ShopOrders", spec := "shopOrders", unfollowed := true, recurses := true, plainKeys := false, apart := false }
def ShopOrdersSaid : Prop := shopOrdersRow.holds Try.pinned (OpenSpec.ofChange shopOrdersSpec)

/-- ITS FALSE NEIGHBOUR: 'it returns false'. Refute it at one input. -/
def shopOrdersWrong : ChangeSpec := { name := "shopOrders", fn := fun _ => fun
  | [d1, d2] => { results := [.lit (.bool false)], args := [d1, d2] }
  | _ => none }
def ShopOrdersWrongFalsely : Prop := shopOrdersRow.holds Try.pinned (OpenSpec.ofChange shopOrdersWrong)

/-- 'fipplelaw03.ShopCircles': WHATEVER THE INPUT: true; the input reads as it did. -/
def shopCirclesSpec : ChangeSpec := { name := "shopCircles", fn := fun _ => fun
  | [d1, d2, d3] => { results := [.lit (.bool true)], args := [d1, d2, d3] }
  | _ => none }
def shopCirclesRow : OpenClaim := { program := "ytmkkkahidonnjaa", sum := "4cee939654ba9bf3aaf18ecf4bfc1dd2b26c6ceeea369e5ec4e75d484ccbabbc", func := "fipple/fipplelaw03.ShopCircles", spec := "shopCircles", unfollowed := true, recurses := true, plainKeys := false, apart := false }
def ShopCirclesSaid : Prop := shopCirclesRow.holds Try.pinned (OpenSpec.ofChange shopCirclesSpec)

/-- ITS FALSE NEIGHBOUR: 'it returns false'. Refute it at one input. -/
def shopCirclesWrong : ChangeSpec := { name := "shopCircles", fn := fun _ => fun
  | [d1, d2, d3] => { results := [.lit (.bool false)], args := [d1, d2, d3] }
  | _ => none }
def ShopCirclesWrongFalsely : Prop := shopCirclesRow.holds Try.pinned (OpenSpec.ofChange shopCirclesWrong)

/- THE SECOND FORM. 'bulk': how many values and letters a reading holds, each counted each time it is reached (what is shared counts as often as it is met; a slice's spare places count too). A statement '..UptoSaid' is the law's where the arguments, and the package variables that the reading takes, are together of bulk at most 1048576: NARROWER than '..Said'. Prove '..Said' where nothing that the law and all that it calls make is longer than what came in: it says more and counts as full. Else prove '..UptoSaid'. A law counts once. -/
mutual
def uptoBulk {H : Type} : DataW H → Nat
  | .lit (.string bytes) => bytes.length + 1
  | .lit _ => 1
  | .nil => 1
  | .ptr d => uptoBulk d + 1
  | .slice elems spare => uptoBulkAll elems + uptoBulkAll spare + 1
  | .agg parts => uptoBulkAll parts + 1
  | .iface _ d => uptoBulk d + 1
  | .map entries => uptoBulkEntries entries + 1
  | .held _ => 1
def uptoBulkAll {H : Type} : List (DataW H) → Nat
  | [] => 0
  | d :: r => uptoBulk d + uptoBulkAll r
def uptoBulkEntries {H : Type} : List (Lit × DataW H) → Nat
  | [] => 0
  | x :: r => uptoBulkEntry x + uptoBulkEntries r
def uptoBulkEntry {H : Type} : Lit × DataW H → Nat
  | (.string bytes, d) => bytes.length + uptoBulk d + 1
  | (_, d) => uptoBulk d + 1
 end
def uptoSmall : (H : Type) → List (DataW H) → Bool := fun _ ds => decide (uptoBulkAll ds ≤ 1048576)
def OpenSpec.upto (s : _root_.Go.ChangeSpec) : _root_.Go.OpenSpec := { _root_.Go.OpenSpec.ofChange s with cond := some uptoSmall }

/-- 'fipplelaw03.ShopPlans', WHERE WHAT IT READS IS OF BULK AT MOST 1048576: true; the input reads as it did. -/
def shopPlansUptoRow : OpenClaim := { program := "ytmkkkahidonnjaa", sum := "4cee939654ba9bf3aaf18ecf4bfc1dd2b26c6ceeea369e5ec4e75d484ccbabbc", func := "fipple/fipplelaw03.ShopPlans", spec := "shopPlans", unfollowed := true, recurses := true, plainKeys := false, apart := false, narrowed := true }
def ShopPlansUptoSaid : Prop := shopPlansUptoRow.holds Try.pinned (OpenSpec.upto shopPlansSpec)

/-- 'fipplelaw03.ShopBounds', WHERE WHAT IT READS IS OF BULK AT MOST 1048576: true; the input reads as it did. -/
def shopBoundsUptoRow : OpenClaim := { program := "ytmkkkahidonnjaa", sum := "4cee939654ba9bf3aaf18ecf4bfc1dd2b26c6ceeea369e5ec4e75d484ccbabbc", func := "fipple/fipplelaw03.ShopBounds", spec := "shopBounds", unfollowed := true, recurses := true, plainKeys := false, apart := false, narrowed := true }
def ShopBoundsUptoSaid : Prop := shopBoundsUptoRow.holds Try.pinned (OpenSpec.upto shopBoundsSpec)

/-- 'fipplelaw03.ShopOrders', WHERE WHAT IT READS IS OF BULK AT MOST 1048576: true; the input reads as it did. -/
def shopOrdersUptoRow : OpenClaim := { program := "ytmkkkahidonnjaa", sum := "4cee939654ba9bf3aaf18ecf4bfc1dd2b26c6ceeea369e5ec4e75d484ccbabbc", func := "fipple/fipplelaw03.ShopOrders", spec := "shopOrders", unfollowed := true, recurses := true, plainKeys := false, apart := false, narrowed := true }
def ShopOrdersUptoSaid : Prop := shopOrdersUptoRow.holds Try.pinned (OpenSpec.upto shopOrdersSpec)

/-- 'fipplelaw03.ShopCircles', WHERE WHAT IT READS IS OF BULK AT MOST 1048576: true; the input reads as it did. -/
def shopCirclesUptoRow : OpenClaim := { program := "ytmkkkahidonnjaa", sum := "4cee939654ba9bf3aaf18ecf4bfc1dd2b26c6ceeea369e5ec4e75d484ccbabbc", func := "fipple/fipplelaw03.ShopCircles", spec := "shopCircles", unfollowed := true, recurses := true, plainKeys := false, apart := false, narrowed := true }
def ShopCirclesUptoSaid : Prop := shopCirclesUptoRow.holds Try.pinned (OpenSpec.upto shopCirclesSpec)

end Rows
end Go.Proofs.Ytmkkkahidonnjaa
