/-
  Part F of a proof: natives of the functions that are reached, and their contracts.
-/
import Derived.Test.YtmkkkahidonnjaaE
import Derived.Test.YtmkkkahidonnjaaProg
set_option maxRecDepth 100000
set_option linter.unusedVariables false
set_option linter.unusedSimpArgs false
namespace Go.Idl.N
open Go Go.Idl Go.Proofs.Try
theorem F23_ok  (fuel : Nat) (p0 : (List (Int × Int))) (fp0 : Bool) (r : ((List (Int × Int)) × Int)) (h : F23 fuel p0 = some r) : CallP prog 23 [.sl (List.map e70 p0) fp0] (.tup [.sl (List.map e60 r.1) false, .int .i64 r.2]) := by
 unfold F23 at h
 refine obind_elim h fun r1 h1 g1 => ?_
 refine oif_elim g1 (fun h2 g2 => ?_) (fun h2 g2 => ?_)
 ·have hr := Option.some.inj g2
  subst hr
  exact callP_of is23 rfl (path hm (ks := [2, 3]) (σ' := ⟨[(2, .p (.nilsl)), (3, .p (.int .i64 r1))], []⟩) (cc := [.reg [] [] 0 [] [0], .reg [] [] 0 [(1, none, .call (.int .i64 r1))] [0, 4], .reg [] [] 0 [(1, none, .b true)] [0, 4, 8], .reg [] [] 0 [] [2, 3]])
   (ai (F13_ok fuel p0 fp0 _ h1) (ai h2 trivial)) (by kernel_rfl)) (e := .ret) rfl (vs := [.p (.nilsl), .p (.int .i64 r1)]) trivial (by kernel_rfl) (.tup _ _ (.cons _ _ _ _ (.p _ _ (.nil _)) (.cons _ _ _ _ (.p _ _ (.refl _)) .nil)))
 ·refine obind_elim g2 fun r2 h3 g3 => ?_
  refine obind_elim g3 fun r3 h4 g4 => ?_
  have hr := Option.some.inj g4
  subst hr
  exact callP_of is23 rfl (path hm (ks := [2, 3]) (σ' := ⟨[(2, .p (.sl (List.map e60 r3.1) false)), (3, .p (.int .i64 r3.2))], []⟩) (cc := [.reg [] [] 0 [] [0], .reg [] [] 0 [(1, none, .call (.int .i64 r1))] [0, 4], .reg [] [] 0 [(1, none, .b false)] [0, 4, 8], .reg [] [] 0 [(2, none, .call (.agg [.sl (List.map e3 r2.1) false, .sl (List.map e3 r2.2.1) false, .sl (List.map e3 r2.2.2) false])), (3, none, .call (.tup [.sl (List.map e60 r3.1) false, .int .i64 r3.2]))] [2, 3]])
   (ai (F13_ok fuel p0 fp0 _ h1) (ai h2 (ai (F59_ok fuel p0 fp0 _ h3) (ai (F26_ok fuel p0 (r2.1, r2.2.1, r2.2.2) fp0 _ h4) trivial)))) (by kernel_rfl)) (e := .ret) rfl (vs := [.p (.sl (List.map e60 r3.1) false), .p (.int .i64 r3.2)]) trivial (by kernel_rfl) (.tup _ _ (.cons _ _ _ _ (.p _ _ (.refl _)) (.cons _ _ _ _ (.p _ _ (.refl _)) .nil)))
def F40  (fuel : Nat) (p0 : (List Int)) : Option (List Int) :=
 some p0
theorem F40_ok  (fuel : Nat) (p0 : (List Int)) (fp0 : Bool) (r : (List Int)) (h : F40 fuel p0 = some r) : CallP prog 40 [.sl (List.map e3 p0) fp0] (.sl (List.map e3 r) false) := by
 unfold F40 at h
 have hr := Option.some.inj h
 subst hr
 exact callP_of is40 rfl (path hm (ks := [2]) (σ' := ⟨[(2, .p (.sl (List.map e3 p0) fp0))], []⟩) (cc := [.reg [] [] 0 [] [0], .reg [] [] 0 [] [2]])
   trivial (by kernel_rfl)) (e := .ret) rfl (vs := [.p (.sl (List.map e3 p0) fp0)]) trivial (by kernel_rfl) (.p _ _ (.flag _ _ _ (fun h => nomatch h)))
def F38  (fuel : Nat)  : Option ((List Int) × (List Int) × (List Int)) :=
 obind (F40 fuel [0, 1, 2]) fun r1 => obind (F40 fuel [2, 0, 1]) fun r2 => obind (F40 fuel [0, 0, 1]) fun r3 => some (r1, r2, r3)
theorem F38_ok  (fuel : Nat)   (r : ((List Int) × (List Int) × (List Int))) (h : F38 fuel  = some r) : CallP prog 38 [] (.agg [.sl (List.map e3 r.1) false, .sl (List.map e3 r.2.1) false, .sl (List.map e3 r.2.2) false]) := by
 unfold F38 at h
 refine obind_elim h fun r1 h1 g1 => ?_
 refine obind_elim g1 fun r2 h2 g2 => ?_
 refine obind_elim g2 fun r3 h3 g3 => ?_
 have hr := Option.some.inj g3
 subst hr
 exact callP_of is38 rfl (path hm (ks := [0]) (σ' := ⟨[(0, .ptr 0 0 3)], [.cells [.p (.sl (List.map e3 r1) false), .p (.sl (List.map e3 r2) false), .p (.sl (List.map e3 r3) false)] 0]⟩) (cc := [.reg [] [] 1 [(0, some 0, .a)] [0], .reg [] [] 0 [(1, none, .call (.sl (List.map e3 r1) false)), (3, none, .call (.sl (List.map e3 r2) false)), (5, none, .call (.sl (List.map e3 r3) false))] [0]])
   (ai (F40_ok fuel [0, 1, 2] true _ h1) (ai (F40_ok fuel [2, 0, 1] true _ h2) (ai (F40_ok fuel [0, 0, 1] true _ h3) trivial))) (by kernel_rfl)) (e := .ret) rfl (vs := [.agg [.p (.sl (List.map e3 r1) false), .p (.sl (List.map e3 r2) false), .p (.sl (List.map e3 r3) false)]]) (ai (rfl : (3:Nat) = 3) (ai (by decide : (3:Nat) ≤ 3) trivial)) (by kernel_rfl) (.agg _ _ (.cons _ _ _ _ (.p _ _ (.refl _)) (.cons _ _ _ _ (.p _ _ (.refl _)) (.cons _ _ _ _ (.p _ _ (.refl _)) .nil))))
def F39  (fuel : Nat)  : Option ((List Int) × (List Int) × (List Int)) :=
 obind (F40 fuel [0, 1]) fun r1 => obind (F40 fuel [1, 0]) fun r2 => some (r1, r2, r2)
theorem F39_ok  (fuel : Nat)   (r : ((List Int) × (List Int) × (List Int))) (h : F39 fuel  = some r) : CallP prog 39 [] (.agg [.sl (List.map e3 r.1) false, .sl (List.map e3 r.2.1) false, .sl (List.map e3 r.2.2) false]) := by
 unfold F39 at h
 refine obind_elim h fun r1 h1 g1 => ?_
 refine obind_elim g1 fun r2 h2 g2 => ?_
 have hr := Option.some.inj g2
 subst hr
 exact callP_of is39 rfl (path hm (ks := [0]) (σ' := ⟨[(0, .ptr 0 0 3)], [.cells [.p (.sl (List.map e3 r1) false), .p (.sl (List.map e3 r2) false), .p (.sl (List.map e3 r2) false)] 0]⟩) (cc := [.reg [] [] 1 [(0, some 0, .a)] [0], .reg [] [] 0 [(1, none, .call (.sl (List.map e3 r1) false)), (3, none, .call (.sl (List.map e3 r2) false)), (5, none, .call (.sl (List.map e3 r2) false))] [0]])
   (ai (F40_ok fuel [0, 1] true _ h1) (ai (F40_ok fuel [1, 0] true _ h2) (ai (F40_ok fuel [1, 0] true _ h2) trivial))) (by kernel_rfl)) (e := .ret) rfl (vs := [.agg [.p (.sl (List.map e3 r1) false), .p (.sl (List.map e3 r2) false), .p (.sl (List.map e3 r2) false)]]) (ai (rfl : (3:Nat) = 3) (ai (by decide : (3:Nat) ≤ 3) trivial)) (by kernel_rfl) (.agg _ _ (.cons _ _ _ _ (.p _ _ (.refl _)) (.cons _ _ _ _ (.p _ _ (.refl _)) (.cons _ _ _ _ (.p _ _ (.refl _)) .nil))))
def F65  (fuel : Nat) (p0 : Int) (p1 : (List (Int × Int))) : Option Bool :=
 obind (F42 fuel 0 (IntKind.wrap .i64 ((IntKind.wrap .i64 (2 * (p1.length : Int))) - 1)) [p0]) fun r1 => oif (r1)
 (some false)
 (some true)
theorem F65_ok  (fuel : Nat) (p0 : Int) (p1 : (List (Int × Int)))  (r : Bool) (h : F65 fuel p0 p1 = some r) : CallP prog 65 [.int .i64 p0, .ref [.sl (List.map e70 p1) false]] (.bool r) := by
 unfold F65 at h
 refine obind_elim h fun r1 h1 g1 => ?_
 have q231 := fun {P : Prop} (t : P) => ai (len_map e70 p1) (ai (F42_ok fuel 0 (IntKind.wrap .i64 ((IntKind.wrap .i64 (2 * (p1.length : Int))) - 1)) [p0] true _ h1) t)
 refine oif_elim g1 (fun h2 g2 => ?_) (fun h2 g2 => ?_)
 ·subst h2
  have hr := Option.some.inj g2
  subst hr
  exact callP_of is65 rfl (path hm (ks := [3]) (σ' := ⟨[(3, .p (.bool false))], []⟩) (cc := [.reg [] [] 0 [] [0, 1], .reg [] [] 0 [(1, none, .n (p1.length : Int)), (6, none, .call (.bool true))] [3]])
   (q231 trivial) (by kernel_rfl)) (e := .ret) rfl (vs := [.p (.bool false)]) trivial (by kernel_rfl) (.p _ _ (.refl _))
 ·subst h2
  have hr := Option.some.inj g2
  subst hr
  exact callP_of is65 rfl (path hm (ks := [3]) (σ' := ⟨[(3, .p (.bool true))], []⟩) (cc := [.reg [] [] 0 [] [0, 1], .reg [] [] 0 [(1, none, .n (p1.length : Int)), (6, none, .call (.bool false))] [3]])
   (q231 trivial) (by kernel_rfl)) (e := .ret) rfl (vs := [.p (.bool true)]) trivial (by kernel_rfl) (.p _ _ (.refl _))
def L84_1_0  (v0 : (List Int)) (v1 : (List (Int × Int))) (v7 : Int) : Nat → Int → Option (Int ⊕ Unit)
 | 0, _ => none
 | fuel + 1, v8 =>
  oif ((decide (v8 < v7)))
  (obind (sg v0 v8) fun x1 => obind (F65 fuel x1 v1) fun r2 => oif (r2)
   (some (.inl v8))
   (L84_1_0 v0 v1 v7 fuel (IntKind.wrap .i64 (v8 + 1))))
  (some (.inr (())))
noncomputable def L84_1_0_post (v0 : (List Int)) (v1 : (List (Int × Int))) (v7 : Int) (fp0 : Bool) : (Int ⊕ Unit) → Ex × St
 | .inl y => (.ret, ⟨[(4, .p (.int .i64 y))], []⟩)
 | .inr (y) => ((.exit 0), ⟨[], []⟩)
theorem L84_1_0_ok  (v0 : (List Int)) (v1 : (List (Int × Int))) (v7 : Int) (fp0 : Bool) : ∀ (fuel : Nat) (v8 : Int) (r : (Int ⊕ Unit)), L84_1_0 v0 v1 v7 fuel v8 = some r →
  SemJ prog ⟨19, 0, false⟩ (codeAt [1, 0, 1, 0, 0] (bodyOf f84)) ⟨[(0, .p (.sl (List.map e3 v0) fp0)), (1, .p (.fn 65 [] [.ref [.sl (List.map e70 v1) false]])), (7, .p (.int .i64 v7)), (8, .p (.int .i64 v8))], []⟩ (L84_1_0_post v0 v1 v7 fp0 r).1 (L84_1_0_post v0 v1 v7 fp0 r).2
 | 0, _, _, h => nomatch h
 | fuel + 1, v8, r, h => by
  let z2 : Int := (IntKind.wrap .i64 (v8 + 1))
  let z1 : St := ⟨[(0, .p (.sl (List.map e3 v0) fp0)), (1, .p (.fn 65 [] [.ref [.sl (List.map e70 v1) false]])), (7, .p (.int .i64 v7)), (8, .p (.int .i64 z2))], []⟩
  unfold L84_1_0 at h
  refine oif_elim h (fun h1 g1 => ?_) (fun h1 g1 => ?_)
  ·refine obind_elim g1 fun x1 h2 g2 => ?_
   refine obind_elim g2 fun r2 h3 g3 => ?_
   let c232 : List CC := [.reg [] [] 0 [(0, none, .b true)] [0, 1, 7, 8, 9], .reg [] [] 0 [] [0, 1, 5, 7, 8]]
   refine oif_elim g3 (fun h4 g4 => ?_) (fun h4 g4 => ?_)
   ·subst h4
    have hr := Option.some.inj g4
    subst hr
    exact SemC.cast (SemJ.out (e := .ret) (path hm (σ' := ⟨[(4, .p (.int .i64 v8))], []⟩) (ks := [4]) (cc := c232 ++ [.reg [] [] 0 [(3, none, .iv (.p (.int .i64 x1))), (5, none, .call (.bool true))] [0, 1, 5, 7, 8, 16], .reg [] [] 0 [] [4]])
    (ai h1 (ai (sg_map (f := e3) h2) (ai (F65_ok fuel x1 v1 _ h3) trivial))) (by kernel_rfl)) (by simp)) (by kernel_rfl) (by kernel_rfl)
   ·subst h4
    exact SemJ.again (σ1 := z1) (path hm (σ' := z1) (ks := [0, 1, 7, 8]) (cc := c232 ++ [.reg [] [] 0 [(3, none, .iv (.p (.int .i64 x1))), (5, none, .call (.bool false))] [0, 1, 5, 7, 8, 16], .reg [] [] 0 [] [0, 1, 7, 8]])
    (ai h1 (ai (sg_map (f := e3) h2) (ai (F65_ok fuel x1 v1 _ h3) trivial))) (by kernel_rfl)) (L84_1_0_ok v0 v1 v7 fp0 fuel z2 _ g4)
  ·have hr := Option.some.inj g1
   subst hr
   exact SemC.cast (SemJ.out (e := (.exit 0)) (path hm (σ' := ⟨[], []⟩) (ks := []) (cc := [.reg [] [] 0 [(0, none, .b false)] [0, 1, 7, 8, 9]])
    (ai h1 trivial) (by kernel_rfl)) (by simp)) (by kernel_rfl) (by kernel_rfl)
def F84_1  (fuel : Nat) (p0 : (List Int)) (p1ay : (List (Int × Int))) : Option Int :=
 (obind (L84_1_0 p0 p1ay (p0.length : Int) fuel 0) fun y1 => match y1 with
 | .inl y1 => some y1
 | .inr (y1) => some (-1))
theorem F84_1_ok  (fuel : Nat) (p0 : (List Int)) (p1ay : (List (Int × Int))) (fp0 : Bool) (r : Int) (h : F84_1 fuel p0 p1ay = some r) : CallP prog 84 [.sl (List.map e3 p0) fp0, .fn 65 [] [.ref [.sl (List.map e70 p1ay) false]]] (.int .i64 r) := by
 unfold F84_1 at h
 let c233 : List CC := [.reg [] [] 0 [] [0, 1], .reg [] [] 0 [(1, none, .n (p0.length : Int))] [0, 1, 7, 8]]
 refine obind_elim h fun y h1 g1 => ?_
 match y, h1, g1 with
 | .inl y1, h1, g1 =>
  let z1 : St := ⟨[(4, .p (.int .i64 y1))], []⟩
  have hr := Option.some.inj g1
  subst hr
  exact callP_of is84 rfl (path hm (ks := [4]) (σ' := z1) (cc := c233 ++ [.leaf .ret z1])
   (ai (len_map e3 p0) (ai (SemJ.loop (L84_1_0_ok p0 p1ay (p0.length : Int) fp0 fuel 0 _ h1)) trivial)) (by kernel_rfl)) (e := .ret) rfl (vs := [.p (.int .i64 y1)]) trivial (by kernel_rfl) (.p _ _ (.refl _))
 | .inr (y1), h1, g1 =>
  have hr := Option.some.inj g1
  subst hr
  exact callP_of is84 rfl (path hm (ks := [4]) (σ' := ⟨[(4, .p (.int .i64 (-1)))], []⟩) (cc := c233 ++ [.leaf (.exit 0) ⟨[], []⟩, .reg [] [] 0 [] [4]])
   (ai (len_map e3 p0) (ai (SemJ.loop (L84_1_0_ok p0 p1ay (p0.length : Int) fp0 fuel 0 _ h1)) trivial)) (by kernel_rfl)) (e := .ret) rfl (vs := [.p (.int .i64 (-1))]) trivial (by kernel_rfl) (.p _ _ (.refl _))
def F66  (fuel : Nat) (p0 : (List Int)) (p1ay : (List (Int × Int))) : Option Bool :=
 obind (F84_1 fuel p0 p1ay) fun r1 => oif ((decide (r1 ≥ 0)))
 (some true)
 (some false)
theorem F66_ok  (fuel : Nat) (p0 : (List Int)) (p1ay : (List (Int × Int))) (fp0 : Bool) (r : Bool) (h : F66 fuel p0 p1ay = some r) : CallP prog 66 [.sl (List.map e3 p0) fp0, .fn 65 [] [.ref [.sl (List.map e70 p1ay) false]]] (.bool r) := by
 unfold F66 at h
 refine obind_elim h fun r1 h1 g1 => ?_
 refine oif_elim g1 (fun h2 g2 => ?_) (fun h2 g2 => ?_)
 ·have hr := Option.some.inj g2
  subst hr
  exact callP_of is66 rfl (path hm (ks := [4]) (σ' := ⟨[(4, .p (.bool true))], []⟩) (cc := [.reg [] [] 0 [] [0, 1], .reg [] [] 0 [(2, none, .call (.int .i64 r1)), (3, none, .b true)] [4]])
   (ai (F84_1_ok fuel p0 p1ay fp0 _ h1) (ai h2 trivial)) (by kernel_rfl)) (e := .ret) rfl (vs := [.p (.bool true)]) trivial (by kernel_rfl) (.p _ _ (.refl _))
 ·have hr := Option.some.inj g2
  subst hr
  exact callP_of is66 rfl (path hm (ks := [4]) (σ' := ⟨[(4, .p (.bool false))], []⟩) (cc := [.reg [] [] 0 [] [0, 1], .reg [] [] 0 [(2, none, .call (.int .i64 r1)), (3, none, .b false)] [4]])
   (ai (F84_1_ok fuel p0 p1ay fp0 _ h1) (ai h2 trivial)) (by kernel_rfl)) (e := .ret) rfl (vs := [.p (.bool false)]) trivial (by kernel_rfl) (.p _ _ (.refl _))
def L33_0  (v10 : Int) (v43 : (List Int)) (v44 : Int) : Nat → Option Unit
 | 0 => none
 | fuel + 1 =>
  oif ((decide (0 < v44)))
  (obind (sg v43 0) fun x1 => none)
  (some (()))
noncomputable def L33_0_post (v10 : Int) (v43 : (List Int)) (v44 : Int) (fp0 : Bool) (fp2 : Bool) : Unit → Ex × St
 | y => ((.exit 1), ⟨[], []⟩)
theorem L33_0_ok  (v10 : Int) (v43 : (List Int)) (v44 : Int) (fp0 : Bool) (fp2 : Bool) : ∀ (fuel : Nat)  (r : Unit), L33_0 v10 v43 v44 fuel  = some r →
  SemJ prog ⟨58, 0, false⟩ (codeAt [1, 1, 1, 1, 1, 0, 1, 0, 0] (bodyOf f33)) ⟨[(7, .p (.nilp)), (10, .p (.int .i64 v10)), (43, .p (.sl (List.map e3 v43) fp2)), (44, .p (.int .i64 v44)), (45, .p (.int .i64 0))], []⟩ (L33_0_post v10 v43 v44 fp0 fp2 r).1 (L33_0_post v10 v43 v44 fp0 fp2 r).2
 | 0, _, h => nomatch h
 | fuel + 1, r, h => by
  unfold L33_0 at h
  refine oif_elim h (fun h1 g1 => ?_) (fun h1 g1 => ?_)
  ·refine obind_elim g1 fun x1 h2 g2 => ?_
   exact nomatch g2
  ·have hr := Option.some.inj g1
   subst hr
   exact SemC.cast (SemJ.out (e := (.exit 1)) (path hm (σ' := ⟨[], []⟩) (ks := []) (cc := [.reg [] [] 0 [(0, none, .b false)] [7, 10, 43, 44, 45, 46]])
    (ai h1 trivial) (by kernel_rfl)) (by simp)) (by kernel_rfl) (by kernel_rfl)
def G86_4  (fuel : Nat) (p2 : Int) (p3 : (List Int)) (p3_1 : (List Int)) (p3_2 : (List Int)) (p3_3 : (List (Int × Int))) (w0 : (List Int)) : Option ((List Int) ⊕ Unit) :=
 obind (F81 fuel w0 (IntKind.wrap .i64 (Int.tdiv p2 2))) fun r1 => oif ((decide (r1 > 0)))
 (obind (sg w0 (IntKind.wrap .i64 (r1 - 1))) fun x2 => oif (decide (1 * 8 ≤ 140737488355328)) (obind (sg p3_2 (IntKind.wrap .i64 (Int.tdiv p2 2))) fun x3 => oif ((x3 != (Int.tmod p2 2)))
  (oif (decide (((List.length [(IntKind.wrap .i64 ((IntKind.wrap .i64 (2 * x2)) + (Int.tmod p2 2)))]) + 1) * 8 ≤ 140737488355328)) (some (.inl ([(IntKind.wrap .i64 ((IntKind.wrap .i64 (2 * x2)) + (Int.tmod p2 2)))] ++ [(ibits .xor .i64 p2 1)]))) none)
  (some (.inl [(IntKind.wrap .i64 ((IntKind.wrap .i64 (2 * x2)) + (Int.tmod p2 2)))]))) none)
 (obind (sg p3_2 (IntKind.wrap .i64 (Int.tdiv p2 2))) fun x2 => oif ((x2 != (Int.tmod p2 2)))
  (oif (decide (1 * 8 ≤ 140737488355328)) (some (.inl [(ibits .xor .i64 p2 1)])) none)
  (some (.inr (()))))
noncomputable def G86_4_post (p2 : Int) (p3 : (List Int)) (p3_1 : (List Int)) (p3_2 : (List Int)) (p3_3 : (List (Int × Int))) (w0 : (List Int))  : ((List Int) ⊕ Unit) → IV × List MObj
 | .inl y => (.tup [], [.cells [.p (.sl (List.map e3 w0) false)] 0, .cells (rowI e3 y) 1, .cells [.msl 1 0 (List.length y) (List.length (rowI e3 y)) false] 0, .loop 0 R85_1_0_1_0 [(2, .ptr 2 0 1)] none])
 | .inr (y) => (.tup [], [.cells [.p (.sl (List.map e3 w0) false)] 0, .hole, .cells [.p (.nilsl)] 0, .loop 0 R85_1_0_1_0 [(2, .ptr 2 0 1)] none])
theorem G86_4_ok  (fuel : Nat) (p2 : Int) (p3 : (List Int)) (p3_1 : (List Int)) (p3_2 : (List Int)) (p3_3 : (List (Int × Int))) (w0 : (List Int))  (r : ((List Int) ⊕ Unit)) (h : G86_4 fuel p2 p3 p3_1 p3_2 p3_3 w0 = some r) : CallI prog 86 [.yld 3, .ptr 0 0 1, .p (.ref [.int .i64 p2]), .p (.ref [.ref [.sl (List.map e3 p3) false, .sl (List.map e3 p3_1) false, .sl (List.map e3 p3_2) false, .map (mapK e89 p3_3) (mapV e2 p3_3)]])] [.cells [.p (.sl (List.map e3 w0) false)] 0, .hole, .cells [.p (.nilsl)] 0, .loop 0 R85_1_0_1_0 [(2, .ptr 2 0 1)] none] (G86_4_post p2 p3 p3_1 p3_2 p3_3 w0 r).1 (G86_4_post p2 p3 p3_1 p3_2 p3_3 w0 r).2 := by
 let z9 : MObj := .loop 1 R85_1_0_1_0 [(2, .ptr 2 0 1)] none
 let z8 : MObj := .loop 0 R85_1_0_1_0 [(2, .ptr 2 0 1)] none
 let z7 : MObj := .cells [.p (.sl (List.map e3 w0) false)] 0
 let z6 : MObj := .cells (rowI e3 [(ibits .xor .i64 p2 1)]) 1
 let z5 : Env := [(2, .ptr 2 0 1), (5, .p (.int .i64 (ibits .xor .i64 p2 1)))]
 let z4 : MObj := .cells [.msl 4 0 (List.length [(ibits .xor .i64 p2 1)]) (List.length (rowI e3 [(ibits .xor .i64 p2 1)])) false] 0
 let z3 : MObj := .cells [.msl 1 0 (List.length [(ibits .xor .i64 p2 1)]) (List.length (rowI e3 [(ibits .xor .i64 p2 1)])) false] 0
 let z2 : List MObj := [z7, .hole, .cells [.p (.nilsl)] 0, z8]
 let z1 : List MObj := [z7, z6, z3, z8]
 unfold G86_4 at h
 refine obind_elim h fun r1 h1 g1 => ?_
 let c242 : List CC := [.reg [] [] 0 [(3, none, .call (.int .i64 r1))] [0, 1, 2, 3, 5]]
 have q243 := fun {P : Prop} (t : P) => ai (F81_ok fuel w0 (IntKind.wrap .i64 (Int.tdiv p2 2)) false _ h1) t
 refine oif_elim g1 (fun h2 g2 => ?_) (fun h2 g2 => ?_)
 ·refine obind_elim g2 fun x2 h3 g3 => ?_
  let z15 : Int := (IntKind.wrap .i64 ((IntKind.wrap .i64 (2 * x2)) + (Int.tmod p2 2)))
  let z14 : MObj := .cells (rowI e3 [z15]) 1
  let z13 : MObj := .cells (rowI e3 ([z15] ++ [(ibits .xor .i64 p2 1)])) 1
  let z12 : MObj := .cells [.msl 4 0 (List.length [z15]) (List.length (rowI e3 [z15])) false] 0
  let z11 : MObj := .cells [.msl 1 0 (List.length [z15]) (List.length (rowI e3 [z15])) false] 0
  let z10 : MObj := .cells [.msl 1 0 (List.length ([z15] ++ [(ibits .xor .i64 p2 1)])) (List.length (rowI e3 ([z15] ++ [(ibits .xor .i64 p2 1)]))) false] 0
  refine oif_elim g3 (fun h4 g4 => ?_) (fun _ h => nomatch h)
  refine obind_elim g4 fun x3 h5 g5 => ?_
  let c244 : List CC := c242 ++ [.reg [0, 1, 3, 7, 7, 7, 39, 119, 247, 503, 7, 1031, 4087, 8191, 16383, 32767] [(1, 13), (2, 13)] 0 [(1, none, .b true), (7, none, .iv (.p (.int .i64 x2))), (13, none, .ci (.p (.bool true)) [(1, z14), (2, z11)])] [0, 2, 3, 25]]
  have q245 := fun {P : Prop} (t : P) => ai h2 (ai (sg_map (f := e3) h3) t)
  have q246 := fun {P : Prop} (t : P) => ai (roundI_of (P := prog) (l := 3) (args := [.p (.int .i64 z15)]) (H := z2) (R := R85_1_0_1_0) (env := [(2, .ptr 2 0 1)]) (env1 := [(2, .ptr 2 0 1)]) (env2 := [(2, .ptr 2 0 1)]) (m := 4) (e := .normal) (by kernel_rfl) (by kernel_rfl) (by kernel_rfl) (by kernel_rfl) (path hm (σ' := ⟨[(2, .ptr 2 0 1), (5, .p (.int .i64 z15))], z2⟩) (ks := [2, 5]) (cc := [.reg [] [] 0 [] [2, 5]]) trivial (by kernel_rfl)) (by kernel_rfl) (SemC.post (path hm (σ' := ⟨[], [z7, .hole, z12, z9, z14]⟩) (ks := []) (cc := [.reg [] [] 1 [(3, some 4, .ap (rowI e3 [z15]) (List.length [z15]) (List.length (rowI e3 [z15])))] []]) (ai (by decide : 0 < 1) (ai (od h4) (ai (app_c0 (by decide) (od h4)) (ai (rl (List.length [z15])) (ai (rl (List.length (rowI e3 [z15]))) (ai (row_src e3 [z15]) (ai (row_sc el3 [z15]) (ai (row_es el3 [z15]) trivial)))))))) (by kernel_rfl)) (Weak.sel [0, 4, 2, 3] (selH_cons (o := z7) (o' := z7) (by kernel_rfl) (sel_x (by kernel_rfl)) (selH_cons (o := z14) (o' := z14) (by kernel_rfl) sel_row (selH_cons (o := z12) (o' := z11) (by kernel_rfl) (sel_x (by kernel_rfl)) (selH_cons (o := z9) (o' := z9) (by kernel_rfl) (sel_loop (by kernel_rfl)) trivial)))) (by kernel_rfl) (by kernel_rfl))) (by kernel_rfl) (by kernel_rfl : _ = (.p (.bool true), [z7, z14, z11, z8]))) t
  have q247 := fun {P : Prop} (t : P) => ai (sg_map (f := e3) h5) t
  refine oif_elim g5 (fun h6 g6 => ?_) (fun h6 g6 => ?_)
  ·refine oif_elim g6 (fun h7 g7 => ?_) (fun _ h => nomatch h)
   have hr := Option.some.inj g7
   subst hr
   exact CallI.cast (callI_of is86 (by kernel_rfl) (m := 4) (by kernel_rfl) (e := .normal) (vs := []) (path hm (ks := []) (σ' := ⟨[], [z7, z13, z10, z8]⟩) (cc := c244 ++ [.reg [0, 1, 3, 7, 15, 0, 32, 127, 255, 0, 512, 2047] [] 0 [(7, none, .iv (.p (.int .i64 x3))), (11, none, .b true)] [0, 2, 37], .reg [] [] 0 [(3, none, .ci (.p (.bool true)) [(1, z13), (2, z10)])] []])
   (ai (by decide : (2 : Int) ≠ 0) (q243 (q245 (ai (by decide : (2 : Int) ≠ 0) (q246 (ai (by decide : (2 : Int) ≠ 0) (q247 (ai (by decide : (2 : Int) ≠ 0) (ai h6 (ai (roundI_of (P := prog) (l := 3) (args := [.p (.int .i64 (ibits .xor .i64 p2 1))]) (H := [z7, z14, z11, z8]) (R := R85_1_0_1_0) (env := [(2, .ptr 2 0 1)]) (env1 := [(2, .ptr 2 0 1)]) (env2 := [(2, .ptr 2 0 1)]) (m := 4) (e := .normal) (by kernel_rfl) (by kernel_rfl) (by kernel_rfl) (by kernel_rfl) (path hm (σ' := ⟨z5, [z7, z14, z11, z8]⟩) (ks := [2, 5]) (cc := [.reg [] [] 0 [] [2, 5]]) trivial (by kernel_rfl)) (by kernel_rfl) (path hm (σ' := ⟨[], [z7, z13, z10, z9]⟩) (ks := []) (cc := [.reg [] [] 0 [(3, none, .ap (rowI e3 ([z15] ++ [(ibits .xor .i64 p2 1)])) (List.length ([z15] ++ [(ibits .xor .i64 p2 1)])) (List.length (rowI e3 ([z15] ++ [(ibits .xor .i64 p2 1)]))))] []]) (ai (by decide : 0 < 1) (ai (od h7) (ai (app_c2 (by decide) (od h7)) (ai (app_len e3 [(ibits .xor .i64 p2 1)] (rl (List.length [z15]))) (ai (rl (List.length (rowI e3 ([z15] ++ [(ibits .xor .i64 p2 1)])))) (ai (row_app e3 [z15] [(ibits .xor .i64 p2 1)]) (ai (rl (List.length (rowI e3 [z15]))) (ai (row_sz el3 (rl (List.length (rowI e3 [z15]))) (rl (List.length [z15]))) (ai (row_sc el3 [(ibits .xor .i64 p2 1)]) (ai (row_es el3 [(ibits .xor .i64 p2 1)]) trivial)))))))))) (by kernel_rfl)) (by kernel_rfl) (by kernel_rfl : _ = (.p (.bool true), [z7, z13, z10, z8]))) trivial)))))))))) (by kernel_rfl)) rfl (show _ from trivial) (by kernel_rfl)) (by kernel_rfl)
  ·have hr := Option.some.inj g6
   subst hr
   exact CallI.cast (callI_of is86 (by kernel_rfl) (m := 4) (by kernel_rfl) (e := .normal) (vs := []) (path hm (ks := []) (σ' := ⟨[], [z7, z14, z11, z8]⟩) (cc := c244 ++ [.reg [0, 1, 3, 7, 15, 0, 32, 127, 255, 0, 512, 2047] [] 0 [(7, none, .iv (.p (.int .i64 x3))), (11, none, .b false)] [0, 2, 37]])
   (ai (by decide : (2 : Int) ≠ 0) (q243 (q245 (ai (by decide : (2 : Int) ≠ 0) (q246 (ai (by decide : (2 : Int) ≠ 0) (q247 (ai (by decide : (2 : Int) ≠ 0) (ai h6 trivial))))))))) (by kernel_rfl)) rfl (show _ from trivial) (by kernel_rfl)) (by kernel_rfl)
 ·refine obind_elim g2 fun x2 h3 g3 => ?_
  let c248 : List CC := c242 ++ [.reg [0, 1, 3, 7, 7, 7, 39, 119, 247, 503, 7, 1031, 4087, 8191, 16383, 32767] [] 0 [(1, none, .b false)] [0, 2, 3, 25]]
  refine oif_elim g3 (fun h4 g4 => ?_) (fun h4 g4 => ?_)
  ·refine oif_elim g4 (fun h5 g5 => ?_) (fun _ h => nomatch h)
   have hr := Option.some.inj g5
   subst hr
   exact CallI.cast (callI_of is86 (by kernel_rfl) (m := 4) (by kernel_rfl) (e := .normal) (vs := []) (path hm (ks := []) (σ' := ⟨[], z1⟩) (cc := c248 ++ [.reg [0, 1, 3, 7, 15, 0, 32, 127, 255, 0, 512, 2047] [] 0 [(7, none, .iv (.p (.int .i64 x2))), (11, none, .b true)] [0, 2, 37], .reg [] [] 0 [(3, none, .ci (.p (.bool true)) [(1, z6), (2, z3)])] []])
   (ai (by decide : (2 : Int) ≠ 0) (q243 (ai h2 (ai (by decide : (2 : Int) ≠ 0) (ai (sg_map (f := e3) h3) (ai (by decide : (2 : Int) ≠ 0) (ai h4 (ai (roundI_of (P := prog) (l := 3) (args := [.p (.int .i64 (ibits .xor .i64 p2 1))]) (H := z2) (R := R85_1_0_1_0) (env := [(2, .ptr 2 0 1)]) (env1 := [(2, .ptr 2 0 1)]) (env2 := [(2, .ptr 2 0 1)]) (m := 4) (e := .normal) (by kernel_rfl) (by kernel_rfl) (by kernel_rfl) (by kernel_rfl) (path hm (σ' := ⟨z5, z2⟩) (ks := [2, 5]) (cc := [.reg [] [] 0 [] [2, 5]]) trivial (by kernel_rfl)) (by kernel_rfl) (SemC.post (path hm (σ' := ⟨[], [z7, .hole, z4, z9, z6]⟩) (ks := []) (cc := [.reg [] [] 1 [(3, some 4, .ap (rowI e3 [(ibits .xor .i64 p2 1)]) (List.length [(ibits .xor .i64 p2 1)]) (List.length (rowI e3 [(ibits .xor .i64 p2 1)])))] []]) (ai (by decide : 0 < 1) (ai (od h5) (ai (app_c0 (by decide) (od h5)) (ai (rl (List.length [(ibits .xor .i64 p2 1)])) (ai (rl (List.length (rowI e3 [(ibits .xor .i64 p2 1)]))) (ai (row_src e3 [(ibits .xor .i64 p2 1)]) (ai (row_sc el3 [(ibits .xor .i64 p2 1)]) (ai (row_es el3 [(ibits .xor .i64 p2 1)]) trivial)))))))) (by kernel_rfl)) (Weak.sel [0, 4, 2, 3] (selH_cons (o := z7) (o' := z7) (by kernel_rfl) (sel_x (by kernel_rfl)) (selH_cons (o := z6) (o' := z6) (by kernel_rfl) sel_row (selH_cons (o := z4) (o' := z3) (by kernel_rfl) (sel_x (by kernel_rfl)) (selH_cons (o := z9) (o' := z9) (by kernel_rfl) (sel_loop (by kernel_rfl)) trivial)))) (by kernel_rfl) (by kernel_rfl))) (by kernel_rfl) (by kernel_rfl : _ = (.p (.bool true), z1))) trivial)))))))) (by kernel_rfl)) rfl (show _ from trivial) (by kernel_rfl)) (by kernel_rfl)
  ·have hr := Option.some.inj g4
   subst hr
   exact CallI.cast (callI_of is86 (by kernel_rfl) (m := 4) (by kernel_rfl) (e := .normal) (vs := []) (path hm (ks := []) (σ' := ⟨[], z2⟩) (cc := c248 ++ [.reg [0, 1, 3, 7, 15, 0, 32, 127, 255, 0, 512, 2047] [] 0 [(7, none, .iv (.p (.int .i64 x2))), (11, none, .b false)] [0, 2, 37]])
   (ai (by decide : (2 : Int) ≠ 0) (q243 (ai h2 (ai (by decide : (2 : Int) ≠ 0) (ai (sg_map (f := e3) h3) (ai (by decide : (2 : Int) ≠ 0) (ai h4 trivial))))))) (by kernel_rfl)) rfl (show _ from trivial) (by kernel_rfl)) (by kernel_rfl)
def G85_1  (fuel : Nat) (p1 : Int) (p1_1 : (List Int)) (p1_2 : (List Int)) (p1_3 : (List Int)) (p1_4 : (List (Int × Int))) (w0 : (List Int)) : Option ((List Int) ⊕ Unit) :=
 (obind (G86_4 fuel p1 p1_1 p1_2 p1_3 p1_4 w0) fun y1 => match y1 with
 | .inl y1 => some (.inl y1)
 | .inr (y1) => some (.inr (())))
noncomputable def G85_1_post (p1 : Int) (p1_1 : (List Int)) (p1_2 : (List Int)) (p1_3 : (List Int)) (p1_4 : (List (Int × Int))) (w0 : (List Int))  : ((List Int) ⊕ Unit) → IV × List MObj
 | .inl y => (.msl 1 0 (List.length y) (List.length (rowI e3 y)) false, [.cells [.p (.sl (List.map e3 w0) false)] 0, .cells (rowI e3 y) 1])
 | .inr (y) => (.p (.nilsl), [.cells [.p (.sl (List.map e3 w0) false)] 0, .hole])
theorem G85_1_ok  (fuel : Nat) (p1 : Int) (p1_1 : (List Int)) (p1_2 : (List Int)) (p1_3 : (List Int)) (p1_4 : (List (Int × Int))) (w0 : (List Int))  (r : ((List Int) ⊕ Unit)) (h : G85_1 fuel p1 p1_1 p1_2 p1_3 p1_4 w0 = some r) : CallI prog 85 [.p (.nilsl), .fn 86 [] [.ptr 0 0 1, .p (.ref [.int .i64 p1]), .p (.ref [.ref [.sl (List.map e3 p1_1) false, .sl (List.map e3 p1_2) false, .sl (List.map e3 p1_3) false, .map (mapK e89 p1_4) (mapV e2 p1_4)]])]] [.cells [.p (.sl (List.map e3 w0) false)] 0, .hole] (G85_1_post p1 p1_1 p1_2 p1_3 p1_4 w0 r).1 (G85_1_post p1 p1_1 p1_2 p1_3 p1_4 w0 r).2 := by
 let z4 : MObj := .cells [.p (.sl (List.map e3 w0) false)] 0
 let z3 : List MObj := [z4, .hole, .cells [.p (.nilsl)] 0, .dead]
 let z2 : Env := [(2, .ptr 2 0 1), (4, .p (.nilsl)), (6, .fn 86 [] [.ptr 0 0 1, .p (.ref [.int .i64 p1]), .p (.ref [.ref [.sl (List.map e3 p1_1) false, .sl (List.map e3 p1_2) false, .sl (List.map e3 p1_3) false, .map (mapK e89 p1_4) (mapV e2 p1_4)]])])]
 let z1 : St := ⟨z2, [z4, .hole, .cells [.p (.nilsl)] 0]⟩
 unfold G85_1 at h
 refine obind_elim h fun y h1 g1 => ?_
 match y, h1, g1 with
 | .inl y1, h1, g1 =>
  let z5 : MObj := .cells [.msl 1 0 (List.length y1) (List.length (rowI e3 y1)) false] 0
  have hr := Option.some.inj g1
  subst hr
  exact CallI.cast (callI_of is85 (by kernel_rfl) (m := 2) (by kernel_rfl) (e := .ret) (vs := [.msl 1 0 (List.length y1) (List.length (rowI e3 y1)) false]) (SemC.post (path hm (ks := [4]) (σ' := ⟨[(4, .msl 1 0 (List.length y1) (List.length (rowI e3 y1)) false)], [z4, .cells (rowI e3 y1) 1, z5, .dead]⟩) (cc := [.reg [] [] 1 [(0, some 2, .a)] [1, 2, 4], .reg [] [] 0 [] [2, 4, 6], .leaf .normal ⟨z2, [z4, .cells (rowI e3 y1) 1, z5, .dead]⟩, .reg [] [] 0 [] [4]])
   (ai (range_of (P := prog) (nt := 13) (m := 2) (n := 3) (c := codeAt [1, 0, 1, 0] (bodyOf f85)) (σ := z1) (f := 86) (args := [.yld 3, .ptr 0 0 1, .p (.ref [.int .i64 p1]), .p (.ref [.ref [.sl (List.map e3 p1_1) false, .sl (List.map e3 p1_2) false, .sl (List.map e3 p1_3) false, .map (mapK e89 p1_4) (mapV e2 p1_4)]])]) (H3 := [z4, .cells (rowI e3 y1) 1, z5, .dead]) (e := .normal) (s := 0) (R := R85_1_0_1_0) (R' := R85_1_0_1_0) (env' := [(2, .ptr 2 0 1)]) [2] (by kernel_rfl) (by kernel_rfl) (by kernel_rfl) (by kernel_rfl) (G86_4_ok fuel p1 p1_1 p1_2 p1_3 p1_4 w0 _ h1) (by kernel_rfl) rfl (by kernel_rfl)) trivial) (by kernel_rfl)) (Weak.sel [0, 1] (selH_cons (o := z4) (o' := z4) (by kernel_rfl) (sel_x (by kernel_rfl)) (selH_cons (o := .cells (rowI e3 y1) 1) (o' := .cells (rowI e3 y1) 1) (by kernel_rfl) sel_row trivial)) (by kernel_rfl) (by kernel_rfl))) rfl (show _ from trivial) (by kernel_rfl)) (by kernel_rfl)
 | .inr (y1), h1, g1 =>
  have hr := Option.some.inj g1
  subst hr
  exact CallI.cast (callI_of is85 (by kernel_rfl) (m := 2) (by kernel_rfl) (e := .ret) (vs := [.p (.nilsl)]) (SemC.post (path hm (ks := [4]) (σ' := ⟨[(4, .p (.nilsl))], z3⟩) (cc := [.reg [] [] 1 [(0, some 2, .a)] [1, 2, 4], .reg [] [] 0 [] [2, 4, 6], .leaf .normal ⟨z2, z3⟩, .reg [] [] 0 [] [4]])
   (ai (range_of (P := prog) (nt := 13) (m := 2) (n := 3) (c := codeAt [1, 0, 1, 0] (bodyOf f85)) (σ := z1) (f := 86) (args := [.yld 3, .ptr 0 0 1, .p (.ref [.int .i64 p1]), .p (.ref [.ref [.sl (List.map e3 p1_1) false, .sl (List.map e3 p1_2) false, .sl (List.map e3 p1_3) false, .map (mapK e89 p1_4) (mapV e2 p1_4)]])]) (H3 := z3) (e := .normal) (s := 0) (R := R85_1_0_1_0) (R' := R85_1_0_1_0) (env' := [(2, .ptr 2 0 1)]) [2] (by kernel_rfl) (by kernel_rfl) (by kernel_rfl) (by kernel_rfl) (G86_4_ok fuel p1 p1_1 p1_2 p1_3 p1_4 w0 _ h1) (by kernel_rfl) rfl (by kernel_rfl)) trivial) (by kernel_rfl)) (Weak.sel [0, 1] (selH_cons (o := z4) (o' := z4) (by kernel_rfl) (sel_x (by kernel_rfl)) (selH_cons (o := .hole) (o' := .hole) (by kernel_rfl) (by exact rfl) trivial)) (by kernel_rfl) (by kernel_rfl))) rfl (show _ from trivial) (by kernel_rfl)) (by kernel_rfl)
def G68_909  (fuel : Nat) (p0 : (List Int)) (p0_1 : (List Int)) (p0_2 : (List Int)) (p0_3 : (List (Int × Int))) (p1 : Int) : Option (List Int) :=
 oif (((Int.tmod p1 2) == 1))
 (some p0_1)
 (some p0)
noncomputable def G68_909_post (p0 : (List Int)) (p0_1 : (List Int)) (p0_2 : (List Int)) (p0_3 : (List (Int × Int))) (p1 : Int)  : (List Int) → IV × List MObj
 | y => (.fn 86 [] [.ptr 0 0 1, .p (.ref [.int .i64 p1]), .p (.ref [.ref [.sl (List.map e3 p0) false, .sl (List.map e3 p0_1) false, .sl (List.map e3 p0_2) false, .map (mapK e89 p0_3) (mapV e2 p0_3)]])], [.cells [.p (.sl (List.map e3 y) false)] 0, .hole])
theorem G68_909_ok  (fuel : Nat) (p0 : (List Int)) (p0_1 : (List Int)) (p0_2 : (List Int)) (p0_3 : (List (Int × Int))) (p1 : Int)  (r : (List Int)) (h : G68_909 fuel p0 p0_1 p0_2 p0_3 p1 = some r) : CallI prog 68 [.p (.ref [.sl (List.map e3 p0) false, .sl (List.map e3 p0_1) false, .sl (List.map e3 p0_2) false, .map (mapK e89 p0_3) (mapV e2 p0_3)]), .p (.int .i64 p1)] [.hole, .hole] (G68_909_post p0 p0_1 p0_2 p0_3 p1 r).1 (G68_909_post p0 p0_1 p0_2 p0_3 p1 r).2 := by
 let z3 : MObj := .cells [.p (.sl (List.map e3 p0) false)] 0
 let z2 : MObj := .cells [.p (.sl (List.map e3 p0_1) false)] 0
 let z1 : Env := [(4, .fn 86 [] [.ptr 2 0 1, .p (.ref [.int .i64 p1]), .p (.ref [.ref [.sl (List.map e3 p0) false, .sl (List.map e3 p0_1) false, .sl (List.map e3 p0_2) false, .map (mapK e89 p0_3) (mapV e2 p0_3)]])])]
 unfold G68_909 at h
 let c249 : List CC := [.reg [] [] 0 [(0, none, .imm), (1, none, .imm)] [2, 3], .reg [] [] 1 [(5, some 2, .a)] [2, 3, 5]]
 refine oif_elim h (fun h1 g1 => ?_) (fun h1 g1 => ?_)
 ·have hr := Option.some.inj g1
  subst hr
  exact CallI.cast (callI_of is68 (by kernel_rfl) (m := 2) (by kernel_rfl) (e := .ret) (vs := [.fn 86 [] [.ptr 0 0 1, .p (.ref [.int .i64 p1]), .p (.ref [.ref [.sl (List.map e3 p0) false, .sl (List.map e3 p0_1) false, .sl (List.map e3 p0_2) false, .map (mapK e89 p0_3) (mapV e2 p0_3)]])]]) (SemC.post (path hm (ks := [4]) (σ' := ⟨z1, [.hole, .hole, z2]⟩) (cc := c249 ++ [.reg [] [] 0 [(2, none, .b true)] [2, 3, 5, 13], .reg [] [] 0 [] [2, 3, 5], .reg [] [] 0 [] [4]])
   (ai (by decide : (2 : Int) ≠ 0) (ai h1 trivial)) (by kernel_rfl)) (Weak.sel [2, 1] (selH_cons (o := z2) (o' := z2) (by kernel_rfl) (sel_x (by kernel_rfl)) (selH_cons (o := .hole) (o' := .hole) (by kernel_rfl) (by exact rfl) trivial)) (by kernel_rfl) (by kernel_rfl))) rfl (show _ from trivial) (by kernel_rfl)) (by kernel_rfl)
 ·have hr := Option.some.inj g1
  subst hr
  exact CallI.cast (callI_of is68 (by kernel_rfl) (m := 2) (by kernel_rfl) (e := .ret) (vs := [.fn 86 [] [.ptr 0 0 1, .p (.ref [.int .i64 p1]), .p (.ref [.ref [.sl (List.map e3 p0) false, .sl (List.map e3 p0_1) false, .sl (List.map e3 p0_2) false, .map (mapK e89 p0_3) (mapV e2 p0_3)]])]]) (SemC.post (path hm (ks := [4]) (σ' := ⟨z1, [.hole, .hole, z3]⟩) (cc := c249 ++ [.reg [] [] 0 [(2, none, .b false)] [2, 3, 5, 13], .reg [] [] 0 [] [4]])
   (ai (by decide : (2 : Int) ≠ 0) (ai h1 trivial)) (by kernel_rfl)) (Weak.sel [2, 1] (selH_cons (o := z3) (o' := z3) (by kernel_rfl) (sel_x (by kernel_rfl)) (selH_cons (o := .hole) (o' := .hole) (by kernel_rfl) (by exact rfl) trivial)) (by kernel_rfl) (by kernel_rfl))) rfl (show _ from trivial) (by kernel_rfl)) (by kernel_rfl)
def G67_1  (fuel : Nat) (p0 : Int) (p0_1 : (List Int)) (p0_2 : (List Int)) (p0_3 : (List Int)) (p0_4 : (List (Int × Int))) (w0 : (List Int)) : Option ((List Int) ⊕ Unit) :=
 (obind (G85_1 fuel p0 p0_1 p0_2 p0_3 p0_4 w0) fun y1 => match y1 with
 | .inl y1 => some (.inl y1)
 | .inr (y1) => some (.inr (())))
noncomputable def G67_1_post (p0 : Int) (p0_1 : (List Int)) (p0_2 : (List Int)) (p0_3 : (List Int)) (p0_4 : (List (Int × Int))) (w0 : (List Int))  : ((List Int) ⊕ Unit) → IV × List MObj
 | .inl y => (.msl 1 0 (List.length y) (List.length (rowI e3 y)) false, [.cells [.p (.sl (List.map e3 w0) false)] 0, .cells (rowI e3 y) 1])
 | .inr (y) => (.p (.nilsl), [.cells [.p (.sl (List.map e3 w0) false)] 0, .hole])
theorem G67_1_ok  (fuel : Nat) (p0 : Int) (p0_1 : (List Int)) (p0_2 : (List Int)) (p0_3 : (List Int)) (p0_4 : (List (Int × Int))) (w0 : (List Int))  (r : ((List Int) ⊕ Unit)) (h : G67_1 fuel p0 p0_1 p0_2 p0_3 p0_4 w0 = some r) : CallI prog 67 [.fn 86 [] [.ptr 0 0 1, .p (.ref [.int .i64 p0]), .p (.ref [.ref [.sl (List.map e3 p0_1) false, .sl (List.map e3 p0_2) false, .sl (List.map e3 p0_3) false, .map (mapK e89 p0_4) (mapV e2 p0_4)]])]] [.cells [.p (.sl (List.map e3 w0) false)] 0, .hole] (G67_1_post p0 p0_1 p0_2 p0_3 p0_4 w0 r).1 (G67_1_post p0 p0_1 p0_2 p0_3 p0_4 w0 r).2 := by
 let z1 : MObj := .cells [.p (.sl (List.map e3 w0) false)] 0
 unfold G67_1 at h
 refine obind_elim h fun y h1 g1 => ?_
 match y, h1, g1 with
 | .inl y1, h1, g1 =>
  have hr := Option.some.inj g1
  subst hr
  exact CallI.cast (callI_of is67 (by kernel_rfl) (m := 2) (by kernel_rfl) (e := .ret) (vs := [.msl 1 0 (List.length y1) (List.length (rowI e3 y1)) false]) (path hm (ks := [2]) (σ' := ⟨[(2, .msl 1 0 (List.length y1) (List.length (rowI e3 y1)) false)], [z1, .cells (rowI e3 y1) 1]⟩) (cc := [.reg [] [] 0 [] [0], .reg [] [] 0 [(1, none, .ci (.msl 1 0 (List.length y1) (List.length (rowI e3 y1)) false) [(1, .cells (rowI e3 y1) 1)])] [2]])
   (ai (G85_1_ok fuel p0 p0_1 p0_2 p0_3 p0_4 w0 _ h1) trivial) (by kernel_rfl)) rfl (show _ from trivial) (by kernel_rfl)) (by kernel_rfl)
 | .inr (y1), h1, g1 =>
  have hr := Option.some.inj g1
  subst hr
  exact CallI.cast (callI_of is67 (by kernel_rfl) (m := 2) (by kernel_rfl) (e := .ret) (vs := [.p (.nilsl)]) (path hm (ks := [2]) (σ' := ⟨[(2, .p (.nilsl))], [z1, .hole]⟩) (cc := [.reg [] [] 0 [] [0], .reg [] [] 0 [(1, none, .ci (.p (.nilsl)) [])] [2]])
   (ai (G85_1_ok fuel p0 p0_1 p0_2 p0_3 p0_4 w0 _ h1) trivial) (by kernel_rfl)) rfl (show _ from trivial) (by kernel_rfl)) (by kernel_rfl)
def L33_1  (v7 : (List Int)) (v7_1 : (List Int)) (v7_2 : (List Int)) (v7_3 : (List (Int × Int))) (v43 : (List Int)) (v44 : Int) : Nat → Int → Int → Option (Unit ⊕ Unit)
 | 0, _, _ => none
 | fuel + 1, v10, v45 =>
  oif ((decide (v45 < v44)))
  (obind (sg v43 v45) fun x1 => obind (G68_909 fuel v7 v7_1 v7_2 v7_3 x1) fun y2 => (obind (G67_1 fuel x1 v7 v7_1 v7_2 v7_3 y2) fun y3 => match y3 with
   | .inl y3 => obind (F62 fuel y3 v10) fun r4 => oif (r4)
    (L33_1 v7 v7_1 v7_2 v7_3 v43 v44 fuel x1 (IntKind.wrap .i64 (v45 + 1)))
    (some (.inl ()))
   | .inr (y3) => obind (F62 fuel [] v10) fun r4 => oif (r4)
    (L33_1 v7 v7_1 v7_2 v7_3 v43 v44 fuel x1 (IntKind.wrap .i64 (v45 + 1)))
    (some (.inl ()))))
  (some (.inr (())))
noncomputable def L33_1_post (v7 : (List Int)) (v7_1 : (List Int)) (v7_2 : (List Int)) (v7_3 : (List (Int × Int))) (v43 : (List Int)) (v44 : Int) (fp0 : Bool) (fp2 : Bool) : (Unit ⊕ Unit) → Ex × St
 | .inl y => (.ret, ⟨[(6, .p (.int .i64 14))], []⟩)
 | .inr (y) => ((.exit 1), ⟨[], []⟩)
theorem L33_1_ok  (v7 : (List Int)) (v7_1 : (List Int)) (v7_2 : (List Int)) (v7_3 : (List (Int × Int))) (v43 : (List Int)) (v44 : Int) (fp0 : Bool) (fp2 : Bool) : ∀ (fuel : Nat) (v10 : Int) (v45 : Int) (r : (Unit ⊕ Unit)), L33_1 v7 v7_1 v7_2 v7_3 v43 v44 fuel v10 v45 = some r →
  SemJ prog ⟨58, 0, false⟩ (codeAt [1, 1, 1, 1, 1, 0, 1, 0, 0] (bodyOf f33)) ⟨[(7, .p (.ref [.sl (List.map e3 v7) false, .sl (List.map e3 v7_1) false, .sl (List.map e3 v7_2) false, .map (mapK e89 v7_3) (mapV e2 v7_3)])), (10, .p (.int .i64 v10)), (43, .p (.sl (List.map e3 v43) fp2)), (44, .p (.int .i64 v44)), (45, .p (.int .i64 v45))], []⟩ (L33_1_post v7 v7_1 v7_2 v7_3 v43 v44 fp0 fp2 r).1 (L33_1_post v7 v7_1 v7_2 v7_3 v43 v44 fp0 fp2 r).2
 | 0, _, _, _, h => nomatch h
 | fuel + 1, v10, v45, r, h => by
  let z1 : Int := (IntKind.wrap .i64 (v45 + 1))
  unfold L33_1 at h
  refine oif_elim h (fun h1 g1 => ?_) (fun h1 g1 => ?_)
  ·refine obind_elim g1 fun x1 h2 g2 => ?_
   refine obind_elim g2 fun y2 h3 g3 => ?_
   let z3 : MObj := .cells [.p (.sl (List.map e3 y2) false)] 0
   let z2 : List MObj := [z3, .hole]
   let c250 : List CC := [.reg [] [] 0 [(0, none, .b true)] [7, 10, 43, 44, 45, 46], .reg [] [] 0 [(0, none, .iv (.p (.int .i64 x1)))] [7, 10, 12, 43, 44, 45]]
   have q251 := fun {P : Prop} (t : P) => ai h1 (ai (sg_map (f := e3) h2) (ai (G68_909_ok fuel v7 v7_1 v7_2 v7_3 x1 _ h3) t))
   refine obind_elim g3 fun y h4 g4 => ?_
   match y, h4, g4 with
   | .inl y3, h4, g4 =>
    refine obind_elim g4 fun r4 h5 g5 => ?_
    have q252 := fun {P : Prop} (t : P) => ai (G67_1_ok fuel x1 v7 v7_1 v7_2 v7_3 y2 _ h4) (ai (snap_row (hp := one 1 (.cells (rowI e3 y3) 1)) (l := 1) (x := false) (g := 1) (L := y3) el3 (by kernel_rfl) (rl (List.length (rowI e3 y3))) (rl (List.length y3))) (ai (.refl _ : PVle (.int .i64 v10) (.int .i64 v10)) (ai (F62_ok fuel y3 v10 false _ h5) t)))
    refine oif_elim g5 (fun h6 g6 => ?_) (fun h6 g6 => ?_)
    ·subst h6
     exact SemJ.again (σ1 := ⟨[(7, .p (.ref [.sl (List.map e3 v7) false, .sl (List.map e3 v7_1) false, .sl (List.map e3 v7_2) false, .map (mapK e89 v7_3) (mapV e2 v7_3)])), (10, .p (.int .i64 x1)), (43, .p (.sl (List.map e3 v43) fp2)), (44, .p (.int .i64 v44)), (45, .p (.int .i64 z1))], []⟩) (SemC.post (path hm (σ' := ⟨[(7, .p (.ref [.sl (List.map e3 v7) false, .sl (List.map e3 v7_1) false, .sl (List.map e3 v7_2) false, .map (mapK e89 v7_3) (mapV e2 v7_3)])), (10, .p (.int .i64 x1)), (43, .p (.sl (List.map e3 v43) fp2)), (44, .p (.int .i64 v44)), (45, .p (.int .i64 z1))], [z3, .cells (rowI e3 y3) 1]⟩) (ks := [7, 10, 43, 44, 45]) (cc := c250 ++ [.reg [] [] 2 [(2, none, .ci (.fn 86 [] [.ptr 0 0 1, .p (.ref [.int .i64 x1]), .p (.ref [.ref [.sl (List.map e3 v7) false, .sl (List.map e3 v7_1) false, .sl (List.map e3 v7_2) false, .map (mapK e89 v7_3) (mapV e2 v7_3)]])]) [(0, z3)]), (3, none, .ci (.msl 1 0 (List.length y3) (List.length (rowI e3 y3)) false) [(1, .cells (rowI e3 y3) 1)]), (5, none, .bor [] [.sl (List.map e3 y3) false, .int .i64 v10] (.bool true))] [7, 12, 43, 44, 45, 55], .reg [] [] 0 [] [7, 10, 43, 44, 45], .reg [] [] 0 [] [7, 10, 43, 44, 45]])
    (q251 (q252 trivial)) (by kernel_rfl)) (Weak.sel [] trivial (by kernel_rfl) (by kernel_rfl))) (L33_1_ok v7 v7_1 v7_2 v7_3 v43 v44 fp0 fp2 fuel x1 z1 _ g6)
    ·subst h6
     have hr := Option.some.inj g6
     subst hr
     exact SemC.cast (SemJ.out (e := .ret) (SemC.post (path hm (σ' := ⟨[(6, .p (.int .i64 14))], [z3, .cells (rowI e3 y3) 1]⟩) (ks := [6]) (cc := c250 ++ [.reg [] [] 2 [(2, none, .ci (.fn 86 [] [.ptr 0 0 1, .p (.ref [.int .i64 x1]), .p (.ref [.ref [.sl (List.map e3 v7) false, .sl (List.map e3 v7_1) false, .sl (List.map e3 v7_2) false, .map (mapK e89 v7_3) (mapV e2 v7_3)]])]) [(0, z3)]), (3, none, .ci (.msl 1 0 (List.length y3) (List.length (rowI e3 y3)) false) [(1, .cells (rowI e3 y3) 1)]), (5, none, .bor [] [.sl (List.map e3 y3) false, .int .i64 v10] (.bool false))] [7, 12, 43, 44, 45, 55], .reg [] [] 0 [] [6]])
    (q251 (q252 trivial)) (by kernel_rfl)) (Weak.sel [] trivial (by kernel_rfl) (by kernel_rfl))) (by simp)) (by kernel_rfl) (by kernel_rfl)
   | .inr (y3), h4, g4 =>
    refine obind_elim g4 fun r4 h5 g5 => ?_
    have q253 := fun {P : Prop} (t : P) => ai (G67_1_ok fuel x1 v7 v7_1 v7_2 v7_3 y2 _ h4) t
    have q254 := fun {P : Prop} (t : P) => ai (F62_ok fuel [] v10 false _ h5) t
    refine oif_elim g5 (fun h6 g6 => ?_) (fun h6 g6 => ?_)
    ·subst h6
     exact SemJ.again (σ1 := ⟨[(7, .p (.ref [.sl (List.map e3 v7) false, .sl (List.map e3 v7_1) false, .sl (List.map e3 v7_2) false, .map (mapK e89 v7_3) (mapV e2 v7_3)])), (10, .p (.int .i64 x1)), (43, .p (.sl (List.map e3 v43) fp2)), (44, .p (.int .i64 v44)), (45, .p (.int .i64 z1))], []⟩) (SemC.post (path hm (σ' := ⟨[(7, .p (.ref [.sl (List.map e3 v7) false, .sl (List.map e3 v7_1) false, .sl (List.map e3 v7_2) false, .map (mapK e89 v7_3) (mapV e2 v7_3)])), (10, .p (.int .i64 x1)), (43, .p (.sl (List.map e3 v43) fp2)), (44, .p (.int .i64 v44)), (45, .p (.int .i64 z1))], z2⟩) (ks := [7, 10, 43, 44, 45]) (cc := c250 ++ [.reg [] [] 2 [(2, none, .ci (.fn 86 [] [.ptr 0 0 1, .p (.ref [.int .i64 x1]), .p (.ref [.ref [.sl (List.map e3 v7) false, .sl (List.map e3 v7_1) false, .sl (List.map e3 v7_2) false, .map (mapK e89 v7_3) (mapV e2 v7_3)]])]) [(0, z3)]), (3, none, .ci (.p (.nilsl)) []), (5, none, .cw [.sl (List.map e3 ([] : List Int)) false, .int .i64 v10] (.bool true))] [7, 12, 43, 44, 45, 55], .reg [] [] 0 [] [7, 10, 43, 44, 45], .reg [] [] 0 [] [7, 10, 43, 44, 45]])
    (q251 (q253 (ai (show PVleL [.nilsl, .int .i64 v10] [.sl (List.map e3 ([] : List Int)) false, .int .i64 v10] from (.cons _ _ _ _ (.nil _) (.cons _ _ _ _ (.refl _) .nil))) (q254 trivial)))) (by kernel_rfl)) (Weak.sel [] trivial (by kernel_rfl) (by kernel_rfl))) (L33_1_ok v7 v7_1 v7_2 v7_3 v43 v44 fp0 fp2 fuel x1 z1 _ g6)
    ·subst h6
     have hr := Option.some.inj g6
     subst hr
     exact SemC.cast (SemJ.out (e := .ret) (SemC.post (path hm (σ' := ⟨[(6, .p (.int .i64 14))], z2⟩) (ks := [6]) (cc := c250 ++ [.reg [] [] 2 [(2, none, .ci (.fn 86 [] [.ptr 0 0 1, .p (.ref [.int .i64 x1]), .p (.ref [.ref [.sl (List.map e3 v7) false, .sl (List.map e3 v7_1) false, .sl (List.map e3 v7_2) false, .map (mapK e89 v7_3) (mapV e2 v7_3)]])]) [(0, z3)]), (3, none, .ci (.p (.nilsl)) []), (5, none, .cw [.sl (List.map e3 ([] : List Int)) false, .int .i64 v10] (.bool false))] [7, 12, 43, 44, 45, 55], .reg [] [] 0 [] [6]])
    (q251 (q253 (ai (show PVleL [.nilsl, .int .i64 v10] [.sl (List.map e3 ([] : List Int)) false, .int .i64 v10] from (.cons _ _ _ _ (.nil _) (.cons _ _ _ _ (.refl _) .nil))) (q254 trivial)))) (by kernel_rfl)) (Weak.sel [] trivial (by kernel_rfl) (by kernel_rfl))) (by simp)) (by kernel_rfl) (by kernel_rfl)
  ·have hr := Option.some.inj g1
   subst hr
   exact SemC.cast (SemJ.out (e := (.exit 1)) (path hm (σ' := ⟨[], []⟩) (ks := []) (cc := [.reg [] [] 0 [(0, none, .b false)] [7, 10, 43, 44, 45, 46]])
    (ai h1 trivial) (by kernel_rfl)) (by simp)) (by kernel_rfl) (by kernel_rfl)
def F33  (fuel : Nat) (p0 : (List (Int × Int))) (p1 : ((List Int) × (List Int) × (List Int))) (p2 : (List Int)) : Option Int :=
 (obind (F60 fuel p0 (p1.1, p1.2.1, p1.2.2)) fun y1 => match y1 with
 | .inl y1 => oif ((y1 != 0))
  (some y1)
  (obind (F42 fuel 2 (IntKind.wrap .i64 (2 * (p0.length : Int))) [(p2.length : Int)]) fun r2 => oif (r2)
   (obind (F66 fuel p2 p0) fun r3 => oif (r3)
    (some 2)
    (obind (sg p2 (IntKind.wrap .i64 ((p2.length : Int) - 1))) fun x4 => obind (L33_0 x4 p2 (p2.length : Int) fuel ) fun y5 => some 0))
   (some 6))
 | .inr (y1) => obind (F42 fuel 2 (IntKind.wrap .i64 (2 * (p0.length : Int))) [(p2.length : Int)]) fun r2 => oif (r2)
  (obind (F66 fuel p2 p0) fun r3 => oif (r3)
   (some 2)
   (obind (sg p2 (IntKind.wrap .i64 ((p2.length : Int) - 1))) fun x4 => (obind (L33_1 (((p1.1, p1.2.1, p1.2.2).1, (p1.1, p1.2.1, p1.2.2).2.1, (p1.1, p1.2.1, p1.2.2).2.2).1) (((p1.1, p1.2.1, p1.2.2).1, (p1.1, p1.2.1, p1.2.2).2.1, (p1.1, p1.2.1, p1.2.2).2.2).2.1) (((p1.1, p1.2.1, p1.2.2).1, (p1.1, p1.2.1, p1.2.2).2.1, (p1.1, p1.2.1, p1.2.2).2.2).2.2) y1 p2 (p2.length : Int) fuel x4 0) fun y5 => match y5 with
    | .inl y5 => some 14
    | .inr (y5) => some 0)))
  (some 6))
theorem F33_ok  (fuel : Nat) (p0 : (List (Int × Int))) (p1 : ((List Int) × (List Int) × (List Int))) (p2 : (List Int)) (fp0 : Bool) (fp2 : Bool) (r : Int) (h : F33 fuel p0 p1 p2 = some r) : CallP prog 33 [.sl (List.map e70 p0) fp0, .agg [.sl (List.map e3 p1.1) false, .sl (List.map e3 p1.2.1) false, .sl (List.map e3 p1.2.2) false], .sl (List.map e3 p2) fp2] (.int .i64 r) := by
 let z5 : St := ⟨[(6, .p (.int .i64 6))], []⟩
 let z4 : St := ⟨[(6, .p (.int .i64 0))], []⟩
 let z3 : St := ⟨[(6, .p (.int .i64 2))], []⟩
 let z2 : St := ⟨[(6, .p (.int .i64 14))], []⟩
 let z1 : Int := (IntKind.wrap .i64 (2 * (p0.length : Int)))
 unfold F33 at h
 let c255 : List CC := [.reg [] [] 0 [(0, none, .imm), (1, none, .imm)] [2, 3, 4]]
 refine obind_elim h fun y h1 g1 => ?_
 match y, h1, g1 with
 | .inl y1, h1, g1 =>
  let c256 : List CC := c255 ++ [.reg [] [] 0 [(2, none, .call (.tup [.nilp, .int .i64 y1]))] [2, 3, 7, 8], .reg [] [] 0 [] [2, 3, 7, 8, 9]]
  have q257 := fun {P : Prop} (t : P) => ai (F60_ok fuel p0 (p1.1, p1.2.1, p1.2.2) fp0 _ h1) t
  refine oif_elim g1 (fun h2 g2 => ?_) (fun h2 g2 => ?_)
  ·have hr := Option.some.inj g2
   subst hr
   exact callP_of is33 rfl (path hm (ks := [6]) (σ' := ⟨[(6, .p (.int .i64 y1))], []⟩) (cc := c256 ++ [.reg [] [] 0 [(1, none, .b true)] [2, 3, 7, 8, 9, 20], .reg [] [] 0 [] [6]])
   (q257 (ai h2 trivial)) (by kernel_rfl)) (e := .ret) rfl (vs := [.p (.int .i64 y1)]) trivial (by kernel_rfl) (.p _ _ (.refl _))
  ·refine obind_elim g2 fun r2 h3 g3 => ?_
   let c258 : List CC := c256 ++ [.reg [] [] 0 [(1, none, .b false)] [2, 3, 7, 8, 9, 20]]
   have q259 := fun {P : Prop} (t : P) => ai h2 (ai (len_map e70 p0) (ai (len_map e3 p2) (ai (F42_ok fuel 2 z1 [(p2.length : Int)] true _ h3) t)))
   refine oif_elim g3 (fun h4 g4 => ?_) (fun h4 g4 => ?_)
   ·subst h4
    refine obind_elim g4 fun r3 h5 g5 => ?_
    let c260 : List CC := c258 ++ [.reg [] [] 0 [(1, none, .n (p0.length : Int)), (4, none, .n (p2.length : Int)), (6, none, .call (.bool true))] [2, 7, 9, 24]]
    have q261 := fun {P : Prop} (t : P) => ai (F66_ok fuel p2 p0 fp2 _ h5) t
    refine oif_elim g5 (fun h6 g6 => ?_) (fun h6 g6 => ?_)
    ·subst h6
     have hr := Option.some.inj g6
     subst hr
     exact callP_of is33 rfl (path hm (ks := [6]) (σ' := z3) (cc := c260 ++ [.reg [] [] 0 [(2, none, .cw [.sl (List.map e3 p2) fp2, .fn 65 [] [.ref [.sl (List.map e70 p0) false]]] (.bool true))] [2, 7, 33], .reg [] [] 0 [] [6]])
   (q257 (q259 (ai (show PVleL [.sl (List.map e3 p2) fp2, .fn 65 [] [.ref [.sl (List.map e70 p0) fp0]]] [.sl (List.map e3 p2) fp2, .fn 65 [] [.ref [.sl (List.map e70 p0) false]]] from (.cons _ _ _ _ (.refl _) (.cons _ _ _ _ (.fn _ _ _ _ _ .nil (.cons _ _ _ _ (.ref _ _ (.cons _ _ _ _ (.flag _ _ _ (fun h => nomatch h)) .nil)) .nil)) .nil))) (q261 trivial)))) (by kernel_rfl)) (e := .ret) rfl (vs := [.p (.int .i64 2)]) trivial (by kernel_rfl) (.p _ _ (.refl _))
    ·subst h6
     refine obind_elim g6 fun x4 h7 g7 => ?_
     refine obind_elim g7 fun y5 h8 g8 => ?_
     have hr := Option.some.inj g8
     subst hr
     exact callP_of is33 rfl (path hm (ks := [6]) (σ' := z4) (cc := c260 ++ [.reg [] [] 0 [(2, none, .cw [.sl (List.map e3 p2) fp2, .fn 65 [] [.ref [.sl (List.map e70 p0) false]]] (.bool false))] [2, 7, 33], .reg [] [] 0 [(2, none, .n (p2.length : Int)), (4, none, .iv (.p (.int .i64 x4)))] [2, 7, 10], .reg [] [] 0 [(1, none, .n (p2.length : Int))] [7, 10, 43, 44, 45], .leaf (.exit 1) ⟨[], []⟩, .reg [] [] 0 [] [6]])
   (q257 (q259 (ai (show PVleL [.sl (List.map e3 p2) fp2, .fn 65 [] [.ref [.sl (List.map e70 p0) fp0]]] [.sl (List.map e3 p2) fp2, .fn 65 [] [.ref [.sl (List.map e70 p0) false]]] from (.cons _ _ _ _ (.refl _) (.cons _ _ _ _ (.fn _ _ _ _ _ .nil (.cons _ _ _ _ (.ref _ _ (.cons _ _ _ _ (.flag _ _ _ (fun h => nomatch h)) .nil)) .nil)) .nil))) (q261 (ai (len_map e3 p2) (ai (sg_map (f := e3) h7) (ai (len_map e3 p2) (ai (SemJ.loop (L33_0_ok x4 p2 (p2.length : Int) fp0 fp2 fuel  _ h8)) trivial)))))))) (by kernel_rfl)) (e := .ret) rfl (vs := [.p (.int .i64 0)]) trivial (by kernel_rfl) (.p _ _ (.refl _))
   ·subst h4
    have hr := Option.some.inj g4
    subst hr
    exact callP_of is33 rfl (path hm (ks := [6]) (σ' := z5) (cc := c258 ++ [.reg [] [] 0 [(1, none, .n (p0.length : Int)), (4, none, .n (p2.length : Int)), (6, none, .call (.bool false))] [2, 7, 9, 24], .reg [] [] 0 [] [6]])
   (q257 (q259 trivial)) (by kernel_rfl)) (e := .ret) rfl (vs := [.p (.int .i64 6)]) trivial (by kernel_rfl) (.p _ _ (.refl _))
 | .inr (y1), h1, g1 =>
  refine obind_elim g1 fun r2 h2 g2 => ?_
  let c262 : List CC := c255 ++ [.reg [] [] 0 [(2, none, .call (.tup [.ref [.sl (List.map e3 (((p1.1, p1.2.1, p1.2.2).1, (p1.1, p1.2.1, p1.2.2).2.1, (p1.1, p1.2.1, p1.2.2).2.2).1)) false, .sl (List.map e3 (((p1.1, p1.2.1, p1.2.2).1, (p1.1, p1.2.1, p1.2.2).2.1, (p1.1, p1.2.1, p1.2.2).2.2).2.1)) false, .sl (List.map e3 (((p1.1, p1.2.1, p1.2.2).1, (p1.1, p1.2.1, p1.2.2).2.1, (p1.1, p1.2.1, p1.2.2).2.2).2.2)) false, .map (mapK e89 y1) (mapV e2 y1)], .int .i64 0]))] [2, 3, 7, 8], .reg [] [] 0 [] [2, 3, 7, 8, 9], .reg [] [] 0 [] [2, 3, 7, 8, 9, 20]]
  have q263 := fun {P : Prop} (t : P) => ai (F60_ok fuel p0 (p1.1, p1.2.1, p1.2.2) fp0 _ h1) (ai (len_map e70 p0) (ai (len_map e3 p2) (ai (F42_ok fuel 2 z1 [(p2.length : Int)] true _ h2) t)))
  refine oif_elim g2 (fun h3 g3 => ?_) (fun h3 g3 => ?_)
  ·subst h3
   refine obind_elim g3 fun r3 h4 g4 => ?_
   let c264 : List CC := c262 ++ [.reg [] [] 0 [(1, none, .n (p0.length : Int)), (4, none, .n (p2.length : Int)), (6, none, .call (.bool true))] [2, 7, 9, 24]]
   have q265 := fun {P : Prop} (t : P) => ai (F66_ok fuel p2 p0 fp2 _ h4) t
   refine oif_elim g4 (fun h5 g5 => ?_) (fun h5 g5 => ?_)
   ·subst h5
    have hr := Option.some.inj g5
    subst hr
    exact callP_of is33 rfl (path hm (ks := [6]) (σ' := z3) (cc := c264 ++ [.reg [] [] 0 [(2, none, .cw [.sl (List.map e3 p2) fp2, .fn 65 [] [.ref [.sl (List.map e70 p0) false]]] (.bool true))] [2, 7, 33], .reg [] [] 0 [] [6]])
   (q263 (ai (show PVleL [.sl (List.map e3 p2) fp2, .fn 65 [] [.ref [.sl (List.map e70 p0) fp0]]] [.sl (List.map e3 p2) fp2, .fn 65 [] [.ref [.sl (List.map e70 p0) false]]] from (.cons _ _ _ _ (.refl _) (.cons _ _ _ _ (.fn _ _ _ _ _ .nil (.cons _ _ _ _ (.ref _ _ (.cons _ _ _ _ (.flag _ _ _ (fun h => nomatch h)) .nil)) .nil)) .nil))) (q265 trivial))) (by kernel_rfl)) (e := .ret) rfl (vs := [.p (.int .i64 2)]) trivial (by kernel_rfl) (.p _ _ (.refl _))
   ·subst h5
    refine obind_elim g5 fun x4 h6 g6 => ?_
    let c266 : List CC := c264 ++ [.reg [] [] 0 [(2, none, .cw [.sl (List.map e3 p2) fp2, .fn 65 [] [.ref [.sl (List.map e70 p0) false]]] (.bool false))] [2, 7, 33], .reg [] [] 0 [(2, none, .n (p2.length : Int)), (4, none, .iv (.p (.int .i64 x4)))] [2, 7, 10], .reg [] [] 0 [(1, none, .n (p2.length : Int))] [7, 10, 43, 44, 45]]
    refine obind_elim g6 fun y h7 g7 => ?_
    match y, h7, g7 with
    | .inl y5, h7, g7 =>
     have hr := Option.some.inj g7
     subst hr
     exact callP_of is33 rfl (path hm (ks := [6]) (σ' := z2) (cc := c266 ++ [.leaf .ret z2])
   (q263 (ai (show PVleL [.sl (List.map e3 p2) fp2, .fn 65 [] [.ref [.sl (List.map e70 p0) fp0]]] [.sl (List.map e3 p2) fp2, .fn 65 [] [.ref [.sl (List.map e70 p0) false]]] from (.cons _ _ _ _ (.refl _) (.cons _ _ _ _ (.fn _ _ _ _ _ .nil (.cons _ _ _ _ (.ref _ _ (.cons _ _ _ _ (.flag _ _ _ (fun h => nomatch h)) .nil)) .nil)) .nil))) (q265 (ai (len_map e3 p2) (ai (sg_map (f := e3) h6) (ai (len_map e3 p2) (ai (SemJ.loop (L33_1_ok (((p1.1, p1.2.1, p1.2.2).1, (p1.1, p1.2.1, p1.2.2).2.1, (p1.1, p1.2.1, p1.2.2).2.2).1) (((p1.1, p1.2.1, p1.2.2).1, (p1.1, p1.2.1, p1.2.2).2.1, (p1.1, p1.2.1, p1.2.2).2.2).2.1) (((p1.1, p1.2.1, p1.2.2).1, (p1.1, p1.2.1, p1.2.2).2.1, (p1.1, p1.2.1, p1.2.2).2.2).2.2) y1 p2 (p2.length : Int) fp0 fp2 fuel x4 0 _ h7)) trivial))))))) (by kernel_rfl)) (e := .ret) rfl (vs := [.p (.int .i64 14)]) trivial (by kernel_rfl) (.p _ _ (.refl _))
    | .inr (y5), h7, g7 =>
     have hr := Option.some.inj g7
     subst hr
     exact callP_of is33 rfl (path hm (ks := [6]) (σ' := z4) (cc := c266 ++ [.leaf (.exit 1) ⟨[], []⟩, .reg [] [] 0 [] [6]])
   (q263 (ai (show PVleL [.sl (List.map e3 p2) fp2, .fn 65 [] [.ref [.sl (List.map e70 p0) fp0]]] [.sl (List.map e3 p2) fp2, .fn 65 [] [.ref [.sl (List.map e70 p0) false]]] from (.cons _ _ _ _ (.refl _) (.cons _ _ _ _ (.fn _ _ _ _ _ .nil (.cons _ _ _ _ (.ref _ _ (.cons _ _ _ _ (.flag _ _ _ (fun h => nomatch h)) .nil)) .nil)) .nil))) (q265 (ai (len_map e3 p2) (ai (sg_map (f := e3) h6) (ai (len_map e3 p2) (ai (SemJ.loop (L33_1_ok (((p1.1, p1.2.1, p1.2.2).1, (p1.1, p1.2.1, p1.2.2).2.1, (p1.1, p1.2.1, p1.2.2).2.2).1) (((p1.1, p1.2.1, p1.2.2).1, (p1.1, p1.2.1, p1.2.2).2.1, (p1.1, p1.2.1, p1.2.2).2.2).2.1) (((p1.1, p1.2.1, p1.2.2).1, (p1.1, p1.2.1, p1.2.2).2.1, (p1.1, p1.2.1, p1.2.2).2.2).2.2) y1 p2 (p2.length : Int) fp0 fp2 fuel x4 0 _ h7)) trivial))))))) (by kernel_rfl)) (e := .ret) rfl (vs := [.p (.int .i64 0)]) trivial (by kernel_rfl) (.p _ _ (.refl _))
  ·subst h3
   have hr := Option.some.inj g3
   subst hr
   exact callP_of is33 rfl (path hm (ks := [6]) (σ' := z5) (cc := c262 ++ [.reg [] [] 0 [(1, none, .n (p0.length : Int)), (4, none, .n (p2.length : Int)), (6, none, .call (.bool false))] [2, 7, 9, 24], .reg [] [] 0 [] [6]])
   (q263 trivial) (by kernel_rfl)) (e := .ret) rfl (vs := [.p (.int .i64 6)]) trivial (by kernel_rfl) (.p _ _ (.refl _))
def G68_924  (fuel : Nat) (p0 : (List Int)) (p0_1 : (List Int)) (p0_2 : (List Int)) (p0_3 : (List (Int × Int))) (p1 : Int) (w0 : Int) (w1 : Bool) (w2 : Int) : Option (Bool × (List Int)) :=
 oif (w1)
 (oif (((Int.tmod p1 2) == 1))
  (some (true, p0_1))
  (some (true, p0)))
 (oif (((Int.tmod p1 2) == 1))
  (some (false, p0_1))
  (some (false, p0)))
noncomputable def G68_924_post (p0 : (List Int)) (p0_1 : (List Int)) (p0_2 : (List Int)) (p0_3 : (List (Int × Int))) (p1 : Int) (w0 : Int) (w1 : Bool) (w2 : Int)  : (Bool × (List Int)) → IV × List MObj
 | y => (.fn 86 [] [.ptr 3 0 1, .p (.ref [.int .i64 p1]), .p (.ref [.ref [.sl (List.map e3 p0) false, .sl (List.map e3 p0_1) false, .sl (List.map e3 p0_2) false, .map (mapK e89 p0_3) (mapV e2 p0_3)]])], [.cells [.p (.int .i64 w0)] 0, .cells [.p (.bool y.1)] 0, .cells [.p (.int .i64 w2)] 0, .cells [.p (.sl (List.map e3 y.2) false)] 0])
theorem G68_924_ok  (fuel : Nat) (p0 : (List Int)) (p0_1 : (List Int)) (p0_2 : (List Int)) (p0_3 : (List (Int × Int))) (p1 : Int) (w0 : Int) (w1 : Bool) (w2 : Int)  (r : (Bool × (List Int))) (h : G68_924 fuel p0 p0_1 p0_2 p0_3 p1 w0 w1 w2 = some r) : CallI prog 68 [.p (.ref [.sl (List.map e3 p0) false, .sl (List.map e3 p0_1) false, .sl (List.map e3 p0_2) false, .map (mapK e89 p0_3) (mapV e2 p0_3)]), .p (.int .i64 p1)] [.cells [.p (.int .i64 w0)] 0, .cells [.p (.bool w1)] 0, .cells [.p (.int .i64 w2)] 0, .hole] (G68_924_post p0 p0_1 p0_2 p0_3 p1 w0 w1 w2 r).1 (G68_924_post p0 p0_1 p0_2 p0_3 p1 w0 w1 w2 r).2 := by
 let z7 : MObj := .cells [.p (.bool true)] 0
 let z6 : MObj := .cells [.p (.bool false)] 0
 let z5 : MObj := .cells [.p (.int .i64 w2)] 0
 let z4 : MObj := .cells [.p (.int .i64 w0)] 0
 let z3 : MObj := .cells [.p (.sl (List.map e3 p0) false)] 0
 let z2 : MObj := .cells [.p (.sl (List.map e3 p0_1) false)] 0
 let z1 : Env := [(4, .fn 86 [] [.ptr 4 0 1, .p (.ref [.int .i64 p1]), .p (.ref [.ref [.sl (List.map e3 p0) false, .sl (List.map e3 p0_1) false, .sl (List.map e3 p0_2) false, .map (mapK e89 p0_3) (mapV e2 p0_3)]])])]
 unfold G68_924 at h
 let c267 : List CC := [.reg [] [] 0 [(0, none, .imm), (1, none, .imm)] [2, 3], .reg [] [] 1 [(5, some 4, .a)] [2, 3, 5]]
 refine oif_elim h (fun h1 g1 => ?_) (fun h1 g1 => ?_)
 ·subst h1
  refine oif_elim g1 (fun h2 g2 => ?_) (fun h2 g2 => ?_)
  ·have hr := Option.some.inj g2
   subst hr
   exact CallI.cast (callI_of is68 (by kernel_rfl) (m := 4) (by kernel_rfl) (e := .ret) (vs := [.fn 86 [] [.ptr 3 0 1, .p (.ref [.int .i64 p1]), .p (.ref [.ref [.sl (List.map e3 p0) false, .sl (List.map e3 p0_1) false, .sl (List.map e3 p0_2) false, .map (mapK e89 p0_3) (mapV e2 p0_3)]])]]) (SemC.post (path hm (ks := [4]) (σ' := ⟨z1, [z4, z7, z5, .hole, z2]⟩) (cc := c267 ++ [.reg [] [] 0 [(2, none, .b true)] [2, 3, 5, 13], .reg [] [] 0 [] [2, 3, 5], .reg [] [] 0 [] [4]])
   (ai (by decide : (2 : Int) ≠ 0) (ai h2 trivial)) (by kernel_rfl)) (Weak.sel [0, 1, 2, 4] (selH_cons (o := z4) (o' := z4) (by kernel_rfl) (sel_x (by kernel_rfl)) (selH_cons (o := z7) (o' := z7) (by kernel_rfl) (sel_x (by kernel_rfl)) (selH_cons (o := z5) (o' := z5) (by kernel_rfl) (sel_x (by kernel_rfl)) (selH_cons (o := z2) (o' := z2) (by kernel_rfl) (sel_x (by kernel_rfl)) trivial)))) (by kernel_rfl) (by kernel_rfl))) rfl (show _ from trivial) (by kernel_rfl)) (by kernel_rfl)
  ·have hr := Option.some.inj g2
   subst hr
   exact CallI.cast (callI_of is68 (by kernel_rfl) (m := 4) (by kernel_rfl) (e := .ret) (vs := [.fn 86 [] [.ptr 3 0 1, .p (.ref [.int .i64 p1]), .p (.ref [.ref [.sl (List.map e3 p0) false, .sl (List.map e3 p0_1) false, .sl (List.map e3 p0_2) false, .map (mapK e89 p0_3) (mapV e2 p0_3)]])]]) (SemC.post (path hm (ks := [4]) (σ' := ⟨z1, [z4, z7, z5, .hole, z3]⟩) (cc := c267 ++ [.reg [] [] 0 [(2, none, .b false)] [2, 3, 5, 13], .reg [] [] 0 [] [4]])
   (ai (by decide : (2 : Int) ≠ 0) (ai h2 trivial)) (by kernel_rfl)) (Weak.sel [0, 1, 2, 4] (selH_cons (o := z4) (o' := z4) (by kernel_rfl) (sel_x (by kernel_rfl)) (selH_cons (o := z7) (o' := z7) (by kernel_rfl) (sel_x (by kernel_rfl)) (selH_cons (o := z5) (o' := z5) (by kernel_rfl) (sel_x (by kernel_rfl)) (selH_cons (o := z3) (o' := z3) (by kernel_rfl) (sel_x (by kernel_rfl)) trivial)))) (by kernel_rfl) (by kernel_rfl))) rfl (show _ from trivial) (by kernel_rfl)) (by kernel_rfl)
 ·subst h1
  refine oif_elim g1 (fun h2 g2 => ?_) (fun h2 g2 => ?_)
  ·have hr := Option.some.inj g2
   subst hr
   exact CallI.cast (callI_of is68 (by kernel_rfl) (m := 4) (by kernel_rfl) (e := .ret) (vs := [.fn 86 [] [.ptr 3 0 1, .p (.ref [.int .i64 p1]), .p (.ref [.ref [.sl (List.map e3 p0) false, .sl (List.map e3 p0_1) false, .sl (List.map e3 p0_2) false, .map (mapK e89 p0_3) (mapV e2 p0_3)]])]]) (SemC.post (path hm (ks := [4]) (σ' := ⟨z1, [z4, z6, z5, .hole, z2]⟩) (cc := c267 ++ [.reg [] [] 0 [(2, none, .b true)] [2, 3, 5, 13], .reg [] [] 0 [] [2, 3, 5], .reg [] [] 0 [] [4]])
   (ai (by decide : (2 : Int) ≠ 0) (ai h2 trivial)) (by kernel_rfl)) (Weak.sel [0, 1, 2, 4] (selH_cons (o := z4) (o' := z4) (by kernel_rfl) (sel_x (by kernel_rfl)) (selH_cons (o := z6) (o' := z6) (by kernel_rfl) (sel_x (by kernel_rfl)) (selH_cons (o := z5) (o' := z5) (by kernel_rfl) (sel_x (by kernel_rfl)) (selH_cons (o := z2) (o' := z2) (by kernel_rfl) (sel_x (by kernel_rfl)) trivial)))) (by kernel_rfl) (by kernel_rfl))) rfl (show _ from trivial) (by kernel_rfl)) (by kernel_rfl)
  ·have hr := Option.some.inj g2
   subst hr
   exact CallI.cast (callI_of is68 (by kernel_rfl) (m := 4) (by kernel_rfl) (e := .ret) (vs := [.fn 86 [] [.ptr 3 0 1, .p (.ref [.int .i64 p1]), .p (.ref [.ref [.sl (List.map e3 p0) false, .sl (List.map e3 p0_1) false, .sl (List.map e3 p0_2) false, .map (mapK e89 p0_3) (mapV e2 p0_3)]])]]) (SemC.post (path hm (ks := [4]) (σ' := ⟨z1, [z4, z6, z5, .hole, z3]⟩) (cc := c267 ++ [.reg [] [] 0 [(2, none, .b false)] [2, 3, 5, 13], .reg [] [] 0 [] [4]])
   (ai (by decide : (2 : Int) ≠ 0) (ai h2 trivial)) (by kernel_rfl)) (Weak.sel [0, 1, 2, 4] (selH_cons (o := z4) (o' := z4) (by kernel_rfl) (sel_x (by kernel_rfl)) (selH_cons (o := z6) (o' := z6) (by kernel_rfl) (sel_x (by kernel_rfl)) (selH_cons (o := z5) (o' := z5) (by kernel_rfl) (sel_x (by kernel_rfl)) (selH_cons (o := z3) (o' := z3) (by kernel_rfl) (sel_x (by kernel_rfl)) trivial)))) (by kernel_rfl) (by kernel_rfl))) rfl (show _ from trivial) (by kernel_rfl)) (by kernel_rfl)
def G86_5  (fuel : Nat) (p2 : Int) (p3 : (List Int)) (p3_1 : (List Int)) (p3_2 : (List Int)) (p3_3 : (List (Int × Int))) (w0 : Int) (w1 : Bool) (w2 : Int) (w3 : (List Int)) (w4 : (List Int)) (w4_1 : (List Int)) (w4_2 : (List Int)) (w4_3 : (List (Int × Int))) : Option ((Bool × Int) ⊕ Int) :=
 oif (w1)
 (obind (F81 fuel w3 (IntKind.wrap .i64 (Int.tdiv p2 2))) fun r1 => oif ((decide (r1 > 0)))
  (obind (sg w3 (IntKind.wrap .i64 (r1 - 1))) fun x2 => oif (mhas w4_3 (IntKind.wrap .i64 ((IntKind.wrap .i64 (2 * x2)) + (Int.tmod p2 2))))
   (obind (mget w4_3 (IntKind.wrap .i64 ((IntKind.wrap .i64 (2 * x2)) + (Int.tmod p2 2)))) fun x3 => obind (sg p3_2 (IntKind.wrap .i64 (Int.tdiv p2 2))) fun x4 => oif ((x4 != (Int.tmod p2 2)))
    (oif (mhas w4_3 (ibits .xor .i64 p2 1))
     (obind (mget w4_3 (ibits .xor .i64 p2 1)) fun x5 => some (.inl (true, (maxL (maxL w2 [x3]) [x5]))))
     (some (.inr ((maxL w2 [x3])))))
    (some (.inl (true, (maxL w2 [x3])))))
   (some (.inr (w2))))
  (obind (sg p3_2 (IntKind.wrap .i64 (Int.tdiv p2 2))) fun x2 => oif ((x2 != (Int.tmod p2 2)))
   (oif (mhas w4_3 (ibits .xor .i64 p2 1))
    (obind (mget w4_3 (ibits .xor .i64 p2 1)) fun x3 => some (.inl (true, (maxL w2 [x3]))))
    (some (.inr (w2))))
   (some (.inl (true, w2)))))
 (obind (F81 fuel w3 (IntKind.wrap .i64 (Int.tdiv p2 2))) fun r1 => oif ((decide (r1 > 0)))
  (obind (sg w3 (IntKind.wrap .i64 (r1 - 1))) fun x2 => oif (mhas w4_3 (IntKind.wrap .i64 ((IntKind.wrap .i64 (2 * x2)) + (Int.tmod p2 2))))
   (obind (mget w4_3 (IntKind.wrap .i64 ((IntKind.wrap .i64 (2 * x2)) + (Int.tmod p2 2)))) fun x3 => obind (sg p3_2 (IntKind.wrap .i64 (Int.tdiv p2 2))) fun x4 => oif ((x4 != (Int.tmod p2 2)))
    (oif (mhas w4_3 (ibits .xor .i64 p2 1))
     (obind (mget w4_3 (ibits .xor .i64 p2 1)) fun x5 => some (.inl (false, (maxL (maxL w2 [x3]) [x5]))))
     (some (.inr ((maxL w2 [x3])))))
    (some (.inl (false, (maxL w2 [x3])))))
   (some (.inr (w2))))
  (obind (sg p3_2 (IntKind.wrap .i64 (Int.tdiv p2 2))) fun x2 => oif ((x2 != (Int.tmod p2 2)))
   (oif (mhas w4_3 (ibits .xor .i64 p2 1))
    (obind (mget w4_3 (ibits .xor .i64 p2 1)) fun x3 => some (.inl (false, (maxL w2 [x3]))))
    (some (.inr (w2))))
   (some (.inl (false, w2)))))
noncomputable def G86_5_post (p2 : Int) (p3 : (List Int)) (p3_1 : (List Int)) (p3_2 : (List Int)) (p3_3 : (List (Int × Int))) (w0 : Int) (w1 : Bool) (w2 : Int) (w3 : (List Int)) (w4 : (List Int)) (w4_1 : (List Int)) (w4_2 : (List Int)) (w4_3 : (List (Int × Int)))  : ((Bool × Int) ⊕ Int) → IV × List MObj
 | .inl y => (.tup [], [.cells [.p (.int .i64 w0)] 0, .cells [.p (.bool y.1)] 0, .cells [.p (.int .i64 y.2)] 0, .cells [.p (.sl (List.map e3 w3) false)] 0, .loop 0 R82_1_1_0_1_0 [(2, .p (.ref [.ref [.sl (List.map e3 w4) false, .sl (List.map e3 w4_1) false, .sl (List.map e3 w4_2) false, .map (mapK e89 w4_3) (mapV e2 w4_3)]])), (4, .ptr 0 0 1), (5, .ptr 1 0 1), (6, .ptr 2 0 1)] none])
 | .inr (y) => (.tup [], [.cells [.p (.int .i64 0)] 0, .cells [.p (.bool false)] 0, .cells [.p (.int .i64 y)] 0, .cells [.p (.sl (List.map e3 w3) false)] 0, .loop 2 R82_1_1_0_1_0 [(2, .p (.ref [.ref [.sl (List.map e3 w4) false, .sl (List.map e3 w4_1) false, .sl (List.map e3 w4_2) false, .map (mapK e89 w4_3) (mapV e2 w4_3)]])), (4, .ptr 0 0 1), (5, .ptr 1 0 1), (6, .ptr 2 0 1)] (some .ret)])
theorem G86_5_ok  (fuel : Nat) (p2 : Int) (p3 : (List Int)) (p3_1 : (List Int)) (p3_2 : (List Int)) (p3_3 : (List (Int × Int))) (w0 : Int) (w1 : Bool) (w2 : Int) (w3 : (List Int)) (w4 : (List Int)) (w4_1 : (List Int)) (w4_2 : (List Int)) (w4_3 : (List (Int × Int)))  (r : ((Bool × Int) ⊕ Int)) (h : G86_5 fuel p2 p3 p3_1 p3_2 p3_3 w0 w1 w2 w3 w4 w4_1 w4_2 w4_3 = some r) : CallI prog 86 [.yld 4, .ptr 3 0 1, .p (.ref [.int .i64 p2]), .p (.ref [.ref [.sl (List.map e3 p3) false, .sl (List.map e3 p3_1) false, .sl (List.map e3 p3_2) false, .map (mapK e89 p3_3) (mapV e2 p3_3)]])] [.cells [.p (.int .i64 w0)] 0, .cells [.p (.bool w1)] 0, .cells [.p (.int .i64 w2)] 0, .cells [.p (.sl (List.map e3 w3) false)] 0, .loop 0 R82_1_1_0_1_0 [(2, .p (.ref [.ref [.sl (List.map e3 w4) false, .sl (List.map e3 w4_1) false, .sl (List.map e3 w4_2) false, .map (mapK e89 w4_3) (mapV e2 w4_3)]])), (4, .ptr 0 0 1), (5, .ptr 1 0 1), (6, .ptr 2 0 1)] none] (G86_5_post p2 p3 p3_1 p3_2 p3_3 w0 w1 w2 w3 w4 w4_1 w4_2 w4_3 r).1 (G86_5_post p2 p3 p3_1 p3_2 p3_3 w0 w1 w2 w3 w4 w4_1 w4_2 w4_3 r).2 := by
 let z19 : MObj := .cells [.p (.bool true)] 0
 let z18 : MObj := .cells [.p (.bool false)] 0
 let z17 : MObj := .cells [.p (.int .i64 0)] 0
 let z16 : MObj := .cells [.p (.int .i64 w2)] 0
 let z15 : MObj := .cells [.p (.int .i64 w0)] 0
 let z14 : Int := (IntKind.wrap .i64 (Int.tdiv p2 2))
 let z13 : MObj := .cells [.p (.sl (List.map e3 w3) false)] 0
 let z12 : Env := [(2, .p (.ref [.ref [.sl (List.map e3 w4) false, .sl (List.map e3 w4_1) false, .sl (List.map e3 w4_2) false, .map (mapK e89 w4_3) (mapV e2 w4_3)]])), (4, .ptr 0 0 1), (5, .ptr 1 0 1), (6, .ptr 2 0 1)]
 let z11 : MObj := .loop 1 R82_1_1_0_1_0 z12 none
 let z10 : MObj := .loop 0 R82_1_1_0_1_0 z12 none
 let z9 : MObj := .loop 2 R82_1_1_0_1_0 z12 (some .ret)
 let z8 : Env := [(2, .p (.ref [.ref [.sl (List.map e3 w4) false, .sl (List.map e3 w4_1) false, .sl (List.map e3 w4_2) false, .map (mapK e89 w4_3) (mapV e2 w4_3)]])), (4, .ptr 0 0 1), (5, .ptr 1 0 1), (6, .ptr 2 0 1), (7, .p (.int .i64 (ibits .xor .i64 p2 1)))]
 let z7 : List MObj := [z15, z19, z16, z13, z10]
 let z6 : List MObj := [z15, z18, z16, z13, z10]
 let z5 : St := ⟨[], [z17, z18, z16, z13, z11]⟩
 let z4 : List MObj := [z17, z18, z16, z13, z9]
 let z3 : St := ⟨[], z4⟩
 let z2 : St := ⟨z8, z7⟩
 let z1 : St := ⟨z8, z6⟩
 unfold G86_5 at h
 refine oif_elim h (fun h1 g1 => ?_) (fun h1 g1 => ?_)
 ·subst h1
  refine obind_elim g1 fun r1 h2 g2 => ?_
  let c268 : List CC := [.reg [] [] 0 [(3, none, .call (.int .i64 r1))] [0, 1, 2, 3, 5]]
  have q269 := fun {P : Prop} (t : P) => ai (F81_ok fuel w3 z14 false _ h2) t
  refine oif_elim g2 (fun h3 g3 => ?_) (fun h3 g3 => ?_)
  ·refine obind_elim g3 fun x2 h4 g4 => ?_
   let z21 : Int := (IntKind.wrap .i64 ((IntKind.wrap .i64 (2 * x2)) + (Int.tmod p2 2)))
   let z20 : Env := [(2, .p (.ref [.ref [.sl (List.map e3 w4) false, .sl (List.map e3 w4_1) false, .sl (List.map e3 w4_2) false, .map (mapK e89 w4_3) (mapV e2 w4_3)]])), (4, .ptr 0 0 1), (5, .ptr 1 0 1), (6, .ptr 2 0 1), (7, .p (.int .i64 z21))]
   have q270 := fun {P : Prop} (t : P) => ai h3 (ai (sg_map (f := e3) h4) t)
   refine oif_elim g4 (fun h5 g5 => ?_) (fun h5 g5 => ?_)
   ·refine obind_elim g5 fun x3 h6 g6 => ?_
    let z22 : MObj := .cells [.p (.int .i64 (maxL w2 [x3]))] 0
    refine obind_elim g6 fun x4 h7 g7 => ?_
    let c271 : List CC := c268 ++ [.reg [0, 1, 3, 7, 7, 7, 39, 119, 247, 503, 7, 1031, 4087, 8191, 16383, 32767] [(2, 13)] 0 [(1, none, .b true), (7, none, .iv (.p (.int .i64 x2))), (13, none, .ci (.p (.bool true)) [(2, z22)])] [0, 2, 3, 25]]
    have q272 := fun {P : Prop} (t : P) => ai (roundI_of (P := prog) (l := 4) (args := [.p (.int .i64 z21)]) (H := z7) (R := R82_1_1_0_1_0) (env := z12) (env1 := z12) (env2 := z12) (m := 5) (e := .normal) (by kernel_rfl) (by kernel_rfl) (by kernel_rfl) (by kernel_rfl) (path hm (σ' := ⟨z20, z7⟩) (ks := [2, 4, 5, 6, 7]) (cc := [.reg [] [] 0 [] [2, 4, 5, 6, 7]]) trivial (by kernel_rfl)) (by kernel_rfl) (path hm (σ' := ⟨[], [z15, z19, z22, z13, z11]⟩) (ks := []) (cc := [.reg [] [] 0 [(6, none, .mp (Int.ofNat (midx w4_3 z21)) [] [] [] 0 (.int .i64 x3))] [4, 5, 6, 8, 9], .reg [] [] 0 [] [4, 5, 6, 8, 25], .reg [] [] 0 [] []]) (ai (eqD_of (k := z21) keq89 (rfl)) (ai (find_yes (L := w4_3) (k := z21) keq89 (rfl) (fun _ _ => rfl) h5) (ai (val_at e2 h6) trivial))) (by kernel_rfl)) (by kernel_rfl) (by kernel_rfl : _ = (.p (.bool true), [z15, z19, z22, z13, z10]))) t
    have q273 := fun {P : Prop} (t : P) => ai (sg_map (f := e3) h7) t
    refine oif_elim g7 (fun h8 g8 => ?_) (fun h8 g8 => ?_)
    ·let c274 : List CC := c271 ++ [.reg [0, 1, 3, 7, 15, 0, 32, 127, 255, 0, 512, 2047] [] 0 [(7, none, .iv (.p (.int .i64 x4))), (11, none, .b true)] [0, 2, 37]]
     refine oif_elim g8 (fun h9 g9 => ?_) (fun h9 g9 => ?_)
     ·refine obind_elim g9 fun x5 h10 g10 => ?_
      let z23 : MObj := .cells [.p (.int .i64 (maxL (maxL w2 [x3]) [x5]))] 0
      have hr := Option.some.inj g10
      subst hr
      exact CallI.cast (callI_of is86 (by kernel_rfl) (m := 5) (by kernel_rfl) (e := .normal) (vs := []) (path hm (ks := []) (σ' := ⟨[], [z15, z19, z23, z13, z10]⟩) (cc := c274 ++ [.reg [] [] 0 [(3, none, .ci (.p (.bool true)) [(2, z23)])] []])
   (ai (by decide : (2 : Int) ≠ 0) (q269 (q270 (ai (by decide : (2 : Int) ≠ 0) (q272 (ai (by decide : (2 : Int) ≠ 0) (q273 (ai (by decide : (2 : Int) ≠ 0) (ai h8 (ai (roundI_of (P := prog) (l := 4) (args := [.p (.int .i64 (ibits .xor .i64 p2 1))]) (H := [z15, z19, z22, z13, z10]) (R := R82_1_1_0_1_0) (env := z12) (env1 := z12) (env2 := z12) (m := 5) (e := .normal) (by kernel_rfl) (by kernel_rfl) (by kernel_rfl) (by kernel_rfl) (path hm (σ' := ⟨z8, [z15, z19, z22, z13, z10]⟩) (ks := [2, 4, 5, 6, 7]) (cc := [.reg [] [] 0 [] [2, 4, 5, 6, 7]]) trivial (by kernel_rfl)) (by kernel_rfl) (path hm (σ' := ⟨[], [z15, z19, z23, z13, z11]⟩) (ks := []) (cc := [.reg [] [] 0 [(6, none, .mp (Int.ofNat (midx w4_3 (ibits .xor .i64 p2 1))) [] [] [] 0 (.int .i64 x5))] [4, 5, 6, 8, 9], .reg [] [] 0 [] [4, 5, 6, 8, 25], .reg [] [] 0 [] []]) (ai (eqD_of (k := (ibits .xor .i64 p2 1)) keq89 (rfl)) (ai (find_yes (L := w4_3) (k := (ibits .xor .i64 p2 1)) keq89 (rfl) (fun _ _ => rfl) h9) (ai (val_at e2 h10) trivial))) (by kernel_rfl)) (by kernel_rfl) (by kernel_rfl : _ = (.p (.bool true), [z15, z19, z23, z13, z10]))) trivial)))))))))) (by kernel_rfl)) rfl (show _ from trivial) (by kernel_rfl)) (by kernel_rfl)
     ·have hr := Option.some.inj g9
      subst hr
      exact CallI.cast (callI_of is86 (by kernel_rfl) (m := 5) (by kernel_rfl) (e := .normal) (vs := []) (path hm (ks := []) (σ' := ⟨[], [z17, z18, z22, z13, z9]⟩) (cc := c274 ++ [.reg [] [] 0 [(3, none, .ci (.p (.bool false)) [(0, z17), (1, z18), (4, z9)])] []])
   (ai (by decide : (2 : Int) ≠ 0) (q269 (q270 (ai (by decide : (2 : Int) ≠ 0) (q272 (ai (by decide : (2 : Int) ≠ 0) (q273 (ai (by decide : (2 : Int) ≠ 0) (ai h8 (ai (roundI_of (P := prog) (l := 4) (args := [.p (.int .i64 (ibits .xor .i64 p2 1))]) (H := [z15, z19, z22, z13, z10]) (R := R82_1_1_0_1_0) (env := z12) (env1 := z12) (env2 := z12) (m := 5) (e := .ret) (by kernel_rfl) (by kernel_rfl) (by kernel_rfl) (by kernel_rfl) (path hm (σ' := ⟨z8, [z15, z19, z22, z13, z10]⟩) (ks := [2, 4, 5, 6, 7]) (cc := [.reg [] [] 0 [] [2, 4, 5, 6, 7]]) trivial (by kernel_rfl)) (by kernel_rfl) (path hm (σ' := ⟨[], [z17, z18, z22, z13, z11]⟩) (ks := []) (cc := [.reg [] [] 0 [(6, none, .mp (Int.negSucc 0) [] [] [] 0 .junk)] [4, 5, 6, 8, 9], .reg [] [] 0 [] [4, 5, 6, 8, 25], .reg [] [] 0 [] [4, 5]]) (ai (eqD_of (k := (ibits .xor .i64 p2 1)) keq89 (rfl)) (ai (find_no (L := w4_3) (k := (ibits .xor .i64 p2 1)) keq89 (rfl) (fun _ _ => rfl) h9) trivial)) (by kernel_rfl)) (by kernel_rfl) (by kernel_rfl : _ = (.p (.bool false), [z17, z18, z22, z13, z9]))) trivial)))))))))) (by kernel_rfl)) rfl (show _ from trivial) (by kernel_rfl)) (by kernel_rfl)
    ·have hr := Option.some.inj g8
     subst hr
     exact CallI.cast (callI_of is86 (by kernel_rfl) (m := 5) (by kernel_rfl) (e := .normal) (vs := []) (path hm (ks := []) (σ' := ⟨[], [z15, z19, z22, z13, z10]⟩) (cc := c271 ++ [.reg [0, 1, 3, 7, 15, 0, 32, 127, 255, 0, 512, 2047] [] 0 [(7, none, .iv (.p (.int .i64 x4))), (11, none, .b false)] [0, 2, 37]])
   (ai (by decide : (2 : Int) ≠ 0) (q269 (q270 (ai (by decide : (2 : Int) ≠ 0) (q272 (ai (by decide : (2 : Int) ≠ 0) (q273 (ai (by decide : (2 : Int) ≠ 0) (ai h8 trivial))))))))) (by kernel_rfl)) rfl (show _ from trivial) (by kernel_rfl)) (by kernel_rfl)
   ·have hr := Option.some.inj g5
    subst hr
    exact CallI.cast (callI_of is86 (by kernel_rfl) (m := 5) (by kernel_rfl) (e := .ret) (vs := []) (path hm (ks := []) (σ' := z3) (cc := c268 ++ [.reg [0, 1, 3, 7, 7, 7, 39, 119, 247, 503, 7, 1031, 4087, 8191, 16383, 32767] [(0, 13), (1, 13), (4, 13)] 0 [(1, none, .b true), (7, none, .iv (.p (.int .i64 x2))), (13, none, .ci (.p (.bool false)) [(0, z17), (1, z18), (4, z9)])] [0, 2, 3, 25]])
   (ai (by decide : (2 : Int) ≠ 0) (q269 (q270 (ai (by decide : (2 : Int) ≠ 0) (ai (roundI_of (P := prog) (l := 4) (args := [.p (.int .i64 z21)]) (H := z7) (R := R82_1_1_0_1_0) (env := z12) (env1 := z12) (env2 := z12) (m := 5) (e := .ret) (by kernel_rfl) (by kernel_rfl) (by kernel_rfl) (by kernel_rfl) (path hm (σ' := ⟨z20, z7⟩) (ks := [2, 4, 5, 6, 7]) (cc := [.reg [] [] 0 [] [2, 4, 5, 6, 7]]) trivial (by kernel_rfl)) (by kernel_rfl) (path hm (σ' := z5) (ks := []) (cc := [.reg [] [] 0 [(6, none, .mp (Int.negSucc 0) [] [] [] 0 .junk)] [4, 5, 6, 8, 9], .reg [] [] 0 [] [4, 5, 6, 8, 25], .reg [] [] 0 [] [4, 5]]) (ai (eqD_of (k := z21) keq89 (rfl)) (ai (find_no (L := w4_3) (k := z21) keq89 (rfl) (fun _ _ => rfl) h5) trivial)) (by kernel_rfl)) (by kernel_rfl) (by kernel_rfl : _ = (.p (.bool false), z4))) trivial))))) (by kernel_rfl)) rfl (show _ from trivial) (by kernel_rfl)) (by kernel_rfl)
  ·refine obind_elim g3 fun x2 h4 g4 => ?_
   let c275 : List CC := c268 ++ [.reg [0, 1, 3, 7, 7, 7, 39, 119, 247, 503, 7, 1031, 4087, 8191, 16383, 32767] [] 0 [(1, none, .b false)] [0, 2, 3, 25]]
   have q276 := fun {P : Prop} (t : P) => ai (sg_map (f := e3) h4) t
   refine oif_elim g4 (fun h5 g5 => ?_) (fun h5 g5 => ?_)
   ·let c277 : List CC := c275 ++ [.reg [0, 1, 3, 7, 15, 0, 32, 127, 255, 0, 512, 2047] [] 0 [(7, none, .iv (.p (.int .i64 x2))), (11, none, .b true)] [0, 2, 37]]
    refine oif_elim g5 (fun h6 g6 => ?_) (fun h6 g6 => ?_)
    ·refine obind_elim g6 fun x3 h7 g7 => ?_
     let z24 : MObj := .cells [.p (.int .i64 (maxL w2 [x3]))] 0
     have hr := Option.some.inj g7
     subst hr
     exact CallI.cast (callI_of is86 (by kernel_rfl) (m := 5) (by kernel_rfl) (e := .normal) (vs := []) (path hm (ks := []) (σ' := ⟨[], [z15, z19, z24, z13, z10]⟩) (cc := c277 ++ [.reg [] [] 0 [(3, none, .ci (.p (.bool true)) [(2, z24)])] []])
   (ai (by decide : (2 : Int) ≠ 0) (q269 (ai h3 (ai (by decide : (2 : Int) ≠ 0) (q276 (ai (by decide : (2 : Int) ≠ 0) (ai h5 (ai (roundI_of (P := prog) (l := 4) (args := [.p (.int .i64 (ibits .xor .i64 p2 1))]) (H := z7) (R := R82_1_1_0_1_0) (env := z12) (env1 := z12) (env2 := z12) (m := 5) (e := .normal) (by kernel_rfl) (by kernel_rfl) (by kernel_rfl) (by kernel_rfl) (path hm (σ' := z2) (ks := [2, 4, 5, 6, 7]) (cc := [.reg [] [] 0 [] [2, 4, 5, 6, 7]]) trivial (by kernel_rfl)) (by kernel_rfl) (path hm (σ' := ⟨[], [z15, z19, z24, z13, z11]⟩) (ks := []) (cc := [.reg [] [] 0 [(6, none, .mp (Int.ofNat (midx w4_3 (ibits .xor .i64 p2 1))) [] [] [] 0 (.int .i64 x3))] [4, 5, 6, 8, 9], .reg [] [] 0 [] [4, 5, 6, 8, 25], .reg [] [] 0 [] []]) (ai (eqD_of (k := (ibits .xor .i64 p2 1)) keq89 (rfl)) (ai (find_yes (L := w4_3) (k := (ibits .xor .i64 p2 1)) keq89 (rfl) (fun _ _ => rfl) h6) (ai (val_at e2 h7) trivial))) (by kernel_rfl)) (by kernel_rfl) (by kernel_rfl : _ = (.p (.bool true), [z15, z19, z24, z13, z10]))) trivial)))))))) (by kernel_rfl)) rfl (show _ from trivial) (by kernel_rfl)) (by kernel_rfl)
    ·have hr := Option.some.inj g6
     subst hr
     exact CallI.cast (callI_of is86 (by kernel_rfl) (m := 5) (by kernel_rfl) (e := .normal) (vs := []) (path hm (ks := []) (σ' := z3) (cc := c277 ++ [.reg [] [] 0 [(3, none, .ci (.p (.bool false)) [(0, z17), (1, z18), (4, z9)])] []])
   (ai (by decide : (2 : Int) ≠ 0) (q269 (ai h3 (ai (by decide : (2 : Int) ≠ 0) (q276 (ai (by decide : (2 : Int) ≠ 0) (ai h5 (ai (roundI_of (P := prog) (l := 4) (args := [.p (.int .i64 (ibits .xor .i64 p2 1))]) (H := z7) (R := R82_1_1_0_1_0) (env := z12) (env1 := z12) (env2 := z12) (m := 5) (e := .ret) (by kernel_rfl) (by kernel_rfl) (by kernel_rfl) (by kernel_rfl) (path hm (σ' := z2) (ks := [2, 4, 5, 6, 7]) (cc := [.reg [] [] 0 [] [2, 4, 5, 6, 7]]) trivial (by kernel_rfl)) (by kernel_rfl) (path hm (σ' := z5) (ks := []) (cc := [.reg [] [] 0 [(6, none, .mp (Int.negSucc 0) [] [] [] 0 .junk)] [4, 5, 6, 8, 9], .reg [] [] 0 [] [4, 5, 6, 8, 25], .reg [] [] 0 [] [4, 5]]) (ai (eqD_of (k := (ibits .xor .i64 p2 1)) keq89 (rfl)) (ai (find_no (L := w4_3) (k := (ibits .xor .i64 p2 1)) keq89 (rfl) (fun _ _ => rfl) h6) trivial)) (by kernel_rfl)) (by kernel_rfl) (by kernel_rfl : _ = (.p (.bool false), z4))) trivial)))))))) (by kernel_rfl)) rfl (show _ from trivial) (by kernel_rfl)) (by kernel_rfl)
   ·have hr := Option.some.inj g5
    subst hr
    exact CallI.cast (callI_of is86 (by kernel_rfl) (m := 5) (by kernel_rfl) (e := .normal) (vs := []) (path hm (ks := []) (σ' := ⟨[], z7⟩) (cc := c275 ++ [.reg [0, 1, 3, 7, 15, 0, 32, 127, 255, 0, 512, 2047] [] 0 [(7, none, .iv (.p (.int .i64 x2))), (11, none, .b false)] [0, 2, 37]])
   (ai (by decide : (2 : Int) ≠ 0) (q269 (ai h3 (ai (by decide : (2 : Int) ≠ 0) (q276 (ai (by decide : (2 : Int) ≠ 0) (ai h5 trivial))))))) (by kernel_rfl)) rfl (show _ from trivial) (by kernel_rfl)) (by kernel_rfl)
 ·subst h1
  refine obind_elim g1 fun r1 h2 g2 => ?_
  let c278 : List CC := [.reg [] [] 0 [(3, none, .call (.int .i64 r1))] [0, 1, 2, 3, 5]]
  have q279 := fun {P : Prop} (t : P) => ai (F81_ok fuel w3 z14 false _ h2) t
  refine oif_elim g2 (fun h3 g3 => ?_) (fun h3 g3 => ?_)
  ·refine obind_elim g3 fun x2 h4 g4 => ?_
   let z26 : Int := (IntKind.wrap .i64 ((IntKind.wrap .i64 (2 * x2)) + (Int.tmod p2 2)))
   let z25 : Env := [(2, .p (.ref [.ref [.sl (List.map e3 w4) false, .sl (List.map e3 w4_1) false, .sl (List.map e3 w4_2) false, .map (mapK e89 w4_3) (mapV e2 w4_3)]])), (4, .ptr 0 0 1), (5, .ptr 1 0 1), (6, .ptr 2 0 1), (7, .p (.int .i64 z26))]
   have q280 := fun {P : Prop} (t : P) => ai h3 (ai (sg_map (f := e3) h4) t)
   refine oif_elim g4 (fun h5 g5 => ?_) (fun h5 g5 => ?_)
   ·refine obind_elim g5 fun x3 h6 g6 => ?_
    let z27 : MObj := .cells [.p (.int .i64 (maxL w2 [x3]))] 0
    refine obind_elim g6 fun x4 h7 g7 => ?_
    let c281 : List CC := c278 ++ [.reg [0, 1, 3, 7, 7, 7, 39, 119, 247, 503, 7, 1031, 4087, 8191, 16383, 32767] [(2, 13)] 0 [(1, none, .b true), (7, none, .iv (.p (.int .i64 x2))), (13, none, .ci (.p (.bool true)) [(2, z27)])] [0, 2, 3, 25]]
    have q282 := fun {P : Prop} (t : P) => ai (roundI_of (P := prog) (l := 4) (args := [.p (.int .i64 z26)]) (H := z6) (R := R82_1_1_0_1_0) (env := z12) (env1 := z12) (env2 := z12) (m := 5) (e := .normal) (by kernel_rfl) (by kernel_rfl) (by kernel_rfl) (by kernel_rfl) (path hm (σ' := ⟨z25, z6⟩) (ks := [2, 4, 5, 6, 7]) (cc := [.reg [] [] 0 [] [2, 4, 5, 6, 7]]) trivial (by kernel_rfl)) (by kernel_rfl) (path hm (σ' := ⟨[], [z15, z18, z27, z13, z11]⟩) (ks := []) (cc := [.reg [] [] 0 [(6, none, .mp (Int.ofNat (midx w4_3 z26)) [] [] [] 0 (.int .i64 x3))] [4, 5, 6, 8, 9], .reg [] [] 0 [] [4, 5, 6, 8, 25], .reg [] [] 0 [] []]) (ai (eqD_of (k := z26) keq89 (rfl)) (ai (find_yes (L := w4_3) (k := z26) keq89 (rfl) (fun _ _ => rfl) h5) (ai (val_at e2 h6) trivial))) (by kernel_rfl)) (by kernel_rfl) (by kernel_rfl : _ = (.p (.bool true), [z15, z18, z27, z13, z10]))) t
    have q283 := fun {P : Prop} (t : P) => ai (sg_map (f := e3) h7) t
    refine oif_elim g7 (fun h8 g8 => ?_) (fun h8 g8 => ?_)
    ·let c284 : List CC := c281 ++ [.reg [0, 1, 3, 7, 15, 0, 32, 127, 255, 0, 512, 2047] [] 0 [(7, none, .iv (.p (.int .i64 x4))), (11, none, .b true)] [0, 2, 37]]
     refine oif_elim g8 (fun h9 g9 => ?_) (fun h9 g9 => ?_)
     ·refine obind_elim g9 fun x5 h10 g10 => ?_
      let z28 : MObj := .cells [.p (.int .i64 (maxL (maxL w2 [x3]) [x5]))] 0
      have hr := Option.some.inj g10
      subst hr
      exact CallI.cast (callI_of is86 (by kernel_rfl) (m := 5) (by kernel_rfl) (e := .normal) (vs := []) (path hm (ks := []) (σ' := ⟨[], [z15, z18, z28, z13, z10]⟩) (cc := c284 ++ [.reg [] [] 0 [(3, none, .ci (.p (.bool true)) [(2, z28)])] []])
   (ai (by decide : (2 : Int) ≠ 0) (q279 (q280 (ai (by decide : (2 : Int) ≠ 0) (q282 (ai (by decide : (2 : Int) ≠ 0) (q283 (ai (by decide : (2 : Int) ≠ 0) (ai h8 (ai (roundI_of (P := prog) (l := 4) (args := [.p (.int .i64 (ibits .xor .i64 p2 1))]) (H := [z15, z18, z27, z13, z10]) (R := R82_1_1_0_1_0) (env := z12) (env1 := z12) (env2 := z12) (m := 5) (e := .normal) (by kernel_rfl) (by kernel_rfl) (by kernel_rfl) (by kernel_rfl) (path hm (σ' := ⟨z8, [z15, z18, z27, z13, z10]⟩) (ks := [2, 4, 5, 6, 7]) (cc := [.reg [] [] 0 [] [2, 4, 5, 6, 7]]) trivial (by kernel_rfl)) (by kernel_rfl) (path hm (σ' := ⟨[], [z15, z18, z28, z13, z11]⟩) (ks := []) (cc := [.reg [] [] 0 [(6, none, .mp (Int.ofNat (midx w4_3 (ibits .xor .i64 p2 1))) [] [] [] 0 (.int .i64 x5))] [4, 5, 6, 8, 9], .reg [] [] 0 [] [4, 5, 6, 8, 25], .reg [] [] 0 [] []]) (ai (eqD_of (k := (ibits .xor .i64 p2 1)) keq89 (rfl)) (ai (find_yes (L := w4_3) (k := (ibits .xor .i64 p2 1)) keq89 (rfl) (fun _ _ => rfl) h9) (ai (val_at e2 h10) trivial))) (by kernel_rfl)) (by kernel_rfl) (by kernel_rfl : _ = (.p (.bool true), [z15, z18, z28, z13, z10]))) trivial)))))))))) (by kernel_rfl)) rfl (show _ from trivial) (by kernel_rfl)) (by kernel_rfl)
     ·have hr := Option.some.inj g9
      subst hr
      exact CallI.cast (callI_of is86 (by kernel_rfl) (m := 5) (by kernel_rfl) (e := .normal) (vs := []) (path hm (ks := []) (σ' := ⟨[], [z17, z18, z27, z13, z9]⟩) (cc := c284 ++ [.reg [] [] 0 [(3, none, .ci (.p (.bool false)) [(0, z17), (4, z9)])] []])
   (ai (by decide : (2 : Int) ≠ 0) (q279 (q280 (ai (by decide : (2 : Int) ≠ 0) (q282 (ai (by decide : (2 : Int) ≠ 0) (q283 (ai (by decide : (2 : Int) ≠ 0) (ai h8 (ai (roundI_of (P := prog) (l := 4) (args := [.p (.int .i64 (ibits .xor .i64 p2 1))]) (H := [z15, z18, z27, z13, z10]) (R := R82_1_1_0_1_0) (env := z12) (env1 := z12) (env2 := z12) (m := 5) (e := .ret) (by kernel_rfl) (by kernel_rfl) (by kernel_rfl) (by kernel_rfl) (path hm (σ' := ⟨z8, [z15, z18, z27, z13, z10]⟩) (ks := [2, 4, 5, 6, 7]) (cc := [.reg [] [] 0 [] [2, 4, 5, 6, 7]]) trivial (by kernel_rfl)) (by kernel_rfl) (path hm (σ' := ⟨[], [z17, z18, z27, z13, z11]⟩) (ks := []) (cc := [.reg [] [] 0 [(6, none, .mp (Int.negSucc 0) [] [] [] 0 .junk)] [4, 5, 6, 8, 9], .reg [] [] 0 [] [4, 5, 6, 8, 25], .reg [] [] 0 [] [4, 5]]) (ai (eqD_of (k := (ibits .xor .i64 p2 1)) keq89 (rfl)) (ai (find_no (L := w4_3) (k := (ibits .xor .i64 p2 1)) keq89 (rfl) (fun _ _ => rfl) h9) trivial)) (by kernel_rfl)) (by kernel_rfl) (by kernel_rfl : _ = (.p (.bool false), [z17, z18, z27, z13, z9]))) trivial)))))))))) (by kernel_rfl)) rfl (show _ from trivial) (by kernel_rfl)) (by kernel_rfl)
    ·have hr := Option.some.inj g8
     subst hr
     exact CallI.cast (callI_of is86 (by kernel_rfl) (m := 5) (by kernel_rfl) (e := .normal) (vs := []) (path hm (ks := []) (σ' := ⟨[], [z15, z18, z27, z13, z10]⟩) (cc := c281 ++ [.reg [0, 1, 3, 7, 15, 0, 32, 127, 255, 0, 512, 2047] [] 0 [(7, none, .iv (.p (.int .i64 x4))), (11, none, .b false)] [0, 2, 37]])
   (ai (by decide : (2 : Int) ≠ 0) (q279 (q280 (ai (by decide : (2 : Int) ≠ 0) (q282 (ai (by decide : (2 : Int) ≠ 0) (q283 (ai (by decide : (2 : Int) ≠ 0) (ai h8 trivial))))))))) (by kernel_rfl)) rfl (show _ from trivial) (by kernel_rfl)) (by kernel_rfl)
   ·have hr := Option.some.inj g5
    subst hr
    exact CallI.cast (callI_of is86 (by kernel_rfl) (m := 5) (by kernel_rfl) (e := .ret) (vs := []) (path hm (ks := []) (σ' := z3) (cc := c278 ++ [.reg [0, 1, 3, 7, 7, 7, 39, 119, 247, 503, 7, 1031, 4087, 8191, 16383, 32767] [(0, 13), (4, 13)] 0 [(1, none, .b true), (7, none, .iv (.p (.int .i64 x2))), (13, none, .ci (.p (.bool false)) [(0, z17), (4, z9)])] [0, 2, 3, 25]])
   (ai (by decide : (2 : Int) ≠ 0) (q279 (q280 (ai (by decide : (2 : Int) ≠ 0) (ai (roundI_of (P := prog) (l := 4) (args := [.p (.int .i64 z26)]) (H := z6) (R := R82_1_1_0_1_0) (env := z12) (env1 := z12) (env2 := z12) (m := 5) (e := .ret) (by kernel_rfl) (by kernel_rfl) (by kernel_rfl) (by kernel_rfl) (path hm (σ' := ⟨z25, z6⟩) (ks := [2, 4, 5, 6, 7]) (cc := [.reg [] [] 0 [] [2, 4, 5, 6, 7]]) trivial (by kernel_rfl)) (by kernel_rfl) (path hm (σ' := z5) (ks := []) (cc := [.reg [] [] 0 [(6, none, .mp (Int.negSucc 0) [] [] [] 0 .junk)] [4, 5, 6, 8, 9], .reg [] [] 0 [] [4, 5, 6, 8, 25], .reg [] [] 0 [] [4, 5]]) (ai (eqD_of (k := z26) keq89 (rfl)) (ai (find_no (L := w4_3) (k := z26) keq89 (rfl) (fun _ _ => rfl) h5) trivial)) (by kernel_rfl)) (by kernel_rfl) (by kernel_rfl : _ = (.p (.bool false), z4))) trivial))))) (by kernel_rfl)) rfl (show _ from trivial) (by kernel_rfl)) (by kernel_rfl)
  ·refine obind_elim g3 fun x2 h4 g4 => ?_
   let c285 : List CC := c278 ++ [.reg [0, 1, 3, 7, 7, 7, 39, 119, 247, 503, 7, 1031, 4087, 8191, 16383, 32767] [] 0 [(1, none, .b false)] [0, 2, 3, 25]]
   have q286 := fun {P : Prop} (t : P) => ai (sg_map (f := e3) h4) t
   refine oif_elim g4 (fun h5 g5 => ?_) (fun h5 g5 => ?_)
   ·let c287 : List CC := c285 ++ [.reg [0, 1, 3, 7, 15, 0, 32, 127, 255, 0, 512, 2047] [] 0 [(7, none, .iv (.p (.int .i64 x2))), (11, none, .b true)] [0, 2, 37]]
    refine oif_elim g5 (fun h6 g6 => ?_) (fun h6 g6 => ?_)
    ·refine obind_elim g6 fun x3 h7 g7 => ?_
     let z29 : MObj := .cells [.p (.int .i64 (maxL w2 [x3]))] 0
     have hr := Option.some.inj g7
     subst hr
     exact CallI.cast (callI_of is86 (by kernel_rfl) (m := 5) (by kernel_rfl) (e := .normal) (vs := []) (path hm (ks := []) (σ' := ⟨[], [z15, z18, z29, z13, z10]⟩) (cc := c287 ++ [.reg [] [] 0 [(3, none, .ci (.p (.bool true)) [(2, z29)])] []])
   (ai (by decide : (2 : Int) ≠ 0) (q279 (ai h3 (ai (by decide : (2 : Int) ≠ 0) (q286 (ai (by decide : (2 : Int) ≠ 0) (ai h5 (ai (roundI_of (P := prog) (l := 4) (args := [.p (.int .i64 (ibits .xor .i64 p2 1))]) (H := z6) (R := R82_1_1_0_1_0) (env := z12) (env1 := z12) (env2 := z12) (m := 5) (e := .normal) (by kernel_rfl) (by kernel_rfl) (by kernel_rfl) (by kernel_rfl) (path hm (σ' := z1) (ks := [2, 4, 5, 6, 7]) (cc := [.reg [] [] 0 [] [2, 4, 5, 6, 7]]) trivial (by kernel_rfl)) (by kernel_rfl) (path hm (σ' := ⟨[], [z15, z18, z29, z13, z11]⟩) (ks := []) (cc := [.reg [] [] 0 [(6, none, .mp (Int.ofNat (midx w4_3 (ibits .xor .i64 p2 1))) [] [] [] 0 (.int .i64 x3))] [4, 5, 6, 8, 9], .reg [] [] 0 [] [4, 5, 6, 8, 25], .reg [] [] 0 [] []]) (ai (eqD_of (k := (ibits .xor .i64 p2 1)) keq89 (rfl)) (ai (find_yes (L := w4_3) (k := (ibits .xor .i64 p2 1)) keq89 (rfl) (fun _ _ => rfl) h6) (ai (val_at e2 h7) trivial))) (by kernel_rfl)) (by kernel_rfl) (by kernel_rfl : _ = (.p (.bool true), [z15, z18, z29, z13, z10]))) trivial)))))))) (by kernel_rfl)) rfl (show _ from trivial) (by kernel_rfl)) (by kernel_rfl)
    ·have hr := Option.some.inj g6
     subst hr
     exact CallI.cast (callI_of is86 (by kernel_rfl) (m := 5) (by kernel_rfl) (e := .normal) (vs := []) (path hm (ks := []) (σ' := z3) (cc := c287 ++ [.reg [] [] 0 [(3, none, .ci (.p (.bool false)) [(0, z17), (4, z9)])] []])
   (ai (by decide : (2 : Int) ≠ 0) (q279 (ai h3 (ai (by decide : (2 : Int) ≠ 0) (q286 (ai (by decide : (2 : Int) ≠ 0) (ai h5 (ai (roundI_of (P := prog) (l := 4) (args := [.p (.int .i64 (ibits .xor .i64 p2 1))]) (H := z6) (R := R82_1_1_0_1_0) (env := z12) (env1 := z12) (env2 := z12) (m := 5) (e := .ret) (by kernel_rfl) (by kernel_rfl) (by kernel_rfl) (by kernel_rfl) (path hm (σ' := z1) (ks := [2, 4, 5, 6, 7]) (cc := [.reg [] [] 0 [] [2, 4, 5, 6, 7]]) trivial (by kernel_rfl)) (by kernel_rfl) (path hm (σ' := z5) (ks := []) (cc := [.reg [] [] 0 [(6, none, .mp (Int.negSucc 0) [] [] [] 0 .junk)] [4, 5, 6, 8, 9], .reg [] [] 0 [] [4, 5, 6, 8, 25], .reg [] [] 0 [] [4, 5]]) (ai (eqD_of (k := (ibits .xor .i64 p2 1)) keq89 (rfl)) (ai (find_no (L := w4_3) (k := (ibits .xor .i64 p2 1)) keq89 (rfl) (fun _ _ => rfl) h6) trivial)) (by kernel_rfl)) (by kernel_rfl) (by kernel_rfl : _ = (.p (.bool false), z4))) trivial)))))))) (by kernel_rfl)) rfl (show _ from trivial) (by kernel_rfl)) (by kernel_rfl)
   ·have hr := Option.some.inj g5
    subst hr
    exact CallI.cast (callI_of is86 (by kernel_rfl) (m := 5) (by kernel_rfl) (e := .normal) (vs := []) (path hm (ks := []) (σ' := ⟨[], z6⟩) (cc := c285 ++ [.reg [0, 1, 3, 7, 15, 0, 32, 127, 255, 0, 512, 2047] [] 0 [(7, none, .iv (.p (.int .i64 x2))), (11, none, .b false)] [0, 2, 37]])
   (ai (by decide : (2 : Int) ≠ 0) (q279 (ai h3 (ai (by decide : (2 : Int) ≠ 0) (q286 (ai (by decide : (2 : Int) ≠ 0) (ai h5 trivial))))))) (by kernel_rfl)) rfl (show _ from trivial) (by kernel_rfl)) (by kernel_rfl)
def F82  (fuel : Nat) (p0 : (((List Int) × (List Int) × (List Int)) × (List (Int × Int)))) (p1 : Int) : Option (Int × Bool) :=
 obind (G68_924 fuel p0.1.1 p0.1.2.1 p0.1.2.2 p0.2 p1 0 false 0) fun y1 => oif (y1.1)
 ((obind (G86_5 fuel p1 p0.1.1 p0.1.2.1 p0.1.2.2 p0.2 0 true 0 y1.2 p0.1.1 p0.1.2.1 p0.1.2.2 p0.2) fun y2 => match y2 with
  | .inl y2 => oif (y2.1)
   (some (y2.2, true))
   (some (y2.2, true))
  | .inr (y2) => some (0, false)))
 ((obind (G86_5 fuel p1 p0.1.1 p0.1.2.1 p0.1.2.2 p0.2 0 false 0 y1.2 p0.1.1 p0.1.2.1 p0.1.2.2 p0.2) fun y2 => match y2 with
  | .inl y2 => oif (y2.1)
   (some (y2.2, true))
   (some (y2.2, true))
  | .inr (y2) => some (0, false)))
theorem F82_ok  (fuel : Nat) (p0 : (((List Int) × (List Int) × (List Int)) × (List (Int × Int)))) (p1 : Int)  (r : (Int × Bool)) (h : F82 fuel p0 p1 = some r) : CallP prog 82 [.ref [.sl (List.map e3 p0.1.1) false, .sl (List.map e3 p0.1.2.1) false, .sl (List.map e3 p0.1.2.2) false, .map (mapK e89 p0.2) (mapV e2 p0.2)], .int .i64 p1] (.tup [.int .i64 r.1, .bool r.2]) := by
 let z7 : MObj := .cells [.p (.bool true)] 0
 let z6 : MObj := .cells [.p (.bool false)] 0
 let z5 : MObj := .cells [.p (.int .i64 0)] 0
 let z4 : Env := [(4, .ptr 0 0 1), (5, .ptr 1 0 1)]
 let z3 : Env := [(2, .p (.ref [.ref [.sl (List.map e3 p0.1.1) false, .sl (List.map e3 p0.1.2.1) false, .sl (List.map e3 p0.1.2.2) false, .map (mapK e89 p0.2) (mapV e2 p0.2)]])), (4, .ptr 0 0 1), (5, .ptr 1 0 1), (6, .ptr 2 0 1)]
 let z2 : MObj := .loop 0 R82_1_1_0_1_0 z3 none
 let z1 : Env := [(2, .p (.ref [.ref [.sl (List.map e3 p0.1.1) false, .sl (List.map e3 p0.1.2.1) false, .sl (List.map e3 p0.1.2.2) false, .map (mapK e89 p0.2) (mapV e2 p0.2)]])), (4, .ptr 0 0 1), (5, .ptr 1 0 1), (6, .ptr 2 0 1), (12, .fn 86 [] [.ptr 3 0 1, .p (.ref [.int .i64 p1]), .p (.ref [.ref [.sl (List.map e3 p0.1.1) false, .sl (List.map e3 p0.1.2.1) false, .sl (List.map e3 p0.1.2.2) false, .map (mapK e89 p0.2) (mapV e2 p0.2)]])])]
 unfold F82 at h
 refine obind_elim h fun y1 h1 g1 => ?_
 let z8 : MObj := .cells [.p (.sl (List.map e3 y1.2) false)] 0
 let c288 : List CC := [.reg [] [] 2 [(0, none, .imm), (1, some 0, .a), (2, some 1, .a)] [1, 2, 4, 5], .reg [] [] 1 [(0, some 2, .a)] [1, 2, 4, 5, 6]]
 refine oif_elim g1 (fun h2 g2 => ?_) (fun h2 g2 => ?_)
 ·let c289 : List CC := c288 ++ [.reg [] [] 1 [(2, none, .ci (.fn 86 [] [.ptr 3 0 1, .p (.ref [.int .i64 p1]), .p (.ref [.ref [.sl (List.map e3 p0.1.1) false, .sl (List.map e3 p0.1.2.1) false, .sl (List.map e3 p0.1.2.2) false, .map (mapK e89 p0.2) (mapV e2 p0.2)]])]) [(1, z7), (3, z8)])] [2, 4, 5, 6, 12]]
  have q290 := fun {P : Prop} (t : P) => ai (CallI.cast (G68_924_ok fuel p0.1.1 p0.1.2.1 p0.1.2.2 p0.2 p1 0 false 0 _ h1) (congrArg (fun ZZ : Bool => ((.fn 86 [] [.ptr 3 0 1, .p (.ref [.int .i64 p1]), .p (.ref [.ref [.sl (List.map e3 p0.1.1) false, .sl (List.map e3 p0.1.2.1) false, .sl (List.map e3 p0.1.2.2) false, .map (mapK e89 p0.2) (mapV e2 p0.2)]])], [z5, .cells [.p (.bool ZZ)] 0, z5, z8]) : IV × List MObj)) h2)) t
  refine obind_elim g2 fun y h3 g3 => ?_
  match y, h3, g3 with
  | .inl y2, h3, g3 =>
   let z9 : MObj := .cells [.p (.int .i64 y2.2)] 0
   refine oif_elim g3 (fun h4 g4 => ?_) (fun h4 g4 => ?_)
   ·have hr := Option.some.inj g4
    subst hr
    exact callP_of is82 rfl (path hm (ks := [4, 5]) (σ' := ⟨z4, [z9, z7, z9, z8, .dead]⟩) (cc := c289 ++ [.leaf .normal ⟨z1, [z5, z7, z9, z8, .dead]⟩, .reg [] [] 0 [] [4, 5]])
   (q290 (ai (range_of (P := prog) (nt := 30) (m := 0) (n := 4) (c := codeAt [1, 1, 0, 1, 0] (bodyOf f82)) (σ := ⟨z1, [z5, z7, z5, z8]⟩) (f := 86) (args := [.yld 4, .ptr 3 0 1, .p (.ref [.int .i64 p1]), .p (.ref [.ref [.sl (List.map e3 p0.1.1) false, .sl (List.map e3 p0.1.2.1) false, .sl (List.map e3 p0.1.2.2) false, .map (mapK e89 p0.2) (mapV e2 p0.2)]])]) (H3 := [z5, z7, z9, z8, .dead]) (e := .normal) (s := 0) (R := R82_1_1_0_1_0) (R' := R82_1_1_0_1_0) (env' := z3) [2, 4, 5, 6] (by kernel_rfl) (by kernel_rfl) (by kernel_rfl) (by kernel_rfl) (CallI.cast (G86_5_ok fuel p1 p0.1.1 p0.1.2.1 p0.1.2.2 p0.2 0 true 0 y1.2 p0.1.1 p0.1.2.1 p0.1.2.2 p0.2 _ h3) (congrArg (fun ZZ : Bool => ((.tup [], [z5, .cells [.p (.bool ZZ)] 0, z9, z8, z2]) : IV × List MObj)) h4)) (by kernel_rfl) rfl (by kernel_rfl)) trivial)) (by kernel_rfl)) (e := .ret) rfl (vs := [.p (.int .i64 y2.2), .p (.bool true)]) (ai (rfl : (1:Nat) = 1) (ai (rfl : (1:Nat) = 1) trivial)) (by kernel_rfl) (.tup _ _ (.cons _ _ _ _ (.p _ _ (.refl _)) (.cons _ _ _ _ (.p _ _ (.refl _)) .nil)))
   ·have hr := Option.some.inj g4
    subst hr
    exact callP_of is82 rfl (path hm (ks := [4, 5]) (σ' := ⟨z4, [z9, z7, z9, z8, .dead]⟩) (cc := c289 ++ [.leaf .normal ⟨z1, [z5, z6, z9, z8, .dead]⟩, .reg [] [] 0 [] [4, 5]])
   (q290 (ai (range_of (P := prog) (nt := 30) (m := 0) (n := 4) (c := codeAt [1, 1, 0, 1, 0] (bodyOf f82)) (σ := ⟨z1, [z5, z7, z5, z8]⟩) (f := 86) (args := [.yld 4, .ptr 3 0 1, .p (.ref [.int .i64 p1]), .p (.ref [.ref [.sl (List.map e3 p0.1.1) false, .sl (List.map e3 p0.1.2.1) false, .sl (List.map e3 p0.1.2.2) false, .map (mapK e89 p0.2) (mapV e2 p0.2)]])]) (H3 := [z5, z6, z9, z8, .dead]) (e := .normal) (s := 0) (R := R82_1_1_0_1_0) (R' := R82_1_1_0_1_0) (env' := z3) [2, 4, 5, 6] (by kernel_rfl) (by kernel_rfl) (by kernel_rfl) (by kernel_rfl) (CallI.cast (G86_5_ok fuel p1 p0.1.1 p0.1.2.1 p0.1.2.2 p0.2 0 true 0 y1.2 p0.1.1 p0.1.2.1 p0.1.2.2 p0.2 _ h3) (congrArg (fun ZZ : Bool => ((.tup [], [z5, .cells [.p (.bool ZZ)] 0, z9, z8, z2]) : IV × List MObj)) h4)) (by kernel_rfl) rfl (by kernel_rfl)) trivial)) (by kernel_rfl)) (e := .ret) rfl (vs := [.p (.int .i64 y2.2), .p (.bool true)]) (ai (rfl : (1:Nat) = 1) (ai (rfl : (1:Nat) = 1) trivial)) (by kernel_rfl) (.tup _ _ (.cons _ _ _ _ (.p _ _ (.refl _)) (.cons _ _ _ _ (.p _ _ (.refl _)) .nil)))
  | .inr (y2), h3, g3 =>
   let z10 : MObj := .cells [.p (.int .i64 y2)] 0
   have hr := Option.some.inj g3
   subst hr
   exact callP_of is82 rfl (path hm (ks := [4, 5]) (σ' := ⟨z4, [z5, z6, z10, z8, .dead]⟩) (cc := c289 ++ [.leaf .ret ⟨z1, [z5, z6, z10, z8, .dead]⟩])
   (q290 (ai (range_of (P := prog) (nt := 30) (m := 0) (n := 4) (c := codeAt [1, 1, 0, 1, 0] (bodyOf f82)) (σ := ⟨z1, [z5, z7, z5, z8]⟩) (f := 86) (args := [.yld 4, .ptr 3 0 1, .p (.ref [.int .i64 p1]), .p (.ref [.ref [.sl (List.map e3 p0.1.1) false, .sl (List.map e3 p0.1.2.1) false, .sl (List.map e3 p0.1.2.2) false, .map (mapK e89 p0.2) (mapV e2 p0.2)]])]) (H3 := [z5, z6, z10, z8, .dead]) (e := .ret) (s := 2) (R := R82_1_1_0_1_0) (R' := R82_1_1_0_1_0) (env' := z3) [2, 4, 5, 6] (by kernel_rfl) (by kernel_rfl) (by kernel_rfl) (by kernel_rfl) (G86_5_ok fuel p1 p0.1.1 p0.1.2.1 p0.1.2.2 p0.2 0 true 0 y1.2 p0.1.1 p0.1.2.1 p0.1.2.2 p0.2 _ h3) (by kernel_rfl) rfl (by kernel_rfl)) trivial)) (by kernel_rfl)) (e := .ret) rfl (vs := [.p (.int .i64 0), .p (.bool false)]) (ai (rfl : (1:Nat) = 1) (ai (rfl : (1:Nat) = 1) trivial)) (by kernel_rfl) (.tup _ _ (.cons _ _ _ _ (.p _ _ (.refl _)) (.cons _ _ _ _ (.p _ _ (.refl _)) .nil)))
 ·let c291 : List CC := c288 ++ [.reg [] [] 1 [(2, none, .ci (.fn 86 [] [.ptr 3 0 1, .p (.ref [.int .i64 p1]), .p (.ref [.ref [.sl (List.map e3 p0.1.1) false, .sl (List.map e3 p0.1.2.1) false, .sl (List.map e3 p0.1.2.2) false, .map (mapK e89 p0.2) (mapV e2 p0.2)]])]) [(3, z8)])] [2, 4, 5, 6, 12]]
  have q292 := fun {P : Prop} (t : P) => ai (CallI.cast (G68_924_ok fuel p0.1.1 p0.1.2.1 p0.1.2.2 p0.2 p1 0 false 0 _ h1) (congrArg (fun ZZ : Bool => ((.fn 86 [] [.ptr 3 0 1, .p (.ref [.int .i64 p1]), .p (.ref [.ref [.sl (List.map e3 p0.1.1) false, .sl (List.map e3 p0.1.2.1) false, .sl (List.map e3 p0.1.2.2) false, .map (mapK e89 p0.2) (mapV e2 p0.2)]])], [z5, .cells [.p (.bool ZZ)] 0, z5, z8]) : IV × List MObj)) h2)) t
  refine obind_elim g2 fun y h3 g3 => ?_
  match y, h3, g3 with
  | .inl y2, h3, g3 =>
   let z11 : MObj := .cells [.p (.int .i64 y2.2)] 0
   refine oif_elim g3 (fun h4 g4 => ?_) (fun h4 g4 => ?_)
   ·have hr := Option.some.inj g4
    subst hr
    exact callP_of is82 rfl (path hm (ks := [4, 5]) (σ' := ⟨z4, [z11, z7, z11, z8, .dead]⟩) (cc := c291 ++ [.leaf .normal ⟨z1, [z5, z7, z11, z8, .dead]⟩, .reg [] [] 0 [] [4, 5]])
   (q292 (ai (range_of (P := prog) (nt := 30) (m := 0) (n := 4) (c := codeAt [1, 1, 0, 1, 0] (bodyOf f82)) (σ := ⟨z1, [z5, z6, z5, z8]⟩) (f := 86) (args := [.yld 4, .ptr 3 0 1, .p (.ref [.int .i64 p1]), .p (.ref [.ref [.sl (List.map e3 p0.1.1) false, .sl (List.map e3 p0.1.2.1) false, .sl (List.map e3 p0.1.2.2) false, .map (mapK e89 p0.2) (mapV e2 p0.2)]])]) (H3 := [z5, z7, z11, z8, .dead]) (e := .normal) (s := 0) (R := R82_1_1_0_1_0) (R' := R82_1_1_0_1_0) (env' := z3) [2, 4, 5, 6] (by kernel_rfl) (by kernel_rfl) (by kernel_rfl) (by kernel_rfl) (CallI.cast (G86_5_ok fuel p1 p0.1.1 p0.1.2.1 p0.1.2.2 p0.2 0 false 0 y1.2 p0.1.1 p0.1.2.1 p0.1.2.2 p0.2 _ h3) (congrArg (fun ZZ : Bool => ((.tup [], [z5, .cells [.p (.bool ZZ)] 0, z11, z8, z2]) : IV × List MObj)) h4)) (by kernel_rfl) rfl (by kernel_rfl)) trivial)) (by kernel_rfl)) (e := .ret) rfl (vs := [.p (.int .i64 y2.2), .p (.bool true)]) (ai (rfl : (1:Nat) = 1) (ai (rfl : (1:Nat) = 1) trivial)) (by kernel_rfl) (.tup _ _ (.cons _ _ _ _ (.p _ _ (.refl _)) (.cons _ _ _ _ (.p _ _ (.refl _)) .nil)))
   ·have hr := Option.some.inj g4
    subst hr
    exact callP_of is82 rfl (path hm (ks := [4, 5]) (σ' := ⟨z4, [z11, z7, z11, z8, .dead]⟩) (cc := c291 ++ [.leaf .normal ⟨z1, [z5, z6, z11, z8, .dead]⟩, .reg [] [] 0 [] [4, 5]])
   (q292 (ai (range_of (P := prog) (nt := 30) (m := 0) (n := 4) (c := codeAt [1, 1, 0, 1, 0] (bodyOf f82)) (σ := ⟨z1, [z5, z6, z5, z8]⟩) (f := 86) (args := [.yld 4, .ptr 3 0 1, .p (.ref [.int .i64 p1]), .p (.ref [.ref [.sl (List.map e3 p0.1.1) false, .sl (List.map e3 p0.1.2.1) false, .sl (List.map e3 p0.1.2.2) false, .map (mapK e89 p0.2) (mapV e2 p0.2)]])]) (H3 := [z5, z6, z11, z8, .dead]) (e := .normal) (s := 0) (R := R82_1_1_0_1_0) (R' := R82_1_1_0_1_0) (env' := z3) [2, 4, 5, 6] (by kernel_rfl) (by kernel_rfl) (by kernel_rfl) (by kernel_rfl) (CallI.cast (G86_5_ok fuel p1 p0.1.1 p0.1.2.1 p0.1.2.2 p0.2 0 false 0 y1.2 p0.1.1 p0.1.2.1 p0.1.2.2 p0.2 _ h3) (congrArg (fun ZZ : Bool => ((.tup [], [z5, .cells [.p (.bool ZZ)] 0, z11, z8, z2]) : IV × List MObj)) h4)) (by kernel_rfl) rfl (by kernel_rfl)) trivial)) (by kernel_rfl)) (e := .ret) rfl (vs := [.p (.int .i64 y2.2), .p (.bool true)]) (ai (rfl : (1:Nat) = 1) (ai (rfl : (1:Nat) = 1) trivial)) (by kernel_rfl) (.tup _ _ (.cons _ _ _ _ (.p _ _ (.refl _)) (.cons _ _ _ _ (.p _ _ (.refl _)) .nil)))
  | .inr (y2), h3, g3 =>
   let z12 : MObj := .cells [.p (.int .i64 y2)] 0
   have hr := Option.some.inj g3
   subst hr
   exact callP_of is82 rfl (path hm (ks := [4, 5]) (σ' := ⟨z4, [z5, z6, z12, z8, .dead]⟩) (cc := c291 ++ [.leaf .ret ⟨z1, [z5, z6, z12, z8, .dead]⟩])
   (q292 (ai (range_of (P := prog) (nt := 30) (m := 0) (n := 4) (c := codeAt [1, 1, 0, 1, 0] (bodyOf f82)) (σ := ⟨z1, [z5, z6, z5, z8]⟩) (f := 86) (args := [.yld 4, .ptr 3 0 1, .p (.ref [.int .i64 p1]), .p (.ref [.ref [.sl (List.map e3 p0.1.1) false, .sl (List.map e3 p0.1.2.1) false, .sl (List.map e3 p0.1.2.2) false, .map (mapK e89 p0.2) (mapV e2 p0.2)]])]) (H3 := [z5, z6, z12, z8, .dead]) (e := .ret) (s := 2) (R := R82_1_1_0_1_0) (R' := R82_1_1_0_1_0) (env' := z3) [2, 4, 5, 6] (by kernel_rfl) (by kernel_rfl) (by kernel_rfl) (by kernel_rfl) (G86_5_ok fuel p1 p0.1.1 p0.1.2.1 p0.1.2.2 p0.2 0 false 0 y1.2 p0.1.1 p0.1.2.1 p0.1.2.2 p0.2 _ h3) (by kernel_rfl) rfl (by kernel_rfl)) trivial)) (by kernel_rfl)) (e := .ret) rfl (vs := [.p (.int .i64 0), .p (.bool false)]) (ai (rfl : (1:Nat) = 1) (ai (rfl : (1:Nat) = 1) trivial)) (by kernel_rfl) (.tup _ _ (.cons _ _ _ _ (.p _ _ (.refl _)) (.cons _ _ _ _ (.p _ _ (.refl _)) .nil)))
def L64_0  (v1 : (List Int)) (v1_1 : (List Int)) (v1_2 : (List Int)) (v1_3 : (List (Int × Int))) (v4 : (List Int)) (v4_1 : (List Int)) (v4_2 : (List Int)) (v4_3 : (List (Int × Int))) : Nat → Int → Option Int
 | 0, _ => none
 | fuel + 1, w0 =>
  obind (F82 fuel ((v4, v4_1, v4_2), v4_3) w0) fun r1 => oif (r1.2)
  (L64_0 v1 v1_1 v1_2 v1_3 v4 v4_1 v4_2 v4_3 fuel (IntKind.wrap .i64 (w0 + 1)))
  (some (w0))
noncomputable def L64_0_post (v1 : (List Int)) (v1_1 : (List Int)) (v1_2 : (List Int)) (v1_3 : (List (Int × Int))) (v4 : (List Int)) (v4_1 : (List Int)) (v4_2 : (List Int)) (v4_3 : (List (Int × Int)))  : Int → Ex × St
 | y => ((.exit 0), ⟨[(1, .p (.ref [.ref [.sl (List.map e3 v1) false, .sl (List.map e3 v1_1) false, .sl (List.map e3 v1_2) false, .map (mapK e89 v1_3) (mapV e2 v1_3)]])), (2, .p (.nilsl)), (3, .p (.nilsl)), (5, .ptr 0 0 1)], [.cells [.p (.int .i64 y)] 0]⟩)
theorem L64_0_ok  (v1 : (List Int)) (v1_1 : (List Int)) (v1_2 : (List Int)) (v1_3 : (List (Int × Int))) (v4 : (List Int)) (v4_1 : (List Int)) (v4_2 : (List Int)) (v4_3 : (List (Int × Int)))  : ∀ (fuel : Nat) (w0 : Int) (r : Int), L64_0 v1 v1_1 v1_2 v1_3 v4 v4_1 v4_2 v4_3 fuel w0 = some r →
  SemJ prog ⟨61, 0, false⟩ (codeAt [1, 0, 1, 1, 1, 0, 0, 0] (bodyOf f64)) ⟨[(1, .p (.ref [.ref [.sl (List.map e3 v1) false, .sl (List.map e3 v1_1) false, .sl (List.map e3 v1_2) false, .map (mapK e89 v1_3) (mapV e2 v1_3)]])), (2, .p (.nilsl)), (3, .p (.nilsl)), (4, .p (.fn 82 [.ref [.sl (List.map e3 v4) false, .sl (List.map e3 v4_1) false, .sl (List.map e3 v4_2) false, .map (mapK e89 v4_3) (mapV e2 v4_3)]] [])), (5, .ptr 0 0 1)], [.cells [.p (.int .i64 w0)] 0]⟩ (L64_0_post v1 v1_1 v1_2 v1_3 v4 v4_1 v4_2 v4_3 r).1 (L64_0_post v1 v1_1 v1_2 v1_3 v4 v4_1 v4_2 v4_3 r).2
 | 0, _, _, h => nomatch h
 | fuel + 1, w0, r, h => by
  let z2 : Int := (IntKind.wrap .i64 (w0 + 1))
  let z1 : St := ⟨[(1, .p (.ref [.ref [.sl (List.map e3 v1) false, .sl (List.map e3 v1_1) false, .sl (List.map e3 v1_2) false, .map (mapK e89 v1_3) (mapV e2 v1_3)]])), (2, .p (.nilsl)), (3, .p (.nilsl)), (4, .p (.fn 82 [.ref [.sl (List.map e3 v4) false, .sl (List.map e3 v4_1) false, .sl (List.map e3 v4_2) false, .map (mapK e89 v4_3) (mapV e2 v4_3)]] [])), (5, .ptr 0 0 1)], [.cells [.p (.int .i64 z2)] 0]⟩
  unfold L64_0 at h
  refine obind_elim h fun r1 h1 g1 => ?_
  refine oif_elim g1 (fun h2 g2 => ?_) (fun h2 g2 => ?_)
  ·exact SemJ.again (σ1 := z1) (path hm (σ' := z1) (ks := [1, 2, 3, 4, 5]) (cc := [.reg [] [] 0 [(2, none, .call (.tup [.int .i64 r1.1, .bool true]))] [1, 2, 3, 4, 5, 7], .reg [] [] 0 [] [1, 2, 3, 4, 5, 21], .reg [] [] 0 [] [1, 2, 3, 4, 5]])
    (ai (show CallP prog 82 [.ref [.sl (List.map e3 v4) false, .sl (List.map e3 v4_1) false, .sl (List.map e3 v4_2) false, .map (mapK e89 v4_3) (mapV e2 v4_3)], .int .i64 w0] (.tup [.int .i64 r1.1, .bool true]) from h2 ▸ (F82_ok fuel ((v4, v4_1, v4_2), v4_3) w0 _ h1)) trivial) (by kernel_rfl)) (L64_0_ok v1 v1_1 v1_2 v1_3 v4 v4_1 v4_2 v4_3 fuel z2 _ g2)
  ·have hr := Option.some.inj g2
   subst hr
   exact SemC.cast (SemJ.out (e := (.exit 0)) (path hm (σ' := ⟨[(1, .p (.ref [.ref [.sl (List.map e3 v1) false, .sl (List.map e3 v1_1) false, .sl (List.map e3 v1_2) false, .map (mapK e89 v1_3) (mapV e2 v1_3)]])), (2, .p (.nilsl)), (3, .p (.nilsl)), (5, .ptr 0 0 1)], [.cells [.p (.int .i64 w0)] 0]⟩) (ks := [1, 2, 3, 5]) (cc := [.reg [] [] 0 [(2, none, .call (.tup [.int .i64 r1.1, .bool false]))] [1, 2, 3, 4, 5, 7], .reg [] [] 0 [] [1, 2, 3, 4, 5, 21]])
    (ai (show CallP prog 82 [.ref [.sl (List.map e3 v4) false, .sl (List.map e3 v4_1) false, .sl (List.map e3 v4_2) false, .map (mapK e89 v4_3) (mapV e2 v4_3)], .int .i64 w0] (.tup [.int .i64 r1.1, .bool false]) from h2 ▸ (F82_ok fuel ((v4, v4_1, v4_2), v4_3) w0 _ h1)) trivial) (by kernel_rfl)) (by simp)) (by kernel_rfl) (by kernel_rfl)
def G68_936  (fuel : Nat) (p0 : (List Int)) (p0_1 : (List Int)) (p0_2 : (List Int)) (p0_3 : (List (Int × Int))) (p1 : Int) (w0 : Int) (w1 : (List Int)) : Option (List Int) :=
 oif (((Int.tmod p1 2) == 1))
 (some p0_1)
 (some p0)
noncomputable def G68_936_post (p0 : (List Int)) (p0_1 : (List Int)) (p0_2 : (List Int)) (p0_3 : (List (Int × Int))) (p1 : Int) (w0 : Int) (w1 : (List Int))  : (List Int) → IV × List MObj
 | y => (.fn 86 [] [.ptr 2 0 1, .p (.ref [.int .i64 p1]), .p (.ref [.ref [.sl (List.map e3 p0) false, .sl (List.map e3 p0_1) false, .sl (List.map e3 p0_2) false, .map (mapK e89 p0_3) (mapV e2 p0_3)]])], [.cells [.p (.int .i64 w0)] 0, .cells (rowI e3 w1) 1, .cells [.p (.sl (List.map e3 y) false)] 0])
theorem G68_936_ok  (fuel : Nat) (p0 : (List Int)) (p0_1 : (List Int)) (p0_2 : (List Int)) (p0_3 : (List (Int × Int))) (p1 : Int) (w0 : Int) (w1 : (List Int))  (r : (List Int)) (h : G68_936 fuel p0 p0_1 p0_2 p0_3 p1 w0 w1 = some r) : CallI prog 68 [.p (.ref [.sl (List.map e3 p0) false, .sl (List.map e3 p0_1) false, .sl (List.map e3 p0_2) false, .map (mapK e89 p0_3) (mapV e2 p0_3)]), .p (.int .i64 p1)] [.cells [.p (.int .i64 w0)] 0, .cells (rowI e3 w1) 1, .hole] (G68_936_post p0 p0_1 p0_2 p0_3 p1 w0 w1 r).1 (G68_936_post p0 p0_1 p0_2 p0_3 p1 w0 w1 r).2 := by
 let z4 : MObj := .cells [.p (.int .i64 w0)] 0
 let z3 : MObj := .cells [.p (.sl (List.map e3 p0) false)] 0
 let z2 : MObj := .cells [.p (.sl (List.map e3 p0_1) false)] 0
 let z1 : Env := [(4, .fn 86 [] [.ptr 3 0 1, .p (.ref [.int .i64 p1]), .p (.ref [.ref [.sl (List.map e3 p0) false, .sl (List.map e3 p0_1) false, .sl (List.map e3 p0_2) false, .map (mapK e89 p0_3) (mapV e2 p0_3)]])])]
 unfold G68_936 at h
 let c293 : List CC := [.reg [] [] 0 [(0, none, .imm), (1, none, .imm)] [2, 3], .reg [] [] 1 [(5, some 3, .a)] [2, 3, 5]]
 refine oif_elim h (fun h1 g1 => ?_) (fun h1 g1 => ?_)
 ·have hr := Option.some.inj g1
  subst hr
  exact CallI.cast (callI_of is68 (by kernel_rfl) (m := 3) (by kernel_rfl) (e := .ret) (vs := [.fn 86 [] [.ptr 2 0 1, .p (.ref [.int .i64 p1]), .p (.ref [.ref [.sl (List.map e3 p0) false, .sl (List.map e3 p0_1) false, .sl (List.map e3 p0_2) false, .map (mapK e89 p0_3) (mapV e2 p0_3)]])]]) (SemC.post (path hm (ks := [4]) (σ' := ⟨z1, [z4, .cells (rowI e3 w1) 1, .hole, z2]⟩) (cc := c293 ++ [.reg [] [] 0 [(2, none, .b true)] [2, 3, 5, 13], .reg [] [] 0 [] [2, 3, 5], .reg [] [] 0 [] [4]])
   (ai (by decide : (2 : Int) ≠ 0) (ai h1 trivial)) (by kernel_rfl)) (Weak.sel [0, 1, 3] (selH_cons (o := z4) (o' := z4) (by kernel_rfl) (sel_x (by kernel_rfl)) (selH_cons (o := .cells (rowI e3 w1) 1) (o' := .cells (rowI e3 w1) 1) (by kernel_rfl) sel_row (selH_cons (o := z2) (o' := z2) (by kernel_rfl) (sel_x (by kernel_rfl)) trivial))) (by kernel_rfl) (by kernel_rfl))) rfl (show _ from trivial) (by kernel_rfl)) (by kernel_rfl)
 ·have hr := Option.some.inj g1
  subst hr
  exact CallI.cast (callI_of is68 (by kernel_rfl) (m := 3) (by kernel_rfl) (e := .ret) (vs := [.fn 86 [] [.ptr 2 0 1, .p (.ref [.int .i64 p1]), .p (.ref [.ref [.sl (List.map e3 p0) false, .sl (List.map e3 p0_1) false, .sl (List.map e3 p0_2) false, .map (mapK e89 p0_3) (mapV e2 p0_3)]])]]) (SemC.post (path hm (ks := [4]) (σ' := ⟨z1, [z4, .cells (rowI e3 w1) 1, .hole, z3]⟩) (cc := c293 ++ [.reg [] [] 0 [(2, none, .b false)] [2, 3, 5, 13], .reg [] [] 0 [] [4]])
   (ai (by decide : (2 : Int) ≠ 0) (ai h1 trivial)) (by kernel_rfl)) (Weak.sel [0, 1, 3] (selH_cons (o := z4) (o' := z4) (by kernel_rfl) (sel_x (by kernel_rfl)) (selH_cons (o := .cells (rowI e3 w1) 1) (o' := .cells (rowI e3 w1) 1) (by kernel_rfl) sel_row (selH_cons (o := z3) (o' := z3) (by kernel_rfl) (sel_x (by kernel_rfl)) trivial))) (by kernel_rfl) (by kernel_rfl))) rfl (show _ from trivial) (by kernel_rfl)) (by kernel_rfl)
def G86_6  (fuel : Nat) (p2 : Int) (p3 : (List Int)) (p3_1 : (List Int)) (p3_2 : (List Int)) (p3_3 : (List (Int × Int))) (w0 : (List Int)) (w1 : Int) (w2 : (List Int)) (w3 : (List Int)) (w3_1 : (List Int)) (w3_2 : (List Int)) (w3_3 : (List (Int × Int))) : Option (Unit ⊕ Int) :=
 obind (F81 fuel w2 (IntKind.wrap .i64 (Int.tdiv p2 2))) fun r1 => oif ((decide (r1 > 0)))
 (obind (sg w2 (IntKind.wrap .i64 (r1 - 1))) fun x2 => oif (mhas w3_3 (IntKind.wrap .i64 ((IntKind.wrap .i64 (2 * x2)) + (Int.tmod p2 2))))
  (obind (mget w3_3 (IntKind.wrap .i64 ((IntKind.wrap .i64 (2 * x2)) + (Int.tmod p2 2)))) fun x3 => obind (sg p3_2 (IntKind.wrap .i64 (Int.tdiv p2 2))) fun x4 => oif ((x4 != (Int.tmod p2 2)))
   (oif (mhas w3_3 (ibits .xor .i64 p2 1))
    (obind (mget w3_3 (ibits .xor .i64 p2 1)) fun x5 => some (.inl ()))
    (some (.inr ((ibits .xor .i64 p2 1)))))
   (some (.inl ())))
  (some (.inr ((IntKind.wrap .i64 ((IntKind.wrap .i64 (2 * x2)) + (Int.tmod p2 2)))))))
 (obind (sg p3_2 (IntKind.wrap .i64 (Int.tdiv p2 2))) fun x2 => oif ((x2 != (Int.tmod p2 2)))
  (oif (mhas w3_3 (ibits .xor .i64 p2 1))
   (obind (mget w3_3 (ibits .xor .i64 p2 1)) fun x3 => some (.inl ()))
   (some (.inr ((ibits .xor .i64 p2 1)))))
  (some (.inl ())))
noncomputable def G86_6_post (p2 : Int) (p3 : (List Int)) (p3_1 : (List Int)) (p3_2 : (List Int)) (p3_3 : (List (Int × Int))) (w0 : (List Int)) (w1 : Int) (w2 : (List Int)) (w3 : (List Int)) (w3_1 : (List Int)) (w3_2 : (List Int)) (w3_3 : (List (Int × Int)))  : (Unit ⊕ Int) → IV × List MObj
 | .inl y => (.tup [], [.cells (rowI e3 w0) 1, .cells [.p (.int .i64 w1)] 0, .cells [.p (.sl (List.map e3 w2) false)] 0, .loop 0 R64_1_0_1_1_1_1_1_0_0_0_0_1_1_1_0 [(1, .p (.ref [.ref [.sl (List.map e3 w3) false, .sl (List.map e3 w3_1) false, .sl (List.map e3 w3_2) false, .map (mapK e89 w3_3) (mapV e2 w3_3)]])), (2, .p (.nilsl)), (3, .msl 0 0 (List.length w0) (List.length (rowI e3 w0)) false), (5, .ptr 1 0 1)] none])
 | .inr (y) => (.tup [], [.cells (rowI e3 w0) 1, .cells [.p (.int .i64 y)] 0, .cells [.p (.sl (List.map e3 w2) false)] 0, .loop 2 R64_1_0_1_1_1_1_1_0_0_0_0_1_1_1_0 [(1, .p (.ref [.ref [.sl (List.map e3 w3) false, .sl (List.map e3 w3_1) false, .sl (List.map e3 w3_2) false, .map (mapK e89 w3_3) (mapV e2 w3_3)]])), (2, .p (.nilsl)), (3, .msl 0 0 (List.length w0) (List.length (rowI e3 w0)) false), (5, .ptr 1 0 1)] (some (.exit 3))])
theorem G86_6_ok  (fuel : Nat) (p2 : Int) (p3 : (List Int)) (p3_1 : (List Int)) (p3_2 : (List Int)) (p3_3 : (List (Int × Int))) (w0 : (List Int)) (w1 : Int) (w2 : (List Int)) (w3 : (List Int)) (w3_1 : (List Int)) (w3_2 : (List Int)) (w3_3 : (List (Int × Int)))  (r : (Unit ⊕ Int)) (h : G86_6 fuel p2 p3 p3_1 p3_2 p3_3 w0 w1 w2 w3 w3_1 w3_2 w3_3 = some r) : CallI prog 86 [.yld 3, .ptr 2 0 1, .p (.ref [.int .i64 p2]), .p (.ref [.ref [.sl (List.map e3 p3) false, .sl (List.map e3 p3_1) false, .sl (List.map e3 p3_2) false, .map (mapK e89 p3_3) (mapV e2 p3_3)]])] [.cells (rowI e3 w0) 1, .cells [.p (.int .i64 w1)] 0, .cells [.p (.sl (List.map e3 w2) false)] 0, .loop 0 R64_1_0_1_1_1_1_1_0_0_0_0_1_1_1_0 [(1, .p (.ref [.ref [.sl (List.map e3 w3) false, .sl (List.map e3 w3_1) false, .sl (List.map e3 w3_2) false, .map (mapK e89 w3_3) (mapV e2 w3_3)]])), (2, .p (.nilsl)), (3, .msl 0 0 (List.length w0) (List.length (rowI e3 w0)) false), (5, .ptr 1 0 1)] none] (G86_6_post p2 p3 p3_1 p3_2 p3_3 w0 w1 w2 w3 w3_1 w3_2 w3_3 r).1 (G86_6_post p2 p3 p3_1 p3_2 p3_3 w0 w1 w2 w3 w3_1 w3_2 w3_3 r).2 := by
 let z13 : MObj := .cells [.p (.int .i64 w1)] 0
 let z12 : MObj := .cells [.p (.sl (List.map e3 w2) false)] 0
 let z11 : MObj := .cells [.p (.int .i64 (ibits .xor .i64 p2 1))] 0
 let z10 : Env := [(1, .p (.ref [.ref [.sl (List.map e3 w3) false, .sl (List.map e3 w3_1) false, .sl (List.map e3 w3_2) false, .map (mapK e89 w3_3) (mapV e2 w3_3)]])), (2, .p (.nilsl)), (3, .msl 0 0 (List.length w0) (List.length (rowI e3 w0)) false), (5, .ptr 1 0 1)]
 let z9 : MObj := .loop 1 R64_1_0_1_1_1_1_1_0_0_0_0_1_1_1_0 z10 none
 let z8 : MObj := .loop 2 R64_1_0_1_1_1_1_1_0_0_0_0_1_1_1_0 z10 (some (.exit 3))
 let z7 : List MObj := [.cells (rowI e3 w0) 1, z13, z12, .loop 0 R64_1_0_1_1_1_1_1_0_0_0_0_1_1_1_0 z10 none]
 let z6 : St := ⟨[], z7⟩
 let z5 : St := ⟨[], [.cells (rowI e3 w0) 1, z13, z12, z9]⟩
 let z4 : St := ⟨[], [.cells (rowI e3 w0) 1, z11, z12, z9]⟩
 let z3 : List MObj := [.cells (rowI e3 w0) 1, z11, z12, z8]
 let z2 : St := ⟨[], z3⟩
 let z1 : St := ⟨[(1, .p (.ref [.ref [.sl (List.map e3 w3) false, .sl (List.map e3 w3_1) false, .sl (List.map e3 w3_2) false, .map (mapK e89 w3_3) (mapV e2 w3_3)]])), (2, .p (.nilsl)), (3, .msl 0 0 (List.length w0) (List.length (rowI e3 w0)) false), (5, .ptr 1 0 1), (9, .p (.int .i64 (ibits .xor .i64 p2 1)))], z7⟩
 unfold G86_6 at h
 refine obind_elim h fun r1 h1 g1 => ?_
 let c294 : List CC := [.reg [] [] 0 [(3, none, .call (.int .i64 r1))] [0, 1, 2, 3, 5]]
 have q295 := fun {P : Prop} (t : P) => ai (F81_ok fuel w2 (IntKind.wrap .i64 (Int.tdiv p2 2)) false _ h1) t
 refine oif_elim g1 (fun h2 g2 => ?_) (fun h2 g2 => ?_)
 ·refine obind_elim g2 fun x2 h3 g3 => ?_
  let z16 : Int := (IntKind.wrap .i64 ((IntKind.wrap .i64 (2 * x2)) + (Int.tmod p2 2)))
  let z15 : MObj := .cells [.p (.int .i64 z16)] 0
  let z14 : Env := [(1, .p (.ref [.ref [.sl (List.map e3 w3) false, .sl (List.map e3 w3_1) false, .sl (List.map e3 w3_2) false, .map (mapK e89 w3_3) (mapV e2 w3_3)]])), (2, .p (.nilsl)), (3, .msl 0 0 (List.length w0) (List.length (rowI e3 w0)) false), (5, .ptr 1 0 1), (9, .p (.int .i64 z16))]
  have q296 := fun {P : Prop} (t : P) => ai h2 (ai (sg_map (f := e3) h3) t)
  refine oif_elim g3 (fun h4 g4 => ?_) (fun h4 g4 => ?_)
  ·refine obind_elim g4 fun x3 h5 g5 => ?_
   refine obind_elim g5 fun x4 h6 g6 => ?_
   let c297 : List CC := c294 ++ [.reg [0, 1, 3, 7, 7, 7, 39, 119, 247, 503, 7, 1031, 4087, 8191, 16383, 32767] [] 0 [(1, none, .b true), (7, none, .iv (.p (.int .i64 x2))), (13, none, .ci (.p (.bool true)) [])] [0, 2, 3, 25]]
   have q298 := fun {P : Prop} (t : P) => ai (roundI_of (P := prog) (l := 3) (args := [.p (.int .i64 z16)]) (H := z7) (R := R64_1_0_1_1_1_1_1_0_0_0_0_1_1_1_0) (env := z10) (env1 := z10) (env2 := z10) (m := 4) (e := .normal) (by kernel_rfl) (by kernel_rfl) (by kernel_rfl) (by kernel_rfl) (path hm (σ' := ⟨z14, z7⟩) (ks := [1, 2, 3, 5, 9]) (cc := [.reg [] [] 0 [] [1, 2, 3, 5, 9]]) trivial (by kernel_rfl)) (by kernel_rfl) (path hm (σ' := z5) (ks := []) (cc := [.reg [] [] 0 [(6, none, .mp (Int.ofNat (midx w3_3 z16)) [] [] [] 0 (.int .i64 x3))] [1, 2, 3, 5, 9, 11], .reg [] [] 0 [] [1, 2, 3, 5, 9, 56]]) (ai (eqD_of (k := z16) keq89 (rfl)) (ai (find_yes (L := w3_3) (k := z16) keq89 (rfl) (fun _ _ => rfl) h4) (ai (val_at e2 h5) trivial))) (by kernel_rfl)) (by kernel_rfl) (by kernel_rfl : _ = (.p (.bool true), z7))) t
   have q299 := fun {P : Prop} (t : P) => ai (sg_map (f := e3) h6) t
   refine oif_elim g6 (fun h7 g7 => ?_) (fun h7 g7 => ?_)
   ·let c300 : List CC := c297 ++ [.reg [0, 1, 3, 7, 15, 0, 32, 127, 255, 0, 512, 2047] [] 0 [(7, none, .iv (.p (.int .i64 x4))), (11, none, .b true)] [0, 2, 37]]
    refine oif_elim g7 (fun h8 g8 => ?_) (fun h8 g8 => ?_)
    ·refine obind_elim g8 fun x5 h9 g9 => ?_
     have hr := Option.some.inj g9
     subst hr
     exact CallI.cast (callI_of is86 (by kernel_rfl) (m := 4) (by kernel_rfl) (e := .normal) (vs := []) (path hm (ks := []) (σ' := z6) (cc := c300 ++ [.reg [] [] 0 [(3, none, .ci (.p (.bool true)) [])] []])
   (ai (by decide : (2 : Int) ≠ 0) (q295 (q296 (ai (by decide : (2 : Int) ≠ 0) (q298 (ai (by decide : (2 : Int) ≠ 0) (q299 (ai (by decide : (2 : Int) ≠ 0) (ai h7 (ai (roundI_of (P := prog) (l := 3) (args := [.p (.int .i64 (ibits .xor .i64 p2 1))]) (H := z7) (R := R64_1_0_1_1_1_1_1_0_0_0_0_1_1_1_0) (env := z10) (env1 := z10) (env2 := z10) (m := 4) (e := .normal) (by kernel_rfl) (by kernel_rfl) (by kernel_rfl) (by kernel_rfl) (path hm (σ' := z1) (ks := [1, 2, 3, 5, 9]) (cc := [.reg [] [] 0 [] [1, 2, 3, 5, 9]]) trivial (by kernel_rfl)) (by kernel_rfl) (path hm (σ' := z5) (ks := []) (cc := [.reg [] [] 0 [(6, none, .mp (Int.ofNat (midx w3_3 (ibits .xor .i64 p2 1))) [] [] [] 0 (.int .i64 x5))] [1, 2, 3, 5, 9, 11], .reg [] [] 0 [] [1, 2, 3, 5, 9, 56]]) (ai (eqD_of (k := (ibits .xor .i64 p2 1)) keq89 (rfl)) (ai (find_yes (L := w3_3) (k := (ibits .xor .i64 p2 1)) keq89 (rfl) (fun _ _ => rfl) h8) (ai (val_at e2 h9) trivial))) (by kernel_rfl)) (by kernel_rfl) (by kernel_rfl : _ = (.p (.bool true), z7))) trivial)))))))))) (by kernel_rfl)) rfl (show _ from trivial) (by kernel_rfl)) (by kernel_rfl)
    ·have hr := Option.some.inj g8
     subst hr
     exact CallI.cast (callI_of is86 (by kernel_rfl) (m := 4) (by kernel_rfl) (e := .normal) (vs := []) (path hm (ks := []) (σ' := z2) (cc := c300 ++ [.reg [] [] 0 [(3, none, .ci (.p (.bool false)) [(1, z11), (3, z8)])] []])
   (ai (by decide : (2 : Int) ≠ 0) (q295 (q296 (ai (by decide : (2 : Int) ≠ 0) (q298 (ai (by decide : (2 : Int) ≠ 0) (q299 (ai (by decide : (2 : Int) ≠ 0) (ai h7 (ai (roundI_of (P := prog) (l := 3) (args := [.p (.int .i64 (ibits .xor .i64 p2 1))]) (H := z7) (R := R64_1_0_1_1_1_1_1_0_0_0_0_1_1_1_0) (env := z10) (env1 := z10) (env2 := z10) (m := 4) (e := (.exit 3)) (by kernel_rfl) (by kernel_rfl) (by kernel_rfl) (by kernel_rfl) (path hm (σ' := z1) (ks := [1, 2, 3, 5, 9]) (cc := [.reg [] [] 0 [] [1, 2, 3, 5, 9]]) trivial (by kernel_rfl)) (by kernel_rfl) (path hm (σ' := z4) (ks := []) (cc := [.reg [] [] 0 [(6, none, .mp (Int.negSucc 0) [] [] [] 0 .junk)] [1, 2, 3, 5, 9, 11], .reg [] [] 0 [] [1, 2, 3, 5, 9, 56], .reg [] [] 0 [] [1, 2, 3, 5]]) (ai (eqD_of (k := (ibits .xor .i64 p2 1)) keq89 (rfl)) (ai (find_no (L := w3_3) (k := (ibits .xor .i64 p2 1)) keq89 (rfl) (fun _ _ => rfl) h8) trivial)) (by kernel_rfl)) (by kernel_rfl) (by kernel_rfl : _ = (.p (.bool false), z3))) trivial)))))))))) (by kernel_rfl)) rfl (show _ from trivial) (by kernel_rfl)) (by kernel_rfl)
   ·have hr := Option.some.inj g7
    subst hr
    exact CallI.cast (callI_of is86 (by kernel_rfl) (m := 4) (by kernel_rfl) (e := .normal) (vs := []) (path hm (ks := []) (σ' := z6) (cc := c297 ++ [.reg [0, 1, 3, 7, 15, 0, 32, 127, 255, 0, 512, 2047] [] 0 [(7, none, .iv (.p (.int .i64 x4))), (11, none, .b false)] [0, 2, 37]])
   (ai (by decide : (2 : Int) ≠ 0) (q295 (q296 (ai (by decide : (2 : Int) ≠ 0) (q298 (ai (by decide : (2 : Int) ≠ 0) (q299 (ai (by decide : (2 : Int) ≠ 0) (ai h7 trivial))))))))) (by kernel_rfl)) rfl (show _ from trivial) (by kernel_rfl)) (by kernel_rfl)
  ·have hr := Option.some.inj g4
   subst hr
   exact CallI.cast (callI_of is86 (by kernel_rfl) (m := 4) (by kernel_rfl) (e := .ret) (vs := []) (path hm (ks := []) (σ' := ⟨[], [.cells (rowI e3 w0) 1, z15, z12, z8]⟩) (cc := c294 ++ [.reg [0, 1, 3, 7, 7, 7, 39, 119, 247, 503, 7, 1031, 4087, 8191, 16383, 32767] [(1, 13), (3, 13)] 0 [(1, none, .b true), (7, none, .iv (.p (.int .i64 x2))), (13, none, .ci (.p (.bool false)) [(1, z15), (3, z8)])] [0, 2, 3, 25]])
   (ai (by decide : (2 : Int) ≠ 0) (q295 (q296 (ai (by decide : (2 : Int) ≠ 0) (ai (roundI_of (P := prog) (l := 3) (args := [.p (.int .i64 z16)]) (H := z7) (R := R64_1_0_1_1_1_1_1_0_0_0_0_1_1_1_0) (env := z10) (env1 := z10) (env2 := z10) (m := 4) (e := (.exit 3)) (by kernel_rfl) (by kernel_rfl) (by kernel_rfl) (by kernel_rfl) (path hm (σ' := ⟨z14, z7⟩) (ks := [1, 2, 3, 5, 9]) (cc := [.reg [] [] 0 [] [1, 2, 3, 5, 9]]) trivial (by kernel_rfl)) (by kernel_rfl) (path hm (σ' := ⟨[], [.cells (rowI e3 w0) 1, z15, z12, z9]⟩) (ks := []) (cc := [.reg [] [] 0 [(6, none, .mp (Int.negSucc 0) [] [] [] 0 .junk)] [1, 2, 3, 5, 9, 11], .reg [] [] 0 [] [1, 2, 3, 5, 9, 56], .reg [] [] 0 [] [1, 2, 3, 5]]) (ai (eqD_of (k := z16) keq89 (rfl)) (ai (find_no (L := w3_3) (k := z16) keq89 (rfl) (fun _ _ => rfl) h4) trivial)) (by kernel_rfl)) (by kernel_rfl) (by kernel_rfl : _ = (.p (.bool false), [.cells (rowI e3 w0) 1, z15, z12, z8]))) trivial))))) (by kernel_rfl)) rfl (show _ from trivial) (by kernel_rfl)) (by kernel_rfl)
 ·refine obind_elim g2 fun x2 h3 g3 => ?_
  let c301 : List CC := c294 ++ [.reg [0, 1, 3, 7, 7, 7, 39, 119, 247, 503, 7, 1031, 4087, 8191, 16383, 32767] [] 0 [(1, none, .b false)] [0, 2, 3, 25]]
  have q302 := fun {P : Prop} (t : P) => ai (sg_map (f := e3) h3) t
  refine oif_elim g3 (fun h4 g4 => ?_) (fun h4 g4 => ?_)
  ·let c303 : List CC := c301 ++ [.reg [0, 1, 3, 7, 15, 0, 32, 127, 255, 0, 512, 2047] [] 0 [(7, none, .iv (.p (.int .i64 x2))), (11, none, .b true)] [0, 2, 37]]
   refine oif_elim g4 (fun h5 g5 => ?_) (fun h5 g5 => ?_)
   ·refine obind_elim g5 fun x3 h6 g6 => ?_
    have hr := Option.some.inj g6
    subst hr
    exact CallI.cast (callI_of is86 (by kernel_rfl) (m := 4) (by kernel_rfl) (e := .normal) (vs := []) (path hm (ks := []) (σ' := z6) (cc := c303 ++ [.reg [] [] 0 [(3, none, .ci (.p (.bool true)) [])] []])
   (ai (by decide : (2 : Int) ≠ 0) (q295 (ai h2 (ai (by decide : (2 : Int) ≠ 0) (q302 (ai (by decide : (2 : Int) ≠ 0) (ai h4 (ai (roundI_of (P := prog) (l := 3) (args := [.p (.int .i64 (ibits .xor .i64 p2 1))]) (H := z7) (R := R64_1_0_1_1_1_1_1_0_0_0_0_1_1_1_0) (env := z10) (env1 := z10) (env2 := z10) (m := 4) (e := .normal) (by kernel_rfl) (by kernel_rfl) (by kernel_rfl) (by kernel_rfl) (path hm (σ' := z1) (ks := [1, 2, 3, 5, 9]) (cc := [.reg [] [] 0 [] [1, 2, 3, 5, 9]]) trivial (by kernel_rfl)) (by kernel_rfl) (path hm (σ' := z5) (ks := []) (cc := [.reg [] [] 0 [(6, none, .mp (Int.ofNat (midx w3_3 (ibits .xor .i64 p2 1))) [] [] [] 0 (.int .i64 x3))] [1, 2, 3, 5, 9, 11], .reg [] [] 0 [] [1, 2, 3, 5, 9, 56]]) (ai (eqD_of (k := (ibits .xor .i64 p2 1)) keq89 (rfl)) (ai (find_yes (L := w3_3) (k := (ibits .xor .i64 p2 1)) keq89 (rfl) (fun _ _ => rfl) h5) (ai (val_at e2 h6) trivial))) (by kernel_rfl)) (by kernel_rfl) (by kernel_rfl : _ = (.p (.bool true), z7))) trivial)))))))) (by kernel_rfl)) rfl (show _ from trivial) (by kernel_rfl)) (by kernel_rfl)
   ·have hr := Option.some.inj g5
    subst hr
    exact CallI.cast (callI_of is86 (by kernel_rfl) (m := 4) (by kernel_rfl) (e := .normal) (vs := []) (path hm (ks := []) (σ' := z2) (cc := c303 ++ [.reg [] [] 0 [(3, none, .ci (.p (.bool false)) [(1, z11), (3, z8)])] []])
   (ai (by decide : (2 : Int) ≠ 0) (q295 (ai h2 (ai (by decide : (2 : Int) ≠ 0) (q302 (ai (by decide : (2 : Int) ≠ 0) (ai h4 (ai (roundI_of (P := prog) (l := 3) (args := [.p (.int .i64 (ibits .xor .i64 p2 1))]) (H := z7) (R := R64_1_0_1_1_1_1_1_0_0_0_0_1_1_1_0) (env := z10) (env1 := z10) (env2 := z10) (m := 4) (e := (.exit 3)) (by kernel_rfl) (by kernel_rfl) (by kernel_rfl) (by kernel_rfl) (path hm (σ' := z1) (ks := [1, 2, 3, 5, 9]) (cc := [.reg [] [] 0 [] [1, 2, 3, 5, 9]]) trivial (by kernel_rfl)) (by kernel_rfl) (path hm (σ' := z4) (ks := []) (cc := [.reg [] [] 0 [(6, none, .mp (Int.negSucc 0) [] [] [] 0 .junk)] [1, 2, 3, 5, 9, 11], .reg [] [] 0 [] [1, 2, 3, 5, 9, 56], .reg [] [] 0 [] [1, 2, 3, 5]]) (ai (eqD_of (k := (ibits .xor .i64 p2 1)) keq89 (rfl)) (ai (find_no (L := w3_3) (k := (ibits .xor .i64 p2 1)) keq89 (rfl) (fun _ _ => rfl) h5) trivial)) (by kernel_rfl)) (by kernel_rfl) (by kernel_rfl : _ = (.p (.bool false), z3))) trivial)))))))) (by kernel_rfl)) rfl (show _ from trivial) (by kernel_rfl)) (by kernel_rfl)
  ·have hr := Option.some.inj g4
   subst hr
   exact CallI.cast (callI_of is86 (by kernel_rfl) (m := 4) (by kernel_rfl) (e := .normal) (vs := []) (path hm (ks := []) (σ' := z6) (cc := c301 ++ [.reg [0, 1, 3, 7, 15, 0, 32, 127, 255, 0, 512, 2047] [] 0 [(7, none, .iv (.p (.int .i64 x2))), (11, none, .b false)] [0, 2, 37]])
   (ai (by decide : (2 : Int) ≠ 0) (q295 (ai h2 (ai (by decide : (2 : Int) ≠ 0) (q302 (ai (by decide : (2 : Int) ≠ 0) (ai h4 trivial))))))) (by kernel_rfl)) rfl (show _ from trivial) (by kernel_rfl)) (by kernel_rfl)
def G68_939  (fuel : Nat) (p0 : (List Int)) (p0_1 : (List Int)) (p0_2 : (List Int)) (p0_3 : (List (Int × Int))) (p1 : Int) (w0 : (List Int)) (w1 : Int) (w2 : (List Int)) : Option (List Int) :=
 oif (((Int.tmod p1 2) == 1))
 (some p0_1)
 (some p0)
noncomputable def G68_939_post (p0 : (List Int)) (p0_1 : (List Int)) (p0_2 : (List Int)) (p0_3 : (List (Int × Int))) (p1 : Int) (w0 : (List Int)) (w1 : Int) (w2 : (List Int))  : (List Int) → IV × List MObj
 | y => (.fn 86 [] [.ptr 3 0 1, .p (.ref [.int .i64 p1]), .p (.ref [.ref [.sl (List.map e3 p0) false, .sl (List.map e3 p0_1) false, .sl (List.map e3 p0_2) false, .map (mapK e89 p0_3) (mapV e2 p0_3)]])], [.cells (rowI e3 w0) 1, .cells [.p (.int .i64 w1)] 0, .cells (rowI e3 w2) 1, .cells [.p (.sl (List.map e3 y) false)] 0])
theorem G68_939_ok  (fuel : Nat) (p0 : (List Int)) (p0_1 : (List Int)) (p0_2 : (List Int)) (p0_3 : (List (Int × Int))) (p1 : Int) (w0 : (List Int)) (w1 : Int) (w2 : (List Int))  (r : (List Int)) (h : G68_939 fuel p0 p0_1 p0_2 p0_3 p1 w0 w1 w2 = some r) : CallI prog 68 [.p (.ref [.sl (List.map e3 p0) false, .sl (List.map e3 p0_1) false, .sl (List.map e3 p0_2) false, .map (mapK e89 p0_3) (mapV e2 p0_3)]), .p (.int .i64 p1)] [.cells (rowI e3 w0) 1, .cells [.p (.int .i64 w1)] 0, .cells (rowI e3 w2) 1, .hole] (G68_939_post p0 p0_1 p0_2 p0_3 p1 w0 w1 w2 r).1 (G68_939_post p0 p0_1 p0_2 p0_3 p1 w0 w1 w2 r).2 := by
 let z4 : MObj := .cells [.p (.int .i64 w1)] 0
 let z3 : MObj := .cells [.p (.sl (List.map e3 p0) false)] 0
 let z2 : MObj := .cells [.p (.sl (List.map e3 p0_1) false)] 0
 let z1 : Env := [(4, .fn 86 [] [.ptr 4 0 1, .p (.ref [.int .i64 p1]), .p (.ref [.ref [.sl (List.map e3 p0) false, .sl (List.map e3 p0_1) false, .sl (List.map e3 p0_2) false, .map (mapK e89 p0_3) (mapV e2 p0_3)]])])]
 unfold G68_939 at h
 let c304 : List CC := [.reg [] [] 0 [(0, none, .imm), (1, none, .imm)] [2, 3], .reg [] [] 1 [(5, some 4, .a)] [2, 3, 5]]
 refine oif_elim h (fun h1 g1 => ?_) (fun h1 g1 => ?_)
 ·have hr := Option.some.inj g1
  subst hr
  exact CallI.cast (callI_of is68 (by kernel_rfl) (m := 4) (by kernel_rfl) (e := .ret) (vs := [.fn 86 [] [.ptr 3 0 1, .p (.ref [.int .i64 p1]), .p (.ref [.ref [.sl (List.map e3 p0) false, .sl (List.map e3 p0_1) false, .sl (List.map e3 p0_2) false, .map (mapK e89 p0_3) (mapV e2 p0_3)]])]]) (SemC.post (path hm (ks := [4]) (σ' := ⟨z1, [.cells (rowI e3 w0) 1, z4, .cells (rowI e3 w2) 1, .hole, z2]⟩) (cc := c304 ++ [.reg [] [] 0 [(2, none, .b true)] [2, 3, 5, 13], .reg [] [] 0 [] [2, 3, 5], .reg [] [] 0 [] [4]])
   (ai (by decide : (2 : Int) ≠ 0) (ai h1 trivial)) (by kernel_rfl)) (Weak.sel [0, 1, 2, 4] (selH_cons (o := .cells (rowI e3 w0) 1) (o' := .cells (rowI e3 w0) 1) (by kernel_rfl) sel_row (selH_cons (o := z4) (o' := z4) (by kernel_rfl) (sel_x (by kernel_rfl)) (selH_cons (o := .cells (rowI e3 w2) 1) (o' := .cells (rowI e3 w2) 1) (by kernel_rfl) sel_row (selH_cons (o := z2) (o' := z2) (by kernel_rfl) (sel_x (by kernel_rfl)) trivial)))) (by kernel_rfl) (by kernel_rfl))) rfl (show _ from trivial) (by kernel_rfl)) (by kernel_rfl)
 ·have hr := Option.some.inj g1
  subst hr
  exact CallI.cast (callI_of is68 (by kernel_rfl) (m := 4) (by kernel_rfl) (e := .ret) (vs := [.fn 86 [] [.ptr 3 0 1, .p (.ref [.int .i64 p1]), .p (.ref [.ref [.sl (List.map e3 p0) false, .sl (List.map e3 p0_1) false, .sl (List.map e3 p0_2) false, .map (mapK e89 p0_3) (mapV e2 p0_3)]])]]) (SemC.post (path hm (ks := [4]) (σ' := ⟨z1, [.cells (rowI e3 w0) 1, z4, .cells (rowI e3 w2) 1, .hole, z3]⟩) (cc := c304 ++ [.reg [] [] 0 [(2, none, .b false)] [2, 3, 5, 13], .reg [] [] 0 [] [4]])
   (ai (by decide : (2 : Int) ≠ 0) (ai h1 trivial)) (by kernel_rfl)) (Weak.sel [0, 1, 2, 4] (selH_cons (o := .cells (rowI e3 w0) 1) (o' := .cells (rowI e3 w0) 1) (by kernel_rfl) sel_row (selH_cons (o := z4) (o' := z4) (by kernel_rfl) (sel_x (by kernel_rfl)) (selH_cons (o := .cells (rowI e3 w2) 1) (o' := .cells (rowI e3 w2) 1) (by kernel_rfl) sel_row (selH_cons (o := z3) (o' := z3) (by kernel_rfl) (sel_x (by kernel_rfl)) trivial)))) (by kernel_rfl) (by kernel_rfl))) rfl (show _ from trivial) (by kernel_rfl)) (by kernel_rfl)
def L64_2  (v1 : (List Int)) (v1_1 : (List Int)) (v1_2 : (List Int)) (v1_3 : (List (Int × Int))) : Nat → (List Int) → Int → Option (List Int)
 | 0, _, _ => none
 | fuel + 1, w0, w1 =>
  obind (F81 fuel w0 w1) fun r1 => oif ((decide (r1 ≥ 0)))
  (oif (decide ((0:Int) ≤ r1)) (oif (decide (r1 < (((List.length w0) : Nat) : Int)))
   (oif (decide ((Int.toNat r1) + ((List.length w0) - (Int.toNat r1)) ≤ List.length w0)) (some ((List.take ((List.length w0) - (Int.toNat r1)) (List.drop (Int.toNat r1) w0)))) none)
   (oif (decide ((r1 : Int) ≤ (((List.length w0) : Nat) : Int))) (oif (decide (0 < List.length w0)) (none) none) none)) none)
  (oif (decide ((0:Int) ≤ (((List.length w0) : Nat) : Int))) (oif (decide (((((List.length w0) : Nat) : Int) : Int) ≤ (((List.length w0) : Nat) : Int))) (oif (decide (((List.length w0) + 1) * 8 ≤ 140737488355328)) (obind (G68_939 fuel v1 v1_1 v1_2 v1_3 w1 w0 w1 (w0 ++ [w1])) fun y2 => (obind (G86_6 fuel w1 v1 v1_1 v1_2 v1_3 (w0 ++ [w1]) w1 y2 v1 v1_1 v1_2 v1_3) fun y3 => match y3 with
   | .inl y3 => L64_2 v1 v1_1 v1_2 v1_3 fuel (w0 ++ [w1]) w1
   | .inr (y3) => L64_2 v1 v1_1 v1_2 v1_3 fuel (w0 ++ [w1]) y3)) none) none) none)
noncomputable def L64_2_post (v1 : (List Int)) (v1_1 : (List Int)) (v1_2 : (List Int)) (v1_3 : (List (Int × Int)))  : (List Int) → Ex × St
 | y => ((.exit 2), ⟨[(3, .msl 0 0 (List.length y) (List.length (rowI e3 y)) false)], [.cells (rowI e3 y) 1]⟩)
theorem L64_2_ok  (v1 : (List Int)) (v1_1 : (List Int)) (v1_2 : (List Int)) (v1_3 : (List (Int × Int)))  : ∀ (fuel : Nat) (w0 : (List Int)) (w1 : Int) (r : (List Int)), L64_2 v1 v1_1 v1_2 v1_3 fuel w0 w1 = some r →
  SemJ prog ⟨61, 0, false⟩ (codeAt [1, 0, 1, 1, 1, 1, 1, 0, 0, 0] (bodyOf f64)) ⟨[(1, .p (.ref [.ref [.sl (List.map e3 v1) false, .sl (List.map e3 v1_1) false, .sl (List.map e3 v1_2) false, .map (mapK e89 v1_3) (mapV e2 v1_3)]])), (2, .p (.nilsl)), (3, .msl 0 0 (List.length w0) (List.length (rowI e3 w0)) false), (5, .ptr 1 0 1)], [.cells (rowI e3 w0) 1, .cells [.p (.int .i64 w1)] 0]⟩ (L64_2_post v1 v1_1 v1_2 v1_3 r).1 (L64_2_post v1 v1_1 v1_2 v1_3 r).2
 | 0, _, _, _, h => nomatch h
 | fuel + 1, w0, w1, r, h => by
  let z6 : MObj := .cells [.p (.int .i64 w1)] 0
  let z5 : MObj := .cells (rowI e3 (w0 ++ [w1])) 1
  let z4 : List MObj := [.cells (rowI e3 w0) 1, z6]
  let z3 : Env := [(1, .p (.ref [.ref [.sl (List.map e3 v1) false, .sl (List.map e3 v1_1) false, .sl (List.map e3 v1_2) false, .map (mapK e89 v1_3) (mapV e2 v1_3)]])), (2, .p (.nilsl)), (3, .msl 0 0 (List.length (w0 ++ [w1])) (List.length (rowI e3 (w0 ++ [w1]))) false), (5, .ptr 1 0 1)]
  let z2 : Env := [(1, .p (.ref [.ref [.sl (List.map e3 v1) false, .sl (List.map e3 v1_1) false, .sl (List.map e3 v1_2) false, .map (mapK e89 v1_3) (mapV e2 v1_3)]])), (2, .p (.nilsl)), (3, .msl 2 0 (List.length (w0 ++ [w1])) (List.length (rowI e3 (w0 ++ [w1]))) false), (5, .ptr 1 0 1), (43, .fn 86 [] [.ptr 3 0 1, .p (.ref [.int .i64 w1]), .p (.ref [.ref [.sl (List.map e3 v1) false, .sl (List.map e3 v1_1) false, .sl (List.map e3 v1_2) false, .map (mapK e89 v1_3) (mapV e2 v1_3)]])])]
  let z1 : Env := [(1, .p (.ref [.ref [.sl (List.map e3 v1) false, .sl (List.map e3 v1_1) false, .sl (List.map e3 v1_2) false, .map (mapK e89 v1_3) (mapV e2 v1_3)]])), (2, .p (.nilsl)), (3, .msl 0 0 (List.length (w0 ++ [w1])) (List.length (rowI e3 (w0 ++ [w1]))) false), (5, .ptr 1 0 1), (43, .fn 86 [] [.ptr 2 0 1, .p (.ref [.int .i64 w1]), .p (.ref [.ref [.sl (List.map e3 v1) false, .sl (List.map e3 v1_1) false, .sl (List.map e3 v1_2) false, .map (mapK e89 v1_3) (mapV e2 v1_3)]])])]
  unfold L64_2 at h
  refine obind_elim h fun r1 h1 g1 => ?_
  let z8 : MObj := .cells (rowI e3 (List.take ((List.length w0) - (Int.toNat r1)) (List.drop (Int.toNat r1) w0))) 1
  let z7 : Env := [(3, .msl 0 (0 + (Int.toNat r1) * 1) ((List.length w0) - (Int.toNat r1)) (List.length (rowI e3 w0)) false)]
  let c305 : List CC := [.reg [] [] 0 [(2, none, .bor [] [.sl (List.map e3 w0) false, .int .i64 w1] (.int .i64 r1))] [1, 2, 3, 5, 8]]
  have q306 := fun {P : Prop} (t : P) => ai (snap_row (hp := one 0 (.cells (rowI e3 w0) 1)) (l := 0) (x := false) (g := 1) (L := w0) el3 (by kernel_rfl) (rl (List.length (rowI e3 w0))) (rl (List.length w0))) (ai (.refl _ : PVle (.int .i64 w1) (.int .i64 w1)) (ai (F81_ok fuel w0 w1 false _ h1) t))
  refine oif_elim g1 (fun h2 g2 => ?_) (fun h2 g2 => ?_)
  ·refine oif_elim g2 (fun h3 g3 => ?_) (fun _ h => nomatch h)
   refine oif_elim g3 (fun h4 g4 => ?_) (fun h4 g4 => ?_)
   ·refine oif_elim g4 (fun h5 g5 => ?_) (fun _ h => nomatch h)
    have hr := Option.some.inj g5
    subst hr
    exact SemC.cast (SemJ.out (e := (.exit 2)) (SemC.post (path hm (σ' := ⟨z7, z4⟩) (ks := [3]) (cc := c305 ++ [.reg [] [] 0 [(1, none, .b true)] [1, 2, 3, 5, 8, 28], .reg [] [] 0 [(2, none, .ap [] ((List.length w0) - (Int.toNat r1)) 0)] [3]])
    (q306 (ai h2 (ai (piece_lt (od h3) (od h4)) (ai (rl ((List.length w0) - (Int.toNat r1))) (ai (od h3) (ai (Int.le_of_lt (od h4)) trivial)))))) (by kernel_rfl)) (Weak.trans (wcast (c := ⟨[(3, .msl 2 0 ((List.length w0) - (Int.toNat r1)) (List.length (rowI e3 (List.take ((List.length w0) - (Int.toNat r1)) (List.drop (Int.toNat r1) w0)))) false)], [.dead, z6, z8]⟩) (Weak.rebase (E := z7) (H := z4) 3 (l := 0) (off := (0 + (Int.toNat r1) * 1)) (len := ((List.length w0) - (Int.toNat r1))) (sz := (List.length (rowI e3 w0))) (sz' := (List.length (rowI e3 (List.take ((List.length w0) - (Int.toNat r1)) (List.drop (Int.toNat r1) w0))))) (g := 1) (x := false) (cs := rowI e3 w0) (cs' := rowI e3 (List.take ((List.length w0) - (Int.toNat r1)) (List.drop (Int.toNat r1) w0))) (by kernel_rfl) (by kernel_rfl) (rl (List.length (rowI e3 w0))) (by decide) (part_row el3 w0 (Int.toNat r1) ((List.length w0) - (Int.toNat r1))) (part_len el3 (od h5)) rfl (part_off el3 (rl (List.length (rowI e3 w0))) (od h5))) (by kernel_rfl)) (Weak.trans (Weak.sel [2] (selH_cons (o := z8) (o' := z8) (by kernel_rfl) sel_row trivial) (by kernel_rfl) (by kernel_rfl)) (Weak.eq (congrArg (fun ZZ : Nat => (⟨[(3, .msl 0 0 ZZ (List.length (rowI e3 (List.take ((List.length w0) - (Int.toNat r1)) (List.drop (Int.toNat r1) w0)))) false)], [z8]⟩ : St)) (Eq.symm (part_ln (od h5)))))))) (by simp)) (by kernel_rfl) (by kernel_rfl)
   ·refine oif_elim g4 (fun h5 g5 => ?_) (fun _ h => nomatch h)
    refine oif_elim g5 (fun h6 g6 => ?_) (fun _ h => nomatch h)
    exact nomatch g6
  ·refine oif_elim g2 (fun h3 g3 => ?_) (fun _ h => nomatch h)
   refine oif_elim g3 (fun h4 g4 => ?_) (fun _ h => nomatch h)
   refine oif_elim g4 (fun h5 g5 => ?_) (fun _ h => nomatch h)
   refine obind_elim g5 fun y2 h6 g6 => ?_
   let z9 : MObj := .cells [.p (.sl (List.map e3 y2) false)] 0
   let c307 : List CC := c305 ++ [.reg [] [] 0 [(1, none, .b false)] [1, 2, 3, 5, 8, 28], .reg [0, 0, 2, 0, 8, 31, 0, 64, 255, 511] [(2, 8)] 1 [(5, none, .ap [] (List.length w0) 0), (8, some 2, .ap (rowI e3 (w0 ++ [w1])) (List.length (w0 ++ [w1])) (List.length (rowI e3 (w0 ++ [w1]))))] [1, 2, 3, 5], .reg [] [] 1 [(2, none, .ci (.fn 86 [] [.ptr 3 0 1, .p (.ref [.int .i64 w1]), .p (.ref [.ref [.sl (List.map e3 v1) false, .sl (List.map e3 v1_1) false, .sl (List.map e3 v1_2) false, .map (mapK e89 v1_3) (mapV e2 v1_3)]])]) [(3, z9)])] [1, 2, 3, 5, 43]]
   have q308 := fun {P : Prop} (t : P) => ai h2 (ai (sl_lo0 (some (((List.length w0) : Nat) : Int)) (List.length w0) (List.length w0)) (ai (rl (List.length w0)) (ai (od h3) (ai (od h4) (ai (rfl : ((((List.length w0) : Nat) : Int) : Int) = (((List.length w0) : Nat) : Int)) t)))))
   have q309 := fun {P : Prop} (t : P) => ai (od h5) (ai (app_c2 (by decide) (od h5)) (ai (app_len e3 [w1] (rl (List.length w0))) (ai (rl (List.length (rowI e3 (w0 ++ [w1])))) (ai (row_app3 el3 [w1] (rl (List.length w0))) (ai (row_sc el3 [w1]) (ai (row_es el3 [w1]) (ai (rl (List.length (rowI e3 w0))) (ai (row_whole_le el3 (rl (List.length w0)) (rl (List.length (rowI e3 w0)))) (ai (G68_939_ok fuel v1 v1_1 v1_2 v1_3 w1 w0 w1 (w0 ++ [w1]) _ h6) t)))))))))
   refine obind_elim g6 fun y h7 g7 => ?_
   match y, h7, g7 with
   | .inl y3, h7, g7 =>
    exact SemJ.again (σ1 := ⟨z3, [z5, z6]⟩) (SemC.post (path hm (σ' := ⟨z3, [z5, z6, z9, .dead]⟩) (ks := [1, 2, 3, 5]) (cc := c307 ++ [.leaf .normal ⟨z1, [z5, z6, z9, .dead]⟩])
    (q306 (q308 (ai (by decide : 0 < 1) (q309 (ai (SemC.pre (σ := ⟨z2, [.cells (rowI e3 w0) 1, z6, z5, z9]⟩) (range_of (P := prog) (nt := 61) (m := 0) (n := 3) (c := codeAt [1, 0, 1, 1, 1, 1, 1, 0, 0, 0, 0, 1, 1, 1, 0] (bodyOf f64)) (σ := ⟨z1, [z5, z6, z9]⟩) (f := 86) (args := [.yld 3, .ptr 2 0 1, .p (.ref [.int .i64 w1]), .p (.ref [.ref [.sl (List.map e3 v1) false, .sl (List.map e3 v1_1) false, .sl (List.map e3 v1_2) false, .map (mapK e89 v1_3) (mapV e2 v1_3)]])]) (H3 := [z5, z6, z9, .dead]) (e := .normal) (s := 0) (R := R64_1_0_1_1_1_1_1_0_0_0_0_1_1_1_0) (R' := R64_1_0_1_1_1_1_1_0_0_0_0_1_1_1_0) (env' := z3) [1, 2, 3, 5] (by kernel_rfl) (by kernel_rfl) (by kernel_rfl) (by kernel_rfl) (G86_6_ok fuel w1 v1 v1_1 v1_2 v1_3 (w0 ++ [w1]) w1 y2 v1 v1_1 v1_2 v1_3 _ h7) (by kernel_rfl) rfl (by kernel_rfl)) (Weak.sel [2, 1, 3] (selH_cons (o := z5) (o' := z5) (by kernel_rfl) sel_row (selH_cons (o := z6) (o' := z6) (by kernel_rfl) (sel_x (by kernel_rfl)) (selH_cons (o := z9) (o' := z9) (by kernel_rfl) (sel_x (by kernel_rfl)) trivial))) (by kernel_rfl) (by kernel_rfl))) trivial))))) (by kernel_rfl)) (Weak.sel [0, 1] (selH_cons (o := z5) (o' := z5) (by kernel_rfl) sel_row (selH_cons (o := z6) (o' := z6) (by kernel_rfl) (sel_x (by kernel_rfl)) trivial)) (by kernel_rfl) (by kernel_rfl))) (L64_2_ok v1 v1_1 v1_2 v1_3 fuel (w0 ++ [w1]) w1 _ g7)
   | .inr (y3), h7, g7 =>
    let z10 : MObj := .cells [.p (.int .i64 y3)] 0
    exact SemJ.again (σ1 := ⟨z3, [z5, z10]⟩) (SemC.post (path hm (σ' := ⟨z3, [z5, z10, z9, .dead]⟩) (ks := [1, 2, 3, 5]) (cc := c307 ++ [.leaf (.exit 3) ⟨z1, [z5, z10, z9, .dead]⟩])
    (q306 (q308 (ai (by decide : 0 < 1) (q309 (ai (SemC.pre (σ := ⟨z2, [.cells (rowI e3 w0) 1, z6, z5, z9]⟩) (range_of (P := prog) (nt := 61) (m := 0) (n := 3) (c := codeAt [1, 0, 1, 1, 1, 1, 1, 0, 0, 0, 0, 1, 1, 1, 0] (bodyOf f64)) (σ := ⟨z1, [z5, z6, z9]⟩) (f := 86) (args := [.yld 3, .ptr 2 0 1, .p (.ref [.int .i64 w1]), .p (.ref [.ref [.sl (List.map e3 v1) false, .sl (List.map e3 v1_1) false, .sl (List.map e3 v1_2) false, .map (mapK e89 v1_3) (mapV e2 v1_3)]])]) (H3 := [z5, z10, z9, .dead]) (e := (.exit 3)) (s := 2) (R := R64_1_0_1_1_1_1_1_0_0_0_0_1_1_1_0) (R' := R64_1_0_1_1_1_1_1_0_0_0_0_1_1_1_0) (env' := z3) [1, 2, 3, 5] (by kernel_rfl) (by kernel_rfl) (by kernel_rfl) (by kernel_rfl) (G86_6_ok fuel w1 v1 v1_1 v1_2 v1_3 (w0 ++ [w1]) w1 y2 v1 v1_1 v1_2 v1_3 _ h7) (by kernel_rfl) rfl (by kernel_rfl)) (Weak.sel [2, 1, 3] (selH_cons (o := z5) (o' := z5) (by kernel_rfl) sel_row (selH_cons (o := z6) (o' := z6) (by kernel_rfl) (sel_x (by kernel_rfl)) (selH_cons (o := z9) (o' := z9) (by kernel_rfl) (sel_x (by kernel_rfl)) trivial))) (by kernel_rfl) (by kernel_rfl))) trivial))))) (by kernel_rfl)) (Weak.sel [0, 1] (selH_cons (o := z5) (o' := z5) (by kernel_rfl) sel_row (selH_cons (o := z10) (o' := z10) (by kernel_rfl) (sel_x (by kernel_rfl)) trivial)) (by kernel_rfl) (by kernel_rfl))) (L64_2_ok v1 v1_1 v1_2 v1_3 fuel (w0 ++ [w1]) y3 _ g7)
def L64_1  (v1 : (List Int)) (v1_1 : (List Int)) (v1_2 : (List Int)) (v1_3 : (List (Int × Int))) (w0 : Int) : Nat → Option (Unit ⊕ (List Int))
 | 0 => none
 | fuel + 1 =>
  obind (F81 fuel [] w0) fun r1 => oif ((decide (r1 ≥ 0)))
  (oif (decide ((0:Int) ≤ r1)) (oif (decide ((r1 : Int) ≤ ((0 : Nat) : Int))) (some (.inl ())) none) none)
  (oif (decide (1 * 8 ≤ 140737488355328)) (obind (G68_936 fuel v1 v1_1 v1_2 v1_3 w0 w0 [w0]) fun y2 => (obind (G86_6 fuel w0 v1 v1_1 v1_2 v1_3 [w0] w0 y2 v1 v1_1 v1_2 v1_3) fun y3 => match y3 with
   | .inl y3 => obind (L64_2 v1 v1_1 v1_2 v1_3 fuel [w0] w0) fun y4 => some (.inr (y4))
   | .inr (y3) => obind (L64_2 v1 v1_1 v1_2 v1_3 fuel [w0] y3) fun y4 => some (.inr (y4)))) none)
noncomputable def L64_1_post (v1 : (List Int)) (v1_1 : (List Int)) (v1_2 : (List Int)) (v1_3 : (List (Int × Int))) (w0 : Int)  : (Unit ⊕ (List Int)) → Ex × St
 | .inl y => ((.exit 2), ⟨[(3, .p (.nilsl))], []⟩)
 | .inr (y) => ((.exit 2), ⟨[(3, .msl 0 0 (List.length y) (List.length (rowI e3 y)) false)], [.cells (rowI e3 y) 1]⟩)
theorem L64_1_ok  (v1 : (List Int)) (v1_1 : (List Int)) (v1_2 : (List Int)) (v1_3 : (List (Int × Int))) (w0 : Int)  : ∀ (fuel : Nat)  (r : (Unit ⊕ (List Int))), L64_1 v1 v1_1 v1_2 v1_3 w0 fuel  = some r →
  SemJ prog ⟨61, 0, false⟩ (codeAt [1, 0, 1, 1, 1, 1, 1, 0, 0, 0] (bodyOf f64)) ⟨[(1, .p (.ref [.ref [.sl (List.map e3 v1) false, .sl (List.map e3 v1_1) false, .sl (List.map e3 v1_2) false, .map (mapK e89 v1_3) (mapV e2 v1_3)]])), (2, .p (.nilsl)), (3, .p (.nilsl)), (5, .ptr 0 0 1)], [.cells [.p (.int .i64 w0)] 0]⟩ (L64_1_post v1 v1_1 v1_2 v1_3 w0 r).1 (L64_1_post v1 v1_1 v1_2 v1_3 w0 r).2
 | 0, _, h => nomatch h
 | fuel + 1, r, h => by
  let z4 : MObj := .cells [.p (.int .i64 w0)] 0
  let z3 : Env := [(1, .p (.ref [.ref [.sl (List.map e3 v1) false, .sl (List.map e3 v1_1) false, .sl (List.map e3 v1_2) false, .map (mapK e89 v1_3) (mapV e2 v1_3)]])), (2, .p (.nilsl)), (3, .msl 0 0 (List.length [w0]) (List.length (rowI e3 [w0])) false), (5, .ptr 1 0 1)]
  let z2 : Env := [(1, .p (.ref [.ref [.sl (List.map e3 v1) false, .sl (List.map e3 v1_1) false, .sl (List.map e3 v1_2) false, .map (mapK e89 v1_3) (mapV e2 v1_3)]])), (2, .p (.nilsl)), (3, .msl 1 0 (List.length [w0]) (List.length (rowI e3 [w0])) false), (5, .ptr 0 0 1), (43, .fn 86 [] [.ptr 2 0 1, .p (.ref [.int .i64 w0]), .p (.ref [.ref [.sl (List.map e3 v1) false, .sl (List.map e3 v1_1) false, .sl (List.map e3 v1_2) false, .map (mapK e89 v1_3) (mapV e2 v1_3)]])])]
  let z1 : Env := [(1, .p (.ref [.ref [.sl (List.map e3 v1) false, .sl (List.map e3 v1_1) false, .sl (List.map e3 v1_2) false, .map (mapK e89 v1_3) (mapV e2 v1_3)]])), (2, .p (.nilsl)), (3, .msl 0 0 (List.length [w0]) (List.length (rowI e3 [w0])) false), (5, .ptr 1 0 1), (43, .fn 86 [] [.ptr 2 0 1, .p (.ref [.int .i64 w0]), .p (.ref [.ref [.sl (List.map e3 v1) false, .sl (List.map e3 v1_1) false, .sl (List.map e3 v1_2) false, .map (mapK e89 v1_3) (mapV e2 v1_3)]])])]
  unfold L64_1 at h
  refine obind_elim h fun r1 h1 g1 => ?_
  let c310 : List CC := [.reg [] [] 0 [(2, none, .cw [.sl (List.map e3 ([] : List Int)) false, .int .i64 w0] (.int .i64 r1))] [1, 2, 3, 5, 8]]
  have q311 := fun {P : Prop} (t : P) => ai (F81_ok fuel [] w0 false _ h1) t
  refine oif_elim g1 (fun h2 g2 => ?_) (fun h2 g2 => ?_)
  ·refine oif_elim g2 (fun h3 g3 => ?_) (fun _ h => nomatch h)
   refine oif_elim g3 (fun h4 g4 => ?_) (fun _ h => nomatch h)
   have hr := Option.some.inj g4
   subst hr
   exact SemC.cast (SemJ.out (e := (.exit 2)) (SemC.post (path hm (σ' := ⟨[(3, .p (.nilsl))], [z4]⟩) (ks := [3]) (cc := c310 ++ [.reg [] [] 0 [(1, none, .b true)] [1, 2, 3, 5, 8, 28], .reg [] [] 0 [] [3]])
    (ai (show PVleL [.nilsl, .int .i64 w0] [.sl (List.map e3 ([] : List Int)) false, .int .i64 w0] from (.cons _ _ _ _ (.nil _) (.cons _ _ _ _ (.refl _) .nil))) (q311 (ai h2 (ai (od h3) (ai (od h4) trivial))))) (by kernel_rfl)) (Weak.sel [] trivial (by kernel_rfl) (by kernel_rfl))) (by simp)) (by kernel_rfl) (by kernel_rfl)
  ·refine oif_elim g2 (fun h3 g3 => ?_) (fun _ h => nomatch h)
   refine obind_elim g3 fun y2 h4 g4 => ?_
   let z5 : MObj := .cells [.p (.sl (List.map e3 y2) false)] 0
   let c312 : List CC := c310 ++ [.reg [] [] 0 [(1, none, .b false)] [1, 2, 3, 5, 8, 28], .reg [0, 0, 2, 0, 8, 31, 0, 64, 255, 511] [(1, 8)] 1 [(8, some 1, .ap (rowI e3 [w0]) (List.length [w0]) (List.length (rowI e3 [w0])))] [1, 2, 3, 5], .reg [] [] 1 [(2, none, .ci (.fn 86 [] [.ptr 2 0 1, .p (.ref [.int .i64 w0]), .p (.ref [.ref [.sl (List.map e3 v1) false, .sl (List.map e3 v1_1) false, .sl (List.map e3 v1_2) false, .map (mapK e89 v1_3) (mapV e2 v1_3)]])]) [(2, z5)])] [1, 2, 3, 5, 43]]
   have q313 := fun {P : Prop} (t : P) => ai (rfl : (0 : Int) = 0) t
   have q314 := fun {P : Prop} (t : P) => ai (od h3) (ai (app_c0 (by decide) (od h3)) (ai (rl (List.length [w0])) (ai (rl (List.length (rowI e3 [w0]))) (ai (row_src e3 [w0]) (ai (row_sc el3 [w0]) (ai (row_es el3 [w0]) (ai (G68_936_ok fuel v1 v1_1 v1_2 v1_3 w0 w0 [w0] _ h4) t)))))))
   refine obind_elim g4 fun y h5 g5 => ?_
   match y, h5, g5 with
   | .inl y3, h5, g5 =>
    refine obind_elim g5 fun y4 h6 g6 => ?_
    have hr := Option.some.inj g6
    subst hr
    exact SemC.cast (SemJ.again (σ1 := ⟨z3, [.cells (rowI e3 [w0]) 1, z4]⟩) (SemC.post (path hm (σ' := ⟨z3, [.cells (rowI e3 [w0]) 1, z4, z5, .dead]⟩) (ks := [1, 2, 3, 5]) (cc := c312 ++ [.leaf .normal ⟨z1, [.cells (rowI e3 [w0]) 1, z4, z5, .dead]⟩])
    (ai (show PVleL [.nilsl, .int .i64 w0] [.sl (List.map e3 ([] : List Int)) false, .int .i64 w0] from (.cons _ _ _ _ (.nil _) (.cons _ _ _ _ (.refl _) .nil))) (q311 (ai h2 (ai (by decide : (0:Int) ≤ 0) (ai (by decide : (0 : Int) ≤ ((0 : Nat) : Int)) (q313 (ai (by decide : 0 < 1) (q314 (ai (SemC.pre (σ := ⟨z2, [z4, .cells (rowI e3 [w0]) 1, z5]⟩) (range_of (P := prog) (nt := 61) (m := 0) (n := 3) (c := codeAt [1, 0, 1, 1, 1, 1, 1, 0, 0, 0, 0, 1, 1, 1, 0] (bodyOf f64)) (σ := ⟨z1, [.cells (rowI e3 [w0]) 1, z4, z5]⟩) (f := 86) (args := [.yld 3, .ptr 2 0 1, .p (.ref [.int .i64 w0]), .p (.ref [.ref [.sl (List.map e3 v1) false, .sl (List.map e3 v1_1) false, .sl (List.map e3 v1_2) false, .map (mapK e89 v1_3) (mapV e2 v1_3)]])]) (H3 := [.cells (rowI e3 [w0]) 1, z4, z5, .dead]) (e := .normal) (s := 0) (R := R64_1_0_1_1_1_1_1_0_0_0_0_1_1_1_0) (R' := R64_1_0_1_1_1_1_1_0_0_0_0_1_1_1_0) (env' := z3) [1, 2, 3, 5] (by kernel_rfl) (by kernel_rfl) (by kernel_rfl) (by kernel_rfl) (G86_6_ok fuel w0 v1 v1_1 v1_2 v1_3 [w0] w0 y2 v1 v1_1 v1_2 v1_3 _ h5) (by kernel_rfl) rfl (by kernel_rfl)) (Weak.sel [1, 0, 2] (selH_cons (o := .cells (rowI e3 [w0]) 1) (o' := .cells (rowI e3 [w0]) 1) (by kernel_rfl) sel_row (selH_cons (o := z4) (o' := z4) (by kernel_rfl) (sel_x (by kernel_rfl)) (selH_cons (o := z5) (o' := z5) (by kernel_rfl) (sel_x (by kernel_rfl)) trivial))) (by kernel_rfl) (by kernel_rfl))) trivial))))))))) (by kernel_rfl)) (Weak.sel [0, 1] (selH_cons (o := .cells (rowI e3 [w0]) 1) (o' := .cells (rowI e3 [w0]) 1) (by kernel_rfl) sel_row (selH_cons (o := z4) (o' := z4) (by kernel_rfl) (sel_x (by kernel_rfl)) trivial)) (by kernel_rfl) (by kernel_rfl))) (L64_2_ok v1 v1_1 v1_2 v1_3 fuel [w0] w0 _ h6)) (by kernel_rfl) (by kernel_rfl)
   | .inr (y3), h5, g5 =>
    let z6 : MObj := .cells [.p (.int .i64 y3)] 0
    refine obind_elim g5 fun y4 h6 g6 => ?_
    have hr := Option.some.inj g6
    subst hr
    exact SemC.cast (SemJ.again (σ1 := ⟨z3, [.cells (rowI e3 [w0]) 1, z6]⟩) (SemC.post (path hm (σ' := ⟨z3, [.cells (rowI e3 [w0]) 1, z6, z5, .dead]⟩) (ks := [1, 2, 3, 5]) (cc := c312 ++ [.leaf (.exit 3) ⟨z1, [.cells (rowI e3 [w0]) 1, z6, z5, .dead]⟩])
    (ai (show PVleL [.nilsl, .int .i64 w0] [.sl (List.map e3 ([] : List Int)) false, .int .i64 w0] from (.cons _ _ _ _ (.nil _) (.cons _ _ _ _ (.refl _) .nil))) (q311 (ai h2 (ai (by decide : (0:Int) ≤ 0) (ai (by decide : (0 : Int) ≤ ((0 : Nat) : Int)) (q313 (ai (by decide : 0 < 1) (q314 (ai (SemC.pre (σ := ⟨z2, [z4, .cells (rowI e3 [w0]) 1, z5]⟩) (range_of (P := prog) (nt := 61) (m := 0) (n := 3) (c := codeAt [1, 0, 1, 1, 1, 1, 1, 0, 0, 0, 0, 1, 1, 1, 0] (bodyOf f64)) (σ := ⟨z1, [.cells (rowI e3 [w0]) 1, z4, z5]⟩) (f := 86) (args := [.yld 3, .ptr 2 0 1, .p (.ref [.int .i64 w0]), .p (.ref [.ref [.sl (List.map e3 v1) false, .sl (List.map e3 v1_1) false, .sl (List.map e3 v1_2) false, .map (mapK e89 v1_3) (mapV e2 v1_3)]])]) (H3 := [.cells (rowI e3 [w0]) 1, z6, z5, .dead]) (e := (.exit 3)) (s := 2) (R := R64_1_0_1_1_1_1_1_0_0_0_0_1_1_1_0) (R' := R64_1_0_1_1_1_1_1_0_0_0_0_1_1_1_0) (env' := z3) [1, 2, 3, 5] (by kernel_rfl) (by kernel_rfl) (by kernel_rfl) (by kernel_rfl) (G86_6_ok fuel w0 v1 v1_1 v1_2 v1_3 [w0] w0 y2 v1 v1_1 v1_2 v1_3 _ h5) (by kernel_rfl) rfl (by kernel_rfl)) (Weak.sel [1, 0, 2] (selH_cons (o := .cells (rowI e3 [w0]) 1) (o' := .cells (rowI e3 [w0]) 1) (by kernel_rfl) sel_row (selH_cons (o := z4) (o' := z4) (by kernel_rfl) (sel_x (by kernel_rfl)) (selH_cons (o := z5) (o' := z5) (by kernel_rfl) (sel_x (by kernel_rfl)) trivial))) (by kernel_rfl) (by kernel_rfl))) trivial))))))))) (by kernel_rfl)) (Weak.sel [0, 1] (selH_cons (o := .cells (rowI e3 [w0]) 1) (o' := .cells (rowI e3 [w0]) 1) (by kernel_rfl) sel_row (selH_cons (o := z6) (o' := z6) (by kernel_rfl) (sel_x (by kernel_rfl)) trivial)) (by kernel_rfl) (by kernel_rfl))) (L64_2_ok v1 v1_1 v1_2 v1_3 fuel [w0] y3 _ h6)) (by kernel_rfl) (by kernel_rfl)
def L83_0   : Nat → Int → Int → (List Int) → Option (List Int)
 | 0, _, _, _ => none
 | fuel + 1, v2, v3, w0 =>
  oif ((decide (v2 < v3)))
  (oif (decide ((0:Int) ≤ v3)) (oif (decide ((v3 : Int) < (((List.length w0) : Nat) : Int))) (obind (sg w0 v3) fun x1 => oif (decide ((0:Int) ≤ v2)) (oif (decide ((v2 : Int) < (((List.length w0) : Nat) : Int))) (obind (sg w0 v2) fun x2 => obind (stL w0 v2 x1) fun x3 => obind (stL x3 v3 x2) fun x4 => L83_0  fuel (IntKind.wrap .i64 (v2 + 1)) (IntKind.wrap .i64 (v3 - 1)) x4) none) none) none) none)
  (some (w0))
noncomputable def L83_0_post   : (List Int) → Ex × St
 | y => ((.exit 0), ⟨[], [.cells (rowI e3 y) 1]⟩)
theorem L83_0_ok    : ∀ (fuel : Nat) (v2 : Int) (v3 : Int) (w0 : (List Int)) (r : (List Int)), L83_0  fuel v2 v3 w0 = some r →
  SemJ prog ⟨28, 1, false⟩ (codeAt [1, 0, 0] (bodyOf f83)) ⟨[(0, .msl 0 0 (List.length w0) (List.length (rowI e3 w0)) false), (2, .p (.int .i64 v2)), (3, .p (.int .i64 v3))], [.cells (rowI e3 w0) 1]⟩ (L83_0_post  r).1 (L83_0_post  r).2
 | 0, _, _, _, _, h => nomatch h
 | fuel + 1, v2, v3, w0, r, h => by
  let z2 : Int := (IntKind.wrap .i64 (v3 - 1))
  let z1 : Int := (IntKind.wrap .i64 (v2 + 1))
  unfold L83_0 at h
  refine oif_elim h (fun h1 g1 => ?_) (fun h1 g1 => ?_)
  ·refine oif_elim g1 (fun h2 g2 => ?_) (fun _ h => nomatch h)
   refine oif_elim g2 (fun h3 g3 => ?_) (fun _ h => nomatch h)
   refine obind_elim g3 fun x1 h4 g4 => ?_
   refine oif_elim g4 (fun h5 g5 => ?_) (fun _ h => nomatch h)
   refine oif_elim g5 (fun h6 g6 => ?_) (fun _ h => nomatch h)
   refine obind_elim g6 fun x2 h7 g7 => ?_
   refine obind_elim g7 fun x3 h8 g8 => ?_
   refine obind_elim g8 fun x4 h9 g9 => ?_
   exact SemJ.again (σ1 := ⟨[(0, .msl 0 0 (List.length x4) (List.length (rowI e3 x4)) false), (2, .p (.int .i64 z1)), (3, .p (.int .i64 z2))], [.cells (rowI e3 x4) 1]⟩) (SemC.post (path hm (σ' := ⟨[(0, .msl 0 0 (List.length w0) (List.length (rowI e3 w0)) false), (2, .p (.int .i64 z1)), (3, .p (.int .i64 z2))], [.cells (rowI e3 x4) 1]⟩) (ks := [0, 2, 3]) (cc := [.reg [] [] 0 [(2, none, .b true)] [0, 2, 3, 9], .reg [0, 0, 0, 0, 0, 0, 48, 112, 0, 0, 768, 1792, 4083, 8179, 16383, 32767] [(0, 13), (0, 15)] 0 [(7, none, .iv (.p (.int .i64 x1))), (11, none, .iv (.p (.int .i64 x2))), (13, none, .cs (rowI e3 x3)), (15, none, .cs (rowI e3 x4))] [0, 2, 3], .reg [] [] 0 [] [0, 2, 3]])
    (ai h1 (ai (od h2) (ai (od h3) (ai (rl (List.length (rowI e3 w0))) (ai (row_get el3 h4 rfl) (ai (od h5) (ai (od h6) (ai (rl (List.length (rowI e3 w0))) (ai (row_get el3 h7 rfl) (ai (od h5) (ai (od h6) (ai (rl (List.length (rowI e3 w0))) (ai (Nat.le_trans (row_fit el3 (stL_0 h8) (stL_lt h8)) (Nat.le_of_eq (rl (List.length (rowI e3 w0))))) (ai (row_put el3 h8) (ai (od h2) (ai (od h3) (ai ((row_setlen el3 h8).trans (rl (List.length (rowI e3 w0)))) (ai (Nat.le_trans (row_fit el3 (stL_0 h9) (stL_lt h9)) (Nat.le_of_eq ((row_setlen el3 h8).trans (rl (List.length (rowI e3 w0)))))) (ai (row_put el3 h9) trivial))))))))))))))))))) (by kernel_rfl)) (Weak.trans (Weak.eq (congrArg (fun ZZ : Nat => (⟨[(0, .msl 0 0 ZZ (List.length (rowI e3 w0)) false), (2, .p (.int .i64 z1)), (3, .p (.int .i64 z2))], [.cells (rowI e3 x4) 1]⟩ : St)) (Eq.symm ((stL_len h9).trans ((stL_len h8).trans (rl (List.length w0))))))) (Weak.eq (congrArg (fun ZZ : Nat => (⟨[(0, .msl 0 0 (List.length x4) ZZ false), (2, .p (.int .i64 z1)), (3, .p (.int .i64 z2))], [.cells (rowI e3 x4) 1]⟩ : St)) (Eq.symm ((row_setlen el3 h9).trans ((row_setlen el3 h8).trans (rl (List.length (rowI e3 w0)))))))))) (L83_0_ok  fuel z1 z2 x4 _ g9)
  ·have hr := Option.some.inj g1
   subst hr
   exact SemC.cast (SemJ.out (e := (.exit 0)) (path hm (σ' := ⟨[], [.cells (rowI e3 w0) 1]⟩) (ks := []) (cc := [.reg [] [] 0 [(2, none, .b false)] [0, 2, 3, 9]])
    (ai h1 trivial) (by kernel_rfl)) (by simp)) (by kernel_rfl) (by kernel_rfl)
def G83  (fuel : Nat) (w0 : (List Int)) : Option (List Int) :=
 obind (L83_0  fuel 0 (IntKind.wrap .i64 ((((List.length w0) : Nat) : Int) - 1)) w0) fun y1 => some y1
noncomputable def G83_post (w0 : (List Int))  : (List Int) → IV × List MObj
 | y => (.tup [], [.cells (rowI e3 y) 1])
theorem G83_ok  (fuel : Nat) (w0 : (List Int))  (r : (List Int)) (h : G83 fuel w0 = some r) : CallI prog 83 [.msl 0 0 (List.length w0) (List.length (rowI e3 w0)) false] [.cells (rowI e3 w0) 1] (G83_post w0 r).1 (G83_post w0 r).2 := by
 unfold G83 at h
 refine obind_elim h fun y1 h1 g1 => ?_
 let z1 : St := ⟨[], [.cells (rowI e3 y1) 1]⟩
 have hr := Option.some.inj g1
 subst hr
 exact CallI.cast (callI_of is83 (by kernel_rfl) (m := 1) (by kernel_rfl) (e := .normal) (vs := []) (path hm (ks := []) (σ' := z1) (cc := [.reg [] [] 0 [] [0, 2, 3], .leaf (.exit 0) z1])
   (ai (SemJ.loop (L83_0_ok  fuel 0 (IntKind.wrap .i64 ((((List.length w0) : Nat) : Int) - 1)) w0 _ h1)) trivial) (by kernel_rfl)) rfl (show _ from trivial) (by kernel_rfl)) (by kernel_rfl)
def F64  (fuel : Nat) (p0 : (((List Int) × (List Int) × (List Int)) × (List (Int × Int)))) : Option (List Int) :=
 obind (L64_0 p0.1.1 p0.1.2.1 p0.1.2.2 p0.2 p0.1.1 p0.1.2.1 p0.1.2.2 p0.2 fuel 0) fun y1 => (obind (L64_1 p0.1.1 p0.1.2.1 p0.1.2.2 p0.2 y1 fuel ) fun y2 => match y2 with
 | .inl y2 => none
 | .inr (y2) => obind (G83 fuel y2) fun y3 => oif (decide (List.length y3 = List.length y2)) (some y3) none)
theorem F64_ok  (fuel : Nat) (p0 : (((List Int) × (List Int) × (List Int)) × (List (Int × Int))))  (r : (List Int)) (h : F64 fuel p0 = some r) : CallP prog 64 [.ref [.sl (List.map e3 p0.1.1) false, .sl (List.map e3 p0.1.2.1) false, .sl (List.map e3 p0.1.2.2) false, .map (mapK e89 p0.2) (mapV e2 p0.2)]] (.sl (List.map e3 r) false) := by
 unfold F64 at h
 refine obind_elim h fun y1 h1 g1 => ?_
 refine obind_elim g1 fun y h2 g2 => ?_
 match y, h2, g2 with
 | .inl y2, h2, g2 =>
  exact nomatch g2
 | .inr (y2), h2, g2 =>
  refine obind_elim g2 fun y3 h3 g3 => ?_
  refine oif_elim g3 (fun h4 g4 => ?_) (fun _ h => nomatch h)
  have hr := Option.some.inj g4
  subst hr
  exact callP_of is64 rfl (path hm (ks := [2]) (σ' := ⟨[(2, .msl 0 0 (List.length y2) (List.length (rowI e3 y2)) false)], [.cells (rowI e3 y3) 1]⟩) (cc := [.reg [] [] 0 [(0, none, .imm)] [1, 2], .reg [] [] 0 [] [1, 2, 3], .reg [] [] 0 [] [1, 2, 3, 4], .reg [] [] 1 [(0, some 0, .a)] [1, 2, 3, 4, 5], .leaf (.exit 0) ⟨[(1, .p (.ref [.ref [.sl (List.map e3 p0.1.1) false, .sl (List.map e3 p0.1.2.1) false, .sl (List.map e3 p0.1.2.2) false, .map (mapK e89 p0.2) (mapV e2 p0.2)]])), (2, .p (.nilsl)), (3, .p (.nilsl)), (5, .ptr 0 0 1)], [.cells [.p (.int .i64 y1)] 0]⟩, .leaf (.exit 2) ⟨[(3, .msl 0 0 (List.length y2) (List.length (rowI e3 y2)) false)], [.cells (rowI e3 y2) 1]⟩, .reg [] [] 0 [(1, none, .ci (.tup []) [(0, .cells (rowI e3 y3) 1)])] [3], .reg [] [] 0 [] [2]])
   (ai (SemJ.loop (L64_0_ok p0.1.1 p0.1.2.1 p0.1.2.2 p0.2 p0.1.1 p0.1.2.1 p0.1.2.2 p0.2 fuel 0 _ h1)) (ai (SemJ.loop (L64_1_ok p0.1.1 p0.1.2.1 p0.1.2.2 p0.2 y1 fuel  _ h2)) (ai (G83_ok fuel y2 _ h3) trivial))) (by kernel_rfl)) (e := .ret) rfl (vs := [.msl 0 0 (List.length y2) (List.length (rowI e3 y2)) false]) trivial (by kernel_rfl) (snap_row (g := 1) (L := y3) el3 (by kernel_rfl) (Eq.trans (row_eqlen el3 (od h4)) (rl (List.length (rowI e3 y2)))) (Eq.trans (od h4) (rl (List.length y2))))
def F31  (fuel : Nat) (p0 : (List (Int × Int))) (p1 : ((List Int) × (List Int) × (List Int))) : Option ((List Int) × Int) :=
 (obind (F60 fuel p0 (p1.1, p1.2.1, p1.2.2)) fun y1 => match y1 with
 | .inl y1 => oif ((y1 != 0))
  (some ([], y1))
  (none)
 | .inr (y1) => oif (((y1.length : Int) == (IntKind.wrap .i64 (2 * (p0.length : Int)))))
  (some ([], 5))
  (obind (F64 fuel ((((p1.1, p1.2.1, p1.2.2).1, (p1.1, p1.2.1, p1.2.2).2.1, (p1.1, p1.2.1, p1.2.2).2.2).1, ((p1.1, p1.2.1, p1.2.2).1, (p1.1, p1.2.1, p1.2.2).2.1, (p1.1, p1.2.1, p1.2.2).2.2).2.1, ((p1.1, p1.2.1, p1.2.2).1, (p1.1, p1.2.1, p1.2.2).2.1, (p1.1, p1.2.1, p1.2.2).2.2).2.2), y1)) fun r2 => oif (decide ((0:Int) ≤ (r2.length : Int))) (oif (decide (((8 : Nat) : Int) * (r2.length : Int) ≤ 281474976710656)) (oif (decide (((r2.length : Int) : Int) ≤ 9223372036854775807)) (some ((copyL (List.replicate (Int.toNat (r2.length : Int)) (0 : Int)) r2), 0)) none) none) none))
theorem F31_ok  (fuel : Nat) (p0 : (List (Int × Int))) (p1 : ((List Int) × (List Int) × (List Int))) (fp0 : Bool) (r : ((List Int) × Int)) (h : F31 fuel p0 p1 = some r) : CallP prog 31 [.sl (List.map e70 p0) fp0, .agg [.sl (List.map e3 p1.1) false, .sl (List.map e3 p1.2.1) false, .sl (List.map e3 p1.2.2) false]] (.tup [.sl (List.map e3 r.1) false, .int .i64 r.2]) := by
 unfold F31 at h
 refine obind_elim h fun y h1 g1 => ?_
 match y, h1, g1 with
 | .inl y1, h1, g1 =>
  refine oif_elim g1 (fun h2 g2 => ?_) (fun h2 g2 => ?_)
  ·have hr := Option.some.inj g2
   subst hr
   exact callP_of is31 rfl (path hm (ks := [4, 5]) (σ' := ⟨[(4, .p (.nilsl)), (5, .p (.int .i64 y1))], []⟩) (cc := [.reg [] [] 0 [(0, none, .imm)] [0, 3], .reg [] [] 0 [(2, none, .call (.tup [.nilp, .int .i64 y1]))] [0, 6, 7], .reg [] [] 0 [(1, none, .b true)] [0, 6, 7, 16], .reg [] [] 0 [] [4, 5]])
   (ai (F60_ok fuel p0 (p1.1, p1.2.1, p1.2.2) fp0 _ h1) (ai h2 trivial)) (by kernel_rfl)) (e := .ret) rfl (vs := [.p (.nilsl), .p (.int .i64 y1)]) trivial (by kernel_rfl) (.tup _ _ (.cons _ _ _ _ (.p _ _ (.nil _)) (.cons _ _ _ _ (.p _ _ (.refl _)) .nil)))
  ·exact nomatch g2
 | .inr (y1), h1, g1 =>
  let c315 : List CC := [.reg [] [] 0 [(0, none, .imm)] [0, 3], .reg [] [] 0 [(2, none, .call (.tup [.ref [.sl (List.map e3 (((p1.1, p1.2.1, p1.2.2).1, (p1.1, p1.2.1, p1.2.2).2.1, (p1.1, p1.2.1, p1.2.2).2.2).1)) false, .sl (List.map e3 (((p1.1, p1.2.1, p1.2.2).1, (p1.1, p1.2.1, p1.2.2).2.1, (p1.1, p1.2.1, p1.2.2).2.2).2.1)) false, .sl (List.map e3 (((p1.1, p1.2.1, p1.2.2).1, (p1.1, p1.2.1, p1.2.2).2.1, (p1.1, p1.2.1, p1.2.2).2.2).2.2)) false, .map (mapK e89 y1) (mapV e2 y1)], .int .i64 0]))] [0, 6, 7], .reg [] [] 0 [] [0, 6, 7, 16]]
  have q316 := fun {P : Prop} (t : P) => ai (F60_ok fuel p0 (p1.1, p1.2.1, p1.2.2) fp0 _ h1) (ai (congrArg (fun n : Nat => (n : Int)) (mapK_len e89 y1)) (ai (len_map e70 p0) t))
  refine oif_elim g1 (fun h2 g2 => ?_) (fun h2 g2 => ?_)
  ·have hr := Option.some.inj g2
   subst hr
   exact callP_of is31 rfl (path hm (ks := [4, 5]) (σ' := ⟨[(4, .p (.nilsl)), (5, .p (.int .i64 5))], []⟩) (cc := c315 ++ [.reg [] [] 0 [(4, none, .n (y1.length : Int)), (6, none, .n (p0.length : Int)), (8, none, .b true)] [6, 20], .reg [] [] 0 [] [4, 5]])
   (q316 (ai h2 trivial)) (by kernel_rfl)) (e := .ret) rfl (vs := [.p (.nilsl), .p (.int .i64 5)]) trivial (by kernel_rfl) (.tup _ _ (.cons _ _ _ _ (.p _ _ (.nil _)) (.cons _ _ _ _ (.p _ _ (.refl _)) .nil)))
  ·refine obind_elim g2 fun r2 h3 g3 => ?_
   refine oif_elim g3 (fun h4 g4 => ?_) (fun _ h => nomatch h)
   refine oif_elim g4 (fun h5 g5 => ?_) (fun _ h => nomatch h)
   refine oif_elim g5 (fun h6 g6 => ?_) (fun _ h => nomatch h)
   have hr := Option.some.inj g6
   subst hr
   exact callP_of is31 rfl (path hm (ks := [4, 5]) (σ' := ⟨[(4, .msl 0 0 (Int.toNat (r2.length : Int)) (List.length (rowI e3 (List.replicate (Int.toNat (r2.length : Int)) (0 : Int)))) true), (5, .p (.int .i64 0))], [.cells (rowI e3 (copyL (List.replicate (Int.toNat (r2.length : Int)) (0 : Int)) r2)) 1]⟩) (cc := c315 ++ [.reg [] [] 0 [(4, none, .n (y1.length : Int)), (6, none, .n (p0.length : Int)), (8, none, .b false)] [6, 20], .reg [] [] 0 [(1, none, .call (.sl (List.map e3 r2) false))] [8], .reg [] [] 1 [(1, none, .n (r2.length : Int)), (2, some 0, .ap (rowI e3 (List.replicate (Int.toNat (r2.length : Int)) (0 : Int))) (Int.toNat (r2.length : Int)) (List.length (rowI e3 (List.replicate (Int.toNat (r2.length : Int)) (0 : Int)))))] [8, 9], .reg [] [] 0 [(2, none, .ap (rowI e3 (copyL (List.replicate (Int.toNat (r2.length : Int)) (0 : Int)) r2)) (Nat.min (List.length (List.map e3 r2)) (Int.toNat (r2.length : Int))) 0)] [9], .reg [] [] 0 [] [4, 5]])
   (q316 (ai h2 (ai (F64_ok fuel ((((p1.1, p1.2.1, p1.2.2).1, (p1.1, p1.2.1, p1.2.2).2.1, (p1.1, p1.2.1, p1.2.2).2.2).1, ((p1.1, p1.2.1, p1.2.2).1, (p1.1, p1.2.1, p1.2.2).2.1, (p1.1, p1.2.1, p1.2.2).2.2).2.1, ((p1.1, p1.2.1, p1.2.2).1, (p1.1, p1.2.1, p1.2.2).2.1, (p1.1, p1.2.1, p1.2.2).2.2).2.2), y1) _ h3) (ai (len_map e3 r2) (ai (od h4) (ai (rfl : ((r2.length : Int) : Int) = (r2.length : Int)) (ai (od h5) (ai (od h6) (ai (rl (Int.toNat (r2.length : Int))) (ai (rl (List.length (rowI e3 (List.replicate (Int.toNat (r2.length : Int)) (0 : Int))))) (ai (zeros_row el3 (0 : Int) (Int.toNat (r2.length : Int))) (ai (rl (Nat.min (List.length (List.map e3 r2)) (Int.toNat (r2.length : Int)))) (ai (rl (List.length (rowI e3 (List.replicate (Int.toNat (r2.length : Int)) (0 : Int))))) (ai (row_whole_le el3 (List.length_replicate : List.length (List.replicate (Int.toNat (r2.length : Int)) (0 : Int)) = (Int.toNat (r2.length : Int))) (rl (List.length (rowI e3 (List.replicate (Int.toNat (r2.length : Int)) (0 : Int)))))) (ai (fun y h => row_sc el3 r2 y h) (ai (row_copy' el3 (L := (List.replicate (Int.toNat (r2.length : Int)) (0 : Int))) (M := r2) rfl (List.length_replicate : List.length (List.replicate (Int.toNat (r2.length : Int)) (0 : Int)) = (Int.toNat (r2.length : Int)))) (ai (row_es el3 r2) trivial))))))))))))))))) (by kernel_rfl)) (e := .ret) rfl (vs := [.msl 0 0 (Int.toNat (r2.length : Int)) (List.length (rowI e3 (List.replicate (Int.toNat (r2.length : Int)) (0 : Int)))) true, .p (.int .i64 0)]) trivial (by kernel_rfl) (.tup _ _ (.cons _ _ _ _ (snap_row (g := 1) (L := (copyL (List.replicate (Int.toNat (r2.length : Int)) (0 : Int)) r2)) el3 (by kernel_rfl) ((row_copylen el3 (List.replicate (Int.toNat (r2.length : Int)) (0 : Int)) r2).trans (rl (List.length (rowI e3 (List.replicate (Int.toNat (r2.length : Int)) (0 : Int)))))) ((copyL_len (List.replicate (Int.toNat (r2.length : Int)) (0 : Int)) r2).trans (List.length_replicate : List.length (List.replicate (Int.toNat (r2.length : Int)) (0 : Int)) = (Int.toNat (r2.length : Int))))) (.cons _ _ _ _ (.p _ _ (.refl _)) .nil)))
def L14_0  (v0 : (List (Int × Int))) : Nat → Int → Option (Unit ⊕ Unit)
 | 0, _ => none
 | fuel + 1, v3 =>
  oif ((decide (v3 < (v0.length : Int))))
  (obind (sg v0 v3) fun x1 => oif ((decide (x1.1 < 1)))
   (some (.inl ()))
   (oif ((decide (x1.1 > 500)))
    (some (.inl ()))
    (oif ((decide (x1.2 < 1)))
     (some (.inl ()))
     (oif ((decide (x1.2 > 500)))
      (some (.inl ()))
      (L14_0 v0 fuel (IntKind.wrap .i64 (v3 + 1)))))))
  (some (.inr (())))
noncomputable def L14_0_post (v0 : (List (Int × Int))) (fp0 : Bool) : (Unit ⊕ Unit) → Ex × St
 | .inl y => (.ret, ⟨[(2, .p (.int .i64 3))], []⟩)
 | .inr (y) => ((.exit 0), ⟨[], []⟩)
theorem L14_0_ok  (v0 : (List (Int × Int))) (fp0 : Bool) : ∀ (fuel : Nat) (v3 : Int) (r : (Unit ⊕ Unit)), L14_0 v0 fuel v3 = some r →
  SemJ prog ⟨48, 0, false⟩ (codeAt [1, 1, 0, 1, 0, 0] (bodyOf f14)) ⟨[(0, .p (.sl (List.map e70 v0) fp0)), (3, .p (.int .i64 v3))], []⟩ (L14_0_post v0 fp0 r).1 (L14_0_post v0 fp0 r).2
 | 0, _, _, h => nomatch h
 | fuel + 1, v3, r, h => by
  let z3 : Int := (IntKind.wrap .i64 (v3 + 1))
  let z2 : St := ⟨[(2, .p (.int .i64 3))], []⟩
  let z1 : St := ⟨[(0, .p (.sl (List.map e70 v0) fp0)), (3, .p (.int .i64 z3))], []⟩
  unfold L14_0 at h
  refine oif_elim h (fun h1 g1 => ?_) (fun h1 g1 => ?_)
  ·refine obind_elim g1 fun x1 h2 g2 => ?_
   let c317 : List CC := [.reg [] [] 0 [(2, none, .n (v0.length : Int)), (3, none, .b true)] [0, 3, 15]]
   have q318 := fun {P : Prop} (t : P) => ai (len_map e70 v0) (ai h1 (ai (sg_map (f := e70) h2) t))
   refine oif_elim g2 (fun h3 g3 => ?_) (fun h3 g3 => ?_)
   ·have hr := Option.some.inj g3
    subst hr
    exact SemC.cast (SemJ.out (e := .ret) (path hm (σ' := z2) (ks := [2]) (cc := c317 ++ [.reg [] [] 0 [(2, none, .iv (.p (.agg [.int .i64 x1.1, .int .i64 x1.2]))), (5, none, .b true)] [0, 3, 47], .reg [] [] 0 [] [2]])
    (q318 (ai h3 trivial)) (by kernel_rfl)) (by simp)) (by kernel_rfl) (by kernel_rfl)
   ·refine oif_elim g3 (fun h4 g4 => ?_) (fun h4 g4 => ?_)
    ·have hr := Option.some.inj g4
     subst hr
     exact SemC.cast (SemJ.out (e := .ret) (path hm (σ' := z2) (ks := [2]) (cc := c317 ++ [.reg [] [] 0 [(2, none, .iv (.p (.agg [.int .i64 x1.1, .int .i64 x1.2]))), (5, none, .b false), (9, none, .iv (.p (.agg [.int .i64 x1.1, .int .i64 x1.2]))), (12, none, .b true)] [0, 3, 47], .reg [] [] 0 [] [2]])
    (q318 (ai h3 (ai (sg_map (f := e70) h2) (ai h4 trivial)))) (by kernel_rfl)) (by simp)) (by kernel_rfl) (by kernel_rfl)
    ·refine oif_elim g4 (fun h5 g5 => ?_) (fun h5 g5 => ?_)
     ·have hr := Option.some.inj g5
      subst hr
      exact SemC.cast (SemJ.out (e := .ret) (path hm (σ' := z2) (ks := [2]) (cc := c317 ++ [.reg [] [] 0 [(2, none, .iv (.p (.agg [.int .i64 x1.1, .int .i64 x1.2]))), (5, none, .b false), (9, none, .iv (.p (.agg [.int .i64 x1.1, .int .i64 x1.2]))), (12, none, .b false), (17, none, .iv (.p (.agg [.int .i64 x1.1, .int .i64 x1.2]))), (20, none, .b true)] [0, 3, 47], .reg [] [] 0 [] [2]])
    (q318 (ai h3 (ai (sg_map (f := e70) h2) (ai h4 (ai (sg_map (f := e70) h2) (ai h5 trivial)))))) (by kernel_rfl)) (by simp)) (by kernel_rfl) (by kernel_rfl)
     ·refine oif_elim g5 (fun h6 g6 => ?_) (fun h6 g6 => ?_)
      ·have hr := Option.some.inj g6
       subst hr
       exact SemC.cast (SemJ.out (e := .ret) (path hm (σ' := z2) (ks := [2]) (cc := c317 ++ [.reg [] [] 0 [(2, none, .iv (.p (.agg [.int .i64 x1.1, .int .i64 x1.2]))), (5, none, .b false), (9, none, .iv (.p (.agg [.int .i64 x1.1, .int .i64 x1.2]))), (12, none, .b false), (17, none, .iv (.p (.agg [.int .i64 x1.1, .int .i64 x1.2]))), (20, none, .b false), (25, none, .iv (.p (.agg [.int .i64 x1.1, .int .i64 x1.2]))), (28, none, .b true)] [0, 3, 47], .reg [] [] 0 [] [2]])
    (q318 (ai h3 (ai (sg_map (f := e70) h2) (ai h4 (ai (sg_map (f := e70) h2) (ai h5 (ai (sg_map (f := e70) h2) (ai h6 trivial)))))))) (by kernel_rfl)) (by simp)) (by kernel_rfl) (by kernel_rfl)
      ·exact SemJ.again (σ1 := z1) (path hm (σ' := z1) (ks := [0, 3]) (cc := c317 ++ [.reg [] [] 0 [(2, none, .iv (.p (.agg [.int .i64 x1.1, .int .i64 x1.2]))), (5, none, .b false), (9, none, .iv (.p (.agg [.int .i64 x1.1, .int .i64 x1.2]))), (12, none, .b false), (17, none, .iv (.p (.agg [.int .i64 x1.1, .int .i64 x1.2]))), (20, none, .b false), (25, none, .iv (.p (.agg [.int .i64 x1.1, .int .i64 x1.2]))), (28, none, .b false)] [0, 3, 47], .reg [] [] 0 [] [0, 3]])
    (q318 (ai h3 (ai (sg_map (f := e70) h2) (ai h4 (ai (sg_map (f := e70) h2) (ai h5 (ai (sg_map (f := e70) h2) (ai h6 trivial)))))))) (by kernel_rfl)) (L14_0_ok v0 fp0 fuel z3 _ g6)
  ·have hr := Option.some.inj g1
   subst hr
   exact SemC.cast (SemJ.out (e := (.exit 0)) (path hm (σ' := ⟨[], []⟩) (ks := []) (cc := [.reg [] [] 0 [(2, none, .n (v0.length : Int)), (3, none, .b false)] [0, 3, 15]])
    (ai (len_map e70 v0) (ai h1 trivial)) (by kernel_rfl)) (by simp)) (by kernel_rfl) (by kernel_rfl)
def F14  (fuel : Nat) (p0 : (List (Int × Int))) : Option Int :=
 oif ((decide ((p0.length : Int) < 1)))
 (some 6)
 (oif ((decide ((p0.length : Int) > 8)))
  (some 6)
  ((obind (L14_0 p0 fuel 0) fun y1 => match y1 with
   | .inl y1 => some 3
   | .inr (y1) => some 0)))
theorem F14_ok  (fuel : Nat) (p0 : (List (Int × Int))) (fp0 : Bool) (r : Int) (h : F14 fuel p0 = some r) : CallP prog 14 [.sl (List.map e70 p0) fp0] (.int .i64 r) := by
 let z2 : St := ⟨[(2, .p (.int .i64 3))], []⟩
 let z1 : St := ⟨[(2, .p (.int .i64 6))], []⟩
 unfold F14 at h
 refine oif_elim h (fun h1 g1 => ?_) (fun h1 g1 => ?_)
 ·have hr := Option.some.inj g1
  subst hr
  exact callP_of is14 rfl (path hm (ks := [2]) (σ' := z1) (cc := [.reg [] [] 0 [] [0], .reg [] [] 0 [(1, none, .n (p0.length : Int)), (2, none, .b true)] [0, 11], .reg [] [] 0 [] [2]])
   (ai (len_map e70 p0) (ai h1 trivial)) (by kernel_rfl)) (e := .ret) rfl (vs := [.p (.int .i64 6)]) trivial (by kernel_rfl) (.p _ _ (.refl _))
 ·refine oif_elim g1 (fun h2 g2 => ?_) (fun h2 g2 => ?_)
  ·have hr := Option.some.inj g2
   subst hr
   exact callP_of is14 rfl (path hm (ks := [2]) (σ' := z1) (cc := [.reg [] [] 0 [] [0], .reg [] [] 0 [(1, none, .n (p0.length : Int)), (2, none, .b false), (5, none, .n (p0.length : Int)), (6, none, .b true)] [0, 11], .reg [] [] 0 [] [2]])
   (ai (len_map e70 p0) (ai h1 (ai (len_map e70 p0) (ai h2 trivial)))) (by kernel_rfl)) (e := .ret) rfl (vs := [.p (.int .i64 6)]) trivial (by kernel_rfl) (.p _ _ (.refl _))
  ·let c319 : List CC := [.reg [] [] 0 [] [0], .reg [] [] 0 [(1, none, .n (p0.length : Int)), (2, none, .b false), (5, none, .n (p0.length : Int)), (6, none, .b false)] [0, 11], .reg [] [] 0 [] [0, 3]]
   refine obind_elim g2 fun y h3 g3 => ?_
   match y, h3, g3 with
   | .inl y1, h3, g3 =>
    have hr := Option.some.inj g3
    subst hr
    exact callP_of is14 rfl (path hm (ks := [2]) (σ' := z2) (cc := c319 ++ [.leaf .ret z2])
   (ai (len_map e70 p0) (ai h1 (ai (len_map e70 p0) (ai h2 (ai (SemJ.loop (L14_0_ok p0 fp0 fuel 0 _ h3)) trivial))))) (by kernel_rfl)) (e := .ret) rfl (vs := [.p (.int .i64 3)]) trivial (by kernel_rfl) (.p _ _ (.refl _))
   | .inr (y1), h3, g3 =>
    have hr := Option.some.inj g3
    subst hr
    exact callP_of is14 rfl (path hm (ks := [2]) (σ' := ⟨[(2, .p (.int .i64 0))], []⟩) (cc := c319 ++ [.leaf (.exit 0) ⟨[], []⟩, .reg [] [] 0 [] [2]])
   (ai (len_map e70 p0) (ai h1 (ai (len_map e70 p0) (ai h2 (ai (SemJ.loop (L14_0_ok p0 fp0 fuel 0 _ h3)) trivial))))) (by kernel_rfl)) (e := .ret) rfl (vs := [.p (.int .i64 0)]) trivial (by kernel_rfl) (.p _ _ (.refl _))
def L10_0  (v0 : (List (Int × Int))) (v1 : (List (Int × Int))) : Nat → Int → Option (Unit ⊕ Unit)
 | 0, _ => none
 | fuel + 1, v6 =>
  oif ((decide (v6 < (v1.length : Int))))
  (obind (sg v1 v6) fun x1 => oif ((decide (x1.1 < 0)))
   (some (.inl ()))
   (oif ((decide (x1.1 > 100000)))
    (some (.inl ()))
    (oif ((decide (x1.2 < 0)))
     (some (.inl ()))
     (oif ((decide (x1.2 > 100000)))
      (some (.inl ()))
      (L10_0 v0 v1 fuel (IntKind.wrap .i64 (v6 + 1)))))))
  (some (.inr (())))
noncomputable def L10_0_post (v0 : (List (Int × Int))) (v1 : (List (Int × Int))) (fp0 : Bool) (fp1 : Bool) : (Unit ⊕ Unit) → Ex × St
 | .inl y => (.ret, ⟨[(4, .p (.int .i64 0)), (5, .p (.int .i64 3))], []⟩)
 | .inr (y) => ((.exit 0), ⟨[(0, .p (.sl (List.map e70 v0) fp0)), (1, .p (.sl (List.map e60 v1) fp1))], []⟩)
theorem L10_0_ok  (v0 : (List (Int × Int))) (v1 : (List (Int × Int))) (fp0 : Bool) (fp1 : Bool) : ∀ (fuel : Nat) (v6 : Int) (r : (Unit ⊕ Unit)), L10_0 v0 v1 fuel v6 = some r →
  SemJ prog ⟨106, 0, false⟩ (codeAt [1, 1, 1, 0, 1, 0, 0] (bodyOf f10)) ⟨[(0, .p (.sl (List.map e70 v0) fp0)), (1, .p (.sl (List.map e60 v1) fp1)), (6, .p (.int .i64 v6))], []⟩ (L10_0_post v0 v1 fp0 fp1 r).1 (L10_0_post v0 v1 fp0 fp1 r).2
 | 0, _, _, h => nomatch h
 | fuel + 1, v6, r, h => by
  let z3 : Int := (IntKind.wrap .i64 (v6 + 1))
  let z2 : St := ⟨[(4, .p (.int .i64 0)), (5, .p (.int .i64 3))], []⟩
  let z1 : St := ⟨[(0, .p (.sl (List.map e70 v0) fp0)), (1, .p (.sl (List.map e60 v1) fp1)), (6, .p (.int .i64 z3))], []⟩
  unfold L10_0 at h
  refine oif_elim h (fun h1 g1 => ?_) (fun h1 g1 => ?_)
  ·refine obind_elim g1 fun x1 h2 g2 => ?_
   let c320 : List CC := [.reg [] [] 0 [(2, none, .n (v1.length : Int)), (3, none, .b true)] [0, 1, 6, 22]]
   have q321 := fun {P : Prop} (t : P) => ai (len_map e60 v1) (ai h1 (ai (sg_map (f := e60) h2) t))
   refine oif_elim g2 (fun h3 g3 => ?_) (fun h3 g3 => ?_)
   ·have hr := Option.some.inj g3
    subst hr
    exact SemC.cast (SemJ.out (e := .ret) (path hm (σ' := z2) (ks := [4, 5]) (cc := c320 ++ [.reg [] [] 0 [(2, none, .iv (.p (.agg [.int .i64 x1.1, .int .i64 x1.2]))), (5, none, .b true)] [0, 1, 6, 54], .reg [] [] 0 [] [4, 5]])
    (q321 (ai h3 trivial)) (by kernel_rfl)) (by simp)) (by kernel_rfl) (by kernel_rfl)
   ·refine oif_elim g3 (fun h4 g4 => ?_) (fun h4 g4 => ?_)
    ·have hr := Option.some.inj g4
     subst hr
     exact SemC.cast (SemJ.out (e := .ret) (path hm (σ' := z2) (ks := [4, 5]) (cc := c320 ++ [.reg [] [] 0 [(2, none, .iv (.p (.agg [.int .i64 x1.1, .int .i64 x1.2]))), (5, none, .b false), (9, none, .iv (.p (.agg [.int .i64 x1.1, .int .i64 x1.2]))), (12, none, .b true)] [0, 1, 6, 54], .reg [] [] 0 [] [4, 5]])
    (q321 (ai h3 (ai (sg_map (f := e60) h2) (ai h4 trivial)))) (by kernel_rfl)) (by simp)) (by kernel_rfl) (by kernel_rfl)
    ·refine oif_elim g4 (fun h5 g5 => ?_) (fun h5 g5 => ?_)
     ·have hr := Option.some.inj g5
      subst hr
      exact SemC.cast (SemJ.out (e := .ret) (path hm (σ' := z2) (ks := [4, 5]) (cc := c320 ++ [.reg [] [] 0 [(2, none, .iv (.p (.agg [.int .i64 x1.1, .int .i64 x1.2]))), (5, none, .b false), (9, none, .iv (.p (.agg [.int .i64 x1.1, .int .i64 x1.2]))), (12, none, .b false), (17, none, .iv (.p (.agg [.int .i64 x1.1, .int .i64 x1.2]))), (20, none, .b true)] [0, 1, 6, 54], .reg [] [] 0 [] [4, 5]])
    (q321 (ai h3 (ai (sg_map (f := e60) h2) (ai h4 (ai (sg_map (f := e60) h2) (ai h5 trivial)))))) (by kernel_rfl)) (by simp)) (by kernel_rfl) (by kernel_rfl)
     ·refine oif_elim g5 (fun h6 g6 => ?_) (fun h6 g6 => ?_)
      ·have hr := Option.some.inj g6
       subst hr
       exact SemC.cast (SemJ.out (e := .ret) (path hm (σ' := z2) (ks := [4, 5]) (cc := c320 ++ [.reg [] [] 0 [(2, none, .iv (.p (.agg [.int .i64 x1.1, .int .i64 x1.2]))), (5, none, .b false), (9, none, .iv (.p (.agg [.int .i64 x1.1, .int .i64 x1.2]))), (12, none, .b false), (17, none, .iv (.p (.agg [.int .i64 x1.1, .int .i64 x1.2]))), (20, none, .b false), (25, none, .iv (.p (.agg [.int .i64 x1.1, .int .i64 x1.2]))), (28, none, .b true)] [0, 1, 6, 54], .reg [] [] 0 [] [4, 5]])
    (q321 (ai h3 (ai (sg_map (f := e60) h2) (ai h4 (ai (sg_map (f := e60) h2) (ai h5 (ai (sg_map (f := e60) h2) (ai h6 trivial)))))))) (by kernel_rfl)) (by simp)) (by kernel_rfl) (by kernel_rfl)
      ·exact SemJ.again (σ1 := z1) (path hm (σ' := z1) (ks := [0, 1, 6]) (cc := c320 ++ [.reg [] [] 0 [(2, none, .iv (.p (.agg [.int .i64 x1.1, .int .i64 x1.2]))), (5, none, .b false), (9, none, .iv (.p (.agg [.int .i64 x1.1, .int .i64 x1.2]))), (12, none, .b false), (17, none, .iv (.p (.agg [.int .i64 x1.1, .int .i64 x1.2]))), (20, none, .b false), (25, none, .iv (.p (.agg [.int .i64 x1.1, .int .i64 x1.2]))), (28, none, .b false)] [0, 1, 6, 54], .reg [] [] 0 [] [0, 1, 6]])
    (q321 (ai h3 (ai (sg_map (f := e60) h2) (ai h4 (ai (sg_map (f := e60) h2) (ai h5 (ai (sg_map (f := e60) h2) (ai h6 trivial)))))))) (by kernel_rfl)) (L10_0_ok v0 v1 fp0 fp1 fuel z3 _ g6)
  ·have hr := Option.some.inj g1
   subst hr
   exact SemC.cast (SemJ.out (e := (.exit 0)) (path hm (σ' := ⟨[(0, .p (.sl (List.map e70 v0) fp0)), (1, .p (.sl (List.map e60 v1) fp1))], []⟩) (ks := [0, 1]) (cc := [.reg [] [] 0 [(2, none, .n (v1.length : Int)), (3, none, .b false)] [0, 1, 6, 22]])
    (ai (len_map e60 v1) (ai h1 trivial)) (by kernel_rfl)) (by simp)) (by kernel_rfl) (by kernel_rfl)
def F46  (fuel : Nat) (p0 : (List (Int × Int))) (p1 : Int) : Option Int :=
 oif (((Int.tmod p1 2) == 0))
 (obind (sg p0 (IntKind.wrap .i64 (Int.tdiv p1 2))) fun x1 => some x1.1)
 (obind (sg p0 (IntKind.wrap .i64 (Int.tdiv p1 2))) fun x1 => some x1.2)
theorem F46_ok  (fuel : Nat) (p0 : (List (Int × Int))) (p1 : Int) (fp0 : Bool) (r : Int) (h : F46 fuel p0 p1 = some r) : CallP prog 46 [.sl (List.map e60 p0) fp0, .int .i64 p1] (.int .i64 r) := by
 unfold F46 at h
 refine oif_elim h (fun h1 g1 => ?_) (fun h1 g1 => ?_)
 ·refine obind_elim g1 fun x1 h2 g2 => ?_
  have hr := Option.some.inj g2
  subst hr
  exact callP_of is46 rfl (path hm (ks := [4]) (σ' := ⟨[(4, .p (.int .i64 x1.1))], []⟩) (cc := [.reg [] [] 0 [] [0, 1], .reg [] [] 0 [(2, none, .b true)] [0, 1, 7], .reg [] [] 0 [(3, none, .iv (.p (.agg [.int .i64 x1.1, .int .i64 x1.2])))] [4]])
   (ai (by decide : (2 : Int) ≠ 0) (ai h1 (ai (by decide : (2 : Int) ≠ 0) (ai (sg_map (f := e60) h2) trivial)))) (by kernel_rfl)) (e := .ret) rfl (vs := [.p (.int .i64 x1.1)]) trivial (by kernel_rfl) (.p _ _ (.refl _))
 ·refine obind_elim g1 fun x1 h2 g2 => ?_
  have hr := Option.some.inj g2
  subst hr
  exact callP_of is46 rfl (path hm (ks := [4]) (σ' := ⟨[(4, .p (.int .i64 x1.2))], []⟩) (cc := [.reg [] [] 0 [] [0, 1], .reg [] [] 0 [(2, none, .b false)] [0, 1, 7], .reg [] [] 0 [(3, none, .iv (.p (.agg [.int .i64 x1.1, .int .i64 x1.2])))] [4]])
   (ai (by decide : (2 : Int) ≠ 0) (ai h1 (ai (by decide : (2 : Int) ≠ 0) (ai (sg_map (f := e60) h2) trivial)))) (by kernel_rfl)) (e := .ret) rfl (vs := [.p (.int .i64 x1.2)]) trivial (by kernel_rfl) (.p _ _ (.refl _))
def F47  (fuel : Nat) (p0 : (List (Int × Int))) (p1 : Int) : Option Int :=
 oif (((Int.tmod p1 2) == 0))
 (obind (sg p0 (IntKind.wrap .i64 (Int.tdiv p1 2))) fun x1 => some x1.1)
 (obind (sg p0 (IntKind.wrap .i64 (Int.tdiv p1 2))) fun x1 => some x1.2)
theorem F47_ok  (fuel : Nat) (p0 : (List (Int × Int))) (p1 : Int) (fp0 : Bool) (r : Int) (h : F47 fuel p0 p1 = some r) : CallP prog 47 [.sl (List.map e70 p0) fp0, .int .i64 p1] (.int .i64 r) := by
 unfold F47 at h
 refine oif_elim h (fun h1 g1 => ?_) (fun h1 g1 => ?_)
 ·refine obind_elim g1 fun x1 h2 g2 => ?_
  have hr := Option.some.inj g2
  subst hr
  exact callP_of is47 rfl (path hm (ks := [4]) (σ' := ⟨[(4, .p (.int .i64 x1.1))], []⟩) (cc := [.reg [] [] 0 [] [0, 1], .reg [] [] 0 [(2, none, .b true)] [0, 1, 7], .reg [] [] 0 [(3, none, .iv (.p (.agg [.int .i64 x1.1, .int .i64 x1.2])))] [4]])
   (ai (by decide : (2 : Int) ≠ 0) (ai h1 (ai (by decide : (2 : Int) ≠ 0) (ai (sg_map (f := e70) h2) trivial)))) (by kernel_rfl)) (e := .ret) rfl (vs := [.p (.int .i64 x1.1)]) trivial (by kernel_rfl) (.p _ _ (.refl _))
 ·refine obind_elim g1 fun x1 h2 g2 => ?_
  have hr := Option.some.inj g2
  subst hr
  exact callP_of is47 rfl (path hm (ks := [4]) (σ' := ⟨[(4, .p (.int .i64 x1.2))], []⟩) (cc := [.reg [] [] 0 [] [0, 1], .reg [] [] 0 [(2, none, .b false)] [0, 1, 7], .reg [] [] 0 [(3, none, .iv (.p (.agg [.int .i64 x1.1, .int .i64 x1.2])))] [4]])
   (ai (by decide : (2 : Int) ≠ 0) (ai h1 (ai (by decide : (2 : Int) ≠ 0) (ai (sg_map (f := e70) h2) trivial)))) (by kernel_rfl)) (e := .ret) rfl (vs := [.p (.int .i64 x1.2)]) trivial (by kernel_rfl) (.p _ _ (.refl _))
def L10_3  (v0 : (List (Int × Int))) (v1 : (List (Int × Int))) (v7 : Int) : Nat → Int → Option (Unit ⊕ Unit)
 | 0, _ => none
 | fuel + 1, v8 =>
  oif ((decide (v8 < v7)))
  (oif (((Int.tmod v7 2) != (Int.tmod v8 2)))
   (oif (((IntKind.wrap .i64 (Int.tdiv v7 2)) != (IntKind.wrap .i64 (Int.tdiv v8 2))))
    (L10_3 v0 v1 v7 fuel (IntKind.wrap .i64 (v8 + 1)))
    (obind (F46 fuel v1 v7) fun r1 => obind (F46 fuel v1 v8) fun r2 => obind (F47 fuel v0 v8) fun r3 => oif ((decide (r1 < (IntKind.wrap .i64 (r2 + r3)))))
     (obind (F47 fuel v0 v7) fun r4 => oif ((decide (r2 < (IntKind.wrap .i64 (r1 + r4)))))
      (some (.inl ()))
      (L10_3 v0 v1 v7 fuel (IntKind.wrap .i64 (v8 + 1))))
     (L10_3 v0 v1 v7 fuel (IntKind.wrap .i64 (v8 + 1)))))
   (obind (F46 fuel v1 v7) fun r1 => obind (F46 fuel v1 v8) fun r2 => obind (F47 fuel v0 v8) fun r3 => oif ((decide (r1 < (IntKind.wrap .i64 (r2 + r3)))))
    (obind (F47 fuel v0 v7) fun r4 => oif ((decide (r2 < (IntKind.wrap .i64 (r1 + r4)))))
     (some (.inl ()))
     (L10_3 v0 v1 v7 fuel (IntKind.wrap .i64 (v8 + 1))))
    (L10_3 v0 v1 v7 fuel (IntKind.wrap .i64 (v8 + 1)))))
  (some (.inr (())))
noncomputable def L10_3_post (v0 : (List (Int × Int))) (v1 : (List (Int × Int))) (v7 : Int) (fp0 : Bool) (fp1 : Bool) : (Unit ⊕ Unit) → Ex × St
 | .inl y => (.ret, ⟨[(4, .p (.int .i64 0)), (5, .p (.int .i64 16))], []⟩)
 | .inr (y) => ((.exit 4), ⟨[(0, .p (.sl (List.map e70 v0) fp0)), (1, .p (.sl (List.map e60 v1) fp1)), (7, .p (.int .i64 v7))], []⟩)
theorem L10_3_ok  (v0 : (List (Int × Int))) (v1 : (List (Int × Int))) (v7 : Int) (fp0 : Bool) (fp1 : Bool) : ∀ (fuel : Nat) (v8 : Int) (r : (Unit ⊕ Unit)), L10_3 v0 v1 v7 fuel v8 = some r →
  SemJ prog ⟨106, 0, false⟩ (codeAt [1, 1, 1, 1, 0, 1, 0, 0, 1, 0, 0, 1, 0, 0] (bodyOf f10)) ⟨[(0, .p (.sl (List.map e70 v0) fp0)), (1, .p (.sl (List.map e60 v1) fp1)), (7, .p (.int .i64 v7)), (8, .p (.int .i64 v8))], []⟩ (L10_3_post v0 v1 v7 fp0 fp1 r).1 (L10_3_post v0 v1 v7 fp0 fp1 r).2
 | 0, _, _, h => nomatch h
 | fuel + 1, v8, r, h => by
  let z3 : Int := (IntKind.wrap .i64 (v8 + 1))
  let z2 : St := ⟨[(4, .p (.int .i64 0)), (5, .p (.int .i64 16))], []⟩
  let z1 : St := ⟨[(0, .p (.sl (List.map e70 v0) fp0)), (1, .p (.sl (List.map e60 v1) fp1)), (7, .p (.int .i64 v7)), (8, .p (.int .i64 z3))], []⟩
  unfold L10_3 at h
  refine oif_elim h (fun h1 g1 => ?_) (fun h1 g1 => ?_)
  ·let c322 : List CC := [.reg [] [] 0 [(2, none, .b true)] [0, 1, 7, 8, 64]]
   refine oif_elim g1 (fun h2 g2 => ?_) (fun h2 g2 => ?_)
   ·refine oif_elim g2 (fun h3 g3 => ?_) (fun h3 g3 => ?_)
    ·exact SemJ.again (σ1 := z1) (path hm (σ' := z1) (ks := [0, 1, 7, 8]) (cc := c322 ++ [.reg [] [] 0 [(4, none, .b true), (10, none, .b true)] [0, 1, 7, 8, 78], .reg [] [] 0 [] [0, 1, 7, 8]])
    (ai h1 (ai (by decide : (2 : Int) ≠ 0) (ai (by decide : (2 : Int) ≠ 0) (ai h2 (ai (by decide : (2 : Int) ≠ 0) (ai (by decide : (2 : Int) ≠ 0) (ai h3 trivial))))))) (by kernel_rfl)) (L10_3_ok v0 v1 v7 fp0 fp1 fuel z3 _ g3)
    ·refine obind_elim g3 fun r1 h4 g4 => ?_
     refine obind_elim g4 fun r2 h5 g5 => ?_
     refine obind_elim g5 fun r3 h6 g6 => ?_
     let c323 : List CC := c322 ++ [.reg [] [] 0 [(4, none, .b true), (10, none, .b false)] [0, 1, 7, 8, 78]]
     have q324 := fun {P : Prop} (t : P) => ai h3 (ai (F46_ok fuel v1 v7 fp1 _ h4) (ai (F46_ok fuel v1 v8 fp1 _ h5) (ai (F47_ok fuel v0 v8 fp0 _ h6) t)))
     refine oif_elim g6 (fun h7 g7 => ?_) (fun h7 g7 => ?_)
     ·refine obind_elim g7 fun r4 h8 g8 => ?_
      refine oif_elim g8 (fun h9 g9 => ?_) (fun h9 g9 => ?_)
      ·have hr := Option.some.inj g9
       subst hr
       exact SemC.cast (SemJ.out (e := .ret) (path hm (σ' := z2) (ks := [4, 5]) (cc := c323 ++ [.reg [] [] 0 [(2, none, .call (.int .i64 r1)), (5, none, .call (.int .i64 r2)), (8, none, .call (.int .i64 r3)), (10, none, .b true), (14, none, .call (.int .i64 r2)), (17, none, .call (.int .i64 r1)), (20, none, .call (.int .i64 r4)), (22, none, .b true)] [0, 1, 7, 8, 102], .reg [] [] 0 [] [4, 5]])
    (ai h1 (ai (by decide : (2 : Int) ≠ 0) (ai (by decide : (2 : Int) ≠ 0) (ai h2 (ai (by decide : (2 : Int) ≠ 0) (ai (by decide : (2 : Int) ≠ 0) (q324 (ai h7 (ai (F46_ok fuel v1 v8 fp1 _ h5) (ai (F46_ok fuel v1 v7 fp1 _ h4) (ai (F47_ok fuel v0 v7 fp0 _ h8) (ai h9 trivial)))))))))))) (by kernel_rfl)) (by simp)) (by kernel_rfl) (by kernel_rfl)
      ·exact SemJ.again (σ1 := z1) (path hm (σ' := z1) (ks := [0, 1, 7, 8]) (cc := c323 ++ [.reg [] [] 0 [(2, none, .call (.int .i64 r1)), (5, none, .call (.int .i64 r2)), (8, none, .call (.int .i64 r3)), (10, none, .b true), (14, none, .call (.int .i64 r2)), (17, none, .call (.int .i64 r1)), (20, none, .call (.int .i64 r4)), (22, none, .b false)] [0, 1, 7, 8, 102], .reg [] [] 0 [] [0, 1, 7, 8]])
    (ai h1 (ai (by decide : (2 : Int) ≠ 0) (ai (by decide : (2 : Int) ≠ 0) (ai h2 (ai (by decide : (2 : Int) ≠ 0) (ai (by decide : (2 : Int) ≠ 0) (q324 (ai h7 (ai (F46_ok fuel v1 v8 fp1 _ h5) (ai (F46_ok fuel v1 v7 fp1 _ h4) (ai (F47_ok fuel v0 v7 fp0 _ h8) (ai h9 trivial)))))))))))) (by kernel_rfl)) (L10_3_ok v0 v1 v7 fp0 fp1 fuel z3 _ g9)
     ·exact SemJ.again (σ1 := z1) (path hm (σ' := z1) (ks := [0, 1, 7, 8]) (cc := c323 ++ [.reg [] [] 0 [(2, none, .call (.int .i64 r1)), (5, none, .call (.int .i64 r2)), (8, none, .call (.int .i64 r3)), (10, none, .b false)] [0, 1, 7, 8, 102], .reg [] [] 0 [] [0, 1, 7, 8]])
    (ai h1 (ai (by decide : (2 : Int) ≠ 0) (ai (by decide : (2 : Int) ≠ 0) (ai h2 (ai (by decide : (2 : Int) ≠ 0) (ai (by decide : (2 : Int) ≠ 0) (q324 (ai h7 trivial)))))))) (by kernel_rfl)) (L10_3_ok v0 v1 v7 fp0 fp1 fuel z3 _ g7)
   ·refine obind_elim g2 fun r1 h3 g3 => ?_
    refine obind_elim g3 fun r2 h4 g4 => ?_
    refine obind_elim g4 fun r3 h5 g5 => ?_
    let c325 : List CC := c322 ++ [.reg [] [] 0 [(4, none, .b false)] [0, 1, 7, 8, 78]]
    have q326 := fun {P : Prop} (t : P) => ai h2 (ai (F46_ok fuel v1 v7 fp1 _ h3) (ai (F46_ok fuel v1 v8 fp1 _ h4) (ai (F47_ok fuel v0 v8 fp0 _ h5) t)))
    refine oif_elim g5 (fun h6 g6 => ?_) (fun h6 g6 => ?_)
    ·refine obind_elim g6 fun r4 h7 g7 => ?_
     refine oif_elim g7 (fun h8 g8 => ?_) (fun h8 g8 => ?_)
     ·have hr := Option.some.inj g8
      subst hr
      exact SemC.cast (SemJ.out (e := .ret) (path hm (σ' := z2) (ks := [4, 5]) (cc := c325 ++ [.reg [] [] 0 [(2, none, .call (.int .i64 r1)), (5, none, .call (.int .i64 r2)), (8, none, .call (.int .i64 r3)), (10, none, .b true), (14, none, .call (.int .i64 r2)), (17, none, .call (.int .i64 r1)), (20, none, .call (.int .i64 r4)), (22, none, .b true)] [0, 1, 7, 8, 102], .reg [] [] 0 [] [4, 5]])
    (ai h1 (ai (by decide : (2 : Int) ≠ 0) (ai (by decide : (2 : Int) ≠ 0) (q326 (ai h6 (ai (F46_ok fuel v1 v8 fp1 _ h4) (ai (F46_ok fuel v1 v7 fp1 _ h3) (ai (F47_ok fuel v0 v7 fp0 _ h7) (ai h8 trivial))))))))) (by kernel_rfl)) (by simp)) (by kernel_rfl) (by kernel_rfl)
     ·exact SemJ.again (σ1 := z1) (path hm (σ' := z1) (ks := [0, 1, 7, 8]) (cc := c325 ++ [.reg [] [] 0 [(2, none, .call (.int .i64 r1)), (5, none, .call (.int .i64 r2)), (8, none, .call (.int .i64 r3)), (10, none, .b true), (14, none, .call (.int .i64 r2)), (17, none, .call (.int .i64 r1)), (20, none, .call (.int .i64 r4)), (22, none, .b false)] [0, 1, 7, 8, 102], .reg [] [] 0 [] [0, 1, 7, 8]])
    (ai h1 (ai (by decide : (2 : Int) ≠ 0) (ai (by decide : (2 : Int) ≠ 0) (q326 (ai h6 (ai (F46_ok fuel v1 v8 fp1 _ h4) (ai (F46_ok fuel v1 v7 fp1 _ h3) (ai (F47_ok fuel v0 v7 fp0 _ h7) (ai h8 trivial))))))))) (by kernel_rfl)) (L10_3_ok v0 v1 v7 fp0 fp1 fuel z3 _ g8)
    ·exact SemJ.again (σ1 := z1) (path hm (σ' := z1) (ks := [0, 1, 7, 8]) (cc := c325 ++ [.reg [] [] 0 [(2, none, .call (.int .i64 r1)), (5, none, .call (.int .i64 r2)), (8, none, .call (.int .i64 r3)), (10, none, .b false)] [0, 1, 7, 8, 102], .reg [] [] 0 [] [0, 1, 7, 8]])
    (ai h1 (ai (by decide : (2 : Int) ≠ 0) (ai (by decide : (2 : Int) ≠ 0) (q326 (ai h6 trivial))))) (by kernel_rfl)) (L10_3_ok v0 v1 v7 fp0 fp1 fuel z3 _ g6)
  ·have hr := Option.some.inj g1
   subst hr
   exact SemC.cast (SemJ.out (e := (.exit 4)) (path hm (σ' := ⟨[(0, .p (.sl (List.map e70 v0) fp0)), (1, .p (.sl (List.map e60 v1) fp1)), (7, .p (.int .i64 v7))], []⟩) (ks := [0, 1, 7]) (cc := [.reg [] [] 0 [(2, none, .b false)] [0, 1, 7, 8, 64]])
    (ai h1 trivial) (by kernel_rfl)) (by simp)) (by kernel_rfl) (by kernel_rfl)
def L10_1  (v0 : (List (Int × Int))) (v1 : (List (Int × Int))) : Nat → Int → Option (Unit ⊕ Unit)
 | 0, _ => none
 | fuel + 1, v7 =>
  oif ((decide (v7 < (IntKind.wrap .i64 (2 * (v0.length : Int))))))
  ((obind (L10_3 v0 v1 v7 fuel 0) fun y1 => match y1 with
   | .inl y1 => some (.inl ())
   | .inr (y1) => L10_1 v0 v1 fuel (IntKind.wrap .i64 (v7 + 1))))
  (some (.inr (())))
noncomputable def L10_1_post (v0 : (List (Int × Int))) (v1 : (List (Int × Int))) (fp0 : Bool) (fp1 : Bool) : (Unit ⊕ Unit) → Ex × St
 | .inl y => (.ret, ⟨[(4, .p (.int .i64 0)), (5, .p (.int .i64 16))], []⟩)
 | .inr (y) => ((.exit 2), ⟨[(0, .p (.sl (List.map e70 v0) fp0)), (1, .p (.sl (List.map e60 v1) fp1))], []⟩)
theorem L10_1_ok  (v0 : (List (Int × Int))) (v1 : (List (Int × Int))) (fp0 : Bool) (fp1 : Bool) : ∀ (fuel : Nat) (v7 : Int) (r : (Unit ⊕ Unit)), L10_1 v0 v1 fuel v7 = some r →
  SemJ prog ⟨106, 0, false⟩ (codeAt [1, 1, 1, 1, 0, 1, 0, 0] (bodyOf f10)) ⟨[(0, .p (.sl (List.map e70 v0) fp0)), (1, .p (.sl (List.map e60 v1) fp1)), (7, .p (.int .i64 v7))], []⟩ (L10_1_post v0 v1 fp0 fp1 r).1 (L10_1_post v0 v1 fp0 fp1 r).2
 | 0, _, _, h => nomatch h
 | fuel + 1, v7, r, h => by
  let z3 : Int := (IntKind.wrap .i64 (v7 + 1))
  let z2 : St := ⟨[(4, .p (.int .i64 0)), (5, .p (.int .i64 16))], []⟩
  let z1 : St := ⟨[(0, .p (.sl (List.map e70 v0) fp0)), (1, .p (.sl (List.map e60 v1) fp1)), (7, .p (.int .i64 z3))], []⟩
  unfold L10_1 at h
  refine oif_elim h (fun h1 g1 => ?_) (fun h1 g1 => ?_)
  ·let c327 : List CC := [.reg [] [] 0 [(2, none, .n (v0.length : Int)), (4, none, .b true)] [0, 1, 7, 59], .reg [] [] 0 [] [0, 1, 7, 8]]
   refine obind_elim g1 fun y h2 g2 => ?_
   match y, h2, g2 with
   | .inl y1, h2, g2 =>
    have hr := Option.some.inj g2
    subst hr
    exact SemC.cast (SemJ.out (e := .ret) (path hm (σ' := z2) (ks := [4, 5]) (cc := c327 ++ [.leaf .ret z2])
    (ai (len_map e70 v0) (ai h1 (ai (SemJ.loop (L10_3_ok v0 v1 v7 fp0 fp1 fuel 0 _ h2)) trivial))) (by kernel_rfl)) (by simp)) (by kernel_rfl) (by kernel_rfl)
   | .inr (y1), h2, g2 =>
    exact SemJ.again (σ1 := z1) (path hm (σ' := z1) (ks := [0, 1, 7]) (cc := c327 ++ [.leaf (.exit 4) ⟨[(0, .p (.sl (List.map e70 v0) fp0)), (1, .p (.sl (List.map e60 v1) fp1)), (7, .p (.int .i64 v7))], []⟩, .reg [] [] 0 [] [0, 1, 7]])
    (ai (len_map e70 v0) (ai h1 (ai (SemJ.loop (L10_3_ok v0 v1 v7 fp0 fp1 fuel 0 _ h2)) trivial))) (by kernel_rfl)) (L10_1_ok v0 v1 fp0 fp1 fuel z3 _ g2)
  ·have hr := Option.some.inj g1
   subst hr
   exact SemC.cast (SemJ.out (e := (.exit 2)) (path hm (σ' := ⟨[(0, .p (.sl (List.map e70 v0) fp0)), (1, .p (.sl (List.map e60 v1) fp1))], []⟩) (ks := [0, 1]) (cc := [.reg [] [] 0 [(2, none, .n (v0.length : Int)), (4, none, .b false)] [0, 1, 7, 59]])
    (ai (len_map e70 v0) (ai h1 trivial)) (by kernel_rfl)) (by simp)) (by kernel_rfl) (by kernel_rfl)
def L48_0  (v0 : (List (Int × Int))) (v1 : (List (Int × Int))) : Nat → Int → Int → Option Int
 | 0, _, _ => none
 | fuel + 1, v5, v6 =>
  oif ((decide (v6 < (IntKind.wrap .i64 (2 * (v0.length : Int))))))
  (obind (F46 fuel v1 v6) fun r1 => obind (F47 fuel v0 v6) fun r2 => L48_0 v0 v1 fuel (maxL v5 [(IntKind.wrap .i64 (r1 + r2))]) (IntKind.wrap .i64 (v6 + 1)))
  (some (v5))
noncomputable def L48_0_post (v0 : (List (Int × Int))) (v1 : (List (Int × Int))) (fp0 : Bool) (fp1 : Bool) : Int → Ex × St
 | y => ((.exit 0), ⟨[(5, .p (.int .i64 y))], []⟩)
theorem L48_0_ok  (v0 : (List (Int × Int))) (v1 : (List (Int × Int))) (fp0 : Bool) (fp1 : Bool) : ∀ (fuel : Nat) (v5 : Int) (v6 : Int) (r : Int), L48_0 v0 v1 fuel v5 v6 = some r →
  SemJ prog ⟨24, 0, false⟩ (codeAt [1, 1, 0, 1, 0, 0] (bodyOf f48)) ⟨[(0, .p (.sl (List.map e70 v0) fp0)), (1, .p (.sl (List.map e60 v1) fp1)), (5, .p (.int .i64 v5)), (6, .p (.int .i64 v6))], []⟩ (L48_0_post v0 v1 fp0 fp1 r).1 (L48_0_post v0 v1 fp0 fp1 r).2
 | 0, _, _, _, h => nomatch h
 | fuel + 1, v5, v6, r, h => by
  let z1 : Int := (IntKind.wrap .i64 (v6 + 1))
  unfold L48_0 at h
  refine oif_elim h (fun h1 g1 => ?_) (fun h1 g1 => ?_)
  ·refine obind_elim g1 fun r1 h2 g2 => ?_
   refine obind_elim g2 fun r2 h3 g3 => ?_
   let z2 : Int := (IntKind.wrap .i64 (r1 + r2))
   exact SemJ.again (σ1 := ⟨[(0, .p (.sl (List.map e70 v0) fp0)), (1, .p (.sl (List.map e60 v1) fp1)), (5, .p (.int .i64 (maxL v5 [z2]))), (6, .p (.int .i64 z1))], []⟩) (path hm (σ' := ⟨[(0, .p (.sl (List.map e70 v0) fp0)), (1, .p (.sl (List.map e60 v1) fp1)), (5, .p (.int .i64 (maxL v5 [z2]))), (6, .p (.int .i64 z1))], []⟩) (ks := [0, 1, 5, 6]) (cc := [.reg [] [] 0 [(2, none, .n (v0.length : Int)), (4, none, .b true)] [0, 1, 5, 6, 11], .reg [] [] 0 [(3, none, .call (.int .i64 r1)), (6, none, .call (.int .i64 r2))] [0, 1, 5, 6], .reg [] [] 0 [] [0, 1, 5, 6]])
    (ai (len_map e70 v0) (ai h1 (ai (F46_ok fuel v1 v6 fp1 _ h2) (ai (F47_ok fuel v0 v6 fp0 _ h3) trivial)))) (by kernel_rfl)) (L48_0_ok v0 v1 fp0 fp1 fuel (maxL v5 [z2]) z1 _ g3)
  ·have hr := Option.some.inj g1
   subst hr
   exact SemC.cast (SemJ.out (e := (.exit 0)) (path hm (σ' := ⟨[(5, .p (.int .i64 v5))], []⟩) (ks := [5]) (cc := [.reg [] [] 0 [(2, none, .n (v0.length : Int)), (4, none, .b false)] [0, 1, 5, 6, 11]])
    (ai (len_map e70 v0) (ai h1 trivial)) (by kernel_rfl)) (by simp)) (by kernel_rfl) (by kernel_rfl)
def F48  (fuel : Nat) (p0 : (List (Int × Int))) (p1 : (List (Int × Int))) : Option Int :=
 obind (L48_0 p0 p1 fuel 0 0) fun y1 => some y1
theorem F48_ok  (fuel : Nat) (p0 : (List (Int × Int))) (p1 : (List (Int × Int))) (fp0 : Bool) (fp1 : Bool) (r : Int) (h : F48 fuel p0 p1 = some r) : CallP prog 48 [.sl (List.map e70 p0) fp0, .sl (List.map e60 p1) fp1] (.int .i64 r) := by
 unfold F48 at h
 refine obind_elim h fun y1 h1 g1 => ?_
 have hr := Option.some.inj g1
 subst hr
 exact callP_of is48 rfl (path hm (ks := [4]) (σ' := ⟨[(4, .p (.int .i64 y1))], []⟩) (cc := [.reg [] [] 0 [] [0, 1], .reg [] [] 0 [] [0, 1, 5], .reg [] [] 0 [] [0, 1, 5, 6], .leaf (.exit 0) ⟨[(5, .p (.int .i64 y1))], []⟩, .reg [] [] 0 [] [4]])
   (ai (SemJ.loop (L48_0_ok p0 p1 fp0 fp1 fuel 0 0 _ h1)) trivial) (by kernel_rfl)) (e := .ret) rfl (vs := [.p (.int .i64 y1)]) trivial (by kernel_rfl) (.p _ _ (.refl _))
def F10  (fuel : Nat) (p0 : (List (Int × Int))) (p1 : (List (Int × Int))) : Option (Int × Int) :=
 obind (F14 fuel p0) fun r1 => oif ((r1 != 0))
 (some (0, r1))
 (oif (((p1.length : Int) != (p0.length : Int)))
  (some (0, 15))
  ((obind (L10_0 p0 p1 fuel 0) fun y2 => match y2 with
   | .inl y2 => some (0, 3)
   | .inr (y2) => (obind (L10_1 p0 p1 fuel 0) fun y3 => match y3 with
    | .inl y3 => some (0, 16)
    | .inr (y3) => obind (F48 fuel p0 p1) fun r4 => some (r4, 0)))))
theorem F10_ok  (fuel : Nat) (p0 : (List (Int × Int))) (p1 : (List (Int × Int))) (fp0 : Bool) (fp1 : Bool) (r : (Int × Int)) (h : F10 fuel p0 p1 = some r) : CallP prog 10 [.sl (List.map e70 p0) fp0, .sl (List.map e60 p1) fp1] (.tup [.int .i64 r.1, .int .i64 r.2]) := by
 let z3 : St := ⟨[(4, .p (.int .i64 0)), (5, .p (.int .i64 3))], []⟩
 let z2 : St := ⟨[(4, .p (.int .i64 0)), (5, .p (.int .i64 16))], []⟩
 let z1 : St := ⟨[(0, .p (.sl (List.map e70 p0) fp0)), (1, .p (.sl (List.map e60 p1) fp1))], []⟩
 unfold F10 at h
 refine obind_elim h fun r1 h1 g1 => ?_
 let c328 : List CC := [.reg [] [] 0 [] [0, 1]]
 refine oif_elim g1 (fun h2 g2 => ?_) (fun h2 g2 => ?_)
 ·have hr := Option.some.inj g2
  subst hr
  exact callP_of is10 rfl (path hm (ks := [4, 5]) (σ' := ⟨[(4, .p (.int .i64 0)), (5, .p (.int .i64 r1))], []⟩) (cc := c328 ++ [.reg [] [] 0 [(1, none, .call (.int .i64 r1)), (2, none, .b true)] [0, 1, 11], .reg [] [] 0 [(1, none, .call (.int .i64 r1))] [4, 5]])
   (ai (F14_ok fuel p0 fp0 _ h1) (ai h2 (ai (F14_ok fuel p0 fp0 _ h1) trivial))) (by kernel_rfl)) (e := .ret) rfl (vs := [.p (.int .i64 0), .p (.int .i64 r1)]) trivial (by kernel_rfl) (.tup _ _ (.cons _ _ _ _ (.p _ _ (.refl _)) (.cons _ _ _ _ (.p _ _ (.refl _)) .nil)))
 ·let c329 : List CC := c328 ++ [.reg [] [] 0 [(1, none, .call (.int .i64 r1)), (2, none, .b false)] [0, 1, 11]]
  have q330 := fun {P : Prop} (t : P) => ai (F14_ok fuel p0 fp0 _ h1) (ai h2 (ai (len_map e60 p1) (ai (len_map e70 p0) t)))
  refine oif_elim g2 (fun h3 g3 => ?_) (fun h3 g3 => ?_)
  ·have hr := Option.some.inj g3
   subst hr
   exact callP_of is10 rfl (path hm (ks := [4, 5]) (σ' := ⟨[(4, .p (.int .i64 0)), (5, .p (.int .i64 15))], []⟩) (cc := c329 ++ [.reg [] [] 0 [(1, none, .n (p1.length : Int)), (3, none, .n (p0.length : Int)), (4, none, .b true)] [0, 1, 18], .reg [] [] 0 [] [4, 5]])
   (q330 (ai h3 trivial)) (by kernel_rfl)) (e := .ret) rfl (vs := [.p (.int .i64 0), .p (.int .i64 15)]) trivial (by kernel_rfl) (.tup _ _ (.cons _ _ _ _ (.p _ _ (.refl _)) (.cons _ _ _ _ (.p _ _ (.refl _)) .nil)))
  ·let c331 : List CC := c329 ++ [.reg [] [] 0 [(1, none, .n (p1.length : Int)), (3, none, .n (p0.length : Int)), (4, none, .b false)] [0, 1, 18], .reg [] [] 0 [] [0, 1, 6]]
   refine obind_elim g3 fun y h4 g4 => ?_
   match y, h4, g4 with
   | .inl y2, h4, g4 =>
    have hr := Option.some.inj g4
    subst hr
    exact callP_of is10 rfl (path hm (ks := [4, 5]) (σ' := z3) (cc := c331 ++ [.leaf .ret z3])
   (q330 (ai h3 (ai (SemJ.loop (L10_0_ok p0 p1 fp0 fp1 fuel 0 _ h4)) trivial))) (by kernel_rfl)) (e := .ret) rfl (vs := [.p (.int .i64 0), .p (.int .i64 3)]) trivial (by kernel_rfl) (.tup _ _ (.cons _ _ _ _ (.p _ _ (.refl _)) (.cons _ _ _ _ (.p _ _ (.refl _)) .nil)))
   | .inr (y2), h4, g4 =>
    let c332 : List CC := c331 ++ [.leaf (.exit 0) z1, .reg [] [] 0 [] [0, 1, 7]]
    refine obind_elim g4 fun y h5 g5 => ?_
    match y, h5, g5 with
    | .inl y3, h5, g5 =>
     have hr := Option.some.inj g5
     subst hr
     exact callP_of is10 rfl (path hm (ks := [4, 5]) (σ' := z2) (cc := c332 ++ [.leaf .ret z2])
   (q330 (ai h3 (ai (SemJ.loop (L10_0_ok p0 p1 fp0 fp1 fuel 0 _ h4)) (ai (SemJ.loop (L10_1_ok p0 p1 fp0 fp1 fuel 0 _ h5)) trivial)))) (by kernel_rfl)) (e := .ret) rfl (vs := [.p (.int .i64 0), .p (.int .i64 16)]) trivial (by kernel_rfl) (.tup _ _ (.cons _ _ _ _ (.p _ _ (.refl _)) (.cons _ _ _ _ (.p _ _ (.refl _)) .nil)))
    | .inr (y3), h5, g5 =>
     refine obind_elim g5 fun r4 h6 g6 => ?_
     have hr := Option.some.inj g6
     subst hr
     exact callP_of is10 rfl (path hm (ks := [4, 5]) (σ' := ⟨[(4, .p (.int .i64 r4)), (5, .p (.int .i64 0))], []⟩) (cc := c332 ++ [.leaf (.exit 2) z1, .reg [] [] 0 [(2, none, .call (.int .i64 r4))] [4, 5]])
   (q330 (ai h3 (ai (SemJ.loop (L10_0_ok p0 p1 fp0 fp1 fuel 0 _ h4)) (ai (SemJ.loop (L10_1_ok p0 p1 fp0 fp1 fuel 0 _ h5)) (ai (F48_ok fuel p0 p1 fp0 fp1 _ h6) trivial))))) (by kernel_rfl)) (e := .ret) rfl (vs := [.p (.int .i64 r4), .p (.int .i64 0)]) trivial (by kernel_rfl) (.tup _ _ (.cons _ _ _ _ (.p _ _ (.refl _)) (.cons _ _ _ _ (.p _ _ (.refl _)) .nil)))
def L16_0  (v0 : (List (Int × Int))) (v1 : (List (Int × Int))) : Nat → Int → Option (Unit ⊕ Unit)
 | 0, _ => none
 | fuel + 1, v5 =>
  oif ((decide (v5 < (v0.length : Int))))
  (obind (sg v0 v5) fun x1 => obind (sg v1 v5) fun x2 => oif ((!((x1.1 == x2.1) && ((x1.2 == x2.2) && true))))
   (some (.inl ()))
   (L16_0 v0 v1 fuel (IntKind.wrap .i64 (v5 + 1))))
  (some (.inr (())))
noncomputable def L16_0_post (v0 : (List (Int × Int))) (v1 : (List (Int × Int))) (fp0 : Bool) (fp1 : Bool) : (Unit ⊕ Unit) → Ex × St
 | .inl y => (.ret, ⟨[(4, .p (.bool false))], []⟩)
 | .inr (y) => ((.exit 0), ⟨[], []⟩)
theorem L16_0_ok  (v0 : (List (Int × Int))) (v1 : (List (Int × Int))) (fp0 : Bool) (fp1 : Bool) : ∀ (fuel : Nat) (v5 : Int) (r : (Unit ⊕ Unit)), L16_0 v0 v1 fuel v5 = some r →
  SemJ prog ⟨26, 0, false⟩ (codeAt [1, 1, 0, 1, 0, 0] (bodyOf f16)) ⟨[(0, .p (.sl (List.map e60 v0) fp0)), (1, .p (.sl (List.map e60 v1) fp1)), (5, .p (.int .i64 v5))], []⟩ (L16_0_post v0 v1 fp0 fp1 r).1 (L16_0_post v0 v1 fp0 fp1 r).2
 | 0, _, _, h => nomatch h
 | fuel + 1, v5, r, h => by
  let z2 : Int := (IntKind.wrap .i64 (v5 + 1))
  let z1 : St := ⟨[(0, .p (.sl (List.map e60 v0) fp0)), (1, .p (.sl (List.map e60 v1) fp1)), (5, .p (.int .i64 z2))], []⟩
  unfold L16_0 at h
  refine oif_elim h (fun h1 g1 => ?_) (fun h1 g1 => ?_)
  ·refine obind_elim g1 fun x1 h2 g2 => ?_
   refine obind_elim g2 fun x2 h3 g3 => ?_
   refine oif_elim g3 (fun h4 g4 => ?_) (fun h4 g4 => ?_)
   ·have hr := Option.some.inj g4
    subst hr
    exact SemC.cast (SemJ.out (e := .ret) (path hm (σ' := ⟨[(4, .p (.bool false))], []⟩) (ks := [4]) (cc := [.reg [] [] 0 [(2, none, .n (v0.length : Int)), (3, none, .b true)] [0, 1, 5, 14], .reg [0, 0, 3, 7, 0, 0, 48, 112, 255] [] 0 [(2, none, .iv (.p (.agg [.int .i64 x1.1, .int .i64 x1.2]))), (6, none, .iv (.p (.agg [.int .i64 x2.1, .int .i64 x2.2]))), (8, none, .b true)] [0, 1, 5, 25], .reg [] [] 0 [] [4]])
    (ai (len_map e60 v0) (ai h1 (ai (sg_map (f := e60) h2) (ai (sg_map (f := e60) h3) (ai h4 trivial))))) (by kernel_rfl)) (by simp)) (by kernel_rfl) (by kernel_rfl)
   ·exact SemJ.again (σ1 := z1) (path hm (σ' := z1) (ks := [0, 1, 5]) (cc := [.reg [] [] 0 [(2, none, .n (v0.length : Int)), (3, none, .b true)] [0, 1, 5, 14], .reg [0, 0, 3, 7, 0, 0, 48, 112, 255] [] 0 [(2, none, .iv (.p (.agg [.int .i64 x1.1, .int .i64 x1.2]))), (6, none, .iv (.p (.agg [.int .i64 x2.1, .int .i64 x2.2]))), (8, none, .b false)] [0, 1, 5, 25], .reg [] [] 0 [] [0, 1, 5]])
    (ai (len_map e60 v0) (ai h1 (ai (sg_map (f := e60) h2) (ai (sg_map (f := e60) h3) (ai h4 trivial))))) (by kernel_rfl)) (L16_0_ok v0 v1 fp0 fp1 fuel z2 _ g4)
  ·have hr := Option.some.inj g1
   subst hr
   exact SemC.cast (SemJ.out (e := (.exit 0)) (path hm (σ' := ⟨[], []⟩) (ks := []) (cc := [.reg [] [] 0 [(2, none, .n (v0.length : Int)), (3, none, .b false)] [0, 1, 5, 14]])
    (ai (len_map e60 v0) (ai h1 trivial)) (by kernel_rfl)) (by simp)) (by kernel_rfl) (by kernel_rfl)
def F16  (fuel : Nat) (p0 : (List (Int × Int))) (p1 : (List (Int × Int))) : Option Bool :=
 oif (((p0.length : Int) != (p1.length : Int)))
 (some false)
 ((obind (L16_0 p0 p1 fuel 0) fun y1 => match y1 with
  | .inl y1 => some false
  | .inr (y1) => some true))
theorem F16_ok  (fuel : Nat) (p0 : (List (Int × Int))) (p1 : (List (Int × Int))) (fp0 : Bool) (fp1 : Bool) (r : Bool) (h : F16 fuel p0 p1 = some r) : CallP prog 16 [.sl (List.map e60 p0) fp0, .sl (List.map e60 p1) fp1] (.bool r) := by
 let z1 : St := ⟨[(4, .p (.bool false))], []⟩
 unfold F16 at h
 refine oif_elim h (fun h1 g1 => ?_) (fun h1 g1 => ?_)
 ·have hr := Option.some.inj g1
  subst hr
  exact callP_of is16 rfl (path hm (ks := [4]) (σ' := z1) (cc := [.reg [] [] 0 [] [0, 1], .reg [] [] 0 [(1, none, .n (p0.length : Int)), (3, none, .n (p1.length : Int)), (4, none, .b true)] [0, 1, 10], .reg [] [] 0 [] [4]])
   (ai (len_map e60 p0) (ai (len_map e60 p1) (ai h1 trivial))) (by kernel_rfl)) (e := .ret) rfl (vs := [.p (.bool false)]) trivial (by kernel_rfl) (.p _ _ (.refl _))
 ·let c333 : List CC := [.reg [] [] 0 [] [0, 1], .reg [] [] 0 [(1, none, .n (p0.length : Int)), (3, none, .n (p1.length : Int)), (4, none, .b false)] [0, 1, 10], .reg [] [] 0 [] [0, 1, 5]]
  refine obind_elim g1 fun y h2 g2 => ?_
  match y, h2, g2 with
  | .inl y1, h2, g2 =>
   have hr := Option.some.inj g2
   subst hr
   exact callP_of is16 rfl (path hm (ks := [4]) (σ' := z1) (cc := c333 ++ [.leaf .ret z1])
   (ai (len_map e60 p0) (ai (len_map e60 p1) (ai h1 (ai (SemJ.loop (L16_0_ok p0 p1 fp0 fp1 fuel 0 _ h2)) trivial)))) (by kernel_rfl)) (e := .ret) rfl (vs := [.p (.bool false)]) trivial (by kernel_rfl) (.p _ _ (.refl _))
  | .inr (y1), h2, g2 =>
   have hr := Option.some.inj g2
   subst hr
   exact callP_of is16 rfl (path hm (ks := [4]) (σ' := ⟨[(4, .p (.bool true))], []⟩) (cc := c333 ++ [.leaf (.exit 0) ⟨[], []⟩, .reg [] [] 0 [] [4]])
   (ai (len_map e60 p0) (ai (len_map e60 p1) (ai h1 (ai (SemJ.loop (L16_0_ok p0 p1 fp0 fp1 fuel 0 _ h2)) trivial)))) (by kernel_rfl)) (e := .ret) rfl (vs := [.p (.bool true)]) trivial (by kernel_rfl) (.p _ _ (.refl _))
def L63_0  (v0 : (List Int)) (v1 : Int) : Nat → Int → Option (Int ⊕ Unit)
 | 0, _ => none
 | fuel + 1, v5 =>
  oif ((decide (v5 < (v0.length : Int))))
  (obind (sg v0 v5) fun x1 => oif ((x1 == v1))
   (some (.inl v5))
   (L63_0 v0 v1 fuel (IntKind.wrap .i64 (v5 + 1))))
  (some (.inr (())))
noncomputable def L63_0_post (v0 : (List Int)) (v1 : Int) (fp0 : Bool) : (Int ⊕ Unit) → Ex × St
 | .inl y => (.ret, ⟨[(4, .p (.int .i64 y))], []⟩)
 | .inr (y) => ((.exit 0), ⟨[], []⟩)
theorem L63_0_ok  (v0 : (List Int)) (v1 : Int) (fp0 : Bool) : ∀ (fuel : Nat) (v5 : Int) (r : (Int ⊕ Unit)), L63_0 v0 v1 fuel v5 = some r →
  SemJ prog ⟨19, 0, false⟩ (codeAt [1, 0, 1, 0, 0] (bodyOf f63)) ⟨[(0, .p (.sl (List.map e3 v0) fp0)), (1, .p (.int .i64 v1)), (5, .p (.int .i64 v5))], []⟩ (L63_0_post v0 v1 fp0 r).1 (L63_0_post v0 v1 fp0 r).2
 | 0, _, _, h => nomatch h
 | fuel + 1, v5, r, h => by
  let z2 : Int := (IntKind.wrap .i64 (v5 + 1))
  let z1 : St := ⟨[(0, .p (.sl (List.map e3 v0) fp0)), (1, .p (.int .i64 v1)), (5, .p (.int .i64 z2))], []⟩
  unfold L63_0 at h
  refine oif_elim h (fun h1 g1 => ?_) (fun h1 g1 => ?_)
  ·refine obind_elim g1 fun x1 h2 g2 => ?_
   refine oif_elim g2 (fun h3 g3 => ?_) (fun h3 g3 => ?_)
   ·have hr := Option.some.inj g3
    subst hr
    exact SemC.cast (SemJ.out (e := .ret) (path hm (σ' := ⟨[(4, .p (.int .i64 v5))], []⟩) (ks := [4]) (cc := [.reg [] [] 0 [(2, none, .n (v0.length : Int)), (3, none, .b true)] [0, 1, 5, 9], .reg [] [] 0 [(2, none, .iv (.p (.int .i64 x1))), (5, none, .b true)] [0, 1, 5, 17], .reg [] [] 0 [] [4]])
    (ai (len_map e3 v0) (ai h1 (ai (sg_map (f := e3) h2) (ai h3 trivial)))) (by kernel_rfl)) (by simp)) (by kernel_rfl) (by kernel_rfl)
   ·exact SemJ.again (σ1 := z1) (path hm (σ' := z1) (ks := [0, 1, 5]) (cc := [.reg [] [] 0 [(2, none, .n (v0.length : Int)), (3, none, .b true)] [0, 1, 5, 9], .reg [] [] 0 [(2, none, .iv (.p (.int .i64 x1))), (5, none, .b false)] [0, 1, 5, 17], .reg [] [] 0 [] [0, 1, 5]])
    (ai (len_map e3 v0) (ai h1 (ai (sg_map (f := e3) h2) (ai h3 trivial)))) (by kernel_rfl)) (L63_0_ok v0 v1 fp0 fuel z2 _ g3)
  ·have hr := Option.some.inj g1
   subst hr
   exact SemC.cast (SemJ.out (e := (.exit 0)) (path hm (σ' := ⟨[], []⟩) (ks := []) (cc := [.reg [] [] 0 [(2, none, .n (v0.length : Int)), (3, none, .b false)] [0, 1, 5, 9]])
    (ai (len_map e3 v0) (ai h1 trivial)) (by kernel_rfl)) (by simp)) (by kernel_rfl) (by kernel_rfl)
def F63  (fuel : Nat) (p0 : (List Int)) (p1 : Int) : Option Int :=
 (obind (L63_0 p0 p1 fuel 0) fun y1 => match y1 with
 | .inl y1 => some y1
 | .inr (y1) => some (-1))
theorem F63_ok  (fuel : Nat) (p0 : (List Int)) (p1 : Int) (fp0 : Bool) (r : Int) (h : F63 fuel p0 p1 = some r) : CallP prog 63 [.sl (List.map e3 p0) fp0, .int .i64 p1] (.int .i64 r) := by
 unfold F63 at h
 refine obind_elim h fun y h1 g1 => ?_
 match y, h1, g1 with
 | .inl y1, h1, g1 =>
  let z1 : St := ⟨[(4, .p (.int .i64 y1))], []⟩
  have hr := Option.some.inj g1
  subst hr
  exact callP_of is63 rfl (path hm (ks := [4]) (σ' := z1) (cc := [.reg [] [] 0 [] [0, 1], .reg [] [] 0 [] [0, 1, 5], .leaf .ret z1])
   (ai (SemJ.loop (L63_0_ok p0 p1 fp0 fuel 0 _ h1)) trivial) (by kernel_rfl)) (e := .ret) rfl (vs := [.p (.int .i64 y1)]) trivial (by kernel_rfl) (.p _ _ (.refl _))
 | .inr (y1), h1, g1 =>
  have hr := Option.some.inj g1
  subst hr
  exact callP_of is63 rfl (path hm (ks := [4]) (σ' := ⟨[(4, .p (.int .i64 (-1)))], []⟩) (cc := [.reg [] [] 0 [] [0, 1], .reg [] [] 0 [] [0, 1, 5], .leaf (.exit 0) ⟨[], []⟩, .reg [] [] 0 [] [4]])
   (ai (SemJ.loop (L63_0_ok p0 p1 fp0 fuel 0 _ h1)) trivial) (by kernel_rfl)) (e := .ret) rfl (vs := [.p (.int .i64 (-1))]) trivial (by kernel_rfl) (.p _ _ (.refl _))
def L29_0  (v0 : (List (Int × Int))) (v3 : (List Int)) (v3_1 : (List Int)) (v3_2 : (List Int)) : Nat → Int → Option (Unit ⊕ Unit)
 | 0, _ => none
 | fuel + 1, v5 =>
  oif ((decide (v5 < (v0.length : Int))))
  (obind (F63 fuel v3 v5) fun r1 => oif ((decide (r1 < 0)))
   (some (.inl ()))
   (obind (F63 fuel v3_1 v5) fun r2 => oif ((decide (r2 < 0)))
    (some (.inl ()))
    (obind (sg v3_2 v5) fun x3 => oif ((decide (x3 < 0)))
     (some (.inl ()))
     (oif ((decide (x3 > 1)))
      (some (.inl ()))
      (L29_0 v0 v3 v3_1 v3_2 fuel (IntKind.wrap .i64 (v5 + 1)))))))
  (some (.inr (())))
noncomputable def L29_0_post (v0 : (List (Int × Int))) (v3 : (List Int)) (v3_1 : (List Int)) (v3_2 : (List Int)) (fp0 : Bool) : (Unit ⊕ Unit) → Ex × St
 | .inl y => (.ret, ⟨[(4, .p (.int .i64 2))], []⟩)
 | .inr (y) => ((.exit 0), ⟨[], []⟩)
theorem L29_0_ok  (v0 : (List (Int × Int))) (v3 : (List Int)) (v3_1 : (List Int)) (v3_2 : (List Int)) (fp0 : Bool) : ∀ (fuel : Nat) (v5 : Int) (r : (Unit ⊕ Unit)), L29_0 v0 v3 v3_1 v3_2 fuel v5 = some r →
  SemJ prog ⟨67, 0, false⟩ (codeAt [1, 1, 1, 0, 1, 0, 0] (bodyOf f29)) ⟨[(0, .p (.sl (List.map e70 v0) fp0)), (3, .p (.ref [.sl (List.map e3 v3) false, .sl (List.map e3 v3_1) false, .sl (List.map e3 v3_2) false])), (5, .p (.int .i64 v5))], []⟩ (L29_0_post v0 v3 v3_1 v3_2 fp0 r).1 (L29_0_post v0 v3 v3_1 v3_2 fp0 r).2
 | 0, _, _, h => nomatch h
 | fuel + 1, v5, r, h => by
  let z3 : Int := (IntKind.wrap .i64 (v5 + 1))
  let z2 : St := ⟨[(4, .p (.int .i64 2))], []⟩
  let z1 : St := ⟨[(0, .p (.sl (List.map e70 v0) fp0)), (3, .p (.ref [.sl (List.map e3 v3) false, .sl (List.map e3 v3_1) false, .sl (List.map e3 v3_2) false])), (5, .p (.int .i64 z3))], []⟩
  unfold L29_0 at h
  refine oif_elim h (fun h1 g1 => ?_) (fun h1 g1 => ?_)
  ·refine obind_elim g1 fun r1 h2 g2 => ?_
   let c334 : List CC := [.reg [] [] 0 [(2, none, .n (v0.length : Int)), (3, none, .b true)] [0, 3, 5, 36]]
   have q335 := fun {P : Prop} (t : P) => ai (len_map e70 v0) (ai h1 (ai (F63_ok fuel v3 v5 false _ h2) t))
   refine oif_elim g2 (fun h3 g3 => ?_) (fun h3 g3 => ?_)
   ·have hr := Option.some.inj g3
    subst hr
    exact SemC.cast (SemJ.out (e := .ret) (path hm (σ' := z2) (ks := [4]) (cc := c334 ++ [.reg [] [] 0 [(3, none, .call (.int .i64 r1)), (4, none, .b true)] [0, 3, 5, 66], .reg [] [] 0 [] [4]])
    (q335 (ai h3 trivial)) (by kernel_rfl)) (by simp)) (by kernel_rfl) (by kernel_rfl)
   ·refine obind_elim g3 fun r2 h4 g4 => ?_
    have q336 := fun {P : Prop} (t : P) => ai h3 (ai (F63_ok fuel v3_1 v5 false _ h4) t)
    refine oif_elim g4 (fun h5 g5 => ?_) (fun h5 g5 => ?_)
    ·have hr := Option.some.inj g5
     subst hr
     exact SemC.cast (SemJ.out (e := .ret) (path hm (σ' := z2) (ks := [4]) (cc := c334 ++ [.reg [] [] 0 [(3, none, .call (.int .i64 r1)), (4, none, .b false), (9, none, .call (.int .i64 r2)), (10, none, .b true)] [0, 3, 5, 66], .reg [] [] 0 [] [4]])
    (q335 (q336 (ai h5 trivial))) (by kernel_rfl)) (by simp)) (by kernel_rfl) (by kernel_rfl)
    ·refine obind_elim g5 fun x3 h6 g6 => ?_
     refine oif_elim g6 (fun h7 g7 => ?_) (fun h7 g7 => ?_)
     ·have hr := Option.some.inj g7
      subst hr
      exact SemC.cast (SemJ.out (e := .ret) (path hm (σ' := z2) (ks := [4]) (cc := c334 ++ [.reg [] [] 0 [(3, none, .call (.int .i64 r1)), (4, none, .b false), (9, none, .call (.int .i64 r2)), (10, none, .b false), (16, none, .iv (.p (.int .i64 x3))), (18, none, .b true)] [0, 3, 5, 66], .reg [] [] 0 [] [4]])
    (q335 (q336 (ai h5 (ai (sg_map (f := e3) h6) (ai h7 trivial))))) (by kernel_rfl)) (by simp)) (by kernel_rfl) (by kernel_rfl)
     ·refine oif_elim g7 (fun h8 g8 => ?_) (fun h8 g8 => ?_)
      ·have hr := Option.some.inj g8
       subst hr
       exact SemC.cast (SemJ.out (e := .ret) (path hm (σ' := z2) (ks := [4]) (cc := c334 ++ [.reg [] [] 0 [(3, none, .call (.int .i64 r1)), (4, none, .b false), (9, none, .call (.int .i64 r2)), (10, none, .b false), (16, none, .iv (.p (.int .i64 x3))), (18, none, .b false), (24, none, .iv (.p (.int .i64 x3))), (26, none, .b true)] [0, 3, 5, 66], .reg [] [] 0 [] [4]])
    (q335 (q336 (ai h5 (ai (sg_map (f := e3) h6) (ai h7 (ai (sg_map (f := e3) h6) (ai h8 trivial))))))) (by kernel_rfl)) (by simp)) (by kernel_rfl) (by kernel_rfl)
      ·exact SemJ.again (σ1 := z1) (path hm (σ' := z1) (ks := [0, 3, 5]) (cc := c334 ++ [.reg [] [] 0 [(3, none, .call (.int .i64 r1)), (4, none, .b false), (9, none, .call (.int .i64 r2)), (10, none, .b false), (16, none, .iv (.p (.int .i64 x3))), (18, none, .b false), (24, none, .iv (.p (.int .i64 x3))), (26, none, .b false)] [0, 3, 5, 66], .reg [] [] 0 [] [0, 3, 5]])
    (q335 (q336 (ai h5 (ai (sg_map (f := e3) h6) (ai h7 (ai (sg_map (f := e3) h6) (ai h8 trivial))))))) (by kernel_rfl)) (L29_0_ok v0 v3 v3_1 v3_2 fp0 fuel z3 _ g8)
  ·have hr := Option.some.inj g1
   subst hr
   exact SemC.cast (SemJ.out (e := (.exit 0)) (path hm (σ' := ⟨[], []⟩) (ks := []) (cc := [.reg [] [] 0 [(2, none, .n (v0.length : Int)), (3, none, .b false)] [0, 3, 5, 36]])
    (ai (len_map e70 v0) (ai h1 trivial)) (by kernel_rfl)) (by simp)) (by kernel_rfl) (by kernel_rfl)
def F29  (fuel : Nat) (p0 : (List (Int × Int))) (p1 : ((List Int) × (List Int) × (List Int))) : Option Int :=
 obind (F14 fuel p0) fun r1 => oif ((r1 != 0))
 (some r1)
 (oif (((p1.1.length : Int) != (p0.length : Int)))
  (some 15)
  (oif (((p1.2.1.length : Int) != (p0.length : Int)))
   (some 15)
   (oif (((p1.2.2.length : Int) != (p0.length : Int)))
    (some 15)
    ((obind (L29_0 p0 p1.1 p1.2.1 p1.2.2 fuel 0) fun y2 => match y2 with
     | .inl y2 => some 2
     | .inr (y2) => some 0)))))
theorem F29_ok  (fuel : Nat) (p0 : (List (Int × Int))) (p1 : ((List Int) × (List Int) × (List Int))) (fp0 : Bool) (r : Int) (h : F29 fuel p0 p1 = some r) : CallP prog 29 [.sl (List.map e70 p0) fp0, .agg [.sl (List.map e3 p1.1) false, .sl (List.map e3 p1.2.1) false, .sl (List.map e3 p1.2.2) false]] (.int .i64 r) := by
 let z2 : St := ⟨[(4, .p (.int .i64 2))], []⟩
 let z1 : St := ⟨[(4, .p (.int .i64 15))], []⟩
 unfold F29 at h
 refine obind_elim h fun r1 h1 g1 => ?_
 let c337 : List CC := [.reg [] [] 0 [(0, none, .imm)] [0, 3]]
 have q338 := fun {P : Prop} (t : P) => ai (F14_ok fuel p0 fp0 _ h1) t
 refine oif_elim g1 (fun h2 g2 => ?_) (fun h2 g2 => ?_)
 ·have hr := Option.some.inj g2
  subst hr
  exact callP_of is29 rfl (path hm (ks := [4]) (σ' := ⟨[(4, .p (.int .i64 r1))], []⟩) (cc := c337 ++ [.reg [] [] 0 [(1, none, .call (.int .i64 r1)), (2, none, .b true)] [0, 3, 8], .reg [] [] 0 [(1, none, .call (.int .i64 r1))] [4]])
   (q338 (ai h2 (ai (F14_ok fuel p0 fp0 _ h1) trivial))) (by kernel_rfl)) (e := .ret) rfl (vs := [.p (.int .i64 r1)]) trivial (by kernel_rfl) (.p _ _ (.refl _))
 ·let c339 : List CC := c337 ++ [.reg [] [] 0 [(1, none, .call (.int .i64 r1)), (2, none, .b false)] [0, 3, 8]]
  have q340 := fun {P : Prop} (t : P) => ai h2 (ai (len_map e3 p1.1) (ai (len_map e70 p0) t))
  refine oif_elim g2 (fun h3 g3 => ?_) (fun h3 g3 => ?_)
  ·have hr := Option.some.inj g3
   subst hr
   exact callP_of is29 rfl (path hm (ks := [4]) (σ' := z1) (cc := c339 ++ [.reg [] [] 0 [(2, none, .n (p1.1.length : Int)), (4, none, .n (p0.length : Int)), (5, none, .b true)] [0, 3, 32], .reg [] [] 0 [] [4]])
   (q338 (q340 (ai h3 trivial))) (by kernel_rfl)) (e := .ret) rfl (vs := [.p (.int .i64 15)]) trivial (by kernel_rfl) (.p _ _ (.refl _))
  ·have q341 := fun {P : Prop} (t : P) => ai h3 (ai (len_map e3 p1.2.1) (ai (len_map e70 p0) t))
   refine oif_elim g3 (fun h4 g4 => ?_) (fun h4 g4 => ?_)
   ·have hr := Option.some.inj g4
    subst hr
    exact callP_of is29 rfl (path hm (ks := [4]) (σ' := z1) (cc := c339 ++ [.reg [] [] 0 [(2, none, .n (p1.1.length : Int)), (4, none, .n (p0.length : Int)), (5, none, .b false), (9, none, .n (p1.2.1.length : Int)), (11, none, .n (p0.length : Int)), (12, none, .b true)] [0, 3, 32], .reg [] [] 0 [] [4]])
   (q338 (q340 (q341 (ai h4 trivial)))) (by kernel_rfl)) (e := .ret) rfl (vs := [.p (.int .i64 15)]) trivial (by kernel_rfl) (.p _ _ (.refl _))
   ·refine oif_elim g4 (fun h5 g5 => ?_) (fun h5 g5 => ?_)
    ·have hr := Option.some.inj g5
     subst hr
     exact callP_of is29 rfl (path hm (ks := [4]) (σ' := z1) (cc := c339 ++ [.reg [] [] 0 [(2, none, .n (p1.1.length : Int)), (4, none, .n (p0.length : Int)), (5, none, .b false), (9, none, .n (p1.2.1.length : Int)), (11, none, .n (p0.length : Int)), (12, none, .b false), (17, none, .n (p1.2.2.length : Int)), (19, none, .n (p0.length : Int)), (20, none, .b true)] [0, 3, 32], .reg [] [] 0 [] [4]])
   (q338 (q340 (q341 (ai h4 (ai (len_map e3 p1.2.2) (ai (len_map e70 p0) (ai h5 trivial))))))) (by kernel_rfl)) (e := .ret) rfl (vs := [.p (.int .i64 15)]) trivial (by kernel_rfl) (.p _ _ (.refl _))
    ·let c342 : List CC := c339 ++ [.reg [] [] 0 [(2, none, .n (p1.1.length : Int)), (4, none, .n (p0.length : Int)), (5, none, .b false), (9, none, .n (p1.2.1.length : Int)), (11, none, .n (p0.length : Int)), (12, none, .b false), (17, none, .n (p1.2.2.length : Int)), (19, none, .n (p0.length : Int)), (20, none, .b false)] [0, 3, 32], .reg [] [] 0 [] [0, 3, 5]]
     refine obind_elim g5 fun y h6 g6 => ?_
     match y, h6, g6 with
     | .inl y2, h6, g6 =>
      have hr := Option.some.inj g6
      subst hr
      exact callP_of is29 rfl (path hm (ks := [4]) (σ' := z2) (cc := c342 ++ [.leaf .ret z2])
   (q338 (q340 (q341 (ai h4 (ai (len_map e3 p1.2.2) (ai (len_map e70 p0) (ai h5 (ai (SemJ.loop (L29_0_ok p0 p1.1 p1.2.1 p1.2.2 fp0 fuel 0 _ h6)) trivial)))))))) (by kernel_rfl)) (e := .ret) rfl (vs := [.p (.int .i64 2)]) trivial (by kernel_rfl) (.p _ _ (.refl _))
     | .inr (y2), h6, g6 =>
      have hr := Option.some.inj g6
      subst hr
      exact callP_of is29 rfl (path hm (ks := [4]) (σ' := ⟨[(4, .p (.int .i64 0))], []⟩) (cc := c342 ++ [.leaf (.exit 0) ⟨[], []⟩, .reg [] [] 0 [] [4]])
   (q338 (q340 (q341 (ai h4 (ai (len_map e3 p1.2.2) (ai (len_map e70 p0) (ai h5 (ai (SemJ.loop (L29_0_ok p0 p1.1 p1.2.1 p1.2.2 fp0 fuel 0 _ h6)) trivial)))))))) (by kernel_rfl)) (e := .ret) rfl (vs := [.p (.int .i64 0)]) trivial (by kernel_rfl) (.p _ _ (.refl _))
def L34_0  (v0 : (List (Int × Int))) (v2 : (List Int)) (v4 : (List Int)) (v4_1 : (List Int)) (v4_2 : (List Int)) : Nat → Int → Option (Unit ⊕ Unit)
 | 0, _ => none
 | fuel + 1, v7 =>
  oif ((decide (v7 < (v2.length : Int))))
  (obind (sg v2 v7) fun x1 => oif ((decide (x1 < 0)))
   (some (.inl ()))
   (oif ((decide (x1 ≥ (IntKind.wrap .i64 (2 * (v0.length : Int))))))
    (some (.inl ()))
    (L34_0 v0 v2 v4 v4_1 v4_2 fuel (IntKind.wrap .i64 (v7 + 1)))))
  (some (.inr (())))
noncomputable def L34_0_post (v0 : (List (Int × Int))) (v2 : (List Int)) (v4 : (List Int)) (v4_1 : (List Int)) (v4_2 : (List Int)) (fp0 : Bool) (fp2 : Bool) : (Unit ⊕ Unit) → Ex × St
 | .inl y => (.ret, ⟨[(6, .p (.int .i64 2))], []⟩)
 | .inr (y) => ((.exit 0), ⟨[(2, .p (.sl (List.map e3 v2) fp2)), (4, .p (.ref [.sl (List.map e3 v4) false, .sl (List.map e3 v4_1) false, .sl (List.map e3 v4_2) false]))], []⟩)
theorem L34_0_ok  (v0 : (List (Int × Int))) (v2 : (List Int)) (v4 : (List Int)) (v4_1 : (List Int)) (v4_2 : (List Int)) (fp0 : Bool) (fp2 : Bool) : ∀ (fuel : Nat) (v7 : Int) (r : (Unit ⊕ Unit)), L34_0 v0 v2 v4 v4_1 v4_2 fuel v7 = some r →
  SemJ prog ⟨73, 0, false⟩ (codeAt [1, 1, 1, 0, 1, 0, 0] (bodyOf f34)) ⟨[(0, .p (.sl (List.map e70 v0) fp0)), (2, .p (.sl (List.map e3 v2) fp2)), (4, .p (.ref [.sl (List.map e3 v4) false, .sl (List.map e3 v4_1) false, .sl (List.map e3 v4_2) false])), (7, .p (.int .i64 v7))], []⟩ (L34_0_post v0 v2 v4 v4_1 v4_2 fp0 fp2 r).1 (L34_0_post v0 v2 v4 v4_1 v4_2 fp0 fp2 r).2
 | 0, _, _, h => nomatch h
 | fuel + 1, v7, r, h => by
  let z3 : Int := (IntKind.wrap .i64 (v7 + 1))
  let z2 : St := ⟨[(6, .p (.int .i64 2))], []⟩
  let z1 : St := ⟨[(0, .p (.sl (List.map e70 v0) fp0)), (2, .p (.sl (List.map e3 v2) fp2)), (4, .p (.ref [.sl (List.map e3 v4) false, .sl (List.map e3 v4_1) false, .sl (List.map e3 v4_2) false])), (7, .p (.int .i64 z3))], []⟩
  unfold L34_0 at h
  refine oif_elim h (fun h1 g1 => ?_) (fun h1 g1 => ?_)
  ·refine obind_elim g1 fun x1 h2 g2 => ?_
   let c343 : List CC := [.reg [] [] 0 [(2, none, .n (v2.length : Int)), (3, none, .b true)] [0, 2, 4, 7, 31]]
   refine oif_elim g2 (fun h3 g3 => ?_) (fun h3 g3 => ?_)
   ·have hr := Option.some.inj g3
    subst hr
    exact SemC.cast (SemJ.out (e := .ret) (path hm (σ' := z2) (ks := [6]) (cc := c343 ++ [.reg [] [] 0 [(2, none, .iv (.p (.int .i64 x1))), (4, none, .b true)] [0, 2, 4, 7, 48], .reg [] [] 0 [] [6]])
    (ai (len_map e3 v2) (ai h1 (ai (sg_map (f := e3) h2) (ai h3 trivial)))) (by kernel_rfl)) (by simp)) (by kernel_rfl) (by kernel_rfl)
   ·refine oif_elim g3 (fun h4 g4 => ?_) (fun h4 g4 => ?_)
    ·have hr := Option.some.inj g4
     subst hr
     exact SemC.cast (SemJ.out (e := .ret) (path hm (σ' := z2) (ks := [6]) (cc := c343 ++ [.reg [] [] 0 [(2, none, .iv (.p (.int .i64 x1))), (4, none, .b false), (8, none, .iv (.p (.int .i64 x1))), (11, none, .n (v0.length : Int)), (13, none, .b true)] [0, 2, 4, 7, 48], .reg [] [] 0 [] [6]])
    (ai (len_map e3 v2) (ai h1 (ai (sg_map (f := e3) h2) (ai h3 (ai (sg_map (f := e3) h2) (ai (len_map e70 v0) (ai h4 trivial))))))) (by kernel_rfl)) (by simp)) (by kernel_rfl) (by kernel_rfl)
    ·exact SemJ.again (σ1 := z1) (path hm (σ' := z1) (ks := [0, 2, 4, 7]) (cc := c343 ++ [.reg [] [] 0 [(2, none, .iv (.p (.int .i64 x1))), (4, none, .b false), (8, none, .iv (.p (.int .i64 x1))), (11, none, .n (v0.length : Int)), (13, none, .b false)] [0, 2, 4, 7, 48], .reg [] [] 0 [] [0, 2, 4, 7]])
    (ai (len_map e3 v2) (ai h1 (ai (sg_map (f := e3) h2) (ai h3 (ai (sg_map (f := e3) h2) (ai (len_map e70 v0) (ai h4 trivial))))))) (by kernel_rfl)) (L34_0_ok v0 v2 v4 v4_1 v4_2 fp0 fp2 fuel z3 _ g4)
  ·have hr := Option.some.inj g1
   subst hr
   exact SemC.cast (SemJ.out (e := (.exit 0)) (path hm (σ' := ⟨[(2, .p (.sl (List.map e3 v2) fp2)), (4, .p (.ref [.sl (List.map e3 v4) false, .sl (List.map e3 v4_1) false, .sl (List.map e3 v4_2) false]))], []⟩) (ks := [2, 4]) (cc := [.reg [] [] 0 [(2, none, .n (v2.length : Int)), (3, none, .b false)] [0, 2, 4, 7, 31]])
    (ai (len_map e3 v2) (ai h1 trivial)) (by kernel_rfl)) (by simp)) (by kernel_rfl) (by kernel_rfl)
def F69  (fuel : Nat) (p0 : ((List Int) × (List Int) × (List Int))) (p1 : Int) (p2 : Int) : Option Bool :=
 oif (((Int.tmod p1 2) != (Int.tmod p2 2)))
 (oif (((IntKind.wrap .i64 (Int.tdiv p1 2)) == (IntKind.wrap .i64 (Int.tdiv p2 2))))
  (obind (sg p0.2.2 (IntKind.wrap .i64 (Int.tdiv p1 2))) fun x1 => oif ((x1 == (Int.tmod p2 2)))
   (some true)
   (some false))
  (some false))
 (oif (((Int.tmod p1 2) == 1))
  (obind (F63 fuel p0.2.1 (IntKind.wrap .i64 (Int.tdiv p1 2))) fun r1 => obind (F63 fuel p0.2.1 (IntKind.wrap .i64 (Int.tdiv p2 2))) fun r2 => oif ((r1 == (IntKind.wrap .i64 (r2 + 1))))
   (some true)
   (some false))
  (obind (F63 fuel p0.1 (IntKind.wrap .i64 (Int.tdiv p1 2))) fun r1 => obind (F63 fuel p0.1 (IntKind.wrap .i64 (Int.tdiv p2 2))) fun r2 => oif ((r1 == (IntKind.wrap .i64 (r2 + 1))))
   (some true)
   (some false)))
theorem F69_ok  (fuel : Nat) (p0 : ((List Int) × (List Int) × (List Int))) (p1 : Int) (p2 : Int)  (r : Bool) (h : F69 fuel p0 p1 p2 = some r) : CallP prog 69 [.agg [.sl (List.map e3 p0.1) false, .sl (List.map e3 p0.2.1) false, .sl (List.map e3 p0.2.2) false], .int .i64 p1, .int .i64 p2] (.bool r) := by
 let z4 : St := ⟨[(6, .p (.bool true))], []⟩
 let z3 : St := ⟨[(6, .p (.bool false))], []⟩
 let z2 : Int := (IntKind.wrap .i64 (Int.tdiv p2 2))
 let z1 : Int := (IntKind.wrap .i64 (Int.tdiv p1 2))
 unfold F69 at h
 let c344 : List CC := [.reg [] [] 0 [(0, none, .imm)] [1, 2, 3]]
 refine oif_elim h (fun h1 g1 => ?_) (fun h1 g1 => ?_)
 ·let c345 : List CC := c344 ++ [.reg [] [] 0 [(4, none, .b true)] [1, 2, 3, 12]]
  refine oif_elim g1 (fun h2 g2 => ?_) (fun h2 g2 => ?_)
  ·refine obind_elim g2 fun x1 h3 g3 => ?_
   refine oif_elim g3 (fun h4 g4 => ?_) (fun h4 g4 => ?_)
   ·have hr := Option.some.inj g4
    subst hr
    exact callP_of is69 rfl (path hm (ks := [6]) (σ' := z4) (cc := c345 ++ [.reg [] [] 0 [(4, none, .b true), (10, none, .iv (.p (.int .i64 x1))), (14, none, .b true)] [6]])
   (ai (by decide : (2 : Int) ≠ 0) (ai (by decide : (2 : Int) ≠ 0) (ai h1 (ai (by decide : (2 : Int) ≠ 0) (ai (by decide : (2 : Int) ≠ 0) (ai h2 (ai (by decide : (2 : Int) ≠ 0) (ai (sg_map (f := e3) h3) (ai (by decide : (2 : Int) ≠ 0) (ai h4 trivial)))))))))) (by kernel_rfl)) (e := .ret) rfl (vs := [.p (.bool true)]) trivial (by kernel_rfl) (.p _ _ (.refl _))
   ·have hr := Option.some.inj g4
    subst hr
    exact callP_of is69 rfl (path hm (ks := [6]) (σ' := z3) (cc := c345 ++ [.reg [] [] 0 [(4, none, .b true), (10, none, .iv (.p (.int .i64 x1))), (14, none, .b false)] [6]])
   (ai (by decide : (2 : Int) ≠ 0) (ai (by decide : (2 : Int) ≠ 0) (ai h1 (ai (by decide : (2 : Int) ≠ 0) (ai (by decide : (2 : Int) ≠ 0) (ai h2 (ai (by decide : (2 : Int) ≠ 0) (ai (sg_map (f := e3) h3) (ai (by decide : (2 : Int) ≠ 0) (ai h4 trivial)))))))))) (by kernel_rfl)) (e := .ret) rfl (vs := [.p (.bool false)]) trivial (by kernel_rfl) (.p _ _ (.refl _))
  ·have hr := Option.some.inj g2
   subst hr
   exact callP_of is69 rfl (path hm (ks := [6]) (σ' := z3) (cc := c345 ++ [.reg [] [] 0 [(4, none, .b false)] [6]])
   (ai (by decide : (2 : Int) ≠ 0) (ai (by decide : (2 : Int) ≠ 0) (ai h1 (ai (by decide : (2 : Int) ≠ 0) (ai (by decide : (2 : Int) ≠ 0) (ai h2 trivial)))))) (by kernel_rfl)) (e := .ret) rfl (vs := [.p (.bool false)]) trivial (by kernel_rfl) (.p _ _ (.refl _))
 ·let c346 : List CC := c344 ++ [.reg [] [] 0 [(4, none, .b false)] [1, 2, 3, 12], .reg [] [] 0 [] [1, 2, 3, 7]]
  refine oif_elim g1 (fun h2 g2 => ?_) (fun h2 g2 => ?_)
  ·refine obind_elim g2 fun r1 h3 g3 => ?_
   refine obind_elim g3 fun r2 h4 g4 => ?_
   have q347 := fun {P : Prop} (t : P) => ai (F63_ok fuel p0.2.1 z1 false _ h3) t
   have q348 := fun {P : Prop} (t : P) => ai (F63_ok fuel p0.2.1 z2 false _ h4) t
   refine oif_elim g4 (fun h5 g5 => ?_) (fun h5 g5 => ?_)
   ·have hr := Option.some.inj g5
    subst hr
    exact callP_of is69 rfl (path hm (ks := [6]) (σ' := z4) (cc := c346 ++ [.reg [] [] 0 [(2, none, .b true)] [1, 2, 3, 7, 33], .reg [] [] 0 [] [1, 2, 7], .reg [] [] 0 [(3, none, .call (.int .i64 r1)), (7, none, .call (.int .i64 r2)), (9, none, .b true)] [6]])
   (ai (by decide : (2 : Int) ≠ 0) (ai (by decide : (2 : Int) ≠ 0) (ai h1 (ai (by decide : (2 : Int) ≠ 0) (ai h2 (ai (by decide : (2 : Int) ≠ 0) (q347 (ai (by decide : (2 : Int) ≠ 0) (q348 (ai h5 trivial)))))))))) (by kernel_rfl)) (e := .ret) rfl (vs := [.p (.bool true)]) trivial (by kernel_rfl) (.p _ _ (.refl _))
   ·have hr := Option.some.inj g5
    subst hr
    exact callP_of is69 rfl (path hm (ks := [6]) (σ' := z3) (cc := c346 ++ [.reg [] [] 0 [(2, none, .b true)] [1, 2, 3, 7, 33], .reg [] [] 0 [] [1, 2, 7], .reg [] [] 0 [(3, none, .call (.int .i64 r1)), (7, none, .call (.int .i64 r2)), (9, none, .b false)] [6]])
   (ai (by decide : (2 : Int) ≠ 0) (ai (by decide : (2 : Int) ≠ 0) (ai h1 (ai (by decide : (2 : Int) ≠ 0) (ai h2 (ai (by decide : (2 : Int) ≠ 0) (q347 (ai (by decide : (2 : Int) ≠ 0) (q348 (ai h5 trivial)))))))))) (by kernel_rfl)) (e := .ret) rfl (vs := [.p (.bool false)]) trivial (by kernel_rfl) (.p _ _ (.refl _))
  ·refine obind_elim g2 fun r1 h3 g3 => ?_
   refine obind_elim g3 fun r2 h4 g4 => ?_
   have q349 := fun {P : Prop} (t : P) => ai (F63_ok fuel p0.1 z1 false _ h3) t
   have q350 := fun {P : Prop} (t : P) => ai (F63_ok fuel p0.1 z2 false _ h4) t
   refine oif_elim g4 (fun h5 g5 => ?_) (fun h5 g5 => ?_)
   ·have hr := Option.some.inj g5
    subst hr
    exact callP_of is69 rfl (path hm (ks := [6]) (σ' := z4) (cc := c346 ++ [.reg [] [] 0 [(2, none, .b false)] [1, 2, 3, 7, 33], .reg [] [] 0 [(3, none, .call (.int .i64 r1)), (7, none, .call (.int .i64 r2)), (9, none, .b true)] [6]])
   (ai (by decide : (2 : Int) ≠ 0) (ai (by decide : (2 : Int) ≠ 0) (ai h1 (ai (by decide : (2 : Int) ≠ 0) (ai h2 (ai (by decide : (2 : Int) ≠ 0) (q349 (ai (by decide : (2 : Int) ≠ 0) (q350 (ai h5 trivial)))))))))) (by kernel_rfl)) (e := .ret) rfl (vs := [.p (.bool true)]) trivial (by kernel_rfl) (.p _ _ (.refl _))
   ·have hr := Option.some.inj g5
    subst hr
    exact callP_of is69 rfl (path hm (ks := [6]) (σ' := z3) (cc := c346 ++ [.reg [] [] 0 [(2, none, .b false)] [1, 2, 3, 7, 33], .reg [] [] 0 [(3, none, .call (.int .i64 r1)), (7, none, .call (.int .i64 r2)), (9, none, .b false)] [6]])
   (ai (by decide : (2 : Int) ≠ 0) (ai (by decide : (2 : Int) ≠ 0) (ai h1 (ai (by decide : (2 : Int) ≠ 0) (ai h2 (ai (by decide : (2 : Int) ≠ 0) (q349 (ai (by decide : (2 : Int) ≠ 0) (q350 (ai h5 trivial)))))))))) (by kernel_rfl)) (e := .ret) rfl (vs := [.p (.bool false)]) trivial (by kernel_rfl) (.p _ _ (.refl _))
def L34_1  (v2 : (List Int)) (v4 : (List Int)) (v4_1 : (List Int)) (v4_2 : (List Int)) : Nat → Int → Int → Option (Unit ⊕ Unit)
 | 0, _, _ => none
 | fuel + 1, v8, v9 =>
  oif ((decide (v9 < (v2.length : Int))))
  (obind (sg v2 v9) fun x1 => obind (F69 fuel (v4, v4_1, v4_2) x1 v8) fun r2 => oif (r2)
   (L34_1 v2 v4 v4_1 v4_2 fuel x1 (IntKind.wrap .i64 (v9 + 1)))
   (some (.inl ())))
  (some (.inr (())))
noncomputable def L34_1_post (v2 : (List Int)) (v4 : (List Int)) (v4_1 : (List Int)) (v4_2 : (List Int)) (fp0 : Bool) (fp2 : Bool) : (Unit ⊕ Unit) → Ex × St
 | .inl y => (.ret, ⟨[(6, .p (.int .i64 14))], []⟩)
 | .inr (y) => ((.exit 2), ⟨[], []⟩)
theorem L34_1_ok  (v2 : (List Int)) (v4 : (List Int)) (v4_1 : (List Int)) (v4_2 : (List Int)) (fp0 : Bool) (fp2 : Bool) : ∀ (fuel : Nat) (v8 : Int) (v9 : Int) (r : (Unit ⊕ Unit)), L34_1 v2 v4 v4_1 v4_2 fuel v8 v9 = some r →
  SemJ prog ⟨73, 0, false⟩ (codeAt [1, 1, 1, 1, 1, 0, 1, 0, 0] (bodyOf f34)) ⟨[(2, .p (.sl (List.map e3 v2) fp2)), (4, .p (.ref [.sl (List.map e3 v4) false, .sl (List.map e3 v4_1) false, .sl (List.map e3 v4_2) false])), (8, .p (.int .i64 v8)), (9, .p (.int .i64 v9))], []⟩ (L34_1_post v2 v4 v4_1 v4_2 fp0 fp2 r).1 (L34_1_post v2 v4 v4_1 v4_2 fp0 fp2 r).2
 | 0, _, _, _, h => nomatch h
 | fuel + 1, v8, v9, r, h => by
  let z1 : Int := (IntKind.wrap .i64 (v9 + 1))
  unfold L34_1 at h
  refine oif_elim h (fun h1 g1 => ?_) (fun h1 g1 => ?_)
  ·refine obind_elim g1 fun x1 h2 g2 => ?_
   refine obind_elim g2 fun r2 h3 g3 => ?_
   let c351 : List CC := [.reg [] [] 0 [(2, none, .n (v2.length : Int)), (3, none, .b true)] [2, 4, 8, 9, 58]]
   refine oif_elim g3 (fun h4 g4 => ?_) (fun h4 g4 => ?_)
   ·subst h4
    exact SemJ.again (σ1 := ⟨[(2, .p (.sl (List.map e3 v2) fp2)), (4, .p (.ref [.sl (List.map e3 v4) false, .sl (List.map e3 v4_1) false, .sl (List.map e3 v4_2) false])), (8, .p (.int .i64 x1)), (9, .p (.int .i64 z1))], []⟩) (path hm (σ' := ⟨[(2, .p (.sl (List.map e3 v2) fp2)), (4, .p (.ref [.sl (List.map e3 v4) false, .sl (List.map e3 v4_1) false, .sl (List.map e3 v4_2) false])), (8, .p (.int .i64 x1)), (9, .p (.int .i64 z1))], []⟩) (ks := [2, 4, 8, 9]) (cc := c351 ++ [.reg [0, 0, 0, 6, 14, 0, 63, 127] [] 0 [(3, none, .iv (.p (.int .i64 x1))), (6, none, .call (.bool true))] [2, 4, 9, 68], .reg [] [] 0 [(2, none, .iv (.p (.int .i64 x1)))] [2, 4, 8, 9], .reg [] [] 0 [] [2, 4, 8, 9]])
    (ai (len_map e3 v2) (ai h1 (ai (sg_map (f := e3) h2) (ai (F69_ok fuel (v4, v4_1, v4_2) x1 v8 _ h3) (ai (sg_map (f := e3) h2) trivial))))) (by kernel_rfl)) (L34_1_ok v2 v4 v4_1 v4_2 fp0 fp2 fuel x1 z1 _ g4)
   ·subst h4
    have hr := Option.some.inj g4
    subst hr
    exact SemC.cast (SemJ.out (e := .ret) (path hm (σ' := ⟨[(6, .p (.int .i64 14))], []⟩) (ks := [6]) (cc := c351 ++ [.reg [0, 0, 0, 6, 14, 0, 63, 127] [] 0 [(3, none, .iv (.p (.int .i64 x1))), (6, none, .call (.bool false))] [2, 4, 9, 68], .reg [] [] 0 [] [6]])
    (ai (len_map e3 v2) (ai h1 (ai (sg_map (f := e3) h2) (ai (F69_ok fuel (v4, v4_1, v4_2) x1 v8 _ h3) trivial)))) (by kernel_rfl)) (by simp)) (by kernel_rfl) (by kernel_rfl)
  ·have hr := Option.some.inj g1
   subst hr
   exact SemC.cast (SemJ.out (e := (.exit 2)) (path hm (σ' := ⟨[], []⟩) (ks := []) (cc := [.reg [] [] 0 [(2, none, .n (v2.length : Int)), (3, none, .b false)] [2, 4, 8, 9, 58]])
    (ai (len_map e3 v2) (ai h1 trivial)) (by kernel_rfl)) (by simp)) (by kernel_rfl) (by kernel_rfl)
def F34  (fuel : Nat) (p0 : (List (Int × Int))) (p1 : ((List Int) × (List Int) × (List Int))) (p2 : (List Int)) : Option Int :=
 obind (F29 fuel p0 (p1.1, p1.2.1, p1.2.2)) fun r1 => oif ((r1 != 0))
 (some r1)
 (oif ((decide ((p2.length : Int) < 2)))
  (some 6)
  (oif ((decide ((p2.length : Int) > (IntKind.wrap .i64 (2 * (p0.length : Int))))))
   (some 6)
   ((obind (L34_0 p0 p2 p1.1 p1.2.1 p1.2.2 fuel 0) fun y2 => match y2 with
    | .inl y2 => some 2
    | .inr (y2) => obind (sg p2 (IntKind.wrap .i64 ((p2.length : Int) - 1))) fun x3 => (obind (L34_1 p2 p1.1 p1.2.1 p1.2.2 fuel x3 0) fun y4 => match y4 with
     | .inl y4 => some 14
     | .inr (y4) => some 0)))))
theorem F34_ok  (fuel : Nat) (p0 : (List (Int × Int))) (p1 : ((List Int) × (List Int) × (List Int))) (p2 : (List Int)) (fp0 : Bool) (fp2 : Bool) (r : Int) (h : F34 fuel p0 p1 p2 = some r) : CallP prog 34 [.sl (List.map e70 p0) fp0, .agg [.sl (List.map e3 p1.1) false, .sl (List.map e3 p1.2.1) false, .sl (List.map e3 p1.2.2) false], .sl (List.map e3 p2) fp2] (.int .i64 r) := by
 let z3 : St := ⟨[(6, .p (.int .i64 2))], []⟩
 let z2 : St := ⟨[(6, .p (.int .i64 6))], []⟩
 let z1 : St := ⟨[(6, .p (.int .i64 14))], []⟩
 unfold F34 at h
 refine obind_elim h fun r1 h1 g1 => ?_
 let c352 : List CC := [.reg [] [] 0 [(0, none, .imm)] [0, 2, 4]]
 have q353 := fun {P : Prop} (t : P) => ai (F29_ok fuel p0 (p1.1, p1.2.1, p1.2.2) fp0 _ h1) t
 refine oif_elim g1 (fun h2 g2 => ?_) (fun h2 g2 => ?_)
 ·have hr := Option.some.inj g2
  subst hr
  exact callP_of is34 rfl (path hm (ks := [6]) (σ' := ⟨[(6, .p (.int .i64 r1))], []⟩) (cc := c352 ++ [.reg [] [] 0 [(2, none, .call (.int .i64 r1)), (3, none, .b true)] [0, 2, 4, 13], .reg [] [] 0 [(2, none, .call (.int .i64 r1))] [6]])
   (q353 (ai h2 (ai (F29_ok fuel p0 (p1.1, p1.2.1, p1.2.2) fp0 _ h1) trivial))) (by kernel_rfl)) (e := .ret) rfl (vs := [.p (.int .i64 r1)]) trivial (by kernel_rfl) (.p _ _ (.refl _))
 ·let c354 : List CC := c352 ++ [.reg [] [] 0 [(2, none, .call (.int .i64 r1)), (3, none, .b false)] [0, 2, 4, 13]]
  refine oif_elim g2 (fun h3 g3 => ?_) (fun h3 g3 => ?_)
  ·have hr := Option.some.inj g3
   subst hr
   exact callP_of is34 rfl (path hm (ks := [6]) (σ' := z2) (cc := c354 ++ [.reg [] [] 0 [(1, none, .n (p2.length : Int)), (2, none, .b true)] [0, 2, 4, 27], .reg [] [] 0 [] [6]])
   (q353 (ai h2 (ai (len_map e3 p2) (ai h3 trivial)))) (by kernel_rfl)) (e := .ret) rfl (vs := [.p (.int .i64 6)]) trivial (by kernel_rfl) (.p _ _ (.refl _))
  ·have q355 := fun {P : Prop} (t : P) => ai h2 (ai (len_map e3 p2) (ai h3 (ai (len_map e3 p2) (ai (len_map e70 p0) t))))
   refine oif_elim g3 (fun h4 g4 => ?_) (fun h4 g4 => ?_)
   ·have hr := Option.some.inj g4
    subst hr
    exact callP_of is34 rfl (path hm (ks := [6]) (σ' := z2) (cc := c354 ++ [.reg [] [] 0 [(1, none, .n (p2.length : Int)), (2, none, .b false), (5, none, .n (p2.length : Int)), (7, none, .n (p0.length : Int)), (9, none, .b true)] [0, 2, 4, 27], .reg [] [] 0 [] [6]])
   (q353 (q355 (ai h4 trivial))) (by kernel_rfl)) (e := .ret) rfl (vs := [.p (.int .i64 6)]) trivial (by kernel_rfl) (.p _ _ (.refl _))
   ·let c356 : List CC := c354 ++ [.reg [] [] 0 [(1, none, .n (p2.length : Int)), (2, none, .b false), (5, none, .n (p2.length : Int)), (7, none, .n (p0.length : Int)), (9, none, .b false)] [0, 2, 4, 27], .reg [] [] 0 [] [0, 2, 4, 7]]
    refine obind_elim g4 fun y h5 g5 => ?_
    match y, h5, g5 with
    | .inl y2, h5, g5 =>
     have hr := Option.some.inj g5
     subst hr
     exact callP_of is34 rfl (path hm (ks := [6]) (σ' := z3) (cc := c356 ++ [.leaf .ret z3])
   (q353 (q355 (ai h4 (ai (SemJ.loop (L34_0_ok p0 p2 p1.1 p1.2.1 p1.2.2 fp0 fp2 fuel 0 _ h5)) trivial)))) (by kernel_rfl)) (e := .ret) rfl (vs := [.p (.int .i64 2)]) trivial (by kernel_rfl) (.p _ _ (.refl _))
    | .inr (y2), h5, g5 =>
     refine obind_elim g5 fun x3 h6 g6 => ?_
     let c357 : List CC := c356 ++ [.leaf (.exit 0) ⟨[(2, .p (.sl (List.map e3 p2) fp2)), (4, .p (.ref [.sl (List.map e3 p1.1) false, .sl (List.map e3 p1.2.1) false, .sl (List.map e3 p1.2.2) false]))], []⟩, .reg [] [] 0 [(2, none, .n (p2.length : Int)), (4, none, .iv (.p (.int .i64 x3)))] [2, 4, 8], .reg [] [] 0 [] [2, 4, 8, 9]]
     have q358 := fun {P : Prop} (t : P) => ai h4 (ai (SemJ.loop (L34_0_ok p0 p2 p1.1 p1.2.1 p1.2.2 fp0 fp2 fuel 0 _ h5)) (ai (len_map e3 p2) (ai (sg_map (f := e3) h6) t)))
     refine obind_elim g6 fun y h7 g7 => ?_
     match y, h7, g7 with
     | .inl y4, h7, g7 =>
      have hr := Option.some.inj g7
      subst hr
      exact callP_of is34 rfl (path hm (ks := [6]) (σ' := z1) (cc := c357 ++ [.leaf .ret z1])
   (q353 (q355 (q358 (ai (SemJ.loop (L34_1_ok p2 p1.1 p1.2.1 p1.2.2 fp0 fp2 fuel x3 0 _ h7)) trivial)))) (by kernel_rfl)) (e := .ret) rfl (vs := [.p (.int .i64 14)]) trivial (by kernel_rfl) (.p _ _ (.refl _))
     | .inr (y4), h7, g7 =>
      have hr := Option.some.inj g7
      subst hr
      exact callP_of is34 rfl (path hm (ks := [6]) (σ' := ⟨[(6, .p (.int .i64 0))], []⟩) (cc := c357 ++ [.leaf (.exit 2) ⟨[], []⟩, .reg [] [] 0 [] [6]])
   (q353 (q355 (q358 (ai (SemJ.loop (L34_1_ok p2 p1.1 p1.2.1 p1.2.2 fp0 fp2 fuel x3 0 _ h7)) trivial)))) (by kernel_rfl)) (e := .ret) rfl (vs := [.p (.int .i64 0)]) trivial (by kernel_rfl) (.p _ _ (.refl _))
def F8  (fuel : Nat)  : Option Bool :=
 obind (F36 fuel [3, 4, 5, 2, 4, 6]) fun r1 => obind (F36 fuel [3, 4]) fun r2 => obind (F36 fuel [1, 1, 1, 1]) fun r3 => obind (F37 fuel [0, 6, 3, 10, 8, 0]) fun r4 => obind (F19 fuel r1) fun r5 => obind (F19 fuel r2) fun r6 => obind (F21 fuel r2) fun r7 => obind (F17 fuel r1 2 2) fun r8 => obind (F9 fuel r1 r4) fun r9 => obind (F37 fuel [0, 6, 3, 10, 7, 0]) fun r10 => obind (F9 fuel r1 r10) fun r11 => obind (F37 fuel [0, 5]) fun r12 => obind (F11 fuel r2 r12 1) fun r13 => obind (F23 fuel r1) fun r14 => obind (F38 fuel) fun r15 => obind (F26 fuel r1 (r15.1, r15.2.1, r15.2.2)) fun r16 => obind (F39 fuel) fun r17 => obind (F26 fuel r3 (r17.1, r17.2.1, r17.2.2)) fun r18 => obind (F40 fuel [0, 2, 3, 1]) fun r19 => obind (F33 fuel r3 (r17.1, r17.2.1, r17.2.2) r19) fun r20 => obind (F40 fuel [0, 2]) fun r21 => obind (F33 fuel r3 (r17.1, r17.2.1, r17.2.2) r21) fun r22 => obind (F31 fuel r3 (r17.1, r17.2.1, r17.2.2)) fun r23 => obind (F31 fuel r1 (r15.1, r15.2.1, r15.2.2)) fun r24 => obind (F17 fuel r1 3 0) fun r25 => oif ((r5.2 != 0))
 (some false)
 (oif ((r6.2 != 0))
  (some false)
  (oif ((r7.2.2 != 0))
   (some false)
   (oif ((r8.2 != 0))
    (some false)
    (oif ((r9.2 != 0))
     (some false)
     (oif ((r11.2 != 16))
      (some false)
      (oif ((r13.2 != 0))
       (some false)
       (oif ((r14.2 != 0))
        (some false)
        (oif ((r16.2 != 0))
         (some false)
         (oif ((r18.2 != 13))
          (some false)
          (oif ((r20 != 0))
           (some false)
           (oif ((r22 != 14))
            (some false)
            (oif ((r23.2 != 0))
             (some false)
             (oif ((r24.2 != 5))
              (some false)
              (oif ((r25.2 != 2))
               (some false)
               (obind (F10 fuel r1 r14.1) fun r26 => oif ((r5.1 == 12))
                (oif ((r6.1 == 7))
                 (oif ((r7.1 == 2))
                  (oif ((r7.2.1 == 0))
                   (oif ((r8.1 == 10))
                    (oif ((r9.1 == 12))
                     (oif ((r13.1 == 5))
                      (oif ((r26.2 == 0))
                       (oif ((r26.1 == 12))
                        (obind (F16 fuel r16.1 r4) fun r27 => oif (r27)
                         (obind (F34 fuel r3 (r17.1, r17.2.1, r17.2.2) r23.1) fun r28 => oif ((r28 == 0))
                          (some true)
                          (some false))
                         (some false))
                        (some false))
                       (some false))
                      (some false))
                     (some false))
                    (some false))
                   (some false))
                  (some false))
                 (some false))
                (some false))))))))))))))))
theorem F8_ok  (fuel : Nat)   (r : Bool) (h : F8 fuel  = some r) : CallP prog 8 [] (.bool r) := by
 let z1 : St := ⟨[(0, .p (.bool false))], []⟩
 unfold F8 at h
 refine obind_elim h fun r1 h1 g1 => ?_
 refine obind_elim g1 fun r2 h2 g2 => ?_
 refine obind_elim g2 fun r3 h3 g3 => ?_
 refine obind_elim g3 fun r4 h4 g4 => ?_
 refine obind_elim g4 fun r5 h5 g5 => ?_
 refine obind_elim g5 fun r6 h6 g6 => ?_
 refine obind_elim g6 fun r7 h7 g7 => ?_
 refine obind_elim g7 fun r8 h8 g8 => ?_
 refine obind_elim g8 fun r9 h9 g9 => ?_
 refine obind_elim g9 fun r10 h10 g10 => ?_
 refine obind_elim g10 fun r11 h11 g11 => ?_
 refine obind_elim g11 fun r12 h12 g12 => ?_
 refine obind_elim g12 fun r13 h13 g13 => ?_
 refine obind_elim g13 fun r14 h14 g14 => ?_
 refine obind_elim g14 fun r15 h15 g15 => ?_
 refine obind_elim g15 fun r16 h16 g16 => ?_
 refine obind_elim g16 fun r17 h17 g17 => ?_
 refine obind_elim g17 fun r18 h18 g18 => ?_
 refine obind_elim g18 fun r19 h19 g19 => ?_
 refine obind_elim g19 fun r20 h20 g20 => ?_
 refine obind_elim g20 fun r21 h21 g21 => ?_
 refine obind_elim g21 fun r22 h22 g22 => ?_
 refine obind_elim g22 fun r23 h23 g23 => ?_
 refine obind_elim g23 fun r24 h24 g24 => ?_
 refine obind_elim g24 fun r25 h25 g25 => ?_
 let c359 : List CC := [.reg [] [] 0 [] [], .reg [] [] 0 [(1, none, .call (.sl (List.map e70 r1) false)), (3, none, .call (.sl (List.map e70 r2) false)), (5, none, .call (.sl (List.map e70 r3) false))] [1, 2, 3], .reg [] [] 0 [(1, none, .call (.sl (List.map e60 r4) false))] [1, 2, 3, 4], .reg [] [] 0 [(1, none, .call (.tup [.int .i64 r5.1, .int .i64 r5.2]))] [1, 2, 3, 4, 5, 6], .reg [] [] 0 [(1, none, .call (.tup [.int .i64 r6.1, .int .i64 r6.2]))] [1, 2, 3, 4, 5, 6, 7, 8], .reg [] [] 0 [(1, none, .call (.tup [.int .i64 r7.1, .int .i64 r7.2.1, .int .i64 r7.2.2]))] [1, 2, 3, 4, 5, 6, 7, 8, 9, 10, 11], .reg [] [] 0 [(1, none, .call (.tup [.int .i64 r8.1, .int .i64 r8.2]))] [1, 2, 3, 4, 5, 6, 7, 8, 9, 10, 11, 12, 13], .reg [] [] 0 [(2, none, .call (.tup [.int .i64 r9.1, .int .i64 r9.2]))] [1, 2, 3, 4, 5, 6, 7, 8, 9, 10, 11, 12, 13, 14, 15], .reg [] [] 0 [(2, none, .call (.sl (List.map e60 r10) false)), (3, none, .call (.tup [.int .i64 r11.1, .int .i64 r11.2]))] [1, 2, 3, 4, 5, 6, 7, 8, 9, 10, 11, 12, 13, 14, 15, 17], .reg [] [] 0 [(2, none, .call (.sl (List.map e60 r12) false)), (3, none, .call (.tup [.int .i64 r13.1, .int .i64 r13.2]))] [1, 3, 4, 5, 6, 7, 8, 9, 10, 11, 12, 13, 14, 15, 17, 18, 19], .reg [] [] 0 [(1, none, .call (.tup [.sl (List.map e60 r14.1) false, .int .i64 r14.2]))] [1, 3, 4, 5, 6, 7, 8, 9, 10, 11, 12, 13, 14, 15, 17, 18, 19, 20, 21], .reg [] [] 0 [(1, none, .call (.agg [.sl (List.map e3 r15.1) false, .sl (List.map e3 r15.2.1) false, .sl (List.map e3 r15.2.2) false])), (2, none, .call (.tup [.sl (List.map e60 r16.1) false, .int .i64 r16.2]))] [1, 3, 4, 5, 6, 7, 8, 9, 10, 11, 12, 13, 14, 15, 17, 18, 19, 20, 21, 22, 23], .reg [] [] 0 [(1, none, .call (.agg [.sl (List.map e3 r17.1) false, .sl (List.map e3 r17.2.1) false, .sl (List.map e3 r17.2.2) false])), (2, none, .call (.tup [.sl (List.map e60 r18.1) false, .int .i64 r18.2]))] [1, 3, 4, 5, 6, 7, 8, 9, 10, 11, 12, 13, 14, 15, 17, 18, 19, 20, 21, 22, 23, 25], .reg [] [] 0 [(1, none, .call (.agg [.sl (List.map e3 r17.1) false, .sl (List.map e3 r17.2.1) false, .sl (List.map e3 r17.2.2) false])), (3, none, .call (.sl (List.map e3 r19) false)), (4, none, .call (.int .i64 r20)), (6, none, .call (.agg [.sl (List.map e3 r17.1) false, .sl (List.map e3 r17.2.1) false, .sl (List.map e3 r17.2.2) false])), (8, none, .call (.sl (List.map e3 r21) false)), (9, none, .call (.int .i64 r22))] [1, 3, 4, 5, 6, 7, 8, 9, 10, 11, 12, 13, 14, 15, 17, 18, 19, 20, 21, 22, 23, 25, 26, 27], .reg [] [] 0 [(1, none, .call (.agg [.sl (List.map e3 r17.1) false, .sl (List.map e3 r17.2.1) false, .sl (List.map e3 r17.2.2) false])), (2, none, .call (.tup [.sl (List.map e3 r23.1) false, .int .i64 r23.2]))] [1, 3, 4, 5, 6, 7, 8, 9, 10, 11, 12, 13, 14, 15, 17, 18, 19, 20, 21, 22, 23, 25, 26, 27, 28, 29], .reg [] [] 0 [(1, none, .call (.agg [.sl (List.map e3 r15.1) false, .sl (List.map e3 r15.2.1) false, .sl (List.map e3 r15.2.2) false])), (2, none, .call (.tup [.sl (List.map e3 r24.1) false, .int .i64 r24.2]))] [1, 3, 4, 5, 6, 7, 8, 9, 10, 11, 12, 13, 14, 15, 17, 18, 19, 20, 21, 22, 23, 25, 26, 27, 28, 29, 31], .reg [] [] 0 [(1, none, .call (.tup [.int .i64 r25.1, .int .i64 r25.2]))] [1, 3, 4, 5, 6, 7, 8, 9, 10, 11, 12, 13, 14, 15, 17, 18, 19, 20, 21, 22, 23, 25, 26, 27, 28, 29, 31, 33]]
 have q360 := fun {P : Prop} (t : P) => ai (F36_ok fuel [3, 4, 5, 2, 4, 6] true _ h1) (ai (F36_ok fuel [3, 4] true _ h2) (ai (F36_ok fuel [1, 1, 1, 1] true _ h3) (ai (F37_ok fuel [0, 6, 3, 10, 8, 0] true _ h4) (ai (F19_ok fuel r1 false _ h5) (ai (F19_ok fuel r2 false _ h6) (ai (F21_ok fuel r2 false _ h7) (ai (F17_ok fuel r1 2 2 false _ h8) (ai (F9_ok fuel r1 r4 false false _ h9) (ai (F37_ok fuel [0, 6, 3, 10, 7, 0] true _ h10) (ai (F9_ok fuel r1 r10 false false _ h11) (ai (F37_ok fuel [0, 5] true _ h12) (ai (F11_ok fuel r2 r12 1 false false _ h13) (ai (F23_ok fuel r1 false _ h14) (ai (F38_ok fuel  _ h15) (ai (F26_ok fuel r1 (r15.1, r15.2.1, r15.2.2) false _ h16) (ai (F39_ok fuel  _ h17) (ai (F26_ok fuel r3 (r17.1, r17.2.1, r17.2.2) false _ h18) (ai (F39_ok fuel  _ h17) (ai (F40_ok fuel [0, 2, 3, 1] true _ h19) (ai (F33_ok fuel r3 (r17.1, r17.2.1, r17.2.2) r19 false false _ h20) (ai (F39_ok fuel  _ h17) (ai (F40_ok fuel [0, 2] true _ h21) (ai (F33_ok fuel r3 (r17.1, r17.2.1, r17.2.2) r21 false false _ h22) (ai (F39_ok fuel  _ h17) (ai (F31_ok fuel r3 (r17.1, r17.2.1, r17.2.2) false _ h23) (ai (F38_ok fuel  _ h15) (ai (F31_ok fuel r1 (r15.1, r15.2.1, r15.2.2) false _ h24) (ai (F17_ok fuel r1 3 0 false _ h25) t))))))))))))))))))))))))))))
 refine oif_elim g25 (fun h26 g26 => ?_) (fun h26 g26 => ?_)
 ·have hr := Option.some.inj g26
  subst hr
  exact callP_of is8 rfl (path hm (ks := [0]) (σ' := z1) (cc := c359 ++ [.reg [] [] 0 [(1, none, .b true)] [1, 3, 4, 5, 7, 9, 10, 12, 14, 18, 20, 22, 28, 186], .reg [] [] 0 [] [0]])
   (q360 (ai h26 trivial)) (by kernel_rfl)) (e := .ret) rfl (vs := [.p (.bool false)]) trivial (by kernel_rfl) (.p _ _ (.refl _))
 ·refine oif_elim g26 (fun h27 g27 => ?_) (fun h27 g27 => ?_)
  ·have hr := Option.some.inj g27
   subst hr
   exact callP_of is8 rfl (path hm (ks := [0]) (σ' := z1) (cc := c359 ++ [.reg [] [] 0 [(1, none, .b false), (4, none, .b true)] [1, 3, 4, 5, 7, 9, 10, 12, 14, 18, 20, 22, 28, 186], .reg [] [] 0 [] [0]])
   (q360 (ai h26 (ai h27 trivial))) (by kernel_rfl)) (e := .ret) rfl (vs := [.p (.bool false)]) trivial (by kernel_rfl) (.p _ _ (.refl _))
  ·have q361 := fun {P : Prop} (t : P) => ai h26 (ai h27 t)
   refine oif_elim g27 (fun h28 g28 => ?_) (fun h28 g28 => ?_)
   ·have hr := Option.some.inj g28
    subst hr
    exact callP_of is8 rfl (path hm (ks := [0]) (σ' := z1) (cc := c359 ++ [.reg [] [] 0 [(1, none, .b false), (4, none, .b false), (8, none, .b true)] [1, 3, 4, 5, 7, 9, 10, 12, 14, 18, 20, 22, 28, 186], .reg [] [] 0 [] [0]])
   (q360 (q361 (ai h28 trivial))) (by kernel_rfl)) (e := .ret) rfl (vs := [.p (.bool false)]) trivial (by kernel_rfl) (.p _ _ (.refl _))
   ·refine oif_elim g28 (fun h29 g29 => ?_) (fun h29 g29 => ?_)
    ·have hr := Option.some.inj g29
     subst hr
     exact callP_of is8 rfl (path hm (ks := [0]) (σ' := z1) (cc := c359 ++ [.reg [] [] 0 [(1, none, .b false), (4, none, .b false), (8, none, .b false), (12, none, .b true)] [1, 3, 4, 5, 7, 9, 10, 12, 14, 18, 20, 22, 28, 186], .reg [] [] 0 [] [0]])
   (q360 (q361 (ai h28 (ai h29 trivial)))) (by kernel_rfl)) (e := .ret) rfl (vs := [.p (.bool false)]) trivial (by kernel_rfl) (.p _ _ (.refl _))
    ·have q362 := fun {P : Prop} (t : P) => ai h28 (ai h29 t)
     refine oif_elim g29 (fun h30 g30 => ?_) (fun h30 g30 => ?_)
     ·have hr := Option.some.inj g30
      subst hr
      exact callP_of is8 rfl (path hm (ks := [0]) (σ' := z1) (cc := c359 ++ [.reg [] [] 0 [(1, none, .b false), (4, none, .b false), (8, none, .b false), (12, none, .b false), (16, none, .b true)] [1, 3, 4, 5, 7, 9, 10, 12, 14, 18, 20, 22, 28, 186], .reg [] [] 0 [] [0]])
   (q360 (q361 (q362 (ai h30 trivial)))) (by kernel_rfl)) (e := .ret) rfl (vs := [.p (.bool false)]) trivial (by kernel_rfl) (.p _ _ (.refl _))
     ·refine oif_elim g30 (fun h31 g31 => ?_) (fun h31 g31 => ?_)
      ·have hr := Option.some.inj g31
       subst hr
       exact callP_of is8 rfl (path hm (ks := [0]) (σ' := z1) (cc := c359 ++ [.reg [] [] 0 [(1, none, .b false), (4, none, .b false), (8, none, .b false), (12, none, .b false), (16, none, .b false), (20, none, .b true)] [1, 3, 4, 5, 7, 9, 10, 12, 14, 18, 20, 22, 28, 186], .reg [] [] 0 [] [0]])
   (q360 (q361 (q362 (ai h30 (ai h31 trivial))))) (by kernel_rfl)) (e := .ret) rfl (vs := [.p (.bool false)]) trivial (by kernel_rfl) (.p _ _ (.refl _))
      ·have q363 := fun {P : Prop} (t : P) => ai h30 (ai h31 t)
       refine oif_elim g31 (fun h32 g32 => ?_) (fun h32 g32 => ?_)
       ·have hr := Option.some.inj g32
        subst hr
        exact callP_of is8 rfl (path hm (ks := [0]) (σ' := z1) (cc := c359 ++ [.reg [] [] 0 [(1, none, .b false), (4, none, .b false), (8, none, .b false), (12, none, .b false), (16, none, .b false), (20, none, .b false), (24, none, .b true)] [1, 3, 4, 5, 7, 9, 10, 12, 14, 18, 20, 22, 28, 186], .reg [] [] 0 [] [0]])
   (q360 (q361 (q362 (q363 (ai h32 trivial))))) (by kernel_rfl)) (e := .ret) rfl (vs := [.p (.bool false)]) trivial (by kernel_rfl) (.p _ _ (.refl _))
       ·refine oif_elim g32 (fun h33 g33 => ?_) (fun h33 g33 => ?_)
        ·have hr := Option.some.inj g33
         subst hr
         exact callP_of is8 rfl (path hm (ks := [0]) (σ' := z1) (cc := c359 ++ [.reg [] [] 0 [(1, none, .b false), (4, none, .b false), (8, none, .b false), (12, none, .b false), (16, none, .b false), (20, none, .b false), (24, none, .b false), (28, none, .b true)] [1, 3, 4, 5, 7, 9, 10, 12, 14, 18, 20, 22, 28, 186], .reg [] [] 0 [] [0]])
   (q360 (q361 (q362 (q363 (ai h32 (ai h33 trivial)))))) (by kernel_rfl)) (e := .ret) rfl (vs := [.p (.bool false)]) trivial (by kernel_rfl) (.p _ _ (.refl _))
        ·have q364 := fun {P : Prop} (t : P) => ai h32 (ai h33 t)
         refine oif_elim g33 (fun h34 g34 => ?_) (fun h34 g34 => ?_)
         ·have hr := Option.some.inj g34
          subst hr
          exact callP_of is8 rfl (path hm (ks := [0]) (σ' := z1) (cc := c359 ++ [.reg [] [] 0 [(1, none, .b false), (4, none, .b false), (8, none, .b false), (12, none, .b false), (16, none, .b false), (20, none, .b false), (24, none, .b false), (28, none, .b false), (32, none, .b true)] [1, 3, 4, 5, 7, 9, 10, 12, 14, 18, 20, 22, 28, 186], .reg [] [] 0 [] [0]])
   (q360 (q361 (q362 (q363 (q364 (ai h34 trivial)))))) (by kernel_rfl)) (e := .ret) rfl (vs := [.p (.bool false)]) trivial (by kernel_rfl) (.p _ _ (.refl _))
         ·refine oif_elim g34 (fun h35 g35 => ?_) (fun h35 g35 => ?_)
          ·have hr := Option.some.inj g35
           subst hr
           exact callP_of is8 rfl (path hm (ks := [0]) (σ' := z1) (cc := c359 ++ [.reg [] [] 0 [(1, none, .b false), (4, none, .b false), (8, none, .b false), (12, none, .b false), (16, none, .b false), (20, none, .b false), (24, none, .b false), (28, none, .b false), (32, none, .b false), (36, none, .b true)] [1, 3, 4, 5, 7, 9, 10, 12, 14, 18, 20, 22, 28, 186], .reg [] [] 0 [] [0]])
   (q360 (q361 (q362 (q363 (q364 (ai h34 (ai h35 trivial))))))) (by kernel_rfl)) (e := .ret) rfl (vs := [.p (.bool false)]) trivial (by kernel_rfl) (.p _ _ (.refl _))
          ·refine oif_elim g35 (fun h36 g36 => ?_) (fun h36 g36 => ?_)
           ·have hr := Option.some.inj g36
            subst hr
            exact callP_of is8 rfl (path hm (ks := [0]) (σ' := z1) (cc := c359 ++ [.reg [] [] 0 [(1, none, .b false), (4, none, .b false), (8, none, .b false), (12, none, .b false), (16, none, .b false), (20, none, .b false), (24, none, .b false), (28, none, .b false), (32, none, .b false), (36, none, .b false), (40, none, .b true)] [1, 3, 4, 5, 7, 9, 10, 12, 14, 18, 20, 22, 28, 186], .reg [] [] 0 [] [0]])
   (q360 (q361 (q362 (q363 (q364 (ai h34 (ai h35 (ai h36 trivial)))))))) (by kernel_rfl)) (e := .ret) rfl (vs := [.p (.bool false)]) trivial (by kernel_rfl) (.p _ _ (.refl _))
           ·have q365 := fun {P : Prop} (t : P) => ai h34 (ai h35 (ai h36 t))
            refine oif_elim g36 (fun h37 g37 => ?_) (fun h37 g37 => ?_)
            ·have hr := Option.some.inj g37
             subst hr
             exact callP_of is8 rfl (path hm (ks := [0]) (σ' := z1) (cc := c359 ++ [.reg [] [] 0 [(1, none, .b false), (4, none, .b false), (8, none, .b false), (12, none, .b false), (16, none, .b false), (20, none, .b false), (24, none, .b false), (28, none, .b false), (32, none, .b false), (36, none, .b false), (40, none, .b false), (44, none, .b true)] [1, 3, 4, 5, 7, 9, 10, 12, 14, 18, 20, 22, 28, 186], .reg [] [] 0 [] [0]])
   (q360 (q361 (q362 (q363 (q364 (q365 (ai h37 trivial))))))) (by kernel_rfl)) (e := .ret) rfl (vs := [.p (.bool false)]) trivial (by kernel_rfl) (.p _ _ (.refl _))
            ·refine oif_elim g37 (fun h38 g38 => ?_) (fun h38 g38 => ?_)
             ·have hr := Option.some.inj g38
              subst hr
              exact callP_of is8 rfl (path hm (ks := [0]) (σ' := z1) (cc := c359 ++ [.reg [] [] 0 [(1, none, .b false), (4, none, .b false), (8, none, .b false), (12, none, .b false), (16, none, .b false), (20, none, .b false), (24, none, .b false), (28, none, .b false), (32, none, .b false), (36, none, .b false), (40, none, .b false), (44, none, .b false), (48, none, .b true)] [1, 3, 4, 5, 7, 9, 10, 12, 14, 18, 20, 22, 28, 186], .reg [] [] 0 [] [0]])
   (q360 (q361 (q362 (q363 (q364 (q365 (ai h37 (ai h38 trivial)))))))) (by kernel_rfl)) (e := .ret) rfl (vs := [.p (.bool false)]) trivial (by kernel_rfl) (.p _ _ (.refl _))
             ·refine oif_elim g38 (fun h39 g39 => ?_) (fun h39 g39 => ?_)
              ·have hr := Option.some.inj g39
               subst hr
               exact callP_of is8 rfl (path hm (ks := [0]) (σ' := z1) (cc := c359 ++ [.reg [] [] 0 [(1, none, .b false), (4, none, .b false), (8, none, .b false), (12, none, .b false), (16, none, .b false), (20, none, .b false), (24, none, .b false), (28, none, .b false), (32, none, .b false), (36, none, .b false), (40, none, .b false), (44, none, .b false), (48, none, .b false), (52, none, .b true)] [1, 3, 4, 5, 7, 9, 10, 12, 14, 18, 20, 22, 28, 186], .reg [] [] 0 [] [0]])
   (q360 (q361 (q362 (q363 (q364 (q365 (ai h37 (ai h38 (ai h39 trivial))))))))) (by kernel_rfl)) (e := .ret) rfl (vs := [.p (.bool false)]) trivial (by kernel_rfl) (.p _ _ (.refl _))
              ·have q366 := fun {P : Prop} (t : P) => ai h37 (ai h38 (ai h39 t))
               refine oif_elim g39 (fun h40 g40 => ?_) (fun h40 g40 => ?_)
               ·have hr := Option.some.inj g40
                subst hr
                exact callP_of is8 rfl (path hm (ks := [0]) (σ' := z1) (cc := c359 ++ [.reg [] [] 0 [(1, none, .b false), (4, none, .b false), (8, none, .b false), (12, none, .b false), (16, none, .b false), (20, none, .b false), (24, none, .b false), (28, none, .b false), (32, none, .b false), (36, none, .b false), (40, none, .b false), (44, none, .b false), (48, none, .b false), (52, none, .b false), (56, none, .b true)] [1, 3, 4, 5, 7, 9, 10, 12, 14, 18, 20, 22, 28, 186], .reg [] [] 0 [] [0]])
   (q360 (q361 (q362 (q363 (q364 (q365 (q366 (ai h40 trivial)))))))) (by kernel_rfl)) (e := .ret) rfl (vs := [.p (.bool false)]) trivial (by kernel_rfl) (.p _ _ (.refl _))
               ·refine obind_elim g40 fun r26 h41 g41 => ?_
                let c367 : List CC := c359 ++ [.reg [] [] 0 [(1, none, .b false), (4, none, .b false), (8, none, .b false), (12, none, .b false), (16, none, .b false), (20, none, .b false), (24, none, .b false), (28, none, .b false), (32, none, .b false), (36, none, .b false), (40, none, .b false), (44, none, .b false), (48, none, .b false), (52, none, .b false), (56, none, .b false)] [1, 3, 4, 5, 7, 9, 10, 12, 14, 18, 20, 22, 28, 186], .reg [] [] 0 [(2, none, .call (.tup [.int .i64 r26.1, .int .i64 r26.2]))] [3, 4, 5, 7, 9, 10, 12, 14, 18, 22, 28, 34, 35]]
                have q368 := fun {P : Prop} (t : P) => ai h40 (ai (F10_ok fuel r1 r14.1 false false _ h41) t)
                refine oif_elim g41 (fun h42 g42 => ?_) (fun h42 g42 => ?_)
                ·refine oif_elim g42 (fun h43 g43 => ?_) (fun h43 g43 => ?_)
                 ·refine oif_elim g43 (fun h44 g44 => ?_) (fun h44 g44 => ?_)
                  ·refine oif_elim g44 (fun h45 g45 => ?_) (fun h45 g45 => ?_)
                   ·refine oif_elim g45 (fun h46 g46 => ?_) (fun h46 g46 => ?_)
                    ·refine oif_elim g46 (fun h47 g47 => ?_) (fun h47 g47 => ?_)
                     ·refine oif_elim g47 (fun h48 g48 => ?_) (fun h48 g48 => ?_)
                      ·refine oif_elim g48 (fun h49 g49 => ?_) (fun h49 g49 => ?_)
                       ·refine oif_elim g49 (fun h50 g50 => ?_) (fun h50 g50 => ?_)
                        ·refine obind_elim g50 fun r27 h51 g51 => ?_
                         have q369 := fun {P : Prop} (t : P) => ai h42 (ai h43 (ai h44 (ai h45 (ai h46 (ai h47 (ai h48 (ai h49 (ai h50 (ai (F16_ok fuel r16.1 r4 false false _ h51) t)))))))))
                         refine oif_elim g51 (fun h52 g52 => ?_) (fun h52 g52 => ?_)
                         ·subst h52
                          refine obind_elim g52 fun r28 h53 g53 => ?_
                          refine oif_elim g53 (fun h54 g54 => ?_) (fun h54 g54 => ?_)
                          ·have hr := Option.some.inj g54
                           subst hr
                           exact callP_of is8 rfl (path hm (ks := [0]) (σ' := ⟨[(0, .p (.bool true))], []⟩) (cc := c367 ++ [.reg [] [] 0 [(1, none, .b true), (4, none, .b true), (8, none, .b true), (12, none, .b true), (16, none, .b true), (20, none, .b true), (24, none, .b true), (28, none, .b true), (32, none, .b true), (37, none, .call (.bool true)), (41, none, .call (.agg [.sl (List.map e3 r17.1) false, .sl (List.map e3 r17.2.1) false, .sl (List.map e3 r17.2.2) false])), (43, none, .call (.int .i64 r28)), (44, none, .b true)] [0]])
   (q360 (q361 (q362 (q363 (q364 (q365 (q366 (q368 (q369 (ai (F39_ok fuel  _ h17) (ai (F34_ok fuel r3 (r17.1, r17.2.1, r17.2.2) r23.1 false false _ h53) (ai h54 trivial)))))))))))) (by kernel_rfl)) (e := .ret) rfl (vs := [.p (.bool true)]) trivial (by kernel_rfl) (.p _ _ (.refl _))
                          ·have hr := Option.some.inj g54
                           subst hr
                           exact callP_of is8 rfl (path hm (ks := [0]) (σ' := z1) (cc := c367 ++ [.reg [] [] 0 [(1, none, .b true), (4, none, .b true), (8, none, .b true), (12, none, .b true), (16, none, .b true), (20, none, .b true), (24, none, .b true), (28, none, .b true), (32, none, .b true), (37, none, .call (.bool true)), (41, none, .call (.agg [.sl (List.map e3 r17.1) false, .sl (List.map e3 r17.2.1) false, .sl (List.map e3 r17.2.2) false])), (43, none, .call (.int .i64 r28)), (44, none, .b false)] [0]])
   (q360 (q361 (q362 (q363 (q364 (q365 (q366 (q368 (q369 (ai (F39_ok fuel  _ h17) (ai (F34_ok fuel r3 (r17.1, r17.2.1, r17.2.2) r23.1 false false _ h53) (ai h54 trivial)))))))))))) (by kernel_rfl)) (e := .ret) rfl (vs := [.p (.bool false)]) trivial (by kernel_rfl) (.p _ _ (.refl _))
                         ·subst h52
                          have hr := Option.some.inj g52
                          subst hr
                          exact callP_of is8 rfl (path hm (ks := [0]) (σ' := z1) (cc := c367 ++ [.reg [] [] 0 [(1, none, .b true), (4, none, .b true), (8, none, .b true), (12, none, .b true), (16, none, .b true), (20, none, .b true), (24, none, .b true), (28, none, .b true), (32, none, .b true), (37, none, .call (.bool false))] [0]])
   (q360 (q361 (q362 (q363 (q364 (q365 (q366 (q368 (q369 trivial))))))))) (by kernel_rfl)) (e := .ret) rfl (vs := [.p (.bool false)]) trivial (by kernel_rfl) (.p _ _ (.refl _))
                        ·have hr := Option.some.inj g50
                         subst hr
                         exact callP_of is8 rfl (path hm (ks := [0]) (σ' := z1) (cc := c367 ++ [.reg [] [] 0 [(1, none, .b true), (4, none, .b true), (8, none, .b true), (12, none, .b true), (16, none, .b true), (20, none, .b true), (24, none, .b true), (28, none, .b true), (32, none, .b false)] [0]])
   (q360 (q361 (q362 (q363 (q364 (q365 (q366 (q368 (ai h42 (ai h43 (ai h44 (ai h45 (ai h46 (ai h47 (ai h48 (ai h49 (ai h50 trivial))))))))))))))))) (by kernel_rfl)) (e := .ret) rfl (vs := [.p (.bool false)]) trivial (by kernel_rfl) (.p _ _ (.refl _))
                       ·have hr := Option.some.inj g49
                        subst hr
                        exact callP_of is8 rfl (path hm (ks := [0]) (σ' := z1) (cc := c367 ++ [.reg [] [] 0 [(1, none, .b true), (4, none, .b true), (8, none, .b true), (12, none, .b true), (16, none, .b true), (20, none, .b true), (24, none, .b true), (28, none, .b false)] [0]])
   (q360 (q361 (q362 (q363 (q364 (q365 (q366 (q368 (ai h42 (ai h43 (ai h44 (ai h45 (ai h46 (ai h47 (ai h48 (ai h49 trivial)))))))))))))))) (by kernel_rfl)) (e := .ret) rfl (vs := [.p (.bool false)]) trivial (by kernel_rfl) (.p _ _ (.refl _))
                      ·have hr := Option.some.inj g48
                       subst hr
                       exact callP_of is8 rfl (path hm (ks := [0]) (σ' := z1) (cc := c367 ++ [.reg [] [] 0 [(1, none, .b true), (4, none, .b true), (8, none, .b true), (12, none, .b true), (16, none, .b true), (20, none, .b true), (24, none, .b false)] [0]])
   (q360 (q361 (q362 (q363 (q364 (q365 (q366 (q368 (ai h42 (ai h43 (ai h44 (ai h45 (ai h46 (ai h47 (ai h48 trivial))))))))))))))) (by kernel_rfl)) (e := .ret) rfl (vs := [.p (.bool false)]) trivial (by kernel_rfl) (.p _ _ (.refl _))
                     ·have hr := Option.some.inj g47
                      subst hr
                      exact callP_of is8 rfl (path hm (ks := [0]) (σ' := z1) (cc := c367 ++ [.reg [] [] 0 [(1, none, .b true), (4, none, .b true), (8, none, .b true), (12, none, .b true), (16, none, .b true), (20, none, .b false)] [0]])
   (q360 (q361 (q362 (q363 (q364 (q365 (q366 (q368 (ai h42 (ai h43 (ai h44 (ai h45 (ai h46 (ai h47 trivial)))))))))))))) (by kernel_rfl)) (e := .ret) rfl (vs := [.p (.bool false)]) trivial (by kernel_rfl) (.p _ _ (.refl _))
                    ·have hr := Option.some.inj g46
                     subst hr
                     exact callP_of is8 rfl (path hm (ks := [0]) (σ' := z1) (cc := c367 ++ [.reg [] [] 0 [(1, none, .b true), (4, none, .b true), (8, none, .b true), (12, none, .b true), (16, none, .b false)] [0]])
   (q360 (q361 (q362 (q363 (q364 (q365 (q366 (q368 (ai h42 (ai h43 (ai h44 (ai h45 (ai h46 trivial))))))))))))) (by kernel_rfl)) (e := .ret) rfl (vs := [.p (.bool false)]) trivial (by kernel_rfl) (.p _ _ (.refl _))
                   ·have hr := Option.some.inj g45
                    subst hr
                    exact callP_of is8 rfl (path hm (ks := [0]) (σ' := z1) (cc := c367 ++ [.reg [] [] 0 [(1, none, .b true), (4, none, .b true), (8, none, .b true), (12, none, .b false)] [0]])
   (q360 (q361 (q362 (q363 (q364 (q365 (q366 (q368 (ai h42 (ai h43 (ai h44 (ai h45 trivial)))))))))))) (by kernel_rfl)) (e := .ret) rfl (vs := [.p (.bool false)]) trivial (by kernel_rfl) (.p _ _ (.refl _))
                  ·have hr := Option.some.inj g44
                   subst hr
                   exact callP_of is8 rfl (path hm (ks := [0]) (σ' := z1) (cc := c367 ++ [.reg [] [] 0 [(1, none, .b true), (4, none, .b true), (8, none, .b false)] [0]])
   (q360 (q361 (q362 (q363 (q364 (q365 (q366 (q368 (ai h42 (ai h43 (ai h44 trivial))))))))))) (by kernel_rfl)) (e := .ret) rfl (vs := [.p (.bool false)]) trivial (by kernel_rfl) (.p _ _ (.refl _))
                 ·have hr := Option.some.inj g43
                  subst hr
                  exact callP_of is8 rfl (path hm (ks := [0]) (σ' := z1) (cc := c367 ++ [.reg [] [] 0 [(1, none, .b true), (4, none, .b false)] [0]])
   (q360 (q361 (q362 (q363 (q364 (q365 (q366 (q368 (ai h42 (ai h43 trivial)))))))))) (by kernel_rfl)) (e := .ret) rfl (vs := [.p (.bool false)]) trivial (by kernel_rfl) (.p _ _ (.refl _))
                ·have hr := Option.some.inj g42
                 subst hr
                 exact callP_of is8 rfl (path hm (ks := [0]) (σ' := z1) (cc := c367 ++ [.reg [] [] 0 [(1, none, .b false)] [0]])
   (q360 (q361 (q362 (q363 (q364 (q365 (q366 (q368 (ai h42 trivial))))))))) (by kernel_rfl)) (e := .ret) rfl (vs := [.p (.bool false)]) trivial (by kernel_rfl) (.p _ _ (.refl _))
def L12_0  (v0 : (List (Int × Int))) (v1 : (List (Int × Int))) (v2 : Int) : Nat → Int → Int → Option Int
 | 0, _, _ => none
 | fuel + 1, v10, v11 =>
  oif ((decide (v11 < (v0.length : Int))))
  (obind (F46 fuel v1 (IntKind.wrap .i64 ((IntKind.wrap .i64 (2 * v11)) + v2))) fun r1 => obind (F47 fuel v0 (IntKind.wrap .i64 ((IntKind.wrap .i64 (2 * v11)) + v2))) fun r2 => L12_0 v0 v1 v2 fuel (maxL v10 [(IntKind.wrap .i64 (r1 + r2))]) (IntKind.wrap .i64 (v11 + 1)))
  (some (v10))
noncomputable def L12_0_post (v0 : (List (Int × Int))) (v1 : (List (Int × Int))) (v2 : Int) (fp0 : Bool) (fp1 : Bool) : Int → Ex × St
 | y => ((.exit 0), ⟨[(0, .p (.sl (List.map e70 v0) fp0)), (2, .p (.int .i64 v2)), (10, .p (.int .i64 y))], []⟩)
theorem L12_0_ok  (v0 : (List (Int × Int))) (v1 : (List (Int × Int))) (v2 : Int) (fp0 : Bool) (fp1 : Bool) : ∀ (fuel : Nat) (v10 : Int) (v11 : Int) (r : Int), L12_0 v0 v1 v2 fuel v10 v11 = some r →
  SemJ prog ⟨53, 0, false⟩ (codeAt [1, 1, 1, 1, 1, 0, 1, 0, 0] (bodyOf f12)) ⟨[(0, .p (.sl (List.map e70 v0) fp0)), (1, .p (.sl (List.map e60 v1) fp1)), (2, .p (.int .i64 v2)), (10, .p (.int .i64 v10)), (11, .p (.int .i64 v11))], []⟩ (L12_0_post v0 v1 v2 fp0 fp1 r).1 (L12_0_post v0 v1 v2 fp0 fp1 r).2
 | 0, _, _, _, h => nomatch h
 | fuel + 1, v10, v11, r, h => by
  let z2 : Int := (IntKind.wrap .i64 (v11 + 1))
  let z1 : Int := (IntKind.wrap .i64 ((IntKind.wrap .i64 (2 * v11)) + v2))
  unfold L12_0 at h
  refine oif_elim h (fun h1 g1 => ?_) (fun h1 g1 => ?_)
  ·refine obind_elim g1 fun r1 h2 g2 => ?_
   refine obind_elim g2 fun r2 h3 g3 => ?_
   let z3 : Int := (IntKind.wrap .i64 (r1 + r2))
   exact SemJ.again (σ1 := ⟨[(0, .p (.sl (List.map e70 v0) fp0)), (1, .p (.sl (List.map e60 v1) fp1)), (2, .p (.int .i64 v2)), (10, .p (.int .i64 (maxL v10 [z3]))), (11, .p (.int .i64 z2))], []⟩) (path hm (σ' := ⟨[(0, .p (.sl (List.map e70 v0) fp0)), (1, .p (.sl (List.map e60 v1) fp1)), (2, .p (.int .i64 v2)), (10, .p (.int .i64 (maxL v10 [z3]))), (11, .p (.int .i64 z2))], []⟩) (ks := [0, 1, 2, 10, 11]) (cc := [.reg [] [] 0 [(2, none, .n (v0.length : Int)), (3, none, .b true)] [0, 1, 2, 10, 11, 30], .reg [] [] 0 [(6, none, .call (.int .i64 r1)), (12, none, .call (.int .i64 r2))] [0, 1, 2, 10, 11], .reg [] [] 0 [] [0, 1, 2, 10, 11]])
    (ai (len_map e70 v0) (ai h1 (ai (F46_ok fuel v1 z1 fp1 _ h2) (ai (F47_ok fuel v0 z1 fp0 _ h3) trivial)))) (by kernel_rfl)) (L12_0_ok v0 v1 v2 fp0 fp1 fuel (maxL v10 [z3]) z2 _ g3)
  ·have hr := Option.some.inj g1
   subst hr
   exact SemC.cast (SemJ.out (e := (.exit 0)) (path hm (σ' := ⟨[(0, .p (.sl (List.map e70 v0) fp0)), (2, .p (.int .i64 v2)), (10, .p (.int .i64 v10))], []⟩) (ks := [0, 2, 10]) (cc := [.reg [] [] 0 [(2, none, .n (v0.length : Int)), (3, none, .b false)] [0, 1, 2, 10, 11, 30]])
    (ai (len_map e70 v0) (ai h1 trivial)) (by kernel_rfl)) (by simp)) (by kernel_rfl) (by kernel_rfl)
def L50_0  (v0 : (List (Int × Int))) (v1 : Int) : Nat → Int → Int → Option Int
 | 0, _, _ => none
 | fuel + 1, v5, v6 =>
  oif ((decide (v6 < (v0.length : Int))))
  (obind (F47 fuel v0 (IntKind.wrap .i64 ((IntKind.wrap .i64 (2 * v6)) + v1))) fun r1 => L50_0 v0 v1 fuel (IntKind.wrap .i64 (v5 + r1)) (IntKind.wrap .i64 (v6 + 1)))
  (some (v5))
noncomputable def L50_0_post (v0 : (List (Int × Int))) (v1 : Int) (fp0 : Bool) : Int → Ex × St
 | y => ((.exit 0), ⟨[(5, .p (.int .i64 y))], []⟩)
theorem L50_0_ok  (v0 : (List (Int × Int))) (v1 : Int) (fp0 : Bool) : ∀ (fuel : Nat) (v5 : Int) (v6 : Int) (r : Int), L50_0 v0 v1 fuel v5 v6 = some r →
  SemJ prog ⟨22, 0, false⟩ (codeAt [1, 1, 0, 1, 0, 0] (bodyOf f50)) ⟨[(0, .p (.sl (List.map e70 v0) fp0)), (1, .p (.int .i64 v1)), (5, .p (.int .i64 v5)), (6, .p (.int .i64 v6))], []⟩ (L50_0_post v0 v1 fp0 r).1 (L50_0_post v0 v1 fp0 r).2
 | 0, _, _, _, h => nomatch h
 | fuel + 1, v5, v6, r, h => by
  let z1 : Int := (IntKind.wrap .i64 (v6 + 1))
  unfold L50_0 at h
  refine oif_elim h (fun h1 g1 => ?_) (fun h1 g1 => ?_)
  ·refine obind_elim g1 fun r1 h2 g2 => ?_
   let z2 : Int := (IntKind.wrap .i64 (v5 + r1))
   exact SemJ.again (σ1 := ⟨[(0, .p (.sl (List.map e70 v0) fp0)), (1, .p (.int .i64 v1)), (5, .p (.int .i64 z2)), (6, .p (.int .i64 z1))], []⟩) (path hm (σ' := ⟨[(0, .p (.sl (List.map e70 v0) fp0)), (1, .p (.int .i64 v1)), (5, .p (.int .i64 z2)), (6, .p (.int .i64 z1))], []⟩) (ks := [0, 1, 5, 6]) (cc := [.reg [] [] 0 [(2, none, .n (v0.length : Int)), (3, none, .b true)] [0, 1, 5, 6, 10], .reg [] [] 0 [(6, none, .call (.int .i64 r1))] [0, 1, 5, 6], .reg [] [] 0 [] [0, 1, 5, 6]])
    (ai (len_map e70 v0) (ai h1 (ai (F47_ok fuel v0 (IntKind.wrap .i64 ((IntKind.wrap .i64 (2 * v6)) + v1)) fp0 _ h2) trivial))) (by kernel_rfl)) (L50_0_ok v0 v1 fp0 fuel z2 z1 _ g2)
  ·have hr := Option.some.inj g1
   subst hr
   exact SemC.cast (SemJ.out (e := (.exit 0)) (path hm (σ' := ⟨[(5, .p (.int .i64 v5))], []⟩) (ks := [5]) (cc := [.reg [] [] 0 [(2, none, .n (v0.length : Int)), (3, none, .b false)] [0, 1, 5, 6, 10]])
    (ai (len_map e70 v0) (ai h1 trivial)) (by kernel_rfl)) (by simp)) (by kernel_rfl) (by kernel_rfl)
def F50  (fuel : Nat) (p0 : (List (Int × Int))) (p1 : Int) : Option Int :=
 obind (L50_0 p0 p1 fuel 0 0) fun y1 => some y1
theorem F50_ok  (fuel : Nat) (p0 : (List (Int × Int))) (p1 : Int) (fp0 : Bool) (r : Int) (h : F50 fuel p0 p1 = some r) : CallP prog 50 [.sl (List.map e70 p0) fp0, .int .i64 p1] (.int .i64 r) := by
 unfold F50 at h
 refine obind_elim h fun y1 h1 g1 => ?_
 have hr := Option.some.inj g1
 subst hr
 exact callP_of is50 rfl (path hm (ks := [4]) (σ' := ⟨[(4, .p (.int .i64 y1))], []⟩) (cc := [.reg [] [] 0 [] [0, 1], .reg [] [] 0 [] [0, 1, 5], .reg [] [] 0 [] [0, 1, 5, 6], .leaf (.exit 0) ⟨[(5, .p (.int .i64 y1))], []⟩, .reg [] [] 0 [] [4]])
   (ai (SemJ.loop (L50_0_ok p0 p1 fp0 fuel 0 0 _ h1)) trivial) (by kernel_rfl)) (e := .ret) rfl (vs := [.p (.int .i64 y1)]) trivial (by kernel_rfl) (.p _ _ (.refl _))
def F12  (fuel : Nat) (p0 : (List (Int × Int))) (p1 : (List (Int × Int))) (p2 : Int) : Option (Int × Int) :=
 obind (F10 fuel p0 p1) fun r1 => oif ((r1.2 != 0))
 (some (0, r1.2))
 (oif ((decide (p2 < 0)))
  (some (0, 2))
  (oif ((decide (p2 > 1)))
   (some (0, 2))
   (obind (L12_0 p0 p1 p2 fuel 0 0) fun y2 => obind (F50 fuel p0 p2) fun r3 => some ((IntKind.wrap .i64 (y2 - r3)), 0))))
theorem F12_ok  (fuel : Nat) (p0 : (List (Int × Int))) (p1 : (List (Int × Int))) (p2 : Int) (fp0 : Bool) (fp1 : Bool) (r : (Int × Int)) (h : F12 fuel p0 p1 p2 = some r) : CallP prog 12 [.sl (List.map e70 p0) fp0, .sl (List.map e60 p1) fp1, .int .i64 p2] (.tup [.int .i64 r.1, .int .i64 r.2]) := by
 let z1 : St := ⟨[(6, .p (.int .i64 0)), (7, .p (.int .i64 2))], []⟩
 unfold F12 at h
 refine obind_elim h fun r1 h1 g1 => ?_
 let c370 : List CC := [.reg [] [] 0 [] [0, 1, 2], .reg [] [] 0 [(2, none, .call (.tup [.int .i64 r1.1, .int .i64 r1.2]))] [0, 1, 2, 9]]
 refine oif_elim g1 (fun h2 g2 => ?_) (fun h2 g2 => ?_)
 ·have hr := Option.some.inj g2
  subst hr
  exact callP_of is12 rfl (path hm (ks := [6, 7]) (σ' := ⟨[(6, .p (.int .i64 0)), (7, .p (.int .i64 r1.2))], []⟩) (cc := c370 ++ [.reg [] [] 0 [(1, none, .b true)] [0, 1, 2, 9, 19], .reg [] [] 0 [] [6, 7]])
   (ai (F10_ok fuel p0 p1 fp0 fp1 _ h1) (ai h2 trivial)) (by kernel_rfl)) (e := .ret) rfl (vs := [.p (.int .i64 0), .p (.int .i64 r1.2)]) trivial (by kernel_rfl) (.tup _ _ (.cons _ _ _ _ (.p _ _ (.refl _)) (.cons _ _ _ _ (.p _ _ (.refl _)) .nil)))
 ·let c371 : List CC := c370 ++ [.reg [] [] 0 [(1, none, .b false)] [0, 1, 2, 9, 19]]
  refine oif_elim g2 (fun h3 g3 => ?_) (fun h3 g3 => ?_)
  ·have hr := Option.some.inj g3
   subst hr
   exact callP_of is12 rfl (path hm (ks := [6, 7]) (σ' := z1) (cc := c371 ++ [.reg [] [] 0 [(1, none, .b true)] [0, 1, 2, 26], .reg [] [] 0 [] [6, 7]])
   (ai (F10_ok fuel p0 p1 fp0 fp1 _ h1) (ai h2 (ai h3 trivial))) (by kernel_rfl)) (e := .ret) rfl (vs := [.p (.int .i64 0), .p (.int .i64 2)]) trivial (by kernel_rfl) (.tup _ _ (.cons _ _ _ _ (.p _ _ (.refl _)) (.cons _ _ _ _ (.p _ _ (.refl _)) .nil)))
  ·refine oif_elim g3 (fun h4 g4 => ?_) (fun h4 g4 => ?_)
   ·have hr := Option.some.inj g4
    subst hr
    exact callP_of is12 rfl (path hm (ks := [6, 7]) (σ' := z1) (cc := c371 ++ [.reg [] [] 0 [(1, none, .b false), (4, none, .b true)] [0, 1, 2, 26], .reg [] [] 0 [] [6, 7]])
   (ai (F10_ok fuel p0 p1 fp0 fp1 _ h1) (ai h2 (ai h3 (ai h4 trivial)))) (by kernel_rfl)) (e := .ret) rfl (vs := [.p (.int .i64 0), .p (.int .i64 2)]) trivial (by kernel_rfl) (.tup _ _ (.cons _ _ _ _ (.p _ _ (.refl _)) (.cons _ _ _ _ (.p _ _ (.refl _)) .nil)))
   ·refine obind_elim g4 fun y2 h5 g5 => ?_
    refine obind_elim g5 fun r3 h6 g6 => ?_
    have hr := Option.some.inj g6
    subst hr
    exact callP_of is12 rfl (path hm (ks := [6, 7]) (σ' := ⟨[(6, .p (.int .i64 (IntKind.wrap .i64 (y2 - r3)))), (7, .p (.int .i64 0))], []⟩) (cc := c371 ++ [.reg [] [] 0 [(1, none, .b false), (4, none, .b false)] [0, 1, 2, 26], .reg [] [] 0 [] [0, 1, 2, 10], .reg [] [] 0 [] [0, 1, 2, 10, 11], .leaf (.exit 0) ⟨[(0, .p (.sl (List.map e70 p0) fp0)), (2, .p (.int .i64 p2)), (10, .p (.int .i64 y2))], []⟩, .reg [] [] 0 [(3, none, .call (.int .i64 r3))] [6, 7]])
   (ai (F10_ok fuel p0 p1 fp0 fp1 _ h1) (ai h2 (ai h3 (ai h4 (ai (SemJ.loop (L12_0_ok p0 p1 p2 fp0 fp1 fuel 0 0 _ h5)) (ai (F50_ok fuel p0 p2 fp0 _ h6) trivial)))))) (by kernel_rfl)) (e := .ret) rfl (vs := [.p (.int .i64 (IntKind.wrap .i64 (y2 - r3))), .p (.int .i64 0)]) trivial (by kernel_rfl) (.tup _ _ (.cons _ _ _ _ (.p _ _ (.refl _)) (.cons _ _ _ _ (.p _ _ (.refl _)) .nil)))
def L15_0  (v0 : (List (Int × Int))) (v1 : (List (Int × Int))) : Nat → Int → Option (Unit ⊕ Unit)
 | 0, _ => none
 | fuel + 1, v5 =>
  oif ((decide (v5 < (v0.length : Int))))
  (obind (sg v0 v5) fun x1 => obind (sg v1 v5) fun x2 => oif ((!((x1.1 == x2.1) && ((x1.2 == x2.2) && true))))
   (some (.inl ()))
   (L15_0 v0 v1 fuel (IntKind.wrap .i64 (v5 + 1))))
  (some (.inr (())))
noncomputable def L15_0_post (v0 : (List (Int × Int))) (v1 : (List (Int × Int))) (fp0 : Bool) (fp1 : Bool) : (Unit ⊕ Unit) → Ex × St
 | .inl y => (.ret, ⟨[(4, .p (.bool false))], []⟩)
 | .inr (y) => ((.exit 0), ⟨[], []⟩)
theorem L15_0_ok  (v0 : (List (Int × Int))) (v1 : (List (Int × Int))) (fp0 : Bool) (fp1 : Bool) : ∀ (fuel : Nat) (v5 : Int) (r : (Unit ⊕ Unit)), L15_0 v0 v1 fuel v5 = some r →
  SemJ prog ⟨26, 0, false⟩ (codeAt [1, 1, 0, 1, 0, 0] (bodyOf f15)) ⟨[(0, .p (.sl (List.map e70 v0) fp0)), (1, .p (.sl (List.map e70 v1) fp1)), (5, .p (.int .i64 v5))], []⟩ (L15_0_post v0 v1 fp0 fp1 r).1 (L15_0_post v0 v1 fp0 fp1 r).2
 | 0, _, _, h => nomatch h
 | fuel + 1, v5, r, h => by
  let z2 : Int := (IntKind.wrap .i64 (v5 + 1))
  let z1 : St := ⟨[(0, .p (.sl (List.map e70 v0) fp0)), (1, .p (.sl (List.map e70 v1) fp1)), (5, .p (.int .i64 z2))], []⟩
  unfold L15_0 at h
  refine oif_elim h (fun h1 g1 => ?_) (fun h1 g1 => ?_)
  ·refine obind_elim g1 fun x1 h2 g2 => ?_
   refine obind_elim g2 fun x2 h3 g3 => ?_
   refine oif_elim g3 (fun h4 g4 => ?_) (fun h4 g4 => ?_)
   ·have hr := Option.some.inj g4
    subst hr
    exact SemC.cast (SemJ.out (e := .ret) (path hm (σ' := ⟨[(4, .p (.bool false))], []⟩) (ks := [4]) (cc := [.reg [] [] 0 [(2, none, .n (v0.length : Int)), (3, none, .b true)] [0, 1, 5, 14], .reg [0, 0, 3, 7, 0, 0, 48, 112, 255] [] 0 [(2, none, .iv (.p (.agg [.int .i64 x1.1, .int .i64 x1.2]))), (6, none, .iv (.p (.agg [.int .i64 x2.1, .int .i64 x2.2]))), (8, none, .b true)] [0, 1, 5, 25], .reg [] [] 0 [] [4]])
    (ai (len_map e70 v0) (ai h1 (ai (sg_map (f := e70) h2) (ai (sg_map (f := e70) h3) (ai h4 trivial))))) (by kernel_rfl)) (by simp)) (by kernel_rfl) (by kernel_rfl)
   ·exact SemJ.again (σ1 := z1) (path hm (σ' := z1) (ks := [0, 1, 5]) (cc := [.reg [] [] 0 [(2, none, .n (v0.length : Int)), (3, none, .b true)] [0, 1, 5, 14], .reg [0, 0, 3, 7, 0, 0, 48, 112, 255] [] 0 [(2, none, .iv (.p (.agg [.int .i64 x1.1, .int .i64 x1.2]))), (6, none, .iv (.p (.agg [.int .i64 x2.1, .int .i64 x2.2]))), (8, none, .b false)] [0, 1, 5, 25], .reg [] [] 0 [] [0, 1, 5]])
    (ai (len_map e70 v0) (ai h1 (ai (sg_map (f := e70) h2) (ai (sg_map (f := e70) h3) (ai h4 trivial))))) (by kernel_rfl)) (L15_0_ok v0 v1 fp0 fp1 fuel z2 _ g4)
  ·have hr := Option.some.inj g1
   subst hr
   exact SemC.cast (SemJ.out (e := (.exit 0)) (path hm (σ' := ⟨[], []⟩) (ks := []) (cc := [.reg [] [] 0 [(2, none, .n (v0.length : Int)), (3, none, .b false)] [0, 1, 5, 14]])
    (ai (len_map e70 v0) (ai h1 trivial)) (by kernel_rfl)) (by simp)) (by kernel_rfl) (by kernel_rfl)
def F15  (fuel : Nat) (p0 : (List (Int × Int))) (p1 : (List (Int × Int))) : Option Bool :=
 oif (((p0.length : Int) != (p1.length : Int)))
 (some false)
 ((obind (L15_0 p0 p1 fuel 0) fun y1 => match y1 with
  | .inl y1 => some false
  | .inr (y1) => some true))
theorem F15_ok  (fuel : Nat) (p0 : (List (Int × Int))) (p1 : (List (Int × Int))) (fp0 : Bool) (fp1 : Bool) (r : Bool) (h : F15 fuel p0 p1 = some r) : CallP prog 15 [.sl (List.map e70 p0) fp0, .sl (List.map e70 p1) fp1] (.bool r) := by
 let z1 : St := ⟨[(4, .p (.bool false))], []⟩
 unfold F15 at h
 refine oif_elim h (fun h1 g1 => ?_) (fun h1 g1 => ?_)
 ·have hr := Option.some.inj g1
  subst hr
  exact callP_of is15 rfl (path hm (ks := [4]) (σ' := z1) (cc := [.reg [] [] 0 [] [0, 1], .reg [] [] 0 [(1, none, .n (p0.length : Int)), (3, none, .n (p1.length : Int)), (4, none, .b true)] [0, 1, 10], .reg [] [] 0 [] [4]])
   (ai (len_map e70 p0) (ai (len_map e70 p1) (ai h1 trivial))) (by kernel_rfl)) (e := .ret) rfl (vs := [.p (.bool false)]) trivial (by kernel_rfl) (.p _ _ (.refl _))
 ·let c372 : List CC := [.reg [] [] 0 [] [0, 1], .reg [] [] 0 [(1, none, .n (p0.length : Int)), (3, none, .n (p1.length : Int)), (4, none, .b false)] [0, 1, 10], .reg [] [] 0 [] [0, 1, 5]]
  refine obind_elim g1 fun y h2 g2 => ?_
  match y, h2, g2 with
  | .inl y1, h2, g2 =>
   have hr := Option.some.inj g2
   subst hr
   exact callP_of is15 rfl (path hm (ks := [4]) (σ' := z1) (cc := c372 ++ [.leaf .ret z1])
   (ai (len_map e70 p0) (ai (len_map e70 p1) (ai h1 (ai (SemJ.loop (L15_0_ok p0 p1 fp0 fp1 fuel 0 _ h2)) trivial)))) (by kernel_rfl)) (e := .ret) rfl (vs := [.p (.bool false)]) trivial (by kernel_rfl) (.p _ _ (.refl _))
  | .inr (y1), h2, g2 =>
   have hr := Option.some.inj g2
   subst hr
   exact callP_of is15 rfl (path hm (ks := [4]) (σ' := ⟨[(4, .p (.bool true))], []⟩) (cc := c372 ++ [.leaf (.exit 0) ⟨[], []⟩, .reg [] [] 0 [] [4]])
   (ai (len_map e70 p0) (ai (len_map e70 p1) (ai h1 (ai (SemJ.loop (L15_0_ok p0 p1 fp0 fp1 fuel 0 _ h2)) trivial)))) (by kernel_rfl)) (e := .ret) rfl (vs := [.p (.bool true)]) trivial (by kernel_rfl) (.p _ _ (.refl _))
def F3  (fuel : Nat) (p0 : (List (Int × Int))) (p1 : (List (Int × Int))) (p2 : Int) : Option Bool :=
 obind (F7 fuel p0) fun r1 => oif (r1)
 (obind (F8 fuel) fun r2 => oif (r2)
  (some true)
  (some false))
 (oif ((decide ((p1.length : Int) > 12)))
  (obind (F8 fuel) fun r2 => oif (r2)
   (some true)
   (some false))
  (oif (List.isEmpty p0)
   (oif (List.isEmpty p1)
    (obind (F9 fuel p0 p1) fun r2 => obind (F10 fuel [] []) fun r3 => obind (F11 fuel p0 p1 p2) fun r4 => obind (F12 fuel [] [] p2) fun r5 => obind (F13 fuel p0) fun r6 => obind (F14 fuel []) fun r7 => oif ((r6 == r7))
     (oif ((r2.1 == r3.1))
      (oif ((r2.2 == r3.2))
       (oif ((r4.1 == r5.1))
        (oif ((r4.2 == r5.2))
         (obind (F15 fuel p0 []) fun r8 => oif (r8)
          (obind (F16 fuel p1 []) fun r9 => oif (r9)
           (obind (F8 fuel) fun r10 => oif (r10)
            (some true)
            (some false))
           (some false))
          (some false))
         (some false))
        (some false))
       (some false))
      (some false))
     (some false))
    (oif (decide ((List.length (List.map e60 p1)) * 16 ≤ 140737488355328)) (obind (F9 fuel p0 p1) fun r2 => obind (F10 fuel [] p1) fun r3 => obind (F11 fuel p0 p1 p2) fun r4 => obind (F12 fuel [] p1 p2) fun r5 => obind (F13 fuel p0) fun r6 => obind (F14 fuel []) fun r7 => oif ((r6 == r7))
     (oif ((r2.1 == r3.1))
      (oif ((r2.2 == r3.2))
       (oif ((r4.1 == r5.1))
        (oif ((r4.2 == r5.2))
         (obind (F15 fuel p0 []) fun r8 => oif (r8)
          (obind (F16 fuel p1 p1) fun r9 => oif (r9)
           (obind (F8 fuel) fun r10 => oif (r10)
            (some true)
            (some false))
           (some false))
          (some false))
         (some false))
        (some false))
       (some false))
      (some false))
     (some false)) none))
   (oif (decide ((List.length (List.map e70 p0)) * 16 ≤ 140737488355328)) (oif (List.isEmpty p1)
    (obind (F9 fuel p0 p1) fun r2 => obind (F10 fuel p0 []) fun r3 => obind (F11 fuel p0 p1 p2) fun r4 => obind (F12 fuel p0 [] p2) fun r5 => obind (F13 fuel p0) fun r6 => obind (F14 fuel p0) fun r7 => oif ((r6 == r7))
     (oif ((r2.1 == r3.1))
      (oif ((r2.2 == r3.2))
       (oif ((r4.1 == r5.1))
        (oif ((r4.2 == r5.2))
         (obind (F15 fuel p0 p0) fun r8 => oif (r8)
          (obind (F16 fuel p1 []) fun r9 => oif (r9)
           (obind (F8 fuel) fun r10 => oif (r10)
            (some true)
            (some false))
           (some false))
          (some false))
         (some false))
        (some false))
       (some false))
      (some false))
     (some false))
    (oif (decide ((List.length (List.map e60 p1)) * 16 ≤ 140737488355328)) (obind (F9 fuel p0 p1) fun r2 => obind (F10 fuel p0 p1) fun r3 => obind (F11 fuel p0 p1 p2) fun r4 => obind (F12 fuel p0 p1 p2) fun r5 => obind (F13 fuel p0) fun r6 => obind (F14 fuel p0) fun r7 => oif ((r6 == r7))
     (oif ((r2.1 == r3.1))
      (oif ((r2.2 == r3.2))
       (oif ((r4.1 == r5.1))
        (oif ((r4.2 == r5.2))
         (obind (F15 fuel p0 p0) fun r8 => oif (r8)
          (obind (F16 fuel p1 p1) fun r9 => oif (r9)
           (obind (F8 fuel) fun r10 => oif (r10)
            (some true)
            (some false))
           (some false))
          (some false))
         (some false))
        (some false))
       (some false))
      (some false))
     (some false)) none)) none)))
end Go.Idl.N
