/-
  Part F of a proof: natives of the functions that are reached, and their contracts.
-/
import Derived.Test.YteplblnmhmdpnaaE
import Derived.Test.YteplblnmhmdpnaaProg
set_option maxRecDepth 100000
set_option linter.unusedVariables false
set_option linter.unusedSimpArgs false
namespace Go.Idl.N
open Go Go.Idl Go.Proofs.Try
theorem F38_ok (fuel : Nat) (p0 : Int)  (r : ((Int × (List (Int × Int))) × Int)) (h : F38 fuel p0 = some r) : CallP prog 38 [.int .i64 p0] (.tup [.agg [.int .i64 r.1.1, .sl (List.map e62 r.1.2) false], .int .i64 r.2]) := by
  unfold F38 at h
  refine obind_elim h fun r1 h1 g1 => ?_
  refine oif_elim g1 (fun h2 g2 => ?_) (fun h2 g2 => ?_)
  · subst h2
    refine obind_elim g2 fun y2 h3 g3 => ?_
    let c143 : List CC := [.reg [] [] 1 [(0, some 0, .a)] [0, 2], .reg [] [] 0 [(2, none, .call (.bool true))] [0, 2, 11], .reg [] [] 0 [] [0, 2, 4], .leaf (.exit 0) ⟨[(0, .p (.int .i64 p0)), (2, .ptr 0 0 2), (4, .p (.int .i64 y2))], [.cells [.p (.int .i64 0), .p (.nilsl)] 0]⟩, .reg [] [] 1 [(3, some 1, .a)] [2, 4, 5], .reg [] [] 0 [] [2, 4, 5, 6]]
    refine obind_elim g3 fun y h4 g4 => ?_
    match y, h4, g4 with
    | .inl y3, h4, g4 =>
      have hr := Option.some.inj g4
      subst hr
      exact callP_of is38 rfl (path hm (ks := [2, 3]) (σ' := ⟨[(2, .ptr 0 0 2), (3, .p (.int .i64 0))], [.cells [.p (.int .i64 p0), .msl 2 0 (List.length y3) (List.length (rowI e62 y3)) false] 0, .cells [.p (.int .i64 p0), .msl 2 0 (List.length y3) (List.length (rowI e62 y3)) false] 0, .cells (rowI e62 y3) 2]⟩) (cc := c143 ++ [.leaf (.exit 2) ⟨[(2, .ptr 0 0 2), (5, .ptr 1 0 2)], [.cells [.p (.int .i64 0), .p (.nilsl)] 0, .cells [.p (.int .i64 p0), .msl 2 0 (List.length y3) (List.length (rowI e62 y3)) false] 0, .cells (rowI e62 y3) 2]⟩, .reg [] [] 0 [] [2, 3]])
      (ai (F44_ok fuel 1 8 [p0] true _ h1) (ai (SemJ.loop (L38_0_ok p0 fuel 1 _ h3)) (ai (by decide : (2 : Int) ≠ 0) (ai (SemJ.loop (L38_1_ok y2 p0 fuel (IntKind.wrap .i64 (Int.tdiv y2 2)) _ h4)) trivial)))) (by kernel_rfl)) (e := .ret) rfl (vs := [.agg [.p (.int .i64 p0), .msl 2 0 (List.length y3) (List.length (rowI e62 y3)) false], .p (.int .i64 0)]) (ai (rfl : (2:Nat) = 2) (ai (by decide : (2:Nat) ≤ 2) trivial)) (by kernel_rfl) (.tup _ _ (.cons _ _ _ _ (.agg _ _ (.cons _ _ _ _ (.p _ _ (.refl _)) (.cons _ _ _ _ (snap_row (g := 2) (L := y3) el62 (by kernel_rfl) (rl (List.length (rowI e62 y3))) (rl (List.length y3))) .nil))) (.cons _ _ _ _ (.p _ _ (.refl _)) .nil)))
    | .inr (y3), h4, g4 =>
      have hr := Option.some.inj g4
      subst hr
      exact callP_of is38 rfl (path hm (ks := [2, 3]) (σ' := ⟨[(2, .ptr 0 0 2), (3, .p (.int .i64 0))], [.cells [.p (.int .i64 p0), .p (.nilsl)] 0, .cells [.p (.int .i64 p0), .p (.nilsl)] 0]⟩) (cc := c143 ++ [.leaf (.exit 2) ⟨[(2, .ptr 0 0 2), (5, .ptr 1 0 2)], [.cells [.p (.int .i64 0), .p (.nilsl)] 0, .cells [.p (.int .i64 p0), .p (.nilsl)] 0]⟩, .reg [] [] 0 [] [2, 3]])
      (ai (F44_ok fuel 1 8 [p0] true _ h1) (ai (SemJ.loop (L38_0_ok p0 fuel 1 _ h3)) (ai (by decide : (2 : Int) ≠ 0) (ai (SemJ.loop (L38_1_ok y2 p0 fuel (IntKind.wrap .i64 (Int.tdiv y2 2)) _ h4)) trivial)))) (by kernel_rfl)) (e := .ret) rfl (vs := [.agg [.p (.int .i64 p0), .p (.nilsl)], .p (.int .i64 0)]) (ai (rfl : (2:Nat) = 2) (ai (by decide : (2:Nat) ≤ 2) trivial)) (by kernel_rfl) (.tup _ _ (.cons _ _ _ _ (.agg _ _ (.cons _ _ _ _ (.p _ _ (.refl _)) (.cons _ _ _ _ (.p _ _ (.nil _)) .nil))) (.cons _ _ _ _ (.p _ _ (.refl _)) .nil)))
  · subst h2
    have hr := Option.some.inj g2
    subst hr
    exact callP_of is38 rfl (path hm (ks := [2, 3]) (σ' := ⟨[(2, .ptr 0 0 2), (3, .p (.int .i64 6))], [.cells [.p (.int .i64 0), .p (.nilsl)] 0]⟩) (cc := [.reg [] [] 1 [(0, some 0, .a)] [0, 2], .reg [] [] 0 [(2, none, .call (.bool false))] [0, 2, 11], .reg [] [] 0 [] [2, 3]])
      (ai (F44_ok fuel 1 8 [p0] true _ h1) trivial) (by kernel_rfl)) (e := .ret) rfl (vs := [.agg [.p (.int .i64 0), .p (.nilsl)], .p (.int .i64 6)]) (ai (rfl : (2:Nat) = 2) (ai (by decide : (2:Nat) ≤ 2) trivial)) (by kernel_rfl) (.tup _ _ (.cons _ _ _ _ (.agg _ _ (.cons _ _ _ _ (.p _ _ (.refl _)) (.cons _ _ _ _ (.p _ _ (.nil _)) .nil))) (.cons _ _ _ _ (.p _ _ (.refl _)) .nil)))
def L13_0 (v0 : (List Int)) (v1 : (List Int)) : Nat → Int → Option (Unit ⊕ Unit)
  | 0, _ => none
  | fuel + 1, v5 =>
    oif ((decide (v5 < (v0.length : Int))))
    (obind (sg v0 v5) fun x1 => obind (sg v1 v5) fun x2 => oif ((x1 != x2))
      (some (.inl ()))
      (L13_0 v0 v1 fuel (IntKind.wrap .i64 (v5 + 1))))
    (some (.inr (())))
noncomputable def L13_0_post (v0 : (List Int)) (v1 : (List Int)) (fp0 : Bool) (fp1 : Bool) : (Unit ⊕ Unit) → Ex × St
  | .inl y => (.ret, ⟨[(4, .p (.bool false))], []⟩)
  | .inr (y) => ((.exit 0), ⟨[], []⟩)
theorem L13_0_ok (v0 : (List Int)) (v1 : (List Int)) (fp0 : Bool) (fp1 : Bool) : ∀ (fuel : Nat) (v5 : Int) (r : (Unit ⊕ Unit)), L13_0 v0 v1 fuel v5 = some r →
    SemJ prog ⟨26, 0, false⟩ (codeAt [1, 1, 0, 1, 0, 0] (bodyOf f13)) ⟨[(0, .p (.sl (List.map e2 v0) fp0)), (1, .p (.sl (List.map e2 v1) fp1)), (5, .p (.int .i64 v5))], []⟩ (L13_0_post v0 v1 fp0 fp1 r).1 (L13_0_post v0 v1 fp0 fp1 r).2
  | 0, _, _, h => nomatch h
  | fuel + 1, v5, r, h => by
    unfold L13_0 at h
    refine oif_elim h (fun h1 g1 => ?_) (fun h1 g1 => ?_)
    · refine obind_elim g1 fun x1 h2 g2 => ?_
      refine obind_elim g2 fun x2 h3 g3 => ?_
      refine oif_elim g3 (fun h4 g4 => ?_) (fun h4 g4 => ?_)
      · have hr := Option.some.inj g4
        subst hr
        exact SemC.cast (SemJ.out (e := .ret) (path hm (σ' := ⟨[(4, .p (.bool false))], []⟩) (ks := [4]) (cc := [.reg [] [] 0 [(2, none, .n (v0.length : Int)), (3, none, .b true)] [0, 1, 5, 14], .reg [0, 0, 3, 7, 0, 0, 48, 112, 255] [] 0 [(2, none, .iv (.p (.int .i64 x1))), (6, none, .iv (.p (.int .i64 x2))), (8, none, .b true)] [0, 1, 5, 25], .reg [] [] 0 [] [4]])
        (ai (len_map e2 v0) (ai h1 (ai (sg_map (f := e2) h2) (ai (sg_map (f := e2) h3) (ai h4 trivial))))) (by kernel_rfl)) (by simp)) (by kernel_rfl) (by kernel_rfl)
      · exact SemJ.again (σ1 := ⟨[(0, .p (.sl (List.map e2 v0) fp0)), (1, .p (.sl (List.map e2 v1) fp1)), (5, .p (.int .i64 (IntKind.wrap .i64 (v5 + 1))))], []⟩) (path hm (σ' := ⟨[(0, .p (.sl (List.map e2 v0) fp0)), (1, .p (.sl (List.map e2 v1) fp1)), (5, .p (.int .i64 (IntKind.wrap .i64 (v5 + 1))))], []⟩) (ks := [0, 1, 5]) (cc := [.reg [] [] 0 [(2, none, .n (v0.length : Int)), (3, none, .b true)] [0, 1, 5, 14], .reg [0, 0, 3, 7, 0, 0, 48, 112, 255] [] 0 [(2, none, .iv (.p (.int .i64 x1))), (6, none, .iv (.p (.int .i64 x2))), (8, none, .b false)] [0, 1, 5, 25], .reg [] [] 0 [] [0, 1, 5]])
        (ai (len_map e2 v0) (ai h1 (ai (sg_map (f := e2) h2) (ai (sg_map (f := e2) h3) (ai h4 trivial))))) (by kernel_rfl)) (L13_0_ok v0 v1 fp0 fp1 fuel (IntKind.wrap .i64 (v5 + 1)) _ g4)
    · have hr := Option.some.inj g1
      subst hr
      exact SemC.cast (SemJ.out (e := (.exit 0)) (path hm (σ' := ⟨[], []⟩) (ks := []) (cc := [.reg [] [] 0 [(2, none, .n (v0.length : Int)), (3, none, .b false)] [0, 1, 5, 14]])
        (ai (len_map e2 v0) (ai h1 trivial)) (by kernel_rfl)) (by simp)) (by kernel_rfl) (by kernel_rfl)
def F13 (fuel : Nat) (p0 : (List Int)) (p1 : (List Int)) : Option Bool :=
  oif (((p0.length : Int) != (p1.length : Int)))
  (some false)
  ((obind (L13_0 p0 p1 fuel 0) fun y1 => match y1 with
    | .inl y1 => some false
    | .inr (y1) => some true))
theorem F13_ok (fuel : Nat) (p0 : (List Int)) (p1 : (List Int)) (fp0 : Bool) (fp1 : Bool) (r : Bool) (h : F13 fuel p0 p1 = some r) : CallP prog 13 [.sl (List.map e2 p0) fp0, .sl (List.map e2 p1) fp1] (.bool r) := by
  unfold F13 at h
  refine oif_elim h (fun h1 g1 => ?_) (fun h1 g1 => ?_)
  · have hr := Option.some.inj g1
    subst hr
    exact callP_of is13 rfl (path hm (ks := [4]) (σ' := ⟨[(4, .p (.bool false))], []⟩) (cc := [.reg [] [] 0 [] [0, 1], .reg [] [] 0 [(1, none, .n (p0.length : Int)), (3, none, .n (p1.length : Int)), (4, none, .b true)] [0, 1, 10], .reg [] [] 0 [] [4]])
      (ai (len_map e2 p0) (ai (len_map e2 p1) (ai h1 trivial))) (by kernel_rfl)) (e := .ret) rfl (vs := [.p (.bool false)]) trivial (by kernel_rfl) (.p _ _ (.refl _))
  · let c144 : List CC := [.reg [] [] 0 [] [0, 1], .reg [] [] 0 [(1, none, .n (p0.length : Int)), (3, none, .n (p1.length : Int)), (4, none, .b false)] [0, 1, 10], .reg [] [] 0 [] [0, 1, 5]]
    refine obind_elim g1 fun y h2 g2 => ?_
    match y, h2, g2 with
    | .inl y1, h2, g2 =>
      have hr := Option.some.inj g2
      subst hr
      exact callP_of is13 rfl (path hm (ks := [4]) (σ' := ⟨[(4, .p (.bool false))], []⟩) (cc := c144 ++ [.leaf .ret ⟨[(4, .p (.bool false))], []⟩])
      (ai (len_map e2 p0) (ai (len_map e2 p1) (ai h1 (ai (SemJ.loop (L13_0_ok p0 p1 fp0 fp1 fuel 0 _ h2)) trivial)))) (by kernel_rfl)) (e := .ret) rfl (vs := [.p (.bool false)]) trivial (by kernel_rfl) (.p _ _ (.refl _))
    | .inr (y1), h2, g2 =>
      have hr := Option.some.inj g2
      subst hr
      exact callP_of is13 rfl (path hm (ks := [4]) (σ' := ⟨[(4, .p (.bool true))], []⟩) (cc := c144 ++ [.leaf (.exit 0) ⟨[], []⟩, .reg [] [] 0 [] [4]])
      (ai (len_map e2 p0) (ai (len_map e2 p1) (ai h1 (ai (SemJ.loop (L13_0_ok p0 p1 fp0 fp1 fuel 0 _ h2)) trivial)))) (by kernel_rfl)) (e := .ret) rfl (vs := [.p (.bool true)]) trivial (by kernel_rfl) (.p _ _ (.refl _))
def L23_0 (v0 : (List Int)) (v1 : (List Int)) : Nat → Int → Option (Unit ⊕ Unit)
  | 0, _ => none
  | fuel + 1, v5 =>
    oif ((decide (v5 < (v0.length : Int))))
    (obind (sg v0 v5) fun x1 => obind (sg v1 v5) fun x2 => oif ((x1 != x2))
      (some (.inl ()))
      (L23_0 v0 v1 fuel (IntKind.wrap .i64 (v5 + 1))))
    (some (.inr (())))
noncomputable def L23_0_post (v0 : (List Int)) (v1 : (List Int)) (fp0 : Bool) (fp1 : Bool) : (Unit ⊕ Unit) → Ex × St
  | .inl y => (.ret, ⟨[(4, .p (.bool false))], []⟩)
  | .inr (y) => ((.exit 0), ⟨[], []⟩)
theorem L23_0_ok (v0 : (List Int)) (v1 : (List Int)) (fp0 : Bool) (fp1 : Bool) : ∀ (fuel : Nat) (v5 : Int) (r : (Unit ⊕ Unit)), L23_0 v0 v1 fuel v5 = some r →
    SemJ prog ⟨26, 0, false⟩ (codeAt [1, 1, 0, 1, 0, 0] (bodyOf f23)) ⟨[(0, .p (.sl (List.map e3 v0) fp0)), (1, .p (.sl (List.map e3 v1) fp1)), (5, .p (.int .i64 v5))], []⟩ (L23_0_post v0 v1 fp0 fp1 r).1 (L23_0_post v0 v1 fp0 fp1 r).2
  | 0, _, _, h => nomatch h
  | fuel + 1, v5, r, h => by
    unfold L23_0 at h
    refine oif_elim h (fun h1 g1 => ?_) (fun h1 g1 => ?_)
    · refine obind_elim g1 fun x1 h2 g2 => ?_
      refine obind_elim g2 fun x2 h3 g3 => ?_
      refine oif_elim g3 (fun h4 g4 => ?_) (fun h4 g4 => ?_)
      · have hr := Option.some.inj g4
        subst hr
        exact SemC.cast (SemJ.out (e := .ret) (path hm (σ' := ⟨[(4, .p (.bool false))], []⟩) (ks := [4]) (cc := [.reg [] [] 0 [(2, none, .n (v0.length : Int)), (3, none, .b true)] [0, 1, 5, 14], .reg [0, 0, 3, 7, 0, 0, 48, 112, 255] [] 0 [(2, none, .iv (.p (.int .i64 x1))), (6, none, .iv (.p (.int .i64 x2))), (8, none, .b true)] [0, 1, 5, 25], .reg [] [] 0 [] [4]])
        (ai (len_map e3 v0) (ai h1 (ai (sg_map (f := e3) h2) (ai (sg_map (f := e3) h3) (ai h4 trivial))))) (by kernel_rfl)) (by simp)) (by kernel_rfl) (by kernel_rfl)
      · exact SemJ.again (σ1 := ⟨[(0, .p (.sl (List.map e3 v0) fp0)), (1, .p (.sl (List.map e3 v1) fp1)), (5, .p (.int .i64 (IntKind.wrap .i64 (v5 + 1))))], []⟩) (path hm (σ' := ⟨[(0, .p (.sl (List.map e3 v0) fp0)), (1, .p (.sl (List.map e3 v1) fp1)), (5, .p (.int .i64 (IntKind.wrap .i64 (v5 + 1))))], []⟩) (ks := [0, 1, 5]) (cc := [.reg [] [] 0 [(2, none, .n (v0.length : Int)), (3, none, .b true)] [0, 1, 5, 14], .reg [0, 0, 3, 7, 0, 0, 48, 112, 255] [] 0 [(2, none, .iv (.p (.int .i64 x1))), (6, none, .iv (.p (.int .i64 x2))), (8, none, .b false)] [0, 1, 5, 25], .reg [] [] 0 [] [0, 1, 5]])
        (ai (len_map e3 v0) (ai h1 (ai (sg_map (f := e3) h2) (ai (sg_map (f := e3) h3) (ai h4 trivial))))) (by kernel_rfl)) (L23_0_ok v0 v1 fp0 fp1 fuel (IntKind.wrap .i64 (v5 + 1)) _ g4)
    · have hr := Option.some.inj g1
      subst hr
      exact SemC.cast (SemJ.out (e := (.exit 0)) (path hm (σ' := ⟨[], []⟩) (ks := []) (cc := [.reg [] [] 0 [(2, none, .n (v0.length : Int)), (3, none, .b false)] [0, 1, 5, 14]])
        (ai (len_map e3 v0) (ai h1 trivial)) (by kernel_rfl)) (by simp)) (by kernel_rfl) (by kernel_rfl)
def F23 (fuel : Nat) (p0 : (List Int)) (p1 : (List Int)) : Option Bool :=
  oif (((p0.length : Int) != (p1.length : Int)))
  (some false)
  ((obind (L23_0 p0 p1 fuel 0) fun y1 => match y1 with
    | .inl y1 => some false
    | .inr (y1) => some true))
theorem F23_ok (fuel : Nat) (p0 : (List Int)) (p1 : (List Int)) (fp0 : Bool) (fp1 : Bool) (r : Bool) (h : F23 fuel p0 p1 = some r) : CallP prog 23 [.sl (List.map e3 p0) fp0, .sl (List.map e3 p1) fp1] (.bool r) := by
  unfold F23 at h
  refine oif_elim h (fun h1 g1 => ?_) (fun h1 g1 => ?_)
  · have hr := Option.some.inj g1
    subst hr
    exact callP_of is23 rfl (path hm (ks := [4]) (σ' := ⟨[(4, .p (.bool false))], []⟩) (cc := [.reg [] [] 0 [] [0, 1], .reg [] [] 0 [(1, none, .n (p0.length : Int)), (3, none, .n (p1.length : Int)), (4, none, .b true)] [0, 1, 10], .reg [] [] 0 [] [4]])
      (ai (len_map e3 p0) (ai (len_map e3 p1) (ai h1 trivial))) (by kernel_rfl)) (e := .ret) rfl (vs := [.p (.bool false)]) trivial (by kernel_rfl) (.p _ _ (.refl _))
  · let c145 : List CC := [.reg [] [] 0 [] [0, 1], .reg [] [] 0 [(1, none, .n (p0.length : Int)), (3, none, .n (p1.length : Int)), (4, none, .b false)] [0, 1, 10], .reg [] [] 0 [] [0, 1, 5]]
    refine obind_elim g1 fun y h2 g2 => ?_
    match y, h2, g2 with
    | .inl y1, h2, g2 =>
      have hr := Option.some.inj g2
      subst hr
      exact callP_of is23 rfl (path hm (ks := [4]) (σ' := ⟨[(4, .p (.bool false))], []⟩) (cc := c145 ++ [.leaf .ret ⟨[(4, .p (.bool false))], []⟩])
      (ai (len_map e3 p0) (ai (len_map e3 p1) (ai h1 (ai (SemJ.loop (L23_0_ok p0 p1 fp0 fp1 fuel 0 _ h2)) trivial)))) (by kernel_rfl)) (e := .ret) rfl (vs := [.p (.bool false)]) trivial (by kernel_rfl) (.p _ _ (.refl _))
    | .inr (y1), h2, g2 =>
      have hr := Option.some.inj g2
      subst hr
      exact callP_of is23 rfl (path hm (ks := [4]) (σ' := ⟨[(4, .p (.bool true))], []⟩) (cc := c145 ++ [.leaf (.exit 0) ⟨[], []⟩, .reg [] [] 0 [] [4]])
      (ai (len_map e3 p0) (ai (len_map e3 p1) (ai h1 (ai (SemJ.loop (L23_0_ok p0 p1 fp0 fp1 fuel 0 _ h2)) trivial)))) (by kernel_rfl)) (e := .ret) rfl (vs := [.p (.bool true)]) trivial (by kernel_rfl) (.p _ _ (.refl _))
def L14_0 (v2 : Int) (v2_1 : (List (Int × Int))) (v3 : Int) (v3_1 : (List (Int × Int))) : Nat → Int → Option (Unit ⊕ Unit)
  | 0, _ => none
  | fuel + 1, v5 =>
    oif ((decide (v5 < (v2_1.length : Int))))
    (obind (sg v2_1 v5) fun x1 => obind (sg v3_1 v5) fun x2 => oif ((!((x1.1 == x2.1) && ((x1.2 == x2.2) && true))))
      (some (.inl ()))
      (L14_0 v2 v2_1 v3 v3_1 fuel (IntKind.wrap .i64 (v5 + 1))))
    (some (.inr (())))
noncomputable def L14_0_post (v2 : Int) (v2_1 : (List (Int × Int))) (v3 : Int) (v3_1 : (List (Int × Int)))  : (Unit ⊕ Unit) → Ex × St
  | .inl y => (.ret, ⟨[(4, .p (.bool false))], []⟩)
  | .inr (y) => ((.exit 0), ⟨[], []⟩)
theorem L14_0_ok (v2 : Int) (v2_1 : (List (Int × Int))) (v3 : Int) (v3_1 : (List (Int × Int)))  : ∀ (fuel : Nat) (v5 : Int) (r : (Unit ⊕ Unit)), L14_0 v2 v2_1 v3 v3_1 fuel v5 = some r →
    SemJ prog ⟨38, 0, false⟩ (codeAt [1, 1, 0, 1, 0, 0] (bodyOf f14)) ⟨[(2, .p (.ref [.int .i64 v2, .sl (List.map e62 v2_1) false])), (3, .p (.ref [.int .i64 v3, .sl (List.map e62 v3_1) false])), (5, .p (.int .i64 v5))], []⟩ (L14_0_post v2 v2_1 v3 v3_1 r).1 (L14_0_post v2 v2_1 v3 v3_1 r).2
  | 0, _, _, h => nomatch h
  | fuel + 1, v5, r, h => by
    unfold L14_0 at h
    refine oif_elim h (fun h1 g1 => ?_) (fun h1 g1 => ?_)
    · refine obind_elim g1 fun x1 h2 g2 => ?_
      refine obind_elim g2 fun x2 h3 g3 => ?_
      let c146 : List CC := [.reg [] [] 0 [(3, none, .n (v2_1.length : Int)), (4, none, .b true)] [2, 3, 5, 24]]
      refine oif_elim g3 (fun h4 g4 => ?_) (fun h4 g4 => ?_)
      · have hr := Option.some.inj g4
        subst hr
        exact SemC.cast (SemJ.out (e := .ret) (path hm (σ' := ⟨[(4, .p (.bool false))], []⟩) (ks := [4]) (cc := c146 ++ [.reg [0, 1, 0, 7, 15, 0, 32, 0, 224, 480, 1023] [] 0 [(3, none, .iv (.p (.agg [.int .i64 x1.1, .int .i64 x1.2]))), (8, none, .iv (.p (.agg [.int .i64 x2.1, .int .i64 x2.2]))), (10, none, .b true)] [2, 3, 5, 37], .reg [] [] 0 [] [4]])
        (ai (len_map e62 v2_1) (ai h1 (ai (sg_map (f := e62) h2) (ai (sg_map (f := e62) h3) (ai h4 trivial))))) (by kernel_rfl)) (by simp)) (by kernel_rfl) (by kernel_rfl)
      · exact SemJ.again (σ1 := ⟨[(2, .p (.ref [.int .i64 v2, .sl (List.map e62 v2_1) false])), (3, .p (.ref [.int .i64 v3, .sl (List.map e62 v3_1) false])), (5, .p (.int .i64 (IntKind.wrap .i64 (v5 + 1))))], []⟩) (path hm (σ' := ⟨[(2, .p (.ref [.int .i64 v2, .sl (List.map e62 v2_1) false])), (3, .p (.ref [.int .i64 v3, .sl (List.map e62 v3_1) false])), (5, .p (.int .i64 (IntKind.wrap .i64 (v5 + 1))))], []⟩) (ks := [2, 3, 5]) (cc := c146 ++ [.reg [0, 1, 0, 7, 15, 0, 32, 0, 224, 480, 1023] [] 0 [(3, none, .iv (.p (.agg [.int .i64 x1.1, .int .i64 x1.2]))), (8, none, .iv (.p (.agg [.int .i64 x2.1, .int .i64 x2.2]))), (10, none, .b false)] [2, 3, 5, 37], .reg [] [] 0 [] [2, 3, 5]])
        (ai (len_map e62 v2_1) (ai h1 (ai (sg_map (f := e62) h2) (ai (sg_map (f := e62) h3) (ai h4 trivial))))) (by kernel_rfl)) (L14_0_ok v2 v2_1 v3 v3_1 fuel (IntKind.wrap .i64 (v5 + 1)) _ g4)
    · have hr := Option.some.inj g1
      subst hr
      exact SemC.cast (SemJ.out (e := (.exit 0)) (path hm (σ' := ⟨[], []⟩) (ks := []) (cc := [.reg [] [] 0 [(3, none, .n (v2_1.length : Int)), (4, none, .b false)] [2, 3, 5, 24]])
        (ai (len_map e62 v2_1) (ai h1 trivial)) (by kernel_rfl)) (by simp)) (by kernel_rfl) (by kernel_rfl)
def F14 (fuel : Nat) (p0 : (Int × (List (Int × Int)))) (p1 : (Int × (List (Int × Int)))) : Option Bool :=
  oif ((p0.1 != p1.1))
  (some false)
  (oif (((p0.2.length : Int) != (p1.2.length : Int)))
    (some false)
    ((obind (L14_0 p0.1 p0.2 p1.1 p1.2 fuel 0) fun y1 => match y1 with
      | .inl y1 => some false
      | .inr (y1) => some true)))
theorem F14_ok (fuel : Nat) (p0 : (Int × (List (Int × Int)))) (p1 : (Int × (List (Int × Int))))  (r : Bool) (h : F14 fuel p0 p1 = some r) : CallP prog 14 [.agg [.int .i64 p0.1, .sl (List.map e62 p0.2) false], .agg [.int .i64 p1.1, .sl (List.map e62 p1.2) false]] (.bool r) := by
  unfold F14 at h
  let c147 : List CC := [.reg [] [] 0 [(0, none, .imm), (1, none, .imm)] [2, 3]]
  refine oif_elim h (fun h1 g1 => ?_) (fun h1 g1 => ?_)
  · have hr := Option.some.inj g1
    subst hr
    exact callP_of is14 rfl (path hm (ks := [4]) (σ' := ⟨[(4, .p (.bool false))], []⟩) (cc := c147 ++ [.reg [] [] 0 [(4, none, .b true)] [2, 3, 19], .reg [] [] 0 [] [4]])
      (ai h1 trivial) (by kernel_rfl)) (e := .ret) rfl (vs := [.p (.bool false)]) trivial (by kernel_rfl) (.p _ _ (.refl _))
  · refine oif_elim g1 (fun h2 g2 => ?_) (fun h2 g2 => ?_)
    · have hr := Option.some.inj g2
      subst hr
      exact callP_of is14 rfl (path hm (ks := [4]) (σ' := ⟨[(4, .p (.bool false))], []⟩) (cc := c147 ++ [.reg [] [] 0 [(4, none, .b false), (8, none, .n (p0.2.length : Int)), (11, none, .n (p1.2.length : Int)), (12, none, .b true)] [2, 3, 19], .reg [] [] 0 [] [4]])
      (ai h1 (ai (len_map e62 p0.2) (ai (len_map e62 p1.2) (ai h2 trivial)))) (by kernel_rfl)) (e := .ret) rfl (vs := [.p (.bool false)]) trivial (by kernel_rfl) (.p _ _ (.refl _))
    · let c148 : List CC := c147 ++ [.reg [] [] 0 [(4, none, .b false), (8, none, .n (p0.2.length : Int)), (11, none, .n (p1.2.length : Int)), (12, none, .b false)] [2, 3, 19], .reg [] [] 0 [] [2, 3, 5]]
      refine obind_elim g2 fun y h3 g3 => ?_
      match y, h3, g3 with
      | .inl y1, h3, g3 =>
        have hr := Option.some.inj g3
        subst hr
        exact callP_of is14 rfl (path hm (ks := [4]) (σ' := ⟨[(4, .p (.bool false))], []⟩) (cc := c148 ++ [.leaf .ret ⟨[(4, .p (.bool false))], []⟩])
      (ai h1 (ai (len_map e62 p0.2) (ai (len_map e62 p1.2) (ai h2 (ai (SemJ.loop (L14_0_ok p0.1 p0.2 p1.1 p1.2 fuel 0 _ h3)) trivial))))) (by kernel_rfl)) (e := .ret) rfl (vs := [.p (.bool false)]) trivial (by kernel_rfl) (.p _ _ (.refl _))
      | .inr (y1), h3, g3 =>
        have hr := Option.some.inj g3
        subst hr
        exact callP_of is14 rfl (path hm (ks := [4]) (σ' := ⟨[(4, .p (.bool true))], []⟩) (cc := c148 ++ [.leaf (.exit 0) ⟨[], []⟩, .reg [] [] 0 [] [4]])
      (ai h1 (ai (len_map e62 p0.2) (ai (len_map e62 p1.2) (ai h2 (ai (SemJ.loop (L14_0_ok p0.1 p0.2 p1.1 p1.2 fuel 0 _ h3)) trivial))))) (by kernel_rfl)) (e := .ret) rfl (vs := [.p (.bool true)]) trivial (by kernel_rfl) (.p _ _ (.refl _))
def F7 (fuel : Nat)  : Option Bool :=
  obind (F34 fuel 4 [0, 1, 2, 3, 0, 2, 1, 3, 1, 2]) fun r1 => obind (F34 fuel 4 [0, 1, 2, 3, 0, 2, 1, 3]) fun r2 => obind (F34 fuel 3 [0, 1, 0, 1, 1, 2]) fun r3 => obind (F35 fuel [3, 1, 2, 0]) fun r4 => obind (F9 fuel (r1.1, r1.2) r4) fun r5 => obind (F35 fuel [5, 5]) fun r6 => obind (F9 fuel (r3.1, r3.2) r6) fun r7 => obind (F19 fuel (r1.1, r1.2)) fun r8 => obind (F19 fuel (r2.1, r2.2)) fun r9 => obind (F15 fuel (r2.1, r2.2)) fun r10 => obind (F15 fuel (r1.1, r1.2)) fun r11 => obind (F36 fuel [0, 1, 0, 1]) fun r12 => obind (F21 fuel (r2.1, r2.2) r12) fun r13 => obind (F36 fuel [0, 0, 1, 1]) fun r14 => obind (F21 fuel (r2.1, r2.2) r14) fun r15 => obind (F17 fuel (r2.1, r2.2)) fun r16 => obind (F24 fuel (r3.1, r3.2)) fun r17 => obind (F26 fuel (r3.1, r3.2)) fun r18 => obind (F28 fuel (r1.1, r1.2)) fun r19 => obind (F30 fuel (r3.1, r3.2) 2) fun r20 => obind (F32 fuel (r3.1, r3.2)) fun r21 => obind (F37 fuel 3) fun r22 => obind (F38 fuel 4) fun r23 => obind (F38 fuel 9) fun r24 => oif ((r5.2 != 0))
  (some false)
  (oif ((r7.2 != 15))
    (some false)
    (oif ((r8 != 0))
      (some false)
      (oif ((r9 != 23))
        (some false)
        (oif ((r10.2 != 0))
          (some false)
          (oif ((r11.2 != 5))
            (some false)
            (oif ((r13 != 0))
              (some false)
              (oif ((r15 != 5))
                (some false)
                (oif ((r16.2 != 0))
                  (some false)
                  (oif ((r17.2 != 0))
                    (some false)
                    (oif ((r18.2 != 0))
                      (some false)
                      (oif ((r19.2 != 0))
                        (some false)
                        (oif ((r20.2 != 0))
                          (some false)
                          (oif ((r21.2 != 0))
                            (some false)
                            (oif ((r22.2 != 0))
                              (some false)
                              (oif ((r23.2 != 0))
                                (some false)
                                (oif ((r24.2 != 6))
                                  (some false)
                                  (obind (F35 fuel [0, 1, 2, 3]) fun r25 => obind (F13 fuel r5.1 r25) fun r26 => oif (r26)
                                    (obind (F23 fuel r10.1 r12) fun r27 => oif (r27)
                                      (oif ((r16.1 == 6))
                                        (obind (F36 fuel [1]) fun r28 => obind (F23 fuel r17.1 r28) fun r29 => oif (r29)
                                          (obind (F34 fuel 3 [0, 1, 1, 2]) fun r30 => obind (F14 fuel (r18.1.1, r18.1.2) (r30.1, r30.2)) fun r31 => oif (r31)
                                            (obind (F36 fuel [1, 1, 2, 2, 3]) fun r32 => obind (F23 fuel r19.1 r32) fun r33 => oif (r33)
                                              (obind (F36 fuel [1, 2]) fun r34 => obind (F23 fuel r20.1 r34) fun r35 => oif (r35)
                                                (obind (F34 fuel 3 [1, 2, 1, 2, 0, 1]) fun r36 => obind (F14 fuel (r21.1.1, r21.1.2) (r36.1, r36.2)) fun r37 => oif (r37)
                                                  (obind (F34 fuel 3 [0, 1, 1, 2, 0, 1]) fun r38 => obind (F14 fuel (r22.1.1, r22.1.2) (r38.1, r38.2)) fun r39 => oif (r39)
                                                    (obind (F34 fuel 4 [0, 2, 1, 3, 0, 1, 2, 3, 1, 2]) fun r40 => obind (F14 fuel (r23.1.1, r23.1.2) (r40.1, r40.2)) fun r41 => oif (r41)
                                                      (some true)
                                                      (some false))
                                                    (some false))
                                                  (some false))
                                                (some false))
                                              (some false))
                                            (some false))
                                          (some false))
                                        (some false))
                                      (some false))
                                    (some false))))))))))))))))))
theorem F7_ok (fuel : Nat)   (r : Bool) (h : F7 fuel  = some r) : CallP prog 7 [] (.bool r) := by
  unfold F7 at h
  refine obind_elim h fun r1 h1 g1 => ?_
  refine obind_elim g1 fun r2 h2 g2 => ?_
  refine obind_elim g2 fun r3 h3 g3 => ?_
  refine obind_elim g3 fun r4 h4 g4 => ?_
  refine obind_elim g4 fun r5 h5 g5 => ?_
  refine obind_elim g5 fun r6 h6 g6 => ?_
  refine obind_elim g6 fun r7 h7 g7 => ?_
  refine obind_elim g7 fun r8 h8 g8 => ?_
  refine obind_elim g8 fun r9 h9 g9 => ?_
  refine obind_elim g9 fun r10 h10 g10 => ?_
  refine obind_elim g10 fun r11 h11 g11 => ?_
  refine obind_elim g11 fun r12 h12 g12 => ?_
  refine obind_elim g12 fun r13 h13 g13 => ?_
  refine obind_elim g13 fun r14 h14 g14 => ?_
  refine obind_elim g14 fun r15 h15 g15 => ?_
  refine obind_elim g15 fun r16 h16 g16 => ?_
  refine obind_elim g16 fun r17 h17 g17 => ?_
  refine obind_elim g17 fun r18 h18 g18 => ?_
  refine obind_elim g18 fun r19 h19 g19 => ?_
  refine obind_elim g19 fun r20 h20 g20 => ?_
  refine obind_elim g20 fun r21 h21 g21 => ?_
  refine obind_elim g21 fun r22 h22 g22 => ?_
  refine obind_elim g22 fun r23 h23 g23 => ?_
  refine obind_elim g23 fun r24 h24 g24 => ?_
  let c149 : List CC := [.reg [] [] 0 [] [], .reg [] [] 3 [(1, none, .call (.agg [.int .i64 r1.1, .sl (List.map e62 r1.2) false])), (3, none, .call (.agg [.int .i64 r2.1, .sl (List.map e62 r2.2) false])), (5, none, .call (.agg [.int .i64 r3.1, .sl (List.map e62 r3.2) false])), (6, some 0, .a), (7, some 1, .a), (8, some 2, .a)] [1, 2, 3], .reg [0, 0, 2, 7, 15, 31, 31, 63, 255] [] 0 [(2, none, .call (.sl (List.map e2 r4) false)), (3, none, .call (.tup [.sl (List.map e2 r5.1) false, .int .i64 r5.2]))] [1, 2, 3, 4, 5], .reg [0, 0, 2, 7, 15, 31, 31, 63, 255] [] 0 [(2, none, .call (.sl (List.map e2 r6) false)), (3, none, .call (.tup [.sl (List.map e2 r7.1) false, .int .i64 r7.2]))] [1, 2, 3, 4, 5, 7], .reg [0, 1, 0, 7, 15, 31] [] 0 [(1, none, .call (.int .i64 r8)), (3, none, .call (.int .i64 r9))] [1, 2, 3, 4, 5, 7, 8, 9], .reg [] [] 0 [(1, none, .call (.tup [.sl (List.map e3 r10.1) false, .int .i64 r10.2]))] [1, 2, 3, 4, 5, 7, 8, 9, 10, 11], .reg [] [] 0 [(1, none, .call (.tup [.sl (List.map e3 r11.1) false, .int .i64 r11.2]))] [1, 2, 3, 4, 5, 7, 8, 9, 10, 11, 13], .reg [0, 0, 2, 7, 0, 0, 47, 127, 255, 511] [] 0 [(2, none, .call (.sl (List.map e3 r12) false)), (3, none, .call (.int .i64 r13)), (6, none, .call (.sl (List.map e3 r14) false)), (7, none, .call (.int .i64 r15))] [1, 2, 3, 4, 5, 7, 8, 9, 10, 11, 13, 14, 15], .reg [] [] 0 [(1, none, .call (.tup [.int .i64 r16.1, .int .i64 r16.2]))] [1, 3, 4, 5, 7, 8, 9, 10, 11, 13, 14, 15, 16, 17], .reg [] [] 0 [(1, none, .call (.tup [.sl (List.map e3 r17.1) false, .int .i64 r17.2]))] [1, 3, 4, 5, 7, 8, 9, 10, 11, 13, 14, 15, 16, 17, 18, 19], .reg [] [] 1 [(1, none, .call (.tup [.agg [.int .i64 r18.1.1, .sl (List.map e62 r18.1.2) false], .int .i64 r18.2])), (5, some 3, .a)] [1, 3, 4, 5, 7, 8, 9, 10, 11, 13, 14, 15, 16, 17, 18, 19, 20, 21], .reg [] [] 0 [(1, none, .call (.tup [.sl (List.map e3 r19.1) false, .int .i64 r19.2]))] [3, 4, 5, 7, 8, 9, 10, 11, 13, 14, 15, 16, 17, 18, 19, 20, 21, 22, 23], .reg [] [] 0 [(1, none, .call (.tup [.sl (List.map e3 r20.1) false, .int .i64 r20.2]))] [3, 4, 5, 7, 8, 9, 10, 11, 13, 14, 15, 16, 17, 18, 19, 20, 21, 22, 23, 24, 25], .reg [] [] 1 [(1, none, .call (.tup [.agg [.int .i64 r21.1.1, .sl (List.map e62 r21.1.2) false], .int .i64 r21.2])), (5, some 4, .a)] [4, 5, 7, 8, 9, 10, 11, 13, 14, 15, 16, 17, 18, 19, 20, 21, 22, 23, 24, 25, 26, 27], .reg [] [] 1 [(0, none, .call (.tup [.agg [.int .i64 r22.1.1, .sl (List.map e62 r22.1.2) false], .int .i64 r22.2])), (4, some 5, .a)] [4, 5, 7, 8, 9, 10, 11, 13, 14, 15, 16, 17, 18, 19, 20, 21, 22, 23, 24, 25, 26, 27, 28, 29], .reg [] [] 1 [(0, none, .call (.tup [.agg [.int .i64 r23.1.1, .sl (List.map e62 r23.1.2) false], .int .i64 r23.2])), (4, some 6, .a)] [4, 5, 7, 8, 9, 10, 11, 13, 14, 15, 16, 17, 18, 19, 20, 21, 22, 23, 24, 25, 26, 27, 28, 29, 30, 31], .reg [] [] 1 [(0, none, .call (.tup [.agg [.int .i64 r24.1.1, .sl (List.map e62 r24.1.2) false], .int .i64 r24.2])), (4, some 7, .a)] [4, 5, 7, 8, 9, 10, 11, 13, 14, 15, 16, 17, 18, 19, 20, 21, 22, 23, 24, 25, 26, 27, 28, 29, 30, 31, 33]]
  have q150 := fun {P : Prop} (t : P) => ai (F34_ok fuel 4 [0, 1, 2, 3, 0, 2, 1, 3, 1, 2] true _ h1) (ai (F34_ok fuel 4 [0, 1, 2, 3, 0, 2, 1, 3] true _ h2) (ai (F34_ok fuel 3 [0, 1, 0, 1, 1, 2] true _ h3) (ai (F35_ok fuel [3, 1, 2, 0] true _ h4) (ai (F9_ok fuel (r1.1, r1.2) r4 false _ h5) (ai (F35_ok fuel [5, 5] true _ h6) (ai (F9_ok fuel (r3.1, r3.2) r6 false _ h7) (ai (F19_ok fuel (r1.1, r1.2) _ h8) (ai (F19_ok fuel (r2.1, r2.2) _ h9) (ai (F15_ok fuel (r2.1, r2.2) _ h10) (ai (F15_ok fuel (r1.1, r1.2) _ h11) (ai (F36_ok fuel [0, 1, 0, 1] true _ h12) (ai (F21_ok fuel (r2.1, r2.2) r12 false _ h13) (ai (F36_ok fuel [0, 0, 1, 1] true _ h14) (ai (F21_ok fuel (r2.1, r2.2) r14 false _ h15) (ai (F17_ok fuel (r2.1, r2.2) _ h16) (ai (F24_ok fuel (r3.1, r3.2) _ h17) (ai (F26_ok fuel (r3.1, r3.2) _ h18) (ai (F28_ok fuel (r1.1, r1.2) _ h19) (ai (F30_ok fuel (r3.1, r3.2) 2 _ h20) (ai (F32_ok fuel (r3.1, r3.2) _ h21) (ai (F37_ok fuel 3 _ h22) (ai (F38_ok fuel 4 _ h23) (ai (F38_ok fuel 9 _ h24) t)))))))))))))))))))))))
  refine oif_elim g24 (fun h25 g25 => ?_) (fun h25 g25 => ?_)
  · have hr := Option.some.inj g25
    subst hr
    exact callP_of is7 rfl (path hm (ks := [0]) (σ' := ⟨[(0, .p (.bool false))], [.cells [.p (.int .i64 r1.1), .p (.sl (List.map e62 r1.2) false)] 0, .cells [.p (.int .i64 r2.1), .p (.sl (List.map e62 r2.2) false)] 0, .cells [.p (.int .i64 r3.1), .p (.sl (List.map e62 r3.2) false)] 0, .cells [.p (.int .i64 r18.1.1), .p (.sl (List.map e62 r18.1.2) false)] 0, .cells [.p (.int .i64 r21.1.1), .p (.sl (List.map e62 r21.1.2) false)] 0, .cells [.p (.int .i64 r22.1.1), .p (.sl (List.map e62 r22.1.2) false)] 0, .cells [.p (.int .i64 r23.1.1), .p (.sl (List.map e62 r23.1.2) false)] 0, .cells [.p (.int .i64 r24.1.1), .p (.sl (List.map e62 r24.1.2) false)] 0]⟩) (cc := c149 ++ [.reg [] [] 0 [(1, none, .b true)] [4, 10, 16, 18, 20, 22, 24, 26, 28, 30, 183], .reg [] [] 0 [] [0]])
      (q150 (ai h25 trivial)) (by kernel_rfl)) (e := .ret) rfl (vs := [.p (.bool false)]) trivial (by kernel_rfl) (.p _ _ (.refl _))
  · refine oif_elim g25 (fun h26 g26 => ?_) (fun h26 g26 => ?_)
    · have hr := Option.some.inj g26
      subst hr
      exact callP_of is7 rfl (path hm (ks := [0]) (σ' := ⟨[(0, .p (.bool false))], [.cells [.p (.int .i64 r1.1), .p (.sl (List.map e62 r1.2) false)] 0, .cells [.p (.int .i64 r2.1), .p (.sl (List.map e62 r2.2) false)] 0, .cells [.p (.int .i64 r3.1), .p (.sl (List.map e62 r3.2) false)] 0, .cells [.p (.int .i64 r18.1.1), .p (.sl (List.map e62 r18.1.2) false)] 0, .cells [.p (.int .i64 r21.1.1), .p (.sl (List.map e62 r21.1.2) false)] 0, .cells [.p (.int .i64 r22.1.1), .p (.sl (List.map e62 r22.1.2) false)] 0, .cells [.p (.int .i64 r23.1.1), .p (.sl (List.map e62 r23.1.2) false)] 0, .cells [.p (.int .i64 r24.1.1), .p (.sl (List.map e62 r24.1.2) false)] 0]⟩) (cc := c149 ++ [.reg [] [] 0 [(1, none, .b false), (4, none, .b true)] [4, 10, 16, 18, 20, 22, 24, 26, 28, 30, 183], .reg [] [] 0 [] [0]])
      (q150 (ai h25 (ai h26 trivial))) (by kernel_rfl)) (e := .ret) rfl (vs := [.p (.bool false)]) trivial (by kernel_rfl) (.p _ _ (.refl _))
    · have q151 := fun {P : Prop} (t : P) => ai h25 (ai h26 t)
      refine oif_elim g26 (fun h27 g27 => ?_) (fun h27 g27 => ?_)
      · have hr := Option.some.inj g27
        subst hr
        exact callP_of is7 rfl (path hm (ks := [0]) (σ' := ⟨[(0, .p (.bool false))], [.cells [.p (.int .i64 r1.1), .p (.sl (List.map e62 r1.2) false)] 0, .cells [.p (.int .i64 r2.1), .p (.sl (List.map e62 r2.2) false)] 0, .cells [.p (.int .i64 r3.1), .p (.sl (List.map e62 r3.2) false)] 0, .cells [.p (.int .i64 r18.1.1), .p (.sl (List.map e62 r18.1.2) false)] 0, .cells [.p (.int .i64 r21.1.1), .p (.sl (List.map e62 r21.1.2) false)] 0, .cells [.p (.int .i64 r22.1.1), .p (.sl (List.map e62 r22.1.2) false)] 0, .cells [.p (.int .i64 r23.1.1), .p (.sl (List.map e62 r23.1.2) false)] 0, .cells [.p (.int .i64 r24.1.1), .p (.sl (List.map e62 r24.1.2) false)] 0]⟩) (cc := c149 ++ [.reg [] [] 0 [(1, none, .b false), (4, none, .b false), (8, none, .b true)] [4, 10, 16, 18, 20, 22, 24, 26, 28, 30, 183], .reg [] [] 0 [] [0]])
      (q150 (q151 (ai h27 trivial))) (by kernel_rfl)) (e := .ret) rfl (vs := [.p (.bool false)]) trivial (by kernel_rfl) (.p _ _ (.refl _))
      · refine oif_elim g27 (fun h28 g28 => ?_) (fun h28 g28 => ?_)
        · have hr := Option.some.inj g28
          subst hr
          exact callP_of is7 rfl (path hm (ks := [0]) (σ' := ⟨[(0, .p (.bool false))], [.cells [.p (.int .i64 r1.1), .p (.sl (List.map e62 r1.2) false)] 0, .cells [.p (.int .i64 r2.1), .p (.sl (List.map e62 r2.2) false)] 0, .cells [.p (.int .i64 r3.1), .p (.sl (List.map e62 r3.2) false)] 0, .cells [.p (.int .i64 r18.1.1), .p (.sl (List.map e62 r18.1.2) false)] 0, .cells [.p (.int .i64 r21.1.1), .p (.sl (List.map e62 r21.1.2) false)] 0, .cells [.p (.int .i64 r22.1.1), .p (.sl (List.map e62 r22.1.2) false)] 0, .cells [.p (.int .i64 r23.1.1), .p (.sl (List.map e62 r23.1.2) false)] 0, .cells [.p (.int .i64 r24.1.1), .p (.sl (List.map e62 r24.1.2) false)] 0]⟩) (cc := c149 ++ [.reg [] [] 0 [(1, none, .b false), (4, none, .b false), (8, none, .b false), (12, none, .b true)] [4, 10, 16, 18, 20, 22, 24, 26, 28, 30, 183], .reg [] [] 0 [] [0]])
      (q150 (q151 (ai h27 (ai h28 trivial)))) (by kernel_rfl)) (e := .ret) rfl (vs := [.p (.bool false)]) trivial (by kernel_rfl) (.p _ _ (.refl _))
        · have q152 := fun {P : Prop} (t : P) => ai h27 (ai h28 t)
          refine oif_elim g28 (fun h29 g29 => ?_) (fun h29 g29 => ?_)
          · have hr := Option.some.inj g29
            subst hr
            exact callP_of is7 rfl (path hm (ks := [0]) (σ' := ⟨[(0, .p (.bool false))], [.cells [.p (.int .i64 r1.1), .p (.sl (List.map e62 r1.2) false)] 0, .cells [.p (.int .i64 r2.1), .p (.sl (List.map e62 r2.2) false)] 0, .cells [.p (.int .i64 r3.1), .p (.sl (List.map e62 r3.2) false)] 0, .cells [.p (.int .i64 r18.1.1), .p (.sl (List.map e62 r18.1.2) false)] 0, .cells [.p (.int .i64 r21.1.1), .p (.sl (List.map e62 r21.1.2) false)] 0, .cells [.p (.int .i64 r22.1.1), .p (.sl (List.map e62 r22.1.2) false)] 0, .cells [.p (.int .i64 r23.1.1), .p (.sl (List.map e62 r23.1.2) false)] 0, .cells [.p (.int .i64 r24.1.1), .p (.sl (List.map e62 r24.1.2) false)] 0]⟩) (cc := c149 ++ [.reg [] [] 0 [(1, none, .b false), (4, none, .b false), (8, none, .b false), (12, none, .b false), (16, none, .b true)] [4, 10, 16, 18, 20, 22, 24, 26, 28, 30, 183], .reg [] [] 0 [] [0]])
      (q150 (q151 (q152 (ai h29 trivial)))) (by kernel_rfl)) (e := .ret) rfl (vs := [.p (.bool false)]) trivial (by kernel_rfl) (.p _ _ (.refl _))
          · refine oif_elim g29 (fun h30 g30 => ?_) (fun h30 g30 => ?_)
            · have hr := Option.some.inj g30
              subst hr
              exact callP_of is7 rfl (path hm (ks := [0]) (σ' := ⟨[(0, .p (.bool false))], [.cells [.p (.int .i64 r1.1), .p (.sl (List.map e62 r1.2) false)] 0, .cells [.p (.int .i64 r2.1), .p (.sl (List.map e62 r2.2) false)] 0, .cells [.p (.int .i64 r3.1), .p (.sl (List.map e62 r3.2) false)] 0, .cells [.p (.int .i64 r18.1.1), .p (.sl (List.map e62 r18.1.2) false)] 0, .cells [.p (.int .i64 r21.1.1), .p (.sl (List.map e62 r21.1.2) false)] 0, .cells [.p (.int .i64 r22.1.1), .p (.sl (List.map e62 r22.1.2) false)] 0, .cells [.p (.int .i64 r23.1.1), .p (.sl (List.map e62 r23.1.2) false)] 0, .cells [.p (.int .i64 r24.1.1), .p (.sl (List.map e62 r24.1.2) false)] 0]⟩) (cc := c149 ++ [.reg [] [] 0 [(1, none, .b false), (4, none, .b false), (8, none, .b false), (12, none, .b false), (16, none, .b false), (20, none, .b true)] [4, 10, 16, 18, 20, 22, 24, 26, 28, 30, 183], .reg [] [] 0 [] [0]])
      (q150 (q151 (q152 (ai h29 (ai h30 trivial))))) (by kernel_rfl)) (e := .ret) rfl (vs := [.p (.bool false)]) trivial (by kernel_rfl) (.p _ _ (.refl _))
            · have q153 := fun {P : Prop} (t : P) => ai h29 (ai h30 t)
              refine oif_elim g30 (fun h31 g31 => ?_) (fun h31 g31 => ?_)
              · have hr := Option.some.inj g31
                subst hr
                exact callP_of is7 rfl (path hm (ks := [0]) (σ' := ⟨[(0, .p (.bool false))], [.cells [.p (.int .i64 r1.1), .p (.sl (List.map e62 r1.2) false)] 0, .cells [.p (.int .i64 r2.1), .p (.sl (List.map e62 r2.2) false)] 0, .cells [.p (.int .i64 r3.1), .p (.sl (List.map e62 r3.2) false)] 0, .cells [.p (.int .i64 r18.1.1), .p (.sl (List.map e62 r18.1.2) false)] 0, .cells [.p (.int .i64 r21.1.1), .p (.sl (List.map e62 r21.1.2) false)] 0, .cells [.p (.int .i64 r22.1.1), .p (.sl (List.map e62 r22.1.2) false)] 0, .cells [.p (.int .i64 r23.1.1), .p (.sl (List.map e62 r23.1.2) false)] 0, .cells [.p (.int .i64 r24.1.1), .p (.sl (List.map e62 r24.1.2) false)] 0]⟩) (cc := c149 ++ [.reg [] [] 0 [(1, none, .b false), (4, none, .b false), (8, none, .b false), (12, none, .b false), (16, none, .b false), (20, none, .b false), (24, none, .b true)] [4, 10, 16, 18, 20, 22, 24, 26, 28, 30, 183], .reg [] [] 0 [] [0]])
      (q150 (q151 (q152 (q153 (ai h31 trivial))))) (by kernel_rfl)) (e := .ret) rfl (vs := [.p (.bool false)]) trivial (by kernel_rfl) (.p _ _ (.refl _))
              · refine oif_elim g31 (fun h32 g32 => ?_) (fun h32 g32 => ?_)
                · have hr := Option.some.inj g32
                  subst hr
                  exact callP_of is7 rfl (path hm (ks := [0]) (σ' := ⟨[(0, .p (.bool false))], [.cells [.p (.int .i64 r1.1), .p (.sl (List.map e62 r1.2) false)] 0, .cells [.p (.int .i64 r2.1), .p (.sl (List.map e62 r2.2) false)] 0, .cells [.p (.int .i64 r3.1), .p (.sl (List.map e62 r3.2) false)] 0, .cells [.p (.int .i64 r18.1.1), .p (.sl (List.map e62 r18.1.2) false)] 0, .cells [.p (.int .i64 r21.1.1), .p (.sl (List.map e62 r21.1.2) false)] 0, .cells [.p (.int .i64 r22.1.1), .p (.sl (List.map e62 r22.1.2) false)] 0, .cells [.p (.int .i64 r23.1.1), .p (.sl (List.map e62 r23.1.2) false)] 0, .cells [.p (.int .i64 r24.1.1), .p (.sl (List.map e62 r24.1.2) false)] 0]⟩) (cc := c149 ++ [.reg [] [] 0 [(1, none, .b false), (4, none, .b false), (8, none, .b false), (12, none, .b false), (16, none, .b false), (20, none, .b false), (24, none, .b false), (28, none, .b true)] [4, 10, 16, 18, 20, 22, 24, 26, 28, 30, 183], .reg [] [] 0 [] [0]])
      (q150 (q151 (q152 (q153 (ai h31 (ai h32 trivial)))))) (by kernel_rfl)) (e := .ret) rfl (vs := [.p (.bool false)]) trivial (by kernel_rfl) (.p _ _ (.refl _))
                · have q154 := fun {P : Prop} (t : P) => ai h31 (ai h32 t)
                  refine oif_elim g32 (fun h33 g33 => ?_) (fun h33 g33 => ?_)
                  · have hr := Option.some.inj g33
                    subst hr
                    exact callP_of is7 rfl (path hm (ks := [0]) (σ' := ⟨[(0, .p (.bool false))], [.cells [.p (.int .i64 r1.1), .p (.sl (List.map e62 r1.2) false)] 0, .cells [.p (.int .i64 r2.1), .p (.sl (List.map e62 r2.2) false)] 0, .cells [.p (.int .i64 r3.1), .p (.sl (List.map e62 r3.2) false)] 0, .cells [.p (.int .i64 r18.1.1), .p (.sl (List.map e62 r18.1.2) false)] 0, .cells [.p (.int .i64 r21.1.1), .p (.sl (List.map e62 r21.1.2) false)] 0, .cells [.p (.int .i64 r22.1.1), .p (.sl (List.map e62 r22.1.2) false)] 0, .cells [.p (.int .i64 r23.1.1), .p (.sl (List.map e62 r23.1.2) false)] 0, .cells [.p (.int .i64 r24.1.1), .p (.sl (List.map e62 r24.1.2) false)] 0]⟩) (cc := c149 ++ [.reg [] [] 0 [(1, none, .b false), (4, none, .b false), (8, none, .b false), (12, none, .b false), (16, none, .b false), (20, none, .b false), (24, none, .b false), (28, none, .b false), (32, none, .b true)] [4, 10, 16, 18, 20, 22, 24, 26, 28, 30, 183], .reg [] [] 0 [] [0]])
      (q150 (q151 (q152 (q153 (q154 (ai h33 trivial)))))) (by kernel_rfl)) (e := .ret) rfl (vs := [.p (.bool false)]) trivial (by kernel_rfl) (.p _ _ (.refl _))
                  · refine oif_elim g33 (fun h34 g34 => ?_) (fun h34 g34 => ?_)
                    · have hr := Option.some.inj g34
                      subst hr
                      exact callP_of is7 rfl (path hm (ks := [0]) (σ' := ⟨[(0, .p (.bool false))], [.cells [.p (.int .i64 r1.1), .p (.sl (List.map e62 r1.2) false)] 0, .cells [.p (.int .i64 r2.1), .p (.sl (List.map e62 r2.2) false)] 0, .cells [.p (.int .i64 r3.1), .p (.sl (List.map e62 r3.2) false)] 0, .cells [.p (.int .i64 r18.1.1), .p (.sl (List.map e62 r18.1.2) false)] 0, .cells [.p (.int .i64 r21.1.1), .p (.sl (List.map e62 r21.1.2) false)] 0, .cells [.p (.int .i64 r22.1.1), .p (.sl (List.map e62 r22.1.2) false)] 0, .cells [.p (.int .i64 r23.1.1), .p (.sl (List.map e62 r23.1.2) false)] 0, .cells [.p (.int .i64 r24.1.1), .p (.sl (List.map e62 r24.1.2) false)] 0]⟩) (cc := c149 ++ [.reg [] [] 0 [(1, none, .b false), (4, none, .b false), (8, none, .b false), (12, none, .b false), (16, none, .b false), (20, none, .b false), (24, none, .b false), (28, none, .b false), (32, none, .b false), (36, none, .b true)] [4, 10, 16, 18, 20, 22, 24, 26, 28, 30, 183], .reg [] [] 0 [] [0]])
      (q150 (q151 (q152 (q153 (q154 (ai h33 (ai h34 trivial))))))) (by kernel_rfl)) (e := .ret) rfl (vs := [.p (.bool false)]) trivial (by kernel_rfl) (.p _ _ (.refl _))
                    · have q155 := fun {P : Prop} (t : P) => ai h33 (ai h34 t)
                      refine oif_elim g34 (fun h35 g35 => ?_) (fun h35 g35 => ?_)
                      · have hr := Option.some.inj g35
                        subst hr
                        exact callP_of is7 rfl (path hm (ks := [0]) (σ' := ⟨[(0, .p (.bool false))], [.cells [.p (.int .i64 r1.1), .p (.sl (List.map e62 r1.2) false)] 0, .cells [.p (.int .i64 r2.1), .p (.sl (List.map e62 r2.2) false)] 0, .cells [.p (.int .i64 r3.1), .p (.sl (List.map e62 r3.2) false)] 0, .cells [.p (.int .i64 r18.1.1), .p (.sl (List.map e62 r18.1.2) false)] 0, .cells [.p (.int .i64 r21.1.1), .p (.sl (List.map e62 r21.1.2) false)] 0, .cells [.p (.int .i64 r22.1.1), .p (.sl (List.map e62 r22.1.2) false)] 0, .cells [.p (.int .i64 r23.1.1), .p (.sl (List.map e62 r23.1.2) false)] 0, .cells [.p (.int .i64 r24.1.1), .p (.sl (List.map e62 r24.1.2) false)] 0]⟩) (cc := c149 ++ [.reg [] [] 0 [(1, none, .b false), (4, none, .b false), (8, none, .b false), (12, none, .b false), (16, none, .b false), (20, none, .b false), (24, none, .b false), (28, none, .b false), (32, none, .b false), (36, none, .b false), (40, none, .b true)] [4, 10, 16, 18, 20, 22, 24, 26, 28, 30, 183], .reg [] [] 0 [] [0]])
      (q150 (q151 (q152 (q153 (q154 (q155 (ai h35 trivial))))))) (by kernel_rfl)) (e := .ret) rfl (vs := [.p (.bool false)]) trivial (by kernel_rfl) (.p _ _ (.refl _))
                      · refine oif_elim g35 (fun h36 g36 => ?_) (fun h36 g36 => ?_)
                        · have hr := Option.some.inj g36
                          subst hr
                          exact callP_of is7 rfl (path hm (ks := [0]) (σ' := ⟨[(0, .p (.bool false))], [.cells [.p (.int .i64 r1.1), .p (.sl (List.map e62 r1.2) false)] 0, .cells [.p (.int .i64 r2.1), .p (.sl (List.map e62 r2.2) false)] 0, .cells [.p (.int .i64 r3.1), .p (.sl (List.map e62 r3.2) false)] 0, .cells [.p (.int .i64 r18.1.1), .p (.sl (List.map e62 r18.1.2) false)] 0, .cells [.p (.int .i64 r21.1.1), .p (.sl (List.map e62 r21.1.2) false)] 0, .cells [.p (.int .i64 r22.1.1), .p (.sl (List.map e62 r22.1.2) false)] 0, .cells [.p (.int .i64 r23.1.1), .p (.sl (List.map e62 r23.1.2) false)] 0, .cells [.p (.int .i64 r24.1.1), .p (.sl (List.map e62 r24.1.2) false)] 0]⟩) (cc := c149 ++ [.reg [] [] 0 [(1, none, .b false), (4, none, .b false), (8, none, .b false), (12, none, .b false), (16, none, .b false), (20, none, .b false), (24, none, .b false), (28, none, .b false), (32, none, .b false), (36, none, .b false), (40, none, .b false), (44, none, .b true)] [4, 10, 16, 18, 20, 22, 24, 26, 28, 30, 183], .reg [] [] 0 [] [0]])
      (q150 (q151 (q152 (q153 (q154 (q155 (ai h35 (ai h36 trivial)))))))) (by kernel_rfl)) (e := .ret) rfl (vs := [.p (.bool false)]) trivial (by kernel_rfl) (.p _ _ (.refl _))
                        · refine oif_elim g36 (fun h37 g37 => ?_) (fun h37 g37 => ?_)
                          · have hr := Option.some.inj g37
                            subst hr
                            exact callP_of is7 rfl (path hm (ks := [0]) (σ' := ⟨[(0, .p (.bool false))], [.cells [.p (.int .i64 r1.1), .p (.sl (List.map e62 r1.2) false)] 0, .cells [.p (.int .i64 r2.1), .p (.sl (List.map e62 r2.2) false)] 0, .cells [.p (.int .i64 r3.1), .p (.sl (List.map e62 r3.2) false)] 0, .cells [.p (.int .i64 r18.1.1), .p (.sl (List.map e62 r18.1.2) false)] 0, .cells [.p (.int .i64 r21.1.1), .p (.sl (List.map e62 r21.1.2) false)] 0, .cells [.p (.int .i64 r22.1.1), .p (.sl (List.map e62 r22.1.2) false)] 0, .cells [.p (.int .i64 r23.1.1), .p (.sl (List.map e62 r23.1.2) false)] 0, .cells [.p (.int .i64 r24.1.1), .p (.sl (List.map e62 r24.1.2) false)] 0]⟩) (cc := c149 ++ [.reg [] [] 0 [(1, none, .b false), (4, none, .b false), (8, none, .b false), (12, none, .b false), (16, none, .b false), (20, none, .b false), (24, none, .b false), (28, none, .b false), (32, none, .b false), (36, none, .b false), (40, none, .b false), (44, none, .b false), (48, none, .b true)] [4, 10, 16, 18, 20, 22, 24, 26, 28, 30, 183], .reg [] [] 0 [] [0]])
      (q150 (q151 (q152 (q153 (q154 (q155 (ai h35 (ai h36 (ai h37 trivial))))))))) (by kernel_rfl)) (e := .ret) rfl (vs := [.p (.bool false)]) trivial (by kernel_rfl) (.p _ _ (.refl _))
                          · have q156 := fun {P : Prop} (t : P) => ai h35 (ai h36 (ai h37 t))
                            refine oif_elim g37 (fun h38 g38 => ?_) (fun h38 g38 => ?_)
                            · have hr := Option.some.inj g38
                              subst hr
                              exact callP_of is7 rfl (path hm (ks := [0]) (σ' := ⟨[(0, .p (.bool false))], [.cells [.p (.int .i64 r1.1), .p (.sl (List.map e62 r1.2) false)] 0, .cells [.p (.int .i64 r2.1), .p (.sl (List.map e62 r2.2) false)] 0, .cells [.p (.int .i64 r3.1), .p (.sl (List.map e62 r3.2) false)] 0, .cells [.p (.int .i64 r18.1.1), .p (.sl (List.map e62 r18.1.2) false)] 0, .cells [.p (.int .i64 r21.1.1), .p (.sl (List.map e62 r21.1.2) false)] 0, .cells [.p (.int .i64 r22.1.1), .p (.sl (List.map e62 r22.1.2) false)] 0, .cells [.p (.int .i64 r23.1.1), .p (.sl (List.map e62 r23.1.2) false)] 0, .cells [.p (.int .i64 r24.1.1), .p (.sl (List.map e62 r24.1.2) false)] 0]⟩) (cc := c149 ++ [.reg [] [] 0 [(1, none, .b false), (4, none, .b false), (8, none, .b false), (12, none, .b false), (16, none, .b false), (20, none, .b false), (24, none, .b false), (28, none, .b false), (32, none, .b false), (36, none, .b false), (40, none, .b false), (44, none, .b false), (48, none, .b false), (52, none, .b true)] [4, 10, 16, 18, 20, 22, 24, 26, 28, 30, 183], .reg [] [] 0 [] [0]])
      (q150 (q151 (q152 (q153 (q154 (q155 (q156 (ai h38 trivial)))))))) (by kernel_rfl)) (e := .ret) rfl (vs := [.p (.bool false)]) trivial (by kernel_rfl) (.p _ _ (.refl _))
                            · refine oif_elim g38 (fun h39 g39 => ?_) (fun h39 g39 => ?_)
                              · have hr := Option.some.inj g39
                                subst hr
                                exact callP_of is7 rfl (path hm (ks := [0]) (σ' := ⟨[(0, .p (.bool false))], [.cells [.p (.int .i64 r1.1), .p (.sl (List.map e62 r1.2) false)] 0, .cells [.p (.int .i64 r2.1), .p (.sl (List.map e62 r2.2) false)] 0, .cells [.p (.int .i64 r3.1), .p (.sl (List.map e62 r3.2) false)] 0, .cells [.p (.int .i64 r18.1.1), .p (.sl (List.map e62 r18.1.2) false)] 0, .cells [.p (.int .i64 r21.1.1), .p (.sl (List.map e62 r21.1.2) false)] 0, .cells [.p (.int .i64 r22.1.1), .p (.sl (List.map e62 r22.1.2) false)] 0, .cells [.p (.int .i64 r23.1.1), .p (.sl (List.map e62 r23.1.2) false)] 0, .cells [.p (.int .i64 r24.1.1), .p (.sl (List.map e62 r24.1.2) false)] 0]⟩) (cc := c149 ++ [.reg [] [] 0 [(1, none, .b false), (4, none, .b false), (8, none, .b false), (12, none, .b false), (16, none, .b false), (20, none, .b false), (24, none, .b false), (28, none, .b false), (32, none, .b false), (36, none, .b false), (40, none, .b false), (44, none, .b false), (48, none, .b false), (52, none, .b false), (56, none, .b true)] [4, 10, 16, 18, 20, 22, 24, 26, 28, 30, 183], .reg [] [] 0 [] [0]])
      (q150 (q151 (q152 (q153 (q154 (q155 (q156 (ai h38 (ai h39 trivial))))))))) (by kernel_rfl)) (e := .ret) rfl (vs := [.p (.bool false)]) trivial (by kernel_rfl) (.p _ _ (.refl _))
                              · refine oif_elim g39 (fun h40 g40 => ?_) (fun h40 g40 => ?_)
                                · have hr := Option.some.inj g40
                                  subst hr
                                  exact callP_of is7 rfl (path hm (ks := [0]) (σ' := ⟨[(0, .p (.bool false))], [.cells [.p (.int .i64 r1.1), .p (.sl (List.map e62 r1.2) false)] 0, .cells [.p (.int .i64 r2.1), .p (.sl (List.map e62 r2.2) false)] 0, .cells [.p (.int .i64 r3.1), .p (.sl (List.map e62 r3.2) false)] 0, .cells [.p (.int .i64 r18.1.1), .p (.sl (List.map e62 r18.1.2) false)] 0, .cells [.p (.int .i64 r21.1.1), .p (.sl (List.map e62 r21.1.2) false)] 0, .cells [.p (.int .i64 r22.1.1), .p (.sl (List.map e62 r22.1.2) false)] 0, .cells [.p (.int .i64 r23.1.1), .p (.sl (List.map e62 r23.1.2) false)] 0, .cells [.p (.int .i64 r24.1.1), .p (.sl (List.map e62 r24.1.2) false)] 0]⟩) (cc := c149 ++ [.reg [] [] 0 [(1, none, .b false), (4, none, .b false), (8, none, .b false), (12, none, .b false), (16, none, .b false), (20, none, .b false), (24, none, .b false), (28, none, .b false), (32, none, .b false), (36, none, .b false), (40, none, .b false), (44, none, .b false), (48, none, .b false), (52, none, .b false), (56, none, .b false), (60, none, .b true)] [4, 10, 16, 18, 20, 22, 24, 26, 28, 30, 183], .reg [] [] 0 [] [0]])
      (q150 (q151 (q152 (q153 (q154 (q155 (q156 (ai h38 (ai h39 (ai h40 trivial)))))))))) (by kernel_rfl)) (e := .ret) rfl (vs := [.p (.bool false)]) trivial (by kernel_rfl) (.p _ _ (.refl _))
                                · refine oif_elim g40 (fun h41 g41 => ?_) (fun h41 g41 => ?_)
                                  · have hr := Option.some.inj g41
                                    subst hr
                                    exact callP_of is7 rfl (path hm (ks := [0]) (σ' := ⟨[(0, .p (.bool false))], [.cells [.p (.int .i64 r1.1), .p (.sl (List.map e62 r1.2) false)] 0, .cells [.p (.int .i64 r2.1), .p (.sl (List.map e62 r2.2) false)] 0, .cells [.p (.int .i64 r3.1), .p (.sl (List.map e62 r3.2) false)] 0, .cells [.p (.int .i64 r18.1.1), .p (.sl (List.map e62 r18.1.2) false)] 0, .cells [.p (.int .i64 r21.1.1), .p (.sl (List.map e62 r21.1.2) false)] 0, .cells [.p (.int .i64 r22.1.1), .p (.sl (List.map e62 r22.1.2) false)] 0, .cells [.p (.int .i64 r23.1.1), .p (.sl (List.map e62 r23.1.2) false)] 0, .cells [.p (.int .i64 r24.1.1), .p (.sl (List.map e62 r24.1.2) false)] 0]⟩) (cc := c149 ++ [.reg [] [] 0 [(1, none, .b false), (4, none, .b false), (8, none, .b false), (12, none, .b false), (16, none, .b false), (20, none, .b false), (24, none, .b false), (28, none, .b false), (32, none, .b false), (36, none, .b false), (40, none, .b false), (44, none, .b false), (48, none, .b false), (52, none, .b false), (56, none, .b false), (60, none, .b false), (64, none, .b true)] [4, 10, 16, 18, 20, 22, 24, 26, 28, 30, 183], .reg [] [] 0 [] [0]])
      (q150 (q151 (q152 (q153 (q154 (q155 (q156 (ai h38 (ai h39 (ai h40 (ai h41 trivial))))))))))) (by kernel_rfl)) (e := .ret) rfl (vs := [.p (.bool false)]) trivial (by kernel_rfl) (.p _ _ (.refl _))
                                  · refine obind_elim g41 fun r25 h42 g42 => ?_
                                    refine obind_elim g42 fun r26 h43 g43 => ?_
                                    let c157 : List CC := c149 ++ [.reg [] [] 0 [(1, none, .b false), (4, none, .b false), (8, none, .b false), (12, none, .b false), (16, none, .b false), (20, none, .b false), (24, none, .b false), (28, none, .b false), (32, none, .b false), (36, none, .b false), (40, none, .b false), (44, none, .b false), (48, none, .b false), (52, none, .b false), (56, none, .b false), (60, none, .b false), (64, none, .b false)] [4, 10, 16, 18, 20, 22, 24, 26, 28, 30, 183]]
                                    have q158 := fun {P : Prop} (t : P) => ai h38 (ai h39 (ai h40 (ai h41 (ai (F35_ok fuel [0, 1, 2, 3] true _ h42) (ai (F13_ok fuel r5.1 r25 false false _ h43) t)))))
                                    refine oif_elim g43 (fun h44 g44 => ?_) (fun h44 g44 => ?_)
                                    · subst h44
                                      refine obind_elim g44 fun r27 h45 g45 => ?_
                                      have q159 := fun {P : Prop} (t : P) => ai (F36_ok fuel [0, 1, 0, 1] true _ h12) (ai (F23_ok fuel r10.1 r12 false false _ h45) t)
                                      refine oif_elim g45 (fun h46 g46 => ?_) (fun h46 g46 => ?_)
                                      · subst h46
                                        refine oif_elim g46 (fun h47 g47 => ?_) (fun h47 g47 => ?_)
                                        · refine obind_elim g47 fun r28 h48 g48 => ?_
                                          refine obind_elim g48 fun r29 h49 g49 => ?_
                                          have q160 := fun {P : Prop} (t : P) => ai h47 (ai (F36_ok fuel [1] true _ h48) (ai (F23_ok fuel r17.1 r28 false false _ h49) t))
                                          refine oif_elim g49 (fun h50 g50 => ?_) (fun h50 g50 => ?_)
                                          · subst h50
                                            refine obind_elim g50 fun r30 h51 g51 => ?_
                                            refine obind_elim g51 fun r31 h52 g52 => ?_
                                            have q161 := fun {P : Prop} (t : P) => ai (F34_ok fuel 3 [0, 1, 1, 2] true _ h51) (ai (F14_ok fuel (r18.1.1, r18.1.2) (r30.1, r30.2) _ h52) t)
                                            refine oif_elim g52 (fun h53 g53 => ?_) (fun h53 g53 => ?_)
                                            · subst h53
                                              refine obind_elim g53 fun r32 h54 g54 => ?_
                                              refine obind_elim g54 fun r33 h55 g55 => ?_
                                              have q162 := fun {P : Prop} (t : P) => ai (F36_ok fuel [1, 1, 2, 2, 3] true _ h54) (ai (F23_ok fuel r19.1 r32 false false _ h55) t)
                                              refine oif_elim g55 (fun h56 g56 => ?_) (fun h56 g56 => ?_)
                                              · subst h56
                                                refine obind_elim g56 fun r34 h57 g57 => ?_
                                                refine obind_elim g57 fun r35 h58 g58 => ?_
                                                have q163 := fun {P : Prop} (t : P) => ai (F36_ok fuel [1, 2] true _ h57) (ai (F23_ok fuel r20.1 r34 false false _ h58) t)
                                                refine oif_elim g58 (fun h59 g59 => ?_) (fun h59 g59 => ?_)
                                                · subst h59
                                                  refine obind_elim g59 fun r36 h60 g60 => ?_
                                                  refine obind_elim g60 fun r37 h61 g61 => ?_
                                                  have q164 := fun {P : Prop} (t : P) => ai (F34_ok fuel 3 [1, 2, 1, 2, 0, 1] true _ h60) (ai (F14_ok fuel (r21.1.1, r21.1.2) (r36.1, r36.2) _ h61) t)
                                                  refine oif_elim g61 (fun h62 g62 => ?_) (fun h62 g62 => ?_)
                                                  · subst h62
                                                    refine obind_elim g62 fun r38 h63 g63 => ?_
                                                    refine obind_elim g63 fun r39 h64 g64 => ?_
                                                    have q165 := fun {P : Prop} (t : P) => ai (F34_ok fuel 3 [0, 1, 1, 2, 0, 1] true _ h63) (ai (F14_ok fuel (r22.1.1, r22.1.2) (r38.1, r38.2) _ h64) t)
                                                    refine oif_elim g64 (fun h65 g65 => ?_) (fun h65 g65 => ?_)
                                                    · subst h65
                                                      refine obind_elim g65 fun r40 h66 g66 => ?_
                                                      refine obind_elim g66 fun r41 h67 g67 => ?_
                                                      have q166 := fun {P : Prop} (t : P) => ai (F34_ok fuel 4 [0, 2, 1, 3, 0, 1, 2, 3, 1, 2] true _ h66) (ai (F14_ok fuel (r23.1.1, r23.1.2) (r40.1, r40.2) _ h67) t)
                                                      refine oif_elim g67 (fun h68 g68 => ?_) (fun h68 g68 => ?_)
                                                      · subst h68
                                                        have hr := Option.some.inj g68
                                                        subst hr
                                                        exact callP_of is7 rfl (path hm (ks := [0]) (σ' := ⟨[(0, .p (.bool true))], [.cells [.p (.int .i64 r1.1), .p (.sl (List.map e62 r1.2) false)] 0, .cells [.p (.int .i64 r2.1), .p (.sl (List.map e62 r2.2) false)] 0, .cells [.p (.int .i64 r3.1), .p (.sl (List.map e62 r3.2) false)] 0, .cells [.p (.int .i64 r18.1.1), .p (.sl (List.map e62 r18.1.2) false)] 0, .cells [.p (.int .i64 r21.1.1), .p (.sl (List.map e62 r21.1.2) false)] 0, .cells [.p (.int .i64 r22.1.1), .p (.sl (List.map e62 r22.1.2) false)] 0, .cells [.p (.int .i64 r23.1.1), .p (.sl (List.map e62 r23.1.2) false)] 0, .cells [.p (.int .i64 r24.1.1), .p (.sl (List.map e62 r24.1.2) false)] 0]⟩) (cc := c157 ++ [.reg [0, 0, 2, 7, 15, 31, 31, 95, 255, 511, 1023, 2047, 4095, 8191, 16383, 32767, 32767, 98303, 262143, 524287, 1048575, 2097151, 2097151, 6291455, 16777215, 33554431, 67108863, 134217727, 134217727, 402653183, 1073741823, 2147483647, 4294967295, 8589934591, 8589934591, 25769803775, 68719476735, 137438953471, 274877906943, 549755813887, 549755813887, 1649267441663, 4398046511103, 8796093022207, 17592186044415, 35184372088831, 35184372088831, 105553116266495, 281474976710655, 562949953421311, 1125899906842623, 2251799813685247, 2251799813685247, 6755399441055743, 18014398509481983, 36028797018963967, 72057594037927935] [] 0 [(2, none, .call (.sl (List.map e2 r25) false)), (3, none, .call (.bool true)), (7, none, .call (.sl (List.map e3 r12) false)), (8, none, .call (.bool true)), (12, none, .b true), (17, none, .call (.sl (List.map e3 r28) false)), (18, none, .call (.bool true)), (23, none, .call (.agg [.int .i64 r30.1, .sl (List.map e62 r30.2) false])), (24, none, .call (.bool true)), (29, none, .call (.sl (List.map e3 r32) false)), (30, none, .call (.bool true)), (35, none, .call (.sl (List.map e3 r34) false)), (36, none, .call (.bool true)), (41, none, .call (.agg [.int .i64 r36.1, .sl (List.map e62 r36.2) false])), (42, none, .call (.bool true)), (47, none, .call (.agg [.int .i64 r38.1, .sl (List.map e62 r38.2) false])), (48, none, .call (.bool true)), (53, none, .call (.agg [.int .i64 r40.1, .sl (List.map e62 r40.2) false])), (54, none, .call (.bool true))] [0]])
      (q150 (q151 (q152 (q153 (q154 (q155 (q156 (q158 (q159 (q160 (q161 (q162 (q163 (q164 (q165 (q166 trivial)))))))))))))))) (by kernel_rfl)) (e := .ret) rfl (vs := [.p (.bool true)]) trivial (by kernel_rfl) (.p _ _ (.refl _))
                                                      · subst h68
                                                        have hr := Option.some.inj g68
                                                        subst hr
                                                        exact callP_of is7 rfl (path hm (ks := [0]) (σ' := ⟨[(0, .p (.bool false))], [.cells [.p (.int .i64 r1.1), .p (.sl (List.map e62 r1.2) false)] 0, .cells [.p (.int .i64 r2.1), .p (.sl (List.map e62 r2.2) false)] 0, .cells [.p (.int .i64 r3.1), .p (.sl (List.map e62 r3.2) false)] 0, .cells [.p (.int .i64 r18.1.1), .p (.sl (List.map e62 r18.1.2) false)] 0, .cells [.p (.int .i64 r21.1.1), .p (.sl (List.map e62 r21.1.2) false)] 0, .cells [.p (.int .i64 r22.1.1), .p (.sl (List.map e62 r22.1.2) false)] 0, .cells [.p (.int .i64 r23.1.1), .p (.sl (List.map e62 r23.1.2) false)] 0, .cells [.p (.int .i64 r24.1.1), .p (.sl (List.map e62 r24.1.2) false)] 0]⟩) (cc := c157 ++ [.reg [0, 0, 2, 7, 15, 31, 31, 95, 255, 511, 1023, 2047, 4095, 8191, 16383, 32767, 32767, 98303, 262143, 524287, 1048575, 2097151, 2097151, 6291455, 16777215, 33554431, 67108863, 134217727, 134217727, 402653183, 1073741823, 2147483647, 4294967295, 8589934591, 8589934591, 25769803775, 68719476735, 137438953471, 274877906943, 549755813887, 549755813887, 1649267441663, 4398046511103, 8796093022207, 17592186044415, 35184372088831, 35184372088831, 105553116266495, 281474976710655, 562949953421311, 1125899906842623, 2251799813685247, 2251799813685247, 6755399441055743, 18014398509481983, 36028797018963967, 72057594037927935] [] 0 [(2, none, .call (.sl (List.map e2 r25) false)), (3, none, .call (.bool true)), (7, none, .call (.sl (List.map e3 r12) false)), (8, none, .call (.bool true)), (12, none, .b true), (17, none, .call (.sl (List.map e3 r28) false)), (18, none, .call (.bool true)), (23, none, .call (.agg [.int .i64 r30.1, .sl (List.map e62 r30.2) false])), (24, none, .call (.bool true)), (29, none, .call (.sl (List.map e3 r32) false)), (30, none, .call (.bool true)), (35, none, .call (.sl (List.map e3 r34) false)), (36, none, .call (.bool true)), (41, none, .call (.agg [.int .i64 r36.1, .sl (List.map e62 r36.2) false])), (42, none, .call (.bool true)), (47, none, .call (.agg [.int .i64 r38.1, .sl (List.map e62 r38.2) false])), (48, none, .call (.bool true)), (53, none, .call (.agg [.int .i64 r40.1, .sl (List.map e62 r40.2) false])), (54, none, .call (.bool false))] [0]])
      (q150 (q151 (q152 (q153 (q154 (q155 (q156 (q158 (q159 (q160 (q161 (q162 (q163 (q164 (q165 (q166 trivial)))))))))))))))) (by kernel_rfl)) (e := .ret) rfl (vs := [.p (.bool false)]) trivial (by kernel_rfl) (.p _ _ (.refl _))
                                                    · subst h65
                                                      have hr := Option.some.inj g65
                                                      subst hr
                                                      exact callP_of is7 rfl (path hm (ks := [0]) (σ' := ⟨[(0, .p (.bool false))], [.cells [.p (.int .i64 r1.1), .p (.sl (List.map e62 r1.2) false)] 0, .cells [.p (.int .i64 r2.1), .p (.sl (List.map e62 r2.2) false)] 0, .cells [.p (.int .i64 r3.1), .p (.sl (List.map e62 r3.2) false)] 0, .cells [.p (.int .i64 r18.1.1), .p (.sl (List.map e62 r18.1.2) false)] 0, .cells [.p (.int .i64 r21.1.1), .p (.sl (List.map e62 r21.1.2) false)] 0, .cells [.p (.int .i64 r22.1.1), .p (.sl (List.map e62 r22.1.2) false)] 0, .cells [.p (.int .i64 r23.1.1), .p (.sl (List.map e62 r23.1.2) false)] 0, .cells [.p (.int .i64 r24.1.1), .p (.sl (List.map e62 r24.1.2) false)] 0]⟩) (cc := c157 ++ [.reg [0, 0, 2, 7, 15, 31, 31, 95, 255, 511, 1023, 2047, 4095, 8191, 16383, 32767, 32767, 98303, 262143, 524287, 1048575, 2097151, 2097151, 6291455, 16777215, 33554431, 67108863, 134217727, 134217727, 402653183, 1073741823, 2147483647, 4294967295, 8589934591, 8589934591, 25769803775, 68719476735, 137438953471, 274877906943, 549755813887, 549755813887, 1649267441663, 4398046511103, 8796093022207, 17592186044415, 35184372088831, 35184372088831, 105553116266495, 281474976710655, 562949953421311, 1125899906842623, 2251799813685247, 2251799813685247, 6755399441055743, 18014398509481983, 36028797018963967, 72057594037927935] [] 0 [(2, none, .call (.sl (List.map e2 r25) false)), (3, none, .call (.bool true)), (7, none, .call (.sl (List.map e3 r12) false)), (8, none, .call (.bool true)), (12, none, .b true), (17, none, .call (.sl (List.map e3 r28) false)), (18, none, .call (.bool true)), (23, none, .call (.agg [.int .i64 r30.1, .sl (List.map e62 r30.2) false])), (24, none, .call (.bool true)), (29, none, .call (.sl (List.map e3 r32) false)), (30, none, .call (.bool true)), (35, none, .call (.sl (List.map e3 r34) false)), (36, none, .call (.bool true)), (41, none, .call (.agg [.int .i64 r36.1, .sl (List.map e62 r36.2) false])), (42, none, .call (.bool true)), (47, none, .call (.agg [.int .i64 r38.1, .sl (List.map e62 r38.2) false])), (48, none, .call (.bool false))] [0]])
      (q150 (q151 (q152 (q153 (q154 (q155 (q156 (q158 (q159 (q160 (q161 (q162 (q163 (q164 (q165 trivial))))))))))))))) (by kernel_rfl)) (e := .ret) rfl (vs := [.p (.bool false)]) trivial (by kernel_rfl) (.p _ _ (.refl _))
                                                  · subst h62
                                                    have hr := Option.some.inj g62
                                                    subst hr
                                                    exact callP_of is7 rfl (path hm (ks := [0]) (σ' := ⟨[(0, .p (.bool false))], [.cells [.p (.int .i64 r1.1), .p (.sl (List.map e62 r1.2) false)] 0, .cells [.p (.int .i64 r2.1), .p (.sl (List.map e62 r2.2) false)] 0, .cells [.p (.int .i64 r3.1), .p (.sl (List.map e62 r3.2) false)] 0, .cells [.p (.int .i64 r18.1.1), .p (.sl (List.map e62 r18.1.2) false)] 0, .cells [.p (.int .i64 r21.1.1), .p (.sl (List.map e62 r21.1.2) false)] 0, .cells [.p (.int .i64 r22.1.1), .p (.sl (List.map e62 r22.1.2) false)] 0, .cells [.p (.int .i64 r23.1.1), .p (.sl (List.map e62 r23.1.2) false)] 0, .cells [.p (.int .i64 r24.1.1), .p (.sl (List.map e62 r24.1.2) false)] 0]⟩) (cc := c157 ++ [.reg [0, 0, 2, 7, 15, 31, 31, 95, 255, 511, 1023, 2047, 4095, 8191, 16383, 32767, 32767, 98303, 262143, 524287, 1048575, 2097151, 2097151, 6291455, 16777215, 33554431, 67108863, 134217727, 134217727, 402653183, 1073741823, 2147483647, 4294967295, 8589934591, 8589934591, 25769803775, 68719476735, 137438953471, 274877906943, 549755813887, 549755813887, 1649267441663, 4398046511103, 8796093022207, 17592186044415, 35184372088831, 35184372088831, 105553116266495, 281474976710655, 562949953421311, 1125899906842623, 2251799813685247, 2251799813685247, 6755399441055743, 18014398509481983, 36028797018963967, 72057594037927935] [] 0 [(2, none, .call (.sl (List.map e2 r25) false)), (3, none, .call (.bool true)), (7, none, .call (.sl (List.map e3 r12) false)), (8, none, .call (.bool true)), (12, none, .b true), (17, none, .call (.sl (List.map e3 r28) false)), (18, none, .call (.bool true)), (23, none, .call (.agg [.int .i64 r30.1, .sl (List.map e62 r30.2) false])), (24, none, .call (.bool true)), (29, none, .call (.sl (List.map e3 r32) false)), (30, none, .call (.bool true)), (35, none, .call (.sl (List.map e3 r34) false)), (36, none, .call (.bool true)), (41, none, .call (.agg [.int .i64 r36.1, .sl (List.map e62 r36.2) false])), (42, none, .call (.bool false))] [0]])
      (q150 (q151 (q152 (q153 (q154 (q155 (q156 (q158 (q159 (q160 (q161 (q162 (q163 (q164 trivial)))))))))))))) (by kernel_rfl)) (e := .ret) rfl (vs := [.p (.bool false)]) trivial (by kernel_rfl) (.p _ _ (.refl _))
                                                · subst h59
                                                  have hr := Option.some.inj g59
                                                  subst hr
                                                  exact callP_of is7 rfl (path hm (ks := [0]) (σ' := ⟨[(0, .p (.bool false))], [.cells [.p (.int .i64 r1.1), .p (.sl (List.map e62 r1.2) false)] 0, .cells [.p (.int .i64 r2.1), .p (.sl (List.map e62 r2.2) false)] 0, .cells [.p (.int .i64 r3.1), .p (.sl (List.map e62 r3.2) false)] 0, .cells [.p (.int .i64 r18.1.1), .p (.sl (List.map e62 r18.1.2) false)] 0, .cells [.p (.int .i64 r21.1.1), .p (.sl (List.map e62 r21.1.2) false)] 0, .cells [.p (.int .i64 r22.1.1), .p (.sl (List.map e62 r22.1.2) false)] 0, .cells [.p (.int .i64 r23.1.1), .p (.sl (List.map e62 r23.1.2) false)] 0, .cells [.p (.int .i64 r24.1.1), .p (.sl (List.map e62 r24.1.2) false)] 0]⟩) (cc := c157 ++ [.reg [0, 0, 2, 7, 15, 31, 31, 95, 255, 511, 1023, 2047, 4095, 8191, 16383, 32767, 32767, 98303, 262143, 524287, 1048575, 2097151, 2097151, 6291455, 16777215, 33554431, 67108863, 134217727, 134217727, 402653183, 1073741823, 2147483647, 4294967295, 8589934591, 8589934591, 25769803775, 68719476735, 137438953471, 274877906943, 549755813887, 549755813887, 1649267441663, 4398046511103, 8796093022207, 17592186044415, 35184372088831, 35184372088831, 105553116266495, 281474976710655, 562949953421311, 1125899906842623, 2251799813685247, 2251799813685247, 6755399441055743, 18014398509481983, 36028797018963967, 72057594037927935] [] 0 [(2, none, .call (.sl (List.map e2 r25) false)), (3, none, .call (.bool true)), (7, none, .call (.sl (List.map e3 r12) false)), (8, none, .call (.bool true)), (12, none, .b true), (17, none, .call (.sl (List.map e3 r28) false)), (18, none, .call (.bool true)), (23, none, .call (.agg [.int .i64 r30.1, .sl (List.map e62 r30.2) false])), (24, none, .call (.bool true)), (29, none, .call (.sl (List.map e3 r32) false)), (30, none, .call (.bool true)), (35, none, .call (.sl (List.map e3 r34) false)), (36, none, .call (.bool false))] [0]])
      (q150 (q151 (q152 (q153 (q154 (q155 (q156 (q158 (q159 (q160 (q161 (q162 (q163 trivial))))))))))))) (by kernel_rfl)) (e := .ret) rfl (vs := [.p (.bool false)]) trivial (by kernel_rfl) (.p _ _ (.refl _))
                                              · subst h56
                                                have hr := Option.some.inj g56
                                                subst hr
                                                exact callP_of is7 rfl (path hm (ks := [0]) (σ' := ⟨[(0, .p (.bool false))], [.cells [.p (.int .i64 r1.1), .p (.sl (List.map e62 r1.2) false)] 0, .cells [.p (.int .i64 r2.1), .p (.sl (List.map e62 r2.2) false)] 0, .cells [.p (.int .i64 r3.1), .p (.sl (List.map e62 r3.2) false)] 0, .cells [.p (.int .i64 r18.1.1), .p (.sl (List.map e62 r18.1.2) false)] 0, .cells [.p (.int .i64 r21.1.1), .p (.sl (List.map e62 r21.1.2) false)] 0, .cells [.p (.int .i64 r22.1.1), .p (.sl (List.map e62 r22.1.2) false)] 0, .cells [.p (.int .i64 r23.1.1), .p (.sl (List.map e62 r23.1.2) false)] 0, .cells [.p (.int .i64 r24.1.1), .p (.sl (List.map e62 r24.1.2) false)] 0]⟩) (cc := c157 ++ [.reg [0, 0, 2, 7, 15, 31, 31, 95, 255, 511, 1023, 2047, 4095, 8191, 16383, 32767, 32767, 98303, 262143, 524287, 1048575, 2097151, 2097151, 6291455, 16777215, 33554431, 67108863, 134217727, 134217727, 402653183, 1073741823, 2147483647, 4294967295, 8589934591, 8589934591, 25769803775, 68719476735, 137438953471, 274877906943, 549755813887, 549755813887, 1649267441663, 4398046511103, 8796093022207, 17592186044415, 35184372088831, 35184372088831, 105553116266495, 281474976710655, 562949953421311, 1125899906842623, 2251799813685247, 2251799813685247, 6755399441055743, 18014398509481983, 36028797018963967, 72057594037927935] [] 0 [(2, none, .call (.sl (List.map e2 r25) false)), (3, none, .call (.bool true)), (7, none, .call (.sl (List.map e3 r12) false)), (8, none, .call (.bool true)), (12, none, .b true), (17, none, .call (.sl (List.map e3 r28) false)), (18, none, .call (.bool true)), (23, none, .call (.agg [.int .i64 r30.1, .sl (List.map e62 r30.2) false])), (24, none, .call (.bool true)), (29, none, .call (.sl (List.map e3 r32) false)), (30, none, .call (.bool false))] [0]])
      (q150 (q151 (q152 (q153 (q154 (q155 (q156 (q158 (q159 (q160 (q161 (q162 trivial)))))))))))) (by kernel_rfl)) (e := .ret) rfl (vs := [.p (.bool false)]) trivial (by kernel_rfl) (.p _ _ (.refl _))
                                            · subst h53
                                              have hr := Option.some.inj g53
                                              subst hr
                                              exact callP_of is7 rfl (path hm (ks := [0]) (σ' := ⟨[(0, .p (.bool false))], [.cells [.p (.int .i64 r1.1), .p (.sl (List.map e62 r1.2) false)] 0, .cells [.p (.int .i64 r2.1), .p (.sl (List.map e62 r2.2) false)] 0, .cells [.p (.int .i64 r3.1), .p (.sl (List.map e62 r3.2) false)] 0, .cells [.p (.int .i64 r18.1.1), .p (.sl (List.map e62 r18.1.2) false)] 0, .cells [.p (.int .i64 r21.1.1), .p (.sl (List.map e62 r21.1.2) false)] 0, .cells [.p (.int .i64 r22.1.1), .p (.sl (List.map e62 r22.1.2) false)] 0, .cells [.p (.int .i64 r23.1.1), .p (.sl (List.map e62 r23.1.2) false)] 0, .cells [.p (.int .i64 r24.1.1), .p (.sl (List.map e62 r24.1.2) false)] 0]⟩) (cc := c157 ++ [.reg [0, 0, 2, 7, 15, 31, 31, 95, 255, 511, 1023, 2047, 4095, 8191, 16383, 32767, 32767, 98303, 262143, 524287, 1048575, 2097151, 2097151, 6291455, 16777215, 33554431, 67108863, 134217727, 134217727, 402653183, 1073741823, 2147483647, 4294967295, 8589934591, 8589934591, 25769803775, 68719476735, 137438953471, 274877906943, 549755813887, 549755813887, 1649267441663, 4398046511103, 8796093022207, 17592186044415, 35184372088831, 35184372088831, 105553116266495, 281474976710655, 562949953421311, 1125899906842623, 2251799813685247, 2251799813685247, 6755399441055743, 18014398509481983, 36028797018963967, 72057594037927935] [] 0 [(2, none, .call (.sl (List.map e2 r25) false)), (3, none, .call (.bool true)), (7, none, .call (.sl (List.map e3 r12) false)), (8, none, .call (.bool true)), (12, none, .b true), (17, none, .call (.sl (List.map e3 r28) false)), (18, none, .call (.bool true)), (23, none, .call (.agg [.int .i64 r30.1, .sl (List.map e62 r30.2) false])), (24, none, .call (.bool false))] [0]])
      (q150 (q151 (q152 (q153 (q154 (q155 (q156 (q158 (q159 (q160 (q161 trivial))))))))))) (by kernel_rfl)) (e := .ret) rfl (vs := [.p (.bool false)]) trivial (by kernel_rfl) (.p _ _ (.refl _))
                                          · subst h50
                                            have hr := Option.some.inj g50
                                            subst hr
                                            exact callP_of is7 rfl (path hm (ks := [0]) (σ' := ⟨[(0, .p (.bool false))], [.cells [.p (.int .i64 r1.1), .p (.sl (List.map e62 r1.2) false)] 0, .cells [.p (.int .i64 r2.1), .p (.sl (List.map e62 r2.2) false)] 0, .cells [.p (.int .i64 r3.1), .p (.sl (List.map e62 r3.2) false)] 0, .cells [.p (.int .i64 r18.1.1), .p (.sl (List.map e62 r18.1.2) false)] 0, .cells [.p (.int .i64 r21.1.1), .p (.sl (List.map e62 r21.1.2) false)] 0, .cells [.p (.int .i64 r22.1.1), .p (.sl (List.map e62 r22.1.2) false)] 0, .cells [.p (.int .i64 r23.1.1), .p (.sl (List.map e62 r23.1.2) false)] 0, .cells [.p (.int .i64 r24.1.1), .p (.sl (List.map e62 r24.1.2) false)] 0]⟩) (cc := c157 ++ [.reg [0, 0, 2, 7, 15, 31, 31, 95, 255, 511, 1023, 2047, 4095, 8191, 16383, 32767, 32767, 98303, 262143, 524287, 1048575, 2097151, 2097151, 6291455, 16777215, 33554431, 67108863, 134217727, 134217727, 402653183, 1073741823, 2147483647, 4294967295, 8589934591, 8589934591, 25769803775, 68719476735, 137438953471, 274877906943, 549755813887, 549755813887, 1649267441663, 4398046511103, 8796093022207, 17592186044415, 35184372088831, 35184372088831, 105553116266495, 281474976710655, 562949953421311, 1125899906842623, 2251799813685247, 2251799813685247, 6755399441055743, 18014398509481983, 36028797018963967, 72057594037927935] [] 0 [(2, none, .call (.sl (List.map e2 r25) false)), (3, none, .call (.bool true)), (7, none, .call (.sl (List.map e3 r12) false)), (8, none, .call (.bool true)), (12, none, .b true), (17, none, .call (.sl (List.map e3 r28) false)), (18, none, .call (.bool false))] [0]])
      (q150 (q151 (q152 (q153 (q154 (q155 (q156 (q158 (q159 (q160 trivial)))))))))) (by kernel_rfl)) (e := .ret) rfl (vs := [.p (.bool false)]) trivial (by kernel_rfl) (.p _ _ (.refl _))
                                        · have hr := Option.some.inj g47
                                          subst hr
                                          exact callP_of is7 rfl (path hm (ks := [0]) (σ' := ⟨[(0, .p (.bool false))], [.cells [.p (.int .i64 r1.1), .p (.sl (List.map e62 r1.2) false)] 0, .cells [.p (.int .i64 r2.1), .p (.sl (List.map e62 r2.2) false)] 0, .cells [.p (.int .i64 r3.1), .p (.sl (List.map e62 r3.2) false)] 0, .cells [.p (.int .i64 r18.1.1), .p (.sl (List.map e62 r18.1.2) false)] 0, .cells [.p (.int .i64 r21.1.1), .p (.sl (List.map e62 r21.1.2) false)] 0, .cells [.p (.int .i64 r22.1.1), .p (.sl (List.map e62 r22.1.2) false)] 0, .cells [.p (.int .i64 r23.1.1), .p (.sl (List.map e62 r23.1.2) false)] 0, .cells [.p (.int .i64 r24.1.1), .p (.sl (List.map e62 r24.1.2) false)] 0]⟩) (cc := c157 ++ [.reg [0, 0, 2, 7, 15, 31, 31, 95, 255, 511, 1023, 2047, 4095, 8191, 16383, 32767, 32767, 98303, 262143, 524287, 1048575, 2097151, 2097151, 6291455, 16777215, 33554431, 67108863, 134217727, 134217727, 402653183, 1073741823, 2147483647, 4294967295, 8589934591, 8589934591, 25769803775, 68719476735, 137438953471, 274877906943, 549755813887, 549755813887, 1649267441663, 4398046511103, 8796093022207, 17592186044415, 35184372088831, 35184372088831, 105553116266495, 281474976710655, 562949953421311, 1125899906842623, 2251799813685247, 2251799813685247, 6755399441055743, 18014398509481983, 36028797018963967, 72057594037927935] [] 0 [(2, none, .call (.sl (List.map e2 r25) false)), (3, none, .call (.bool true)), (7, none, .call (.sl (List.map e3 r12) false)), (8, none, .call (.bool true)), (12, none, .b false)] [0]])
      (q150 (q151 (q152 (q153 (q154 (q155 (q156 (q158 (q159 (ai h47 trivial)))))))))) (by kernel_rfl)) (e := .ret) rfl (vs := [.p (.bool false)]) trivial (by kernel_rfl) (.p _ _ (.refl _))
                                      · subst h46
                                        have hr := Option.some.inj g46
                                        subst hr
                                        exact callP_of is7 rfl (path hm (ks := [0]) (σ' := ⟨[(0, .p (.bool false))], [.cells [.p (.int .i64 r1.1), .p (.sl (List.map e62 r1.2) false)] 0, .cells [.p (.int .i64 r2.1), .p (.sl (List.map e62 r2.2) false)] 0, .cells [.p (.int .i64 r3.1), .p (.sl (List.map e62 r3.2) false)] 0, .cells [.p (.int .i64 r18.1.1), .p (.sl (List.map e62 r18.1.2) false)] 0, .cells [.p (.int .i64 r21.1.1), .p (.sl (List.map e62 r21.1.2) false)] 0, .cells [.p (.int .i64 r22.1.1), .p (.sl (List.map e62 r22.1.2) false)] 0, .cells [.p (.int .i64 r23.1.1), .p (.sl (List.map e62 r23.1.2) false)] 0, .cells [.p (.int .i64 r24.1.1), .p (.sl (List.map e62 r24.1.2) false)] 0]⟩) (cc := c157 ++ [.reg [0, 0, 2, 7, 15, 31, 31, 95, 255, 511, 1023, 2047, 4095, 8191, 16383, 32767, 32767, 98303, 262143, 524287, 1048575, 2097151, 2097151, 6291455, 16777215, 33554431, 67108863, 134217727, 134217727, 402653183, 1073741823, 2147483647, 4294967295, 8589934591, 8589934591, 25769803775, 68719476735, 137438953471, 274877906943, 549755813887, 549755813887, 1649267441663, 4398046511103, 8796093022207, 17592186044415, 35184372088831, 35184372088831, 105553116266495, 281474976710655, 562949953421311, 1125899906842623, 2251799813685247, 2251799813685247, 6755399441055743, 18014398509481983, 36028797018963967, 72057594037927935] [] 0 [(2, none, .call (.sl (List.map e2 r25) false)), (3, none, .call (.bool true)), (7, none, .call (.sl (List.map e3 r12) false)), (8, none, .call (.bool false))] [0]])
      (q150 (q151 (q152 (q153 (q154 (q155 (q156 (q158 (q159 trivial))))))))) (by kernel_rfl)) (e := .ret) rfl (vs := [.p (.bool false)]) trivial (by kernel_rfl) (.p _ _ (.refl _))
                                    · subst h44
                                      have hr := Option.some.inj g44
                                      subst hr
                                      exact callP_of is7 rfl (path hm (ks := [0]) (σ' := ⟨[(0, .p (.bool false))], [.cells [.p (.int .i64 r1.1), .p (.sl (List.map e62 r1.2) false)] 0, .cells [.p (.int .i64 r2.1), .p (.sl (List.map e62 r2.2) false)] 0, .cells [.p (.int .i64 r3.1), .p (.sl (List.map e62 r3.2) false)] 0, .cells [.p (.int .i64 r18.1.1), .p (.sl (List.map e62 r18.1.2) false)] 0, .cells [.p (.int .i64 r21.1.1), .p (.sl (List.map e62 r21.1.2) false)] 0, .cells [.p (.int .i64 r22.1.1), .p (.sl (List.map e62 r22.1.2) false)] 0, .cells [.p (.int .i64 r23.1.1), .p (.sl (List.map e62 r23.1.2) false)] 0, .cells [.p (.int .i64 r24.1.1), .p (.sl (List.map e62 r24.1.2) false)] 0]⟩) (cc := c157 ++ [.reg [0, 0, 2, 7, 15, 31, 31, 95, 255, 511, 1023, 2047, 4095, 8191, 16383, 32767, 32767, 98303, 262143, 524287, 1048575, 2097151, 2097151, 6291455, 16777215, 33554431, 67108863, 134217727, 134217727, 402653183, 1073741823, 2147483647, 4294967295, 8589934591, 8589934591, 25769803775, 68719476735, 137438953471, 274877906943, 549755813887, 549755813887, 1649267441663, 4398046511103, 8796093022207, 17592186044415, 35184372088831, 35184372088831, 105553116266495, 281474976710655, 562949953421311, 1125899906842623, 2251799813685247, 2251799813685247, 6755399441055743, 18014398509481983, 36028797018963967, 72057594037927935] [] 0 [(2, none, .call (.sl (List.map e2 r25) false)), (3, none, .call (.bool false))] [0]])
      (q150 (q151 (q152 (q153 (q154 (q155 (q156 (q158 trivial)))))))) (by kernel_rfl)) (e := .ret) rfl (vs := [.p (.bool false)]) trivial (by kernel_rfl) (.p _ _ (.refl _))
def F8 (fuel : Nat) (p0 : (Int × (List (Int × Int)))) : Option (Int × (List (Int × Int))) :=
  oif (List.isEmpty p0.2)
  (some (p0.1, []))
  (oif (decide ((List.length (List.map e62 p0.2)) * 16 ≤ 140737488355328)) (some (p0.1, p0.2)) none)
theorem F8_ok (fuel : Nat) (p0 : (Int × (List (Int × Int))))  (r : (Int × (List (Int × Int)))) (h : F8 fuel p0 = some r) : CallP prog 8 [.agg [.int .i64 p0.1, .sl (List.map e62 p0.2) false]] (.agg [.int .i64 r.1, .sl (List.map e62 r.2) false]) := by
  unfold F8 at h
  refine oif_elim h (fun h1 g1 => ?_) (fun h1 g1 => ?_)
  · have hr := Option.some.inj g1
    subst hr
    exact callP_of is8 rfl (path hm (ks := [2]) (σ' := ⟨[(2, .ptr 0 0 2)], [.cells [.p (.int .i64 p0.1), .p (.nilsl)] 0]⟩) (cc := [.reg [] [] 1 [(0, none, .imm), (1, some 0, .a)] [1, 2], .reg [0, 1, 0, 4, 12, 31, 63] [(0, 6)] 0 [(4, none, .b true)] [2]])
      (ai (isEmpty_len e62 h1) (ai (row_sc el62 p0.2) (ai (row_es el62 p0.2) trivial))) (by kernel_rfl)) (e := .ret) rfl (vs := [.agg [.p (.int .i64 p0.1), .p (.nilsl)]]) (ai (rfl : (2:Nat) = 2) (ai (by decide : (2:Nat) ≤ 2) trivial)) (by kernel_rfl) (.agg _ _ (.cons _ _ _ _ (.p _ _ (.refl _)) (.cons _ _ _ _ (.p _ _ (.nil _)) .nil)))
  · refine oif_elim g1 (fun h2 g2 => ?_) (fun _ h => nomatch h)
    have hr := Option.some.inj g2
    subst hr
    exact callP_of is8 rfl (path hm (ks := [2]) (σ' := ⟨[(2, .ptr 0 0 2)], [.cells [.p (.int .i64 p0.1), .msl 1 0 (List.length p0.2) (List.length (rowI e62 p0.2)) false] 0, .cells (rowI e62 p0.2) 2]⟩) (cc := [.reg [] [] 1 [(0, none, .imm), (1, some 0, .a)] [1, 2], .reg [0, 1, 0, 4, 12, 31, 63] [(1, 4), (0, 6)] 1 [(4, some 1, .ap (rowI e62 p0.2) (List.length p0.2) (List.length (rowI e62 p0.2)))] [2]])
      (ai (notEmpty_len e62 h1) (ai (od h2) (ai (app_c0 (by decide) (od h2)) (ai (len_map2 e62 p0.2) (ai (rl (List.length (rowI e62 p0.2))) (ai (row_src e62 p0.2) (ai (row_sc el62 p0.2) (ai (row_es el62 p0.2) trivial)))))))) (by kernel_rfl)) (e := .ret) rfl (vs := [.agg [.p (.int .i64 p0.1), .msl 1 0 (List.length p0.2) (List.length (rowI e62 p0.2)) false]]) (ai (rfl : (2:Nat) = 2) (ai (by decide : (2:Nat) ≤ 2) trivial)) (by kernel_rfl) (.agg _ _ (.cons _ _ _ _ (.p _ _ (.refl _)) (.cons _ _ _ _ (snap_row (g := 2) (L := p0.2) el62 (by kernel_rfl) (rl (List.length (rowI e62 p0.2))) (rl (List.length p0.2))) .nil)))
def L12_0 (v1 : Int) (v1_1 : (List (Int × Int))) : Nat → Int → Option (Unit ⊕ Unit)
  | 0, _ => none
  | fuel + 1, v3 =>
    oif ((decide (v3 < (v1_1.length : Int))))
    (obind (sg v1_1 v3) fun x1 => oif ((decide (x1.1 < 0)))
      (some (.inl ()))
      (oif ((decide (x1.1 ≥ x1.2)))
        (some (.inl ()))
        (oif ((decide (x1.2 ≥ v1)))
          (some (.inl ()))
          (L12_0 v1 v1_1 fuel (IntKind.wrap .i64 (v3 + 1))))))
    (some (.inr (())))
noncomputable def L12_0_post (v1 : Int) (v1_1 : (List (Int × Int)))  : (Unit ⊕ Unit) → Ex × St
  | .inl y => (.ret, ⟨[(2, .p (.int .i64 2))], []⟩)
  | .inr (y) => ((.exit 0), ⟨[], []⟩)
theorem L12_0_ok (v1 : Int) (v1_1 : (List (Int × Int)))  : ∀ (fuel : Nat) (v3 : Int) (r : (Unit ⊕ Unit)), L12_0 v1 v1_1 fuel v3 = some r →
    SemJ prog ⟨48, 0, false⟩ (codeAt [1, 1, 0, 1, 0, 0] (bodyOf f12)) ⟨[(1, .p (.ref [.int .i64 v1, .sl (List.map e62 v1_1) false])), (3, .p (.int .i64 v3))], []⟩ (L12_0_post v1 v1_1 r).1 (L12_0_post v1 v1_1 r).2
  | 0, _, _, h => nomatch h
  | fuel + 1, v3, r, h => by
    unfold L12_0 at h
    refine oif_elim h (fun h1 g1 => ?_) (fun h1 g1 => ?_)
    · refine obind_elim g1 fun x1 h2 g2 => ?_
      let c167 : List CC := [.reg [] [] 0 [(3, none, .n (v1_1.length : Int)), (4, none, .b true)] [1, 3, 23], .reg [] [] 1 [(3, none, .iv (.p (.agg [.int .i64 x1.1, .int .i64 x1.2]))), (5, some 0, .a)] [1, 3, 4]]
      have q168 := fun {P : Prop} (t : P) => ai (len_map e62 v1_1) (ai h1 (ai (sg_map (f := e62) h2) t))
      refine oif_elim g2 (fun h3 g3 => ?_) (fun h3 g3 => ?_)
      · have hr := Option.some.inj g3
        subst hr
        exact SemC.cast (SemJ.out (e := .ret) (SemC.post (path hm (σ' := ⟨[(2, .p (.int .i64 2))], [.cells [.p (.int .i64 x1.1), .p (.int .i64 x1.2)] 0]⟩) (ks := [2]) (cc := c167 ++ [.reg [] [] 0 [(2, none, .b true)] [1, 3, 47], .reg [] [] 0 [] [2]])
        (q168 (ai (by decide : (0:Int) ≤ 0) (ai (by decide : (0:Int) < ((2:Nat):Int)) (ai h3 trivial)))) (by kernel_rfl)) (Weak.sel (E := [(2, .p (.int .i64 2))]) (E' := [(2, .p (.int .i64 2))]) (H := [.cells [.p (.int .i64 x1.1), .p (.int .i64 x1.2)] 0]) (H' := []) [] trivial (by kernel_rfl) (by kernel_rfl))) (by simp)) (by kernel_rfl) (by kernel_rfl)
      · refine oif_elim g3 (fun h4 g4 => ?_) (fun h4 g4 => ?_)
        · have hr := Option.some.inj g4
          subst hr
          exact SemC.cast (SemJ.out (e := .ret) (SemC.post (path hm (σ' := ⟨[(2, .p (.int .i64 2))], [.cells [.p (.int .i64 x1.1), .p (.int .i64 x1.2)] 0]⟩) (ks := [2]) (cc := c167 ++ [.reg [] [] 0 [(2, none, .b false), (8, none, .b true)] [1, 3, 47], .reg [] [] 0 [] [2]])
        (q168 (ai (by decide : (0:Int) ≤ 0) (ai (by decide : (0:Int) < ((2:Nat):Int)) (ai h3 (ai (by decide : (0:Int) ≤ 0) (ai (by decide : (0:Int) < ((2:Nat):Int)) (ai (by decide : (0:Int) ≤ 1) (ai (by decide : (1:Int) < ((2:Nat):Int)) (ai h4 trivial))))))))) (by kernel_rfl)) (Weak.sel (E := [(2, .p (.int .i64 2))]) (E' := [(2, .p (.int .i64 2))]) (H := [.cells [.p (.int .i64 x1.1), .p (.int .i64 x1.2)] 0]) (H' := []) [] trivial (by kernel_rfl) (by kernel_rfl))) (by simp)) (by kernel_rfl) (by kernel_rfl)
        · refine oif_elim g4 (fun h5 g5 => ?_) (fun h5 g5 => ?_)
          · have hr := Option.some.inj g5
            subst hr
            exact SemC.cast (SemJ.out (e := .ret) (SemC.post (path hm (σ' := ⟨[(2, .p (.int .i64 2))], [.cells [.p (.int .i64 x1.1), .p (.int .i64 x1.2)] 0]⟩) (ks := [2]) (cc := c167 ++ [.reg [] [] 0 [(2, none, .b false), (8, none, .b false), (15, none, .b true)] [1, 3, 47], .reg [] [] 0 [] [2]])
        (q168 (ai (by decide : (0:Int) ≤ 0) (ai (by decide : (0:Int) < ((2:Nat):Int)) (ai h3 (ai (by decide : (0:Int) ≤ 0) (ai (by decide : (0:Int) < ((2:Nat):Int)) (ai (by decide : (0:Int) ≤ 1) (ai (by decide : (1:Int) < ((2:Nat):Int)) (ai h4 (ai (by decide : (0:Int) ≤ 1) (ai (by decide : (1:Int) < ((2:Nat):Int)) (ai h5 trivial)))))))))))) (by kernel_rfl)) (Weak.sel (E := [(2, .p (.int .i64 2))]) (E' := [(2, .p (.int .i64 2))]) (H := [.cells [.p (.int .i64 x1.1), .p (.int .i64 x1.2)] 0]) (H' := []) [] trivial (by kernel_rfl) (by kernel_rfl))) (by simp)) (by kernel_rfl) (by kernel_rfl)
          · exact SemJ.again (σ1 := ⟨[(1, .p (.ref [.int .i64 v1, .sl (List.map e62 v1_1) false])), (3, .p (.int .i64 (IntKind.wrap .i64 (v3 + 1))))], []⟩) (SemC.post (path hm (σ' := ⟨[(1, .p (.ref [.int .i64 v1, .sl (List.map e62 v1_1) false])), (3, .p (.int .i64 (IntKind.wrap .i64 (v3 + 1))))], [.cells [.p (.int .i64 x1.1), .p (.int .i64 x1.2)] 0]⟩) (ks := [1, 3]) (cc := c167 ++ [.reg [] [] 0 [(2, none, .b false), (8, none, .b false), (15, none, .b false)] [1, 3, 47], .reg [] [] 0 [] [1, 3]])
        (q168 (ai (by decide : (0:Int) ≤ 0) (ai (by decide : (0:Int) < ((2:Nat):Int)) (ai h3 (ai (by decide : (0:Int) ≤ 0) (ai (by decide : (0:Int) < ((2:Nat):Int)) (ai (by decide : (0:Int) ≤ 1) (ai (by decide : (1:Int) < ((2:Nat):Int)) (ai h4 (ai (by decide : (0:Int) ≤ 1) (ai (by decide : (1:Int) < ((2:Nat):Int)) (ai h5 trivial)))))))))))) (by kernel_rfl)) (Weak.sel (E := [(1, .p (.ref [.int .i64 v1, .sl (List.map e62 v1_1) false])), (3, .p (.int .i64 (IntKind.wrap .i64 (v3 + 1))))]) (E' := [(1, .p (.ref [.int .i64 v1, .sl (List.map e62 v1_1) false])), (3, .p (.int .i64 (IntKind.wrap .i64 (v3 + 1))))]) (H := [.cells [.p (.int .i64 x1.1), .p (.int .i64 x1.2)] 0]) (H' := []) [] trivial (by kernel_rfl) (by kernel_rfl))) (L12_0_ok v1 v1_1 fuel (IntKind.wrap .i64 (v3 + 1)) _ g5)
    · have hr := Option.some.inj g1
      subst hr
      exact SemC.cast (SemJ.out (e := (.exit 0)) (path hm (σ' := ⟨[], []⟩) (ks := []) (cc := [.reg [] [] 0 [(3, none, .n (v1_1.length : Int)), (4, none, .b false)] [1, 3, 23]])
        (ai (len_map e62 v1_1) (ai h1 trivial)) (by kernel_rfl)) (by simp)) (by kernel_rfl) (by kernel_rfl)
def F12 (fuel : Nat) (p0 : (Int × (List (Int × Int)))) : Option Int :=
  oif ((decide (p0.1 < 1)))
  (some 6)
  (oif ((decide (p0.1 > 8)))
    (some 6)
    (oif ((decide ((p0.2.length : Int) > 40)))
      (some 6)
      ((obind (L12_0 p0.1 p0.2 fuel 0) fun y1 => match y1 with
        | .inl y1 => some 2
        | .inr (y1) => some 0))))
theorem F12_ok (fuel : Nat) (p0 : (Int × (List (Int × Int))))  (r : Int) (h : F12 fuel p0 = some r) : CallP prog 12 [.agg [.int .i64 p0.1, .sl (List.map e62 p0.2) false]] (.int .i64 r) := by
  unfold F12 at h
  let c169 : List CC := [.reg [] [] 0 [(0, none, .imm)] [1]]
  refine oif_elim h (fun h1 g1 => ?_) (fun h1 g1 => ?_)
  · have hr := Option.some.inj g1
    subst hr
    exact callP_of is12 rfl (path hm (ks := [2]) (σ' := ⟨[(2, .p (.int .i64 6))], []⟩) (cc := c169 ++ [.reg [] [] 0 [(2, none, .b true)] [1, 18], .reg [] [] 0 [] [2]])
      (ai h1 trivial) (by kernel_rfl)) (e := .ret) rfl (vs := [.p (.int .i64 6)]) trivial (by kernel_rfl) (.p _ _ (.refl _))
  · refine oif_elim g1 (fun h2 g2 => ?_) (fun h2 g2 => ?_)
    · have hr := Option.some.inj g2
      subst hr
      exact callP_of is12 rfl (path hm (ks := [2]) (σ' := ⟨[(2, .p (.int .i64 6))], []⟩) (cc := c169 ++ [.reg [] [] 0 [(2, none, .b false), (6, none, .b true)] [1, 18], .reg [] [] 0 [] [2]])
      (ai h1 (ai h2 trivial)) (by kernel_rfl)) (e := .ret) rfl (vs := [.p (.int .i64 6)]) trivial (by kernel_rfl) (.p _ _ (.refl _))
    · refine oif_elim g2 (fun h3 g3 => ?_) (fun h3 g3 => ?_)
      · have hr := Option.some.inj g3
        subst hr
        exact callP_of is12 rfl (path hm (ks := [2]) (σ' := ⟨[(2, .p (.int .i64 6))], []⟩) (cc := c169 ++ [.reg [] [] 0 [(2, none, .b false), (6, none, .b false), (11, none, .n (p0.2.length : Int)), (12, none, .b true)] [1, 18], .reg [] [] 0 [] [2]])
      (ai h1 (ai h2 (ai (len_map e62 p0.2) (ai h3 trivial)))) (by kernel_rfl)) (e := .ret) rfl (vs := [.p (.int .i64 6)]) trivial (by kernel_rfl) (.p _ _ (.refl _))
      · let c170 : List CC := c169 ++ [.reg [] [] 0 [(2, none, .b false), (6, none, .b false), (11, none, .n (p0.2.length : Int)), (12, none, .b false)] [1, 18], .reg [] [] 0 [] [1, 3]]
        refine obind_elim g3 fun y h4 g4 => ?_
        match y, h4, g4 with
        | .inl y1, h4, g4 =>
          have hr := Option.some.inj g4
          subst hr
          exact callP_of is12 rfl (path hm (ks := [2]) (σ' := ⟨[(2, .p (.int .i64 2))], []⟩) (cc := c170 ++ [.leaf .ret ⟨[(2, .p (.int .i64 2))], []⟩])
      (ai h1 (ai h2 (ai (len_map e62 p0.2) (ai h3 (ai (SemJ.loop (L12_0_ok p0.1 p0.2 fuel 0 _ h4)) trivial))))) (by kernel_rfl)) (e := .ret) rfl (vs := [.p (.int .i64 2)]) trivial (by kernel_rfl) (.p _ _ (.refl _))
        | .inr (y1), h4, g4 =>
          have hr := Option.some.inj g4
          subst hr
          exact callP_of is12 rfl (path hm (ks := [2]) (σ' := ⟨[(2, .p (.int .i64 0))], []⟩) (cc := c170 ++ [.leaf (.exit 0) ⟨[], []⟩, .reg [] [] 0 [] [2]])
      (ai h1 (ai h2 (ai (len_map e62 p0.2) (ai h3 (ai (SemJ.loop (L12_0_ok p0.1 p0.2 fuel 0 _ h4)) trivial))))) (by kernel_rfl)) (e := .ret) rfl (vs := [.p (.int .i64 0)]) trivial (by kernel_rfl) (.p _ _ (.refl _))
def L58_0 (v0 : Int) (v1 : Int) : Nat → Int → (List Int) → Option (List Int)
  | 0, _, _ => none
  | fuel + 1, v6, w0 =>
    oif ((decide (v6 < v0)))
    (oif (decide ((0:Int) ≤ v6)) (oif (decide ((0:Int) ≤ (IntKind.wrap .i64 ((IntKind.wrap .i64 (v0 - 1)) - v6)))) (oif (decide (((IntKind.wrap .i64 ((IntKind.wrap .i64 (v0 - 1)) - v6)) : Int) < (((List.length w0) : Nat) : Int))) (obind (stL w0 (IntKind.wrap .i64 ((IntKind.wrap .i64 (v0 - 1)) - v6)) (ibits .and .i64 (Int.fdiv v1 (2 ^ (min (Int.toNat v6) (IntKind.bits .i64)))) 1)) fun x1 => L58_0 v0 v1 fuel (IntKind.wrap .i64 (v6 + 1)) x1) none) none) none)
    (some (w0))
noncomputable def L58_0_post (v0 : Int) (v1 : Int)  : (List Int) → Ex × St
  | y => ((.exit 0), ⟨[(5, .msl 0 0 (List.length y) (List.length (rowI e2 y)) true)], [.cells (rowI e2 y) 1]⟩)
theorem L58_0_ok (v0 : Int) (v1 : Int)  : ∀ (fuel : Nat) (v6 : Int) (w0 : (List Int)) (r : (List Int)), L58_0 v0 v1 fuel v6 w0 = some r →
    SemJ prog ⟨25, 0, false⟩ (codeAt [1, 1, 0, 1, 0, 0] (bodyOf f58)) ⟨[(0, .p (.int .i64 v0)), (1, .p (.int .i64 v1)), (5, .msl 0 0 (List.length w0) (List.length (rowI e2 w0)) true), (6, .p (.int .i64 v6))], [.cells (rowI e2 w0) 1]⟩ (L58_0_post v0 v1 r).1 (L58_0_post v0 v1 r).2
  | 0, _, _, _, h => nomatch h
  | fuel + 1, v6, w0, r, h => by
    unfold L58_0 at h
    refine oif_elim h (fun h1 g1 => ?_) (fun h1 g1 => ?_)
    · refine oif_elim g1 (fun h2 g2 => ?_) (fun _ h => nomatch h)
      refine oif_elim g2 (fun h3 g3 => ?_) (fun _ h => nomatch h)
      refine oif_elim g3 (fun h4 g4 => ?_) (fun _ h => nomatch h)
      refine obind_elim g4 fun x1 h5 g5 => ?_
      exact SemJ.again (σ1 := ⟨[(0, .p (.int .i64 v0)), (1, .p (.int .i64 v1)), (5, .msl 0 0 (List.length x1) (List.length (rowI e2 x1)) true), (6, .p (.int .i64 (IntKind.wrap .i64 (v6 + 1))))], [.cells (rowI e2 x1) 1]⟩) (SemC.post (path hm (σ' := ⟨[(0, .p (.int .i64 v0)), (1, .p (.int .i64 v1)), (5, .msl 0 0 (List.length w0) (List.length (rowI e2 w0)) true), (6, .p (.int .i64 (IntKind.wrap .i64 (v6 + 1))))], [.cells (rowI e2 x1) 1]⟩) (ks := [0, 1, 5, 6]) (cc := [.reg [] [] 0 [(2, none, .b true)] [0, 1, 5, 6, 11], .reg [] [] 0 [(10, none, .cs (rowI e2 x1))] [0, 1, 5, 6], .reg [] [] 0 [] [0, 1, 5, 6]])
        (ai h1 (ai (od h2) (ai (od h3) (ai (od h4) (ai (rl (List.length (rowI e2 w0))) (ai (Nat.le_trans (row_fit el2 (stL_0 h5) (stL_lt h5)) (Nat.le_of_eq (rl (List.length (rowI e2 w0))))) (ai (row_put el2 h5) trivial))))))) (by kernel_rfl)) (Weak.trans (Weak.eq (congrArg (fun ZZ : Nat => (⟨[(0, .p (.int .i64 v0)), (1, .p (.int .i64 v1)), (5, .msl 0 0 ZZ (List.length (rowI e2 w0)) true), (6, .p (.int .i64 (IntKind.wrap .i64 (v6 + 1))))], [.cells (rowI e2 x1) 1]⟩ : St)) (Eq.symm ((stL_len h5).trans (rl (List.length w0)))))) (Weak.eq (congrArg (fun ZZ : Nat => (⟨[(0, .p (.int .i64 v0)), (1, .p (.int .i64 v1)), (5, .msl 0 0 (List.length x1) ZZ true), (6, .p (.int .i64 (IntKind.wrap .i64 (v6 + 1))))], [.cells (rowI e2 x1) 1]⟩ : St)) (Eq.symm ((row_setlen el2 h5).trans (rl (List.length (rowI e2 w0))))))))) (L58_0_ok v0 v1 fuel (IntKind.wrap .i64 (v6 + 1)) x1 _ g5)
    · have hr := Option.some.inj g1
      subst hr
      exact SemC.cast (SemJ.out (e := (.exit 0)) (path hm (σ' := ⟨[(5, .msl 0 0 (List.length w0) (List.length (rowI e2 w0)) true)], [.cells (rowI e2 w0) 1]⟩) (ks := [5]) (cc := [.reg [] [] 0 [(2, none, .b false)] [0, 1, 5, 6, 11]])
        (ai h1 trivial) (by kernel_rfl)) (by simp)) (by kernel_rfl) (by kernel_rfl)
def F58 (fuel : Nat) (p0 : Int) (p1 : Int) : Option (List Int) :=
  oif (decide ((0:Int) ≤ p0)) (oif (decide (((8 : Nat) : Int) * p0 ≤ 281474976710656)) (oif (decide ((p0 : Int) ≤ 9223372036854775807)) (obind (L58_0 p0 p1 fuel 0 (List.replicate (Int.toNat p0) (0 : Int))) fun y1 => some y1) none) none) none
theorem F58_ok (fuel : Nat) (p0 : Int) (p1 : Int)  (r : (List Int)) (h : F58 fuel p0 p1 = some r) : CallP prog 58 [.int .i64 p0, .int .i64 p1] (.sl (List.map e2 r) false) := by
  unfold F58 at h
  refine oif_elim h (fun h1 g1 => ?_) (fun _ h => nomatch h)
  refine oif_elim g1 (fun h2 g2 => ?_) (fun _ h => nomatch h)
  refine oif_elim g2 (fun h3 g3 => ?_) (fun _ h => nomatch h)
  refine obind_elim g3 fun y1 h4 g4 => ?_
  have hr := Option.some.inj g4
  subst hr
  exact callP_of is58 rfl (path hm (ks := [4]) (σ' := ⟨[(4, .msl 0 0 (List.length y1) (List.length (rowI e2 y1)) true)], [.cells (rowI e2 y1) 1]⟩) (cc := [.reg [] [] 0 [] [0, 1], .reg [] [] 1 [(1, some 0, .ap (rowI e2 (List.replicate (Int.toNat p0) (0 : Int))) (Int.toNat p0) (List.length (rowI e2 (List.replicate (Int.toNat p0) (0 : Int)))))] [0, 1, 5], .reg [] [] 0 [] [0, 1, 5, 6], .leaf (.exit 0) ⟨[(5, .msl 0 0 (List.length y1) (List.length (rowI e2 y1)) true)], [.cells (rowI e2 y1) 1]⟩, .reg [] [] 0 [] [4]])
      (ai (od h1) (ai (rfl : (p0 : Int) = p0) (ai (od h2) (ai (od h3) (ai (rl (Int.toNat p0)) (ai (rl (List.length (rowI e2 (List.replicate (Int.toNat p0) (0 : Int))))) (ai (zeros_row el2 (0 : Int) (Int.toNat p0)) (ai (SemC.pre (σ := ⟨[(0, .p (.int .i64 p0)), (1, .p (.int .i64 p1)), (5, .msl 0 0 (Int.toNat p0) (List.length (rowI e2 (List.replicate (Int.toNat p0) (0 : Int)))) true), (6, .p (.int .i64 0))], [.cells (rowI e2 (List.replicate (Int.toNat p0) (0 : Int))) 1]⟩) (SemJ.loop (L58_0_ok p0 p1 fuel 0 (List.replicate (Int.toNat p0) (0 : Int)) _ h4)) (Weak.eq (congrArg (fun ZZ : Nat => (⟨[(0, .p (.int .i64 p0)), (1, .p (.int .i64 p1)), (5, .msl 0 0 ZZ (List.length (rowI e2 (List.replicate (Int.toNat p0) (0 : Int)))) true), (6, .p (.int .i64 0))], [.cells (rowI e2 (List.replicate (Int.toNat p0) (0 : Int))) 1]⟩ : St)) (Eq.symm (List.length_replicate : List.length (List.replicate (Int.toNat p0) (0 : Int)) = (Int.toNat p0)))))) trivial)))))))) (by kernel_rfl)) (e := .ret) rfl (vs := [.msl 0 0 (List.length y1) (List.length (rowI e2 y1)) true]) trivial (by kernel_rfl) (snap_row (g := 1) (L := y1) el2 (by kernel_rfl) (rl (List.length (rowI e2 y1))) (rl (List.length y1)))
theorem F58_own (fuel : Nat) (p0 : Int) (p1 : Int)  (r : (List Int)) (h : F58 fuel p0 p1 = some r) (hne : List.isEmpty r = false) : CallO prog 58 [.int .i64 p0, .int .i64 p1] (rowI e2 r) (List.length r) 1 := by
  unfold F58 at h
  refine oif_elim h (fun h1 g1 => ?_) (fun _ h => nomatch h)
  refine oif_elim g1 (fun h2 g2 => ?_) (fun _ h => nomatch h)
  refine oif_elim g2 (fun h3 g3 => ?_) (fun _ h => nomatch h)
  refine obind_elim g3 fun y1 h4 g4 => ?_
  have hr := Option.some.inj g4
  subst hr
  exact callO_of (l := 0) (x := true) (L := y1) el2 is58 rfl (path hm (ks := [4]) (σ' := ⟨[(4, .msl 0 0 (List.length y1) (List.length (rowI e2 y1)) true)], [.cells (rowI e2 y1) 1]⟩) (cc := [.reg [] [] 0 [] [0, 1], .reg [] [] 1 [(1, some 0, .ap (rowI e2 (List.replicate (Int.toNat p0) (0 : Int))) (Int.toNat p0) (List.length (rowI e2 (List.replicate (Int.toNat p0) (0 : Int)))))] [0, 1, 5], .reg [] [] 0 [] [0, 1, 5, 6], .leaf (.exit 0) ⟨[(5, .msl 0 0 (List.length y1) (List.length (rowI e2 y1)) true)], [.cells (rowI e2 y1) 1]⟩, .reg [] [] 0 [] [4]])
      (ai (od h1) (ai (rfl : (p0 : Int) = p0) (ai (od h2) (ai (od h3) (ai (rl (Int.toNat p0)) (ai (rl (List.length (rowI e2 (List.replicate (Int.toNat p0) (0 : Int))))) (ai (zeros_row el2 (0 : Int) (Int.toNat p0)) (ai (SemC.pre (σ := ⟨[(0, .p (.int .i64 p0)), (1, .p (.int .i64 p1)), (5, .msl 0 0 (Int.toNat p0) (List.length (rowI e2 (List.replicate (Int.toNat p0) (0 : Int)))) true), (6, .p (.int .i64 0))], [.cells (rowI e2 (List.replicate (Int.toNat p0) (0 : Int))) 1]⟩) (SemJ.loop (L58_0_ok p0 p1 fuel 0 (List.replicate (Int.toNat p0) (0 : Int)) _ h4)) (Weak.eq (congrArg (fun ZZ : Nat => (⟨[(0, .p (.int .i64 p0)), (1, .p (.int .i64 p1)), (5, .msl 0 0 ZZ (List.length (rowI e2 (List.replicate (Int.toNat p0) (0 : Int)))) true), (6, .p (.int .i64 0))], [.cells (rowI e2 (List.replicate (Int.toNat p0) (0 : Int))) 1]⟩ : St)) (Eq.symm (List.length_replicate : List.length (List.replicate (Int.toNat p0) (0 : Int)) = (Int.toNat p0)))))) trivial)))))))) (by kernel_rfl)) (e := .ret) rfl trivial (by kernel_rfl) (by kernel_rfl) (rl (List.length (rowI e2 y1))) (rl (List.length y1))
def L42_0 (v0 : (List (Int × Int))) : Nat → Option Unit
  | 0 => none
  | fuel + 1 =>
    oif ((decide (0 < (v0.length : Int))))
    (obind (sg v0 0) fun x1 => none)
    (some (()))
noncomputable def L42_0_post (v0 : (List (Int × Int))) (fp0 : Bool) (fp1 : Bool) : Unit → Ex × St
  | y => ((.exit 0), ⟨[(5, .p (.sl (List.map e2 []) true))], []⟩)
theorem L42_0_ok (v0 : (List (Int × Int))) (fp0 : Bool) (fp1 : Bool) : ∀ (fuel : Nat)  (r : Unit), L42_0 v0 fuel  = some r →
    SemJ prog ⟨53, 0, false⟩ (codeAt [1, 1, 0, 1, 0, 0] (bodyOf f42)) ⟨[(0, .p (.sl (List.map e62 v0) fp0)), (5, .p (.sl (List.map e2 []) true)), (6, .p (.int .i64 0))], []⟩ (L42_0_post v0 fp0 fp1 r).1 (L42_0_post v0 fp0 fp1 r).2
  | 0, _, h => nomatch h
  | fuel + 1, r, h => by
    unfold L42_0 at h
    refine oif_elim h (fun h1 g1 => ?_) (fun h1 g1 => ?_)
    · refine obind_elim g1 fun x1 h2 g2 => ?_
      exact nomatch g2
    · have hr := Option.some.inj g1
      subst hr
      exact SemC.cast (SemJ.out (e := (.exit 0)) (path hm (σ' := ⟨[(5, .p (.sl (List.map e2 []) true))], []⟩) (ks := [5]) (cc := [.reg [] [] 0 [(2, none, .n (v0.length : Int)), (3, none, .b false)] [0, 5, 6, 15]])
        (ai (len_map e62 v0) (ai h1 trivial)) (by kernel_rfl)) (by simp)) (by kernel_rfl) (by kernel_rfl)
def L42_1 (v0 : (List (Int × Int))) : Nat → Int → (List Int) → Option (List Int)
  | 0, _, _ => none
  | fuel + 1, v6, w0 =>
    oif ((decide (v6 < (v0.length : Int))))
    (obind (sg v0 v6) fun x1 => oif (decide ((0:Int) ≤ x1.1)) (oif (decide ((x1.1 : Int) < (((List.length w0) : Nat) : Int))) (obind (sg w0 x1.1) fun x2 => oif (decide ((0:Int) ≤ x1.2)) (oif (decide ((x1.2 : Int) < (((List.length w0) : Nat) : Int))) (obind (sg w0 x1.2) fun x3 => obind (stL w0 x1.1 (minL x2 [x3])) fun x4 => obind (stL x4 x1.2 (maxL x2 [x3])) fun x5 => L42_1 v0 fuel (IntKind.wrap .i64 (v6 + 1)) x5) none) none) none) none)
    (some (w0))
noncomputable def L42_1_post (v0 : (List (Int × Int))) (fp0 : Bool) (fp1 : Bool) : (List Int) → Ex × St
  | y => ((.exit 0), ⟨[(5, .msl 0 0 (List.length y) (List.length (rowI e2 y)) false)], [.cells (rowI e2 y) 1]⟩)
theorem L42_1_ok (v0 : (List (Int × Int))) (fp0 : Bool) (fp1 : Bool) : ∀ (fuel : Nat) (v6 : Int) (w0 : (List Int)) (r : (List Int)), L42_1 v0 fuel v6 w0 = some r →
    SemJ prog ⟨53, 0, false⟩ (codeAt [1, 1, 0, 1, 0, 0] (bodyOf f42)) ⟨[(0, .p (.sl (List.map e62 v0) fp0)), (5, .msl 0 0 (List.length w0) (List.length (rowI e2 w0)) false), (6, .p (.int .i64 v6))], [.cells (rowI e2 w0) 1]⟩ (L42_1_post v0 fp0 fp1 r).1 (L42_1_post v0 fp0 fp1 r).2
  | 0, _, _, _, h => nomatch h
  | fuel + 1, v6, w0, r, h => by
    unfold L42_1 at h
    refine oif_elim h (fun h1 g1 => ?_) (fun h1 g1 => ?_)
    · refine obind_elim g1 fun x1 h2 g2 => ?_
      refine oif_elim g2 (fun h3 g3 => ?_) (fun _ h => nomatch h)
      refine oif_elim g3 (fun h4 g4 => ?_) (fun _ h => nomatch h)
      refine obind_elim g4 fun x2 h5 g5 => ?_
      refine oif_elim g5 (fun h6 g6 => ?_) (fun _ h => nomatch h)
      refine oif_elim g6 (fun h7 g7 => ?_) (fun _ h => nomatch h)
      refine obind_elim g7 fun x3 h8 g8 => ?_
      refine obind_elim g8 fun x4 h9 g9 => ?_
      refine obind_elim g9 fun x5 h10 g10 => ?_
      exact SemJ.again (σ1 := ⟨[(0, .p (.sl (List.map e62 v0) fp0)), (5, .msl 0 0 (List.length x5) (List.length (rowI e2 x5)) false), (6, .p (.int .i64 (IntKind.wrap .i64 (v6 + 1))))], [.cells (rowI e2 x5) 1]⟩) (SemC.post (path hm (σ' := ⟨[(0, .p (.sl (List.map e62 v0) fp0)), (5, .msl 0 0 (List.length w0) (List.length (rowI e2 w0)) false), (6, .p (.int .i64 (IntKind.wrap .i64 (v6 + 1))))], [.cells (rowI e2 x5) 1]⟩) (ks := [0, 5, 6]) (cc := [.reg [] [] 0 [(2, none, .n (v0.length : Int)), (3, none, .b true)] [0, 5, 6, 15], .reg [0, 0, 3, 7, 15, 0, 0, 96, 224, 480, 31, 2047] [] 0 [(2, none, .iv (.p (.agg [.int .i64 x1.1, .int .i64 x1.2]))), (7, none, .iv (.p (.agg [.int .i64 x1.1, .int .i64 x1.2])))] [0, 5, 6, 7, 8], .reg [0, 0, 0, 0, 0, 0, 48, 112, 0, 0, 768, 1792, 4080, 0, 0, 24576, 57344, 0, 0, 393216, 917504, 2088960, 2097139, 6291443, 16777215, 33554431] [(0, 23), (0, 25)] 0 [(7, none, .iv (.p (.int .i64 x2))), (11, none, .iv (.p (.int .i64 x3))), (16, none, .iv (.p (.int .i64 x2))), (20, none, .iv (.p (.int .i64 x3))), (23, none, .cs (rowI e2 x4)), (25, none, .cs (rowI e2 x5))] [0, 5, 6], .reg [] [] 0 [] [0, 5, 6]])
        (ai (len_map e62 v0) (ai h1 (ai (sg_map (f := e62) h2) (ai (by decide : (0:Int) ≤ 0) (ai (by decide : (0:Int) < ((2:Nat):Int)) (ai (sg_map (f := e62) h2) (ai (by decide : (0:Int) ≤ 1) (ai (by decide : (1:Int) < ((2:Nat):Int)) (ai (od h3) (ai (od h4) (ai (rl (List.length (rowI e2 w0))) (ai (row_get el2 h5 rfl) (ai (od h6) (ai (od h7) (ai (rl (List.length (rowI e2 w0))) (ai (row_get el2 h8 rfl) (ai (od h3) (ai (od h4) (ai (rl (List.length (rowI e2 w0))) (ai (row_get el2 h5 rfl) (ai (od h6) (ai (od h7) (ai (rl (List.length (rowI e2 w0))) (ai (row_get el2 h8 rfl) (ai (od h3) (ai (od h4) (ai (rl (List.length (rowI e2 w0))) (ai (Nat.le_trans (row_fit el2 (stL_0 h9) (stL_lt h9)) (Nat.le_of_eq (rl (List.length (rowI e2 w0))))) (ai (row_put el2 h9) (ai (od h6) (ai (od h7) (ai ((row_setlen el2 h9).trans (rl (List.length (rowI e2 w0)))) (ai (Nat.le_trans (row_fit el2 (stL_0 h10) (stL_lt h10)) (Nat.le_of_eq ((row_setlen el2 h9).trans (rl (List.length (rowI e2 w0)))))) (ai (row_put el2 h10) trivial)))))))))))))))))))))))))))))))))) (by kernel_rfl)) (Weak.trans (Weak.eq (congrArg (fun ZZ : Nat => (⟨[(0, .p (.sl (List.map e62 v0) fp0)), (5, .msl 0 0 ZZ (List.length (rowI e2 w0)) false), (6, .p (.int .i64 (IntKind.wrap .i64 (v6 + 1))))], [.cells (rowI e2 x5) 1]⟩ : St)) (Eq.symm ((stL_len h10).trans ((stL_len h9).trans (rl (List.length w0))))))) (Weak.eq (congrArg (fun ZZ : Nat => (⟨[(0, .p (.sl (List.map e62 v0) fp0)), (5, .msl 0 0 (List.length x5) ZZ false), (6, .p (.int .i64 (IntKind.wrap .i64 (v6 + 1))))], [.cells (rowI e2 x5) 1]⟩ : St)) (Eq.symm ((row_setlen el2 h10).trans ((row_setlen el2 h9).trans (rl (List.length (rowI e2 w0)))))))))) (L42_1_ok v0 fp0 fp1 fuel (IntKind.wrap .i64 (v6 + 1)) x5 _ g10)
    · have hr := Option.some.inj g1
      subst hr
      exact SemC.cast (SemJ.out (e := (.exit 0)) (path hm (σ' := ⟨[(5, .msl 0 0 (List.length w0) (List.length (rowI e2 w0)) false)], [.cells (rowI e2 w0) 1]⟩) (ks := [5]) (cc := [.reg [] [] 0 [(2, none, .n (v0.length : Int)), (3, none, .b false)] [0, 5, 6, 15]])
        (ai (len_map e62 v0) (ai h1 trivial)) (by kernel_rfl)) (by simp)) (by kernel_rfl) (by kernel_rfl)
def F42 (fuel : Nat) (p0 : (List (Int × Int))) (p1 : (List Int)) : Option (List Int) :=
  oif (List.isEmpty p1)
  (obind (L42_0 p0 fuel ) fun y1 => some [])
  (oif (decide ((List.length (List.map e2 p1)) * 8 ≤ 140737488355328)) (obind (L42_1 p0 fuel 0 p1) fun y1 => some y1) none)
theorem F42_ok (fuel : Nat) (p0 : (List (Int × Int))) (p1 : (List Int)) (fp0 : Bool) (fp1 : Bool) (r : (List Int)) (h : F42 fuel p0 p1 = some r) : CallP prog 42 [.sl (List.map e62 p0) fp0, .sl (List.map e2 p1) fp1] (.sl (List.map e2 r) false) := by
  unfold F42 at h
  refine oif_elim h (fun h1 g1 => ?_) (fun h1 g1 => ?_)
  · refine obind_elim g1 fun y1 h2 g2 => ?_
    have hr := Option.some.inj g2
    subst hr
    exact callP_of is42 rfl (path hm (ks := [4]) (σ' := ⟨[(4, .p (.sl (List.map e2 []) true))], []⟩) (cc := [.reg [] [] 0 [] [0, 1], .reg [] [] 0 [(2, none, .b true)] [0, 5], .reg [] [] 0 [] [0, 5, 6], .leaf (.exit 0) ⟨[(5, .p (.sl (List.map e2 []) true))], []⟩, .reg [] [] 0 [] [4]])
      (ai (isEmpty_len e2 h1) (ai (row_sc el2 p1) (ai (row_es el2 p1) (ai (SemJ.loop (L42_0_ok p0 fp0 fp1 fuel  _ h2)) trivial)))) (by kernel_rfl)) (e := .ret) rfl (vs := [.p (.sl (List.map e2 []) true)]) trivial (by kernel_rfl) (.p _ _ (.flag _ _ _ (fun h => nomatch h)))
  · refine oif_elim g1 (fun h2 g2 => ?_) (fun _ h => nomatch h)
    refine obind_elim g2 fun y1 h3 g3 => ?_
    have hr := Option.some.inj g3
    subst hr
    exact callP_of is42 rfl (path hm (ks := [4]) (σ' := ⟨[(4, .msl 0 0 (List.length y1) (List.length (rowI e2 y1)) false)], [.cells (rowI e2 y1) 1]⟩) (cc := [.reg [] [] 0 [] [0, 1], .reg [] [] 1 [(2, some 0, .ap (rowI e2 p1) (List.length p1) (List.length (rowI e2 p1)))] [0, 5], .reg [] [] 0 [] [0, 5, 6], .leaf (.exit 0) ⟨[(5, .msl 0 0 (List.length y1) (List.length (rowI e2 y1)) false)], [.cells (rowI e2 y1) 1]⟩, .reg [] [] 0 [] [4]])
      (ai (notEmpty_len e2 h1) (ai (app_e1 (m := (List.length (List.map e2 p1))) (od h2)) (ai (app_e2 (m := (List.length (List.map e2 p1))) (by decide) (od h2)) (ai (app_e3 e2 p1) (ai (rl (List.length (rowI e2 p1))) (ai (row_src e2 p1) (ai (row_sc el2 p1) (ai (row_es el2 p1) (ai (fun _ h => nomatch h : ∀ y ∈ ([] : List PV), y.cells.length = 1) (ai (SemJ.loop (L42_1_ok p0 fp0 fp1 fuel 0 p1 _ h3)) trivial)))))))))) (by kernel_rfl)) (e := .ret) rfl (vs := [.msl 0 0 (List.length y1) (List.length (rowI e2 y1)) false]) trivial (by kernel_rfl) (snap_row (g := 1) (L := y1) el2 (by kernel_rfl) (rl (List.length (rowI e2 y1))) (rl (List.length y1)))
theorem F42_own (fuel : Nat) (p0 : (List (Int × Int))) (p1 : (List Int)) (fp0 : Bool) (fp1 : Bool) (r : (List Int)) (h : F42 fuel p0 p1 = some r) (hne : List.isEmpty r = false) : CallO prog 42 [.sl (List.map e62 p0) fp0, .sl (List.map e2 p1) fp1] (rowI e2 r) (List.length r) 1 := by
  unfold F42 at h
  refine oif_elim h (fun h1 g1 => ?_) (fun h1 g1 => ?_)
  · refine obind_elim g1 fun y1 h2 g2 => ?_
    have hr := Option.some.inj g2
    subst hr
    cases hne
  · refine oif_elim g1 (fun h2 g2 => ?_) (fun _ h => nomatch h)
    refine obind_elim g2 fun y1 h3 g3 => ?_
    have hr := Option.some.inj g3
    subst hr
    exact callO_of (l := 0) (x := false) (L := y1) el2 is42 rfl (path hm (ks := [4]) (σ' := ⟨[(4, .msl 0 0 (List.length y1) (List.length (rowI e2 y1)) false)], [.cells (rowI e2 y1) 1]⟩) (cc := [.reg [] [] 0 [] [0, 1], .reg [] [] 1 [(2, some 0, .ap (rowI e2 p1) (List.length p1) (List.length (rowI e2 p1)))] [0, 5], .reg [] [] 0 [] [0, 5, 6], .leaf (.exit 0) ⟨[(5, .msl 0 0 (List.length y1) (List.length (rowI e2 y1)) false)], [.cells (rowI e2 y1) 1]⟩, .reg [] [] 0 [] [4]])
      (ai (notEmpty_len e2 h1) (ai (app_e1 (m := (List.length (List.map e2 p1))) (od h2)) (ai (app_e2 (m := (List.length (List.map e2 p1))) (by decide) (od h2)) (ai (app_e3 e2 p1) (ai (rl (List.length (rowI e2 p1))) (ai (row_src e2 p1) (ai (row_sc el2 p1) (ai (row_es el2 p1) (ai (fun _ h => nomatch h : ∀ y ∈ ([] : List PV), y.cells.length = 1) (ai (SemJ.loop (L42_1_ok p0 fp0 fp1 fuel 0 p1 _ h3)) trivial)))))))))) (by kernel_rfl)) (e := .ret) rfl trivial (by kernel_rfl) (by kernel_rfl) (rl (List.length (rowI e2 y1))) (rl (List.length y1))
def L50_0 (v0 : (List Int)) : Nat → Int → Option (Unit ⊕ Unit)
  | 0, _ => none
  | fuel + 1, v3 =>
    oif ((decide (v3 < (v0.length : Int))))
    (obind (sg v0 v3) fun x1 => obind (sg v0 (IntKind.wrap .i64 (v3 - 1))) fun x2 => oif ((decide (x1 < x2)))
      (some (.inl ()))
      (L50_0 v0 fuel (IntKind.wrap .i64 (v3 + 1))))
    (some (.inr (())))
noncomputable def L50_0_post (v0 : (List Int)) (fp0 : Bool) : (Unit ⊕ Unit) → Ex × St
  | .inl y => (.ret, ⟨[(2, .p (.bool false))], []⟩)
  | .inr (y) => ((.exit 0), ⟨[], []⟩)
theorem L50_0_ok (v0 : (List Int)) (fp0 : Bool) : ∀ (fuel : Nat) (v3 : Int) (r : (Unit ⊕ Unit)), L50_0 v0 fuel v3 = some r →
    SemJ prog ⟨20, 0, false⟩ (codeAt [1, 0, 1, 0, 0] (bodyOf f50)) ⟨[(0, .p (.sl (List.map e2 v0) fp0)), (3, .p (.int .i64 v3))], []⟩ (L50_0_post v0 fp0 r).1 (L50_0_post v0 fp0 r).2
  | 0, _, _, h => nomatch h
  | fuel + 1, v3, r, h => by
    unfold L50_0 at h
    refine oif_elim h (fun h1 g1 => ?_) (fun h1 g1 => ?_)
    · refine obind_elim g1 fun x1 h2 g2 => ?_
      refine obind_elim g2 fun x2 h3 g3 => ?_
      refine oif_elim g3 (fun h4 g4 => ?_) (fun h4 g4 => ?_)
      · have hr := Option.some.inj g4
        subst hr
        exact SemC.cast (SemJ.out (e := .ret) (path hm (σ' := ⟨[(2, .p (.bool false))], []⟩) (ks := [2]) (cc := [.reg [] [] 0 [(2, none, .n (v0.length : Int)), (3, none, .b true)] [0, 3, 7], .reg [0, 0, 3, 7, 0, 0, 32, 112, 240, 511] [] 0 [(2, none, .iv (.p (.int .i64 x1))), (7, none, .iv (.p (.int .i64 x2))), (9, none, .b true)] [0, 3, 19], .reg [] [] 0 [] [2]])
        (ai (len_map e2 v0) (ai h1 (ai (sg_map (f := e2) h2) (ai (sg_map (f := e2) h3) (ai h4 trivial))))) (by kernel_rfl)) (by simp)) (by kernel_rfl) (by kernel_rfl)
      · exact SemJ.again (σ1 := ⟨[(0, .p (.sl (List.map e2 v0) fp0)), (3, .p (.int .i64 (IntKind.wrap .i64 (v3 + 1))))], []⟩) (path hm (σ' := ⟨[(0, .p (.sl (List.map e2 v0) fp0)), (3, .p (.int .i64 (IntKind.wrap .i64 (v3 + 1))))], []⟩) (ks := [0, 3]) (cc := [.reg [] [] 0 [(2, none, .n (v0.length : Int)), (3, none, .b true)] [0, 3, 7], .reg [0, 0, 3, 7, 0, 0, 32, 112, 240, 511] [] 0 [(2, none, .iv (.p (.int .i64 x1))), (7, none, .iv (.p (.int .i64 x2))), (9, none, .b false)] [0, 3, 19], .reg [] [] 0 [] [0, 3]])
        (ai (len_map e2 v0) (ai h1 (ai (sg_map (f := e2) h2) (ai (sg_map (f := e2) h3) (ai h4 trivial))))) (by kernel_rfl)) (L50_0_ok v0 fp0 fuel (IntKind.wrap .i64 (v3 + 1)) _ g4)
    · have hr := Option.some.inj g1
      subst hr
      exact SemC.cast (SemJ.out (e := (.exit 0)) (path hm (σ' := ⟨[], []⟩) (ks := []) (cc := [.reg [] [] 0 [(2, none, .n (v0.length : Int)), (3, none, .b false)] [0, 3, 7]])
        (ai (len_map e2 v0) (ai h1 trivial)) (by kernel_rfl)) (by simp)) (by kernel_rfl) (by kernel_rfl)
def F50 (fuel : Nat) (p0 : (List Int)) : Option Bool :=
  (obind (L50_0 p0 fuel 1) fun y1 => match y1 with
  | .inl y1 => some false
  | .inr (y1) => some true)
theorem F50_ok (fuel : Nat) (p0 : (List Int)) (fp0 : Bool) (r : Bool) (h : F50 fuel p0 = some r) : CallP prog 50 [.sl (List.map e2 p0) fp0] (.bool r) := by
  unfold F50 at h
  refine obind_elim h fun y h1 g1 => ?_
  match y, h1, g1 with
  | .inl y1, h1, g1 =>
    have hr := Option.some.inj g1
    subst hr
    exact callP_of is50 rfl (path hm (ks := [2]) (σ' := ⟨[(2, .p (.bool false))], []⟩) (cc := [.reg [] [] 0 [] [0], .reg [] [] 0 [] [0, 3], .leaf .ret ⟨[(2, .p (.bool false))], []⟩])
      (ai (SemJ.loop (L50_0_ok p0 fp0 fuel 1 _ h1)) trivial) (by kernel_rfl)) (e := .ret) rfl (vs := [.p (.bool false)]) trivial (by kernel_rfl) (.p _ _ (.refl _))
  | .inr (y1), h1, g1 =>
    have hr := Option.some.inj g1
    subst hr
    exact callP_of is50 rfl (path hm (ks := [2]) (σ' := ⟨[(2, .p (.bool true))], []⟩) (cc := [.reg [] [] 0 [] [0], .reg [] [] 0 [] [0, 3], .leaf (.exit 0) ⟨[], []⟩, .reg [] [] 0 [] [2]])
      (ai (SemJ.loop (L50_0_ok p0 fp0 fuel 1 _ h1)) trivial) (by kernel_rfl)) (e := .ret) rfl (vs := [.p (.bool true)]) trivial (by kernel_rfl) (.p _ _ (.refl _))
def L65_1 (v0 : (List Int)) : Nat → Int → (List Int) → Option (List Int)
  | 0, _, _ => none
  | fuel + 1, v4, w0 =>
    oif ((decide (v4 < (v0.length : Int))))
    (obind (sg v0 v4) fun x1 => oif (decide (((List.length w0) + 1) * 8 ≤ 140737488355328)) (L65_1 v0 fuel (IntKind.wrap .i64 (v4 + 1)) (w0 ++ [x1])) none)
    (some (w0))
noncomputable def L65_1_post (v0 : (List Int)) (fp0 : Bool) : (List Int) → Ex × St
  | y => ((.exit 0), ⟨[(3, .msl 0 0 (List.length y) (List.length (rowI e3 y)) false)], [.cells (rowI e3 y) 1]⟩)
theorem L65_1_ok (v0 : (List Int)) (fp0 : Bool) : ∀ (fuel : Nat) (v4 : Int) (w0 : (List Int)) (r : (List Int)), L65_1 v0 fuel v4 w0 = some r →
    SemJ prog ⟨19, 0, false⟩ (codeAt [1, 1, 0, 1, 0, 0] (bodyOf f65)) ⟨[(0, .p (.sl (List.map e2 v0) fp0)), (3, .msl 0 0 (List.length w0) (List.length (rowI e3 w0)) false), (4, .p (.int .i64 v4))], [.cells (rowI e3 w0) 1]⟩ (L65_1_post v0 fp0 r).1 (L65_1_post v0 fp0 r).2
  | 0, _, _, _, h => nomatch h
  | fuel + 1, v4, w0, r, h => by
    unfold L65_1 at h
    refine oif_elim h (fun h1 g1 => ?_) (fun h1 g1 => ?_)
    · refine obind_elim g1 fun x1 h2 g2 => ?_
      refine oif_elim g2 (fun h3 g3 => ?_) (fun _ h => nomatch h)
      exact SemJ.again (σ1 := ⟨[(0, .p (.sl (List.map e2 v0) fp0)), (3, .msl 0 0 (List.length (w0 ++ [x1])) (List.length (rowI e3 (w0 ++ [x1]))) false), (4, .p (.int .i64 (IntKind.wrap .i64 (v4 + 1))))], [.cells (rowI e3 (w0 ++ [x1])) 1]⟩) (path hm (σ' := ⟨[(0, .p (.sl (List.map e2 v0) fp0)), (3, .msl 0 0 (List.length (w0 ++ [x1])) (List.length (rowI e3 (w0 ++ [x1]))) false), (4, .p (.int .i64 (IntKind.wrap .i64 (v4 + 1))))], [.cells (rowI e3 (w0 ++ [x1])) 1]⟩) (ks := [0, 3, 4]) (cc := [.reg [] [] 0 [(2, none, .n (v0.length : Int)), (3, none, .b true)] [0, 3, 4, 8], .reg [] [] 0 [(3, none, .iv (.p (.int .i64 x1))), (6, none, .ap (rowI e3 (w0 ++ [x1])) (List.length (w0 ++ [x1])) (List.length (rowI e3 (w0 ++ [x1]))))] [0, 3, 4], .reg [] [] 0 [] [0, 3, 4]])
        (ai (len_map e2 v0) (ai h1 (ai (sg_map (f := e2) h2) (ai (by decide : 0 < 1) (ai (od h3) (ai (app_c2 (by decide) (od h3)) (ai (app_len e3 [x1] (rl (List.length w0))) (ai (rl (List.length (rowI e3 (w0 ++ [x1])))) (ai (row_app e3 w0 [x1]) (ai (rl (List.length (rowI e3 w0))) (ai (row_sz el3 (rl (List.length (rowI e3 w0))) (rl (List.length w0))) (ai (row_sc el3 [x1]) (ai (row_es el3 [x1]) trivial))))))))))))) (by kernel_rfl)) (L65_1_ok v0 fp0 fuel (IntKind.wrap .i64 (v4 + 1)) (w0 ++ [x1]) _ g3)
    · have hr := Option.some.inj g1
      subst hr
      exact SemC.cast (SemJ.out (e := (.exit 0)) (path hm (σ' := ⟨[(3, .msl 0 0 (List.length w0) (List.length (rowI e3 w0)) false)], [.cells (rowI e3 w0) 1]⟩) (ks := [3]) (cc := [.reg [] [] 0 [(2, none, .n (v0.length : Int)), (3, none, .b false)] [0, 3, 4, 8]])
        (ai (len_map e2 v0) (ai h1 trivial)) (by kernel_rfl)) (by simp)) (by kernel_rfl) (by kernel_rfl)
def L65_0 (v0 : (List Int)) : Nat → Option (List Int)
  | 0 => none
  | fuel + 1 =>
    oif ((decide (0 < (v0.length : Int))))
    (obind (sg v0 0) fun x1 => oif (decide (1 * 8 ≤ 140737488355328)) (obind (L65_1 v0 fuel 1 [x1]) fun y2 => some (y2)) none)
    (some (([] : List Int)))
noncomputable def L65_0_post (v0 : (List Int)) (fp0 : Bool) : (List Int) → Ex × St
  | y => ((.exit 0), ⟨[(3, .p (.sl (List.map e3 y) false))], []⟩)
theorem L65_0_ok (v0 : (List Int)) (fp0 : Bool) : ∀ (fuel : Nat)  (r : (List Int)), L65_0 v0 fuel  = some r →
    SemJ prog ⟨19, 0, false⟩ (codeAt [1, 1, 0, 1, 0, 0] (bodyOf f65)) ⟨[(0, .p (.sl (List.map e2 v0) fp0)), (3, .p (.nilsl)), (4, .p (.int .i64 0))], []⟩ (L65_0_post v0 fp0 r).1 (L65_0_post v0 fp0 r).2
  | 0, _, h => nomatch h
  | fuel + 1, r, h => by
    unfold L65_0 at h
    refine oif_elim h (fun h1 g1 => ?_) (fun h1 g1 => ?_)
    · refine obind_elim g1 fun x1 h2 g2 => ?_
      refine oif_elim g2 (fun h3 g3 => ?_) (fun _ h => nomatch h)
      refine obind_elim g3 fun y2 h4 g4 => ?_
      have hr := Option.some.inj g4
      subst hr
      exact SemC.cast (SemJ.again (σ1 := ⟨[(0, .p (.sl (List.map e2 v0) fp0)), (3, .msl 0 0 (List.length [x1]) (List.length (rowI e3 [x1])) false), (4, .p (.int .i64 1))], [.cells (rowI e3 [x1]) 1]⟩) (path hm (σ' := ⟨[(0, .p (.sl (List.map e2 v0) fp0)), (3, .msl 0 0 (List.length [x1]) (List.length (rowI e3 [x1])) false), (4, .p (.int .i64 1))], [.cells (rowI e3 [x1]) 1]⟩) (ks := [0, 3, 4]) (cc := [.reg [] [] 0 [(2, none, .n (v0.length : Int)), (3, none, .b true)] [0, 3, 4, 8], .reg [] [] 1 [(3, none, .iv (.p (.int .i64 x1))), (6, some 0, .ap (rowI e3 [x1]) (List.length [x1]) (List.length (rowI e3 [x1])))] [0, 3, 4], .reg [] [] 0 [] [0, 3, 4]])
        (ai (len_map e2 v0) (ai h1 (ai (sg_map (f := e2) h2) (ai (by decide : 0 < 1) (ai (od h3) (ai (app_c0 (by decide) (od h3)) (ai (rl (List.length [x1])) (ai (rl (List.length (rowI e3 [x1]))) (ai (row_src e3 [x1]) (ai (row_sc el3 [x1]) (ai (row_es el3 [x1]) trivial))))))))))) (by kernel_rfl)) (SemC.post (L65_1_ok v0 fp0 fuel 1 [x1] _ h4) (Weak.trans (wcast (Weak.freeze (E := [(3, .msl 0 0 (List.length y2) (List.length (rowI e3 y2)) false)]) (E' := [(3, .p (.sl (List.map e3 y2) false))]) (H := [.cells (rowI e3 y2) 1]) [0] (by kernel_rfl) (.snap _ _ _ _ _ (snap_row (g := 1) (L := y2) el3 (by kernel_rfl) (rl (List.length (rowI e3 y2))) (rl (List.length y2))) .nil)) (by kernel_rfl : (⟨[(3, .p (.sl (List.map e3 y2) false))], puts (dieW [0]) [.cells (rowI e3 y2) 1]⟩ : St) = ⟨[(3, .p (.sl (List.map e3 y2) false))], [.dead]⟩)) (Weak.sel (E := [(3, .p (.sl (List.map e3 y2) false))]) (E' := [(3, .p (.sl (List.map e3 y2) false))]) (H := [.dead]) (H' := []) [] trivial (by kernel_rfl) (by kernel_rfl))))) (by kernel_rfl) (by kernel_rfl)
    · have hr := Option.some.inj g1
      subst hr
      exact SemC.cast (SemJ.out (e := (.exit 0)) (SemC.post (path hm (σ' := ⟨[(3, .p (.nilsl))], []⟩) (ks := [3]) (cc := [.reg [] [] 0 [(2, none, .n (v0.length : Int)), (3, none, .b false)] [0, 3, 4, 8]])
        (ai (len_map e2 v0) (ai h1 trivial)) (by kernel_rfl)) (wcast (Weak.freeze (E := [(3, .p (.nilsl))]) (E' := [(3, .p (.sl (List.map e3 ([] : List Int)) false))]) (H := []) [] (by kernel_rfl) (.snap _ _ _ _ _ (.p _ _ (.nil _)) .nil)) (by kernel_rfl : (⟨[(3, .p (.sl (List.map e3 ([] : List Int)) false))], puts (dieW []) []⟩ : St) = ⟨[(3, .p (.sl (List.map e3 ([] : List Int)) false))], []⟩))) (by simp)) (by kernel_rfl) (by kernel_rfl)
def F65 (fuel : Nat) (p0 : (List Int)) : Option (List Int) :=
  obind (L65_0 p0 fuel ) fun y1 => some y1
theorem F65_ok (fuel : Nat) (p0 : (List Int)) (fp0 : Bool) (r : (List Int)) (h : F65 fuel p0 = some r) : CallP prog 65 [.sl (List.map e2 p0) fp0] (.sl (List.map e3 r) false) := by
  unfold F65 at h
  refine obind_elim h fun y1 h1 g1 => ?_
  have hr := Option.some.inj g1
  subst hr
  exact callP_of is65 rfl (path hm (ks := [2]) (σ' := ⟨[(2, .p (.sl (List.map e3 y1) false))], []⟩) (cc := [.reg [] [] 0 [] [0], .reg [] [] 0 [] [0, 3], .reg [] [] 0 [] [0, 3, 4], .leaf (.exit 0) ⟨[(3, .p (.sl (List.map e3 y1) false))], []⟩, .reg [] [] 0 [] [2]])
      (ai (SemJ.loop (L65_0_ok p0 fp0 fuel  _ h1)) trivial) (by kernel_rfl)) (e := .ret) rfl (vs := [.p (.sl (List.map e3 y1) false)]) trivial (by kernel_rfl) (.p _ _ (.refl _))
def L48_0 (v1 : Int) (v1_1 : (List (Int × Int))) : Nat → Int → Option ((List Int) ⊕ Unit)
  | 0, _ => none
  | fuel + 1, v4 =>
    oif (decide ((0:Int) ≤ v1)) (oif ((decide (v4 < (IntKind.wrap .i64 (1 * 2 ^ (min (Int.toNat v1) (IntKind.bits .i64)))))))
    (obind (F58 fuel v1 v4) fun r1 => obind (F42 fuel v1_1 r1) fun r2 => obind (F50 fuel r2) fun r3 => oif (r3)
      (L48_0 v1 v1_1 fuel (IntKind.wrap .i64 (v4 + 1)))
      (obind (F65 fuel r1) fun r4 => some (.inl r4)))
    (some (.inr (())))) none
noncomputable def L48_0_post (v1 : Int) (v1_1 : (List (Int × Int)))  : ((List Int) ⊕ Unit) → Ex × St
  | .inl y => (.ret, ⟨[(2, .p (.sl (List.map e3 y) false)), (3, .p (.bool true))], []⟩)
  | .inr (y) => ((.exit 0), ⟨[], []⟩)
theorem L48_0_ok (v1 : Int) (v1_1 : (List (Int × Int)))  : ∀ (fuel : Nat) (v4 : Int) (r : ((List Int) ⊕ Unit)), L48_0 v1 v1_1 fuel v4 = some r →
    SemJ prog ⟨25, 0, false⟩ (codeAt [1, 0, 1, 0, 0] (bodyOf f48)) ⟨[(1, .p (.ref [.int .i64 v1, .sl (List.map e62 v1_1) false])), (4, .p (.int .i64 v4))], []⟩ (L48_0_post v1 v1_1 r).1 (L48_0_post v1 v1_1 r).2
  | 0, _, _, h => nomatch h
  | fuel + 1, v4, r, h => by
    unfold L48_0 at h
    refine oif_elim h (fun h1 g1 => ?_) (fun _ h => nomatch h)
    refine oif_elim g1 (fun h2 g2 => ?_) (fun h2 g2 => ?_)
    · refine obind_elim g2 fun r1 h3 g3 => ?_
      refine obind_elim g3 fun r2 h4 g4 => ?_
      refine obind_elim g4 fun r3 h5 g5 => ?_
      let c171 : List CC := [.reg [] [] 0 [(4, none, .b true)] [1, 4, 10], .reg [] [] 0 [(3, none, .call (.sl (List.map e2 r1) false))] [1, 4, 5]]
      have q172 := fun {P : Prop} (t : P) => ai (od h1) (ai h2 (ai (F58_ok fuel v1 v4 _ h3) (ai (F42_ok fuel v1_1 r1 false false _ h4) (ai (F50_ok fuel r2 false _ h5) t))))
      refine oif_elim g5 (fun h6 g6 => ?_) (fun h6 g6 => ?_)
      · subst h6
        exact SemJ.again (σ1 := ⟨[(1, .p (.ref [.int .i64 v1, .sl (List.map e62 v1_1) false])), (4, .p (.int .i64 (IntKind.wrap .i64 (v4 + 1))))], []⟩) (path hm (σ' := ⟨[(1, .p (.ref [.int .i64 v1, .sl (List.map e62 v1_1) false])), (4, .p (.int .i64 (IntKind.wrap .i64 (v4 + 1))))], []⟩) (ks := [1, 4]) (cc := c171 ++ [.reg [] [] 0 [(3, none, .call (.sl (List.map e2 r2) false)), (4, none, .call (.bool true))] [1, 4, 5, 22], .reg [] [] 0 [] [1, 4]])
        (q172 trivial) (by kernel_rfl)) (L48_0_ok v1 v1_1 fuel (IntKind.wrap .i64 (v4 + 1)) _ g6)
      · subst h6
        refine obind_elim g6 fun r4 h7 g7 => ?_
        have hr := Option.some.inj g7
        subst hr
        exact SemC.cast (SemJ.out (e := .ret) (path hm (σ' := ⟨[(2, .p (.sl (List.map e3 r4) false)), (3, .p (.bool true))], []⟩) (ks := [2, 3]) (cc := c171 ++ [.reg [] [] 0 [(3, none, .call (.sl (List.map e2 r2) false)), (4, none, .call (.bool false))] [1, 4, 5, 22], .reg [] [] 0 [(1, none, .call (.sl (List.map e3 r4) false))] [2, 3]])
        (q172 (ai (F65_ok fuel r1 false _ h7) trivial)) (by kernel_rfl)) (by simp)) (by kernel_rfl) (by kernel_rfl)
    · have hr := Option.some.inj g2
      subst hr
      exact SemC.cast (SemJ.out (e := (.exit 0)) (path hm (σ' := ⟨[], []⟩) (ks := []) (cc := [.reg [] [] 0 [(4, none, .b false)] [1, 4, 10]])
        (ai (od h1) (ai h2 trivial)) (by kernel_rfl)) (by simp)) (by kernel_rfl) (by kernel_rfl)
def F48 (fuel : Nat) (p0 : (Int × (List (Int × Int)))) : Option ((List Int) × Bool) :=
  (obind (L48_0 p0.1 p0.2 fuel 0) fun y1 => match y1 with
  | .inl y1 => some (y1, true)
  | .inr (y1) => some ([], false))
theorem F48_ok (fuel : Nat) (p0 : (Int × (List (Int × Int))))  (r : ((List Int) × Bool)) (h : F48 fuel p0 = some r) : CallP prog 48 [.agg [.int .i64 p0.1, .sl (List.map e62 p0.2) false]] (.tup [.sl (List.map e3 r.1) false, .bool r.2]) := by
  unfold F48 at h
  refine obind_elim h fun y h1 g1 => ?_
  match y, h1, g1 with
  | .inl y1, h1, g1 =>
    have hr := Option.some.inj g1
    subst hr
    exact callP_of is48 rfl (path hm (ks := [2, 3]) (σ' := ⟨[(2, .p (.sl (List.map e3 y1) false)), (3, .p (.bool true))], []⟩) (cc := [.reg [] [] 0 [(0, none, .imm)] [1], .reg [] [] 0 [] [1, 4], .leaf .ret ⟨[(2, .p (.sl (List.map e3 y1) false)), (3, .p (.bool true))], []⟩])
      (ai (SemJ.loop (L48_0_ok p0.1 p0.2 fuel 0 _ h1)) trivial) (by kernel_rfl)) (e := .ret) rfl (vs := [.p (.sl (List.map e3 y1) false), .p (.bool true)]) trivial (by kernel_rfl) (.tup _ _ (.cons _ _ _ _ (.p _ _ (.refl _)) (.cons _ _ _ _ (.p _ _ (.refl _)) .nil)))
  | .inr (y1), h1, g1 =>
    have hr := Option.some.inj g1
    subst hr
    exact callP_of is48 rfl (path hm (ks := [2, 3]) (σ' := ⟨[(2, .p (.nilsl)), (3, .p (.bool false))], []⟩) (cc := [.reg [] [] 0 [(0, none, .imm)] [1], .reg [] [] 0 [] [1, 4], .leaf (.exit 0) ⟨[], []⟩, .reg [] [] 0 [] [2, 3]])
      (ai (SemJ.loop (L48_0_ok p0.1 p0.2 fuel 0 _ h1)) trivial) (by kernel_rfl)) (e := .ret) rfl (vs := [.p (.nilsl), .p (.bool false)]) trivial (by kernel_rfl) (.tup _ _ (.cons _ _ _ _ (.p _ _ (.nil _)) (.cons _ _ _ _ (.p _ _ (.refl _)) .nil)))
def F16 (fuel : Nat) (p0 : (Int × (List (Int × Int)))) : Option ((List Int) × Int) :=
  obind (F12 fuel (p0.1, p0.2)) fun r1 => oif ((r1 != 0))
  (some ([], r1))
  (obind (F48 fuel (p0.1, p0.2)) fun r2 => oif (r2.2)
    (some (r2.1, 0))
    (some ([], 5)))
theorem F16_ok (fuel : Nat) (p0 : (Int × (List (Int × Int))))  (r : ((List Int) × Int)) (h : F16 fuel p0 = some r) : CallP prog 16 [.agg [.int .i64 p0.1, .sl (List.map e62 p0.2) false]] (.tup [.sl (List.map e3 r.1) false, .int .i64 r.2]) := by
  unfold F16 at h
  refine obind_elim h fun r1 h1 g1 => ?_
  refine oif_elim g1 (fun h2 g2 => ?_) (fun h2 g2 => ?_)
  · have hr := Option.some.inj g2
    subst hr
    exact callP_of is16 rfl (path hm (ks := [2, 3]) (σ' := ⟨[(2, .p (.nilsl)), (3, .p (.int .i64 r1))], []⟩) (cc := [.reg [] [] 0 [(0, none, .imm)] [1], .reg [] [] 0 [(1, none, .call (.int .i64 r1)), (2, none, .b true)] [1, 8], .reg [] [] 0 [(1, none, .call (.int .i64 r1))] [2, 3]])
      (ai (F12_ok fuel (p0.1, p0.2) _ h1) (ai h2 (ai (F12_ok fuel (p0.1, p0.2) _ h1) trivial))) (by kernel_rfl)) (e := .ret) rfl (vs := [.p (.nilsl), .p (.int .i64 r1)]) trivial (by kernel_rfl) (.tup _ _ (.cons _ _ _ _ (.p _ _ (.nil _)) (.cons _ _ _ _ (.p _ _ (.refl _)) .nil)))
  · refine obind_elim g2 fun r2 h3 g3 => ?_
    let c173 : List CC := [.reg [] [] 0 [(0, none, .imm)] [1], .reg [] [] 0 [(1, none, .call (.int .i64 r1)), (2, none, .b false)] [1, 8]]
    refine oif_elim g3 (fun h4 g4 => ?_) (fun h4 g4 => ?_)
    · have hr := Option.some.inj g4
      subst hr
      exact callP_of is16 rfl (path hm (ks := [2, 3]) (σ' := ⟨[(2, .p (.sl (List.map e3 r2.1) false)), (3, .p (.int .i64 0))], []⟩) (cc := c173 ++ [.reg [] [] 0 [(1, none, .call (.tup [.sl (List.map e3 r2.1) false, .bool true]))] [4, 5], .reg [] [] 0 [] [4, 17], .reg [] [] 0 [] [2, 3]])
      (ai (F12_ok fuel (p0.1, p0.2) _ h1) (ai h2 (ai (show CallP prog 48 [.agg [.int .i64 p0.1, .sl (List.map e62 p0.2) false]] (.tup [.sl (List.map e3 r2.1) false, .bool true]) from h4 ▸ (F48_ok fuel (p0.1, p0.2) _ h3)) trivial))) (by kernel_rfl)) (e := .ret) rfl (vs := [.p (.sl (List.map e3 r2.1) false), .p (.int .i64 0)]) trivial (by kernel_rfl) (.tup _ _ (.cons _ _ _ _ (.p _ _ (.refl _)) (.cons _ _ _ _ (.p _ _ (.refl _)) .nil)))
    · have hr := Option.some.inj g4
      subst hr
      exact callP_of is16 rfl (path hm (ks := [2, 3]) (σ' := ⟨[(2, .p (.nilsl)), (3, .p (.int .i64 5))], []⟩) (cc := c173 ++ [.reg [] [] 0 [(1, none, .call (.tup [.sl (List.map e3 r2.1) false, .bool false]))] [4, 5], .reg [] [] 0 [] [4, 17], .reg [] [] 0 [] [2, 3]])
      (ai (F12_ok fuel (p0.1, p0.2) _ h1) (ai h2 (ai (show CallP prog 48 [.agg [.int .i64 p0.1, .sl (List.map e62 p0.2) false]] (.tup [.sl (List.map e3 r2.1) false, .bool false]) from h4 ▸ (F48_ok fuel (p0.1, p0.2) _ h3)) trivial))) (by kernel_rfl)) (e := .ret) rfl (vs := [.p (.nilsl), .p (.int .i64 5)]) trivial (by kernel_rfl) (.tup _ _ (.cons _ _ _ _ (.p _ _ (.nil _)) (.cons _ _ _ _ (.p _ _ (.refl _)) .nil)))
def L49_1 (v1 : Int) (v1_1 : (List (Int × Int))) (v5 : (List Int)) : Nat → Option Unit
  | 0 => none
  | fuel + 1 =>
    some (())
noncomputable def L49_1_post (v1 : Int) (v1_1 : (List (Int × Int))) (v5 : (List Int))  : Unit → Ex × St
  | y => ((.exit 2), ⟨[(1, .p (.ref [.int .i64 v1, .sl (List.map e62 v1_1) false])), (3, .p (.nilsl)), (4, .p (.int .i64 0)), (5, .p (.sl (List.map e2 v5) false)), (6, .p (.bool false))], []⟩)
theorem L49_1_ok (v1 : Int) (v1_1 : (List (Int × Int))) (v5 : (List Int))  : ∀ (fuel : Nat)  (r : Unit), L49_1 v1 v1_1 v5 fuel  = some r →
    SemJ prog ⟨45, 0, false⟩ (codeAt [1, 1, 0, 1, 0, 0, 1, 0, 0, 1, 1, 0, 1, 0, 0] (bodyOf f49)) ⟨[(1, .p (.ref [.int .i64 v1, .sl (List.map e62 v1_1) false])), (3, .p (.nilsl)), (4, .p (.int .i64 0)), (5, .p (.sl (List.map e2 v5) false)), (6, .p (.bool false)), (7, .p (.int .i64 0))], []⟩ (L49_1_post v1 v1_1 v5 r).1 (L49_1_post v1 v1_1 v5 r).2
  | 0, _, h => nomatch h
  | fuel + 1, r, h => by
    unfold L49_1 at h
    have hr := Option.some.inj h
    subst hr
    exact SemC.cast (SemJ.out (e := (.exit 2)) (path hm (σ' := ⟨[(1, .p (.ref [.int .i64 v1, .sl (List.map e62 v1_1) false])), (3, .p (.nilsl)), (4, .p (.int .i64 0)), (5, .p (.sl (List.map e2 v5) false)), (6, .p (.bool false))], []⟩) (ks := [1, 3, 4, 5, 6]) (cc := [.reg [] [] 0 [] [1, 3, 4, 5, 6, 7, 25]])
        trivial (by kernel_rfl)) (by simp)) (by kernel_rfl) (by kernel_rfl)
def L66_0 (v0 : (List Int)) (v1 : (List Int)) : Nat → Int → Option (Unit ⊕ Unit)
  | 0, _ => none
  | fuel + 1, v5 =>
    oif ((decide (v5 < (v0.length : Int))))
    (obind (sg v0 v5) fun x1 => obind (sg v1 v5) fun x2 => oif ((x1 != x2))
      (some (.inl ()))
      (L66_0 v0 v1 fuel (IntKind.wrap .i64 (v5 + 1))))
    (some (.inr (())))
noncomputable def L66_0_post (v0 : (List Int)) (v1 : (List Int)) (fp0 : Bool) (fp1 : Bool) : (Unit ⊕ Unit) → Ex × St
  | .inl y => (.ret, ⟨[(4, .p (.bool false))], []⟩)
  | .inr (y) => ((.exit 0), ⟨[], []⟩)
theorem L66_0_ok (v0 : (List Int)) (v1 : (List Int)) (fp0 : Bool) (fp1 : Bool) : ∀ (fuel : Nat) (v5 : Int) (r : (Unit ⊕ Unit)), L66_0 v0 v1 fuel v5 = some r →
    SemJ prog ⟨21, 0, false⟩ (codeAt [1, 0, 1, 0, 0] (bodyOf f66)) ⟨[(0, .p (.sl (List.map e2 v0) fp0)), (1, .p (.sl (List.map e2 v1) fp1)), (5, .p (.int .i64 v5))], []⟩ (L66_0_post v0 v1 fp0 fp1 r).1 (L66_0_post v0 v1 fp0 fp1 r).2
  | 0, _, _, h => nomatch h
  | fuel + 1, v5, r, h => by
    unfold L66_0 at h
    refine oif_elim h (fun h1 g1 => ?_) (fun h1 g1 => ?_)
    · refine obind_elim g1 fun x1 h2 g2 => ?_
      refine obind_elim g2 fun x2 h3 g3 => ?_
      refine oif_elim g3 (fun h4 g4 => ?_) (fun h4 g4 => ?_)
      · have hr := Option.some.inj g4
        subst hr
        exact SemC.cast (SemJ.out (e := .ret) (path hm (σ' := ⟨[(4, .p (.bool false))], []⟩) (ks := [4]) (cc := [.reg [] [] 0 [(2, none, .n (v0.length : Int)), (3, none, .b true)] [0, 1, 5, 9], .reg [0, 0, 3, 7, 0, 0, 48, 112, 255] [] 0 [(2, none, .iv (.p (.int .i64 x1))), (6, none, .iv (.p (.int .i64 x2))), (8, none, .b true)] [0, 1, 5, 20], .reg [] [] 0 [] [4]])
        (ai (len_map e2 v0) (ai h1 (ai (sg_map (f := e2) h2) (ai (sg_map (f := e2) h3) (ai h4 trivial))))) (by kernel_rfl)) (by simp)) (by kernel_rfl) (by kernel_rfl)
      · exact SemJ.again (σ1 := ⟨[(0, .p (.sl (List.map e2 v0) fp0)), (1, .p (.sl (List.map e2 v1) fp1)), (5, .p (.int .i64 (IntKind.wrap .i64 (v5 + 1))))], []⟩) (path hm (σ' := ⟨[(0, .p (.sl (List.map e2 v0) fp0)), (1, .p (.sl (List.map e2 v1) fp1)), (5, .p (.int .i64 (IntKind.wrap .i64 (v5 + 1))))], []⟩) (ks := [0, 1, 5]) (cc := [.reg [] [] 0 [(2, none, .n (v0.length : Int)), (3, none, .b true)] [0, 1, 5, 9], .reg [0, 0, 3, 7, 0, 0, 48, 112, 255] [] 0 [(2, none, .iv (.p (.int .i64 x1))), (6, none, .iv (.p (.int .i64 x2))), (8, none, .b false)] [0, 1, 5, 20], .reg [] [] 0 [] [0, 1, 5]])
        (ai (len_map e2 v0) (ai h1 (ai (sg_map (f := e2) h2) (ai (sg_map (f := e2) h3) (ai h4 trivial))))) (by kernel_rfl)) (L66_0_ok v0 v1 fp0 fp1 fuel (IntKind.wrap .i64 (v5 + 1)) _ g4)
    · have hr := Option.some.inj g1
      subst hr
      exact SemC.cast (SemJ.out (e := (.exit 0)) (path hm (σ' := ⟨[], []⟩) (ks := []) (cc := [.reg [] [] 0 [(2, none, .n (v0.length : Int)), (3, none, .b false)] [0, 1, 5, 9]])
        (ai (len_map e2 v0) (ai h1 trivial)) (by kernel_rfl)) (by simp)) (by kernel_rfl) (by kernel_rfl)
def F66 (fuel : Nat) (p0 : (List Int)) (p1 : (List Int)) : Option Bool :=
  (obind (L66_0 p0 p1 fuel 0) fun y1 => match y1 with
  | .inl y1 => some false
  | .inr (y1) => some true)
theorem F66_ok (fuel : Nat) (p0 : (List Int)) (p1 : (List Int)) (fp0 : Bool) (fp1 : Bool) (r : Bool) (h : F66 fuel p0 p1 = some r) : CallP prog 66 [.sl (List.map e2 p0) fp0, .sl (List.map e2 p1) fp1] (.bool r) := by
  unfold F66 at h
  refine obind_elim h fun y h1 g1 => ?_
  match y, h1, g1 with
  | .inl y1, h1, g1 =>
    have hr := Option.some.inj g1
    subst hr
    exact callP_of is66 rfl (path hm (ks := [4]) (σ' := ⟨[(4, .p (.bool false))], []⟩) (cc := [.reg [] [] 0 [] [0, 1], .reg [] [] 0 [] [0, 1, 5], .leaf .ret ⟨[(4, .p (.bool false))], []⟩])
      (ai (SemJ.loop (L66_0_ok p0 p1 fp0 fp1 fuel 0 _ h1)) trivial) (by kernel_rfl)) (e := .ret) rfl (vs := [.p (.bool false)]) trivial (by kernel_rfl) (.p _ _ (.refl _))
  | .inr (y1), h1, g1 =>
    have hr := Option.some.inj g1
    subst hr
    exact callP_of is66 rfl (path hm (ks := [4]) (σ' := ⟨[(4, .p (.bool true))], []⟩) (cc := [.reg [] [] 0 [] [0, 1], .reg [] [] 0 [] [0, 1, 5], .leaf (.exit 0) ⟨[], []⟩, .reg [] [] 0 [] [4]])
      (ai (SemJ.loop (L66_0_ok p0 p1 fp0 fp1 fuel 0 _ h1)) trivial) (by kernel_rfl)) (e := .ret) rfl (vs := [.p (.bool true)]) trivial (by kernel_rfl) (.p _ _ (.refl _))
def L49_3 (v1 : Int) (v1_1 : (List (Int × Int))) (v5 : (List Int)) (w0 : (List (List Int))) : Nat → Bool → Int → Option Bool
  | 0, _, _ => none
  | fuel + 1, v6, v7 =>
    oif (v6)
    (oif ((decide (v7 < (((List.length w0) : Nat) : Int))))
      (L49_3 v1 v1_1 v5 w0 fuel true (IntKind.wrap .i64 (v7 + 1)))
      (some (true)))
    (oif ((decide (v7 < (((List.length w0) : Nat) : Int))))
      (oif (decide ((0:Int) ≤ v7)) (oif (decide ((v7 : Int) < (((List.length w0) : Nat) : Int))) (obind (sg w0 v7) fun x1 => obind (F66 fuel x1 v5) fun r2 => oif (r2)
        (L49_3 v1 v1_1 v5 w0 fuel true (IntKind.wrap .i64 (v7 + 1)))
        (L49_3 v1 v1_1 v5 w0 fuel false (IntKind.wrap .i64 (v7 + 1)))) none) none)
      (some (false)))
noncomputable def L49_3_post (v1 : Int) (v1_1 : (List (Int × Int))) (v5 : (List Int)) (w0 : (List (List Int)))  : Bool → Ex × St
  | y => ((.exit 2), ⟨[(1, .p (.ref [.int .i64 v1, .sl (List.map e62 v1_1) false])), (3, .msl 0 0 (List.length w0) (List.length (rowI e25 w0)) false), (4, .p (.int .i64 1)), (5, .p (.sl (List.map e2 v5) false)), (6, .p (.bool y))], [.cells (rowI e25 w0) 1]⟩)
theorem L49_3_ok (v1 : Int) (v1_1 : (List (Int × Int))) (v5 : (List Int)) (w0 : (List (List Int)))  : ∀ (fuel : Nat) (v6 : Bool) (v7 : Int) (r : Bool), L49_3 v1 v1_1 v5 w0 fuel v6 v7 = some r →
    SemJ prog ⟨45, 0, false⟩ (codeAt [1, 1, 0, 1, 0, 0, 1, 0, 0, 1, 1, 0, 1, 0, 0] (bodyOf f49)) ⟨[(1, .p (.ref [.int .i64 v1, .sl (List.map e62 v1_1) false])), (3, .msl 0 0 (List.length w0) (List.length (rowI e25 w0)) false), (4, .p (.int .i64 1)), (5, .p (.sl (List.map e2 v5) false)), (6, .p (.bool v6)), (7, .p (.int .i64 v7))], [.cells (rowI e25 w0) 1]⟩ (L49_3_post v1 v1_1 v5 w0 r).1 (L49_3_post v1 v1_1 v5 w0 r).2
  | 0, _, _, _, h => nomatch h
  | fuel + 1, v6, v7, r, h => by
    unfold L49_3 at h
    refine oif_elim h (fun h1 g1 => ?_) (fun h1 g1 => ?_)
    · subst h1
      refine oif_elim g1 (fun h2 g2 => ?_) (fun h2 g2 => ?_)
      · exact SemJ.again (σ1 := ⟨[(1, .p (.ref [.int .i64 v1, .sl (List.map e62 v1_1) false])), (3, .msl 0 0 (List.length w0) (List.length (rowI e25 w0)) false), (4, .p (.int .i64 1)), (5, .p (.sl (List.map e2 v5) false)), (6, .p (.bool true)), (7, .p (.int .i64 (IntKind.wrap .i64 (v7 + 1))))], [.cells (rowI e25 w0) 1]⟩) (path hm (σ' := ⟨[(1, .p (.ref [.int .i64 v1, .sl (List.map e62 v1_1) false])), (3, .msl 0 0 (List.length w0) (List.length (rowI e25 w0)) false), (4, .p (.int .i64 1)), (5, .p (.sl (List.map e2 v5) false)), (6, .p (.bool true)), (7, .p (.int .i64 (IntKind.wrap .i64 (v7 + 1))))], [.cells (rowI e25 w0) 1]⟩) (ks := [1, 3, 4, 5, 6, 7]) (cc := [.reg [] [] 0 [(3, none, .b true)] [1, 3, 4, 5, 6, 7, 25], .reg [] [] 0 [] [1, 3, 4, 5, 6, 7], .reg [] [] 0 [] [1, 3, 4, 5, 6, 7]])
        (ai h2 trivial) (by kernel_rfl)) (L49_3_ok v1 v1_1 v5 w0 fuel true (IntKind.wrap .i64 (v7 + 1)) _ g2)
      · have hr := Option.some.inj g2
        subst hr
        exact SemC.cast (SemJ.out (e := (.exit 2)) (path hm (σ' := ⟨[(1, .p (.ref [.int .i64 v1, .sl (List.map e62 v1_1) false])), (3, .msl 0 0 (List.length w0) (List.length (rowI e25 w0)) false), (4, .p (.int .i64 1)), (5, .p (.sl (List.map e2 v5) false)), (6, .p (.bool true))], [.cells (rowI e25 w0) 1]⟩) (ks := [1, 3, 4, 5, 6]) (cc := [.reg [] [] 0 [(3, none, .b false)] [1, 3, 4, 5, 6, 7, 25]])
        (ai h2 trivial) (by kernel_rfl)) (by simp)) (by kernel_rfl) (by kernel_rfl)
    · subst h1
      refine oif_elim g1 (fun h2 g2 => ?_) (fun h2 g2 => ?_)
      · refine oif_elim g2 (fun h3 g3 => ?_) (fun _ h => nomatch h)
        refine oif_elim g3 (fun h4 g4 => ?_) (fun _ h => nomatch h)
        refine obind_elim g4 fun x1 h5 g5 => ?_
        refine obind_elim g5 fun r2 h6 g6 => ?_
        have q174 := fun {P : Prop} (t : P) => ai h2 (ai (od h3) (ai (od h4) (ai (rl (List.length (rowI e25 w0))) (ai (row_get el25 h5 rfl) (ai (F66_ok fuel x1 v5 false false _ h6) t)))))
        refine oif_elim g6 (fun h7 g7 => ?_) (fun h7 g7 => ?_)
        · subst h7
          exact SemJ.again (σ1 := ⟨[(1, .p (.ref [.int .i64 v1, .sl (List.map e62 v1_1) false])), (3, .msl 0 0 (List.length w0) (List.length (rowI e25 w0)) false), (4, .p (.int .i64 1)), (5, .p (.sl (List.map e2 v5) false)), (6, .p (.bool true)), (7, .p (.int .i64 (IntKind.wrap .i64 (v7 + 1))))], [.cells (rowI e25 w0) 1]⟩) (path hm (σ' := ⟨[(1, .p (.ref [.int .i64 v1, .sl (List.map e62 v1_1) false])), (3, .msl 0 0 (List.length w0) (List.length (rowI e25 w0)) false), (4, .p (.int .i64 1)), (5, .p (.sl (List.map e2 v5) false)), (6, .p (.bool true)), (7, .p (.int .i64 (IntKind.wrap .i64 (v7 + 1))))], [.cells (rowI e25 w0) 1]⟩) (ks := [1, 3, 4, 5, 6, 7]) (cc := [.reg [] [] 0 [(3, none, .b true)] [1, 3, 4, 5, 6, 7, 25], .reg [] [] 0 [(5, none, .iv (.p (.sl (List.map e2 x1) false))), (7, none, .call (.bool true))] [1, 3, 4, 5, 6, 7], .reg [] [] 0 [] [1, 3, 4, 5, 6, 7]])
        (q174 trivial) (by kernel_rfl)) (L49_3_ok v1 v1_1 v5 w0 fuel true (IntKind.wrap .i64 (v7 + 1)) _ g7)
        · subst h7
          exact SemJ.again (σ1 := ⟨[(1, .p (.ref [.int .i64 v1, .sl (List.map e62 v1_1) false])), (3, .msl 0 0 (List.length w0) (List.length (rowI e25 w0)) false), (4, .p (.int .i64 1)), (5, .p (.sl (List.map e2 v5) false)), (6, .p (.bool false)), (7, .p (.int .i64 (IntKind.wrap .i64 (v7 + 1))))], [.cells (rowI e25 w0) 1]⟩) (path hm (σ' := ⟨[(1, .p (.ref [.int .i64 v1, .sl (List.map e62 v1_1) false])), (3, .msl 0 0 (List.length w0) (List.length (rowI e25 w0)) false), (4, .p (.int .i64 1)), (5, .p (.sl (List.map e2 v5) false)), (6, .p (.bool false)), (7, .p (.int .i64 (IntKind.wrap .i64 (v7 + 1))))], [.cells (rowI e25 w0) 1]⟩) (ks := [1, 3, 4, 5, 6, 7]) (cc := [.reg [] [] 0 [(3, none, .b true)] [1, 3, 4, 5, 6, 7, 25], .reg [] [] 0 [(5, none, .iv (.p (.sl (List.map e2 x1) false))), (7, none, .call (.bool false))] [1, 3, 4, 5, 6, 7], .reg [] [] 0 [] [1, 3, 4, 5, 6, 7]])
        (q174 trivial) (by kernel_rfl)) (L49_3_ok v1 v1_1 v5 w0 fuel false (IntKind.wrap .i64 (v7 + 1)) _ g7)
      · have hr := Option.some.inj g2
        subst hr
        exact SemC.cast (SemJ.out (e := (.exit 2)) (path hm (σ' := ⟨[(1, .p (.ref [.int .i64 v1, .sl (List.map e62 v1_1) false])), (3, .msl 0 0 (List.length w0) (List.length (rowI e25 w0)) false), (4, .p (.int .i64 1)), (5, .p (.sl (List.map e2 v5) false)), (6, .p (.bool false))], [.cells (rowI e25 w0) 1]⟩) (ks := [1, 3, 4, 5, 6]) (cc := [.reg [] [] 0 [(3, none, .b false)] [1, 3, 4, 5, 6, 7, 25]])
        (ai h2 trivial) (by kernel_rfl)) (by simp)) (by kernel_rfl) (by kernel_rfl)
def L49_4 (v1 : Int) (v1_1 : (List (Int × Int))) (v4 : Int) (v5 : (List Int)) (w0 : (List (List Int))) : Nat → Bool → Int → Option Bool
  | 0, _, _ => none
  | fuel + 1, v6, v7 =>
    oif (v6)
    (oif ((decide (v7 < (((List.length w0) : Nat) : Int))))
      (L49_4 v1 v1_1 v4 v5 w0 fuel true (IntKind.wrap .i64 (v7 + 1)))
      (some (true)))
    (oif ((decide (v7 < (((List.length w0) : Nat) : Int))))
      (oif (decide ((0:Int) ≤ v7)) (oif (decide ((v7 : Int) < (((List.length w0) : Nat) : Int))) (obind (sg w0 v7) fun x1 => obind (F66 fuel x1 v5) fun r2 => oif (r2)
        (L49_4 v1 v1_1 v4 v5 w0 fuel true (IntKind.wrap .i64 (v7 + 1)))
        (L49_4 v1 v1_1 v4 v5 w0 fuel false (IntKind.wrap .i64 (v7 + 1)))) none) none)
      (some (false)))
noncomputable def L49_4_post (v1 : Int) (v1_1 : (List (Int × Int))) (v4 : Int) (v5 : (List Int)) (w0 : (List (List Int)))  : Bool → Ex × St
  | y => ((.exit 2), ⟨[(1, .p (.ref [.int .i64 v1, .sl (List.map e62 v1_1) false])), (3, .msl 0 0 (List.length w0) (List.length (rowI e25 w0)) false), (4, .p (.int .i64 v4)), (5, .p (.sl (List.map e2 v5) false)), (6, .p (.bool y))], [.cells (rowI e25 w0) 1]⟩)
theorem L49_4_ok (v1 : Int) (v1_1 : (List (Int × Int))) (v4 : Int) (v5 : (List Int)) (w0 : (List (List Int)))  : ∀ (fuel : Nat) (v6 : Bool) (v7 : Int) (r : Bool), L49_4 v1 v1_1 v4 v5 w0 fuel v6 v7 = some r →
    SemJ prog ⟨45, 0, false⟩ (codeAt [1, 1, 0, 1, 0, 0, 1, 0, 0, 1, 1, 0, 1, 0, 0] (bodyOf f49)) ⟨[(1, .p (.ref [.int .i64 v1, .sl (List.map e62 v1_1) false])), (3, .msl 0 0 (List.length w0) (List.length (rowI e25 w0)) false), (4, .p (.int .i64 v4)), (5, .p (.sl (List.map e2 v5) false)), (6, .p (.bool v6)), (7, .p (.int .i64 v7))], [.cells (rowI e25 w0) 1]⟩ (L49_4_post v1 v1_1 v4 v5 w0 r).1 (L49_4_post v1 v1_1 v4 v5 w0 r).2
  | 0, _, _, _, h => nomatch h
  | fuel + 1, v6, v7, r, h => by
    unfold L49_4 at h
    refine oif_elim h (fun h1 g1 => ?_) (fun h1 g1 => ?_)
    · subst h1
      refine oif_elim g1 (fun h2 g2 => ?_) (fun h2 g2 => ?_)
      · exact SemJ.again (σ1 := ⟨[(1, .p (.ref [.int .i64 v1, .sl (List.map e62 v1_1) false])), (3, .msl 0 0 (List.length w0) (List.length (rowI e25 w0)) false), (4, .p (.int .i64 v4)), (5, .p (.sl (List.map e2 v5) false)), (6, .p (.bool true)), (7, .p (.int .i64 (IntKind.wrap .i64 (v7 + 1))))], [.cells (rowI e25 w0) 1]⟩) (path hm (σ' := ⟨[(1, .p (.ref [.int .i64 v1, .sl (List.map e62 v1_1) false])), (3, .msl 0 0 (List.length w0) (List.length (rowI e25 w0)) false), (4, .p (.int .i64 v4)), (5, .p (.sl (List.map e2 v5) false)), (6, .p (.bool true)), (7, .p (.int .i64 (IntKind.wrap .i64 (v7 + 1))))], [.cells (rowI e25 w0) 1]⟩) (ks := [1, 3, 4, 5, 6, 7]) (cc := [.reg [] [] 0 [(3, none, .b true)] [1, 3, 4, 5, 6, 7, 25], .reg [] [] 0 [] [1, 3, 4, 5, 6, 7], .reg [] [] 0 [] [1, 3, 4, 5, 6, 7]])
        (ai h2 trivial) (by kernel_rfl)) (L49_4_ok v1 v1_1 v4 v5 w0 fuel true (IntKind.wrap .i64 (v7 + 1)) _ g2)
      · have hr := Option.some.inj g2
        subst hr
        exact SemC.cast (SemJ.out (e := (.exit 2)) (path hm (σ' := ⟨[(1, .p (.ref [.int .i64 v1, .sl (List.map e62 v1_1) false])), (3, .msl 0 0 (List.length w0) (List.length (rowI e25 w0)) false), (4, .p (.int .i64 v4)), (5, .p (.sl (List.map e2 v5) false)), (6, .p (.bool true))], [.cells (rowI e25 w0) 1]⟩) (ks := [1, 3, 4, 5, 6]) (cc := [.reg [] [] 0 [(3, none, .b false)] [1, 3, 4, 5, 6, 7, 25]])
        (ai h2 trivial) (by kernel_rfl)) (by simp)) (by kernel_rfl) (by kernel_rfl)
    · subst h1
      refine oif_elim g1 (fun h2 g2 => ?_) (fun h2 g2 => ?_)
      · refine oif_elim g2 (fun h3 g3 => ?_) (fun _ h => nomatch h)
        refine oif_elim g3 (fun h4 g4 => ?_) (fun _ h => nomatch h)
        refine obind_elim g4 fun x1 h5 g5 => ?_
        refine obind_elim g5 fun r2 h6 g6 => ?_
        have q175 := fun {P : Prop} (t : P) => ai h2 (ai (od h3) (ai (od h4) (ai (rl (List.length (rowI e25 w0))) (ai (row_get el25 h5 rfl) (ai (F66_ok fuel x1 v5 false false _ h6) t)))))
        refine oif_elim g6 (fun h7 g7 => ?_) (fun h7 g7 => ?_)
        · subst h7
          exact SemJ.again (σ1 := ⟨[(1, .p (.ref [.int .i64 v1, .sl (List.map e62 v1_1) false])), (3, .msl 0 0 (List.length w0) (List.length (rowI e25 w0)) false), (4, .p (.int .i64 v4)), (5, .p (.sl (List.map e2 v5) false)), (6, .p (.bool true)), (7, .p (.int .i64 (IntKind.wrap .i64 (v7 + 1))))], [.cells (rowI e25 w0) 1]⟩) (path hm (σ' := ⟨[(1, .p (.ref [.int .i64 v1, .sl (List.map e62 v1_1) false])), (3, .msl 0 0 (List.length w0) (List.length (rowI e25 w0)) false), (4, .p (.int .i64 v4)), (5, .p (.sl (List.map e2 v5) false)), (6, .p (.bool true)), (7, .p (.int .i64 (IntKind.wrap .i64 (v7 + 1))))], [.cells (rowI e25 w0) 1]⟩) (ks := [1, 3, 4, 5, 6, 7]) (cc := [.reg [] [] 0 [(3, none, .b true)] [1, 3, 4, 5, 6, 7, 25], .reg [] [] 0 [(5, none, .iv (.p (.sl (List.map e2 x1) false))), (7, none, .call (.bool true))] [1, 3, 4, 5, 6, 7], .reg [] [] 0 [] [1, 3, 4, 5, 6, 7]])
        (q175 trivial) (by kernel_rfl)) (L49_4_ok v1 v1_1 v4 v5 w0 fuel true (IntKind.wrap .i64 (v7 + 1)) _ g7)
        · subst h7
          exact SemJ.again (σ1 := ⟨[(1, .p (.ref [.int .i64 v1, .sl (List.map e62 v1_1) false])), (3, .msl 0 0 (List.length w0) (List.length (rowI e25 w0)) false), (4, .p (.int .i64 v4)), (5, .p (.sl (List.map e2 v5) false)), (6, .p (.bool false)), (7, .p (.int .i64 (IntKind.wrap .i64 (v7 + 1))))], [.cells (rowI e25 w0) 1]⟩) (path hm (σ' := ⟨[(1, .p (.ref [.int .i64 v1, .sl (List.map e62 v1_1) false])), (3, .msl 0 0 (List.length w0) (List.length (rowI e25 w0)) false), (4, .p (.int .i64 v4)), (5, .p (.sl (List.map e2 v5) false)), (6, .p (.bool false)), (7, .p (.int .i64 (IntKind.wrap .i64 (v7 + 1))))], [.cells (rowI e25 w0) 1]⟩) (ks := [1, 3, 4, 5, 6, 7]) (cc := [.reg [] [] 0 [(3, none, .b true)] [1, 3, 4, 5, 6, 7, 25], .reg [] [] 0 [(5, none, .iv (.p (.sl (List.map e2 x1) false))), (7, none, .call (.bool false))] [1, 3, 4, 5, 6, 7], .reg [] [] 0 [] [1, 3, 4, 5, 6, 7]])
        (q175 trivial) (by kernel_rfl)) (L49_4_ok v1 v1_1 v4 v5 w0 fuel false (IntKind.wrap .i64 (v7 + 1)) _ g7)
      · have hr := Option.some.inj g2
        subst hr
        exact SemC.cast (SemJ.out (e := (.exit 2)) (path hm (σ' := ⟨[(1, .p (.ref [.int .i64 v1, .sl (List.map e62 v1_1) false])), (3, .msl 0 0 (List.length w0) (List.length (rowI e25 w0)) false), (4, .p (.int .i64 v4)), (5, .p (.sl (List.map e2 v5) false)), (6, .p (.bool false))], [.cells (rowI e25 w0) 1]⟩) (ks := [1, 3, 4, 5, 6]) (cc := [.reg [] [] 0 [(3, none, .b false)] [1, 3, 4, 5, 6, 7, 25]])
        (ai h2 trivial) (by kernel_rfl)) (by simp)) (by kernel_rfl) (by kernel_rfl)
def L49_2 (v1 : Int) (v1_1 : (List (Int × Int))) : Nat → Int → (List (List Int)) → Option (List (List Int))
  | 0, _, _ => none
  | fuel + 1, v4, w0 =>
    oif (decide ((0:Int) ≤ v1)) (oif ((decide (v4 < (IntKind.wrap .i64 (1 * 2 ^ (min (Int.toNat v1) (IntKind.bits .i64)))))))
    (obind (F58 fuel v1 v4) fun r1 => obind (F42 fuel v1_1 r1) fun r2 => obind (L49_4 v1 v1_1 v4 r2 w0 fuel false 0) fun y3 => oif (y3)
      (L49_2 v1 v1_1 fuel (IntKind.wrap .i64 (v4 + 1)) w0)
      (oif (decide (((List.length w0) + 1) * 24 ≤ 140737488355328)) (L49_2 v1 v1_1 fuel (IntKind.wrap .i64 (v4 + 1)) (w0 ++ [r2])) none))
    (some (w0))) none
noncomputable def L49_2_post (v1 : Int) (v1_1 : (List (Int × Int)))  : (List (List Int)) → Ex × St
  | y => ((.exit 0), ⟨[(3, .msl 0 0 (List.length y) (List.length (rowI e25 y)) false)], [.cells (rowI e25 y) 1]⟩)
theorem L49_2_ok (v1 : Int) (v1_1 : (List (Int × Int)))  : ∀ (fuel : Nat) (v4 : Int) (w0 : (List (List Int))) (r : (List (List Int))), L49_2 v1 v1_1 fuel v4 w0 = some r →
    SemJ prog ⟨45, 0, false⟩ (codeAt [1, 1, 0, 1, 0, 0] (bodyOf f49)) ⟨[(1, .p (.ref [.int .i64 v1, .sl (List.map e62 v1_1) false])), (3, .msl 0 0 (List.length w0) (List.length (rowI e25 w0)) false), (4, .p (.int .i64 v4))], [.cells (rowI e25 w0) 1]⟩ (L49_2_post v1 v1_1 r).1 (L49_2_post v1 v1_1 r).2
  | 0, _, _, _, h => nomatch h
  | fuel + 1, v4, w0, r, h => by
    unfold L49_2 at h
    refine oif_elim h (fun h1 g1 => ?_) (fun _ h => nomatch h)
    refine oif_elim g1 (fun h2 g2 => ?_) (fun h2 g2 => ?_)
    · refine obind_elim g2 fun r1 h3 g3 => ?_
      refine obind_elim g3 fun r2 h4 g4 => ?_
      refine obind_elim g4 fun y3 h5 g5 => ?_
      let c176 : List CC := [.reg [] [] 0 [(4, none, .b true)] [1, 3, 4, 12], .reg [0, 1, 0, 4, 0, 28, 63, 127] [] 0 [(5, none, .call (.sl (List.map e2 r1) false)), (6, none, .call (.sl (List.map e2 r2) false))] [1, 3, 4, 5], .reg [] [] 0 [] [1, 3, 4, 5, 6], .reg [] [] 0 [] [1, 3, 4, 5, 6, 7]]
      have q177 := fun {P : Prop} (t : P) => ai (od h1) (ai h2 (ai (F58_ok fuel v1 v4 _ h3) (ai (F42_ok fuel v1_1 r1 false false _ h4) (ai (SemJ.loop (L49_4_ok v1 v1_1 v4 r2 w0 fuel false 0 _ h5)) t))))
      refine oif_elim g5 (fun h6 g6 => ?_) (fun h6 g6 => ?_)
      · subst h6
        exact SemJ.again (σ1 := ⟨[(1, .p (.ref [.int .i64 v1, .sl (List.map e62 v1_1) false])), (3, .msl 0 0 (List.length w0) (List.length (rowI e25 w0)) false), (4, .p (.int .i64 (IntKind.wrap .i64 (v4 + 1))))], [.cells (rowI e25 w0) 1]⟩) (path hm (σ' := ⟨[(1, .p (.ref [.int .i64 v1, .sl (List.map e62 v1_1) false])), (3, .msl 0 0 (List.length w0) (List.length (rowI e25 w0)) false), (4, .p (.int .i64 (IntKind.wrap .i64 (v4 + 1))))], [.cells (rowI e25 w0) 1]⟩) (ks := [1, 3, 4]) (cc := c176 ++ [.leaf (.exit 2) ⟨[(1, .p (.ref [.int .i64 v1, .sl (List.map e62 v1_1) false])), (3, .msl 0 0 (List.length w0) (List.length (rowI e25 w0)) false), (4, .p (.int .i64 v4)), (5, .p (.sl (List.map e2 r2) false)), (6, .p (.bool true))], [.cells (rowI e25 w0) 1]⟩, .reg [] [] 0 [] [1, 3, 4, 5, 38], .reg [] [] 0 [] [1, 3, 4]])
        (q177 trivial) (by kernel_rfl)) (L49_2_ok v1 v1_1 fuel (IntKind.wrap .i64 (v4 + 1)) w0 _ g6)
      · subst h6
        refine oif_elim g6 (fun h7 g7 => ?_) (fun _ h => nomatch h)
        exact SemJ.again (σ1 := ⟨[(1, .p (.ref [.int .i64 v1, .sl (List.map e62 v1_1) false])), (3, .msl 0 0 (List.length (w0 ++ [r2])) (List.length (rowI e25 (w0 ++ [r2]))) false), (4, .p (.int .i64 (IntKind.wrap .i64 (v4 + 1))))], [.cells (rowI e25 (w0 ++ [r2])) 1]⟩) (path hm (σ' := ⟨[(1, .p (.ref [.int .i64 v1, .sl (List.map e62 v1_1) false])), (3, .msl 0 0 (List.length (w0 ++ [r2])) (List.length (rowI e25 (w0 ++ [r2]))) false), (4, .p (.int .i64 (IntKind.wrap .i64 (v4 + 1))))], [.cells (rowI e25 (w0 ++ [r2])) 1]⟩) (ks := [1, 3, 4]) (cc := c176 ++ [.leaf (.exit 2) ⟨[(1, .p (.ref [.int .i64 v1, .sl (List.map e62 v1_1) false])), (3, .msl 0 0 (List.length w0) (List.length (rowI e25 w0)) false), (4, .p (.int .i64 v4)), (5, .p (.sl (List.map e2 r2) false)), (6, .p (.bool false))], [.cells (rowI e25 w0) 1]⟩, .reg [] [] 0 [] [1, 3, 4, 5, 38], .reg [] [] 0 [(3, none, .ap (rowI e25 (w0 ++ [r2])) (List.length (w0 ++ [r2])) (List.length (rowI e25 (w0 ++ [r2]))))] [1, 3, 4], .reg [] [] 0 [] [1, 3, 4]])
        (q177 (ai (by decide : 0 < 1) (ai (od h7) (ai (app_c2 (by decide) (od h7)) (ai (app_len e25 [r2] (rl (List.length w0))) (ai (rl (List.length (rowI e25 (w0 ++ [r2])))) (ai (row_app e25 w0 [r2]) (ai (rl (List.length (rowI e25 w0))) (ai (row_sz el25 (rl (List.length (rowI e25 w0))) (rl (List.length w0))) (ai (row_sc el25 [r2]) (ai (row_es el25 [r2]) trivial))))))))))) (by kernel_rfl)) (L49_2_ok v1 v1_1 fuel (IntKind.wrap .i64 (v4 + 1)) (w0 ++ [r2]) _ g7)
    · have hr := Option.some.inj g2
      subst hr
      exact SemC.cast (SemJ.out (e := (.exit 0)) (path hm (σ' := ⟨[(3, .msl 0 0 (List.length w0) (List.length (rowI e25 w0)) false)], [.cells (rowI e25 w0) 1]⟩) (ks := [3]) (cc := [.reg [] [] 0 [(4, none, .b false)] [1, 3, 4, 12]])
        (ai (od h1) (ai h2 trivial)) (by kernel_rfl)) (by simp)) (by kernel_rfl) (by kernel_rfl)
def L49_0 (v1 : Int) (v1_1 : (List (Int × Int))) : Nat → Option (List (List Int))
  | 0 => none
  | fuel + 1 =>
    oif (decide ((0:Int) ≤ v1)) (oif ((decide (0 < (IntKind.wrap .i64 (1 * 2 ^ (min (Int.toNat v1) (IntKind.bits .i64)))))))
    (obind (F58 fuel v1 0) fun r1 => obind (F42 fuel v1_1 r1) fun r2 => obind (L49_1 v1 v1_1 r2 fuel ) fun y3 => oif (decide (1 * 24 ≤ 140737488355328)) (obind (L49_2 v1 v1_1 fuel 1 [r2]) fun y4 => some (y4)) none)
    (some (([] : List (List Int))))) none
noncomputable def L49_0_post (v1 : Int) (v1_1 : (List (Int × Int)))  : (List (List Int)) → Ex × St
  | y => ((.exit 0), ⟨[(3, .p (.sl (List.map e25 y) false))], []⟩)
theorem L49_0_ok (v1 : Int) (v1_1 : (List (Int × Int)))  : ∀ (fuel : Nat)  (r : (List (List Int))), L49_0 v1 v1_1 fuel  = some r →
    SemJ prog ⟨45, 0, false⟩ (codeAt [1, 1, 0, 1, 0, 0] (bodyOf f49)) ⟨[(1, .p (.ref [.int .i64 v1, .sl (List.map e62 v1_1) false])), (3, .p (.nilsl)), (4, .p (.int .i64 0))], []⟩ (L49_0_post v1 v1_1 r).1 (L49_0_post v1 v1_1 r).2
  | 0, _, h => nomatch h
  | fuel + 1, r, h => by
    unfold L49_0 at h
    refine oif_elim h (fun h1 g1 => ?_) (fun _ h => nomatch h)
    refine oif_elim g1 (fun h2 g2 => ?_) (fun h2 g2 => ?_)
    · refine obind_elim g2 fun r1 h3 g3 => ?_
      refine obind_elim g3 fun r2 h4 g4 => ?_
      refine obind_elim g4 fun y3 h5 g5 => ?_
      refine oif_elim g5 (fun h6 g6 => ?_) (fun _ h => nomatch h)
      refine obind_elim g6 fun y4 h7 g7 => ?_
      have hr := Option.some.inj g7
      subst hr
      exact SemC.cast (SemJ.again (σ1 := ⟨[(1, .p (.ref [.int .i64 v1, .sl (List.map e62 v1_1) false])), (3, .msl 0 0 (List.length [r2]) (List.length (rowI e25 [r2])) false), (4, .p (.int .i64 1))], [.cells (rowI e25 [r2]) 1]⟩) (path hm (σ' := ⟨[(1, .p (.ref [.int .i64 v1, .sl (List.map e62 v1_1) false])), (3, .msl 0 0 (List.length [r2]) (List.length (rowI e25 [r2])) false), (4, .p (.int .i64 1))], [.cells (rowI e25 [r2]) 1]⟩) (ks := [1, 3, 4]) (cc := [.reg [] [] 0 [(4, none, .b true)] [1, 3, 4, 12], .reg [0, 1, 0, 4, 0, 28, 63, 127] [] 0 [(5, none, .call (.sl (List.map e2 r1) false)), (6, none, .call (.sl (List.map e2 r2) false))] [1, 3, 4, 5], .reg [] [] 0 [] [1, 3, 4, 5, 6], .reg [] [] 0 [] [1, 3, 4, 5, 6, 7], .leaf (.exit 2) ⟨[(1, .p (.ref [.int .i64 v1, .sl (List.map e62 v1_1) false])), (3, .p (.nilsl)), (4, .p (.int .i64 0)), (5, .p (.sl (List.map e2 r2) false)), (6, .p (.bool false))], []⟩, .reg [] [] 0 [] [1, 3, 4, 5, 38], .reg [] [] 1 [(3, some 0, .ap (rowI e25 [r2]) (List.length [r2]) (List.length (rowI e25 [r2])))] [1, 3, 4], .reg [] [] 0 [] [1, 3, 4]])
        (ai (od h1) (ai h2 (ai (F58_ok fuel v1 0 _ h3) (ai (F42_ok fuel v1_1 r1 false false _ h4) (ai (SemJ.loop (L49_1_ok v1 v1_1 r2 fuel  _ h5)) (ai (by decide : 0 < 1) (ai (od h6) (ai (app_c0 (by decide) (od h6)) (ai (rl (List.length [r2])) (ai (rl (List.length (rowI e25 [r2]))) (ai (row_src e25 [r2]) (ai (row_sc el25 [r2]) (ai (row_es el25 [r2]) trivial))))))))))))) (by kernel_rfl)) (SemC.post (L49_2_ok v1 v1_1 fuel 1 [r2] _ h7) (Weak.trans (wcast (Weak.freeze (E := [(3, .msl 0 0 (List.length y4) (List.length (rowI e25 y4)) false)]) (E' := [(3, .p (.sl (List.map e25 y4) false))]) (H := [.cells (rowI e25 y4) 1]) [0] (by kernel_rfl) (.snap _ _ _ _ _ (snap_row (g := 1) (L := y4) el25 (by kernel_rfl) (rl (List.length (rowI e25 y4))) (rl (List.length y4))) .nil)) (by kernel_rfl : (⟨[(3, .p (.sl (List.map e25 y4) false))], puts (dieW [0]) [.cells (rowI e25 y4) 1]⟩ : St) = ⟨[(3, .p (.sl (List.map e25 y4) false))], [.dead]⟩)) (Weak.sel (E := [(3, .p (.sl (List.map e25 y4) false))]) (E' := [(3, .p (.sl (List.map e25 y4) false))]) (H := [.dead]) (H' := []) [] trivial (by kernel_rfl) (by kernel_rfl))))) (by kernel_rfl) (by kernel_rfl)
    · have hr := Option.some.inj g2
      subst hr
      exact SemC.cast (SemJ.out (e := (.exit 0)) (SemC.post (path hm (σ' := ⟨[(3, .p (.nilsl))], []⟩) (ks := [3]) (cc := [.reg [] [] 0 [(4, none, .b false)] [1, 3, 4, 12]])
        (ai (od h1) (ai h2 trivial)) (by kernel_rfl)) (wcast (Weak.freeze (E := [(3, .p (.nilsl))]) (E' := [(3, .p (.sl (List.map e25 ([] : List (List Int))) false))]) (H := []) [] (by kernel_rfl) (.snap _ _ _ _ _ (.p _ _ (.nil _)) .nil)) (by kernel_rfl : (⟨[(3, .p (.sl (List.map e25 ([] : List (List Int))) false))], puts (dieW []) []⟩ : St) = ⟨[(3, .p (.sl (List.map e25 ([] : List (List Int))) false))], []⟩))) (by simp)) (by kernel_rfl) (by kernel_rfl)
def F49 (fuel : Nat) (p0 : (Int × (List (Int × Int)))) : Option Int :=
  obind (L49_0 p0.1 p0.2 fuel ) fun y1 => some (y1.length : Int)
theorem F49_ok (fuel : Nat) (p0 : (Int × (List (Int × Int))))  (r : Int) (h : F49 fuel p0 = some r) : CallP prog 49 [.agg [.int .i64 p0.1, .sl (List.map e62 p0.2) false]] (.int .i64 r) := by
  unfold F49 at h
  refine obind_elim h fun y1 h1 g1 => ?_
  have hr := Option.some.inj g1
  subst hr
  exact callP_of is49 rfl (path hm (ks := [2]) (σ' := ⟨[(2, .p (.int .i64 (y1.length : Int)))], []⟩) (cc := [.reg [] [] 0 [(0, none, .imm)] [1], .reg [] [] 0 [] [1, 3], .reg [] [] 0 [] [1, 3, 4], .leaf (.exit 0) ⟨[(3, .p (.sl (List.map e25 y1) false))], []⟩, .reg [] [] 0 [(1, none, .n (y1.length : Int))] [2]])
      (ai (SemJ.loop (L49_0_ok p0.1 p0.2 fuel  _ h1)) (ai (len_map e25 y1) trivial)) (by kernel_rfl)) (e := .ret) rfl (vs := [.p (.int .i64 (y1.length : Int))]) trivial (by kernel_rfl) (.p _ _ (.refl _))
def F18 (fuel : Nat) (p0 : (Int × (List (Int × Int)))) : Option (Int × Int) :=
  obind (F12 fuel (p0.1, p0.2)) fun r1 => oif ((r1 != 0))
  (some (0, r1))
  (obind (F49 fuel (p0.1, p0.2)) fun r2 => some (r2, 0))
theorem F18_ok (fuel : Nat) (p0 : (Int × (List (Int × Int))))  (r : (Int × Int)) (h : F18 fuel p0 = some r) : CallP prog 18 [.agg [.int .i64 p0.1, .sl (List.map e62 p0.2) false]] (.tup [.int .i64 r.1, .int .i64 r.2]) := by
  unfold F18 at h
  refine obind_elim h fun r1 h1 g1 => ?_
  refine oif_elim g1 (fun h2 g2 => ?_) (fun h2 g2 => ?_)
  · have hr := Option.some.inj g2
    subst hr
    exact callP_of is18 rfl (path hm (ks := [2, 3]) (σ' := ⟨[(2, .p (.int .i64 0)), (3, .p (.int .i64 r1))], []⟩) (cc := [.reg [] [] 0 [(0, none, .imm)] [1], .reg [] [] 0 [(1, none, .call (.int .i64 r1)), (2, none, .b true)] [1, 6], .reg [] [] 0 [(1, none, .call (.int .i64 r1))] [2, 3]])
      (ai (F12_ok fuel (p0.1, p0.2) _ h1) (ai h2 (ai (F12_ok fuel (p0.1, p0.2) _ h1) trivial))) (by kernel_rfl)) (e := .ret) rfl (vs := [.p (.int .i64 0), .p (.int .i64 r1)]) trivial (by kernel_rfl) (.tup _ _ (.cons _ _ _ _ (.p _ _ (.refl _)) (.cons _ _ _ _ (.p _ _ (.refl _)) .nil)))
  · refine obind_elim g2 fun r2 h3 g3 => ?_
    have hr := Option.some.inj g3
    subst hr
    exact callP_of is18 rfl (path hm (ks := [2, 3]) (σ' := ⟨[(2, .p (.int .i64 r2)), (3, .p (.int .i64 0))], []⟩) (cc := [.reg [] [] 0 [(0, none, .imm)] [1], .reg [] [] 0 [(1, none, .call (.int .i64 r1)), (2, none, .b false)] [1, 6], .reg [] [] 0 [(1, none, .call (.int .i64 r2))] [2, 3]])
      (ai (F12_ok fuel (p0.1, p0.2) _ h1) (ai h2 (ai (F49_ok fuel (p0.1, p0.2) _ h3) trivial))) (by kernel_rfl)) (e := .ret) rfl (vs := [.p (.int .i64 r2), .p (.int .i64 0)]) trivial (by kernel_rfl) (.tup _ _ (.cons _ _ _ _ (.p _ _ (.refl _)) (.cons _ _ _ _ (.p _ _ (.refl _)) .nil)))
def F20 (fuel : Nat) (p0 : (Int × (List (Int × Int)))) : Option Int :=
  obind (F12 fuel (p0.1, p0.2)) fun r1 => oif ((r1 != 0))
  (some r1)
  (obind (F48 fuel (p0.1, p0.2)) fun r2 => oif (r2.2)
    (some 23)
    (some 0))
theorem F20_ok (fuel : Nat) (p0 : (Int × (List (Int × Int))))  (r : Int) (h : F20 fuel p0 = some r) : CallP prog 20 [.agg [.int .i64 p0.1, .sl (List.map e62 p0.2) false]] (.int .i64 r) := by
  unfold F20 at h
  refine obind_elim h fun r1 h1 g1 => ?_
  refine oif_elim g1 (fun h2 g2 => ?_) (fun h2 g2 => ?_)
  · have hr := Option.some.inj g2
    subst hr
    exact callP_of is20 rfl (path hm (ks := [2]) (σ' := ⟨[(2, .p (.int .i64 r1))], []⟩) (cc := [.reg [] [] 0 [(0, none, .imm)] [1], .reg [] [] 0 [(1, none, .call (.int .i64 r1)), (2, none, .b true)] [1, 7], .reg [] [] 0 [(1, none, .call (.int .i64 r1))] [2]])
      (ai (F12_ok fuel (p0.1, p0.2) _ h1) (ai h2 (ai (F12_ok fuel (p0.1, p0.2) _ h1) trivial))) (by kernel_rfl)) (e := .ret) rfl (vs := [.p (.int .i64 r1)]) trivial (by kernel_rfl) (.p _ _ (.refl _))
  · refine obind_elim g2 fun r2 h3 g3 => ?_
    let c178 : List CC := [.reg [] [] 0 [(0, none, .imm)] [1], .reg [] [] 0 [(1, none, .call (.int .i64 r1)), (2, none, .b false)] [1, 7]]
    refine oif_elim g3 (fun h4 g4 => ?_) (fun h4 g4 => ?_)
    · have hr := Option.some.inj g4
      subst hr
      exact callP_of is20 rfl (path hm (ks := [2]) (σ' := ⟨[(2, .p (.int .i64 23))], []⟩) (cc := c178 ++ [.reg [] [] 0 [(1, none, .call (.tup [.sl (List.map e3 r2.1) false, .bool true]))] [4], .reg [] [] 0 [] [15], .reg [] [] 0 [] [2]])
      (ai (F12_ok fuel (p0.1, p0.2) _ h1) (ai h2 (ai (show CallP prog 48 [.agg [.int .i64 p0.1, .sl (List.map e62 p0.2) false]] (.tup [.sl (List.map e3 r2.1) false, .bool true]) from h4 ▸ (F48_ok fuel (p0.1, p0.2) _ h3)) trivial))) (by kernel_rfl)) (e := .ret) rfl (vs := [.p (.int .i64 23)]) trivial (by kernel_rfl) (.p _ _ (.refl _))
    · have hr := Option.some.inj g4
      subst hr
      exact callP_of is20 rfl (path hm (ks := [2]) (σ' := ⟨[(2, .p (.int .i64 0))], []⟩) (cc := c178 ++ [.reg [] [] 0 [(1, none, .call (.tup [.sl (List.map e3 r2.1) false, .bool false]))] [4], .reg [] [] 0 [] [15], .reg [] [] 0 [] [2]])
      (ai (F12_ok fuel (p0.1, p0.2) _ h1) (ai h2 (ai (show CallP prog 48 [.agg [.int .i64 p0.1, .sl (List.map e62 p0.2) false]] (.tup [.sl (List.map e3 r2.1) false, .bool false]) from h4 ▸ (F48_ok fuel (p0.1, p0.2) _ h3)) trivial))) (by kernel_rfl)) (e := .ret) rfl (vs := [.p (.int .i64 0)]) trivial (by kernel_rfl) (.p _ _ (.refl _))
def L22_1 (v1 : (List Int)) (v2 : Int) (v2_1 : (List (Int × Int))) : Nat → Int → (List Int) → Option (Unit ⊕ (List Int))
  | 0, _, _ => none
  | fuel + 1, v6, w0 =>
    oif ((decide (v6 < (v1.length : Int))))
    (obind (sg v1 v6) fun x1 => oif ((decide (x1 < 0)))
      (some (.inl ()))
      (oif ((decide (x1 > 1)))
        (some (.inl ()))
        (oif (decide (((List.length w0) + 1) * 8 ≤ 140737488355328)) (L22_1 v1 v2 v2_1 fuel (IntKind.wrap .i64 (v6 + 1)) (w0 ++ [x1])) none)))
    (some (.inr (w0)))
noncomputable def L22_1_post (v1 : (List Int)) (v2 : Int) (v2_1 : (List (Int × Int))) (fp1 : Bool) : (Unit ⊕ (List Int)) → Ex × St
  | .inl y => (.ret, ⟨[(4, .p (.int .i64 3))], []⟩)
  | .inr (y) => ((.exit 0), ⟨[(2, .p (.ref [.int .i64 v2, .sl (List.map e62 v2_1) false])), (5, .msl 0 0 (List.length y) (List.length (rowI e2 y)) false)], [.cells (rowI e2 y) 1]⟩)
theorem L22_1_ok (v1 : (List Int)) (v2 : Int) (v2_1 : (List (Int × Int))) (fp1 : Bool) : ∀ (fuel : Nat) (v6 : Int) (w0 : (List Int)) (r : (Unit ⊕ (List Int))), L22_1 v1 v2 v2_1 fuel v6 w0 = some r →
    SemJ prog ⟨47, 0, false⟩ (codeAt [1, 1, 1, 1, 0, 1, 0, 0] (bodyOf f22)) ⟨[(1, .p (.sl (List.map e3 v1) fp1)), (2, .p (.ref [.int .i64 v2, .sl (List.map e62 v2_1) false])), (5, .msl 0 0 (List.length w0) (List.length (rowI e2 w0)) false), (6, .p (.int .i64 v6))], [.cells (rowI e2 w0) 1]⟩ (L22_1_post v1 v2 v2_1 fp1 r).1 (L22_1_post v1 v2 v2_1 fp1 r).2
  | 0, _, _, _, h => nomatch h
  | fuel + 1, v6, w0, r, h => by
    unfold L22_1 at h
    refine oif_elim h (fun h1 g1 => ?_) (fun h1 g1 => ?_)
    · refine obind_elim g1 fun x1 h2 g2 => ?_
      let c179 : List CC := [.reg [] [] 0 [(2, none, .n (v1.length : Int)), (3, none, .b true)] [1, 2, 5, 6, 20]]
      refine oif_elim g2 (fun h3 g3 => ?_) (fun h3 g3 => ?_)
      · have hr := Option.some.inj g3
        subst hr
        exact SemC.cast (SemJ.out (e := .ret) (SemC.post (path hm (σ' := ⟨[(4, .p (.int .i64 3))], [.cells (rowI e2 w0) 1]⟩) (ks := [4]) (cc := c179 ++ [.reg [] [] 0 [(2, none, .iv (.p (.int .i64 x1))), (4, none, .b true)] [1, 2, 5, 6, 34], .reg [] [] 0 [] [4]])
        (ai (len_map e3 v1) (ai h1 (ai (sg_map (f := e3) h2) (ai h3 trivial)))) (by kernel_rfl)) (Weak.sel (E := [(4, .p (.int .i64 3))]) (E' := [(4, .p (.int .i64 3))]) (H := [.cells (rowI e2 w0) 1]) (H' := []) [] trivial (by kernel_rfl) (by kernel_rfl))) (by simp)) (by kernel_rfl) (by kernel_rfl)
      · refine oif_elim g3 (fun h4 g4 => ?_) (fun h4 g4 => ?_)
        · have hr := Option.some.inj g4
          subst hr
          exact SemC.cast (SemJ.out (e := .ret) (SemC.post (path hm (σ' := ⟨[(4, .p (.int .i64 3))], [.cells (rowI e2 w0) 1]⟩) (ks := [4]) (cc := c179 ++ [.reg [] [] 0 [(2, none, .iv (.p (.int .i64 x1))), (4, none, .b false), (8, none, .iv (.p (.int .i64 x1))), (10, none, .b true)] [1, 2, 5, 6, 34], .reg [] [] 0 [] [4]])
        (ai (len_map e3 v1) (ai h1 (ai (sg_map (f := e3) h2) (ai h3 (ai (sg_map (f := e3) h2) (ai h4 trivial)))))) (by kernel_rfl)) (Weak.sel (E := [(4, .p (.int .i64 3))]) (E' := [(4, .p (.int .i64 3))]) (H := [.cells (rowI e2 w0) 1]) (H' := []) [] trivial (by kernel_rfl) (by kernel_rfl))) (by simp)) (by kernel_rfl) (by kernel_rfl)
        · refine oif_elim g4 (fun h5 g5 => ?_) (fun _ h => nomatch h)
          exact SemJ.again (σ1 := ⟨[(1, .p (.sl (List.map e3 v1) fp1)), (2, .p (.ref [.int .i64 v2, .sl (List.map e62 v2_1) false])), (5, .msl 0 0 (List.length (w0 ++ [x1])) (List.length (rowI e2 (w0 ++ [x1]))) false), (6, .p (.int .i64 (IntKind.wrap .i64 (v6 + 1))))], [.cells (rowI e2 (w0 ++ [x1])) 1]⟩) (path hm (σ' := ⟨[(1, .p (.sl (List.map e3 v1) fp1)), (2, .p (.ref [.int .i64 v2, .sl (List.map e62 v2_1) false])), (5, .msl 0 0 (List.length (w0 ++ [x1])) (List.length (rowI e2 (w0 ++ [x1]))) false), (6, .p (.int .i64 (IntKind.wrap .i64 (v6 + 1))))], [.cells (rowI e2 (w0 ++ [x1])) 1]⟩) (ks := [1, 2, 5, 6]) (cc := c179 ++ [.reg [] [] 0 [(2, none, .iv (.p (.int .i64 x1))), (4, none, .b false), (8, none, .iv (.p (.int .i64 x1))), (10, none, .b false)] [1, 2, 5, 6, 34], .reg [] [] 0 [(3, none, .iv (.p (.int .i64 x1))), (6, none, .ap (rowI e2 (w0 ++ [x1])) (List.length (w0 ++ [x1])) (List.length (rowI e2 (w0 ++ [x1]))))] [1, 2, 5, 6], .reg [] [] 0 [] [1, 2, 5, 6]])
        (ai (len_map e3 v1) (ai h1 (ai (sg_map (f := e3) h2) (ai h3 (ai (sg_map (f := e3) h2) (ai h4 (ai (sg_map (f := e3) h2) (ai (by decide : 0 < 1) (ai (od h5) (ai (app_c2 (by decide) (od h5)) (ai (app_len e2 [x1] (rl (List.length w0))) (ai (rl (List.length (rowI e2 (w0 ++ [x1])))) (ai (row_app e2 w0 [x1]) (ai (rl (List.length (rowI e2 w0))) (ai (row_sz el2 (rl (List.length (rowI e2 w0))) (rl (List.length w0))) (ai (row_sc el2 [x1]) (ai (row_es el2 [x1]) trivial))))))))))))))))) (by kernel_rfl)) (L22_1_ok v1 v2 v2_1 fp1 fuel (IntKind.wrap .i64 (v6 + 1)) (w0 ++ [x1]) _ g5)
    · have hr := Option.some.inj g1
      subst hr
      exact SemC.cast (SemJ.out (e := (.exit 0)) (path hm (σ' := ⟨[(2, .p (.ref [.int .i64 v2, .sl (List.map e62 v2_1) false])), (5, .msl 0 0 (List.length w0) (List.length (rowI e2 w0)) false)], [.cells (rowI e2 w0) 1]⟩) (ks := [2, 5]) (cc := [.reg [] [] 0 [(2, none, .n (v1.length : Int)), (3, none, .b false)] [1, 2, 5, 6, 20]])
        (ai (len_map e3 v1) (ai h1 trivial)) (by kernel_rfl)) (by simp)) (by kernel_rfl) (by kernel_rfl)
def L22_0 (v1 : (List Int)) (v2 : Int) (v2_1 : (List (Int × Int))) : Nat → Option (Unit ⊕ (List Int))
  | 0 => none
  | fuel + 1 =>
    oif ((decide (0 < (v1.length : Int))))
    (obind (sg v1 0) fun x1 => oif ((decide (x1 < 0)))
      (some (.inl ()))
      (oif ((decide (x1 > 1)))
        (some (.inl ()))
        (oif (decide (1 * 8 ≤ 140737488355328)) ((obind (L22_1 v1 v2 v2_1 fuel 1 [x1]) fun y2 => match y2 with
          | .inl y2 => some (.inl ())
          | .inr (y2) => some (.inr (y2)))) none)))
    (some (.inr (([] : List Int))))
noncomputable def L22_0_post (v1 : (List Int)) (v2 : Int) (v2_1 : (List (Int × Int))) (fp1 : Bool) : (Unit ⊕ (List Int)) → Ex × St
  | .inl y => (.ret, ⟨[(4, .p (.int .i64 3))], []⟩)
  | .inr (y) => ((.exit 0), ⟨[(2, .p (.ref [.int .i64 v2, .sl (List.map e62 v2_1) false])), (5, .p (.sl (List.map e2 y) false))], []⟩)
theorem L22_0_ok (v1 : (List Int)) (v2 : Int) (v2_1 : (List (Int × Int))) (fp1 : Bool) : ∀ (fuel : Nat)  (r : (Unit ⊕ (List Int))), L22_0 v1 v2 v2_1 fuel  = some r →
    SemJ prog ⟨47, 0, false⟩ (codeAt [1, 1, 1, 1, 0, 1, 0, 0] (bodyOf f22)) ⟨[(1, .p (.sl (List.map e3 v1) fp1)), (2, .p (.ref [.int .i64 v2, .sl (List.map e62 v2_1) false])), (5, .p (.nilsl)), (6, .p (.int .i64 0))], []⟩ (L22_0_post v1 v2 v2_1 fp1 r).1 (L22_0_post v1 v2 v2_1 fp1 r).2
  | 0, _, h => nomatch h
  | fuel + 1, r, h => by
    unfold L22_0 at h
    refine oif_elim h (fun h1 g1 => ?_) (fun h1 g1 => ?_)
    · refine obind_elim g1 fun x1 h2 g2 => ?_
      let c180 : List CC := [.reg [] [] 0 [(2, none, .n (v1.length : Int)), (3, none, .b true)] [1, 2, 5, 6, 20]]
      have q181 := fun {P : Prop} (t : P) => ai (len_map e3 v1) (ai h1 (ai (sg_map (f := e3) h2) t))
      refine oif_elim g2 (fun h3 g3 => ?_) (fun h3 g3 => ?_)
      · have hr := Option.some.inj g3
        subst hr
        exact SemC.cast (SemJ.out (e := .ret) (path hm (σ' := ⟨[(4, .p (.int .i64 3))], []⟩) (ks := [4]) (cc := c180 ++ [.reg [] [] 0 [(2, none, .iv (.p (.int .i64 x1))), (4, none, .b true)] [1, 2, 5, 6, 34], .reg [] [] 0 [] [4]])
        (q181 (ai h3 trivial)) (by kernel_rfl)) (by simp)) (by kernel_rfl) (by kernel_rfl)
      · refine oif_elim g3 (fun h4 g4 => ?_) (fun h4 g4 => ?_)
        · have hr := Option.some.inj g4
          subst hr
          exact SemC.cast (SemJ.out (e := .ret) (path hm (σ' := ⟨[(4, .p (.int .i64 3))], []⟩) (ks := [4]) (cc := c180 ++ [.reg [] [] 0 [(2, none, .iv (.p (.int .i64 x1))), (4, none, .b false), (8, none, .iv (.p (.int .i64 x1))), (10, none, .b true)] [1, 2, 5, 6, 34], .reg [] [] 0 [] [4]])
        (q181 (ai h3 (ai (sg_map (f := e3) h2) (ai h4 trivial)))) (by kernel_rfl)) (by simp)) (by kernel_rfl) (by kernel_rfl)
        · refine oif_elim g4 (fun h5 g5 => ?_) (fun _ h => nomatch h)
          let c182 : List CC := c180 ++ [.reg [] [] 0 [(2, none, .iv (.p (.int .i64 x1))), (4, none, .b false), (8, none, .iv (.p (.int .i64 x1))), (10, none, .b false)] [1, 2, 5, 6, 34], .reg [] [] 1 [(3, none, .iv (.p (.int .i64 x1))), (6, some 0, .ap (rowI e2 [x1]) (List.length [x1]) (List.length (rowI e2 [x1])))] [1, 2, 5, 6], .reg [] [] 0 [] [1, 2, 5, 6]]
          have q183 := fun {P : Prop} (t : P) => ai h3 (ai (sg_map (f := e3) h2) (ai h4 (ai (sg_map (f := e3) h2) t)))
          have q184 := fun {P : Prop} (t : P) => ai (od h5) (ai (app_c0 (by decide) (od h5)) (ai (rl (List.length [x1])) (ai (rl (List.length (rowI e2 [x1]))) (ai (row_src e2 [x1]) (ai (row_sc el2 [x1]) (ai (row_es el2 [x1]) t))))))
          refine obind_elim g5 fun y h6 g6 => ?_
          match y, h6, g6 with
          | .inl y2, h6, g6 =>
            have hr := Option.some.inj g6
            subst hr
            exact SemC.cast (SemJ.again (σ1 := ⟨[(1, .p (.sl (List.map e3 v1) fp1)), (2, .p (.ref [.int .i64 v2, .sl (List.map e62 v2_1) false])), (5, .msl 0 0 (List.length [x1]) (List.length (rowI e2 [x1])) false), (6, .p (.int .i64 1))], [.cells (rowI e2 [x1]) 1]⟩) (path hm (σ' := ⟨[(1, .p (.sl (List.map e3 v1) fp1)), (2, .p (.ref [.int .i64 v2, .sl (List.map e62 v2_1) false])), (5, .msl 0 0 (List.length [x1]) (List.length (rowI e2 [x1])) false), (6, .p (.int .i64 1))], [.cells (rowI e2 [x1]) 1]⟩) (ks := [1, 2, 5, 6]) (cc := c182)
        (q181 (q183 (ai (by decide : 0 < 1) (q184 trivial)))) (by kernel_rfl)) (L22_1_ok v1 v2 v2_1 fp1 fuel 1 [x1] _ h6)) (by kernel_rfl) (by kernel_rfl)
          | .inr (y2), h6, g6 =>
            have hr := Option.some.inj g6
            subst hr
            exact SemC.cast (SemJ.again (σ1 := ⟨[(1, .p (.sl (List.map e3 v1) fp1)), (2, .p (.ref [.int .i64 v2, .sl (List.map e62 v2_1) false])), (5, .msl 0 0 (List.length [x1]) (List.length (rowI e2 [x1])) false), (6, .p (.int .i64 1))], [.cells (rowI e2 [x1]) 1]⟩) (path hm (σ' := ⟨[(1, .p (.sl (List.map e3 v1) fp1)), (2, .p (.ref [.int .i64 v2, .sl (List.map e62 v2_1) false])), (5, .msl 0 0 (List.length [x1]) (List.length (rowI e2 [x1])) false), (6, .p (.int .i64 1))], [.cells (rowI e2 [x1]) 1]⟩) (ks := [1, 2, 5, 6]) (cc := c182)
        (q181 (q183 (ai (by decide : 0 < 1) (q184 trivial)))) (by kernel_rfl)) (SemC.post (L22_1_ok v1 v2 v2_1 fp1 fuel 1 [x1] _ h6) (Weak.trans (wcast (Weak.freeze (E := [(2, .p (.ref [.int .i64 v2, .sl (List.map e62 v2_1) false])), (5, .msl 0 0 (List.length y2) (List.length (rowI e2 y2)) false)]) (E' := [(2, .p (.ref [.int .i64 v2, .sl (List.map e62 v2_1) false])), (5, .p (.sl (List.map e2 y2) false))]) (H := [.cells (rowI e2 y2) 1]) [0] (by kernel_rfl) (.keep _ _ _ _ (.snap _ _ _ _ _ (snap_row (g := 1) (L := y2) el2 (by kernel_rfl) (rl (List.length (rowI e2 y2))) (rl (List.length y2))) .nil))) (by kernel_rfl : (⟨[(2, .p (.ref [.int .i64 v2, .sl (List.map e62 v2_1) false])), (5, .p (.sl (List.map e2 y2) false))], puts (dieW [0]) [.cells (rowI e2 y2) 1]⟩ : St) = ⟨[(2, .p (.ref [.int .i64 v2, .sl (List.map e62 v2_1) false])), (5, .p (.sl (List.map e2 y2) false))], [.dead]⟩)) (Weak.sel (E := [(2, .p (.ref [.int .i64 v2, .sl (List.map e62 v2_1) false])), (5, .p (.sl (List.map e2 y2) false))]) (E' := [(2, .p (.ref [.int .i64 v2, .sl (List.map e62 v2_1) false])), (5, .p (.sl (List.map e2 y2) false))]) (H := [.dead]) (H' := []) [] trivial (by kernel_rfl) (by kernel_rfl))))) (by kernel_rfl) (by kernel_rfl)
    · have hr := Option.some.inj g1
      subst hr
      exact SemC.cast (SemJ.out (e := (.exit 0)) (SemC.post (path hm (σ' := ⟨[(2, .p (.ref [.int .i64 v2, .sl (List.map e62 v2_1) false])), (5, .p (.nilsl))], []⟩) (ks := [2, 5]) (cc := [.reg [] [] 0 [(2, none, .n (v1.length : Int)), (3, none, .b false)] [1, 2, 5, 6, 20]])
        (ai (len_map e3 v1) (ai h1 trivial)) (by kernel_rfl)) (wcast (Weak.freeze (E := [(2, .p (.ref [.int .i64 v2, .sl (List.map e62 v2_1) false])), (5, .p (.nilsl))]) (E' := [(2, .p (.ref [.int .i64 v2, .sl (List.map e62 v2_1) false])), (5, .p (.sl (List.map e2 ([] : List Int)) false))]) (H := []) [] (by kernel_rfl) (.keep _ _ _ _ (.snap _ _ _ _ _ (.p _ _ (.nil _)) .nil))) (by kernel_rfl : (⟨[(2, .p (.ref [.int .i64 v2, .sl (List.map e62 v2_1) false])), (5, .p (.sl (List.map e2 ([] : List Int)) false))], puts (dieW []) []⟩ : St) = ⟨[(2, .p (.ref [.int .i64 v2, .sl (List.map e62 v2_1) false])), (5, .p (.sl (List.map e2 ([] : List Int)) false))], []⟩))) (by simp)) (by kernel_rfl) (by kernel_rfl)
def F22 (fuel : Nat) (p0 : (Int × (List (Int × Int)))) (p1 : (List Int)) : Option Int :=
  obind (F12 fuel (p0.1, p0.2)) fun r1 => oif ((r1 != 0))
  (some r1)
  (oif (((p1.length : Int) != p0.1))
    (some 15)
    ((obind (L22_0 p1 p0.1 p0.2 fuel ) fun y2 => match y2 with
      | .inl y2 => some 3
      | .inr (y2) => obind (F42 fuel p0.2 y2) fun r3 => obind (F50 fuel r3) fun r4 => oif (r4)
        (some 5)
        (some 0))))
theorem F22_ok (fuel : Nat) (p0 : (Int × (List (Int × Int)))) (p1 : (List Int)) (fp1 : Bool) (r : Int) (h : F22 fuel p0 p1 = some r) : CallP prog 22 [.agg [.int .i64 p0.1, .sl (List.map e62 p0.2) false], .sl (List.map e3 p1) fp1] (.int .i64 r) := by
  unfold F22 at h
  refine obind_elim h fun r1 h1 g1 => ?_
  let c185 : List CC := [.reg [] [] 0 [(0, none, .imm)] [1, 2]]
  have q186 := fun {P : Prop} (t : P) => ai (F12_ok fuel (p0.1, p0.2) _ h1) t
  refine oif_elim g1 (fun h2 g2 => ?_) (fun h2 g2 => ?_)
  · have hr := Option.some.inj g2
    subst hr
    exact callP_of is22 rfl (path hm (ks := [4]) (σ' := ⟨[(4, .p (.int .i64 r1))], []⟩) (cc := c185 ++ [.reg [] [] 0 [(1, none, .call (.int .i64 r1)), (2, none, .b true)] [1, 2, 9], .reg [] [] 0 [(1, none, .call (.int .i64 r1))] [4]])
      (q186 (ai h2 (ai (F12_ok fuel (p0.1, p0.2) _ h1) trivial))) (by kernel_rfl)) (e := .ret) rfl (vs := [.p (.int .i64 r1)]) trivial (by kernel_rfl) (.p _ _ (.refl _))
  · let c187 : List CC := c185 ++ [.reg [] [] 0 [(1, none, .call (.int .i64 r1)), (2, none, .b false)] [1, 2, 9]]
    refine oif_elim g2 (fun h3 g3 => ?_) (fun h3 g3 => ?_)
    · have hr := Option.some.inj g3
      subst hr
      exact callP_of is22 rfl (path hm (ks := [4]) (σ' := ⟨[(4, .p (.int .i64 15))], []⟩) (cc := c187 ++ [.reg [] [] 0 [(1, none, .n (p1.length : Int)), (4, none, .b true)] [1, 2, 16], .reg [] [] 0 [] [4]])
      (q186 (ai h2 (ai (len_map e3 p1) (ai h3 trivial)))) (by kernel_rfl)) (e := .ret) rfl (vs := [.p (.int .i64 15)]) trivial (by kernel_rfl) (.p _ _ (.refl _))
    · let c188 : List CC := c187 ++ [.reg [] [] 0 [(1, none, .n (p1.length : Int)), (4, none, .b false)] [1, 2, 16], .reg [] [] 0 [] [1, 2, 5], .reg [] [] 0 [] [1, 2, 5, 6]]
      refine obind_elim g3 fun y h4 g4 => ?_
      match y, h4, g4 with
      | .inl y2, h4, g4 =>
        have hr := Option.some.inj g4
        subst hr
        exact callP_of is22 rfl (path hm (ks := [4]) (σ' := ⟨[(4, .p (.int .i64 3))], []⟩) (cc := c188 ++ [.leaf .ret ⟨[(4, .p (.int .i64 3))], []⟩])
      (q186 (ai h2 (ai (len_map e3 p1) (ai h3 (ai (SemJ.loop (L22_0_ok p1 p0.1 p0.2 fp1 fuel  _ h4)) trivial))))) (by kernel_rfl)) (e := .ret) rfl (vs := [.p (.int .i64 3)]) trivial (by kernel_rfl) (.p _ _ (.refl _))
      | .inr (y2), h4, g4 =>
        refine obind_elim g4 fun r3 h5 g5 => ?_
        refine obind_elim g5 fun r4 h6 g6 => ?_
        let c189 : List CC := c188 ++ [.leaf (.exit 0) ⟨[(2, .p (.ref [.int .i64 p0.1, .sl (List.map e62 p0.2) false])), (5, .p (.sl (List.map e2 y2) false))], []⟩]
        have q190 := fun {P : Prop} (t : P) => ai h2 (ai (len_map e3 p1) (ai h3 (ai (SemJ.loop (L22_0_ok p1 p0.1 p0.2 fp1 fuel  _ h4)) (ai (F42_ok fuel p0.2 y2 false false _ h5) (ai (F50_ok fuel r3 false _ h6) t)))))
        refine oif_elim g6 (fun h7 g7 => ?_) (fun h7 g7 => ?_)
        · subst h7
          have hr := Option.some.inj g7
          subst hr
          exact callP_of is22 rfl (path hm (ks := [4]) (σ' := ⟨[(4, .p (.int .i64 5))], []⟩) (cc := c189 ++ [.reg [] [] 0 [(3, none, .call (.sl (List.map e2 r3) false)), (4, none, .call (.bool true))] [46], .reg [] [] 0 [] [4]])
      (q186 (q190 trivial)) (by kernel_rfl)) (e := .ret) rfl (vs := [.p (.int .i64 5)]) trivial (by kernel_rfl) (.p _ _ (.refl _))
        · subst h7
          have hr := Option.some.inj g7
          subst hr
          exact callP_of is22 rfl (path hm (ks := [4]) (σ' := ⟨[(4, .p (.int .i64 0))], []⟩) (cc := c189 ++ [.reg [] [] 0 [(3, none, .call (.sl (List.map e2 r3) false)), (4, none, .call (.bool false))] [46], .reg [] [] 0 [] [4]])
      (q186 (q190 trivial)) (by kernel_rfl)) (e := .ret) rfl (vs := [.p (.int .i64 0)]) trivial (by kernel_rfl) (.p _ _ (.refl _))
def F4 (fuel : Nat) (p0 : (Int × (List (Int × Int)))) (p1 : (List Int)) : Option Bool :=
  obind (F6 fuel (p0.1, p0.2)) fun r1 => oif (r1)
  (obind (F7 fuel) fun r2 => oif (r2)
    (some true)
    (some false))
  (oif ((decide ((p1.length : Int) > 12)))
    (obind (F7 fuel) fun r2 => oif (r2)
      (some true)
      (some false))
    (obind (F8 fuel (p0.1, p0.2)) fun r2 => oif (List.isEmpty p1)
      (obind (F15 fuel (p0.1, p0.2)) fun r3 => obind (F16 fuel (r2.1, r2.2)) fun r4 => obind (F17 fuel (p0.1, p0.2)) fun r5 => obind (F18 fuel (r2.1, r2.2)) fun r6 => obind (F19 fuel (p0.1, p0.2)) fun r7 => obind (F20 fuel (r2.1, r2.2)) fun r8 => oif ((r7 == r8))
        (obind (F21 fuel (p0.1, p0.2) p1) fun r9 => obind (F22 fuel (r2.1, r2.2) []) fun r10 => oif ((r9 == r10))
          (obind (F23 fuel r3.1 r4.1) fun r11 => oif (r11)
            (oif ((r3.2 == r4.2))
              (oif ((r5.1 == r6.1))
                (oif ((r5.2 == r6.2))
                  (obind (F14 fuel (p0.1, p0.2) (r2.1, r2.2)) fun r12 => oif (r12)
                    (obind (F23 fuel p1 []) fun r13 => oif (r13)
                      (obind (F7 fuel) fun r14 => oif (r14)
                        (some true)
                        (some false))
                      (some false))
                    (some false))
                  (some false))
                (some false))
              (some false))
            (some false))
          (some false))
        (some false))
      (oif (decide ((List.length (List.map e3 p1)) * 8 ≤ 140737488355328)) (obind (F15 fuel (p0.1, p0.2)) fun r3 => obind (F16 fuel (r2.1, r2.2)) fun r4 => obind (F17 fuel (p0.1, p0.2)) fun r5 => obind (F18 fuel (r2.1, r2.2)) fun r6 => obind (F19 fuel (p0.1, p0.2)) fun r7 => obind (F20 fuel (r2.1, r2.2)) fun r8 => oif ((r7 == r8))
        (obind (F21 fuel (p0.1, p0.2) p1) fun r9 => obind (F22 fuel (r2.1, r2.2) p1) fun r10 => oif ((r9 == r10))
          (obind (F23 fuel r3.1 r4.1) fun r11 => oif (r11)
            (oif ((r3.2 == r4.2))
              (oif ((r5.1 == r6.1))
                (oif ((r5.2 == r6.2))
                  (obind (F14 fuel (p0.1, p0.2) (r2.1, r2.2)) fun r12 => oif (r12)
                    (obind (F23 fuel p1 p1) fun r13 => oif (r13)
                      (obind (F7 fuel) fun r14 => oif (r14)
                        (some true)
                        (some false))
                      (some false))
                    (some false))
                  (some false))
                (some false))
              (some false))
            (some false))
          (some false))
        (some false)) none)))
theorem F4_ok (fuel : Nat) (p0 : (Int × (List (Int × Int)))) (p1 : (List Int)) (fp1 : Bool) (r : Bool) (h : F4 fuel p0 p1 = some r) : CallP prog 4 [.agg [.int .i64 p0.1, .sl (List.map e62 p0.2) false], .sl (List.map e3 p1) fp1] (.bool r) := by
  unfold F4 at h
  refine obind_elim h fun r1 h1 g1 => ?_
  let c191 : List CC := [.reg [] [] 0 [(0, none, .imm)] [1, 2]]
  have q192 := fun {P : Prop} (t : P) => ai (F6_ok fuel (p0.1, p0.2) _ h1) t
  refine oif_elim g1 (fun h2 g2 => ?_) (fun h2 g2 => ?_)
  · subst h2
    refine obind_elim g2 fun r2 h3 g3 => ?_
    refine oif_elim g3 (fun h4 g4 => ?_) (fun h4 g4 => ?_)
    · subst h4
      have hr := Option.some.inj g4
      subst hr
      exact callP_of is4 rfl (path hm (ks := [4]) (σ' := ⟨[(4, .p (.bool true))], []⟩) (cc := c191 ++ [.reg [] [] 0 [(1, none, .call (.bool true))] [1, 2, 21], .reg [] [] 0 [(0, none, .call (.bool true))] [4]])
      (q192 (ai (F7_ok fuel  _ h3) trivial)) (by kernel_rfl)) (e := .ret) rfl (vs := [.p (.bool true)]) trivial (by kernel_rfl) (.p _ _ (.refl _))
    · subst h4
      have hr := Option.some.inj g4
      subst hr
      exact callP_of is4 rfl (path hm (ks := [4]) (σ' := ⟨[(4, .p (.bool false))], []⟩) (cc := c191 ++ [.reg [] [] 0 [(1, none, .call (.bool true))] [1, 2, 21], .reg [] [] 0 [(0, none, .call (.bool false))] [4]])
      (q192 (ai (F7_ok fuel  _ h3) trivial)) (by kernel_rfl)) (e := .ret) rfl (vs := [.p (.bool false)]) trivial (by kernel_rfl) (.p _ _ (.refl _))
  · subst h2
    have q193 := fun {P : Prop} (t : P) => ai (len_map e3 p1) t
    refine oif_elim g2 (fun h3 g3 => ?_) (fun h3 g3 => ?_)
    · refine obind_elim g3 fun r2 h4 g4 => ?_
      let c194 : List CC := c191 ++ [.reg [] [] 0 [(1, none, .call (.bool false)), (4, none, .n (p1.length : Int)), (5, none, .b true)] [1, 2, 21]]
      refine oif_elim g4 (fun h5 g5 => ?_) (fun h5 g5 => ?_)
      · subst h5
        have hr := Option.some.inj g5
        subst hr
        exact callP_of is4 rfl (path hm (ks := [4]) (σ' := ⟨[(4, .p (.bool true))], []⟩) (cc := c194 ++ [.reg [] [] 0 [(0, none, .call (.bool true))] [4]])
      (q192 (q193 (ai h3 (ai (F7_ok fuel  _ h4) trivial)))) (by kernel_rfl)) (e := .ret) rfl (vs := [.p (.bool true)]) trivial (by kernel_rfl) (.p _ _ (.refl _))
      · subst h5
        have hr := Option.some.inj g5
        subst hr
        exact callP_of is4 rfl (path hm (ks := [4]) (σ' := ⟨[(4, .p (.bool false))], []⟩) (cc := c194 ++ [.reg [] [] 0 [(0, none, .call (.bool false))] [4]])
      (q192 (q193 (ai h3 (ai (F7_ok fuel  _ h4) trivial)))) (by kernel_rfl)) (e := .ret) rfl (vs := [.p (.bool false)]) trivial (by kernel_rfl) (.p _ _ (.refl _))
    · refine obind_elim g3 fun r2 h4 g4 => ?_
      let c195 : List CC := c191 ++ [.reg [] [] 0 [(1, none, .call (.bool false)), (4, none, .n (p1.length : Int)), (5, none, .b false)] [1, 2, 21]]
      have q196 := fun {P : Prop} (t : P) => ai h3 (ai (F8_ok fuel (p0.1, p0.2) _ h4) t)
      refine oif_elim g4 (fun h5 g5 => ?_) (fun h5 g5 => ?_)
      · refine obind_elim g5 fun r3 h6 g6 => ?_
        refine obind_elim g6 fun r4 h7 g7 => ?_
        refine obind_elim g7 fun r5 h8 g8 => ?_
        refine obind_elim g8 fun r6 h9 g9 => ?_
        refine obind_elim g9 fun r7 h10 g10 => ?_
        refine obind_elim g10 fun r8 h11 g11 => ?_
        let c197 : List CC := c195 ++ [.reg [] [] 1 [(1, none, .call (.agg [.int .i64 r2.1, .sl (List.map e62 r2.2) false])), (3, none, .b true), (4, some 0, .a)] [1, 2, 5, 6], .reg [] [] 0 [(1, none, .call (.tup [.sl (List.map e3 r3.1) false, .int .i64 r3.2]))] [1, 2, 5, 6, 7, 8], .reg [] [] 0 [(1, none, .call (.tup [.sl (List.map e3 r4.1) false, .int .i64 r4.2]))] [1, 2, 5, 6, 7, 8, 9, 10], .reg [] [] 0 [(1, none, .call (.tup [.int .i64 r5.1, .int .i64 r5.2]))] [1, 2, 5, 6, 7, 8, 9, 10, 11, 12], .reg [] [] 0 [(1, none, .call (.tup [.int .i64 r6.1, .int .i64 r6.2]))] [1, 2, 5, 6, 7, 8, 9, 10, 11, 12, 13, 14]]
        have q198 := fun {P : Prop} (t : P) => ai (isEmpty_len e3 h5) (ai (row_sc el3 p1) (ai (row_es el3 p1) (ai (F15_ok fuel (p0.1, p0.2) _ h6) (ai (F16_ok fuel (r2.1, r2.2) _ h7) (ai (F17_ok fuel (p0.1, p0.2) _ h8) (ai (F18_ok fuel (r2.1, r2.2) _ h9) (ai (F19_ok fuel (p0.1, p0.2) _ h10) (ai (F20_ok fuel (r2.1, r2.2) _ h11) t))))))))
        refine oif_elim g11 (fun h12 g12 => ?_) (fun h12 g12 => ?_)
        · refine obind_elim g12 fun r9 h13 g13 => ?_
          refine obind_elim g13 fun r10 h14 g14 => ?_
          have q199 := fun {P : Prop} (t : P) => ai h12 (ai (F21_ok fuel (p0.1, p0.2) p1 fp1 _ h13) t)
          have q200 := fun {P : Prop} (t : P) => ai (F22_ok fuel (r2.1, r2.2) [] false _ h14) t
          refine oif_elim g14 (fun h15 g15 => ?_) (fun h15 g15 => ?_)
          · refine obind_elim g15 fun r11 h16 g16 => ?_
            have q201 := fun {P : Prop} (t : P) => ai h15 (ai (F23_ok fuel r3.1 r4.1 false false _ h16) t)
            refine oif_elim g16 (fun h17 g17 => ?_) (fun h17 g17 => ?_)
            · subst h17
              refine oif_elim g17 (fun h18 g18 => ?_) (fun h18 g18 => ?_)
              · refine oif_elim g18 (fun h19 g19 => ?_) (fun h19 g19 => ?_)
                · refine oif_elim g19 (fun h20 g20 => ?_) (fun h20 g20 => ?_)
                  · refine obind_elim g20 fun r12 h21 g21 => ?_
                    have q202 := fun {P : Prop} (t : P) => ai h18 (ai h19 (ai h20 (ai (F14_ok fuel (p0.1, p0.2) (r2.1, r2.2) _ h21) t)))
                    refine oif_elim g21 (fun h22 g22 => ?_) (fun h22 g22 => ?_)
                    · subst h22
                      refine obind_elim g22 fun r13 h23 g23 => ?_
                      have q203 := fun {P : Prop} (t : P) => ai (F23_ok fuel p1 [] fp1 false _ h23) t
                      refine oif_elim g23 (fun h24 g24 => ?_) (fun h24 g24 => ?_)
                      · subst h24
                        refine obind_elim g24 fun r14 h25 g25 => ?_
                        refine oif_elim g25 (fun h26 g26 => ?_) (fun h26 g26 => ?_)
                        · subst h26
                          have hr := Option.some.inj g26
                          subst hr
                          exact callP_of is4 rfl (path hm (ks := [4]) (σ' := ⟨[(4, .p (.bool true))], [.cells [.p (.int .i64 r2.1), .p (.sl (List.map e62 r2.2) false)] 0]⟩) (cc := c197 ++ [.reg [0, 1, 0, 7, 15, 31, 63, 63, 255, 63, 63, 2047, 4095, 8191, 16383, 32767, 32767, 131071, 262143, 524287, 1048575, 1048575, 4194303, 8388607, 16777215, 33554431, 33554431, 134217727, 268435455, 536870911, 1073741823, 1073741823, 4294967295, 8589934591, 17179869183, 34359738367, 34359738367, 137438953471, 274877906943, 549755813887, 1099511627775, 1099511627775, 4398046511103, 8796093022207, 17592186044415, 35184372088831, 70368744177663, 140737488355327] [] 0 [(1, none, .call (.int .i64 r7)), (3, none, .call (.int .i64 r8)), (4, none, .b true), (8, none, .call (.int .i64 r9)), (11, none, .cw [.agg [.int .i64 r2.1, .sl (List.map e62 r2.2) false], .sl (List.map e3 ([] : List Int)) false] (.int .i64 r10)), (12, none, .b true), (17, none, .call (.bool true)), (22, none, .b true), (27, none, .b true), (32, none, .b true), (37, none, .call (.bool true)), (42, none, .cw [.sl (List.map e3 p1) fp1, .sl (List.map e3 ([] : List Int)) false] (.bool true)), (45, none, .call (.bool true))] [4]])
      (q192 (q193 (q196 (q198 (q199 (ai (show PVleL [.agg [.int .i64 r2.1, .sl (List.map e62 r2.2) false], .nilsl] [.agg [.int .i64 r2.1, .sl (List.map e62 r2.2) false], .sl (List.map e3 ([] : List Int)) false] from (.cons _ _ _ _ (.refl _) (.cons _ _ _ _ (.nil _) .nil))) (q200 (q201 (q202 (ai (show PVleL [.sl (List.map e3 p1) fp1, .nilsl] [.sl (List.map e3 p1) fp1, .sl (List.map e3 ([] : List Int)) false] from (.cons _ _ _ _ (.refl _) (.cons _ _ _ _ (.nil _) .nil))) (q203 (ai (F7_ok fuel  _ h25) trivial)))))))))))) (by kernel_rfl)) (e := .ret) rfl (vs := [.p (.bool true)]) trivial (by kernel_rfl) (.p _ _ (.refl _))
                        · subst h26
                          have hr := Option.some.inj g26
                          subst hr
                          exact callP_of is4 rfl (path hm (ks := [4]) (σ' := ⟨[(4, .p (.bool false))], [.cells [.p (.int .i64 r2.1), .p (.sl (List.map e62 r2.2) false)] 0]⟩) (cc := c197 ++ [.reg [0, 1, 0, 7, 15, 31, 63, 63, 255, 63, 63, 2047, 4095, 8191, 16383, 32767, 32767, 131071, 262143, 524287, 1048575, 1048575, 4194303, 8388607, 16777215, 33554431, 33554431, 134217727, 268435455, 536870911, 1073741823, 1073741823, 4294967295, 8589934591, 17179869183, 34359738367, 34359738367, 137438953471, 274877906943, 549755813887, 1099511627775, 1099511627775, 4398046511103, 8796093022207, 17592186044415, 35184372088831, 70368744177663, 140737488355327] [] 0 [(1, none, .call (.int .i64 r7)), (3, none, .call (.int .i64 r8)), (4, none, .b true), (8, none, .call (.int .i64 r9)), (11, none, .cw [.agg [.int .i64 r2.1, .sl (List.map e62 r2.2) false], .sl (List.map e3 ([] : List Int)) false] (.int .i64 r10)), (12, none, .b true), (17, none, .call (.bool true)), (22, none, .b true), (27, none, .b true), (32, none, .b true), (37, none, .call (.bool true)), (42, none, .cw [.sl (List.map e3 p1) fp1, .sl (List.map e3 ([] : List Int)) false] (.bool true)), (45, none, .call (.bool false))] [4]])
      (q192 (q193 (q196 (q198 (q199 (ai (show PVleL [.agg [.int .i64 r2.1, .sl (List.map e62 r2.2) false], .nilsl] [.agg [.int .i64 r2.1, .sl (List.map e62 r2.2) false], .sl (List.map e3 ([] : List Int)) false] from (.cons _ _ _ _ (.refl _) (.cons _ _ _ _ (.nil _) .nil))) (q200 (q201 (q202 (ai (show PVleL [.sl (List.map e3 p1) fp1, .nilsl] [.sl (List.map e3 p1) fp1, .sl (List.map e3 ([] : List Int)) false] from (.cons _ _ _ _ (.refl _) (.cons _ _ _ _ (.nil _) .nil))) (q203 (ai (F7_ok fuel  _ h25) trivial)))))))))))) (by kernel_rfl)) (e := .ret) rfl (vs := [.p (.bool false)]) trivial (by kernel_rfl) (.p _ _ (.refl _))
                      · subst h24
                        have hr := Option.some.inj g24
                        subst hr
                        exact callP_of is4 rfl (path hm (ks := [4]) (σ' := ⟨[(4, .p (.bool false))], [.cells [.p (.int .i64 r2.1), .p (.sl (List.map e62 r2.2) false)] 0]⟩) (cc := c197 ++ [.reg [0, 1, 0, 7, 15, 31, 63, 63, 255, 63, 63, 2047, 4095, 8191, 16383, 32767, 32767, 131071, 262143, 524287, 1048575, 1048575, 4194303, 8388607, 16777215, 33554431, 33554431, 134217727, 268435455, 536870911, 1073741823, 1073741823, 4294967295, 8589934591, 17179869183, 34359738367, 34359738367, 137438953471, 274877906943, 549755813887, 1099511627775, 1099511627775, 4398046511103, 8796093022207, 17592186044415, 35184372088831, 70368744177663, 140737488355327] [] 0 [(1, none, .call (.int .i64 r7)), (3, none, .call (.int .i64 r8)), (4, none, .b true), (8, none, .call (.int .i64 r9)), (11, none, .cw [.agg [.int .i64 r2.1, .sl (List.map e62 r2.2) false], .sl (List.map e3 ([] : List Int)) false] (.int .i64 r10)), (12, none, .b true), (17, none, .call (.bool true)), (22, none, .b true), (27, none, .b true), (32, none, .b true), (37, none, .call (.bool true)), (42, none, .cw [.sl (List.map e3 p1) fp1, .sl (List.map e3 ([] : List Int)) false] (.bool false))] [4]])
      (q192 (q193 (q196 (q198 (q199 (ai (show PVleL [.agg [.int .i64 r2.1, .sl (List.map e62 r2.2) false], .nilsl] [.agg [.int .i64 r2.1, .sl (List.map e62 r2.2) false], .sl (List.map e3 ([] : List Int)) false] from (.cons _ _ _ _ (.refl _) (.cons _ _ _ _ (.nil _) .nil))) (q200 (q201 (q202 (ai (show PVleL [.sl (List.map e3 p1) fp1, .nilsl] [.sl (List.map e3 p1) fp1, .sl (List.map e3 ([] : List Int)) false] from (.cons _ _ _ _ (.refl _) (.cons _ _ _ _ (.nil _) .nil))) (q203 trivial))))))))))) (by kernel_rfl)) (e := .ret) rfl (vs := [.p (.bool false)]) trivial (by kernel_rfl) (.p _ _ (.refl _))
                    · subst h22
                      have hr := Option.some.inj g22
                      subst hr
                      exact callP_of is4 rfl (path hm (ks := [4]) (σ' := ⟨[(4, .p (.bool false))], [.cells [.p (.int .i64 r2.1), .p (.sl (List.map e62 r2.2) false)] 0]⟩) (cc := c197 ++ [.reg [0, 1, 0, 7, 15, 31, 63, 63, 255, 63, 63, 2047, 4095, 8191, 16383, 32767, 32767, 131071, 262143, 524287, 1048575, 1048575, 4194303, 8388607, 16777215, 33554431, 33554431, 134217727, 268435455, 536870911, 1073741823, 1073741823, 4294967295, 8589934591, 17179869183, 34359738367, 34359738367, 137438953471, 274877906943, 549755813887, 1099511627775, 1099511627775, 4398046511103, 8796093022207, 17592186044415, 35184372088831, 70368744177663, 140737488355327] [] 0 [(1, none, .call (.int .i64 r7)), (3, none, .call (.int .i64 r8)), (4, none, .b true), (8, none, .call (.int .i64 r9)), (11, none, .cw [.agg [.int .i64 r2.1, .sl (List.map e62 r2.2) false], .sl (List.map e3 ([] : List Int)) false] (.int .i64 r10)), (12, none, .b true), (17, none, .call (.bool true)), (22, none, .b true), (27, none, .b true), (32, none, .b true), (37, none, .call (.bool false))] [4]])
      (q192 (q193 (q196 (q198 (q199 (ai (show PVleL [.agg [.int .i64 r2.1, .sl (List.map e62 r2.2) false], .nilsl] [.agg [.int .i64 r2.1, .sl (List.map e62 r2.2) false], .sl (List.map e3 ([] : List Int)) false] from (.cons _ _ _ _ (.refl _) (.cons _ _ _ _ (.nil _) .nil))) (q200 (q201 (q202 trivial))))))))) (by kernel_rfl)) (e := .ret) rfl (vs := [.p (.bool false)]) trivial (by kernel_rfl) (.p _ _ (.refl _))
                  · have hr := Option.some.inj g20
                    subst hr
                    exact callP_of is4 rfl (path hm (ks := [4]) (σ' := ⟨[(4, .p (.bool false))], [.cells [.p (.int .i64 r2.1), .p (.sl (List.map e62 r2.2) false)] 0]⟩) (cc := c197 ++ [.reg [0, 1, 0, 7, 15, 31, 63, 63, 255, 63, 63, 2047, 4095, 8191, 16383, 32767, 32767, 131071, 262143, 524287, 1048575, 1048575, 4194303, 8388607, 16777215, 33554431, 33554431, 134217727, 268435455, 536870911, 1073741823, 1073741823, 4294967295, 8589934591, 17179869183, 34359738367, 34359738367, 137438953471, 274877906943, 549755813887, 1099511627775, 1099511627775, 4398046511103, 8796093022207, 17592186044415, 35184372088831, 70368744177663, 140737488355327] [] 0 [(1, none, .call (.int .i64 r7)), (3, none, .call (.int .i64 r8)), (4, none, .b true), (8, none, .call (.int .i64 r9)), (11, none, .cw [.agg [.int .i64 r2.1, .sl (List.map e62 r2.2) false], .sl (List.map e3 ([] : List Int)) false] (.int .i64 r10)), (12, none, .b true), (17, none, .call (.bool true)), (22, none, .b true), (27, none, .b true), (32, none, .b false)] [4]])
      (q192 (q193 (q196 (q198 (q199 (ai (show PVleL [.agg [.int .i64 r2.1, .sl (List.map e62 r2.2) false], .nilsl] [.agg [.int .i64 r2.1, .sl (List.map e62 r2.2) false], .sl (List.map e3 ([] : List Int)) false] from (.cons _ _ _ _ (.refl _) (.cons _ _ _ _ (.nil _) .nil))) (q200 (q201 (ai h18 (ai h19 (ai h20 trivial))))))))))) (by kernel_rfl)) (e := .ret) rfl (vs := [.p (.bool false)]) trivial (by kernel_rfl) (.p _ _ (.refl _))
                · have hr := Option.some.inj g19
                  subst hr
                  exact callP_of is4 rfl (path hm (ks := [4]) (σ' := ⟨[(4, .p (.bool false))], [.cells [.p (.int .i64 r2.1), .p (.sl (List.map e62 r2.2) false)] 0]⟩) (cc := c197 ++ [.reg [0, 1, 0, 7, 15, 31, 63, 63, 255, 63, 63, 2047, 4095, 8191, 16383, 32767, 32767, 131071, 262143, 524287, 1048575, 1048575, 4194303, 8388607, 16777215, 33554431, 33554431, 134217727, 268435455, 536870911, 1073741823, 1073741823, 4294967295, 8589934591, 17179869183, 34359738367, 34359738367, 137438953471, 274877906943, 549755813887, 1099511627775, 1099511627775, 4398046511103, 8796093022207, 17592186044415, 35184372088831, 70368744177663, 140737488355327] [] 0 [(1, none, .call (.int .i64 r7)), (3, none, .call (.int .i64 r8)), (4, none, .b true), (8, none, .call (.int .i64 r9)), (11, none, .cw [.agg [.int .i64 r2.1, .sl (List.map e62 r2.2) false], .sl (List.map e3 ([] : List Int)) false] (.int .i64 r10)), (12, none, .b true), (17, none, .call (.bool true)), (22, none, .b true), (27, none, .b false)] [4]])
      (q192 (q193 (q196 (q198 (q199 (ai (show PVleL [.agg [.int .i64 r2.1, .sl (List.map e62 r2.2) false], .nilsl] [.agg [.int .i64 r2.1, .sl (List.map e62 r2.2) false], .sl (List.map e3 ([] : List Int)) false] from (.cons _ _ _ _ (.refl _) (.cons _ _ _ _ (.nil _) .nil))) (q200 (q201 (ai h18 (ai h19 trivial)))))))))) (by kernel_rfl)) (e := .ret) rfl (vs := [.p (.bool false)]) trivial (by kernel_rfl) (.p _ _ (.refl _))
              · have hr := Option.some.inj g18
                subst hr
                exact callP_of is4 rfl (path hm (ks := [4]) (σ' := ⟨[(4, .p (.bool false))], [.cells [.p (.int .i64 r2.1), .p (.sl (List.map e62 r2.2) false)] 0]⟩) (cc := c197 ++ [.reg [0, 1, 0, 7, 15, 31, 63, 63, 255, 63, 63, 2047, 4095, 8191, 16383, 32767, 32767, 131071, 262143, 524287, 1048575, 1048575, 4194303, 8388607, 16777215, 33554431, 33554431, 134217727, 268435455, 536870911, 1073741823, 1073741823, 4294967295, 8589934591, 17179869183, 34359738367, 34359738367, 137438953471, 274877906943, 549755813887, 1099511627775, 1099511627775, 4398046511103, 8796093022207, 17592186044415, 35184372088831, 70368744177663, 140737488355327] [] 0 [(1, none, .call (.int .i64 r7)), (3, none, .call (.int .i64 r8)), (4, none, .b true), (8, none, .call (.int .i64 r9)), (11, none, .cw [.agg [.int .i64 r2.1, .sl (List.map e62 r2.2) false], .sl (List.map e3 ([] : List Int)) false] (.int .i64 r10)), (12, none, .b true), (17, none, .call (.bool true)), (22, none, .b false)] [4]])
      (q192 (q193 (q196 (q198 (q199 (ai (show PVleL [.agg [.int .i64 r2.1, .sl (List.map e62 r2.2) false], .nilsl] [.agg [.int .i64 r2.1, .sl (List.map e62 r2.2) false], .sl (List.map e3 ([] : List Int)) false] from (.cons _ _ _ _ (.refl _) (.cons _ _ _ _ (.nil _) .nil))) (q200 (q201 (ai h18 trivial))))))))) (by kernel_rfl)) (e := .ret) rfl (vs := [.p (.bool false)]) trivial (by kernel_rfl) (.p _ _ (.refl _))
            · subst h17
              have hr := Option.some.inj g17
              subst hr
              exact callP_of is4 rfl (path hm (ks := [4]) (σ' := ⟨[(4, .p (.bool false))], [.cells [.p (.int .i64 r2.1), .p (.sl (List.map e62 r2.2) false)] 0]⟩) (cc := c197 ++ [.reg [0, 1, 0, 7, 15, 31, 63, 63, 255, 63, 63, 2047, 4095, 8191, 16383, 32767, 32767, 131071, 262143, 524287, 1048575, 1048575, 4194303, 8388607, 16777215, 33554431, 33554431, 134217727, 268435455, 536870911, 1073741823, 1073741823, 4294967295, 8589934591, 17179869183, 34359738367, 34359738367, 137438953471, 274877906943, 549755813887, 1099511627775, 1099511627775, 4398046511103, 8796093022207, 17592186044415, 35184372088831, 70368744177663, 140737488355327] [] 0 [(1, none, .call (.int .i64 r7)), (3, none, .call (.int .i64 r8)), (4, none, .b true), (8, none, .call (.int .i64 r9)), (11, none, .cw [.agg [.int .i64 r2.1, .sl (List.map e62 r2.2) false], .sl (List.map e3 ([] : List Int)) false] (.int .i64 r10)), (12, none, .b true), (17, none, .call (.bool false))] [4]])
      (q192 (q193 (q196 (q198 (q199 (ai (show PVleL [.agg [.int .i64 r2.1, .sl (List.map e62 r2.2) false], .nilsl] [.agg [.int .i64 r2.1, .sl (List.map e62 r2.2) false], .sl (List.map e3 ([] : List Int)) false] from (.cons _ _ _ _ (.refl _) (.cons _ _ _ _ (.nil _) .nil))) (q200 (q201 trivial)))))))) (by kernel_rfl)) (e := .ret) rfl (vs := [.p (.bool false)]) trivial (by kernel_rfl) (.p _ _ (.refl _))
          · have hr := Option.some.inj g15
            subst hr
            exact callP_of is4 rfl (path hm (ks := [4]) (σ' := ⟨[(4, .p (.bool false))], [.cells [.p (.int .i64 r2.1), .p (.sl (List.map e62 r2.2) false)] 0]⟩) (cc := c197 ++ [.reg [0, 1, 0, 7, 15, 31, 63, 63, 255, 63, 63, 2047, 4095, 8191, 16383, 32767, 32767, 131071, 262143, 524287, 1048575, 1048575, 4194303, 8388607, 16777215, 33554431, 33554431, 134217727, 268435455, 536870911, 1073741823, 1073741823, 4294967295, 8589934591, 17179869183, 34359738367, 34359738367, 137438953471, 274877906943, 549755813887, 1099511627775, 1099511627775, 4398046511103, 8796093022207, 17592186044415, 35184372088831, 70368744177663, 140737488355327] [] 0 [(1, none, .call (.int .i64 r7)), (3, none, .call (.int .i64 r8)), (4, none, .b true), (8, none, .call (.int .i64 r9)), (11, none, .cw [.agg [.int .i64 r2.1, .sl (List.map e62 r2.2) false], .sl (List.map e3 ([] : List Int)) false] (.int .i64 r10)), (12, none, .b false)] [4]])
      (q192 (q193 (q196 (q198 (q199 (ai (show PVleL [.agg [.int .i64 r2.1, .sl (List.map e62 r2.2) false], .nilsl] [.agg [.int .i64 r2.1, .sl (List.map e62 r2.2) false], .sl (List.map e3 ([] : List Int)) false] from (.cons _ _ _ _ (.refl _) (.cons _ _ _ _ (.nil _) .nil))) (q200 (ai h15 trivial)))))))) (by kernel_rfl)) (e := .ret) rfl (vs := [.p (.bool false)]) trivial (by kernel_rfl) (.p _ _ (.refl _))
        · have hr := Option.some.inj g12
          subst hr
          exact callP_of is4 rfl (path hm (ks := [4]) (σ' := ⟨[(4, .p (.bool false))], [.cells [.p (.int .i64 r2.1), .p (.sl (List.map e62 r2.2) false)] 0]⟩) (cc := c197 ++ [.reg [0, 1, 0, 7, 15, 31, 63, 63, 255, 63, 63, 2047, 4095, 8191, 16383, 32767, 32767, 131071, 262143, 524287, 1048575, 1048575, 4194303, 8388607, 16777215, 33554431, 33554431, 134217727, 268435455, 536870911, 1073741823, 1073741823, 4294967295, 8589934591, 17179869183, 34359738367, 34359738367, 137438953471, 274877906943, 549755813887, 1099511627775, 1099511627775, 4398046511103, 8796093022207, 17592186044415, 35184372088831, 70368744177663, 140737488355327] [] 0 [(1, none, .call (.int .i64 r7)), (3, none, .call (.int .i64 r8)), (4, none, .b false)] [4]])
      (q192 (q193 (q196 (q198 (ai h12 trivial))))) (by kernel_rfl)) (e := .ret) rfl (vs := [.p (.bool false)]) trivial (by kernel_rfl) (.p _ _ (.refl _))
      · refine oif_elim g5 (fun h6 g6 => ?_) (fun _ h => nomatch h)
        refine obind_elim g6 fun r3 h7 g7 => ?_
        refine obind_elim g7 fun r4 h8 g8 => ?_
        refine obind_elim g8 fun r5 h9 g9 => ?_
        refine obind_elim g9 fun r6 h10 g10 => ?_
        refine obind_elim g10 fun r7 h11 g11 => ?_
        refine obind_elim g11 fun r8 h12 g12 => ?_
        let c204 : List CC := c195 ++ [.reg [] [] 2 [(1, none, .call (.agg [.int .i64 r2.1, .sl (List.map e62 r2.2) false])), (3, some 0, .ap (rowI e3 p1) (List.length p1) (List.length (rowI e3 p1))), (4, some 1, .a)] [1, 2, 5, 6], .reg [] [] 0 [(1, none, .call (.tup [.sl (List.map e3 r3.1) false, .int .i64 r3.2]))] [1, 2, 5, 6, 7, 8], .reg [] [] 0 [(1, none, .call (.tup [.sl (List.map e3 r4.1) false, .int .i64 r4.2]))] [1, 2, 5, 6, 7, 8, 9, 10], .reg [] [] 0 [(1, none, .call (.tup [.int .i64 r5.1, .int .i64 r5.2]))] [1, 2, 5, 6, 7, 8, 9, 10, 11, 12], .reg [] [] 0 [(1, none, .call (.tup [.int .i64 r6.1, .int .i64 r6.2]))] [1, 2, 5, 6, 7, 8, 9, 10, 11, 12, 13, 14]]
        have q205 := fun {P : Prop} (t : P) => ai (notEmpty_len e3 h5) (ai (od h6) (ai (app_c0 (by decide) (od h6)) (ai (len_map2 e3 p1) (ai (rl (List.length (rowI e3 p1))) (ai (row_src e3 p1) (ai (row_sc el3 p1) (ai (row_es el3 p1) (ai (F15_ok fuel (p0.1, p0.2) _ h7) (ai (F16_ok fuel (r2.1, r2.2) _ h8) (ai (F17_ok fuel (p0.1, p0.2) _ h9) (ai (F18_ok fuel (r2.1, r2.2) _ h10) (ai (F19_ok fuel (p0.1, p0.2) _ h11) (ai (F20_ok fuel (r2.1, r2.2) _ h12) t)))))))))))))
        refine oif_elim g12 (fun h13 g13 => ?_) (fun h13 g13 => ?_)
        · refine obind_elim g13 fun r9 h14 g14 => ?_
          refine obind_elim g14 fun r10 h15 g15 => ?_
          have q206 := fun {P : Prop} (t : P) => ai h13 (ai (F21_ok fuel (p0.1, p0.2) p1 fp1 _ h14) (ai (.refl _ : PVle (.agg [.int .i64 r2.1, .sl (List.map e62 r2.2) false]) (.agg [.int .i64 r2.1, .sl (List.map e62 r2.2) false])) (ai (snap_row (hp := one 0 (.cells (rowI e3 p1) 1)) (l := 0) (x := false) (g := 1) (L := p1) el3 (by kernel_rfl) (rl (List.length (rowI e3 p1))) (rl (List.length p1))) (ai (F22_ok fuel (r2.1, r2.2) p1 false _ h15) t))))
          refine oif_elim g15 (fun h16 g16 => ?_) (fun h16 g16 => ?_)
          · refine obind_elim g16 fun r11 h17 g17 => ?_
            have q207 := fun {P : Prop} (t : P) => ai h16 (ai (F23_ok fuel r3.1 r4.1 false false _ h17) t)
            refine oif_elim g17 (fun h18 g18 => ?_) (fun h18 g18 => ?_)
            · subst h18
              refine oif_elim g18 (fun h19 g19 => ?_) (fun h19 g19 => ?_)
              · refine oif_elim g19 (fun h20 g20 => ?_) (fun h20 g20 => ?_)
                · refine oif_elim g20 (fun h21 g21 => ?_) (fun h21 g21 => ?_)
                  · refine obind_elim g21 fun r12 h22 g22 => ?_
                    have q208 := fun {P : Prop} (t : P) => ai h19 (ai h20 (ai h21 (ai (F14_ok fuel (p0.1, p0.2) (r2.1, r2.2) _ h22) t)))
                    refine oif_elim g22 (fun h23 g23 => ?_) (fun h23 g23 => ?_)
                    · subst h23
                      refine obind_elim g23 fun r13 h24 g24 => ?_
                      have q209 := fun {P : Prop} (t : P) => ai (.refl _ : PVle (.sl (List.map e3 p1) fp1) (.sl (List.map e3 p1) fp1)) (ai (snap_row (hp := one 0 (.cells (rowI e3 p1) 1)) (l := 0) (x := false) (g := 1) (L := p1) el3 (by kernel_rfl) (rl (List.length (rowI e3 p1))) (rl (List.length p1))) (ai (F23_ok fuel p1 p1 fp1 false _ h24) t))
                      refine oif_elim g24 (fun h25 g25 => ?_) (fun h25 g25 => ?_)
                      · subst h25
                        refine obind_elim g25 fun r14 h26 g26 => ?_
                        refine oif_elim g26 (fun h27 g27 => ?_) (fun h27 g27 => ?_)
                        · subst h27
                          have hr := Option.some.inj g27
                          subst hr
                          exact callP_of is4 rfl (path hm (ks := [4]) (σ' := ⟨[(4, .p (.bool true))], [.cells (rowI e3 p1) 1, .cells [.p (.int .i64 r2.1), .p (.sl (List.map e62 r2.2) false)] 0]⟩) (cc := c204 ++ [.reg [0, 1, 0, 7, 15, 31, 63, 63, 255, 63, 63, 2047, 4095, 8191, 16383, 32767, 32767, 131071, 262143, 524287, 1048575, 1048575, 4194303, 8388607, 16777215, 33554431, 33554431, 134217727, 268435455, 536870911, 1073741823, 1073741823, 4294967295, 8589934591, 17179869183, 34359738367, 34359738367, 137438953471, 274877906943, 549755813887, 1099511627775, 1099511627775, 4398046511103, 8796093022207, 17592186044415, 35184372088831, 70368744177663, 140737488355327] [] 0 [(1, none, .call (.int .i64 r7)), (3, none, .call (.int .i64 r8)), (4, none, .b true), (8, none, .call (.int .i64 r9)), (11, none, .bor [] [.agg [.int .i64 r2.1, .sl (List.map e62 r2.2) false], .sl (List.map e3 p1) false] (.int .i64 r10)), (12, none, .b true), (17, none, .call (.bool true)), (22, none, .b true), (27, none, .b true), (32, none, .b true), (37, none, .call (.bool true)), (42, none, .bor [] [.sl (List.map e3 p1) fp1, .sl (List.map e3 p1) false] (.bool true)), (45, none, .call (.bool true))] [4]])
      (q192 (q193 (q196 (q205 (q206 (q207 (q208 (q209 (ai (F7_ok fuel  _ h26) trivial))))))))) (by kernel_rfl)) (e := .ret) rfl (vs := [.p (.bool true)]) trivial (by kernel_rfl) (.p _ _ (.refl _))
                        · subst h27
                          have hr := Option.some.inj g27
                          subst hr
                          exact callP_of is4 rfl (path hm (ks := [4]) (σ' := ⟨[(4, .p (.bool false))], [.cells (rowI e3 p1) 1, .cells [.p (.int .i64 r2.1), .p (.sl (List.map e62 r2.2) false)] 0]⟩) (cc := c204 ++ [.reg [0, 1, 0, 7, 15, 31, 63, 63, 255, 63, 63, 2047, 4095, 8191, 16383, 32767, 32767, 131071, 262143, 524287, 1048575, 1048575, 4194303, 8388607, 16777215, 33554431, 33554431, 134217727, 268435455, 536870911, 1073741823, 1073741823, 4294967295, 8589934591, 17179869183, 34359738367, 34359738367, 137438953471, 274877906943, 549755813887, 1099511627775, 1099511627775, 4398046511103, 8796093022207, 17592186044415, 35184372088831, 70368744177663, 140737488355327] [] 0 [(1, none, .call (.int .i64 r7)), (3, none, .call (.int .i64 r8)), (4, none, .b true), (8, none, .call (.int .i64 r9)), (11, none, .bor [] [.agg [.int .i64 r2.1, .sl (List.map e62 r2.2) false], .sl (List.map e3 p1) false] (.int .i64 r10)), (12, none, .b true), (17, none, .call (.bool true)), (22, none, .b true), (27, none, .b true), (32, none, .b true), (37, none, .call (.bool true)), (42, none, .bor [] [.sl (List.map e3 p1) fp1, .sl (List.map e3 p1) false] (.bool true)), (45, none, .call (.bool false))] [4]])
      (q192 (q193 (q196 (q205 (q206 (q207 (q208 (q209 (ai (F7_ok fuel  _ h26) trivial))))))))) (by kernel_rfl)) (e := .ret) rfl (vs := [.p (.bool false)]) trivial (by kernel_rfl) (.p _ _ (.refl _))
                      · subst h25
                        have hr := Option.some.inj g25
                        subst hr
                        exact callP_of is4 rfl (path hm (ks := [4]) (σ' := ⟨[(4, .p (.bool false))], [.cells (rowI e3 p1) 1, .cells [.p (.int .i64 r2.1), .p (.sl (List.map e62 r2.2) false)] 0]⟩) (cc := c204 ++ [.reg [0, 1, 0, 7, 15, 31, 63, 63, 255, 63, 63, 2047, 4095, 8191, 16383, 32767, 32767, 131071, 262143, 524287, 1048575, 1048575, 4194303, 8388607, 16777215, 33554431, 33554431, 134217727, 268435455, 536870911, 1073741823, 1073741823, 4294967295, 8589934591, 17179869183, 34359738367, 34359738367, 137438953471, 274877906943, 549755813887, 1099511627775, 1099511627775, 4398046511103, 8796093022207, 17592186044415, 35184372088831, 70368744177663, 140737488355327] [] 0 [(1, none, .call (.int .i64 r7)), (3, none, .call (.int .i64 r8)), (4, none, .b true), (8, none, .call (.int .i64 r9)), (11, none, .bor [] [.agg [.int .i64 r2.1, .sl (List.map e62 r2.2) false], .sl (List.map e3 p1) false] (.int .i64 r10)), (12, none, .b true), (17, none, .call (.bool true)), (22, none, .b true), (27, none, .b true), (32, none, .b true), (37, none, .call (.bool true)), (42, none, .bor [] [.sl (List.map e3 p1) fp1, .sl (List.map e3 p1) false] (.bool false))] [4]])
      (q192 (q193 (q196 (q205 (q206 (q207 (q208 (q209 trivial)))))))) (by kernel_rfl)) (e := .ret) rfl (vs := [.p (.bool false)]) trivial (by kernel_rfl) (.p _ _ (.refl _))
                    · subst h23
                      have hr := Option.some.inj g23
                      subst hr
                      exact callP_of is4 rfl (path hm (ks := [4]) (σ' := ⟨[(4, .p (.bool false))], [.cells (rowI e3 p1) 1, .cells [.p (.int .i64 r2.1), .p (.sl (List.map e62 r2.2) false)] 0]⟩) (cc := c204 ++ [.reg [0, 1, 0, 7, 15, 31, 63, 63, 255, 63, 63, 2047, 4095, 8191, 16383, 32767, 32767, 131071, 262143, 524287, 1048575, 1048575, 4194303, 8388607, 16777215, 33554431, 33554431, 134217727, 268435455, 536870911, 1073741823, 1073741823, 4294967295, 8589934591, 17179869183, 34359738367, 34359738367, 137438953471, 274877906943, 549755813887, 1099511627775, 1099511627775, 4398046511103, 8796093022207, 17592186044415, 35184372088831, 70368744177663, 140737488355327] [] 0 [(1, none, .call (.int .i64 r7)), (3, none, .call (.int .i64 r8)), (4, none, .b true), (8, none, .call (.int .i64 r9)), (11, none, .bor [] [.agg [.int .i64 r2.1, .sl (List.map e62 r2.2) false], .sl (List.map e3 p1) false] (.int .i64 r10)), (12, none, .b true), (17, none, .call (.bool true)), (22, none, .b true), (27, none, .b true), (32, none, .b true), (37, none, .call (.bool false))] [4]])
      (q192 (q193 (q196 (q205 (q206 (q207 (q208 trivial))))))) (by kernel_rfl)) (e := .ret) rfl (vs := [.p (.bool false)]) trivial (by kernel_rfl) (.p _ _ (.refl _))
                  · have hr := Option.some.inj g21
                    subst hr
                    exact callP_of is4 rfl (path hm (ks := [4]) (σ' := ⟨[(4, .p (.bool false))], [.cells (rowI e3 p1) 1, .cells [.p (.int .i64 r2.1), .p (.sl (List.map e62 r2.2) false)] 0]⟩) (cc := c204 ++ [.reg [0, 1, 0, 7, 15, 31, 63, 63, 255, 63, 63, 2047, 4095, 8191, 16383, 32767, 32767, 131071, 262143, 524287, 1048575, 1048575, 4194303, 8388607, 16777215, 33554431, 33554431, 134217727, 268435455, 536870911, 1073741823, 1073741823, 4294967295, 8589934591, 17179869183, 34359738367, 34359738367, 137438953471, 274877906943, 549755813887, 1099511627775, 1099511627775, 4398046511103, 8796093022207, 17592186044415, 35184372088831, 70368744177663, 140737488355327] [] 0 [(1, none, .call (.int .i64 r7)), (3, none, .call (.int .i64 r8)), (4, none, .b true), (8, none, .call (.int .i64 r9)), (11, none, .bor [] [.agg [.int .i64 r2.1, .sl (List.map e62 r2.2) false], .sl (List.map e3 p1) false] (.int .i64 r10)), (12, none, .b true), (17, none, .call (.bool true)), (22, none, .b true), (27, none, .b true), (32, none, .b false)] [4]])
      (q192 (q193 (q196 (q205 (q206 (q207 (ai h19 (ai h20 (ai h21 trivial))))))))) (by kernel_rfl)) (e := .ret) rfl (vs := [.p (.bool false)]) trivial (by kernel_rfl) (.p _ _ (.refl _))
                · have hr := Option.some.inj g20
                  subst hr
                  exact callP_of is4 rfl (path hm (ks := [4]) (σ' := ⟨[(4, .p (.bool false))], [.cells (rowI e3 p1) 1, .cells [.p (.int .i64 r2.1), .p (.sl (List.map e62 r2.2) false)] 0]⟩) (cc := c204 ++ [.reg [0, 1, 0, 7, 15, 31, 63, 63, 255, 63, 63, 2047, 4095, 8191, 16383, 32767, 32767, 131071, 262143, 524287, 1048575, 1048575, 4194303, 8388607, 16777215, 33554431, 33554431, 134217727, 268435455, 536870911, 1073741823, 1073741823, 4294967295, 8589934591, 17179869183, 34359738367, 34359738367, 137438953471, 274877906943, 549755813887, 1099511627775, 1099511627775, 4398046511103, 8796093022207, 17592186044415, 35184372088831, 70368744177663, 140737488355327] [] 0 [(1, none, .call (.int .i64 r7)), (3, none, .call (.int .i64 r8)), (4, none, .b true), (8, none, .call (.int .i64 r9)), (11, none, .bor [] [.agg [.int .i64 r2.1, .sl (List.map e62 r2.2) false], .sl (List.map e3 p1) false] (.int .i64 r10)), (12, none, .b true), (17, none, .call (.bool true)), (22, none, .b true), (27, none, .b false)] [4]])
      (q192 (q193 (q196 (q205 (q206 (q207 (ai h19 (ai h20 trivial)))))))) (by kernel_rfl)) (e := .ret) rfl (vs := [.p (.bool false)]) trivial (by kernel_rfl) (.p _ _ (.refl _))
              · have hr := Option.some.inj g19
                subst hr
                exact callP_of is4 rfl (path hm (ks := [4]) (σ' := ⟨[(4, .p (.bool false))], [.cells (rowI e3 p1) 1, .cells [.p (.int .i64 r2.1), .p (.sl (List.map e62 r2.2) false)] 0]⟩) (cc := c204 ++ [.reg [0, 1, 0, 7, 15, 31, 63, 63, 255, 63, 63, 2047, 4095, 8191, 16383, 32767, 32767, 131071, 262143, 524287, 1048575, 1048575, 4194303, 8388607, 16777215, 33554431, 33554431, 134217727, 268435455, 536870911, 1073741823, 1073741823, 4294967295, 8589934591, 17179869183, 34359738367, 34359738367, 137438953471, 274877906943, 549755813887, 1099511627775, 1099511627775, 4398046511103, 8796093022207, 17592186044415, 35184372088831, 70368744177663, 140737488355327] [] 0 [(1, none, .call (.int .i64 r7)), (3, none, .call (.int .i64 r8)), (4, none, .b true), (8, none, .call (.int .i64 r9)), (11, none, .bor [] [.agg [.int .i64 r2.1, .sl (List.map e62 r2.2) false], .sl (List.map e3 p1) false] (.int .i64 r10)), (12, none, .b true), (17, none, .call (.bool true)), (22, none, .b false)] [4]])
      (q192 (q193 (q196 (q205 (q206 (q207 (ai h19 trivial))))))) (by kernel_rfl)) (e := .ret) rfl (vs := [.p (.bool false)]) trivial (by kernel_rfl) (.p _ _ (.refl _))
            · subst h18
              have hr := Option.some.inj g18
              subst hr
              exact callP_of is4 rfl (path hm (ks := [4]) (σ' := ⟨[(4, .p (.bool false))], [.cells (rowI e3 p1) 1, .cells [.p (.int .i64 r2.1), .p (.sl (List.map e62 r2.2) false)] 0]⟩) (cc := c204 ++ [.reg [0, 1, 0, 7, 15, 31, 63, 63, 255, 63, 63, 2047, 4095, 8191, 16383, 32767, 32767, 131071, 262143, 524287, 1048575, 1048575, 4194303, 8388607, 16777215, 33554431, 33554431, 134217727, 268435455, 536870911, 1073741823, 1073741823, 4294967295, 8589934591, 17179869183, 34359738367, 34359738367, 137438953471, 274877906943, 549755813887, 1099511627775, 1099511627775, 4398046511103, 8796093022207, 17592186044415, 35184372088831, 70368744177663, 140737488355327] [] 0 [(1, none, .call (.int .i64 r7)), (3, none, .call (.int .i64 r8)), (4, none, .b true), (8, none, .call (.int .i64 r9)), (11, none, .bor [] [.agg [.int .i64 r2.1, .sl (List.map e62 r2.2) false], .sl (List.map e3 p1) false] (.int .i64 r10)), (12, none, .b true), (17, none, .call (.bool false))] [4]])
      (q192 (q193 (q196 (q205 (q206 (q207 trivial)))))) (by kernel_rfl)) (e := .ret) rfl (vs := [.p (.bool false)]) trivial (by kernel_rfl) (.p _ _ (.refl _))
          · have hr := Option.some.inj g16
            subst hr
            exact callP_of is4 rfl (path hm (ks := [4]) (σ' := ⟨[(4, .p (.bool false))], [.cells (rowI e3 p1) 1, .cells [.p (.int .i64 r2.1), .p (.sl (List.map e62 r2.2) false)] 0]⟩) (cc := c204 ++ [.reg [0, 1, 0, 7, 15, 31, 63, 63, 255, 63, 63, 2047, 4095, 8191, 16383, 32767, 32767, 131071, 262143, 524287, 1048575, 1048575, 4194303, 8388607, 16777215, 33554431, 33554431, 134217727, 268435455, 536870911, 1073741823, 1073741823, 4294967295, 8589934591, 17179869183, 34359738367, 34359738367, 137438953471, 274877906943, 549755813887, 1099511627775, 1099511627775, 4398046511103, 8796093022207, 17592186044415, 35184372088831, 70368744177663, 140737488355327] [] 0 [(1, none, .call (.int .i64 r7)), (3, none, .call (.int .i64 r8)), (4, none, .b true), (8, none, .call (.int .i64 r9)), (11, none, .bor [] [.agg [.int .i64 r2.1, .sl (List.map e62 r2.2) false], .sl (List.map e3 p1) false] (.int .i64 r10)), (12, none, .b false)] [4]])
      (q192 (q193 (q196 (q205 (q206 (ai h16 trivial)))))) (by kernel_rfl)) (e := .ret) rfl (vs := [.p (.bool false)]) trivial (by kernel_rfl) (.p _ _ (.refl _))
        · have hr := Option.some.inj g13
          subst hr
          exact callP_of is4 rfl (path hm (ks := [4]) (σ' := ⟨[(4, .p (.bool false))], [.cells (rowI e3 p1) 1, .cells [.p (.int .i64 r2.1), .p (.sl (List.map e62 r2.2) false)] 0]⟩) (cc := c204 ++ [.reg [0, 1, 0, 7, 15, 31, 63, 63, 255, 63, 63, 2047, 4095, 8191, 16383, 32767, 32767, 131071, 262143, 524287, 1048575, 1048575, 4194303, 8388607, 16777215, 33554431, 33554431, 134217727, 268435455, 536870911, 1073741823, 1073741823, 4294967295, 8589934591, 17179869183, 34359738367, 34359738367, 137438953471, 274877906943, 549755813887, 1099511627775, 1099511627775, 4398046511103, 8796093022207, 17592186044415, 35184372088831, 70368744177663, 140737488355327] [] 0 [(1, none, .call (.int .i64 r7)), (3, none, .call (.int .i64 r8)), (4, none, .b false)] [4]])
      (q192 (q193 (q196 (q205 (ai h13 trivial))))) (by kernel_rfl)) (e := .ret) rfl (vs := [.p (.bool false)]) trivial (by kernel_rfl) (.p _ _ (.refl _))
end Go.Idl.N
