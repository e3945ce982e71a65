/-
  Part D of a proof: natives of the functions that are reached, and their contracts.
-/
import Derived.Test.YtmhnhhcnglpbgaaC
import Derived.Test.YtmhnhhcnglpbgaaProg
set_option maxRecDepth 100000
set_option linter.unusedVariables false
set_option linter.unusedSimpArgs false
namespace Go.Idl.N
open Go Go.Idl Go.Proofs.Try
theorem hm : prog.follows .mixedOrders = true := by kernel_rfl
theorem is7 : IsFn prog 7 f7 := ⟨by kernel_rfl, by kernel_rfl, by kernel_rfl⟩
theorem is8 : IsFn prog 8 f8 := ⟨by kernel_rfl, by kernel_rfl, by kernel_rfl⟩
theorem is9 : IsFn prog 9 f9 := ⟨by kernel_rfl, by kernel_rfl, by kernel_rfl⟩
theorem is10 : IsFn prog 10 f10 := ⟨by kernel_rfl, by kernel_rfl, by kernel_rfl⟩
theorem is12 : IsFn prog 12 f12 := ⟨by kernel_rfl, by kernel_rfl, by kernel_rfl⟩
theorem is13 : IsFn prog 13 f13 := ⟨by kernel_rfl, by kernel_rfl, by kernel_rfl⟩
theorem is14 : IsFn prog 14 f14 := ⟨by kernel_rfl, by kernel_rfl, by kernel_rfl⟩
theorem is15 : IsFn prog 15 f15 := ⟨by kernel_rfl, by kernel_rfl, by kernel_rfl⟩
theorem is16 : IsFn prog 16 f16 := ⟨by kernel_rfl, by kernel_rfl, by kernel_rfl⟩
theorem is18 : IsFn prog 18 f18 := ⟨by kernel_rfl, by kernel_rfl, by kernel_rfl⟩
theorem is20 : IsFn prog 20 f20 := ⟨by kernel_rfl, by kernel_rfl, by kernel_rfl⟩
theorem is22 : IsFn prog 22 f22 := ⟨by kernel_rfl, by kernel_rfl, by kernel_rfl⟩
theorem is24 : IsFn prog 24 f24 := ⟨by kernel_rfl, by kernel_rfl, by kernel_rfl⟩
theorem is26 : IsFn prog 26 f26 := ⟨by kernel_rfl, by kernel_rfl, by kernel_rfl⟩
theorem is28 : IsFn prog 28 f28 := ⟨by kernel_rfl, by kernel_rfl, by kernel_rfl⟩
theorem is30 : IsFn prog 30 f30 := ⟨by kernel_rfl, by kernel_rfl, by kernel_rfl⟩
theorem is31 : IsFn prog 31 f31 := ⟨by kernel_rfl, by kernel_rfl, by kernel_rfl⟩
theorem is32 : IsFn prog 32 f32 := ⟨by kernel_rfl, by kernel_rfl, by kernel_rfl⟩
theorem is33 : IsFn prog 33 f33 := ⟨by kernel_rfl, by kernel_rfl, by kernel_rfl⟩
theorem is34 : IsFn prog 34 f34 := ⟨by kernel_rfl, by kernel_rfl, by kernel_rfl⟩
theorem is35 : IsFn prog 35 f35 := ⟨by kernel_rfl, by kernel_rfl, by kernel_rfl⟩
theorem is36 : IsFn prog 36 f36 := ⟨by kernel_rfl, by kernel_rfl, by kernel_rfl⟩
theorem is37 : IsFn prog 37 f37 := ⟨by kernel_rfl, by kernel_rfl, by kernel_rfl⟩
theorem is38 : IsFn prog 38 f38 := ⟨by kernel_rfl, by kernel_rfl, by kernel_rfl⟩
theorem is39 : IsFn prog 39 f39 := ⟨by kernel_rfl, by kernel_rfl, by kernel_rfl⟩
theorem is40 : IsFn prog 40 f40 := ⟨by kernel_rfl, by kernel_rfl, by kernel_rfl⟩
theorem is41 : IsFn prog 41 f41 := ⟨by kernel_rfl, by kernel_rfl, by kernel_rfl⟩
theorem is42 : IsFn prog 42 f42 := ⟨by kernel_rfl, by kernel_rfl, by kernel_rfl⟩
theorem is43 : IsFn prog 43 f43 := ⟨by kernel_rfl, by kernel_rfl, by kernel_rfl⟩
theorem is44 : IsFn prog 44 f44 := ⟨by kernel_rfl, by kernel_rfl, by kernel_rfl⟩
theorem is45 : IsFn prog 45 f45 := ⟨by kernel_rfl, by kernel_rfl, by kernel_rfl⟩
theorem is46 : IsFn prog 46 f46 := ⟨by kernel_rfl, by kernel_rfl, by kernel_rfl⟩
theorem is47 : IsFn prog 47 f47 := ⟨by kernel_rfl, by kernel_rfl, by kernel_rfl⟩
theorem is50 : IsFn prog 50 f50 := ⟨by kernel_rfl, by kernel_rfl, by kernel_rfl⟩
theorem is51 : IsFn prog 51 f51 := ⟨by kernel_rfl, by kernel_rfl, by kernel_rfl⟩
theorem is52 : IsFn prog 52 f52 := ⟨by kernel_rfl, by kernel_rfl, by kernel_rfl⟩
theorem is53 : IsFn prog 53 f53 := ⟨by kernel_rfl, by kernel_rfl, by kernel_rfl⟩
theorem is56 : IsFn prog 56 f56 := ⟨by kernel_rfl, by kernel_rfl, by kernel_rfl⟩
theorem is58 : IsFn prog 58 f58 := ⟨by kernel_rfl, by kernel_rfl, by kernel_rfl⟩
theorem is59 : IsFn prog 59 f59 := ⟨by kernel_rfl, by kernel_rfl, by kernel_rfl⟩
theorem is60 : IsFn prog 60 f60 := ⟨by kernel_rfl, by kernel_rfl, by kernel_rfl⟩
theorem is61 : IsFn prog 61 f61 := ⟨by kernel_rfl, by kernel_rfl, by kernel_rfl⟩
theorem is62 : IsFn prog 62 f62 := ⟨by kernel_rfl, by kernel_rfl, by kernel_rfl⟩
theorem is63 : IsFn prog 63 f63 := ⟨by kernel_rfl, by kernel_rfl, by kernel_rfl⟩
theorem is64 : IsFn prog 64 f64 := ⟨by kernel_rfl, by kernel_rfl, by kernel_rfl⟩
theorem is65 : IsFn prog 65 f65 := ⟨by kernel_rfl, by kernel_rfl, by kernel_rfl⟩
theorem is66 : IsFn prog 66 f66 := ⟨by kernel_rfl, by kernel_rfl, by kernel_rfl⟩
theorem is67 : IsFn prog 67 f67 := ⟨by kernel_rfl, by kernel_rfl, by kernel_rfl⟩
theorem is68 : IsFn prog 68 f68 := ⟨by kernel_rfl, by kernel_rfl, by kernel_rfl⟩
theorem is69 : IsFn prog 69 f69 := ⟨by kernel_rfl, by kernel_rfl, by kernel_rfl⟩
theorem is70 : IsFn prog 70 f70 := ⟨by kernel_rfl, by kernel_rfl, by kernel_rfl⟩
noncomputable def R18_1_1_1_0_1_0 : Rng := rngOf (codeAt [1, 1, 1, 0, 1, 0] (bodyOf f18)) 26
def e2 (v : Int) : PV := .int .i64 v
theorem el2 : Elem e2 1 := ⟨fun _ => rfl, fun _ => rfl, by decide⟩
def e3 (v : Int) : PV := .int .i64 v
theorem el3 : Elem e3 1 := ⟨fun _ => rfl, fun _ => rfl, by decide⟩
def e25 (v : (List Int)) : PV := .sl (List.map e3 v) false
theorem el25 : Elem e25 1 := ⟨fun _ => rfl, fun _ => rfl, by decide⟩
def e68 (v : (Int × Int)) : PV := .agg [.int .i64 v.1, .int .i64 v.2]
theorem el68 : Elem e68 2 := ⟨fun _ => rfl, fun _ => rfl, by decide⟩
def e81 (v : (Int × Int)) : PV := .agg [.int .i64 v.1, .int .i64 v.2]
theorem el81 : Elem e81 2 := ⟨fun _ => rfl, fun _ => rfl, by decide⟩
theorem keq81 : KEq prog e81 81 (fun _ => true) := ⟨fun a b _ _ => (by kernel_rfl : _ = some (((a.1 == b.1) && ((a.2 == b.2) && true)))).trans (congrArg some (by first | rfl | (obtain ⟨a1, a2⟩ := a; obtain ⟨b1, b2⟩ := b; simp only [Bool.and_true]; rfl) | simp)), fun a => keyF_of [.int .i64 a.1, .int .i64 a.2] (by rfl) ⟨Or.inl ⟨_, _, rfl⟩, ⟨Or.inl ⟨_, _, rfl⟩, trivial⟩⟩⟩
theorem eqr3 : ElEq prog e3 3 9999 := ⟨fun _ _ => by kernel_rfl, fun _ => rfl, fun _ _ => by kernel_rfl⟩
def F8  (fuel : Nat) (p0 : (List (Int × Int))) : Option Bool :=
  oif ((decide ((p0.length : Int) > 9)))
  (some true)
  (some false)
theorem F8_ok  (fuel : Nat) (p0 : (List (Int × Int))) (fp0 : Bool) (r : Bool) (h : F8 fuel p0 = some r) : CallP prog 8 [.sl (List.map e68 p0) fp0] (.bool r) := by
  unfold F8 at h
  refine oif_elim h (fun h1 g1 => ?_) (fun h1 g1 => ?_)
  · have hr := Option.some.inj g1
    subst hr
    exact callP_of is8 rfl (path hm (ks := [2]) (σ' := ⟨[(2, .p (.bool true))], []⟩) (cc := [.reg [] [] 0 [] [0], .reg [] [] 0 [(1, none, .n (p0.length : Int)), (2, none, .b true)] [2]])
      (ai (len_map e68 p0) (ai h1 trivial)) (by kernel_rfl)) (e := .ret) rfl (vs := [.p (.bool true)]) trivial (by kernel_rfl) (.p _ _ (.refl _))
  · have hr := Option.some.inj g1
    subst hr
    exact callP_of is8 rfl (path hm (ks := [2]) (σ' := ⟨[(2, .p (.bool false))], []⟩) (cc := [.reg [] [] 0 [] [0], .reg [] [] 0 [(1, none, .n (p0.length : Int)), (2, none, .b false)] [2]])
      (ai (len_map e68 p0) (ai h1 trivial)) (by kernel_rfl)) (e := .ret) rfl (vs := [.p (.bool false)]) trivial (by kernel_rfl) (.p _ _ (.refl _))
def L35_1  (v0 : (List Int)) : Nat → Int → (List (Int × Int)) → Option (List (Int × Int))
  | 0, _, _ => none
  | fuel + 1, v4, w0 =>
    oif ((decide ((IntKind.wrap .i64 (v4 + 1)) < (v0.length : Int))))
    (obind (sg v0 v4) fun x1 => obind (sg v0 (IntKind.wrap .i64 (v4 + 1))) fun x2 => oif (decide (((List.length w0) + 1) * 16 ≤ 140737488355328)) (L35_1 v0 fuel (IntKind.wrap .i64 (v4 + 2)) (w0 ++ [(x1, x2)])) none)
    (some (w0))
noncomputable def L35_1_post (v0 : (List Int)) (fp0 : Bool) : (List (Int × Int)) → Ex × St
  | y => ((.exit 0), ⟨[(3, .msl 0 0 (List.length y) (List.length (rowI e68 y)) false)], [.cells (rowI e68 y) 2]⟩)
theorem L35_1_ok  (v0 : (List Int)) (fp0 : Bool) : ∀ (fuel : Nat) (v4 : Int) (w0 : (List (Int × Int))) (r : (List (Int × Int))), L35_1 v0 fuel v4 w0 = some r →
    SemJ prog ⟨26, 0, false⟩ (codeAt [1, 1, 0, 1, 0, 0] (bodyOf f35)) ⟨[(0, .p (.sl (List.map e2 v0) fp0)), (3, .msl 0 0 (List.length w0) (List.length (rowI e68 w0)) false), (4, .p (.int .i64 v4))], [.cells (rowI e68 w0) 2]⟩ (L35_1_post v0 fp0 r).1 (L35_1_post v0 fp0 r).2
  | 0, _, _, _, h => nomatch h
  | fuel + 1, v4, w0, r, h => by
    unfold L35_1 at h
    refine oif_elim h (fun h1 g1 => ?_) (fun h1 g1 => ?_)
    · refine obind_elim g1 fun x1 h2 g2 => ?_
      refine obind_elim g2 fun x2 h3 g3 => ?_
      refine oif_elim g3 (fun h4 g4 => ?_) (fun _ h => nomatch h)
      exact SemJ.again (σ1 := ⟨[(0, .p (.sl (List.map e2 v0) fp0)), (3, .msl 0 0 (List.length (w0 ++ [(x1, x2)])) (List.length (rowI e68 (w0 ++ [(x1, x2)]))) false), (4, .p (.int .i64 (IntKind.wrap .i64 (v4 + 2))))], [.cells (rowI e68 (w0 ++ [(x1, x2)])) 2]⟩) (path hm (σ' := ⟨[(0, .p (.sl (List.map e2 v0) fp0)), (3, .msl 0 0 (List.length (w0 ++ [(x1, x2)])) (List.length (rowI e68 (w0 ++ [(x1, x2)]))) false), (4, .p (.int .i64 (IntKind.wrap .i64 (v4 + 2))))], [.cells (rowI e68 (w0 ++ [(x1, x2)])) 2]⟩) (ks := [0, 3, 4]) (cc := [.reg [] [] 0 [(3, none, .n (v0.length : Int)), (4, none, .b true)] [0, 3, 4, 9], .reg [0, 0, 0, 6, 14, 0, 0, 64, 224, 480, 1022, 2046, 4095, 8191] [(0, 12)] 0 [(3, none, .iv (.p (.int .i64 x1))), (8, none, .iv (.p (.int .i64 x2))), (12, none, .ap (rowI e68 (w0 ++ [(x1, x2)])) (List.length (w0 ++ [(x1, x2)])) (List.length (rowI e68 (w0 ++ [(x1, x2)]))))] [0, 3, 4], .reg [] [] 0 [] [0, 3, 4]])
        (ai (len_map e2 v0) (ai h1 (ai (sg_map (f := e2) h2) (ai (sg_map (f := e2) h3) (ai (by decide : 0 < 1) (ai (od h4) (ai (app_c2 (by decide) (od h4)) (ai (app_len e68 [(x1, x2)] (rl (List.length w0))) (ai (rl (List.length (rowI e68 (w0 ++ [(x1, x2)])))) (ai (row_app e68 w0 [(x1, x2)]) (ai (rl (List.length (rowI e68 w0))) (ai (row_sz el68 (rl (List.length (rowI e68 w0))) (rl (List.length w0))) (ai (row_sc el68 [(x1, x2)]) (ai (row_es el68 [(x1, x2)]) trivial)))))))))))))) (by kernel_rfl)) (L35_1_ok v0 fp0 fuel (IntKind.wrap .i64 (v4 + 2)) (w0 ++ [(x1, x2)]) _ g4)
    · have hr := Option.some.inj g1
      subst hr
      exact SemC.cast (SemJ.out (e := (.exit 0)) (path hm (σ' := ⟨[(3, .msl 0 0 (List.length w0) (List.length (rowI e68 w0)) false)], [.cells (rowI e68 w0) 2]⟩) (ks := [3]) (cc := [.reg [] [] 0 [(3, none, .n (v0.length : Int)), (4, none, .b false)] [0, 3, 4, 9]])
        (ai (len_map e2 v0) (ai h1 trivial)) (by kernel_rfl)) (by simp)) (by kernel_rfl) (by kernel_rfl)
def L35_0  (v0 : (List Int)) : Nat → Option (List (Int × Int))
  | 0 => none
  | fuel + 1 =>
    oif ((decide (1 < (v0.length : Int))))
    (obind (sg v0 0) fun x1 => obind (sg v0 1) fun x2 => oif (decide (1 * 16 ≤ 140737488355328)) (obind (L35_1 v0 fuel 2 [(x1, x2)]) fun y3 => some (y3)) none)
    (some (([] : List (Int × Int))))
noncomputable def L35_0_post (v0 : (List Int)) (fp0 : Bool) : (List (Int × Int)) → Ex × St
  | y => ((.exit 0), ⟨[(3, .p (.sl (List.map e68 y) false))], []⟩)
theorem L35_0_ok  (v0 : (List Int)) (fp0 : Bool) : ∀ (fuel : Nat)  (r : (List (Int × Int))), L35_0 v0 fuel  = some r →
    SemJ prog ⟨26, 0, false⟩ (codeAt [1, 1, 0, 1, 0, 0] (bodyOf f35)) ⟨[(0, .p (.sl (List.map e2 v0) fp0)), (3, .p (.nilsl)), (4, .p (.int .i64 0))], []⟩ (L35_0_post v0 fp0 r).1 (L35_0_post v0 fp0 r).2
  | 0, _, h => nomatch h
  | fuel + 1, r, h => by
    unfold L35_0 at h
    refine oif_elim h (fun h1 g1 => ?_) (fun h1 g1 => ?_)
    · refine obind_elim g1 fun x1 h2 g2 => ?_
      refine obind_elim g2 fun x2 h3 g3 => ?_
      refine oif_elim g3 (fun h4 g4 => ?_) (fun _ h => nomatch h)
      refine obind_elim g4 fun y3 h5 g5 => ?_
      have hr := Option.some.inj g5
      subst hr
      exact SemC.cast (SemJ.again (σ1 := ⟨[(0, .p (.sl (List.map e2 v0) fp0)), (3, .msl 0 0 (List.length [(x1, x2)]) (List.length (rowI e68 [(x1, x2)])) false), (4, .p (.int .i64 2))], [.cells (rowI e68 [(x1, x2)]) 2]⟩) (path hm (σ' := ⟨[(0, .p (.sl (List.map e2 v0) fp0)), (3, .msl 0 0 (List.length [(x1, x2)]) (List.length (rowI e68 [(x1, x2)])) false), (4, .p (.int .i64 2))], [.cells (rowI e68 [(x1, x2)]) 2]⟩) (ks := [0, 3, 4]) (cc := [.reg [] [] 0 [(3, none, .n (v0.length : Int)), (4, none, .b true)] [0, 3, 4, 9], .reg [0, 0, 0, 6, 14, 0, 0, 64, 224, 480, 1022, 2046, 4095, 8191] [(0, 12)] 1 [(3, none, .iv (.p (.int .i64 x1))), (8, none, .iv (.p (.int .i64 x2))), (12, some 0, .ap (rowI e68 [(x1, x2)]) (List.length [(x1, x2)]) (List.length (rowI e68 [(x1, x2)])))] [0, 3, 4], .reg [] [] 0 [] [0, 3, 4]])
        (ai (len_map e2 v0) (ai h1 (ai (sg_map (f := e2) h2) (ai (sg_map (f := e2) h3) (ai (by decide : 0 < 1) (ai (od h4) (ai (app_c0 (by decide) (od h4)) (ai (rl (List.length [(x1, x2)])) (ai (rl (List.length (rowI e68 [(x1, x2)]))) (ai (row_src e68 [(x1, x2)]) (ai (row_sc el68 [(x1, x2)]) (ai (row_es el68 [(x1, x2)]) trivial)))))))))))) (by kernel_rfl)) (SemC.post (L35_1_ok v0 fp0 fuel 2 [(x1, x2)] _ h5) (Weak.trans (wcast (Weak.freeze (E := [(3, .msl 0 0 (List.length y3) (List.length (rowI e68 y3)) false)]) (E' := [(3, .p (.sl (List.map e68 y3) false))]) (H := [.cells (rowI e68 y3) 2]) [0] (by kernel_rfl) (.snap _ _ _ _ _ (snap_row (g := 2) (L := y3) el68 (by kernel_rfl) (rl (List.length (rowI e68 y3))) (rl (List.length y3))) .nil)) (by kernel_rfl : (⟨[(3, .p (.sl (List.map e68 y3) false))], puts (dieW [0]) [.cells (rowI e68 y3) 2]⟩ : St) = ⟨[(3, .p (.sl (List.map e68 y3) false))], [.dead]⟩)) (Weak.sel (E := [(3, .p (.sl (List.map e68 y3) false))]) (E' := [(3, .p (.sl (List.map e68 y3) false))]) (H := [.dead]) (H' := []) [] trivial (by kernel_rfl) (by kernel_rfl))))) (by kernel_rfl) (by kernel_rfl)
    · have hr := Option.some.inj g1
      subst hr
      exact SemC.cast (SemJ.out (e := (.exit 0)) (SemC.post (path hm (σ' := ⟨[(3, .p (.nilsl))], []⟩) (ks := [3]) (cc := [.reg [] [] 0 [(3, none, .n (v0.length : Int)), (4, none, .b false)] [0, 3, 4, 9]])
        (ai (len_map e2 v0) (ai h1 trivial)) (by kernel_rfl)) (wcast (Weak.freeze (E := [(3, .p (.nilsl))]) (E' := [(3, .p (.sl (List.map e68 ([] : List (Int × Int))) false))]) (H := []) [] (by kernel_rfl) (.snap _ _ _ _ _ (.p _ _ (.nil _)) .nil)) (by kernel_rfl : (⟨[(3, .p (.sl (List.map e68 ([] : List (Int × Int))) false))], puts (dieW []) []⟩ : St) = ⟨[(3, .p (.sl (List.map e68 ([] : List (Int × Int))) false))], []⟩))) (by simp)) (by kernel_rfl) (by kernel_rfl)
def F35  (fuel : Nat) (p0 : (List Int)) : Option (List (Int × Int)) :=
  obind (L35_0 p0 fuel ) fun y1 => some y1
theorem F35_ok  (fuel : Nat) (p0 : (List Int)) (fp0 : Bool) (r : (List (Int × Int))) (h : F35 fuel p0 = some r) : CallP prog 35 [.sl (List.map e2 p0) fp0] (.sl (List.map e68 r) false) := by
  unfold F35 at h
  refine obind_elim h fun y1 h1 g1 => ?_
  have hr := Option.some.inj g1
  subst hr
  exact callP_of is35 rfl (path hm (ks := [2]) (σ' := ⟨[(2, .p (.sl (List.map e68 y1) false))], []⟩) (cc := [.reg [] [] 0 [] [0], .reg [] [] 0 [] [0, 3], .reg [] [] 0 [] [0, 3, 4], .leaf (.exit 0) ⟨[(3, .p (.sl (List.map e68 y1) false))], []⟩, .reg [] [] 0 [] [2]])
      (ai (SemJ.loop (L35_0_ok p0 fp0 fuel  _ h1)) trivial) (by kernel_rfl)) (e := .ret) rfl (vs := [.p (.sl (List.map e68 y1) false)]) trivial (by kernel_rfl) (.p _ _ (.refl _))
def F64  (fuel : Nat) (p0 : Int) (p1 : Int) (p2 : Int) : Option Bool :=
  oif ((decide (p0 < p1)))
  (some true)
  (oif ((decide (p0 > p2)))
    (some true)
    (some false))
theorem F64_ok  (fuel : Nat) (p0 : Int) (p1 : Int) (p2 : Int)  (r : Bool) (h : F64 fuel p0 p1 p2 = some r) : CallP prog 64 [.int .i64 p0, .ref [.int .i64 p1], .ref [.int .i64 p2]] (.bool r) := by
  unfold F64 at h
  refine oif_elim h (fun h1 g1 => ?_) (fun h1 g1 => ?_)
  · have hr := Option.some.inj g1
    subst hr
    exact callP_of is64 rfl (path hm (ks := [4]) (σ' := ⟨[(4, .p (.bool true))], []⟩) (cc := [.reg [] [] 0 [] [0, 1, 2], .reg [] [] 0 [(2, none, .b true)] [4]])
      (ai h1 trivial) (by kernel_rfl)) (e := .ret) rfl (vs := [.p (.bool true)]) trivial (by kernel_rfl) (.p _ _ (.refl _))
  · refine oif_elim g1 (fun h2 g2 => ?_) (fun h2 g2 => ?_)
    · have hr := Option.some.inj g2
      subst hr
      exact callP_of is64 rfl (path hm (ks := [4]) (σ' := ⟨[(4, .p (.bool true))], []⟩) (cc := [.reg [] [] 0 [] [0, 1, 2], .reg [] [] 0 [(2, none, .b false), (6, none, .b true)] [4]])
      (ai h1 (ai h2 trivial)) (by kernel_rfl)) (e := .ret) rfl (vs := [.p (.bool true)]) trivial (by kernel_rfl) (.p _ _ (.refl _))
    · have hr := Option.some.inj g2
      subst hr
      exact callP_of is64 rfl (path hm (ks := [4]) (σ' := ⟨[(4, .p (.bool false))], []⟩) (cc := [.reg [] [] 0 [] [0, 1, 2], .reg [] [] 0 [(2, none, .b false), (6, none, .b false)] [4]])
      (ai h1 (ai h2 trivial)) (by kernel_rfl)) (e := .ret) rfl (vs := [.p (.bool false)]) trivial (by kernel_rfl) (.p _ _ (.refl _))
def L70_0  (v0 : (List Int)) (v1 : Int) (v1_1 : Int) (v7 : Int) : Nat → Int → Option (Int ⊕ Unit)
  | 0, _ => none
  | fuel + 1, v8 =>
    oif ((decide (v8 < v7)))
    (obind (sg v0 v8) fun x1 => obind (F64 fuel x1 v1 v1_1) fun r2 => oif (r2)
      (some (.inl v8))
      (L70_0 v0 v1 v1_1 v7 fuel (IntKind.wrap .i64 (v8 + 1))))
    (some (.inr (())))
noncomputable def L70_0_post (v0 : (List Int)) (v1 : Int) (v1_1 : Int) (v7 : Int) (fp0 : Bool) : (Int ⊕ Unit) → Ex × St
  | .inl y => (.ret, ⟨[(4, .p (.int .i64 y))], []⟩)
  | .inr (y) => ((.exit 0), ⟨[], []⟩)
theorem L70_0_ok  (v0 : (List Int)) (v1 : Int) (v1_1 : Int) (v7 : Int) (fp0 : Bool) : ∀ (fuel : Nat) (v8 : Int) (r : (Int ⊕ Unit)), L70_0 v0 v1 v1_1 v7 fuel v8 = some r →
    SemJ prog ⟨19, 0, false⟩ (codeAt [1, 0, 1, 0, 0] (bodyOf f70)) ⟨[(0, .p (.sl (List.map e2 v0) fp0)), (1, .p (.fn 64 [] [.ref [.int .i64 v1], .ref [.int .i64 v1_1]])), (7, .p (.int .i64 v7)), (8, .p (.int .i64 v8))], []⟩ (L70_0_post v0 v1 v1_1 v7 fp0 r).1 (L70_0_post v0 v1 v1_1 v7 fp0 r).2
  | 0, _, _, h => nomatch h
  | fuel + 1, v8, r, h => by
    unfold L70_0 at h
    refine oif_elim h (fun h1 g1 => ?_) (fun h1 g1 => ?_)
    · refine obind_elim g1 fun x1 h2 g2 => ?_
      refine obind_elim g2 fun r2 h3 g3 => ?_
      let c1 : List CC := [.reg [] [] 0 [(0, none, .b true)] [0, 1, 7, 8, 9], .reg [] [] 0 [] [0, 1, 5, 7, 8]]
      refine oif_elim g3 (fun h4 g4 => ?_) (fun h4 g4 => ?_)
      · subst h4
        have hr := Option.some.inj g4
        subst hr
        exact SemC.cast (SemJ.out (e := .ret) (path hm (σ' := ⟨[(4, .p (.int .i64 v8))], []⟩) (ks := [4]) (cc := c1 ++ [.reg [] [] 0 [(3, none, .iv (.p (.int .i64 x1))), (5, none, .call (.bool true))] [0, 1, 5, 7, 8, 16], .reg [] [] 0 [] [4]])
        (ai h1 (ai (sg_map (f := e2) h2) (ai (F64_ok fuel x1 v1 v1_1 _ h3) trivial))) (by kernel_rfl)) (by simp)) (by kernel_rfl) (by kernel_rfl)
      · subst h4
        exact SemJ.again (σ1 := ⟨[(0, .p (.sl (List.map e2 v0) fp0)), (1, .p (.fn 64 [] [.ref [.int .i64 v1], .ref [.int .i64 v1_1]])), (7, .p (.int .i64 v7)), (8, .p (.int .i64 (IntKind.wrap .i64 (v8 + 1))))], []⟩) (path hm (σ' := ⟨[(0, .p (.sl (List.map e2 v0) fp0)), (1, .p (.fn 64 [] [.ref [.int .i64 v1], .ref [.int .i64 v1_1]])), (7, .p (.int .i64 v7)), (8, .p (.int .i64 (IntKind.wrap .i64 (v8 + 1))))], []⟩) (ks := [0, 1, 7, 8]) (cc := c1 ++ [.reg [] [] 0 [(3, none, .iv (.p (.int .i64 x1))), (5, none, .call (.bool false))] [0, 1, 5, 7, 8, 16], .reg [] [] 0 [] [0, 1, 7, 8]])
        (ai h1 (ai (sg_map (f := e2) h2) (ai (F64_ok fuel x1 v1 v1_1 _ h3) trivial))) (by kernel_rfl)) (L70_0_ok v0 v1 v1_1 v7 fp0 fuel (IntKind.wrap .i64 (v8 + 1)) _ g4)
    · have hr := Option.some.inj g1
      subst hr
      exact SemC.cast (SemJ.out (e := (.exit 0)) (path hm (σ' := ⟨[], []⟩) (ks := []) (cc := [.reg [] [] 0 [(0, none, .b false)] [0, 1, 7, 8, 9]])
        (ai h1 trivial) (by kernel_rfl)) (by simp)) (by kernel_rfl) (by kernel_rfl)
def F70  (fuel : Nat) (p0 : (List Int)) (p1ay : Int) (p1by : Int) : Option Int :=
  (obind (L70_0 p0 p1ay p1by (p0.length : Int) fuel 0) fun y1 => match y1 with
  | .inl y1 => some y1
  | .inr (y1) => some (-1))
theorem F70_ok  (fuel : Nat) (p0 : (List Int)) (p1ay : Int) (p1by : Int) (fp0 : Bool) (r : Int) (h : F70 fuel p0 p1ay p1by = some r) : CallP prog 70 [.sl (List.map e2 p0) fp0, .fn 64 [] [.ref [.int .i64 p1ay], .ref [.int .i64 p1by]]] (.int .i64 r) := by
  unfold F70 at h
  let c2 : List CC := [.reg [] [] 0 [] [0, 1], .reg [] [] 0 [(1, none, .n (p0.length : Int))] [0, 1, 7, 8]]
  refine obind_elim h fun y h1 g1 => ?_
  match y, h1, g1 with
  | .inl y1, h1, g1 =>
    have hr := Option.some.inj g1
    subst hr
    exact callP_of is70 rfl (path hm (ks := [4]) (σ' := ⟨[(4, .p (.int .i64 y1))], []⟩) (cc := c2 ++ [.leaf .ret ⟨[(4, .p (.int .i64 y1))], []⟩])
      (ai (len_map e2 p0) (ai (SemJ.loop (L70_0_ok p0 p1ay p1by (p0.length : Int) fp0 fuel 0 _ h1)) trivial)) (by kernel_rfl)) (e := .ret) rfl (vs := [.p (.int .i64 y1)]) trivial (by kernel_rfl) (.p _ _ (.refl _))
  | .inr (y1), h1, g1 =>
    have hr := Option.some.inj g1
    subst hr
    exact callP_of is70 rfl (path hm (ks := [4]) (σ' := ⟨[(4, .p (.int .i64 (-1)))], []⟩) (cc := c2 ++ [.leaf (.exit 0) ⟨[], []⟩, .reg [] [] 0 [] [4]])
      (ai (len_map e2 p0) (ai (SemJ.loop (L70_0_ok p0 p1ay p1by (p0.length : Int) fp0 fuel 0 _ h1)) trivial)) (by kernel_rfl)) (e := .ret) rfl (vs := [.p (.int .i64 (-1))]) trivial (by kernel_rfl) (.p _ _ (.refl _))
def F63  (fuel : Nat) (p0 : (List Int)) (p1ay : Int) (p1by : Int) : Option Bool :=
  obind (F70 fuel p0 p1ay p1by) fun r1 => oif ((decide (r1 ≥ 0)))
  (some true)
  (some false)
theorem F63_ok  (fuel : Nat) (p0 : (List Int)) (p1ay : Int) (p1by : Int) (fp0 : Bool) (r : Bool) (h : F63 fuel p0 p1ay p1by = some r) : CallP prog 63 [.sl (List.map e2 p0) fp0, .fn 64 [] [.ref [.int .i64 p1ay], .ref [.int .i64 p1by]]] (.bool r) := by
  unfold F63 at h
  refine obind_elim h fun r1 h1 g1 => ?_
  refine oif_elim g1 (fun h2 g2 => ?_) (fun h2 g2 => ?_)
  · have hr := Option.some.inj g2
    subst hr
    exact callP_of is63 rfl (path hm (ks := [4]) (σ' := ⟨[(4, .p (.bool true))], []⟩) (cc := [.reg [] [] 0 [] [0, 1], .reg [] [] 0 [(2, none, .call (.int .i64 r1)), (3, none, .b true)] [4]])
      (ai (F70_ok fuel p0 p1ay p1by fp0 _ h1) (ai h2 trivial)) (by kernel_rfl)) (e := .ret) rfl (vs := [.p (.bool true)]) trivial (by kernel_rfl) (.p _ _ (.refl _))
  · have hr := Option.some.inj g2
    subst hr
    exact callP_of is63 rfl (path hm (ks := [4]) (σ' := ⟨[(4, .p (.bool false))], []⟩) (cc := [.reg [] [] 0 [] [0, 1], .reg [] [] 0 [(2, none, .call (.int .i64 r1)), (3, none, .b false)] [4]])
      (ai (F70_ok fuel p0 p1ay p1by fp0 _ h1) (ai h2 trivial)) (by kernel_rfl)) (e := .ret) rfl (vs := [.p (.bool false)]) trivial (by kernel_rfl) (.p _ _ (.refl _))
def F43  (fuel : Nat) (p0 : Int) (p1 : Int) (p2 : (List Int)) : Option Bool :=
  obind (F63 fuel p2 p0 p1) fun r1 => oif (r1)
  (some false)
  (some true)
theorem F43_ok  (fuel : Nat) (p0 : Int) (p1 : Int) (p2 : (List Int)) (fp2 : Bool) (r : Bool) (h : F43 fuel p0 p1 p2 = some r) : CallP prog 43 [.int .i64 p0, .int .i64 p1, .sl (List.map e2 p2) fp2] (.bool r) := by
  unfold F43 at h
  refine obind_elim h fun r1 h1 g1 => ?_
  refine oif_elim g1 (fun h2 g2 => ?_) (fun h2 g2 => ?_)
  · subst h2
    have hr := Option.some.inj g2
    subst hr
    exact callP_of is43 rfl (path hm (ks := [6]) (σ' := ⟨[(6, .p (.bool false))], []⟩) (cc := [.reg [] [] 0 [(0, none, .imm), (1, none, .imm)] [2, 3, 4], .reg [] [] 0 [(2, none, .call (.bool true))] [6]])
      (ai (F63_ok fuel p2 p0 p1 fp2 _ h1) trivial) (by kernel_rfl)) (e := .ret) rfl (vs := [.p (.bool false)]) trivial (by kernel_rfl) (.p _ _ (.refl _))
  · subst h2
    have hr := Option.some.inj g2
    subst hr
    exact callP_of is43 rfl (path hm (ks := [6]) (σ' := ⟨[(6, .p (.bool true))], []⟩) (cc := [.reg [] [] 0 [(0, none, .imm), (1, none, .imm)] [2, 3, 4], .reg [] [] 0 [(2, none, .call (.bool false))] [6]])
      (ai (F63_ok fuel p2 p0 p1 fp2 _ h1) trivial) (by kernel_rfl)) (e := .ret) rfl (vs := [.p (.bool true)]) trivial (by kernel_rfl) (.p _ _ (.refl _))
def F42  (fuel : Nat) (p0 : (Int × Int)) : Option Bool :=
  obind (F43 fuel 1 200 [p0.1]) fun r1 => oif (r1)
  (obind (F43 fuel 0 (IntKind.wrap .i64 (p0.1 - 1)) [p0.2]) fun r2 => oif (r2)
    (some false)
    (some true))
  (some true)
theorem F42_ok  (fuel : Nat) (p0 : (Int × Int))  (r : Bool) (h : F42 fuel p0 = some r) : CallP prog 42 [.agg [.int .i64 p0.1, .int .i64 p0.2]] (.bool r) := by
  unfold F42 at h
  refine obind_elim h fun r1 h1 g1 => ?_
  refine oif_elim g1 (fun h2 g2 => ?_) (fun h2 g2 => ?_)
  · subst h2
    refine obind_elim g2 fun r2 h3 g3 => ?_
    refine oif_elim g3 (fun h4 g4 => ?_) (fun h4 g4 => ?_)
    · subst h4
      have hr := Option.some.inj g4
      subst hr
      exact callP_of is42 rfl (path hm (ks := [2]) (σ' := ⟨[(2, .p (.bool false))], []⟩) (cc := [.reg [] [] 0 [(0, none, .imm)] [1], .reg [] [] 0 [(3, none, .call (.bool true)), (12, none, .call (.bool true))] [2]])
      (ai (F43_ok fuel 1 200 [p0.1] true _ h1) (ai (F43_ok fuel 0 (IntKind.wrap .i64 (p0.1 - 1)) [p0.2] true _ h3) trivial)) (by kernel_rfl)) (e := .ret) rfl (vs := [.p (.bool false)]) trivial (by kernel_rfl) (.p _ _ (.refl _))
    · subst h4
      have hr := Option.some.inj g4
      subst hr
      exact callP_of is42 rfl (path hm (ks := [2]) (σ' := ⟨[(2, .p (.bool true))], []⟩) (cc := [.reg [] [] 0 [(0, none, .imm)] [1], .reg [] [] 0 [(3, none, .call (.bool true)), (12, none, .call (.bool false))] [2]])
      (ai (F43_ok fuel 1 200 [p0.1] true _ h1) (ai (F43_ok fuel 0 (IntKind.wrap .i64 (p0.1 - 1)) [p0.2] true _ h3) trivial)) (by kernel_rfl)) (e := .ret) rfl (vs := [.p (.bool true)]) trivial (by kernel_rfl) (.p _ _ (.refl _))
  · subst h2
    have hr := Option.some.inj g2
    subst hr
    exact callP_of is42 rfl (path hm (ks := [2]) (σ' := ⟨[(2, .p (.bool true))], []⟩) (cc := [.reg [] [] 0 [(0, none, .imm)] [1], .reg [] [] 0 [(3, none, .call (.bool false))] [2]])
      (ai (F43_ok fuel 1 200 [p0.1] true _ h1) trivial) (by kernel_rfl)) (e := .ret) rfl (vs := [.p (.bool true)]) trivial (by kernel_rfl) (.p _ _ (.refl _))
def L65_0  (v0 : (List (Int × Int))) (v7 : Int) : Nat → Int → Option (Int ⊕ Unit)
  | 0, _ => none
  | fuel + 1, v8 =>
    oif ((decide (v8 < v7)))
    (obind (sg v0 v8) fun x1 => obind (F42 fuel (x1.1, x1.2)) fun r2 => oif (r2)
      (some (.inl v8))
      (L65_0 v0 v7 fuel (IntKind.wrap .i64 (v8 + 1))))
    (some (.inr (())))
noncomputable def L65_0_post (v0 : (List (Int × Int))) (v7 : Int) (fp0 : Bool) : (Int ⊕ Unit) → Ex × St
  | .inl y => (.ret, ⟨[(4, .p (.int .i64 y))], []⟩)
  | .inr (y) => ((.exit 0), ⟨[], []⟩)
theorem L65_0_ok  (v0 : (List (Int × Int))) (v7 : Int) (fp0 : Bool) : ∀ (fuel : Nat) (v8 : Int) (r : (Int ⊕ Unit)), L65_0 v0 v7 fuel v8 = some r →
    SemJ prog ⟨19, 0, false⟩ (codeAt [1, 0, 1, 0, 0] (bodyOf f65)) ⟨[(0, .p (.sl (List.map e68 v0) fp0)), (1, .p (.fn 42 [] [])), (7, .p (.int .i64 v7)), (8, .p (.int .i64 v8))], []⟩ (L65_0_post v0 v7 fp0 r).1 (L65_0_post v0 v7 fp0 r).2
  | 0, _, _, h => nomatch h
  | fuel + 1, v8, r, h => by
    unfold L65_0 at h
    refine oif_elim h (fun h1 g1 => ?_) (fun h1 g1 => ?_)
    · refine obind_elim g1 fun x1 h2 g2 => ?_
      refine obind_elim g2 fun r2 h3 g3 => ?_
      let c3 : List CC := [.reg [] [] 0 [(0, none, .b true)] [0, 1, 7, 8, 9], .reg [] [] 0 [] [0, 1, 5, 7, 8]]
      refine oif_elim g3 (fun h4 g4 => ?_) (fun h4 g4 => ?_)
      · subst h4
        have hr := Option.some.inj g4
        subst hr
        exact SemC.cast (SemJ.out (e := .ret) (path hm (σ' := ⟨[(4, .p (.int .i64 v8))], []⟩) (ks := [4]) (cc := c3 ++ [.reg [] [] 0 [(3, none, .iv (.p (.agg [.int .i64 x1.1, .int .i64 x1.2]))), (5, none, .call (.bool true))] [0, 1, 5, 7, 8, 16], .reg [] [] 0 [] [4]])
        (ai h1 (ai (sg_map (f := e68) h2) (ai (F42_ok fuel (x1.1, x1.2) _ h3) trivial))) (by kernel_rfl)) (by simp)) (by kernel_rfl) (by kernel_rfl)
      · subst h4
        exact SemJ.again (σ1 := ⟨[(0, .p (.sl (List.map e68 v0) fp0)), (1, .p (.fn 42 [] [])), (7, .p (.int .i64 v7)), (8, .p (.int .i64 (IntKind.wrap .i64 (v8 + 1))))], []⟩) (path hm (σ' := ⟨[(0, .p (.sl (List.map e68 v0) fp0)), (1, .p (.fn 42 [] [])), (7, .p (.int .i64 v7)), (8, .p (.int .i64 (IntKind.wrap .i64 (v8 + 1))))], []⟩) (ks := [0, 1, 7, 8]) (cc := c3 ++ [.reg [] [] 0 [(3, none, .iv (.p (.agg [.int .i64 x1.1, .int .i64 x1.2]))), (5, none, .call (.bool false))] [0, 1, 5, 7, 8, 16], .reg [] [] 0 [] [0, 1, 7, 8]])
        (ai h1 (ai (sg_map (f := e68) h2) (ai (F42_ok fuel (x1.1, x1.2) _ h3) trivial))) (by kernel_rfl)) (L65_0_ok v0 v7 fp0 fuel (IntKind.wrap .i64 (v8 + 1)) _ g4)
    · have hr := Option.some.inj g1
      subst hr
      exact SemC.cast (SemJ.out (e := (.exit 0)) (path hm (σ' := ⟨[], []⟩) (ks := []) (cc := [.reg [] [] 0 [(0, none, .b false)] [0, 1, 7, 8, 9]])
        (ai h1 trivial) (by kernel_rfl)) (by simp)) (by kernel_rfl) (by kernel_rfl)
def F65  (fuel : Nat) (p0 : (List (Int × Int))) : Option Int :=
  (obind (L65_0 p0 (p0.length : Int) fuel 0) fun y1 => match y1 with
  | .inl y1 => some y1
  | .inr (y1) => some (-1))
theorem F65_ok  (fuel : Nat) (p0 : (List (Int × Int))) (fp0 : Bool) (r : Int) (h : F65 fuel p0 = some r) : CallP prog 65 [.sl (List.map e68 p0) fp0, .fn 42 [] []] (.int .i64 r) := by
  unfold F65 at h
  let c4 : List CC := [.reg [] [] 0 [] [0, 1], .reg [] [] 0 [(1, none, .n (p0.length : Int))] [0, 1, 7, 8]]
  refine obind_elim h fun y h1 g1 => ?_
  match y, h1, g1 with
  | .inl y1, h1, g1 =>
    have hr := Option.some.inj g1
    subst hr
    exact callP_of is65 rfl (path hm (ks := [4]) (σ' := ⟨[(4, .p (.int .i64 y1))], []⟩) (cc := c4 ++ [.leaf .ret ⟨[(4, .p (.int .i64 y1))], []⟩])
      (ai (len_map e68 p0) (ai (SemJ.loop (L65_0_ok p0 (p0.length : Int) fp0 fuel 0 _ h1)) trivial)) (by kernel_rfl)) (e := .ret) rfl (vs := [.p (.int .i64 y1)]) trivial (by kernel_rfl) (.p _ _ (.refl _))
  | .inr (y1), h1, g1 =>
    have hr := Option.some.inj g1
    subst hr
    exact callP_of is65 rfl (path hm (ks := [4]) (σ' := ⟨[(4, .p (.int .i64 (-1)))], []⟩) (cc := c4 ++ [.leaf (.exit 0) ⟨[], []⟩, .reg [] [] 0 [] [4]])
      (ai (len_map e68 p0) (ai (SemJ.loop (L65_0_ok p0 (p0.length : Int) fp0 fuel 0 _ h1)) trivial)) (by kernel_rfl)) (e := .ret) rfl (vs := [.p (.int .i64 (-1))]) trivial (by kernel_rfl) (.p _ _ (.refl _))
def F44  (fuel : Nat) (p0 : (List (Int × Int))) : Option Bool :=
  obind (F65 fuel p0) fun r1 => oif ((decide (r1 ≥ 0)))
  (some true)
  (some false)
theorem F44_ok  (fuel : Nat) (p0 : (List (Int × Int))) (fp0 : Bool) (r : Bool) (h : F44 fuel p0 = some r) : CallP prog 44 [.sl (List.map e68 p0) fp0, .fn 42 [] []] (.bool r) := by
  unfold F44 at h
  refine obind_elim h fun r1 h1 g1 => ?_
  refine oif_elim g1 (fun h2 g2 => ?_) (fun h2 g2 => ?_)
  · have hr := Option.some.inj g2
    subst hr
    exact callP_of is44 rfl (path hm (ks := [4]) (σ' := ⟨[(4, .p (.bool true))], []⟩) (cc := [.reg [] [] 0 [] [0, 1], .reg [] [] 0 [(2, none, .call (.int .i64 r1)), (3, none, .b true)] [4]])
      (ai (F65_ok fuel p0 fp0 _ h1) (ai h2 trivial)) (by kernel_rfl)) (e := .ret) rfl (vs := [.p (.bool true)]) trivial (by kernel_rfl) (.p _ _ (.refl _))
  · have hr := Option.some.inj g2
    subst hr
    exact callP_of is44 rfl (path hm (ks := [4]) (σ' := ⟨[(4, .p (.bool false))], []⟩) (cc := [.reg [] [] 0 [] [0, 1], .reg [] [] 0 [(2, none, .call (.int .i64 r1)), (3, none, .b false)] [4]])
      (ai (F65_ok fuel p0 fp0 _ h1) (ai h2 trivial)) (by kernel_rfl)) (e := .ret) rfl (vs := [.p (.bool false)]) trivial (by kernel_rfl) (.p _ _ (.refl _))
def F12  (fuel : Nat) (p0 : (List (Int × Int))) : Option Int :=
  obind (F43 fuel 1 5 [(p0.length : Int)]) fun r1 => oif (r1)
  (obind (F44 fuel p0) fun r2 => oif (r2)
    (some 3)
    (some 0))
  (some 6)
theorem F12_ok  (fuel : Nat) (p0 : (List (Int × Int))) (fp0 : Bool) (r : Int) (h : F12 fuel p0 = some r) : CallP prog 12 [.sl (List.map e68 p0) fp0] (.int .i64 r) := by
  unfold F12 at h
  refine obind_elim h fun r1 h1 g1 => ?_
  let c5 : List CC := [.reg [] [] 0 [] [0], .reg [] [] 0 [] [0, 3]]
  have q6 := fun {P : Prop} (t : P) => ai (len_map e68 p0) (ai (F43_ok fuel 1 5 [(p0.length : Int)] true _ h1) t)
  refine oif_elim g1 (fun h2 g2 => ?_) (fun h2 g2 => ?_)
  · subst h2
    refine obind_elim g2 fun r2 h3 g3 => ?_
    let c7 : List CC := c5 ++ [.reg [] [] 0 [(1, none, .n (p0.length : Int)), (3, none, .call (.bool true))] [0, 3, 4]]
    refine oif_elim g3 (fun h4 g4 => ?_) (fun h4 g4 => ?_)
    · subst h4
      have hr := Option.some.inj g4
      subst hr
      exact callP_of is12 rfl (path hm (ks := [2]) (σ' := ⟨[(2, .p (.int .i64 3))], []⟩) (cc := c7 ++ [.reg [] [] 0 [(2, none, .call (.bool true))] [10], .reg [] [] 0 [] [2]])
      (q6 (ai (F44_ok fuel p0 fp0 _ h3) trivial)) (by kernel_rfl)) (e := .ret) rfl (vs := [.p (.int .i64 3)]) trivial (by kernel_rfl) (.p _ _ (.refl _))
    · subst h4
      have hr := Option.some.inj g4
      subst hr
      exact callP_of is12 rfl (path hm (ks := [2]) (σ' := ⟨[(2, .p (.int .i64 0))], []⟩) (cc := c7 ++ [.reg [] [] 0 [(2, none, .call (.bool false))] [10], .reg [] [] 0 [] [2]])
      (q6 (ai (F44_ok fuel p0 fp0 _ h3) trivial)) (by kernel_rfl)) (e := .ret) rfl (vs := [.p (.int .i64 0)]) trivial (by kernel_rfl) (.p _ _ (.refl _))
  · subst h2
    have hr := Option.some.inj g2
    subst hr
    exact callP_of is12 rfl (path hm (ks := [2]) (σ' := ⟨[(2, .p (.int .i64 6))], []⟩) (cc := c5 ++ [.reg [] [] 0 [(1, none, .n (p0.length : Int)), (3, none, .call (.bool false))] [0, 3, 4], .reg [] [] 0 [] [2]])
      (q6 trivial) (by kernel_rfl)) (e := .ret) rfl (vs := [.p (.int .i64 6)]) trivial (by kernel_rfl) (.p _ _ (.refl _))
def F61  : Nat → Int → Int → Option Int
  | 0, _, _ => none
  | fuel + 1, p0, p1 =>
    oif ((p1 == 0))
    (some p0)
    (oif (decide (p1 ≠ 0)) (obind ((F61 fuel) p1 (Int.tmod p0 p1)) fun r1 => some r1) none)
theorem F61_ok  : ∀ (fuel : Nat) (p0 : Int) (p1 : Int)  (r : Int), F61 fuel p0 p1 = some r → CallP prog 61 [.int .i64 p0, .int .i64 p1] (.int .i64 r)
  | 0, _, _, _, h => nomatch h
  | fuel + 1, p0, p1, r, h => by
    unfold F61 at h
    refine oif_elim h (fun h1 g1 => ?_) (fun h1 g1 => ?_)
    · have hr := Option.some.inj g1
      subst hr
      exact callP_of is61 rfl (path hm (ks := [4]) (σ' := ⟨[(4, .p (.int .i64 p0))], []⟩) (cc := [.reg [] [] 0 [] [0, 1], .reg [] [] 0 [(1, none, .b true)] [0, 1, 6], .reg [] [] 0 [] [4]])
      (ai h1 trivial) (by kernel_rfl)) (e := .ret) rfl (vs := [.p (.int .i64 p0)]) trivial (by kernel_rfl) (.p _ _ (.refl _))
    · refine oif_elim g1 (fun h2 g2 => ?_) (fun _ h => nomatch h)
      refine obind_elim g2 fun r1 h3 g3 => ?_
      have hr := Option.some.inj g3
      subst hr
      exact callP_of is61 rfl (path hm (ks := [4]) (σ' := ⟨[(4, .p (.int .i64 r1))], []⟩) (cc := [.reg [] [] 0 [] [0, 1], .reg [] [] 0 [(1, none, .b false)] [0, 1, 6], .reg [] [] 0 [(4, none, .call (.int .i64 r1))] [4]])
      (ai h1 (ai (od h2) (ai ((F61_ok fuel) p1 (Int.tmod p0 p1) _ h3) trivial))) (by kernel_rfl)) (e := .ret) rfl (vs := [.p (.int .i64 r1)]) trivial (by kernel_rfl) (.p _ _ (.refl _))
def L58_2  (v4 : Int) (v19 : (List (Int × Int))) (v20 : Int) (v21 : Int) (v32 : (List (Int × Int))) (v33 : Int) (w0 : (List (Int × Int))) (w2 : Int) (w2_1 : Int) : Nat → Int → (List ((Int × Int) × Int)) → Option (List ((Int × Int) × Int))
  | 0, _, _ => none
  | fuel + 1, v34, w1 =>
    oif ((decide (v34 < v33)))
    (obind (sg v32 v34) fun x1 => obind (F61 fuel x1.1 w2) fun r2 => oif (mhas w1 (v34, v4))
      (L58_2 v4 v19 v20 v21 v32 v33 w0 w2 w2_1 fuel (IntKind.wrap .i64 (v34 + 1)) (mset w1 (v34, v4) r2))
      (L58_2 v4 v19 v20 v21 v32 v33 w0 w2 w2_1 fuel (IntKind.wrap .i64 (v34 + 1)) (w1 ++ [((v34, v4), r2)])))
    (some (w1))
noncomputable def L58_2_post (v4 : Int) (v19 : (List (Int × Int))) (v20 : Int) (v21 : Int) (v32 : (List (Int × Int))) (v33 : Int) (w0 : (List (Int × Int))) (w2 : Int) (w2_1 : Int) (fp0 : Bool) : (List ((Int × Int) × Int)) → Ex × St
  | y => ((.exit 2), ⟨[(3, .ptr 0 0 2), (19, .p (.sl (List.map e68 v19) fp0)), (20, .p (.int .i64 v20)), (21, .p (.int .i64 v21))], [.cells [.p (.sl (List.map e68 w0) fp0), .mmap 1] 0, .mapS (mapK e81 y) (mapV e2 y) (List.range (List.length y)) (List.length y)]⟩)
theorem L58_2_ok  (v4 : Int) (v19 : (List (Int × Int))) (v20 : Int) (v21 : Int) (v32 : (List (Int × Int))) (v33 : Int) (w0 : (List (Int × Int))) (w2 : Int) (w2_1 : Int) (fp0 : Bool) : ∀ (fuel : Nat) (v34 : Int) (w1 : (List ((Int × Int) × Int))) (r : (List ((Int × Int) × Int))), L58_2 v4 v19 v20 v21 v32 v33 w0 w2 w2_1 fuel v34 w1 = some r →
    SemJ prog ⟨93, 0, false⟩ (codeAt [1, 1, 0, 1, 0, 0, 1, 1, 0, 0, 1, 1, 0, 0] (bodyOf f58)) ⟨[(3, .ptr 0 0 2), (4, .p (.int .i64 v4)), (5, .ptr 2 0 2), (19, .p (.sl (List.map e68 v19) fp0)), (20, .p (.int .i64 v20)), (21, .p (.int .i64 v21)), (32, .p (.sl (List.map e68 v32) false)), (33, .p (.int .i64 v33)), (34, .p (.int .i64 v34))], [.cells [.p (.sl (List.map e68 w0) fp0), .mmap 1] 0, .mapS (mapK e81 w1) (mapV e2 w1) (List.range (List.length w1)) (List.length w1), .cells [.p (.int .i64 w2), .p (.int .i64 w2_1)] 0]⟩ (L58_2_post v4 v19 v20 v21 v32 v33 w0 w2 w2_1 fp0 r).1 (L58_2_post v4 v19 v20 v21 v32 v33 w0 w2 w2_1 fp0 r).2
  | 0, _, _, _, h => nomatch h
  | fuel + 1, v34, w1, r, h => by
    unfold L58_2 at h
    refine oif_elim h (fun h1 g1 => ?_) (fun h1 g1 => ?_)
    · refine obind_elim g1 fun x1 h2 g2 => ?_
      refine obind_elim g2 fun r2 h3 g3 => ?_
      let c9 : List CC := [.reg [] [] 0 [(0, none, .b true)] [3, 4, 5, 19, 20, 21, 32, 33, 34, 35], .reg [] [] 1 [(1, none, .iv (.p (.agg [.int .i64 x1.1, .int .i64 x1.2]))), (3, some 3, .a)] [3, 4, 5, 6, 7, 19, 20, 21, 32, 33, 34]]
      refine oif_elim g3 (fun h4 g4 => ?_) (fun h4 g4 => ?_)
      · exact SemJ.again (σ1 := ⟨[(3, .ptr 0 0 2), (4, .p (.int .i64 v4)), (5, .ptr 2 0 2), (19, .p (.sl (List.map e68 v19) fp0)), (20, .p (.int .i64 v20)), (21, .p (.int .i64 v21)), (32, .p (.sl (List.map e68 v32) false)), (33, .p (.int .i64 v33)), (34, .p (.int .i64 (IntKind.wrap .i64 (v34 + 1))))], [.cells [.p (.sl (List.map e68 w0) fp0), .mmap 1] 0, .mapS (mapK e81 (mset w1 (v34, v4) r2)) (mapV e2 (mset w1 (v34, v4) r2)) (List.range (List.length (mset w1 (v34, v4) r2))) (List.length (mset w1 (v34, v4) r2)), .cells [.p (.int .i64 w2), .p (.int .i64 w2_1)] 0]⟩) (SemC.post (path hm (σ' := ⟨[(3, .ptr 0 0 2), (4, .p (.int .i64 v4)), (5, .ptr 2 0 2), (19, .p (.sl (List.map e68 v19) fp0)), (20, .p (.int .i64 v20)), (21, .p (.int .i64 v21)), (32, .p (.sl (List.map e68 v32) false)), (33, .p (.int .i64 v33)), (34, .p (.int .i64 (IntKind.wrap .i64 (v34 + 1))))], [.cells [.p (.sl (List.map e68 w0) fp0), .mmap 1] 0, .mapS (mapK e81 (mset w1 (v34, v4) r2)) (mapV e2 (mset w1 (v34, v4) r2)) (List.range (List.length (mset w1 (v34, v4) r2))) (List.length (mset w1 (v34, v4) r2)), .cells [.p (.int .i64 w2), .p (.int .i64 w2_1)] 0, .cells [.p (.int .i64 x1.1), .p (.int .i64 x1.2)] 0]⟩) (ks := [3, 4, 5, 19, 20, 21, 32, 33, 34]) (cc := c9 ++ [.reg [0, 1, 3, 7, 0, 0, 48, 0, 128, 0, 512, 1920, 4095] [(1, 12)] 0 [(11, none, .call (.int .i64 r2)), (12, none, .mp (Int.ofNat (midx w1 (v34, v4))) (mapK e81 (mset w1 (v34, v4) r2)) (mapV e2 (mset w1 (v34, v4) r2)) (List.range (List.length (mset w1 (v34, v4) r2))) (List.length (mset w1 (v34, v4) r2)) .junk)] [3, 4, 5, 19, 20, 21, 32, 33, 34], .reg [] [] 0 [] [3, 4, 5, 19, 20, 21, 32, 33, 34]])
        (ai h1 (ai (sg_map (f := e68) h2) (ai (F61_ok fuel x1.1 w2 _ h3) (ai (eqD_of (k := (v34, v4)) keq81 (rfl)) (ai (keq81.flat (v34, v4)) (ai (find_yes (L := w1) (k := (v34, v4)) keq81 (rfl) (fun _ _ => rfl) h4) (ai (key_at e81 h4) (ai (mapV_set e2 w1 (v34, v4) r2) (ai (mapK_set e81 r2 h4) (ai (range_set w1 (v34, v4) r2) (ai ((mset_len w1 (v34, v4) r2).symm) trivial))))))))))) (by kernel_rfl)) (Weak.sel (E := [(3, .ptr 0 0 2), (4, .p (.int .i64 v4)), (5, .ptr 2 0 2), (19, .p (.sl (List.map e68 v19) fp0)), (20, .p (.int .i64 v20)), (21, .p (.int .i64 v21)), (32, .p (.sl (List.map e68 v32) false)), (33, .p (.int .i64 v33)), (34, .p (.int .i64 (IntKind.wrap .i64 (v34 + 1))))]) (E' := [(3, .ptr 0 0 2), (4, .p (.int .i64 v4)), (5, .ptr 2 0 2), (19, .p (.sl (List.map e68 v19) fp0)), (20, .p (.int .i64 v20)), (21, .p (.int .i64 v21)), (32, .p (.sl (List.map e68 v32) false)), (33, .p (.int .i64 v33)), (34, .p (.int .i64 (IntKind.wrap .i64 (v34 + 1))))]) (H := [.cells [.p (.sl (List.map e68 w0) fp0), .mmap 1] 0, .mapS (mapK e81 (mset w1 (v34, v4) r2)) (mapV e2 (mset w1 (v34, v4) r2)) (List.range (List.length (mset w1 (v34, v4) r2))) (List.length (mset w1 (v34, v4) r2)), .cells [.p (.int .i64 w2), .p (.int .i64 w2_1)] 0, .cells [.p (.int .i64 x1.1), .p (.int .i64 x1.2)] 0]) (H' := [.cells [.p (.sl (List.map e68 w0) fp0), .mmap 1] 0, .mapS (mapK e81 (mset w1 (v34, v4) r2)) (mapV e2 (mset w1 (v34, v4) r2)) (List.range (List.length (mset w1 (v34, v4) r2))) (List.length (mset w1 (v34, v4) r2)), .cells [.p (.int .i64 w2), .p (.int .i64 w2_1)] 0]) [0, 1, 2] (selH_cons (o := .cells [.p (.sl (List.map e68 w0) fp0), .mmap 1] 0) (o' := .cells [.p (.sl (List.map e68 w0) fp0), .mmap 1] 0) (by kernel_rfl) (sel_x (by kernel_rfl)) (selH_cons (o := .mapS (mapK e81 (mset w1 (v34, v4) r2)) (mapV e2 (mset w1 (v34, v4) r2)) (List.range (List.length (mset w1 (v34, v4) r2))) (List.length (mset w1 (v34, v4) r2))) (o' := .mapS (mapK e81 (mset w1 (v34, v4) r2)) (mapV e2 (mset w1 (v34, v4) r2)) (List.range (List.length (mset w1 (v34, v4) r2))) (List.length (mset w1 (v34, v4) r2))) (by kernel_rfl) (by exact rfl) (selH_cons (o := .cells [.p (.int .i64 w2), .p (.int .i64 w2_1)] 0) (o' := .cells [.p (.int .i64 w2), .p (.int .i64 w2_1)] 0) (by kernel_rfl) (sel_x (by kernel_rfl)) trivial))) (by kernel_rfl) (by kernel_rfl))) (L58_2_ok v4 v19 v20 v21 v32 v33 w0 w2 w2_1 fp0 fuel (IntKind.wrap .i64 (v34 + 1)) (mset w1 (v34, v4) r2) _ g4)
      · exact SemJ.again (σ1 := ⟨[(3, .ptr 0 0 2), (4, .p (.int .i64 v4)), (5, .ptr 2 0 2), (19, .p (.sl (List.map e68 v19) fp0)), (20, .p (.int .i64 v20)), (21, .p (.int .i64 v21)), (32, .p (.sl (List.map e68 v32) false)), (33, .p (.int .i64 v33)), (34, .p (.int .i64 (IntKind.wrap .i64 (v34 + 1))))], [.cells [.p (.sl (List.map e68 w0) fp0), .mmap 1] 0, .mapS (mapK e81 (w1 ++ [((v34, v4), r2)])) (mapV e2 (w1 ++ [((v34, v4), r2)])) (List.range (List.length (w1 ++ [((v34, v4), r2)]))) (List.length (w1 ++ [((v34, v4), r2)])), .cells [.p (.int .i64 w2), .p (.int .i64 w2_1)] 0]⟩) (SemC.post (path hm (σ' := ⟨[(3, .ptr 0 0 2), (4, .p (.int .i64 v4)), (5, .ptr 2 0 2), (19, .p (.sl (List.map e68 v19) fp0)), (20, .p (.int .i64 v20)), (21, .p (.int .i64 v21)), (32, .p (.sl (List.map e68 v32) false)), (33, .p (.int .i64 v33)), (34, .p (.int .i64 (IntKind.wrap .i64 (v34 + 1))))], [.cells [.p (.sl (List.map e68 w0) fp0), .mmap 1] 0, .mapS (mapK e81 (w1 ++ [((v34, v4), r2)])) (mapV e2 (w1 ++ [((v34, v4), r2)])) (List.range (List.length (w1 ++ [((v34, v4), r2)]))) (List.length (w1 ++ [((v34, v4), r2)])), .cells [.p (.int .i64 w2), .p (.int .i64 w2_1)] 0, .cells [.p (.int .i64 x1.1), .p (.int .i64 x1.2)] 0]⟩) (ks := [3, 4, 5, 19, 20, 21, 32, 33, 34]) (cc := c9 ++ [.reg [0, 1, 3, 7, 0, 0, 48, 0, 128, 0, 512, 1920, 4095] [(1, 12)] 0 [(11, none, .call (.int .i64 r2)), (12, none, .mp (Int.negSucc 0) (mapK e81 (w1 ++ [((v34, v4), r2)])) (mapV e2 (w1 ++ [((v34, v4), r2)])) (List.range (List.length (w1 ++ [((v34, v4), r2)]))) (List.length (w1 ++ [((v34, v4), r2)])) .junk)] [3, 4, 5, 19, 20, 21, 32, 33, 34], .reg [] [] 0 [] [3, 4, 5, 19, 20, 21, 32, 33, 34]])
        (ai h1 (ai (sg_map (f := e68) h2) (ai (F61_ok fuel x1.1 w2 _ h3) (ai (eqD_of (k := (v34, v4)) keq81 (rfl)) (ai (find_no (L := w1) (k := (v34, v4)) keq81 (rfl) (fun _ _ => rfl) h4) (ai (mapK_snoc e81 w1 (v34, v4) r2) (ai (mapV_snoc e2 w1 (v34, v4) r2) (ai (range_snoc w1 ((v34, v4), r2)) (ai (len_snoc w1 ((v34, v4), r2)) trivial))))))))) (by kernel_rfl)) (Weak.sel (E := [(3, .ptr 0 0 2), (4, .p (.int .i64 v4)), (5, .ptr 2 0 2), (19, .p (.sl (List.map e68 v19) fp0)), (20, .p (.int .i64 v20)), (21, .p (.int .i64 v21)), (32, .p (.sl (List.map e68 v32) false)), (33, .p (.int .i64 v33)), (34, .p (.int .i64 (IntKind.wrap .i64 (v34 + 1))))]) (E' := [(3, .ptr 0 0 2), (4, .p (.int .i64 v4)), (5, .ptr 2 0 2), (19, .p (.sl (List.map e68 v19) fp0)), (20, .p (.int .i64 v20)), (21, .p (.int .i64 v21)), (32, .p (.sl (List.map e68 v32) false)), (33, .p (.int .i64 v33)), (34, .p (.int .i64 (IntKind.wrap .i64 (v34 + 1))))]) (H := [.cells [.p (.sl (List.map e68 w0) fp0), .mmap 1] 0, .mapS (mapK e81 (w1 ++ [((v34, v4), r2)])) (mapV e2 (w1 ++ [((v34, v4), r2)])) (List.range (List.length (w1 ++ [((v34, v4), r2)]))) (List.length (w1 ++ [((v34, v4), r2)])), .cells [.p (.int .i64 w2), .p (.int .i64 w2_1)] 0, .cells [.p (.int .i64 x1.1), .p (.int .i64 x1.2)] 0]) (H' := [.cells [.p (.sl (List.map e68 w0) fp0), .mmap 1] 0, .mapS (mapK e81 (w1 ++ [((v34, v4), r2)])) (mapV e2 (w1 ++ [((v34, v4), r2)])) (List.range (List.length (w1 ++ [((v34, v4), r2)]))) (List.length (w1 ++ [((v34, v4), r2)])), .cells [.p (.int .i64 w2), .p (.int .i64 w2_1)] 0]) [0, 1, 2] (selH_cons (o := .cells [.p (.sl (List.map e68 w0) fp0), .mmap 1] 0) (o' := .cells [.p (.sl (List.map e68 w0) fp0), .mmap 1] 0) (by kernel_rfl) (sel_x (by kernel_rfl)) (selH_cons (o := .mapS (mapK e81 (w1 ++ [((v34, v4), r2)])) (mapV e2 (w1 ++ [((v34, v4), r2)])) (List.range (List.length (w1 ++ [((v34, v4), r2)]))) (List.length (w1 ++ [((v34, v4), r2)]))) (o' := .mapS (mapK e81 (w1 ++ [((v34, v4), r2)])) (mapV e2 (w1 ++ [((v34, v4), r2)])) (List.range (List.length (w1 ++ [((v34, v4), r2)]))) (List.length (w1 ++ [((v34, v4), r2)]))) (by kernel_rfl) (by exact rfl) (selH_cons (o := .cells [.p (.int .i64 w2), .p (.int .i64 w2_1)] 0) (o' := .cells [.p (.int .i64 w2), .p (.int .i64 w2_1)] 0) (by kernel_rfl) (sel_x (by kernel_rfl)) trivial))) (by kernel_rfl) (by kernel_rfl))) (L58_2_ok v4 v19 v20 v21 v32 v33 w0 w2 w2_1 fp0 fuel (IntKind.wrap .i64 (v34 + 1)) (w1 ++ [((v34, v4), r2)]) _ g4)
    · have hr := Option.some.inj g1
      subst hr
      exact SemC.cast (SemJ.out (e := (.exit 2)) (SemC.post (path hm (σ' := ⟨[(3, .ptr 0 0 2), (19, .p (.sl (List.map e68 v19) fp0)), (20, .p (.int .i64 v20)), (21, .p (.int .i64 v21))], [.cells [.p (.sl (List.map e68 w0) fp0), .mmap 1] 0, .mapS (mapK e81 w1) (mapV e2 w1) (List.range (List.length w1)) (List.length w1), .cells [.p (.int .i64 w2), .p (.int .i64 w2_1)] 0]⟩) (ks := [3, 19, 20, 21]) (cc := [.reg [] [] 0 [(0, none, .b false)] [3, 4, 5, 19, 20, 21, 32, 33, 34, 35]])
        (ai h1 trivial) (by kernel_rfl)) (Weak.sel (E := [(3, .ptr 0 0 2), (19, .p (.sl (List.map e68 v19) fp0)), (20, .p (.int .i64 v20)), (21, .p (.int .i64 v21))]) (E' := [(3, .ptr 0 0 2), (19, .p (.sl (List.map e68 v19) fp0)), (20, .p (.int .i64 v20)), (21, .p (.int .i64 v21))]) (H := [.cells [.p (.sl (List.map e68 w0) fp0), .mmap 1] 0, .mapS (mapK e81 w1) (mapV e2 w1) (List.range (List.length w1)) (List.length w1), .cells [.p (.int .i64 w2), .p (.int .i64 w2_1)] 0]) (H' := [.cells [.p (.sl (List.map e68 w0) fp0), .mmap 1] 0, .mapS (mapK e81 w1) (mapV e2 w1) (List.range (List.length w1)) (List.length w1)]) [0, 1] (selH_cons (o := .cells [.p (.sl (List.map e68 w0) fp0), .mmap 1] 0) (o' := .cells [.p (.sl (List.map e68 w0) fp0), .mmap 1] 0) (by kernel_rfl) (sel_x (by kernel_rfl)) (selH_cons (o := .mapS (mapK e81 w1) (mapV e2 w1) (List.range (List.length w1)) (List.length w1)) (o' := .mapS (mapK e81 w1) (mapV e2 w1) (List.range (List.length w1)) (List.length w1)) (by kernel_rfl) (by exact rfl) trivial)) (by kernel_rfl) (by kernel_rfl))) (by simp)) (by kernel_rfl) (by kernel_rfl)
def L58_0  (v19 : (List (Int × Int))) (v20 : Int) (w0 : (List (Int × Int))) : Nat → Int → (List ((Int × Int) × Int)) → Option (List ((Int × Int) × Int))
  | 0, _, _ => none
  | fuel + 1, v21, w1 =>
    oif ((decide (v21 < v20)))
    (obind (sg v19 v21) fun x1 => obind (subL w0 none (some v21)) fun x2 => obind (L58_2 v21 v19 v20 v21 x2 (x2.length : Int) w0 x1.1 x1.2 fuel 0 w1) fun y3 => L58_0 v19 v20 w0 fuel (IntKind.wrap .i64 (v21 + 1)) y3)
    (some (w1))
noncomputable def L58_0_post (v19 : (List (Int × Int))) (v20 : Int) (w0 : (List (Int × Int))) (fp0 : Bool) : (List ((Int × Int) × Int)) → Ex × St
  | y => ((.exit 0), ⟨[(3, .ptr 0 0 2)], [.cells [.p (.sl (List.map e68 w0) fp0), .mmap 1] 0, .mapS (mapK e81 y) (mapV e2 y) (List.range (List.length y)) (List.length y)]⟩)
theorem L58_0_ok  (v19 : (List (Int × Int))) (v20 : Int) (w0 : (List (Int × Int))) (fp0 : Bool) : ∀ (fuel : Nat) (v21 : Int) (w1 : (List ((Int × Int) × Int))) (r : (List ((Int × Int) × Int))), L58_0 v19 v20 w0 fuel v21 w1 = some r →
    SemJ prog ⟨93, 0, false⟩ (codeAt [1, 1, 0, 1, 0, 0] (bodyOf f58)) ⟨[(3, .ptr 0 0 2), (19, .p (.sl (List.map e68 v19) fp0)), (20, .p (.int .i64 v20)), (21, .p (.int .i64 v21))], [.cells [.p (.sl (List.map e68 w0) fp0), .mmap 1] 0, .mapS (mapK e81 w1) (mapV e2 w1) (List.range (List.length w1)) (List.length w1)]⟩ (L58_0_post v19 v20 w0 fp0 r).1 (L58_0_post v19 v20 w0 fp0 r).2
  | 0, _, _, _, h => nomatch h
  | fuel + 1, v21, w1, r, h => by
    unfold L58_0 at h
    refine oif_elim h (fun h1 g1 => ?_) (fun h1 g1 => ?_)
    · refine obind_elim g1 fun x1 h2 g2 => ?_
      refine obind_elim g2 fun x2 h3 g3 => ?_
      refine obind_elim g3 fun y3 h4 g4 => ?_
      exact SemJ.again (σ1 := ⟨[(3, .ptr 0 0 2), (19, .p (.sl (List.map e68 v19) fp0)), (20, .p (.int .i64 v20)), (21, .p (.int .i64 (IntKind.wrap .i64 (v21 + 1))))], [.cells [.p (.sl (List.map e68 w0) fp0), .mmap 1] 0, .mapS (mapK e81 y3) (mapV e2 y3) (List.range (List.length y3)) (List.length y3)]⟩) (path hm (σ' := ⟨[(3, .ptr 0 0 2), (19, .p (.sl (List.map e68 v19) fp0)), (20, .p (.int .i64 v20)), (21, .p (.int .i64 (IntKind.wrap .i64 (v21 + 1))))], [.cells [.p (.sl (List.map e68 w0) fp0), .mmap 1] 0, .mapS (mapK e81 y3) (mapV e2 y3) (List.range (List.length y3)) (List.length y3)]⟩) (ks := [3, 19, 20, 21]) (cc := [.reg [] [] 0 [(0, none, .b true)] [3, 19, 20, 21, 22], .reg [] [] 1 [(1, none, .iv (.p (.agg [.int .i64 x1.1, .int .i64 x1.2]))), (3, some 2, .a)] [3, 4, 5, 19, 20, 21], .reg [] [] 0 [(6, none, .pvs (List.map e68 x2)), (7, none, .n (x2.length : Int))] [3, 4, 5, 19, 20, 21, 32, 33, 34], .leaf (.exit 2) ⟨[(3, .ptr 0 0 2), (19, .p (.sl (List.map e68 v19) fp0)), (20, .p (.int .i64 v20)), (21, .p (.int .i64 v21))], [.cells [.p (.sl (List.map e68 w0) fp0), .mmap 1] 0, .mapS (mapK e81 y3) (mapV e2 y3) (List.range (List.length y3)) (List.length y3)]⟩, .reg [] [] 0 [] [3, 19, 20, 21]])
        (ai h1 (ai (sg_map (f := e68) h2) (ai (sub_eq e68 h3) (ai (row_es el68 w0) (ai (sub_hi0 h3) (ai (sub_hi1 e68 h3) (ai (len_map e68 x2) (ai (SemJ.loop (L58_2_ok v21 v19 v20 v21 x2 (x2.length : Int) w0 x1.1 x1.2 fp0 fuel 0 w1 _ h4)) trivial)))))))) (by kernel_rfl)) (L58_0_ok v19 v20 w0 fp0 fuel (IntKind.wrap .i64 (v21 + 1)) y3 _ g4)
    · have hr := Option.some.inj g1
      subst hr
      exact SemC.cast (SemJ.out (e := (.exit 0)) (path hm (σ' := ⟨[(3, .ptr 0 0 2)], [.cells [.p (.sl (List.map e68 w0) fp0), .mmap 1] 0, .mapS (mapK e81 w1) (mapV e2 w1) (List.range (List.length w1)) (List.length w1)]⟩) (ks := [3]) (cc := [.reg [] [] 0 [(0, none, .b false)] [3, 19, 20, 21, 22]])
        (ai h1 trivial) (by kernel_rfl)) (by simp)) (by kernel_rfl) (by kernel_rfl)
def B58_3 (fuel : Nat) (u0 : (List (Int × Int))) (k : (Int × Int)) (v : Int) (s : (List ((Int × Int) × Int))) : Option ((List ((Int × Int) × Int)) ⊕ (List ((Int × Int) × Int))) :=
  obind (sg u0 k.1) fun x1 => obind (sg u0 k.2) fun x2 => oif (decide (v ≠ 0)) (oif (((Int.tmod (IntKind.wrap .i64 (x1.2 - x2.2)) v) == 0))
  (oif (mhas s (k.1, k.2))
    (some (.inl (mdel s (k.1, k.2))))
    (some (.inl s)))
  (some (.inl s))) none
def Z58_3 (fuel : Nat) (u0 : (List (Int × Int))) (s : (List ((Int × Int) × Int))) : Option (List ((Int × Int) × Int)) :=
  some (s)
noncomputable def L58_3_post (u0 : (List (Int × Int))) (fp0 : Bool) : (List ((Int × Int) × Int)) → Ex × St
  | y => ((.exit 4), ⟨[(3, .ptr 0 0 2)], [.cells [.p (.sl (List.map e68 u0) fp0), .mmap 1] 0, .map (mapK e81 y) (mapV e2 y)]⟩)
theorem L58_3_ind (fuel : Nat) (u0 : (List (Int × Int))) (p q : List ((Int × Int) × Int)) (s : (List ((Int × Int) × Int))) (r : (List ((Int × Int) × Int))) (hp : p.Perm q) (hn : (q.map (·.1)).Nodup) (h : mfold (B58_3 fuel u0) (Z58_3 fuel u0) q s = some r) : mfold (B58_3 fuel u0) (Z58_3 fuel u0) p s = some r := by
  refine mfold_filter (fun k v => obind (sg u0 k.1) fun x1 => obind (sg u0 k.2) fun x2 => oif (decide (v ≠ 0)) (some ((Int.tmod (IntKind.wrap .i64 (x1.2 - x2.2)) v) == 0)) none) (fun s => true) (fun k v s => ?_) (fun s k hs => rfl) hp s r hn h
  unfold B58_3
  cases sg u0 k.1 with
  | none => rfl
  | some x1 =>
    cases sg u0 k.2 with
    | none => rfl
    | some x2 =>
      simp only [obind_some]
      cases decide (v ≠ 0) with
      | false => rfl
      | true =>
        simp only [oif_t, obind_some]
        cases ((Int.tmod (IntKind.wrap .i64 (x1.2 - x2.2)) v) == 0) with
        | false => rfl
        | true =>
          simp only [oif_t]
          cases hm : mhas s (k.1, k.2) with
          | true => rfl
          | false => rw [mdel_not s k hm]; rfl
theorem L58_3_ok (fuel : Nat) (u0 : (List (Int × Int))) (fp0 : Bool) (s0 : (List ((Int × Int) × Int))) (r : (List ((Int × Int) × Int))) (hn : (List.map (·.1) s0).Nodup) (h : mfold (B58_3 fuel u0) (Z58_3 fuel u0) s0 s0 = some r) :
    SemJ prog ⟨93, 0, false⟩ (codeAt [1, 1, 1, 0, 1, 0, 0] (bodyOf f58)) ⟨[(3, .ptr 0 0 2), (57, .iter 2)], [.cells [.p (.sl (List.map e68 u0) fp0), .mmap 1] 0, .mapS (mapK e81 s0) (mapV e2 s0) (List.range (List.length s0)) (List.length s0), .iter 1 ([] : List Nat) (List.length s0)]⟩ (L58_3_post u0 fp0 r).1 (L58_3_post u0 fp0 r).2 := by
  refine mapLoop (ek := e81) (ev := e2) (ti := 57) (d0 := 58) (d1 := 59) (li := 2) (m := 1) (c := List.length s0) (rest := codeAt [1, 1, 1, 0, 1, 0, 0, 1] (bodyOf f58)) (body := B58_3 fuel u0) (fin := Z58_3 fuel u0) (fun s => s) (fun s => [(3, .ptr 0 0 2), (57, .iter 2)]) (fun s x B => [.cells [.p (.sl (List.map e68 u0) fp0), .mmap 1] 0, .mapS (mapK e81 s) (mapV e2 s) B (List.length s0), .iter 1 x (List.length s0)]) (L58_3_post u0 fp0) (by kernel_rfl) (by kernel_rfl) (by kernel_rfl) (fun s => by kernel_rfl) (fun s x B => by kernel_rfl) (fun s x B => by kernel_rfl) (fun s x B y => by kernel_rfl) ?_ ?_ ?_ (List.length s0) s0 [] (List.range (List.length s0)) r s0 rfl ⟨by simp, List.nodup_range, hn, by unfold leftM; rw [leftM_nil]⟩ (fun p hp => L58_3_ind fuel u0 p s0 s0 r hp hn h)
  · clear h hn
    generalize List.length s0 = c
    intro s x B r h
    unfold Z58_3 at h
    cases h; exact SemC.cast (SemK.out (e := (.exit 4)) (SemC.post (path hm (σ' := ⟨[(3, .ptr 0 0 2)], [.cells [.p (.sl (List.map e68 u0) fp0), .mmap 1] 0, .mapS (mapK e81 s) (mapV e2 s) B c, .iter 1 x c]⟩) (ks := [3]) (cc := [])
        trivial (by kernel_rfl)) (Weak.trans (Weak.forget (E := [(3, .ptr 0 0 2)]) (H := [.cells [.p (.sl (List.map e68 u0) fp0), .mmap 1] 0, .mapS (mapK e81 s) (mapV e2 s) B c, .iter 1 x c]) (H' := [.cells [.p (.sl (List.map e68 u0) fp0), .mmap 1] 0, .map (mapK e81 s) (mapV e2 s), .iter 1 x c]) (l := 1) (ks := mapK e81 s) (vs := mapV e2 s) (bs := B) (c := c) (by kernel_rfl) (by kernel_rfl)) (Weak.sel (E := [(3, .ptr 0 0 2)]) (E' := [(3, .ptr 0 0 2)]) (H := [.cells [.p (.sl (List.map e68 u0) fp0), .mmap 1] 0, .map (mapK e81 s) (mapV e2 s), .iter 1 x c]) (H' := [.cells [.p (.sl (List.map e68 u0) fp0), .mmap 1] 0, .map (mapK e81 s) (mapV e2 s)]) [0, 1] (selH_cons (o := .cells [.p (.sl (List.map e68 u0) fp0), .mmap 1] 0) (o' := .cells [.p (.sl (List.map e68 u0) fp0), .mmap 1] 0) (by kernel_rfl) (sel_x (by kernel_rfl)) (selH_cons (o := .map (mapK e81 s) (mapV e2 s)) (o' := .map (mapK e81 s) (mapV e2 s)) (by kernel_rfl) (by exact rfl) trivial)) (by kernel_rfl) (by kernel_rfl)))) (by simp)) (by kernel_rfl) (by kernel_rfl)
  · clear h hn
    generalize List.length s0 = c
    intro k v s x B j st s' hj hB h
    unfold B58_3 at h
    refine obind_elim h fun x1 h1 g1 => ?_
    refine obind_elim g1 fun x2 h2 g2 => ?_
    refine oif_elim g2 (fun h3 g3 => ?_) (fun _ h => nomatch h)
    let c10 : List CC := [.reg [] [] 1 [(0, none, .mp (Int.ofNat j) [.agg [.int .i64 k.1, .int .i64 k.2]] [] [] 0 (.int .i64 v)), (3, some 3, .a)] [3, 8, 9, 57]]
    have q11 := fun {P : Prop} (t : P) => ai (rl c) (ai (mapK_at e81 hj) (ai (mapV_at e2 hj) t))
    have q12 := fun {P : Prop} (t : P) => ai (sg_map (f := e68) h1) (ai (sg_map (f := e68) h2) (ai (od h3) t))
    refine oif_elim g3 (fun h4 g4 => ?_) (fun h4 g4 => ?_)
    · let c13 : List CC := c10 ++ [.reg [0, 1, 3, 7, 15, 0, 32, 127, 255, 511, 0, 1024, 3072, 7168, 15360, 0, 32768, 130048, 261120, 523264, 1048575, 0, 4194303, 8388607] [] 0 [(7, none, .iv (.p (.agg [.int .i64 x1.1, .int .i64 x1.2]))), (17, none, .iv (.p (.agg [.int .i64 x2.1, .int .i64 x2.2]))), (23, none, .b true)] [3, 8, 57, 86]]
      refine oif_elim g4 (fun h5 g5 => ?_) (fun h5 g5 => ?_)
      · cases g5; exact ⟨(List.eraseIdx B (midx s (k.1, k.2))), SemC.cast (SemC.post (path hm (σ' := ⟨[(3, .ptr 0 0 2), (57, .iter 2)], [.cells [.p (.sl (List.map e68 u0) fp0), .mmap 1] 0, .mapS (mapK e81 (mdel s (k.1, k.2))) (mapV e2 (mdel s (k.1, k.2))) (List.eraseIdx B (midx s (k.1, k.2))) c, .iter 1 (x ++ [st]) c, .cells [.p (.int .i64 k.1), .p (.int .i64 k.2)] 0]⟩) (ks := [3, 57]) (cc := c13 ++ [.reg [0, 1, 3, 7, 0, 31] [(1, 5)] 0 [(5, none, .mp (Int.ofNat (midx s (k.1, k.2))) (mapK e81 (mdel s (k.1, k.2))) (mapV e2 (mdel s (k.1, k.2))) (List.eraseIdx B (midx s (k.1, k.2))) 0 .junk)] [3, 57]])
        (q11 (ai (⟨st, hB, last_snoc⟩ : ∃ b, B[j]? = some b ∧ (x ++ [st]).getLast? = some b) (q12 (ai h4 (ai (eqD_of (k := (k.1, k.2)) keq81 (rfl)) (ai (find_yes (L := s) (k := (k.1, k.2)) keq81 (rfl) (fun _ _ => rfl) h5) (ai (mapK_del e81 s (k.1, k.2)) (ai (mapV_del e2 s (k.1, k.2)) (ai (rl (List.eraseIdx B (midx s (k.1, k.2)))) trivial))))))))) (by kernel_rfl)) (Weak.sel (E := [(3, .ptr 0 0 2), (57, .iter 2)]) (E' := [(3, .ptr 0 0 2), (57, .iter 2)]) (H := [.cells [.p (.sl (List.map e68 u0) fp0), .mmap 1] 0, .mapS (mapK e81 (mdel s (k.1, k.2))) (mapV e2 (mdel s (k.1, k.2))) (List.eraseIdx B (midx s (k.1, k.2))) c, .iter 1 (x ++ [st]) c, .cells [.p (.int .i64 k.1), .p (.int .i64 k.2)] 0]) (H' := [.cells [.p (.sl (List.map e68 u0) fp0), .mmap 1] 0, .mapS (mapK e81 (mdel s (k.1, k.2))) (mapV e2 (mdel s (k.1, k.2))) (List.eraseIdx B (midx s (k.1, k.2))) c, .iter 1 (x ++ [st]) c]) [0, 1, 2] (selH_cons (o := .cells [.p (.sl (List.map e68 u0) fp0), .mmap 1] 0) (o' := .cells [.p (.sl (List.map e68 u0) fp0), .mmap 1] 0) (by kernel_rfl) (sel_x (by kernel_rfl)) (selH_cons (o := .mapS (mapK e81 (mdel s (k.1, k.2))) (mapV e2 (mdel s (k.1, k.2))) (List.eraseIdx B (midx s (k.1, k.2))) c) (o' := .mapS (mapK e81 (mdel s (k.1, k.2))) (mapV e2 (mdel s (k.1, k.2))) (List.eraseIdx B (midx s (k.1, k.2))) c) (by kernel_rfl) (by exact rfl) (selH_cons (o := .iter 1 (x ++ [st]) c) (o' := .iter 1 (x ++ [st]) c) (by kernel_rfl) (sel_iter (by kernel_rfl)) trivial))) (by kernel_rfl) (by kernel_rfl))) rfl (by kernel_rfl), .inr ⟨rfl, rfl⟩⟩
      · cases g5; exact ⟨B, SemC.cast (SemC.post (path hm (σ' := ⟨[(3, .ptr 0 0 2), (57, .iter 2)], [.cells [.p (.sl (List.map e68 u0) fp0), .mmap 1] 0, .mapS (mapK e81 s) (mapV e2 s) B c, .iter 1 (x ++ [st]) c, .cells [.p (.int .i64 k.1), .p (.int .i64 k.2)] 0]⟩) (ks := [3, 57]) (cc := c13 ++ [.reg [0, 1, 3, 7, 0, 31] [(1, 5)] 0 [(5, none, .mp (Int.negSucc 0) [] [] [] 0 .junk)] [3, 57]])
        (q11 (ai (⟨st, hB, last_snoc⟩ : ∃ b, B[j]? = some b ∧ (x ++ [st]).getLast? = some b) (q12 (ai h4 (ai (eqD_of (k := (k.1, k.2)) keq81 (rfl)) (ai (find_no (L := s) (k := (k.1, k.2)) keq81 (rfl) (fun _ _ => rfl) h5) trivial)))))) (by kernel_rfl)) (Weak.sel (E := [(3, .ptr 0 0 2), (57, .iter 2)]) (E' := [(3, .ptr 0 0 2), (57, .iter 2)]) (H := [.cells [.p (.sl (List.map e68 u0) fp0), .mmap 1] 0, .mapS (mapK e81 s) (mapV e2 s) B c, .iter 1 (x ++ [st]) c, .cells [.p (.int .i64 k.1), .p (.int .i64 k.2)] 0]) (H' := [.cells [.p (.sl (List.map e68 u0) fp0), .mmap 1] 0, .mapS (mapK e81 s) (mapV e2 s) B c, .iter 1 (x ++ [st]) c]) [0, 1, 2] (selH_cons (o := .cells [.p (.sl (List.map e68 u0) fp0), .mmap 1] 0) (o' := .cells [.p (.sl (List.map e68 u0) fp0), .mmap 1] 0) (by kernel_rfl) (sel_x (by kernel_rfl)) (selH_cons (o := .mapS (mapK e81 s) (mapV e2 s) B c) (o' := .mapS (mapK e81 s) (mapV e2 s) B c) (by kernel_rfl) (by exact rfl) (selH_cons (o := .iter 1 (x ++ [st]) c) (o' := .iter 1 (x ++ [st]) c) (by kernel_rfl) (sel_iter (by kernel_rfl)) trivial))) (by kernel_rfl) (by kernel_rfl))) rfl (by kernel_rfl), .inl ⟨rfl, rfl⟩⟩
    · cases g4; exact ⟨B, SemC.cast (SemC.post (path hm (σ' := ⟨[(3, .ptr 0 0 2), (57, .iter 2)], [.cells [.p (.sl (List.map e68 u0) fp0), .mmap 1] 0, .mapS (mapK e81 s) (mapV e2 s) B c, .iter 1 (x ++ [st]) c, .cells [.p (.int .i64 k.1), .p (.int .i64 k.2)] 0]⟩) (ks := [3, 57]) (cc := c10 ++ [.reg [0, 1, 3, 7, 15, 0, 32, 127, 255, 511, 0, 1024, 3072, 7168, 15360, 0, 32768, 130048, 261120, 523264, 1048575, 0, 4194303, 8388607] [] 0 [(7, none, .iv (.p (.agg [.int .i64 x1.1, .int .i64 x1.2]))), (17, none, .iv (.p (.agg [.int .i64 x2.1, .int .i64 x2.2]))), (23, none, .b false)] [3, 8, 57, 86]])
        (q11 (ai (⟨st, hB, last_snoc⟩ : ∃ b, B[j]? = some b ∧ (x ++ [st]).getLast? = some b) (q12 (ai h4 trivial)))) (by kernel_rfl)) (Weak.sel (E := [(3, .ptr 0 0 2), (57, .iter 2)]) (E' := [(3, .ptr 0 0 2), (57, .iter 2)]) (H := [.cells [.p (.sl (List.map e68 u0) fp0), .mmap 1] 0, .mapS (mapK e81 s) (mapV e2 s) B c, .iter 1 (x ++ [st]) c, .cells [.p (.int .i64 k.1), .p (.int .i64 k.2)] 0]) (H' := [.cells [.p (.sl (List.map e68 u0) fp0), .mmap 1] 0, .mapS (mapK e81 s) (mapV e2 s) B c, .iter 1 (x ++ [st]) c]) [0, 1, 2] (selH_cons (o := .cells [.p (.sl (List.map e68 u0) fp0), .mmap 1] 0) (o' := .cells [.p (.sl (List.map e68 u0) fp0), .mmap 1] 0) (by kernel_rfl) (sel_x (by kernel_rfl)) (selH_cons (o := .mapS (mapK e81 s) (mapV e2 s) B c) (o' := .mapS (mapK e81 s) (mapV e2 s) B c) (by kernel_rfl) (by exact rfl) (selH_cons (o := .iter 1 (x ++ [st]) c) (o' := .iter 1 (x ++ [st]) c) (by kernel_rfl) (sel_iter (by kernel_rfl)) trivial))) (by kernel_rfl) (by kernel_rfl))) rfl (by kernel_rfl), .inl ⟨rfl, rfl⟩⟩
  · clear h hn
    generalize List.length s0 = c
    intro k v s x B j st r hj hB h
    unfold B58_3 at h
    refine obind_elim h fun x1 h1 g1 => ?_
    refine obind_elim g1 fun x2 h2 g2 => ?_
    refine oif_elim g2 (fun h3 g3 => ?_) (fun _ h => nomatch h)
    let c14 : List CC := [.reg [] [] 1 [(0, none, .mp (Int.ofNat j) [.agg [.int .i64 k.1, .int .i64 k.2]] [] [] 0 (.int .i64 v)), (3, some 3, .a)] [3, 8, 9, 57]]
    have q15 := fun {P : Prop} (t : P) => ai (rl c) (ai (mapK_at e81 hj) (ai (mapV_at e2 hj) t))
    have q16 := fun {P : Prop} (t : P) => ai (sg_map (f := e68) h1) (ai (sg_map (f := e68) h2) (ai (od h3) t))
    refine oif_elim g3 (fun h4 g4 => ?_) (fun h4 g4 => ?_)
    · let c17 : List CC := c14 ++ [.reg [0, 1, 3, 7, 15, 0, 32, 127, 255, 511, 0, 1024, 3072, 7168, 15360, 0, 32768, 130048, 261120, 523264, 1048575, 0, 4194303, 8388607] [] 0 [(7, none, .iv (.p (.agg [.int .i64 x1.1, .int .i64 x1.2]))), (17, none, .iv (.p (.agg [.int .i64 x2.1, .int .i64 x2.2]))), (23, none, .b true)] [3, 8, 57, 86]]
      refine oif_elim g4 (fun h5 g5 => ?_) (fun h5 g5 => ?_)
      · cases g5
      · cases g5
    · cases g4
def F58  (fuel : Nat) (p0 : (List (Int × Int))) : Option (List ((Int × Int) × Int)) :=
  obind (L58_0 p0 (p0.length : Int) p0 fuel 0 ([] : List ((Int × Int) × Int))) fun y1 => oif (decide (List.Nodup (List.map Prod.fst y1))) (obind (mfold (B58_3 fuel p0) (Z58_3 fuel p0) y1 y1) fun y2 => some y2) none
def F58_post (p0 : (List (Int × Int))) (fp0 : Bool) : (List ((Int × Int) × Int)) → PV
  | y => .ref [.sl (List.map e68 p0) false, .map (mapK e81 y) (mapV e2 y)]
theorem F58_ok  (fuel : Nat) (p0 : (List (Int × Int))) (fp0 : Bool) (r : (List ((Int × Int) × Int))) (h : F58 fuel p0 = some r) : CallP prog 58 [.sl (List.map e68 p0) fp0] (F58_post p0 fp0 r) := by
  unfold F58 at h
  refine obind_elim h fun y1 h1 g1 => ?_
  refine oif_elim g1 (fun h2 g2 => ?_) (fun _ h => nomatch h)
  refine obind_elim g2 fun y2 h3 g3 => ?_
  have hr := Option.some.inj g3
  subst hr
  exact callP_of is58 rfl (path hm (ks := [2]) (σ' := ⟨[(2, .ptr 0 0 2)], [.cells [.p (.sl (List.map e68 p0) fp0), .mmap 1] 0, .map (mapK e81 y2) (mapV e2 y2)]⟩) (cc := [.reg [] [] 0 [] [0], .reg [] [] 2 [(2, some 0, .a), (4, some 1, .a)] [3], .reg [] [] 0 [(5, none, .n (p0.length : Int))] [3, 19, 20, 21], .leaf (.exit 0) ⟨[(3, .ptr 0 0 2)], [.cells [.p (.sl (List.map e68 p0) fp0), .mmap 1] 0, .mapS (mapK e81 y1) (mapV e2 y1) (List.range (List.length y1)) (List.length y1)]⟩, .reg [] [] 1 [(4, some 2, .a)] [3, 57], .leaf (.exit 4) ⟨[(3, .ptr 0 0 2)], [.cells [.p (.sl (List.map e68 p0) fp0), .mmap 1] 0, .map (mapK e81 y2) (mapV e2 y2)]⟩, .reg [] [] 0 [] [2]])
      (ai (len_map e68 p0) (ai (SemC.pre (σ := ⟨[(3, .ptr 1 0 2), (19, .p (.sl (List.map e68 p0) fp0)), (20, .p (.int .i64 (p0.length : Int))), (21, .p (.int .i64 0))], [.mapS (mapK e81 ([] : List ((Int × Int) × Int))) (mapV e2 ([] : List ((Int × Int) × Int))) (List.range (List.length ([] : List ((Int × Int) × Int)))) (List.length ([] : List ((Int × Int) × Int))), .cells [.p (.sl (List.map e68 p0) fp0), .mmap 0] 0]⟩) (SemJ.loop (L58_0_ok p0 (p0.length : Int) p0 fp0 fuel 0 ([] : List ((Int × Int) × Int)) _ h1)) (Weak.sel (E := [(3, .ptr 1 0 2), (19, .p (.sl (List.map e68 p0) fp0)), (20, .p (.int .i64 (p0.length : Int))), (21, .p (.int .i64 0))]) (E' := [(3, .ptr 0 0 2), (19, .p (.sl (List.map e68 p0) fp0)), (20, .p (.int .i64 (p0.length : Int))), (21, .p (.int .i64 0))]) (H := [.mapS (mapK e81 ([] : List ((Int × Int) × Int))) (mapV e2 ([] : List ((Int × Int) × Int))) (List.range (List.length ([] : List ((Int × Int) × Int)))) (List.length ([] : List ((Int × Int) × Int))), .cells [.p (.sl (List.map e68 p0) fp0), .mmap 0] 0]) (H' := [.cells [.p (.sl (List.map e68 p0) fp0), .mmap 1] 0, .mapS (mapK e81 ([] : List ((Int × Int) × Int))) (mapV e2 ([] : List ((Int × Int) × Int))) (List.range (List.length ([] : List ((Int × Int) × Int)))) (List.length ([] : List ((Int × Int) × Int)))]) [1, 0] (selH_cons (o := .cells [.p (.sl (List.map e68 p0) fp0), .mmap 0] 0) (o' := .cells [.p (.sl (List.map e68 p0) fp0), .mmap 1] 0) (by kernel_rfl) (sel_x (by kernel_rfl)) (selH_cons (o := .mapS (mapK e81 ([] : List ((Int × Int) × Int))) (mapV e2 ([] : List ((Int × Int) × Int))) (List.range (List.length ([] : List ((Int × Int) × Int)))) (List.length ([] : List ((Int × Int) × Int)))) (o' := .mapS (mapK e81 ([] : List ((Int × Int) × Int))) (mapV e2 ([] : List ((Int × Int) × Int))) (List.range (List.length ([] : List ((Int × Int) × Int)))) (List.length ([] : List ((Int × Int) × Int)))) (by kernel_rfl) (by exact rfl) trivial)) (by kernel_rfl) (by kernel_rfl))) (ai (SemJ.loop (L58_3_ok fuel p0 fp0 y1 _ (od h2) h3)) trivial))) (by kernel_rfl)) (e := .ret) rfl (vs := [.ptr 0 0 2]) trivial (by kernel_rfl) (.ptr 0 0 2 [.p (.sl (List.map e68 p0) fp0), .mmap 1] 0 [.sl (List.map e68 p0) false, .map (mapK e81 y2) (mapV e2 y2)] (by kernel_rfl) (by kernel_rfl) (.cons _ _ _ _ (.p _ _ (.flag _ _ _ (fun h => nomatch h))) (.cons _ _ _ _ (.mmap 1 (mapK e81 y2) (mapV e2 y2) (by kernel_rfl)) .nil)))
def F38  (fuel : Nat) (p0 : (List (Int × Int))) (p1 : (List Int)) : Option (Int ⊕ (List ((Int × Int) × Int))) :=
  obind (F12 fuel p0) fun r1 => oif ((r1 != 0))
  (some (.inl r1))
  (obind (F43 fuel 0 1000000000000 p1) fun r2 => oif (r2)
    (obind (F58 fuel p0) fun y3 => some (.inr (y3)))
    (some (.inl 3)))
def F38_post (p0 : (List (Int × Int))) (p1 : (List Int)) (fp0 : Bool) (fp1 : Bool) : (Int ⊕ (List ((Int × Int) × Int))) → PV
  | .inl y => .tup [.nilp, .int .i64 y]
  | .inr (y) => .tup [.ref [.sl (List.map e68 p0) false, .map (mapK e81 y) (mapV e2 y)], .int .i64 0]
theorem F38_ok  (fuel : Nat) (p0 : (List (Int × Int))) (p1 : (List Int)) (fp0 : Bool) (fp1 : Bool) (r : (Int ⊕ (List ((Int × Int) × Int)))) (h : F38 fuel p0 p1 = some r) : CallP prog 38 [.sl (List.map e68 p0) fp0, .sl (List.map e2 p1) fp1] (F38_post p0 p1 fp0 fp1 r) := by
  unfold F38 at h
  refine obind_elim h fun r1 h1 g1 => ?_
  let c18 : List CC := [.reg [] [] 0 [] [0, 1], .reg [] [] 0 [(1, none, .call (.int .i64 r1))] [0, 1, 6]]
  refine oif_elim g1 (fun h2 g2 => ?_) (fun h2 g2 => ?_)
  · have hr := Option.some.inj g2
    subst hr
    exact callP_of is38 rfl (path hm (ks := [4, 5]) (σ' := ⟨[(4, .p (.nilp)), (5, .p (.int .i64 r1))], []⟩) (cc := c18 ++ [.reg [] [] 0 [(1, none, .b true)] [0, 1, 6, 9], .reg [] [] 0 [] [4, 5]])
      (ai (F12_ok fuel p0 fp0 _ h1) (ai h2 trivial)) (by kernel_rfl)) (e := .ret) rfl (vs := [.p (.nilp), .p (.int .i64 r1)]) trivial (by kernel_rfl) (.tup _ _ (.cons _ _ _ _ (.p _ _ (.refl _)) (.cons _ _ _ _ (.p _ _ (.refl _)) .nil)))
  · refine obind_elim g2 fun r2 h3 g3 => ?_
    refine oif_elim g3 (fun h4 g4 => ?_) (fun h4 g4 => ?_)
    · subst h4
      refine obind_elim g4 fun y3 h5 g5 => ?_
      have hr := Option.some.inj g5
      subst hr
      exact callP_of is38 rfl (path hm (ks := [4, 5]) (σ' := ⟨[(4, .p (.ref [.sl (List.map e68 p0) false, .map (mapK e81 y3) (mapV e2 y3)])), (5, .p (.int .i64 0))], []⟩) (cc := c18 ++ [.reg [] [] 0 [(1, none, .b false)] [0, 1, 6, 9], .reg [] [] 0 [(1, none, .call (.bool true))] [0, 13], .reg [] [] 0 [(1, none, .call (.ref [.sl (List.map e68 p0) false, .map (mapK e81 y3) (mapV e2 y3)]))] [4, 5]])
      (ai (F12_ok fuel p0 fp0 _ h1) (ai h2 (ai (F43_ok fuel 0 1000000000000 p1 fp1 _ h3) (ai (F58_ok fuel p0 fp0 _ h5) trivial)))) (by kernel_rfl)) (e := .ret) rfl (vs := [.p (.ref [.sl (List.map e68 p0) false, .map (mapK e81 y3) (mapV e2 y3)]), .p (.int .i64 0)]) trivial (by kernel_rfl) (.tup _ _ (.cons _ _ _ _ (.p _ _ (.refl _)) (.cons _ _ _ _ (.p _ _ (.refl _)) .nil)))
    · subst h4
      have hr := Option.some.inj g4
      subst hr
      exact callP_of is38 rfl (path hm (ks := [4, 5]) (σ' := ⟨[(4, .p (.nilp)), (5, .p (.int .i64 3))], []⟩) (cc := c18 ++ [.reg [] [] 0 [(1, none, .b false)] [0, 1, 6, 9], .reg [] [] 0 [(1, none, .call (.bool false))] [0, 13], .reg [] [] 0 [] [4, 5]])
      (ai (F12_ok fuel p0 fp0 _ h1) (ai h2 (ai (F43_ok fuel 0 1000000000000 p1 fp1 _ h3) trivial))) (by kernel_rfl)) (e := .ret) rfl (vs := [.p (.nilp), .p (.int .i64 3)]) trivial (by kernel_rfl) (.tup _ _ (.cons _ _ _ _ (.p _ _ (.refl _)) (.cons _ _ _ _ (.p _ _ (.refl _)) .nil)))
def L39_0  (v1 : Int) (v9 : (List (Int × Int))) (v10 : Int) (w0 : (List Int)) : Nat → Int → (List Int) → Option (List Int)
  | 0, _, _ => none
  | fuel + 1, v11, w1 =>
    oif ((decide (v11 < v10)))
    (obind (sg v9 v11) fun x1 => oif (decide (x1.1 ≠ 0)) (oif (((Int.tmod (IntKind.wrap .i64 (v1 - x1.2)) x1.1) == 0))
      (oif (decide ((0:Int) ≤ v11)) (oif (decide ((v11 : Int) < ((5 : Nat) : Int))) (obind (sg w1 v11) fun x2 => obind (stL w1 v11 (IntKind.wrap .i64 (x2 + 1))) fun x3 => L39_0 v1 v9 v10 w0 fuel (IntKind.wrap .i64 (v11 + 1)) x3) none) none)
      (L39_0 v1 v9 v10 w0 fuel (IntKind.wrap .i64 (v11 + 1)) w1)) none)
    (some (w1))
noncomputable def L39_0_post (v1 : Int) (v9 : (List (Int × Int))) (v10 : Int) (w0 : (List Int))  : (List Int) → Ex × St
  | y => ((.exit 0), ⟨[(4, .ptr 0 0 (List.length (rowI e3 w0))), (5, .ptr 1 0 (List.length (rowI e3 y)))], [.cells (rowI e3 w0) 0, .cells (rowI e3 y) 0]⟩)
theorem L39_0_ok  (v1 : Int) (v9 : (List (Int × Int))) (v10 : Int) (w0 : (List Int))  : ∀ (fuel : Nat) (v11 : Int) (w1 : (List Int)) (r : (List Int)), L39_0 v1 v9 v10 w0 fuel v11 w1 = some r →
    SemJ prog ⟨31, 0, false⟩ (codeAt [1, 1, 0, 1, 0, 0] (bodyOf f39)) ⟨[(1, .p (.int .i64 v1)), (4, .ptr 0 0 (List.length (rowI e3 w0))), (5, .ptr 1 0 (List.length (rowI e3 w1))), (9, .p (.sl (List.map e68 v9) false)), (10, .p (.int .i64 v10)), (11, .p (.int .i64 v11))], [.cells (rowI e3 w0) 0, .cells (rowI e3 w1) 0]⟩ (L39_0_post v1 v9 v10 w0 r).1 (L39_0_post v1 v9 v10 w0 r).2
  | 0, _, _, _, h => nomatch h
  | fuel + 1, v11, w1, r, h => by
    unfold L39_0 at h
    refine oif_elim h (fun h1 g1 => ?_) (fun h1 g1 => ?_)
    · refine obind_elim g1 fun x1 h2 g2 => ?_
      refine oif_elim g2 (fun h3 g3 => ?_) (fun _ h => nomatch h)
      let c19 : List CC := [.reg [] [] 0 [(0, none, .b true)] [1, 4, 5, 9, 10, 11, 12], .reg [] [] 1 [(1, none, .iv (.p (.agg [.int .i64 x1.1, .int .i64 x1.2]))), (3, some 2, .a)] [1, 4, 5, 6, 7, 9, 10, 11]]
      refine oif_elim g3 (fun h4 g4 => ?_) (fun h4 g4 => ?_)
      · refine oif_elim g4 (fun h5 g5 => ?_) (fun _ h => nomatch h)
        refine oif_elim g5 (fun h6 g6 => ?_) (fun _ h => nomatch h)
        refine obind_elim g6 fun x2 h7 g7 => ?_
        refine obind_elim g7 fun x3 h8 g8 => ?_
        exact SemJ.again (σ1 := ⟨[(1, .p (.int .i64 v1)), (4, .ptr 0 0 (List.length (rowI e3 w0))), (5, .ptr 1 0 (List.length (rowI e3 x3))), (9, .p (.sl (List.map e68 v9) false)), (10, .p (.int .i64 v10)), (11, .p (.int .i64 (IntKind.wrap .i64 (v11 + 1))))], [.cells (rowI e3 w0) 0, .cells (rowI e3 x3) 0]⟩) (SemC.post (path hm (σ' := ⟨[(1, .p (.int .i64 v1)), (4, .ptr 0 0 (List.length (rowI e3 w0))), (5, .ptr 1 0 (List.length (rowI e3 w1))), (9, .p (.sl (List.map e68 v9) false)), (10, .p (.int .i64 v10)), (11, .p (.int .i64 (IntKind.wrap .i64 (v11 + 1))))], [.cells (rowI e3 w0) 0, .cells (rowI e3 x3) 0, .cells [.p (.int .i64 x1.1), .p (.int .i64 x1.2)] 0]⟩) (ks := [1, 4, 5, 9, 10, 11]) (cc := c19 ++ [.reg [] [] 0 [(7, none, .b true)] [1, 4, 5, 6, 9, 10, 11, 23], .reg [] [] 0 [(2, none, .iv (.p (.int .i64 x2))), (5, none, .cs (rowI e3 x3))] [1, 4, 5, 9, 10, 11], .reg [] [] 0 [] [1, 4, 5, 9, 10, 11]])
        (ai h1 (ai (sg_map (f := e68) h2) (ai (od h3) (ai h4 (ai (od h5) (ai (od h6) (ai (rl (List.length (rowI e3 w1))) (ai (row_get el3 h7 rfl) (ai (od h5) (ai (od h6) (ai (rl (List.length (rowI e3 w1))) (ai (Nat.le_trans (row_fit el3 (stL_0 h8) (stL_lt h8)) (Nat.le_of_eq (rl (List.length (rowI e3 w1))))) (ai (row_put el3 h8) trivial))))))))))))) (by kernel_rfl)) (Weak.trans (Weak.sel (E := [(1, .p (.int .i64 v1)), (4, .ptr 0 0 (List.length (rowI e3 w0))), (5, .ptr 1 0 (List.length (rowI e3 w1))), (9, .p (.sl (List.map e68 v9) false)), (10, .p (.int .i64 v10)), (11, .p (.int .i64 (IntKind.wrap .i64 (v11 + 1))))]) (E' := [(1, .p (.int .i64 v1)), (4, .ptr 0 0 (List.length (rowI e3 w0))), (5, .ptr 1 0 (List.length (rowI e3 w1))), (9, .p (.sl (List.map e68 v9) false)), (10, .p (.int .i64 v10)), (11, .p (.int .i64 (IntKind.wrap .i64 (v11 + 1))))]) (H := [.cells (rowI e3 w0) 0, .cells (rowI e3 x3) 0, .cells [.p (.int .i64 x1.1), .p (.int .i64 x1.2)] 0]) (H' := [.cells (rowI e3 w0) 0, .cells (rowI e3 x3) 0]) [0, 1] (selH_cons (o := .cells (rowI e3 w0) 0) (o' := .cells (rowI e3 w0) 0) (by kernel_rfl) sel_row (selH_cons (o := .cells (rowI e3 x3) 0) (o' := .cells (rowI e3 x3) 0) (by kernel_rfl) sel_row trivial)) (by kernel_rfl) (by kernel_rfl)) (Weak.eq (congrArg (fun ZZ : Nat => (⟨[(1, .p (.int .i64 v1)), (4, .ptr 0 0 (List.length (rowI e3 w0))), (5, .ptr 1 0 ZZ), (9, .p (.sl (List.map e68 v9) false)), (10, .p (.int .i64 v10)), (11, .p (.int .i64 (IntKind.wrap .i64 (v11 + 1))))], [.cells (rowI e3 w0) 0, .cells (rowI e3 x3) 0]⟩ : St)) (Eq.symm ((row_setlen el3 h8).trans (rl (List.length (rowI e3 w1))))))))) (L39_0_ok v1 v9 v10 w0 fuel (IntKind.wrap .i64 (v11 + 1)) x3 _ g8)
      · exact SemJ.again (σ1 := ⟨[(1, .p (.int .i64 v1)), (4, .ptr 0 0 (List.length (rowI e3 w0))), (5, .ptr 1 0 (List.length (rowI e3 w1))), (9, .p (.sl (List.map e68 v9) false)), (10, .p (.int .i64 v10)), (11, .p (.int .i64 (IntKind.wrap .i64 (v11 + 1))))], [.cells (rowI e3 w0) 0, .cells (rowI e3 w1) 0]⟩) (SemC.post (path hm (σ' := ⟨[(1, .p (.int .i64 v1)), (4, .ptr 0 0 (List.length (rowI e3 w0))), (5, .ptr 1 0 (List.length (rowI e3 w1))), (9, .p (.sl (List.map e68 v9) false)), (10, .p (.int .i64 v10)), (11, .p (.int .i64 (IntKind.wrap .i64 (v11 + 1))))], [.cells (rowI e3 w0) 0, .cells (rowI e3 w1) 0, .cells [.p (.int .i64 x1.1), .p (.int .i64 x1.2)] 0]⟩) (ks := [1, 4, 5, 9, 10, 11]) (cc := c19 ++ [.reg [] [] 0 [(7, none, .b false)] [1, 4, 5, 6, 9, 10, 11, 23], .reg [] [] 0 [] [1, 4, 5, 9, 10, 11]])
        (ai h1 (ai (sg_map (f := e68) h2) (ai (od h3) (ai h4 trivial)))) (by kernel_rfl)) (Weak.sel (E := [(1, .p (.int .i64 v1)), (4, .ptr 0 0 (List.length (rowI e3 w0))), (5, .ptr 1 0 (List.length (rowI e3 w1))), (9, .p (.sl (List.map e68 v9) false)), (10, .p (.int .i64 v10)), (11, .p (.int .i64 (IntKind.wrap .i64 (v11 + 1))))]) (E' := [(1, .p (.int .i64 v1)), (4, .ptr 0 0 (List.length (rowI e3 w0))), (5, .ptr 1 0 (List.length (rowI e3 w1))), (9, .p (.sl (List.map e68 v9) false)), (10, .p (.int .i64 v10)), (11, .p (.int .i64 (IntKind.wrap .i64 (v11 + 1))))]) (H := [.cells (rowI e3 w0) 0, .cells (rowI e3 w1) 0, .cells [.p (.int .i64 x1.1), .p (.int .i64 x1.2)] 0]) (H' := [.cells (rowI e3 w0) 0, .cells (rowI e3 w1) 0]) [0, 1] (selH_cons (o := .cells (rowI e3 w0) 0) (o' := .cells (rowI e3 w0) 0) (by kernel_rfl) sel_row (selH_cons (o := .cells (rowI e3 w1) 0) (o' := .cells (rowI e3 w1) 0) (by kernel_rfl) sel_row trivial)) (by kernel_rfl) (by kernel_rfl))) (L39_0_ok v1 v9 v10 w0 fuel (IntKind.wrap .i64 (v11 + 1)) w1 _ g4)
    · have hr := Option.some.inj g1
      subst hr
      exact SemC.cast (SemJ.out (e := (.exit 0)) (path hm (σ' := ⟨[(4, .ptr 0 0 (List.length (rowI e3 w0))), (5, .ptr 1 0 (List.length (rowI e3 w1)))], [.cells (rowI e3 w0) 0, .cells (rowI e3 w1) 0]⟩) (ks := [4, 5]) (cc := [.reg [] [] 0 [(0, none, .b false)] [1, 4, 5, 9, 10, 11, 12]])
        (ai h1 trivial) (by kernel_rfl)) (by simp)) (by kernel_rfl) (by kernel_rfl)
def F39  (fuel : Nat) (p0 : (List (Int × Int))) (p1 : Int) : Option (List Int) :=
  obind (L39_0 p1 p0 (p0.length : Int) (List.replicate 5 (0 : Int)) fuel 0 (List.replicate 5 (0 : Int))) fun y1 => oif (decide (List.length y1 = 5)) (oif (decide (List.length (List.replicate 5 (0 : Int)) = 5)) (some y1) none) none
theorem F39_ok  (fuel : Nat) (p0 : (List (Int × Int))) (p1 : Int)  (r : (List Int)) (h : F39 fuel p0 p1 = some r) : CallP prog 39 [.agg [.sl (List.map e68 p0) false], .int .i64 p1] (.agg (rowP e3 r)) := by
  unfold F39 at h
  refine obind_elim h fun y1 h1 g1 => ?_
  refine oif_elim g1 (fun h2 g2 => ?_) (fun _ h => nomatch h)
  refine oif_elim g2 (fun h3 g3 => ?_) (fun _ h => nomatch h)
  have hr := Option.some.inj g3
  subst hr
  exact callP_of is39 rfl (path hm (ks := [4]) (σ' := ⟨[(4, .ptr 0 0 (List.length (rowI e3 (List.replicate 5 (0 : Int)))))], [.cells (rowI e3 y1) 0, .cells (rowI e3 y1) 0]⟩) (cc := [.reg [] [] 1 [(0, none, .imm), (1, some 0, .a)] [1, 2, 4], .reg [] [] 1 [(0, some 1, .a)] [1, 2, 4, 5], .reg [] [] 0 [(2, none, .n (p0.length : Int))] [1, 4, 5, 9, 10, 11], .leaf (.exit 0) ⟨[(4, .ptr 0 0 (List.length (rowI e3 (List.replicate 5 (0 : Int))))), (5, .ptr 1 0 (List.length (rowI e3 y1)))], [.cells (rowI e3 (List.replicate 5 (0 : Int))) 0, .cells (rowI e3 y1) 0]⟩, .reg [] [] 0 [(0, none, .iv (.p (.agg (rowP e3 y1)))), (1, none, .ap (rowI e3 y1) 0 0)] [4]])
      (ai (len_map e68 p0) (ai (SemJ.loop (L39_0_ok p1 p0 (p0.length : Int) (List.replicate 5 (0 : Int)) fuel 0 (List.replicate 5 (0 : Int)) _ h1)) (ai (rl (List.length (rowI e3 y1))) (ai (row_wle el3 (od h2) (rfl : 5 * 1 = 5) (rl (List.length (rowI e3 y1)))) (ai (row_wtake el3 (od h2) (rfl : 5 * 1 = 5)) (ai (row_wlen el3 (od h2) (rfl : 5 * 1 = 5)) (ai (row_scal el3 y1) (ai (rl (List.length (rowI e3 (List.replicate 5 (0 : Int))))) (ai (row_wle el3 (od h3) (rfl : 5 * 1 = 5) (rl (List.length (rowI e3 (List.replicate 5 (0 : Int)))))) (ai (row_putall el3 (od h3) (od h2)) trivial)))))))))) (by kernel_rfl)) (e := .ret) rfl (vs := [.agg (List.take 5 (List.drop 0 (rowI e3 y1)))]) (ai ((row_same el3 (od h3) (od h2)).trans (rl (List.length (rowI e3 (List.replicate 5 (0 : Int)))))) (ai (row_wle el3 (od h2) (rfl : 5 * 1 = 5) ((row_same el3 (od h3) (od h2)).trans (rl (List.length (rowI e3 (List.replicate 5 (0 : Int))))))) trivial)) (by kernel_rfl) (.agg _ _ ((row_wtake el3 (od h2) (rfl : 5 * 1 = 5)).symm ▸ (SnapL.pure _ (rowP e3 y1))))
def L10_2  (v28 : Int) (w0 : (List Int)) : Nat → Int → (List Int) → Option (List Int)
  | 0, _, _ => none
  | fuel + 1, v29, w1 =>
    oif ((decide (v29 < v28)))
    (oif (decide ((0:Int) ≤ v29)) (oif (decide ((v29 : Int) < ((5 : Nat) : Int))) (obind (sg w0 v29) fun x1 => oif ((decide (x1 > 0)))
      (oif (decide ((0:Int) ≤ (((List.length w1) : Nat) : Int))) (oif (decide (((((List.length w1) : Nat) : Int) : Int) ≤ (((List.length w1) : Nat) : Int))) (oif (decide (((List.length w1) + 1) * 8 ≤ 140737488355328)) (L10_2 v28 w0 fuel (IntKind.wrap .i64 (v29 + 1)) (w1 ++ [v29])) none) none) none)
      (L10_2 v28 w0 fuel (IntKind.wrap .i64 (v29 + 1)) w1)) none) none)
    (some (w1))
noncomputable def L10_2_post (v28 : Int) (w0 : (List Int)) (fp0 : Bool) : (List Int) → Ex × St
  | y => ((.exit 0), ⟨[(9, .msl 0 0 (List.length y) (List.length (rowI e3 y)) false)], [.cells (rowI e3 y) 1]⟩)
theorem L10_2_ok  (v28 : Int) (w0 : (List Int)) (fp0 : Bool) : ∀ (fuel : Nat) (v29 : Int) (w1 : (List Int)) (r : (List Int)), L10_2 v28 w0 fuel v29 w1 = some r →
    SemJ prog ⟨47, 0, false⟩ (codeAt [1, 1, 1, 1, 1, 0, 1, 0, 0] (bodyOf f10)) ⟨[(8, .ptr 0 0 (List.length (rowI e3 w0))), (9, .msl 1 0 (List.length w1) (List.length (rowI e3 w1)) false), (28, .p (.int .i64 v28)), (29, .p (.int .i64 v29))], [.cells (rowI e3 w0) 0, .cells (rowI e3 w1) 1]⟩ (L10_2_post v28 w0 fp0 r).1 (L10_2_post v28 w0 fp0 r).2
  | 0, _, _, _, h => nomatch h
  | fuel + 1, v29, w1, r, h => by
    unfold L10_2 at h
    refine oif_elim h (fun h1 g1 => ?_) (fun h1 g1 => ?_)
    · refine oif_elim g1 (fun h2 g2 => ?_) (fun _ h => nomatch h)
      refine oif_elim g2 (fun h3 g3 => ?_) (fun _ h => nomatch h)
      refine obind_elim g3 fun x1 h4 g4 => ?_
      let c22 : List CC := [.reg [] [] 0 [(0, none, .b true)] [8, 9, 28, 29, 30], .reg [] [] 0 [] [8, 9, 10, 28, 29]]
      have q23 := fun {P : Prop} (t : P) => ai h1 (ai (od h2) (ai (od h3) (ai (rl (List.length (rowI e3 w0))) (ai (row_get el3 h4 rfl) t))))
      refine oif_elim g4 (fun h5 g5 => ?_) (fun h5 g5 => ?_)
      · refine oif_elim g5 (fun h6 g6 => ?_) (fun _ h => nomatch h)
        refine oif_elim g6 (fun h7 g7 => ?_) (fun _ h => nomatch h)
        refine oif_elim g7 (fun h8 g8 => ?_) (fun _ h => nomatch h)
        exact SemJ.again (σ1 := ⟨[(8, .ptr 0 0 (List.length (rowI e3 w0))), (9, .msl 1 0 (List.length (w1 ++ [v29])) (List.length (rowI e3 (w1 ++ [v29]))) false), (28, .p (.int .i64 v28)), (29, .p (.int .i64 (IntKind.wrap .i64 (v29 + 1))))], [.cells (rowI e3 w0) 0, .cells (rowI e3 (w1 ++ [v29])) 1]⟩) (SemC.post (path hm (σ' := ⟨[(8, .ptr 0 0 (List.length (rowI e3 w0))), (9, .msl 2 0 (List.length (w1 ++ [v29])) (List.length (rowI e3 (w1 ++ [v29]))) false), (28, .p (.int .i64 v28)), (29, .p (.int .i64 (IntKind.wrap .i64 (v29 + 1))))], [.cells (rowI e3 w0) 0, .cells (rowI e3 w1) 1, .cells (rowI e3 (w1 ++ [v29])) 1]⟩) (ks := [8, 9, 28, 29]) (cc := c22 ++ [.reg [] [] 0 [(2, none, .iv (.p (.int .i64 x1))), (3, none, .b true)] [8, 9, 10, 28, 29, 35], .reg [] [] 1 [(5, none, .ap [] (List.length w1) 0), (8, some 2, .ap (rowI e3 (w1 ++ [v29])) (List.length (w1 ++ [v29])) (List.length (rowI e3 (w1 ++ [v29]))))] [8, 9, 28, 29], .reg [] [] 0 [] [8, 9, 28, 29]])
        (q23 (ai h5 (ai (sl_lo0 (some (((List.length w1) : Nat) : Int)) (List.length w1) (List.length w1)) (ai (rl (List.length w1)) (ai (od h6) (ai (od h7) (ai (rfl : ((((List.length w1) : Nat) : Int) : Int) = (((List.length w1) : Nat) : Int)) (ai (by decide : 0 < 1) (ai (od h8) (ai (app_c2 (by decide) (od h8)) (ai (app_len e3 [v29] (rl (List.length w1))) (ai (rl (List.length (rowI e3 (w1 ++ [v29])))) (ai (row_app3 el3 [v29] (rl (List.length w1))) (ai (row_sc el3 [v29]) (ai (row_es el3 [v29]) (ai (rl (List.length (rowI e3 w1))) (ai (row_whole_le el3 (rl (List.length w1)) (rl (List.length (rowI e3 w1)))) trivial))))))))))))))))) (by kernel_rfl)) (Weak.sel (E := [(8, .ptr 0 0 (List.length (rowI e3 w0))), (9, .msl 2 0 (List.length (w1 ++ [v29])) (List.length (rowI e3 (w1 ++ [v29]))) false), (28, .p (.int .i64 v28)), (29, .p (.int .i64 (IntKind.wrap .i64 (v29 + 1))))]) (E' := [(8, .ptr 0 0 (List.length (rowI e3 w0))), (9, .msl 1 0 (List.length (w1 ++ [v29])) (List.length (rowI e3 (w1 ++ [v29]))) false), (28, .p (.int .i64 v28)), (29, .p (.int .i64 (IntKind.wrap .i64 (v29 + 1))))]) (H := [.cells (rowI e3 w0) 0, .cells (rowI e3 w1) 1, .cells (rowI e3 (w1 ++ [v29])) 1]) (H' := [.cells (rowI e3 w0) 0, .cells (rowI e3 (w1 ++ [v29])) 1]) [0, 2] (selH_cons (o := .cells (rowI e3 w0) 0) (o' := .cells (rowI e3 w0) 0) (by kernel_rfl) sel_row (selH_cons (o := .cells (rowI e3 (w1 ++ [v29])) 1) (o' := .cells (rowI e3 (w1 ++ [v29])) 1) (by kernel_rfl) sel_row trivial)) (by kernel_rfl) (by kernel_rfl))) (L10_2_ok v28 w0 fp0 fuel (IntKind.wrap .i64 (v29 + 1)) (w1 ++ [v29]) _ g8)
      · exact SemJ.again (σ1 := ⟨[(8, .ptr 0 0 (List.length (rowI e3 w0))), (9, .msl 1 0 (List.length w1) (List.length (rowI e3 w1)) false), (28, .p (.int .i64 v28)), (29, .p (.int .i64 (IntKind.wrap .i64 (v29 + 1))))], [.cells (rowI e3 w0) 0, .cells (rowI e3 w1) 1]⟩) (path hm (σ' := ⟨[(8, .ptr 0 0 (List.length (rowI e3 w0))), (9, .msl 1 0 (List.length w1) (List.length (rowI e3 w1)) false), (28, .p (.int .i64 v28)), (29, .p (.int .i64 (IntKind.wrap .i64 (v29 + 1))))], [.cells (rowI e3 w0) 0, .cells (rowI e3 w1) 1]⟩) (ks := [8, 9, 28, 29]) (cc := c22 ++ [.reg [] [] 0 [(2, none, .iv (.p (.int .i64 x1))), (3, none, .b false)] [8, 9, 10, 28, 29, 35], .reg [] [] 0 [] [8, 9, 28, 29]])
        (q23 (ai h5 trivial)) (by kernel_rfl)) (L10_2_ok v28 w0 fp0 fuel (IntKind.wrap .i64 (v29 + 1)) w1 _ g5)
    · have hr := Option.some.inj g1
      subst hr
      exact SemC.cast (SemJ.out (e := (.exit 0)) (SemC.post (path hm (σ' := ⟨[(9, .msl 1 0 (List.length w1) (List.length (rowI e3 w1)) false)], [.cells (rowI e3 w0) 0, .cells (rowI e3 w1) 1]⟩) (ks := [9]) (cc := [.reg [] [] 0 [(0, none, .b false)] [8, 9, 28, 29, 30]])
        (ai h1 trivial) (by kernel_rfl)) (Weak.sel (E := [(9, .msl 1 0 (List.length w1) (List.length (rowI e3 w1)) false)]) (E' := [(9, .msl 0 0 (List.length w1) (List.length (rowI e3 w1)) false)]) (H := [.cells (rowI e3 w0) 0, .cells (rowI e3 w1) 1]) (H' := [.cells (rowI e3 w1) 1]) [1] (selH_cons (o := .cells (rowI e3 w1) 1) (o' := .cells (rowI e3 w1) 1) (by kernel_rfl) sel_row trivial) (by kernel_rfl) (by kernel_rfl))) (by simp)) (by kernel_rfl) (by kernel_rfl)
def L10_0  (v28 : Int) (w0 : (List Int)) : Nat → Int → Option (List Int)
  | 0, _ => none
  | fuel + 1, v29 =>
    oif ((decide (v29 < v28)))
    (oif (decide ((0:Int) ≤ v29)) (oif (decide ((v29 : Int) < ((5 : Nat) : Int))) (obind (sg w0 v29) fun x1 => oif ((decide (x1 > 0)))
      (oif (decide (1 * 8 ≤ 140737488355328)) (obind (L10_2 v28 w0 fuel (IntKind.wrap .i64 (v29 + 1)) [v29]) fun y2 => some (y2)) none)
      (L10_0 v28 w0 fuel (IntKind.wrap .i64 (v29 + 1)))) none) none)
    (some (([] : List Int)))
noncomputable def L10_0_post (v28 : Int) (w0 : (List Int)) (fp0 : Bool) : (List Int) → Ex × St
  | y => ((.exit 0), ⟨[(9, .p (.sl (List.map e3 y) false))], []⟩)
theorem L10_0_ok  (v28 : Int) (w0 : (List Int)) (fp0 : Bool) : ∀ (fuel : Nat) (v29 : Int) (r : (List Int)), L10_0 v28 w0 fuel v29 = some r →
    SemJ prog ⟨47, 0, false⟩ (codeAt [1, 1, 1, 1, 1, 0, 1, 0, 0] (bodyOf f10)) ⟨[(8, .ptr 0 0 (List.length (rowI e3 w0))), (9, .p (.nilsl)), (28, .p (.int .i64 v28)), (29, .p (.int .i64 v29))], [.cells (rowI e3 w0) 0]⟩ (L10_0_post v28 w0 fp0 r).1 (L10_0_post v28 w0 fp0 r).2
  | 0, _, _, h => nomatch h
  | fuel + 1, v29, r, h => by
    unfold L10_0 at h
    refine oif_elim h (fun h1 g1 => ?_) (fun h1 g1 => ?_)
    · refine oif_elim g1 (fun h2 g2 => ?_) (fun _ h => nomatch h)
      refine oif_elim g2 (fun h3 g3 => ?_) (fun _ h => nomatch h)
      refine obind_elim g3 fun x1 h4 g4 => ?_
      let c24 : List CC := [.reg [] [] 0 [(0, none, .b true)] [8, 9, 28, 29, 30], .reg [] [] 0 [] [8, 9, 10, 28, 29]]
      have q25 := fun {P : Prop} (t : P) => ai h1 (ai (od h2) (ai (od h3) (ai (rl (List.length (rowI e3 w0))) (ai (row_get el3 h4 rfl) t))))
      refine oif_elim g4 (fun h5 g5 => ?_) (fun h5 g5 => ?_)
      · refine oif_elim g5 (fun h6 g6 => ?_) (fun _ h => nomatch h)
        refine obind_elim g6 fun y2 h7 g7 => ?_
        have hr := Option.some.inj g7
        subst hr
        exact SemC.cast (SemJ.again (σ1 := ⟨[(8, .ptr 0 0 (List.length (rowI e3 w0))), (9, .msl 1 0 (List.length [v29]) (List.length (rowI e3 [v29])) false), (28, .p (.int .i64 v28)), (29, .p (.int .i64 (IntKind.wrap .i64 (v29 + 1))))], [.cells (rowI e3 w0) 0, .cells (rowI e3 [v29]) 1]⟩) (path hm (σ' := ⟨[(8, .ptr 0 0 (List.length (rowI e3 w0))), (9, .msl 1 0 (List.length [v29]) (List.length (rowI e3 [v29])) false), (28, .p (.int .i64 v28)), (29, .p (.int .i64 (IntKind.wrap .i64 (v29 + 1))))], [.cells (rowI e3 w0) 0, .cells (rowI e3 [v29]) 1]⟩) (ks := [8, 9, 28, 29]) (cc := c24 ++ [.reg [] [] 0 [(2, none, .iv (.p (.int .i64 x1))), (3, none, .b true)] [8, 9, 10, 28, 29, 35], .reg [] [] 1 [(8, some 1, .ap (rowI e3 [v29]) (List.length [v29]) (List.length (rowI e3 [v29])))] [8, 9, 28, 29], .reg [] [] 0 [] [8, 9, 28, 29]])
        (q25 (ai h5 (ai (by decide : (0:Int) ≤ 0) (ai (by decide : (0 : Int) ≤ ((0 : Nat) : Int)) (ai (rfl : (0 : Int) = 0) (ai (by decide : 0 < 1) (ai (od h6) (ai (app_c0 (by decide) (od h6)) (ai (rl (List.length [v29])) (ai (rl (List.length (rowI e3 [v29]))) (ai (row_src e3 [v29]) (ai (row_sc el3 [v29]) (ai (row_es el3 [v29]) trivial))))))))))))) (by kernel_rfl)) (SemC.post (L10_2_ok v28 w0 fp0 fuel (IntKind.wrap .i64 (v29 + 1)) [v29] _ h7) (Weak.trans (wcast (Weak.freeze (E := [(9, .msl 0 0 (List.length y2) (List.length (rowI e3 y2)) false)]) (E' := [(9, .p (.sl (List.map e3 y2) false))]) (H := [.cells (rowI e3 y2) 1]) [0] (by kernel_rfl) (.snap _ _ _ _ _ (snap_row (g := 1) (L := y2) el3 (by kernel_rfl) (rl (List.length (rowI e3 y2))) (rl (List.length y2))) .nil)) (by kernel_rfl : (⟨[(9, .p (.sl (List.map e3 y2) false))], puts (dieW [0]) [.cells (rowI e3 y2) 1]⟩ : St) = ⟨[(9, .p (.sl (List.map e3 y2) false))], [.dead]⟩)) (Weak.sel (E := [(9, .p (.sl (List.map e3 y2) false))]) (E' := [(9, .p (.sl (List.map e3 y2) false))]) (H := [.dead]) (H' := []) [] trivial (by kernel_rfl) (by kernel_rfl))))) (by kernel_rfl) (by kernel_rfl)
      · exact SemJ.again (σ1 := ⟨[(8, .ptr 0 0 (List.length (rowI e3 w0))), (9, .p (.nilsl)), (28, .p (.int .i64 v28)), (29, .p (.int .i64 (IntKind.wrap .i64 (v29 + 1))))], [.cells (rowI e3 w0) 0]⟩) (path hm (σ' := ⟨[(8, .ptr 0 0 (List.length (rowI e3 w0))), (9, .p (.nilsl)), (28, .p (.int .i64 v28)), (29, .p (.int .i64 (IntKind.wrap .i64 (v29 + 1))))], [.cells (rowI e3 w0) 0]⟩) (ks := [8, 9, 28, 29]) (cc := c24 ++ [.reg [] [] 0 [(2, none, .iv (.p (.int .i64 x1))), (3, none, .b false)] [8, 9, 10, 28, 29, 35], .reg [] [] 0 [] [8, 9, 28, 29]])
        (q25 (ai h5 trivial)) (by kernel_rfl)) (L10_0_ok v28 w0 fp0 fuel (IntKind.wrap .i64 (v29 + 1)) _ g5)
    · have hr := Option.some.inj g1
      subst hr
      exact SemC.cast (SemJ.out (e := (.exit 0)) (SemC.post (path hm (σ' := ⟨[(9, .p (.nilsl))], [.cells (rowI e3 w0) 0]⟩) (ks := [9]) (cc := [.reg [] [] 0 [(0, none, .b false)] [8, 9, 28, 29, 30]])
        (ai h1 trivial) (by kernel_rfl)) (Weak.trans (wcast (Weak.freeze (E := [(9, .p (.nilsl))]) (E' := [(9, .p (.sl (List.map e3 ([] : List Int)) false))]) (H := [.cells (rowI e3 w0) 0]) [] (by kernel_rfl) (.snap _ _ _ _ _ (.p _ _ (.nil _)) .nil)) (by kernel_rfl : (⟨[(9, .p (.sl (List.map e3 ([] : List Int)) false))], puts (dieW []) [.cells (rowI e3 w0) 0]⟩ : St) = ⟨[(9, .p (.sl (List.map e3 ([] : List Int)) false))], [.cells (rowI e3 w0) 0]⟩)) (Weak.sel (E := [(9, .p (.sl (List.map e3 ([] : List Int)) false))]) (E' := [(9, .p (.sl (List.map e3 ([] : List Int)) false))]) (H := [.cells (rowI e3 w0) 0]) (H' := []) [] trivial (by kernel_rfl) (by kernel_rfl)))) (by simp)) (by kernel_rfl) (by kernel_rfl)
def F10  (fuel : Nat) (p0 : (List (Int × Int))) (p1 : Int) : Option ((List Int) × Int) :=
  (obind (F38 fuel p0 [p1]) fun y1 => match y1 with
  | .inl y1 => oif ((y1 != 0))
    (some ([], y1))
    (none)
  | .inr (y1) => obind (F39 fuel p0 p1) fun r2 => oif (decide (List.length (List.replicate 5 (0 : Int)) = 5)) (oif (decide (List.length r2 = 5)) (obind (L10_0 (p0.length : Int) r2 fuel 0) fun y3 => some (y3, 0)) none) none)
theorem F10_ok  (fuel : Nat) (p0 : (List (Int × Int))) (p1 : Int) (fp0 : Bool) (r : ((List Int) × Int)) (h : F10 fuel p0 p1 = some r) : CallP prog 10 [.sl (List.map e68 p0) fp0, .int .i64 p1] (.tup [.sl (List.map e3 r.1) false, .int .i64 r.2]) := by
  unfold F10 at h
  refine obind_elim h fun y h1 g1 => ?_
  match y, h1, g1 with
  | .inl y1, h1, g1 =>
    refine oif_elim g1 (fun h2 g2 => ?_) (fun h2 g2 => ?_)
    · have hr := Option.some.inj g2
      subst hr
      exact callP_of is10 rfl (path hm (ks := [4, 5]) (σ' := ⟨[(4, .p (.nilsl)), (5, .p (.int .i64 y1))], []⟩) (cc := [.reg [] [] 0 [] [0, 1], .reg [] [] 0 [(3, none, .call (.tup [.nilp, .int .i64 y1]))] [0, 1, 6, 7], .reg [] [] 0 [(1, none, .b true)] [0, 1, 6, 7, 19], .reg [] [] 0 [] [4, 5]])
      (ai (F38_ok fuel p0 [p1] fp0 true _ h1) (ai h2 trivial)) (by kernel_rfl)) (e := .ret) rfl (vs := [.p (.nilsl), .p (.int .i64 y1)]) trivial (by kernel_rfl) (.tup _ _ (.cons _ _ _ _ (.p _ _ (.nil _)) (.cons _ _ _ _ (.p _ _ (.refl _)) .nil)))
    · exact nomatch g2
  | .inr (y1), h1, g1 =>
    refine obind_elim g1 fun r2 h2 g2 => ?_
    refine oif_elim g2 (fun h3 g3 => ?_) (fun _ h => nomatch h)
    refine oif_elim g3 (fun h4 g4 => ?_) (fun _ h => nomatch h)
    refine obind_elim g4 fun y3 h5 g5 => ?_
    have hr := Option.some.inj g5
    subst hr
    exact callP_of is10 rfl (path hm (ks := [4, 5]) (σ' := ⟨[(4, .p (.sl (List.map e3 y3) false)), (5, .p (.int .i64 0))], []⟩) (cc := [.reg [] [] 0 [] [0, 1], .reg [] [] 0 [(3, none, .call (.tup [.ref [.sl (List.map e68 p0) false, .map (mapK e81 y1) (mapV e2 y1)], .int .i64 0]))] [0, 1, 6, 7], .reg [] [] 0 [] [0, 1, 6, 7, 19], .reg [] [] 1 [(5, none, .call (.agg (rowP e3 r2))), (6, some 0, .a), (7, none, .ap (rowI e3 r2) 0 0)] [0, 8], .reg [] [] 0 [] [0, 8, 9], .reg [] [] 0 [(1, none, .n (p0.length : Int))] [8, 9, 28, 29], .leaf (.exit 0) ⟨[(9, .p (.sl (List.map e3 y3) false))], []⟩, .reg [] [] 0 [] [4, 5]])
      (ai (F38_ok fuel p0 [p1] fp0 true _ h1) (ai (F39_ok fuel p0 p1 _ h2) (ai (row_wlen el3 (od h4) (rfl : 5 * 1 = 5)) (ai (row_scal el3 r2) (ai (rl (List.length (rowI e3 (List.replicate 5 (0 : Int))))) (ai (row_wle el3 (od h3) (rfl : 5 * 1 = 5) (rl (List.length (rowI e3 (List.replicate 5 (0 : Int)))))) (ai (row_putall el3 (od h3) (od h4)) (ai (len_map e68 p0) (ai (SemC.pre (σ := ⟨[(8, .ptr 0 0 (List.length (rowI e3 (List.replicate 5 (0 : Int))))), (9, .p (.nilsl)), (28, .p (.int .i64 (p0.length : Int))), (29, .p (.int .i64 0))], [.cells (rowI e3 r2) 0]⟩) (SemJ.loop (L10_0_ok (p0.length : Int) r2 fp0 fuel 0 _ h5)) (Weak.eq (congrArg (fun ZZ : Nat => (⟨[(8, .ptr 0 0 ZZ), (9, .p (.nilsl)), (28, .p (.int .i64 (p0.length : Int))), (29, .p (.int .i64 0))], [.cells (rowI e3 r2) 0]⟩ : St)) (Eq.symm ((row_same el3 (od h3) (od h4)).trans (rl (List.length (rowI e3 (List.replicate 5 (0 : Int)))))))))) trivial))))))))) (by kernel_rfl)) (e := .ret) rfl (vs := [.p (.sl (List.map e3 y3) false), .p (.int .i64 0)]) trivial (by kernel_rfl) (.tup _ _ (.cons _ _ _ _ (.p _ _ (.refl _)) (.cons _ _ _ _ (.p _ _ (.refl _)) .nil)))
def L66_0  (v1 : Int) : Nat → Int → Int → Int → Int → Option Int
  | 0, _, _, _, _ => none
  | fuel + 1, v5, v6, v7, v8 =>
    oif ((v8 != 0))
    (oif (decide (v8 ≠ 0)) (L66_0 v1 fuel v6 (IntKind.wrap .i64 (v5 - (IntKind.wrap .i64 ((IntKind.wrap .i64 (Int.tdiv v7 v8)) * v6)))) v8 (IntKind.wrap .i64 (v7 - (IntKind.wrap .i64 ((IntKind.wrap .i64 (Int.tdiv v7 v8)) * v8))))) none)
    (some (v5))
noncomputable def L66_0_post (v1 : Int)  : Int → Ex × St
  | y => ((.exit 0), ⟨[(1, .p (.int .i64 v1)), (5, .p (.int .i64 y))], []⟩)
theorem L66_0_ok  (v1 : Int)  : ∀ (fuel : Nat) (v5 : Int) (v6 : Int) (v7 : Int) (v8 : Int) (r : Int), L66_0 v1 fuel v5 v6 v7 v8 = some r →
    SemJ prog ⟨38, 0, false⟩ (codeAt [1, 1, 0, 1, 0, 0] (bodyOf f66)) ⟨[(1, .p (.int .i64 v1)), (5, .p (.int .i64 v5)), (6, .p (.int .i64 v6)), (7, .p (.int .i64 v7)), (8, .p (.int .i64 v8))], []⟩ (L66_0_post v1 r).1 (L66_0_post v1 r).2
  | 0, _, _, _, _, _, h => nomatch h
  | fuel + 1, v5, v6, v7, v8, r, h => by
    unfold L66_0 at h
    refine oif_elim h (fun h1 g1 => ?_) (fun h1 g1 => ?_)
    · refine oif_elim g1 (fun h2 g2 => ?_) (fun _ h => nomatch h)
      exact SemJ.again (σ1 := ⟨[(1, .p (.int .i64 v1)), (5, .p (.int .i64 v6)), (6, .p (.int .i64 (IntKind.wrap .i64 (v5 - (IntKind.wrap .i64 ((IntKind.wrap .i64 (Int.tdiv v7 v8)) * v6)))))), (7, .p (.int .i64 v8)), (8, .p (.int .i64 (IntKind.wrap .i64 (v7 - (IntKind.wrap .i64 ((IntKind.wrap .i64 (Int.tdiv v7 v8)) * v8))))))], []⟩) (path hm (σ' := ⟨[(1, .p (.int .i64 v1)), (5, .p (.int .i64 v6)), (6, .p (.int .i64 (IntKind.wrap .i64 (v5 - (IntKind.wrap .i64 ((IntKind.wrap .i64 (Int.tdiv v7 v8)) * v6)))))), (7, .p (.int .i64 v8)), (8, .p (.int .i64 (IntKind.wrap .i64 (v7 - (IntKind.wrap .i64 ((IntKind.wrap .i64 (Int.tdiv v7 v8)) * v8))))))], []⟩) (ks := [1, 5, 6, 7, 8]) (cc := [.reg [] [] 0 [(1, none, .b true)] [1, 5, 6, 7, 8, 15], .reg [] [] 0 [] [1, 5, 6, 7, 8, 9], .reg [] [] 0 [] [1, 5, 6, 7, 8, 9], .reg [] [] 0 [] [1, 5, 6, 7, 8]])
        (ai h1 (ai (od h2) trivial)) (by kernel_rfl)) (L66_0_ok v1 fuel v6 (IntKind.wrap .i64 (v5 - (IntKind.wrap .i64 ((IntKind.wrap .i64 (Int.tdiv v7 v8)) * v6)))) v8 (IntKind.wrap .i64 (v7 - (IntKind.wrap .i64 ((IntKind.wrap .i64 (Int.tdiv v7 v8)) * v8)))) _ g2)
    · have hr := Option.some.inj g1
      subst hr
      exact SemC.cast (SemJ.out (e := (.exit 0)) (path hm (σ' := ⟨[(1, .p (.int .i64 v1)), (5, .p (.int .i64 v5))], []⟩) (ks := [1, 5]) (cc := [.reg [] [] 0 [(1, none, .b false)] [1, 5, 6, 7, 8, 15]])
        (ai h1 trivial) (by kernel_rfl)) (by simp)) (by kernel_rfl) (by kernel_rfl)
def F66  (fuel : Nat) (p0 : Int) (p1 : Int) : Option Int :=
  oif (decide (p1 ≠ 0)) (obind (L66_0 p1 fuel 1 0 (Int.tmod p0 p1) p1) fun y1 => some (Int.tmod (IntKind.wrap .i64 ((Int.tmod y1 p1) + p1)) p1)) none
theorem F66_ok  (fuel : Nat) (p0 : Int) (p1 : Int)  (r : Int) (h : F66 fuel p0 p1 = some r) : CallP prog 66 [.int .i64 p0, .int .i64 p1] (.int .i64 r) := by
  unfold F66 at h
  refine oif_elim h (fun h1 g1 => ?_) (fun _ h => nomatch h)
  refine obind_elim g1 fun y1 h2 g2 => ?_
  have hr := Option.some.inj g2
  subst hr
  exact callP_of is66 rfl (path hm (ks := [4]) (σ' := ⟨[(4, .p (.int .i64 (Int.tmod (IntKind.wrap .i64 ((Int.tmod y1 p1) + p1)) p1)))], []⟩) (cc := [.reg [] [] 0 [] [0, 1], .reg [] [] 0 [] [0, 1, 5, 6], .reg [] [] 0 [] [1, 5, 6, 7, 8], .leaf (.exit 0) ⟨[(1, .p (.int .i64 p1)), (5, .p (.int .i64 y1))], []⟩, .reg [] [] 0 [] [4]])
      (ai (od h1) (ai (SemJ.loop (L66_0_ok p1 fuel 1 0 (Int.tmod p0 p1) p1 _ h2)) (ai (od h1) (ai (od h1) trivial)))) (by kernel_rfl)) (e := .ret) rfl (vs := [.p (.int .i64 (Int.tmod (IntKind.wrap .i64 ((Int.tmod y1 p1) + p1)) p1))]) trivial (by kernel_rfl) (.p _ _ (.refl _))
def L45_0  (v22 : (List (Int × Int))) (v23 : Int) : Nat → Int → Int → Int → Option (Int × Int)
  | 0, _, _, _ => none
  | fuel + 1, v5, v6, v24 =>
    oif ((decide (v24 < v23)))
    (obind (sg v22 v24) fun x1 => obind (F61 fuel v6 x1.1) fun r2 => oif (decide (r2 ≠ 0)) (oif (decide ((IntKind.wrap .i64 (Int.tdiv x1.1 r2)) ≠ 0)) (obind (F66 fuel (IntKind.wrap .i64 (Int.tdiv v6 r2)) (IntKind.wrap .i64 (Int.tdiv x1.1 r2))) fun r3 => L45_0 v22 v23 fuel (IntKind.wrap .i64 (v5 + (IntKind.wrap .i64 ((Int.tmod (IntKind.wrap .i64 ((Int.tmod (IntKind.wrap .i64 ((Int.tmod (IntKind.wrap .i64 (Int.tdiv (IntKind.wrap .i64 (x1.2 - v5)) r2)) (IntKind.wrap .i64 (Int.tdiv x1.1 r2))) * r3)) (IntKind.wrap .i64 (Int.tdiv x1.1 r2))) + (IntKind.wrap .i64 (Int.tdiv x1.1 r2)))) (IntKind.wrap .i64 (Int.tdiv x1.1 r2))) * v6)))) (IntKind.wrap .i64 (v6 * (IntKind.wrap .i64 (Int.tdiv x1.1 r2)))) (IntKind.wrap .i64 (v24 + 1))) none) none)
    (some ((v5, v6)))
noncomputable def L45_0_post (v22 : (List (Int × Int))) (v23 : Int)  : (Int × Int) → Ex × St
  | y => ((.exit 0), ⟨[(5, .p (.int .i64 y.1)), (6, .p (.int .i64 y.2))], []⟩)
theorem L45_0_ok  (v22 : (List (Int × Int))) (v23 : Int)  : ∀ (fuel : Nat) (v5 : Int) (v6 : Int) (v24 : Int) (r : (Int × Int)), L45_0 v22 v23 fuel v5 v6 v24 = some r →
    SemJ prog ⟨67, 0, false⟩ (codeAt [1, 1, 1, 0, 1, 0, 0] (bodyOf f45)) ⟨[(5, .p (.int .i64 v5)), (6, .p (.int .i64 v6)), (22, .p (.sl (List.map e68 v22) false)), (23, .p (.int .i64 v23)), (24, .p (.int .i64 v24))], []⟩ (L45_0_post v22 v23 r).1 (L45_0_post v22 v23 r).2
  | 0, _, _, _, _, h => nomatch h
  | fuel + 1, v5, v6, v24, r, h => by
    unfold L45_0 at h
    refine oif_elim h (fun h1 g1 => ?_) (fun h1 g1 => ?_)
    · refine obind_elim g1 fun x1 h2 g2 => ?_
      refine obind_elim g2 fun r2 h3 g3 => ?_
      refine oif_elim g3 (fun h4 g4 => ?_) (fun _ h => nomatch h)
      refine oif_elim g4 (fun h5 g5 => ?_) (fun _ h => nomatch h)
      refine obind_elim g5 fun r3 h6 g6 => ?_
      exact SemJ.again (σ1 := ⟨[(5, .p (.int .i64 (IntKind.wrap .i64 (v5 + (IntKind.wrap .i64 ((Int.tmod (IntKind.wrap .i64 ((Int.tmod (IntKind.wrap .i64 ((Int.tmod (IntKind.wrap .i64 (Int.tdiv (IntKind.wrap .i64 (x1.2 - v5)) r2)) (IntKind.wrap .i64 (Int.tdiv x1.1 r2))) * r3)) (IntKind.wrap .i64 (Int.tdiv x1.1 r2))) + (IntKind.wrap .i64 (Int.tdiv x1.1 r2)))) (IntKind.wrap .i64 (Int.tdiv x1.1 r2))) * v6)))))), (6, .p (.int .i64 (IntKind.wrap .i64 (v6 * (IntKind.wrap .i64 (Int.tdiv x1.1 r2)))))), (22, .p (.sl (List.map e68 v22) false)), (23, .p (.int .i64 v23)), (24, .p (.int .i64 (IntKind.wrap .i64 (v24 + 1))))], []⟩) (SemC.post (path hm (σ' := ⟨[(5, .p (.int .i64 (IntKind.wrap .i64 (v5 + (IntKind.wrap .i64 ((Int.tmod (IntKind.wrap .i64 ((Int.tmod (IntKind.wrap .i64 ((Int.tmod (IntKind.wrap .i64 (Int.tdiv (IntKind.wrap .i64 (x1.2 - v5)) r2)) (IntKind.wrap .i64 (Int.tdiv x1.1 r2))) * r3)) (IntKind.wrap .i64 (Int.tdiv x1.1 r2))) + (IntKind.wrap .i64 (Int.tdiv x1.1 r2)))) (IntKind.wrap .i64 (Int.tdiv x1.1 r2))) * v6)))))), (6, .p (.int .i64 (IntKind.wrap .i64 (v6 * (IntKind.wrap .i64 (Int.tdiv x1.1 r2)))))), (22, .p (.sl (List.map e68 v22) false)), (23, .p (.int .i64 v23)), (24, .p (.int .i64 (IntKind.wrap .i64 (v24 + 1))))], [.cells [.p (.int .i64 x1.1), .p (.int .i64 x1.2)] 0]⟩) (ks := [5, 6, 22, 23, 24]) (cc := [.reg [] [] 0 [(0, none, .b true)] [5, 6, 22, 23, 24, 25], .reg [] [] 1 [(0, none, .iv (.p (.agg [.int .i64 x1.1, .int .i64 x1.2]))), (2, some 0, .a)] [5, 6, 8, 22, 23, 24], .reg [] [] 0 [(3, none, .call (.int .i64 r2))] [5, 6, 8, 9, 22, 23, 24], .reg [] [] 0 [] [5, 6, 8, 9, 10, 22, 23, 24], .reg [0, 1, 0, 7, 0, 31, 0, 127, 0, 0, 768, 0, 3840, 8191, 0, 32767, 65535] [] 0 [(12, none, .call (.int .i64 r3))] [5, 6, 10, 11, 22, 23, 24], .reg [] [] 0 [] [5, 6, 10, 22, 23, 24], .reg [] [] 0 [] [5, 6, 22, 23, 24], .reg [] [] 0 [] [5, 6, 22, 23, 24]])
        (ai h1 (ai (sg_map (f := e68) h2) (ai (F61_ok fuel v6 x1.1 _ h3) (ai (od h4) (ai (od h4) (ai (od h5) (ai (od h4) (ai (F66_ok fuel (IntKind.wrap .i64 (Int.tdiv v6 r2)) (IntKind.wrap .i64 (Int.tdiv x1.1 r2)) _ h6) (ai (od h5) (ai (od h5) trivial)))))))))) (by kernel_rfl)) (Weak.sel (E := [(5, .p (.int .i64 (IntKind.wrap .i64 (v5 + (IntKind.wrap .i64 ((Int.tmod (IntKind.wrap .i64 ((Int.tmod (IntKind.wrap .i64 ((Int.tmod (IntKind.wrap .i64 (Int.tdiv (IntKind.wrap .i64 (x1.2 - v5)) r2)) (IntKind.wrap .i64 (Int.tdiv x1.1 r2))) * r3)) (IntKind.wrap .i64 (Int.tdiv x1.1 r2))) + (IntKind.wrap .i64 (Int.tdiv x1.1 r2)))) (IntKind.wrap .i64 (Int.tdiv x1.1 r2))) * v6)))))), (6, .p (.int .i64 (IntKind.wrap .i64 (v6 * (IntKind.wrap .i64 (Int.tdiv x1.1 r2)))))), (22, .p (.sl (List.map e68 v22) false)), (23, .p (.int .i64 v23)), (24, .p (.int .i64 (IntKind.wrap .i64 (v24 + 1))))]) (E' := [(5, .p (.int .i64 (IntKind.wrap .i64 (v5 + (IntKind.wrap .i64 ((Int.tmod (IntKind.wrap .i64 ((Int.tmod (IntKind.wrap .i64 ((Int.tmod (IntKind.wrap .i64 (Int.tdiv (IntKind.wrap .i64 (x1.2 - v5)) r2)) (IntKind.wrap .i64 (Int.tdiv x1.1 r2))) * r3)) (IntKind.wrap .i64 (Int.tdiv x1.1 r2))) + (IntKind.wrap .i64 (Int.tdiv x1.1 r2)))) (IntKind.wrap .i64 (Int.tdiv x1.1 r2))) * v6)))))), (6, .p (.int .i64 (IntKind.wrap .i64 (v6 * (IntKind.wrap .i64 (Int.tdiv x1.1 r2)))))), (22, .p (.sl (List.map e68 v22) false)), (23, .p (.int .i64 v23)), (24, .p (.int .i64 (IntKind.wrap .i64 (v24 + 1))))]) (H := [.cells [.p (.int .i64 x1.1), .p (.int .i64 x1.2)] 0]) (H' := []) [] trivial (by kernel_rfl) (by kernel_rfl))) (L45_0_ok v22 v23 fuel (IntKind.wrap .i64 (v5 + (IntKind.wrap .i64 ((Int.tmod (IntKind.wrap .i64 ((Int.tmod (IntKind.wrap .i64 ((Int.tmod (IntKind.wrap .i64 (Int.tdiv (IntKind.wrap .i64 (x1.2 - v5)) r2)) (IntKind.wrap .i64 (Int.tdiv x1.1 r2))) * r3)) (IntKind.wrap .i64 (Int.tdiv x1.1 r2))) + (IntKind.wrap .i64 (Int.tdiv x1.1 r2)))) (IntKind.wrap .i64 (Int.tdiv x1.1 r2))) * v6)))) (IntKind.wrap .i64 (v6 * (IntKind.wrap .i64 (Int.tdiv x1.1 r2)))) (IntKind.wrap .i64 (v24 + 1)) _ g6)
    · have hr := Option.some.inj g1
      subst hr
      exact SemC.cast (SemJ.out (e := (.exit 0)) (path hm (σ' := ⟨[(5, .p (.int .i64 v5)), (6, .p (.int .i64 v6))], []⟩) (ks := [5, 6]) (cc := [.reg [] [] 0 [(0, none, .b false)] [5, 6, 22, 23, 24, 25]])
        (ai h1 trivial) (by kernel_rfl)) (by simp)) (by kernel_rfl) (by kernel_rfl)
def F45  (fuel : Nat) (p0 : ((List (Int × Int)) × (List ((Int × Int) × Int)))) : Option (Int × Int × Bool) :=
  oif ((decide ((p0.2.length : Int) > 0)))
  (some (0, 0, false))
  (obind (L45_0 p0.1 (p0.1.length : Int) fuel 0 1 0) fun y1 => some (y1.1, y1.2, true))
theorem F45_ok  (fuel : Nat) (p0 : ((List (Int × Int)) × (List ((Int × Int) × Int))))  (r : (Int × Int × Bool)) (h : F45 fuel p0 = some r) : CallP prog 45 [.ref [.sl (List.map e68 p0.1) false, .map (mapK e81 p0.2) (mapV e2 p0.2)]] (.tup [.int .i64 r.1, .int .i64 r.2.1, .bool r.2.2]) := by
  unfold F45 at h
  refine oif_elim h (fun h1 g1 => ?_) (fun h1 g1 => ?_)
  · have hr := Option.some.inj g1
    subst hr
    exact callP_of is45 rfl (path hm (ks := [2, 3, 4]) (σ' := ⟨[(2, .p (.int .i64 0)), (3, .p (.int .i64 0)), (4, .p (.bool false))], []⟩) (cc := [.reg [] [] 0 [] [0], .reg [] [] 0 [(4, none, .n (p0.2.length : Int)), (5, none, .b true)] [0, 17], .reg [] [] 0 [] [2, 3, 4]])
      (ai (congrArg (fun n : Nat => (n : Int)) (mapK_len e81 p0.2)) (ai h1 trivial)) (by kernel_rfl)) (e := .ret) rfl (vs := [.p (.int .i64 0), .p (.int .i64 0), .p (.bool false)]) trivial (by kernel_rfl) (.tup _ _ (.cons _ _ _ _ (.p _ _ (.refl _)) (.cons _ _ _ _ (.p _ _ (.refl _)) (.cons _ _ _ _ (.p _ _ (.refl _)) .nil))))
  · refine obind_elim g1 fun y1 h2 g2 => ?_
    have hr := Option.some.inj g2
    subst hr
    exact callP_of is45 rfl (path hm (ks := [2, 3, 4]) (σ' := ⟨[(2, .p (.int .i64 y1.1)), (3, .p (.int .i64 y1.2)), (4, .p (.bool true))], []⟩) (cc := [.reg [] [] 0 [] [0], .reg [] [] 0 [(4, none, .n (p0.2.length : Int)), (5, none, .b false)] [0, 17], .reg [] [] 0 [] [0, 5, 6], .reg [] [] 0 [(5, none, .n (p0.1.length : Int))] [5, 6, 22, 23, 24], .leaf (.exit 0) ⟨[(5, .p (.int .i64 y1.1)), (6, .p (.int .i64 y1.2))], []⟩, .reg [] [] 0 [] [2, 3, 4]])
      (ai (congrArg (fun n : Nat => (n : Int)) (mapK_len e81 p0.2)) (ai h1 (ai (len_map e68 p0.1) (ai (SemJ.loop (L45_0_ok p0.1 (p0.1.length : Int) fuel 0 1 0 _ h2)) trivial)))) (by kernel_rfl)) (e := .ret) rfl (vs := [.p (.int .i64 y1.1), .p (.int .i64 y1.2), .p (.bool true)]) trivial (by kernel_rfl) (.tup _ _ (.cons _ _ _ _ (.p _ _ (.refl _)) (.cons _ _ _ _ (.p _ _ (.refl _)) (.cons _ _ _ _ (.p _ _ (.refl _)) .nil))))
def F16  (fuel : Nat) (p0 : (List (Int × Int))) : Option (Int × Int × Int) :=
  (obind (F38 fuel p0 []) fun y1 => match y1 with
  | .inl y1 => oif ((y1 != 0))
    (some (0, 0, y1))
    (none)
  | .inr (y1) => obind (F45 fuel (p0, y1)) fun r2 => oif (r2.2.2)
    (some (r2.1, r2.2.1, 0))
    (some (0, 0, 21)))
theorem F16_ok  (fuel : Nat) (p0 : (List (Int × Int))) (fp0 : Bool) (r : (Int × Int × Int)) (h : F16 fuel p0 = some r) : CallP prog 16 [.sl (List.map e68 p0) fp0] (.tup [.int .i64 r.1, .int .i64 r.2.1, .int .i64 r.2.2]) := by
  unfold F16 at h
  refine obind_elim h fun y h1 g1 => ?_
  match y, h1, g1 with
  | .inl y1, h1, g1 =>
    refine oif_elim g1 (fun h2 g2 => ?_) (fun h2 g2 => ?_)
    · have hr := Option.some.inj g2
      subst hr
      exact callP_of is16 rfl (path hm (ks := [2, 3, 4]) (σ' := ⟨[(2, .p (.int .i64 0)), (3, .p (.int .i64 0)), (4, .p (.int .i64 y1))], []⟩) (cc := [.reg [] [] 0 [] [0], .reg [] [] 0 [(1, none, .cw [.sl (List.map e68 p0) fp0, .sl (List.map e2 ([] : List Int)) false] (.tup [.nilp, .int .i64 y1]))] [5, 6], .reg [] [] 0 [(1, none, .b true)] [5, 6, 16], .reg [] [] 0 [] [2, 3, 4]])
      (ai (show PVleL [.sl (List.map e68 p0) fp0, .nilsl] [.sl (List.map e68 p0) fp0, .sl (List.map e2 ([] : List Int)) false] from (.cons _ _ _ _ (.refl _) (.cons _ _ _ _ (.nil _) .nil))) (ai (F38_ok fuel p0 [] fp0 false _ h1) (ai h2 trivial))) (by kernel_rfl)) (e := .ret) rfl (vs := [.p (.int .i64 0), .p (.int .i64 0), .p (.int .i64 y1)]) trivial (by kernel_rfl) (.tup _ _ (.cons _ _ _ _ (.p _ _ (.refl _)) (.cons _ _ _ _ (.p _ _ (.refl _)) (.cons _ _ _ _ (.p _ _ (.refl _)) .nil))))
    · exact nomatch g2
  | .inr (y1), h1, g1 =>
    refine obind_elim g1 fun r2 h2 g2 => ?_
    let c26 : List CC := [.reg [] [] 0 [] [0], .reg [] [] 0 [(1, none, .cw [.sl (List.map e68 p0) fp0, .sl (List.map e2 ([] : List Int)) false] (.tup [.ref [.sl (List.map e68 p0) false, .map (mapK e81 y1) (mapV e2 y1)], .int .i64 0]))] [5, 6], .reg [] [] 0 [] [5, 6, 16]]
    refine oif_elim g2 (fun h3 g3 => ?_) (fun h3 g3 => ?_)
    · have hr := Option.some.inj g3
      subst hr
      exact callP_of is16 rfl (path hm (ks := [2, 3, 4]) (σ' := ⟨[(2, .p (.int .i64 r2.1)), (3, .p (.int .i64 r2.2.1)), (4, .p (.int .i64 0))], []⟩) (cc := c26 ++ [.reg [] [] 0 [(1, none, .call (.tup [.int .i64 r2.1, .int .i64 r2.2.1, .bool true]))] [7, 8, 9], .reg [] [] 0 [] [7, 8, 25], .reg [] [] 0 [] [2, 3, 4]])
      (ai (show PVleL [.sl (List.map e68 p0) fp0, .nilsl] [.sl (List.map e68 p0) fp0, .sl (List.map e2 ([] : List Int)) false] from (.cons _ _ _ _ (.refl _) (.cons _ _ _ _ (.nil _) .nil))) (ai (F38_ok fuel p0 [] fp0 false _ h1) (ai (show CallP prog 45 [.ref [.sl (List.map e68 p0) false, .map (mapK e81 y1) (mapV e2 y1)]] (.tup [.int .i64 r2.1, .int .i64 r2.2.1, .bool true]) from h3 ▸ (F45_ok fuel (p0, y1) _ h2)) trivial))) (by kernel_rfl)) (e := .ret) rfl (vs := [.p (.int .i64 r2.1), .p (.int .i64 r2.2.1), .p (.int .i64 0)]) trivial (by kernel_rfl) (.tup _ _ (.cons _ _ _ _ (.p _ _ (.refl _)) (.cons _ _ _ _ (.p _ _ (.refl _)) (.cons _ _ _ _ (.p _ _ (.refl _)) .nil))))
    · have hr := Option.some.inj g3
      subst hr
      exact callP_of is16 rfl (path hm (ks := [2, 3, 4]) (σ' := ⟨[(2, .p (.int .i64 0)), (3, .p (.int .i64 0)), (4, .p (.int .i64 21))], []⟩) (cc := c26 ++ [.reg [] [] 0 [(1, none, .call (.tup [.int .i64 r2.1, .int .i64 r2.2.1, .bool false]))] [7, 8, 9], .reg [] [] 0 [] [7, 8, 25], .reg [] [] 0 [] [2, 3, 4]])
      (ai (show PVleL [.sl (List.map e68 p0) fp0, .nilsl] [.sl (List.map e68 p0) fp0, .sl (List.map e2 ([] : List Int)) false] from (.cons _ _ _ _ (.refl _) (.cons _ _ _ _ (.nil _) .nil))) (ai (F38_ok fuel p0 [] fp0 false _ h1) (ai (show CallP prog 45 [.ref [.sl (List.map e68 p0) false, .map (mapK e81 y1) (mapV e2 y1)]] (.tup [.int .i64 r2.1, .int .i64 r2.2.1, .bool false]) from h3 ▸ (F45_ok fuel (p0, y1) _ h2)) trivial))) (by kernel_rfl)) (e := .ret) rfl (vs := [.p (.int .i64 0), .p (.int .i64 0), .p (.int .i64 21)]) trivial (by kernel_rfl) (.tup _ _ (.cons _ _ _ _ (.p _ _ (.refl _)) (.cons _ _ _ _ (.p _ _ (.refl _)) (.cons _ _ _ _ (.p _ _ (.refl _)) .nil))))
def G47_1  (fuel : Nat) (p0 : (List (Int × Int))) (p0_1 : (List ((Int × Int) × Int))) (p1 : Int) (w0 : Int) (w1 : Int) : Option (Bool × Int × Int) :=
  obind (F45 fuel (p0, p0_1)) fun r1 => oif (r1.2.2)
  (some (true, r1.1, r1.2.1))
  (some (false, r1.1, r1.2.1))
noncomputable def G47_1_post (p0 : (List (Int × Int))) (p0_1 : (List ((Int × Int) × Int))) (p1 : Int) (w0 : Int) (w1 : Int)  : (Bool × Int × Int) → IV × List MObj
  | y => (.fn 67 [] [.ptr 2 0 1, .p (.ref [.int .i64 p1]), .ptr 3 0 1, .ptr 4 0 1], [.cells [.p (.int .i64 w0)] 0, .cells [.p (.int .i64 w1)] 0, .cells [.p (.bool y.1)] 0, .cells [.p (.int .i64 y.2.1)] 0, .cells [.p (.int .i64 y.2.2)] 0])
theorem G47_1_ok  (fuel : Nat) (p0 : (List (Int × Int))) (p0_1 : (List ((Int × Int) × Int))) (p1 : Int) (w0 : Int) (w1 : Int)  (r : (Bool × Int × Int)) (h : G47_1 fuel p0 p0_1 p1 w0 w1 = some r) : CallI prog 47 [.p (.ref [.sl (List.map e68 p0) false, .map (mapK e81 p0_1) (mapV e2 p0_1)]), .p (.int .i64 p1)] [.cells [.p (.int .i64 w0)] 0, .cells [.p (.int .i64 w1)] 0, .hole, .hole, .hole] (G47_1_post p0 p0_1 p1 w0 w1 r).1 (G47_1_post p0 p0_1 p1 w0 w1 r).2 := by
  unfold G47_1 at h
  refine obind_elim h fun r1 h1 g1 => ?_
  refine oif_elim g1 (fun h2 g2 => ?_) (fun h2 g2 => ?_)
  · have hr := Option.some.inj g2
    subst hr
    exact CallI.cast (callI_of is47 (by kernel_rfl) (m := 5) (by kernel_rfl) (e := .ret) (vs := [.fn 67 [] [.ptr 2 0 1, .p (.ref [.int .i64 p1]), .ptr 3 0 1, .ptr 4 0 1]]) (SemC.post (path hm (ks := [4]) (σ' := ⟨[(4, .fn 67 [] [.ptr 7 0 1, .p (.ref [.int .i64 p1]), .ptr 5 0 1, .ptr 6 0 1])], [.cells [.p (.int .i64 w0)] 0, .cells [.p (.int .i64 w1)] 0, .hole, .hole, .hole, .cells [.p (.int .i64 r1.1)] 0, .cells [.p (.int .i64 r1.2.1)] 0, .cells [.p (.bool true)] 0]⟩) (cc := [.reg [] [] 0 [(0, none, .imm)] [0, 3], .reg [] [] 3 [(1, none, .call (.tup [.int .i64 r1.1, .int .i64 r1.2.1, .bool true])), (6, some 5, .a), (7, some 6, .a), (8, some 7, .a)] [3, 5, 6, 7], .reg [] [] 0 [] [4]])
      (ai (show CallP prog 45 [.ref [.sl (List.map e68 p0) false, .map (mapK e81 p0_1) (mapV e2 p0_1)]] (.tup [.int .i64 r1.1, .int .i64 r1.2.1, .bool true]) from h2 ▸ (F45_ok fuel (p0, p0_1) _ h1)) trivial) (by kernel_rfl)) (Weak.sel (E := [(4, .fn 67 [] [.ptr 7 0 1, .p (.ref [.int .i64 p1]), .ptr 5 0 1, .ptr 6 0 1])]) (E' := [(4, .fn 67 [] [.ptr 2 0 1, .p (.ref [.int .i64 p1]), .ptr 3 0 1, .ptr 4 0 1])]) (H := [.cells [.p (.int .i64 w0)] 0, .cells [.p (.int .i64 w1)] 0, .hole, .hole, .hole, .cells [.p (.int .i64 r1.1)] 0, .cells [.p (.int .i64 r1.2.1)] 0, .cells [.p (.bool true)] 0]) (H' := [.cells [.p (.int .i64 w0)] 0, .cells [.p (.int .i64 w1)] 0, .cells [.p (.bool true)] 0, .cells [.p (.int .i64 r1.1)] 0, .cells [.p (.int .i64 r1.2.1)] 0]) [0, 1, 7, 5, 6] (selH_cons (o := .cells [.p (.int .i64 w0)] 0) (o' := .cells [.p (.int .i64 w0)] 0) (by kernel_rfl) (sel_x (by kernel_rfl)) (selH_cons (o := .cells [.p (.int .i64 w1)] 0) (o' := .cells [.p (.int .i64 w1)] 0) (by kernel_rfl) (sel_x (by kernel_rfl)) (selH_cons (o := .cells [.p (.bool true)] 0) (o' := .cells [.p (.bool true)] 0) (by kernel_rfl) (sel_x (by kernel_rfl)) (selH_cons (o := .cells [.p (.int .i64 r1.1)] 0) (o' := .cells [.p (.int .i64 r1.1)] 0) (by kernel_rfl) (sel_x (by kernel_rfl)) (selH_cons (o := .cells [.p (.int .i64 r1.2.1)] 0) (o' := .cells [.p (.int .i64 r1.2.1)] 0) (by kernel_rfl) (sel_x (by kernel_rfl)) trivial))))) (by kernel_rfl) (by kernel_rfl))) rfl (show True from trivial) (by kernel_rfl)) (by kernel_rfl)
  · have hr := Option.some.inj g2
    subst hr
    exact CallI.cast (callI_of is47 (by kernel_rfl) (m := 5) (by kernel_rfl) (e := .ret) (vs := [.fn 67 [] [.ptr 2 0 1, .p (.ref [.int .i64 p1]), .ptr 3 0 1, .ptr 4 0 1]]) (SemC.post (path hm (ks := [4]) (σ' := ⟨[(4, .fn 67 [] [.ptr 7 0 1, .p (.ref [.int .i64 p1]), .ptr 5 0 1, .ptr 6 0 1])], [.cells [.p (.int .i64 w0)] 0, .cells [.p (.int .i64 w1)] 0, .hole, .hole, .hole, .cells [.p (.int .i64 r1.1)] 0, .cells [.p (.int .i64 r1.2.1)] 0, .cells [.p (.bool false)] 0]⟩) (cc := [.reg [] [] 0 [(0, none, .imm)] [0, 3], .reg [] [] 3 [(1, none, .call (.tup [.int .i64 r1.1, .int .i64 r1.2.1, .bool false])), (6, some 5, .a), (7, some 6, .a), (8, some 7, .a)] [3, 5, 6, 7], .reg [] [] 0 [] [4]])
      (ai (show CallP prog 45 [.ref [.sl (List.map e68 p0) false, .map (mapK e81 p0_1) (mapV e2 p0_1)]] (.tup [.int .i64 r1.1, .int .i64 r1.2.1, .bool false]) from h2 ▸ (F45_ok fuel (p0, p0_1) _ h1)) trivial) (by kernel_rfl)) (Weak.sel (E := [(4, .fn 67 [] [.ptr 7 0 1, .p (.ref [.int .i64 p1]), .ptr 5 0 1, .ptr 6 0 1])]) (E' := [(4, .fn 67 [] [.ptr 2 0 1, .p (.ref [.int .i64 p1]), .ptr 3 0 1, .ptr 4 0 1])]) (H := [.cells [.p (.int .i64 w0)] 0, .cells [.p (.int .i64 w1)] 0, .hole, .hole, .hole, .cells [.p (.int .i64 r1.1)] 0, .cells [.p (.int .i64 r1.2.1)] 0, .cells [.p (.bool false)] 0]) (H' := [.cells [.p (.int .i64 w0)] 0, .cells [.p (.int .i64 w1)] 0, .cells [.p (.bool false)] 0, .cells [.p (.int .i64 r1.1)] 0, .cells [.p (.int .i64 r1.2.1)] 0]) [0, 1, 7, 5, 6] (selH_cons (o := .cells [.p (.int .i64 w0)] 0) (o' := .cells [.p (.int .i64 w0)] 0) (by kernel_rfl) (sel_x (by kernel_rfl)) (selH_cons (o := .cells [.p (.int .i64 w1)] 0) (o' := .cells [.p (.int .i64 w1)] 0) (by kernel_rfl) (sel_x (by kernel_rfl)) (selH_cons (o := .cells [.p (.bool false)] 0) (o' := .cells [.p (.bool false)] 0) (by kernel_rfl) (sel_x (by kernel_rfl)) (selH_cons (o := .cells [.p (.int .i64 r1.1)] 0) (o' := .cells [.p (.int .i64 r1.1)] 0) (by kernel_rfl) (sel_x (by kernel_rfl)) (selH_cons (o := .cells [.p (.int .i64 r1.2.1)] 0) (o' := .cells [.p (.int .i64 r1.2.1)] 0) (by kernel_rfl) (sel_x (by kernel_rfl)) trivial))))) (by kernel_rfl) (by kernel_rfl))) rfl (show True from trivial) (by kernel_rfl)) (by kernel_rfl)
def L67_0  (w0 : Int) (w1 : Int) (w3 : Int) (w4 : Int) : Nat → Option (Int × Int)
  | 0 => none
  | fuel + 1 =>
    oif ((decide (w3 > 1000000000000)))
    (some ((0, 4)))
    (some ((w3, 0)))
noncomputable def L67_0_post (w0 : Int) (w1 : Int) (w3 : Int) (w4 : Int)  : (Int × Int) → Ex × St
  | y => ((.exit 0), ⟨[], [.cells [.p (.int .i64 y.1)] 0, .cells [.p (.int .i64 y.2)] 0, .cells [.p (.bool true)] 0, .cells [.p (.int .i64 w3)] 0, .cells [.p (.int .i64 w4)] 0, .loop 2 R18_1_1_1_0_1_0 [(4, .ptr 0 0 1), (5, .ptr 1 0 1)] (some .ret)]⟩)
theorem L67_0_ok  (w0 : Int) (w1 : Int) (w3 : Int) (w4 : Int)  : ∀ (fuel : Nat)  (r : (Int × Int)), L67_0 w0 w1 w3 w4 fuel  = some r →
    SemJ prog ⟨29, 6, false⟩ (codeAt [1, 1, 0, 0] (bodyOf f67)) ⟨[(0, .yld 5), (3, .ptr 3 0 1), (4, .ptr 4 0 1)], [.cells [.p (.int .i64 w0)] 0, .cells [.p (.int .i64 w1)] 0, .cells [.p (.bool true)] 0, .cells [.p (.int .i64 w3)] 0, .cells [.p (.int .i64 w4)] 0, .loop 0 R18_1_1_1_0_1_0 [(4, .ptr 0 0 1), (5, .ptr 1 0 1)] none]⟩ (L67_0_post w0 w1 w3 w4 r).1 (L67_0_post w0 w1 w3 w4 r).2
  | 0, _, h => nomatch h
  | fuel + 1, r, h => by
    unfold L67_0 at h
    refine oif_elim h (fun h1 g1 => ?_) (fun h1 g1 => ?_)
    · have hr := Option.some.inj g1
      subst hr
      exact SemC.cast (SemJ.out (e := (.exit 0)) (path hm (σ' := ⟨[], [.cells [.p (.int .i64 0)] 0, .cells [.p (.int .i64 4)] 0, .cells [.p (.bool true)] 0, .cells [.p (.int .i64 w3)] 0, .cells [.p (.int .i64 w4)] 0, .loop 2 R18_1_1_1_0_1_0 [(4, .ptr 0 0 1), (5, .ptr 1 0 1)] (some .ret)]⟩) (ks := []) (cc := [.reg [] [] 0 [(2, none, .ci (.p (.bool false)) [(0, .cells [.p (.int .i64 0)] 0), (1, .cells [.p (.int .i64 4)] 0), (5, .loop 2 R18_1_1_1_0_1_0 [(4, .ptr 0 0 1), (5, .ptr 1 0 1)] (some .ret))])] [0, 3, 4, 25]])
        (ai (roundI_of (P := prog) (l := 5) (args := [.p (.int .i64 w3)]) (H := [.cells [.p (.int .i64 w0)] 0, .cells [.p (.int .i64 w1)] 0, .cells [.p (.bool true)] 0, .cells [.p (.int .i64 w3)] 0, .cells [.p (.int .i64 w4)] 0, .loop 0 R18_1_1_1_0_1_0 [(4, .ptr 0 0 1), (5, .ptr 1 0 1)] none]) (R := R18_1_1_1_0_1_0) (env := [(4, .ptr 0 0 1), (5, .ptr 1 0 1)]) (env1 := [(4, .ptr 0 0 1), (5, .ptr 1 0 1)]) (env2 := [(4, .ptr 0 0 1), (5, .ptr 1 0 1)]) (m := 6) (e := .ret) (by kernel_rfl) (by kernel_rfl) (by kernel_rfl) (by kernel_rfl) (path hm (σ' := ⟨[(4, .ptr 0 0 1), (5, .ptr 1 0 1), (8, .p (.int .i64 w3))], [.cells [.p (.int .i64 w0)] 0, .cells [.p (.int .i64 w1)] 0, .cells [.p (.bool true)] 0, .cells [.p (.int .i64 w3)] 0, .cells [.p (.int .i64 w4)] 0, .loop 0 R18_1_1_1_0_1_0 [(4, .ptr 0 0 1), (5, .ptr 1 0 1)] none]⟩) (ks := [4, 5, 8]) (cc := [.reg [] [] 0 [] [4, 5, 8]]) trivial (by kernel_rfl)) (by kernel_rfl) (path hm (σ' := ⟨[], [.cells [.p (.int .i64 0)] 0, .cells [.p (.int .i64 4)] 0, .cells [.p (.bool true)] 0, .cells [.p (.int .i64 w3)] 0, .cells [.p (.int .i64 w4)] 0, .loop 1 R18_1_1_1_0_1_0 [(4, .ptr 0 0 1), (5, .ptr 1 0 1)] none]⟩) (ks := []) (cc := [.reg [] [] 0 [(1, none, .b true)] [4, 5, 8, 24], .reg [] [] 0 [] [4, 5]]) (ai h1 trivial) (by kernel_rfl)) (by kernel_rfl) (by kernel_rfl : _ = (.p (.bool false), [.cells [.p (.int .i64 0)] 0, .cells [.p (.int .i64 4)] 0, .cells [.p (.bool true)] 0, .cells [.p (.int .i64 w3)] 0, .cells [.p (.int .i64 w4)] 0, .loop 2 R18_1_1_1_0_1_0 [(4, .ptr 0 0 1), (5, .ptr 1 0 1)] (some .ret)]))) trivial) (by kernel_rfl)) (by simp)) (by kernel_rfl) (by kernel_rfl)
    · have hr := Option.some.inj g1
      subst hr
      exact SemC.cast (SemJ.out (e := (.exit 0)) (path hm (σ' := ⟨[], [.cells [.p (.int .i64 w3)] 0, .cells [.p (.int .i64 0)] 0, .cells [.p (.bool true)] 0, .cells [.p (.int .i64 w3)] 0, .cells [.p (.int .i64 w4)] 0, .loop 2 R18_1_1_1_0_1_0 [(4, .ptr 0 0 1), (5, .ptr 1 0 1)] (some .ret)]⟩) (ks := []) (cc := [.reg [] [] 0 [(2, none, .ci (.p (.bool false)) [(0, .cells [.p (.int .i64 w3)] 0), (1, .cells [.p (.int .i64 0)] 0), (5, .loop 2 R18_1_1_1_0_1_0 [(4, .ptr 0 0 1), (5, .ptr 1 0 1)] (some .ret))])] [0, 3, 4, 25]])
        (ai (roundI_of (P := prog) (l := 5) (args := [.p (.int .i64 w3)]) (H := [.cells [.p (.int .i64 w0)] 0, .cells [.p (.int .i64 w1)] 0, .cells [.p (.bool true)] 0, .cells [.p (.int .i64 w3)] 0, .cells [.p (.int .i64 w4)] 0, .loop 0 R18_1_1_1_0_1_0 [(4, .ptr 0 0 1), (5, .ptr 1 0 1)] none]) (R := R18_1_1_1_0_1_0) (env := [(4, .ptr 0 0 1), (5, .ptr 1 0 1)]) (env1 := [(4, .ptr 0 0 1), (5, .ptr 1 0 1)]) (env2 := [(4, .ptr 0 0 1), (5, .ptr 1 0 1)]) (m := 6) (e := .ret) (by kernel_rfl) (by kernel_rfl) (by kernel_rfl) (by kernel_rfl) (path hm (σ' := ⟨[(4, .ptr 0 0 1), (5, .ptr 1 0 1), (8, .p (.int .i64 w3))], [.cells [.p (.int .i64 w0)] 0, .cells [.p (.int .i64 w1)] 0, .cells [.p (.bool true)] 0, .cells [.p (.int .i64 w3)] 0, .cells [.p (.int .i64 w4)] 0, .loop 0 R18_1_1_1_0_1_0 [(4, .ptr 0 0 1), (5, .ptr 1 0 1)] none]⟩) (ks := [4, 5, 8]) (cc := [.reg [] [] 0 [] [4, 5, 8]]) trivial (by kernel_rfl)) (by kernel_rfl) (path hm (σ' := ⟨[], [.cells [.p (.int .i64 w3)] 0, .cells [.p (.int .i64 0)] 0, .cells [.p (.bool true)] 0, .cells [.p (.int .i64 w3)] 0, .cells [.p (.int .i64 w4)] 0, .loop 1 R18_1_1_1_0_1_0 [(4, .ptr 0 0 1), (5, .ptr 1 0 1)] none]⟩) (ks := []) (cc := [.reg [] [] 0 [(1, none, .b false)] [4, 5, 8, 24], .reg [] [] 0 [] [4, 5]]) (ai h1 trivial) (by kernel_rfl)) (by kernel_rfl) (by kernel_rfl : _ = (.p (.bool false), [.cells [.p (.int .i64 w3)] 0, .cells [.p (.int .i64 0)] 0, .cells [.p (.bool true)] 0, .cells [.p (.int .i64 w3)] 0, .cells [.p (.int .i64 w4)] 0, .loop 2 R18_1_1_1_0_1_0 [(4, .ptr 0 0 1), (5, .ptr 1 0 1)] (some .ret)]))) trivial) (by kernel_rfl)) (by simp)) (by kernel_rfl) (by kernel_rfl)
def G67  (fuel : Nat) (p2 : Int) (w0 : Int) (w1 : Int) (w2 : Bool) (w3 : Int) (w4 : Int) : Option ((Int × Int × Int) ⊕ Unit) :=
  oif (w2)
  (oif ((decide (p2 > w3)))
    (oif (decide (w4 ≠ 0)) (obind (L67_0 w0 w1 (IntKind.wrap .i64 (w3 + (IntKind.wrap .i64 ((IntKind.wrap .i64 (Int.tdiv (IntKind.wrap .i64 ((IntKind.wrap .i64 ((IntKind.wrap .i64 (p2 - w3)) + w4)) - 1)) w4)) * w4)))) w4 fuel ) fun y1 => some (.inl (y1.1, y1.2, (IntKind.wrap .i64 (w3 + (IntKind.wrap .i64 ((IntKind.wrap .i64 (Int.tdiv (IntKind.wrap .i64 ((IntKind.wrap .i64 ((IntKind.wrap .i64 (p2 - w3)) + w4)) - 1)) w4)) * w4))))))) none)
    (obind (L67_0 w0 w1 w3 w4 fuel ) fun y1 => some (.inl (y1.1, y1.2, w3))))
  (some (.inr (())))
noncomputable def G67_post (p2 : Int) (w0 : Int) (w1 : Int) (w2 : Bool) (w3 : Int) (w4 : Int)  : ((Int × Int × Int) ⊕ Unit) → IV × List MObj
  | .inl y => (.tup [], [.cells [.p (.int .i64 y.1)] 0, .cells [.p (.int .i64 y.2.1)] 0, .cells [.p (.bool true)] 0, .cells [.p (.int .i64 y.2.2)] 0, .cells [.p (.int .i64 w4)] 0, .loop 2 R18_1_1_1_0_1_0 [(4, .ptr 0 0 1), (5, .ptr 1 0 1)] (some .ret)])
  | .inr (y) => (.tup [], [.cells [.p (.int .i64 w0)] 0, .cells [.p (.int .i64 w1)] 0, .cells [.p (.bool false)] 0, .cells [.p (.int .i64 w3)] 0, .cells [.p (.int .i64 w4)] 0, .loop 0 R18_1_1_1_0_1_0 [(4, .ptr 0 0 1), (5, .ptr 1 0 1)] none])
theorem G67_ok  (fuel : Nat) (p2 : Int) (w0 : Int) (w1 : Int) (w2 : Bool) (w3 : Int) (w4 : Int)  (r : ((Int × Int × Int) ⊕ Unit)) (h : G67 fuel p2 w0 w1 w2 w3 w4 = some r) : CallI prog 67 [.yld 5, .ptr 2 0 1, .p (.ref [.int .i64 p2]), .ptr 3 0 1, .ptr 4 0 1] [.cells [.p (.int .i64 w0)] 0, .cells [.p (.int .i64 w1)] 0, .cells [.p (.bool w2)] 0, .cells [.p (.int .i64 w3)] 0, .cells [.p (.int .i64 w4)] 0, .loop 0 R18_1_1_1_0_1_0 [(4, .ptr 0 0 1), (5, .ptr 1 0 1)] none] (G67_post p2 w0 w1 w2 w3 w4 r).1 (G67_post p2 w0 w1 w2 w3 w4 r).2 := by
  unfold G67 at h
  refine oif_elim h (fun h1 g1 => ?_) (fun h1 g1 => ?_)
  · subst h1
    refine oif_elim g1 (fun h2 g2 => ?_) (fun h2 g2 => ?_)
    · refine oif_elim g2 (fun h3 g3 => ?_) (fun _ h => nomatch h)
      refine obind_elim g3 fun y1 h4 g4 => ?_
      have hr := Option.some.inj g4
      subst hr
      exact CallI.cast (callI_of is67 (by kernel_rfl) (m := 6) (by kernel_rfl) (e := .normal) (vs := []) (path hm (ks := []) (σ' := ⟨[], [.cells [.p (.int .i64 y1.1)] 0, .cells [.p (.int .i64 y1.2)] 0, .cells [.p (.bool true)] 0, .cells [.p (.int .i64 (IntKind.wrap .i64 (w3 + (IntKind.wrap .i64 ((IntKind.wrap .i64 (Int.tdiv (IntKind.wrap .i64 ((IntKind.wrap .i64 ((IntKind.wrap .i64 (p2 - w3)) + w4)) - 1)) w4)) * w4)))))] 0, .cells [.p (.int .i64 w4)] 0, .loop 2 R18_1_1_1_0_1_0 [(4, .ptr 0 0 1), (5, .ptr 1 0 1)] (some .ret)]⟩) (cc := [.reg [] [] 0 [] [0, 2, 3, 4, 7], .reg [] [] 0 [(2, none, .b true)] [0, 2, 3, 4, 10], .reg [0, 0, 0, 6, 0, 30, 62, 0, 254, 0, 1022, 2047, 4095] [(3, 12)] 0 [] [0, 3, 4], .leaf (.exit 0) ⟨[], [.cells [.p (.int .i64 y1.1)] 0, .cells [.p (.int .i64 y1.2)] 0, .cells [.p (.bool true)] 0, .cells [.p (.int .i64 (IntKind.wrap .i64 (w3 + (IntKind.wrap .i64 ((IntKind.wrap .i64 (Int.tdiv (IntKind.wrap .i64 ((IntKind.wrap .i64 ((IntKind.wrap .i64 (p2 - w3)) + w4)) - 1)) w4)) * w4)))))] 0, .cells [.p (.int .i64 w4)] 0, .loop 2 R18_1_1_1_0_1_0 [(4, .ptr 0 0 1), (5, .ptr 1 0 1)] (some .ret)]⟩])
      (ai h2 (ai (od h3) (ai (SemJ.loop (L67_0_ok w0 w1 (IntKind.wrap .i64 (w3 + (IntKind.wrap .i64 ((IntKind.wrap .i64 (Int.tdiv (IntKind.wrap .i64 ((IntKind.wrap .i64 ((IntKind.wrap .i64 (p2 - w3)) + w4)) - 1)) w4)) * w4)))) w4 fuel  _ h4)) trivial))) (by kernel_rfl)) rfl (show True from trivial) (by kernel_rfl)) (by kernel_rfl)
    · refine obind_elim g2 fun y1 h3 g3 => ?_
      have hr := Option.some.inj g3
      subst hr
      exact CallI.cast (callI_of is67 (by kernel_rfl) (m := 6) (by kernel_rfl) (e := .normal) (vs := []) (path hm (ks := []) (σ' := ⟨[], [.cells [.p (.int .i64 y1.1)] 0, .cells [.p (.int .i64 y1.2)] 0, .cells [.p (.bool true)] 0, .cells [.p (.int .i64 w3)] 0, .cells [.p (.int .i64 w4)] 0, .loop 2 R18_1_1_1_0_1_0 [(4, .ptr 0 0 1), (5, .ptr 1 0 1)] (some .ret)]⟩) (cc := [.reg [] [] 0 [] [0, 2, 3, 4, 7], .reg [] [] 0 [(2, none, .b false)] [0, 2, 3, 4, 10], .leaf (.exit 0) ⟨[], [.cells [.p (.int .i64 y1.1)] 0, .cells [.p (.int .i64 y1.2)] 0, .cells [.p (.bool true)] 0, .cells [.p (.int .i64 w3)] 0, .cells [.p (.int .i64 w4)] 0, .loop 2 R18_1_1_1_0_1_0 [(4, .ptr 0 0 1), (5, .ptr 1 0 1)] (some .ret)]⟩])
      (ai h2 (ai (SemC.pre (σ := ⟨[(0, .yld 5), (2, .p (.ref [.int .i64 p2])), (3, .ptr 3 0 1), (4, .ptr 4 0 1), (10, .p (.bool false))], [.cells [.p (.int .i64 w0)] 0, .cells [.p (.int .i64 w1)] 0, .cells [.p (.bool true)] 0, .cells [.p (.int .i64 w3)] 0, .cells [.p (.int .i64 w4)] 0, .loop 0 R18_1_1_1_0_1_0 [(4, .ptr 0 0 1), (5, .ptr 1 0 1)] none]⟩) (SemJ.loop (L67_0_ok w0 w1 w3 w4 fuel  _ h3)) (Weak.prune (E := [(0, .yld 5), (2, .p (.ref [.int .i64 p2])), (3, .ptr 3 0 1), (4, .ptr 4 0 1), (10, .p (.bool false))]) (H := [.cells [.p (.int .i64 w0)] 0, .cells [.p (.int .i64 w1)] 0, .cells [.p (.bool true)] 0, .cells [.p (.int .i64 w3)] 0, .cells [.p (.int .i64 w4)] 0, .loop 0 R18_1_1_1_0_1_0 [(4, .ptr 0 0 1), (5, .ptr 1 0 1)] none]) (σ := ⟨[(0, .yld 5), (3, .ptr 3 0 1), (4, .ptr 4 0 1)], [.cells [.p (.int .i64 w0)] 0, .cells [.p (.int .i64 w1)] 0, .cells [.p (.bool true)] 0, .cells [.p (.int .i64 w3)] 0, .cells [.p (.int .i64 w4)] 0, .loop 0 R18_1_1_1_0_1_0 [(4, .ptr 0 0 1), (5, .ptr 1 0 1)] none]⟩) [0, 3, 4] (by kernel_rfl))) trivial)) (by kernel_rfl)) rfl (show True from trivial) (by kernel_rfl)) (by kernel_rfl)
  · subst h1
    have hr := Option.some.inj g1
    subst hr
    exact CallI.cast (callI_of is67 (by kernel_rfl) (m := 6) (by kernel_rfl) (e := .ret) (vs := []) (path hm (ks := []) (σ' := ⟨[], [.cells [.p (.int .i64 w0)] 0, .cells [.p (.int .i64 w1)] 0, .cells [.p (.bool false)] 0, .cells [.p (.int .i64 w3)] 0, .cells [.p (.int .i64 w4)] 0, .loop 0 R18_1_1_1_0_1_0 [(4, .ptr 0 0 1), (5, .ptr 1 0 1)] none]⟩) (cc := [.reg [] [] 0 [] [0, 2, 3, 4, 7]])
      trivial (by kernel_rfl)) rfl (show True from trivial) (by kernel_rfl)) (by kernel_rfl)
def F18  (fuel : Nat) (p0 : (List (Int × Int))) (p1 : Int) : Option (Int × Int) :=
  (obind (F38 fuel p0 [p1]) fun y1 => match y1 with
  | .inl y1 => oif ((y1 != 0))
    (some (0, y1))
    (none)
  | .inr (y1) => obind (G47_1 fuel p0 y1 p1 0 0) fun y2 => oif (y2.1)
    ((obind (G67 fuel p1 0 0 true y2.2.1 y2.2.2) fun y3 => match y3 with
      | .inl y3 => some (y3.1, y3.2.1)
      | .inr (y3) => some (0, 21)))
    ((obind (G67 fuel p1 0 0 false y2.2.1 y2.2.2) fun y3 => match y3 with
      | .inl y3 => some (y3.1, y3.2.1)
      | .inr (y3) => some (0, 21))))
theorem F18_ok  (fuel : Nat) (p0 : (List (Int × Int))) (p1 : Int) (fp0 : Bool) (r : (Int × Int)) (h : F18 fuel p0 p1 = some r) : CallP prog 18 [.sl (List.map e68 p0) fp0, .int .i64 p1] (.tup [.int .i64 r.1, .int .i64 r.2]) := by
  unfold F18 at h
  let c27 : List CC := [.reg [] [] 2 [(0, some 0, .a), (1, some 1, .a)] [0, 1, 4, 5]]
  refine obind_elim h fun y h1 g1 => ?_
  match y, h1, g1 with
  | .inl y1, h1, g1 =>
    refine oif_elim g1 (fun h2 g2 => ?_) (fun h2 g2 => ?_)
    · have hr := Option.some.inj g2
      subst hr
      exact callP_of is18 rfl (path hm (ks := [4, 5]) (σ' := ⟨[(4, .ptr 0 0 1), (5, .ptr 1 0 1)], [.cells [.p (.int .i64 0)] 0, .cells [.p (.int .i64 y1)] 0]⟩) (cc := c27 ++ [.reg [] [] 0 [(3, none, .call (.tup [.nilp, .int .i64 y1]))] [1, 4, 5, 6, 7], .reg [] [] 0 [(1, none, .b true)] [1, 4, 5, 6, 7, 17], .reg [] [] 0 [] [4, 5]])
      (ai (F38_ok fuel p0 [p1] fp0 true _ h1) (ai h2 trivial)) (by kernel_rfl)) (e := .ret) rfl (vs := [.p (.int .i64 0), .p (.int .i64 y1)]) (ai (rfl : (1:Nat) = 1) (ai (rfl : (1:Nat) = 1) trivial)) (by kernel_rfl) (.tup _ _ (.cons _ _ _ _ (.p _ _ (.refl _)) (.cons _ _ _ _ (.p _ _ (.refl _)) .nil)))
    · exact nomatch g2
  | .inr (y1), h1, g1 =>
    refine obind_elim g1 fun y2 h2 g2 => ?_
    let c28 : List CC := c27 ++ [.reg [] [] 0 [(3, none, .call (.tup [.ref [.sl (List.map e68 p0) false, .map (mapK e81 y1) (mapV e2 y1)], .int .i64 0]))] [1, 4, 5, 6, 7], .reg [] [] 0 [] [1, 4, 5, 6, 7, 17]]
    have q29 := fun {P : Prop} (t : P) => ai (F38_ok fuel p0 [p1] fp0 true _ h1) t
    refine oif_elim g2 (fun h3 g3 => ?_) (fun h3 g3 => ?_)
    · let c30 : List CC := c28 ++ [.reg [] [] 3 [(2, none, .ci (.fn 67 [] [.ptr 2 0 1, .p (.ref [.int .i64 p1]), .ptr 3 0 1, .ptr 4 0 1]) [(2, .cells [.p (.bool true)] 0), (3, .cells [.p (.int .i64 y2.2.1)] 0), (4, .cells [.p (.int .i64 y2.2.2)] 0)])] [4, 5, 21]]
      have q31 := fun {P : Prop} (t : P) => ai (CallI.cast (G47_1_ok fuel p0 y1 p1 0 0 _ h2) (congrArg (fun ZZ : Bool => ((.fn 67 [] [.ptr 2 0 1, .p (.ref [.int .i64 p1]), .ptr 3 0 1, .ptr 4 0 1], [.cells [.p (.int .i64 0)] 0, .cells [.p (.int .i64 0)] 0, .cells [.p (.bool ZZ)] 0, .cells [.p (.int .i64 y2.2.1)] 0, .cells [.p (.int .i64 y2.2.2)] 0]) : IV × List MObj)) h3)) t
      refine obind_elim g3 fun y h4 g4 => ?_
      match y, h4, g4 with
      | .inl y3, h4, g4 =>
        have hr := Option.some.inj g4
        subst hr
        exact callP_of is18 rfl (path hm (ks := [4, 5]) (σ' := ⟨[(4, .ptr 0 0 1), (5, .ptr 1 0 1)], [.cells [.p (.int .i64 y3.1)] 0, .cells [.p (.int .i64 y3.2.1)] 0, .cells [.p (.bool true)] 0, .cells [.p (.int .i64 y3.2.2)] 0, .cells [.p (.int .i64 y2.2.2)] 0, .dead]⟩) (cc := c30 ++ [.leaf .ret ⟨[(4, .ptr 0 0 1), (5, .ptr 1 0 1), (21, .fn 67 [] [.ptr 2 0 1, .p (.ref [.int .i64 p1]), .ptr 3 0 1, .ptr 4 0 1])], [.cells [.p (.int .i64 y3.1)] 0, .cells [.p (.int .i64 y3.2.1)] 0, .cells [.p (.bool true)] 0, .cells [.p (.int .i64 y3.2.2)] 0, .cells [.p (.int .i64 y2.2.2)] 0, .dead]⟩])
      (q29 (q31 (ai (range_of (P := prog) (nt := 26) (m := 0) (n := 5) (c := codeAt [1, 1, 1, 0, 1, 0] (bodyOf f18)) (σ := ⟨[(4, .ptr 0 0 1), (5, .ptr 1 0 1), (21, .fn 67 [] [.ptr 2 0 1, .p (.ref [.int .i64 p1]), .ptr 3 0 1, .ptr 4 0 1])], [.cells [.p (.int .i64 0)] 0, .cells [.p (.int .i64 0)] 0, .cells [.p (.bool true)] 0, .cells [.p (.int .i64 y2.2.1)] 0, .cells [.p (.int .i64 y2.2.2)] 0]⟩) (f := 67) (args := [.yld 5, .ptr 2 0 1, .p (.ref [.int .i64 p1]), .ptr 3 0 1, .ptr 4 0 1]) (H3 := [.cells [.p (.int .i64 y3.1)] 0, .cells [.p (.int .i64 y3.2.1)] 0, .cells [.p (.bool true)] 0, .cells [.p (.int .i64 y3.2.2)] 0, .cells [.p (.int .i64 y2.2.2)] 0, .dead]) (e := .ret) (s := 2) (R := R18_1_1_1_0_1_0) (R' := R18_1_1_1_0_1_0) (env' := [(4, .ptr 0 0 1), (5, .ptr 1 0 1)]) [4, 5] (by kernel_rfl) (by kernel_rfl) (by kernel_rfl) (by kernel_rfl) (G67_ok fuel p1 0 0 true y2.2.1 y2.2.2 _ h4) (by kernel_rfl) rfl (by kernel_rfl)) trivial))) (by kernel_rfl)) (e := .ret) rfl (vs := [.p (.int .i64 y3.1), .p (.int .i64 y3.2.1)]) (ai (rfl : (1:Nat) = 1) (ai (rfl : (1:Nat) = 1) trivial)) (by kernel_rfl) (.tup _ _ (.cons _ _ _ _ (.p _ _ (.refl _)) (.cons _ _ _ _ (.p _ _ (.refl _)) .nil)))
      | .inr (y3), h4, g4 =>
        have hr := Option.some.inj g4
        subst hr
        exact callP_of is18 rfl (path hm (ks := [4, 5]) (σ' := ⟨[(4, .ptr 0 0 1), (5, .ptr 1 0 1)], [.cells [.p (.int .i64 0)] 0, .cells [.p (.int .i64 21)] 0, .cells [.p (.bool false)] 0, .cells [.p (.int .i64 y2.2.1)] 0, .cells [.p (.int .i64 y2.2.2)] 0, .dead]⟩) (cc := c30 ++ [.leaf .normal ⟨[(4, .ptr 0 0 1), (5, .ptr 1 0 1), (21, .fn 67 [] [.ptr 2 0 1, .p (.ref [.int .i64 p1]), .ptr 3 0 1, .ptr 4 0 1])], [.cells [.p (.int .i64 0)] 0, .cells [.p (.int .i64 0)] 0, .cells [.p (.bool false)] 0, .cells [.p (.int .i64 y2.2.1)] 0, .cells [.p (.int .i64 y2.2.2)] 0, .dead]⟩, .reg [] [] 0 [] [4, 5]])
      (q29 (q31 (ai (range_of (P := prog) (nt := 26) (m := 0) (n := 5) (c := codeAt [1, 1, 1, 0, 1, 0] (bodyOf f18)) (σ := ⟨[(4, .ptr 0 0 1), (5, .ptr 1 0 1), (21, .fn 67 [] [.ptr 2 0 1, .p (.ref [.int .i64 p1]), .ptr 3 0 1, .ptr 4 0 1])], [.cells [.p (.int .i64 0)] 0, .cells [.p (.int .i64 0)] 0, .cells [.p (.bool true)] 0, .cells [.p (.int .i64 y2.2.1)] 0, .cells [.p (.int .i64 y2.2.2)] 0]⟩) (f := 67) (args := [.yld 5, .ptr 2 0 1, .p (.ref [.int .i64 p1]), .ptr 3 0 1, .ptr 4 0 1]) (H3 := [.cells [.p (.int .i64 0)] 0, .cells [.p (.int .i64 0)] 0, .cells [.p (.bool false)] 0, .cells [.p (.int .i64 y2.2.1)] 0, .cells [.p (.int .i64 y2.2.2)] 0, .dead]) (e := .normal) (s := 0) (R := R18_1_1_1_0_1_0) (R' := R18_1_1_1_0_1_0) (env' := [(4, .ptr 0 0 1), (5, .ptr 1 0 1)]) [4, 5] (by kernel_rfl) (by kernel_rfl) (by kernel_rfl) (by kernel_rfl) (G67_ok fuel p1 0 0 true y2.2.1 y2.2.2 _ h4) (by kernel_rfl) rfl (by kernel_rfl)) trivial))) (by kernel_rfl)) (e := .ret) rfl (vs := [.p (.int .i64 0), .p (.int .i64 21)]) (ai (rfl : (1:Nat) = 1) (ai (rfl : (1:Nat) = 1) trivial)) (by kernel_rfl) (.tup _ _ (.cons _ _ _ _ (.p _ _ (.refl _)) (.cons _ _ _ _ (.p _ _ (.refl _)) .nil)))
    · let c32 : List CC := c28 ++ [.reg [] [] 3 [(2, none, .ci (.fn 67 [] [.ptr 2 0 1, .p (.ref [.int .i64 p1]), .ptr 3 0 1, .ptr 4 0 1]) [(2, .cells [.p (.bool false)] 0), (3, .cells [.p (.int .i64 y2.2.1)] 0), (4, .cells [.p (.int .i64 y2.2.2)] 0)])] [4, 5, 21]]
      have q33 := fun {P : Prop} (t : P) => ai (CallI.cast (G47_1_ok fuel p0 y1 p1 0 0 _ h2) (congrArg (fun ZZ : Bool => ((.fn 67 [] [.ptr 2 0 1, .p (.ref [.int .i64 p1]), .ptr 3 0 1, .ptr 4 0 1], [.cells [.p (.int .i64 0)] 0, .cells [.p (.int .i64 0)] 0, .cells [.p (.bool ZZ)] 0, .cells [.p (.int .i64 y2.2.1)] 0, .cells [.p (.int .i64 y2.2.2)] 0]) : IV × List MObj)) h3)) t
      refine obind_elim g3 fun y h4 g4 => ?_
      match y, h4, g4 with
      | .inl y3, h4, g4 =>
        have hr := Option.some.inj g4
        subst hr
        exact callP_of is18 rfl (path hm (ks := [4, 5]) (σ' := ⟨[(4, .ptr 0 0 1), (5, .ptr 1 0 1)], [.cells [.p (.int .i64 y3.1)] 0, .cells [.p (.int .i64 y3.2.1)] 0, .cells [.p (.bool true)] 0, .cells [.p (.int .i64 y3.2.2)] 0, .cells [.p (.int .i64 y2.2.2)] 0, .dead]⟩) (cc := c32 ++ [.leaf .ret ⟨[(4, .ptr 0 0 1), (5, .ptr 1 0 1), (21, .fn 67 [] [.ptr 2 0 1, .p (.ref [.int .i64 p1]), .ptr 3 0 1, .ptr 4 0 1])], [.cells [.p (.int .i64 y3.1)] 0, .cells [.p (.int .i64 y3.2.1)] 0, .cells [.p (.bool true)] 0, .cells [.p (.int .i64 y3.2.2)] 0, .cells [.p (.int .i64 y2.2.2)] 0, .dead]⟩])
      (q29 (q33 (ai (range_of (P := prog) (nt := 26) (m := 0) (n := 5) (c := codeAt [1, 1, 1, 0, 1, 0] (bodyOf f18)) (σ := ⟨[(4, .ptr 0 0 1), (5, .ptr 1 0 1), (21, .fn 67 [] [.ptr 2 0 1, .p (.ref [.int .i64 p1]), .ptr 3 0 1, .ptr 4 0 1])], [.cells [.p (.int .i64 0)] 0, .cells [.p (.int .i64 0)] 0, .cells [.p (.bool false)] 0, .cells [.p (.int .i64 y2.2.1)] 0, .cells [.p (.int .i64 y2.2.2)] 0]⟩) (f := 67) (args := [.yld 5, .ptr 2 0 1, .p (.ref [.int .i64 p1]), .ptr 3 0 1, .ptr 4 0 1]) (H3 := [.cells [.p (.int .i64 y3.1)] 0, .cells [.p (.int .i64 y3.2.1)] 0, .cells [.p (.bool true)] 0, .cells [.p (.int .i64 y3.2.2)] 0, .cells [.p (.int .i64 y2.2.2)] 0, .dead]) (e := .ret) (s := 2) (R := R18_1_1_1_0_1_0) (R' := R18_1_1_1_0_1_0) (env' := [(4, .ptr 0 0 1), (5, .ptr 1 0 1)]) [4, 5] (by kernel_rfl) (by kernel_rfl) (by kernel_rfl) (by kernel_rfl) (G67_ok fuel p1 0 0 false y2.2.1 y2.2.2 _ h4) (by kernel_rfl) rfl (by kernel_rfl)) trivial))) (by kernel_rfl)) (e := .ret) rfl (vs := [.p (.int .i64 y3.1), .p (.int .i64 y3.2.1)]) (ai (rfl : (1:Nat) = 1) (ai (rfl : (1:Nat) = 1) trivial)) (by kernel_rfl) (.tup _ _ (.cons _ _ _ _ (.p _ _ (.refl _)) (.cons _ _ _ _ (.p _ _ (.refl _)) .nil)))
      | .inr (y3), h4, g4 =>
        have hr := Option.some.inj g4
        subst hr
        exact callP_of is18 rfl (path hm (ks := [4, 5]) (σ' := ⟨[(4, .ptr 0 0 1), (5, .ptr 1 0 1)], [.cells [.p (.int .i64 0)] 0, .cells [.p (.int .i64 21)] 0, .cells [.p (.bool false)] 0, .cells [.p (.int .i64 y2.2.1)] 0, .cells [.p (.int .i64 y2.2.2)] 0, .dead]⟩) (cc := c32 ++ [.leaf .normal ⟨[(4, .ptr 0 0 1), (5, .ptr 1 0 1), (21, .fn 67 [] [.ptr 2 0 1, .p (.ref [.int .i64 p1]), .ptr 3 0 1, .ptr 4 0 1])], [.cells [.p (.int .i64 0)] 0, .cells [.p (.int .i64 0)] 0, .cells [.p (.bool false)] 0, .cells [.p (.int .i64 y2.2.1)] 0, .cells [.p (.int .i64 y2.2.2)] 0, .dead]⟩, .reg [] [] 0 [] [4, 5]])
      (q29 (q33 (ai (range_of (P := prog) (nt := 26) (m := 0) (n := 5) (c := codeAt [1, 1, 1, 0, 1, 0] (bodyOf f18)) (σ := ⟨[(4, .ptr 0 0 1), (5, .ptr 1 0 1), (21, .fn 67 [] [.ptr 2 0 1, .p (.ref [.int .i64 p1]), .ptr 3 0 1, .ptr 4 0 1])], [.cells [.p (.int .i64 0)] 0, .cells [.p (.int .i64 0)] 0, .cells [.p (.bool false)] 0, .cells [.p (.int .i64 y2.2.1)] 0, .cells [.p (.int .i64 y2.2.2)] 0]⟩) (f := 67) (args := [.yld 5, .ptr 2 0 1, .p (.ref [.int .i64 p1]), .ptr 3 0 1, .ptr 4 0 1]) (H3 := [.cells [.p (.int .i64 0)] 0, .cells [.p (.int .i64 0)] 0, .cells [.p (.bool false)] 0, .cells [.p (.int .i64 y2.2.1)] 0, .cells [.p (.int .i64 y2.2.2)] 0, .dead]) (e := .normal) (s := 0) (R := R18_1_1_1_0_1_0) (R' := R18_1_1_1_0_1_0) (env' := [(4, .ptr 0 0 1), (5, .ptr 1 0 1)]) [4, 5] (by kernel_rfl) (by kernel_rfl) (by kernel_rfl) (by kernel_rfl) (G67_ok fuel p1 0 0 false y2.2.1 y2.2.2 _ h4) (by kernel_rfl) rfl (by kernel_rfl)) trivial))) (by kernel_rfl)) (e := .ret) rfl (vs := [.p (.int .i64 0), .p (.int .i64 21)]) (ai (rfl : (1:Nat) = 1) (ai (rfl : (1:Nat) = 1) trivial)) (by kernel_rfl) (.tup _ _ (.cons _ _ _ _ (.p _ _ (.refl _)) (.cons _ _ _ _ (.p _ _ (.refl _)) .nil)))
def F20  (fuel : Nat) (p0 : (List (Int × Int))) (p1 : Int) (p2 : Int) : Option (Int × Int) :=
  (obind (F38 fuel p0 [p1, p2]) fun y1 => match y1 with
  | .inl y1 => oif ((y1 != 0))
    (some (0, y1))
    (oif ((decide (p1 > p2)))
      (some (0, 2))
      (none))
  | .inr (y1) => oif ((decide (p1 > p2)))
    (some (0, 2))
    (obind (F45 fuel (p0, y1)) fun r2 => oif (r2.2.2)
      (oif ((decide (r2.1 > p2)))
        (some (0, 0))
        (oif (decide (r2.2.1 ≠ 0)) (oif ((decide (p1 > r2.1)))
          (some ((IntKind.wrap .i64 ((IntKind.wrap .i64 ((IntKind.wrap .i64 (Int.tdiv (IntKind.wrap .i64 (p2 - r2.1)) r2.2.1)) + 1)) - (IntKind.wrap .i64 ((IntKind.wrap .i64 (Int.tdiv (IntKind.wrap .i64 ((IntKind.wrap .i64 (p1 - 1)) - r2.1)) r2.2.1)) + 1)))), 0))
          (some ((IntKind.wrap .i64 ((IntKind.wrap .i64 (Int.tdiv (IntKind.wrap .i64 (p2 - r2.1)) r2.2.1)) + 1)), 0))) none))
      (some (0, 0))))
theorem F20_ok  (fuel : Nat) (p0 : (List (Int × Int))) (p1 : Int) (p2 : Int) (fp0 : Bool) (r : (Int × Int)) (h : F20 fuel p0 p1 p2 = some r) : CallP prog 20 [.sl (List.map e68 p0) fp0, .int .i64 p1, .int .i64 p2] (.tup [.int .i64 r.1, .int .i64 r.2]) := by
  unfold F20 at h
  let c34 : List CC := [.reg [] [] 0 [] [0, 1, 2]]
  refine obind_elim h fun y h1 g1 => ?_
  match y, h1, g1 with
  | .inl y1, h1, g1 =>
    refine oif_elim g1 (fun h2 g2 => ?_) (fun h2 g2 => ?_)
    · have hr := Option.some.inj g2
      subst hr
      exact callP_of is20 rfl (path hm (ks := [6, 7]) (σ' := ⟨[(6, .p (.int .i64 0)), (7, .p (.int .i64 y1))], []⟩) (cc := c34 ++ [.reg [] [] 0 [(4, none, .call (.tup [.nilp, .int .i64 y1]))] [1, 2, 8, 9], .reg [] [] 0 [(1, none, .b true)] [1, 2, 8, 9, 22], .reg [] [] 0 [] [6, 7]])
      (ai (F38_ok fuel p0 [p1, p2] fp0 true _ h1) (ai h2 trivial)) (by kernel_rfl)) (e := .ret) rfl (vs := [.p (.int .i64 0), .p (.int .i64 y1)]) trivial (by kernel_rfl) (.tup _ _ (.cons _ _ _ _ (.p _ _ (.refl _)) (.cons _ _ _ _ (.p _ _ (.refl _)) .nil)))
    · refine oif_elim g2 (fun h3 g3 => ?_) (fun h3 g3 => ?_)
      · have hr := Option.some.inj g3
        subst hr
        exact callP_of is20 rfl (path hm (ks := [6, 7]) (σ' := ⟨[(6, .p (.int .i64 0)), (7, .p (.int .i64 2))], []⟩) (cc := c34 ++ [.reg [] [] 0 [(4, none, .call (.tup [.nilp, .int .i64 y1]))] [1, 2, 8, 9], .reg [] [] 0 [(1, none, .b false)] [1, 2, 8, 9, 22], .reg [] [] 0 [(2, none, .b true)] [1, 2, 8, 26], .reg [] [] 0 [] [6, 7]])
      (ai (F38_ok fuel p0 [p1, p2] fp0 true _ h1) (ai h2 (ai h3 trivial))) (by kernel_rfl)) (e := .ret) rfl (vs := [.p (.int .i64 0), .p (.int .i64 2)]) trivial (by kernel_rfl) (.tup _ _ (.cons _ _ _ _ (.p _ _ (.refl _)) (.cons _ _ _ _ (.p _ _ (.refl _)) .nil)))
      · exact nomatch g3
  | .inr (y1), h1, g1 =>
    let c35 : List CC := c34 ++ [.reg [] [] 0 [(4, none, .call (.tup [.ref [.sl (List.map e68 p0) false, .map (mapK e81 y1) (mapV e2 y1)], .int .i64 0]))] [1, 2, 8, 9], .reg [] [] 0 [] [1, 2, 8, 9, 22]]
    have q36 := fun {P : Prop} (t : P) => ai (F38_ok fuel p0 [p1, p2] fp0 true _ h1) t
    refine oif_elim g1 (fun h2 g2 => ?_) (fun h2 g2 => ?_)
    · have hr := Option.some.inj g2
      subst hr
      exact callP_of is20 rfl (path hm (ks := [6, 7]) (σ' := ⟨[(6, .p (.int .i64 0)), (7, .p (.int .i64 2))], []⟩) (cc := c35 ++ [.reg [] [] 0 [(2, none, .b true)] [1, 2, 8, 26], .reg [] [] 0 [] [6, 7]])
      (q36 (ai h2 trivial)) (by kernel_rfl)) (e := .ret) rfl (vs := [.p (.int .i64 0), .p (.int .i64 2)]) trivial (by kernel_rfl) (.tup _ _ (.cons _ _ _ _ (.p _ _ (.refl _)) (.cons _ _ _ _ (.p _ _ (.refl _)) .nil)))
    · refine obind_elim g2 fun r2 h3 g3 => ?_
      let c37 : List CC := c35 ++ [.reg [] [] 0 [(2, none, .b false)] [1, 2, 8, 26]]
      refine oif_elim g3 (fun h4 g4 => ?_) (fun h4 g4 => ?_)
      · let c38 : List CC := c37 ++ [.reg [] [] 0 [(1, none, .call (.tup [.int .i64 r2.1, .int .i64 r2.2.1, .bool true]))] [1, 2, 10, 11, 12]]
        refine oif_elim g4 (fun h5 g5 => ?_) (fun h5 g5 => ?_)
        · have hr := Option.some.inj g5
          subst hr
          exact callP_of is20 rfl (path hm (ks := [6, 7]) (σ' := ⟨[(6, .p (.int .i64 0)), (7, .p (.int .i64 0))], []⟩) (cc := c38 ++ [.reg [] [] 0 [(5, none, .b true)] [1, 2, 10, 11, 42], .reg [] [] 0 [] [6, 7]])
      (q36 (ai h2 (ai (show CallP prog 45 [.ref [.sl (List.map e68 p0) false, .map (mapK e81 y1) (mapV e2 y1)]] (.tup [.int .i64 r2.1, .int .i64 r2.2.1, .bool true]) from h4 ▸ (F45_ok fuel (p0, y1) _ h3)) (ai h5 trivial)))) (by kernel_rfl)) (e := .ret) rfl (vs := [.p (.int .i64 0), .p (.int .i64 0)]) trivial (by kernel_rfl) (.tup _ _ (.cons _ _ _ _ (.p _ _ (.refl _)) (.cons _ _ _ _ (.p _ _ (.refl _)) .nil)))
        · refine oif_elim g5 (fun h6 g6 => ?_) (fun _ h => nomatch h)
          let c39 : List CC := c38 ++ [.reg [] [] 0 [(5, none, .b false)] [1, 2, 10, 11, 42], .reg [] [] 0 [] [1, 10, 11, 13]]
          refine oif_elim g6 (fun h7 g7 => ?_) (fun h7 g7 => ?_)
          · have hr := Option.some.inj g7
            subst hr
            exact callP_of is20 rfl (path hm (ks := [6, 7]) (σ' := ⟨[(6, .p (.int .i64 (IntKind.wrap .i64 ((IntKind.wrap .i64 ((IntKind.wrap .i64 (Int.tdiv (IntKind.wrap .i64 (p2 - r2.1)) r2.2.1)) + 1)) - (IntKind.wrap .i64 ((IntKind.wrap .i64 (Int.tdiv (IntKind.wrap .i64 ((IntKind.wrap .i64 (p1 - 1)) - r2.1)) r2.2.1)) + 1)))))), (7, .p (.int .i64 0))], []⟩) (cc := c39 ++ [.reg [] [] 0 [(2, none, .b true)] [1, 10, 11, 13, 51], .reg [] [] 0 [] [13], .reg [] [] 0 [] [6, 7]])
      (q36 (ai h2 (ai (show CallP prog 45 [.ref [.sl (List.map e68 p0) false, .map (mapK e81 y1) (mapV e2 y1)]] (.tup [.int .i64 r2.1, .int .i64 r2.2.1, .bool true]) from h4 ▸ (F45_ok fuel (p0, y1) _ h3)) (ai h5 (ai (od h6) (ai h7 (ai (od h6) trivial))))))) (by kernel_rfl)) (e := .ret) rfl (vs := [.p (.int .i64 (IntKind.wrap .i64 ((IntKind.wrap .i64 ((IntKind.wrap .i64 (Int.tdiv (IntKind.wrap .i64 (p2 - r2.1)) r2.2.1)) + 1)) - (IntKind.wrap .i64 ((IntKind.wrap .i64 (Int.tdiv (IntKind.wrap .i64 ((IntKind.wrap .i64 (p1 - 1)) - r2.1)) r2.2.1)) + 1))))), .p (.int .i64 0)]) trivial (by kernel_rfl) (.tup _ _ (.cons _ _ _ _ (.p _ _ (.refl _)) (.cons _ _ _ _ (.p _ _ (.refl _)) .nil)))
          · have hr := Option.some.inj g7
            subst hr
            exact callP_of is20 rfl (path hm (ks := [6, 7]) (σ' := ⟨[(6, .p (.int .i64 (IntKind.wrap .i64 ((IntKind.wrap .i64 (Int.tdiv (IntKind.wrap .i64 (p2 - r2.1)) r2.2.1)) + 1)))), (7, .p (.int .i64 0))], []⟩) (cc := c39 ++ [.reg [] [] 0 [(2, none, .b false)] [1, 10, 11, 13, 51], .reg [] [] 0 [] [6, 7]])
      (q36 (ai h2 (ai (show CallP prog 45 [.ref [.sl (List.map e68 p0) false, .map (mapK e81 y1) (mapV e2 y1)]] (.tup [.int .i64 r2.1, .int .i64 r2.2.1, .bool true]) from h4 ▸ (F45_ok fuel (p0, y1) _ h3)) (ai h5 (ai (od h6) (ai h7 trivial)))))) (by kernel_rfl)) (e := .ret) rfl (vs := [.p (.int .i64 (IntKind.wrap .i64 ((IntKind.wrap .i64 (Int.tdiv (IntKind.wrap .i64 (p2 - r2.1)) r2.2.1)) + 1))), .p (.int .i64 0)]) trivial (by kernel_rfl) (.tup _ _ (.cons _ _ _ _ (.p _ _ (.refl _)) (.cons _ _ _ _ (.p _ _ (.refl _)) .nil)))
      · have hr := Option.some.inj g4
        subst hr
        exact callP_of is20 rfl (path hm (ks := [6, 7]) (σ' := ⟨[(6, .p (.int .i64 0)), (7, .p (.int .i64 0))], []⟩) (cc := c37 ++ [.reg [] [] 0 [(1, none, .call (.tup [.int .i64 r2.1, .int .i64 r2.2.1, .bool false]))] [1, 2, 10, 11, 12], .reg [] [] 0 [] [1, 2, 10, 11, 42], .reg [] [] 0 [] [6, 7]])
      (q36 (ai h2 (ai (show CallP prog 45 [.ref [.sl (List.map e68 p0) false, .map (mapK e81 y1) (mapV e2 y1)]] (.tup [.int .i64 r2.1, .int .i64 r2.2.1, .bool false]) from h4 ▸ (F45_ok fuel (p0, y1) _ h3)) trivial))) (by kernel_rfl)) (e := .ret) rfl (vs := [.p (.int .i64 0), .p (.int .i64 0)]) trivial (by kernel_rfl) (.tup _ _ (.cons _ _ _ _ (.p _ _ (.refl _)) (.cons _ _ _ _ (.p _ _ (.refl _)) .nil)))
def F22  (fuel : Nat) (p0 : (List (Int × Int))) (p1 : Int) (p2 : Int) : Option (Int × Int) :=
  (obind (F38 fuel p0 []) fun y1 => match y1 with
  | .inl y1 => oif ((y1 != 0))
    (some (0, y1))
    (obind (F43 fuel 0 (IntKind.wrap .i64 ((p0.length : Int) - 1)) [p1, p2]) fun r2 => oif (r2)
      (oif ((p1 == p2))
        (some (0, 2))
        (none))
      (some (0, 2)))
  | .inr (y1) => obind (F43 fuel 0 (IntKind.wrap .i64 ((p0.length : Int) - 1)) [p1, p2]) fun r2 => oif (r2)
    (oif ((p1 == p2))
      (some (0, 2))
      (oif (mhas y1 ((minL p1 [p2]), (maxL p1 [p2])))
        (obind (mget y1 ((minL p1 [p2]), (maxL p1 [p2]))) fun x3 => some (x3, 0))
        (some (0, 14))))
    (some (0, 2)))
theorem F22_ok  (fuel : Nat) (p0 : (List (Int × Int))) (p1 : Int) (p2 : Int) (fp0 : Bool) (r : (Int × Int)) (h : F22 fuel p0 p1 p2 = some r) : CallP prog 22 [.sl (List.map e68 p0) fp0, .int .i64 p1, .int .i64 p2] (.tup [.int .i64 r.1, .int .i64 r.2]) := by
  unfold F22 at h
  let c40 : List CC := [.reg [] [] 0 [] [0, 1, 2]]
  refine obind_elim h fun y h1 g1 => ?_
  match y, h1, g1 with
  | .inl y1, h1, g1 =>
    let c41 : List CC := c40 ++ [.reg [] [] 0 [(1, none, .cw [.sl (List.map e68 p0) fp0, .sl (List.map e2 ([] : List Int)) false] (.tup [.nilp, .int .i64 y1]))] [0, 1, 2, 8, 9]]
    refine oif_elim g1 (fun h2 g2 => ?_) (fun h2 g2 => ?_)
    · have hr := Option.some.inj g2
      subst hr
      exact callP_of is22 rfl (path hm (ks := [6, 7]) (σ' := ⟨[(6, .p (.int .i64 0)), (7, .p (.int .i64 y1))], []⟩) (cc := c41 ++ [.reg [] [] 0 [(1, none, .b true)] [0, 1, 2, 8, 9, 17], .reg [] [] 0 [] [6, 7]])
      (ai (show PVleL [.sl (List.map e68 p0) fp0, .nilsl] [.sl (List.map e68 p0) fp0, .sl (List.map e2 ([] : List Int)) false] from (.cons _ _ _ _ (.refl _) (.cons _ _ _ _ (.nil _) .nil))) (ai (F38_ok fuel p0 [] fp0 false _ h1) (ai h2 trivial))) (by kernel_rfl)) (e := .ret) rfl (vs := [.p (.int .i64 0), .p (.int .i64 y1)]) trivial (by kernel_rfl) (.tup _ _ (.cons _ _ _ _ (.p _ _ (.refl _)) (.cons _ _ _ _ (.p _ _ (.refl _)) .nil)))
    · refine obind_elim g2 fun r2 h3 g3 => ?_
      have q42 := fun {P : Prop} (t : P) => ai (F38_ok fuel p0 [] fp0 false _ h1) (ai h2 (ai (len_map e68 p0) (ai (F43_ok fuel 0 (IntKind.wrap .i64 ((p0.length : Int) - 1)) [p1, p2] true _ h3) t)))
      refine oif_elim g3 (fun h4 g4 => ?_) (fun h4 g4 => ?_)
      · subst h4
        refine oif_elim g4 (fun h5 g5 => ?_) (fun h5 g5 => ?_)
        · have hr := Option.some.inj g5
          subst hr
          exact callP_of is22 rfl (path hm (ks := [6, 7]) (σ' := ⟨[(6, .p (.int .i64 0)), (7, .p (.int .i64 2))], []⟩) (cc := c41 ++ [.reg [] [] 0 [(1, none, .b false)] [0, 1, 2, 8, 9, 17], .reg [] [] 0 [(1, none, .n (p0.length : Int)), (6, none, .call (.bool true)), (11, none, .b true)] [1, 2, 8, 21], .reg [] [] 0 [] [6, 7]])
      (ai (show PVleL [.sl (List.map e68 p0) fp0, .nilsl] [.sl (List.map e68 p0) fp0, .sl (List.map e2 ([] : List Int)) false] from (.cons _ _ _ _ (.refl _) (.cons _ _ _ _ (.nil _) .nil))) (q42 (ai h5 trivial))) (by kernel_rfl)) (e := .ret) rfl (vs := [.p (.int .i64 0), .p (.int .i64 2)]) trivial (by kernel_rfl) (.tup _ _ (.cons _ _ _ _ (.p _ _ (.refl _)) (.cons _ _ _ _ (.p _ _ (.refl _)) .nil)))
        · exact nomatch g5
      · subst h4
        have hr := Option.some.inj g4
        subst hr
        exact callP_of is22 rfl (path hm (ks := [6, 7]) (σ' := ⟨[(6, .p (.int .i64 0)), (7, .p (.int .i64 2))], []⟩) (cc := c41 ++ [.reg [] [] 0 [(1, none, .b false)] [0, 1, 2, 8, 9, 17], .reg [] [] 0 [(1, none, .n (p0.length : Int)), (6, none, .call (.bool false))] [1, 2, 8, 21], .reg [] [] 0 [] [6, 7]])
      (ai (show PVleL [.sl (List.map e68 p0) fp0, .nilsl] [.sl (List.map e68 p0) fp0, .sl (List.map e2 ([] : List Int)) false] from (.cons _ _ _ _ (.refl _) (.cons _ _ _ _ (.nil _) .nil))) (q42 trivial)) (by kernel_rfl)) (e := .ret) rfl (vs := [.p (.int .i64 0), .p (.int .i64 2)]) trivial (by kernel_rfl) (.tup _ _ (.cons _ _ _ _ (.p _ _ (.refl _)) (.cons _ _ _ _ (.p _ _ (.refl _)) .nil)))
  | .inr (y1), h1, g1 =>
    refine obind_elim g1 fun r2 h2 g2 => ?_
    let c43 : List CC := c40 ++ [.reg [] [] 0 [(1, none, .cw [.sl (List.map e68 p0) fp0, .sl (List.map e2 ([] : List Int)) false] (.tup [.ref [.sl (List.map e68 p0) false, .map (mapK e81 y1) (mapV e2 y1)], .int .i64 0]))] [0, 1, 2, 8, 9], .reg [] [] 0 [] [0, 1, 2, 8, 9, 17]]
    have q44 := fun {P : Prop} (t : P) => ai (F38_ok fuel p0 [] fp0 false _ h1) (ai (len_map e68 p0) (ai (F43_ok fuel 0 (IntKind.wrap .i64 ((p0.length : Int) - 1)) [p1, p2] true _ h2) t))
    refine oif_elim g2 (fun h3 g3 => ?_) (fun h3 g3 => ?_)
    · subst h3
      refine oif_elim g3 (fun h4 g4 => ?_) (fun h4 g4 => ?_)
      · have hr := Option.some.inj g4
        subst hr
        exact callP_of is22 rfl (path hm (ks := [6, 7]) (σ' := ⟨[(6, .p (.int .i64 0)), (7, .p (.int .i64 2))], []⟩) (cc := c43 ++ [.reg [] [] 0 [(1, none, .n (p0.length : Int)), (6, none, .call (.bool true)), (11, none, .b true)] [1, 2, 8, 21], .reg [] [] 0 [] [6, 7]])
      (ai (show PVleL [.sl (List.map e68 p0) fp0, .nilsl] [.sl (List.map e68 p0) fp0, .sl (List.map e2 ([] : List Int)) false] from (.cons _ _ _ _ (.refl _) (.cons _ _ _ _ (.nil _) .nil))) (q44 (ai h4 trivial))) (by kernel_rfl)) (e := .ret) rfl (vs := [.p (.int .i64 0), .p (.int .i64 2)]) trivial (by kernel_rfl) (.tup _ _ (.cons _ _ _ _ (.p _ _ (.refl _)) (.cons _ _ _ _ (.p _ _ (.refl _)) .nil)))
      · let c45 : List CC := c43 ++ [.reg [] [] 0 [(1, none, .n (p0.length : Int)), (6, none, .call (.bool true)), (11, none, .b false)] [1, 2, 8, 21]]
        refine oif_elim g4 (fun h5 g5 => ?_) (fun h5 g5 => ?_)
        · refine obind_elim g5 fun x3 h6 g6 => ?_
          have hr := Option.some.inj g6
          subst hr
          exact callP_of is22 rfl (path hm (ks := [6, 7]) (σ' := ⟨[(6, .p (.int .i64 x3)), (7, .p (.int .i64 0))], []⟩) (cc := c45 ++ [.reg [] [] 0 [(11, none, .mp (Int.ofNat (midx y1 ((minL p1 [p2]), (maxL p1 [p2])))) [] [] [] 0 (.int .i64 x3))] [10, 11], .reg [] [] 0 [] [10, 51], .reg [] [] 0 [] [6, 7]])
      (ai (show PVleL [.sl (List.map e68 p0) fp0, .nilsl] [.sl (List.map e68 p0) fp0, .sl (List.map e2 ([] : List Int)) false] from (.cons _ _ _ _ (.refl _) (.cons _ _ _ _ (.nil _) .nil))) (q44 (ai h4 (ai (eqD_of (k := ((minL p1 [p2]), (maxL p1 [p2]))) keq81 (rfl)) (ai (find_yes (L := y1) (k := ((minL p1 [p2]), (maxL p1 [p2]))) keq81 (rfl) (fun _ _ => rfl) h5) (ai (val_at e2 h6) trivial)))))) (by kernel_rfl)) (e := .ret) rfl (vs := [.p (.int .i64 x3), .p (.int .i64 0)]) trivial (by kernel_rfl) (.tup _ _ (.cons _ _ _ _ (.p _ _ (.refl _)) (.cons _ _ _ _ (.p _ _ (.refl _)) .nil)))
        · have hr := Option.some.inj g5
          subst hr
          exact callP_of is22 rfl (path hm (ks := [6, 7]) (σ' := ⟨[(6, .p (.int .i64 0)), (7, .p (.int .i64 14))], []⟩) (cc := c45 ++ [.reg [] [] 0 [(11, none, .mp (Int.negSucc 0) [] [] [] 0 .junk)] [10, 11], .reg [] [] 0 [] [10, 51], .reg [] [] 0 [] [6, 7]])
      (ai (show PVleL [.sl (List.map e68 p0) fp0, .nilsl] [.sl (List.map e68 p0) fp0, .sl (List.map e2 ([] : List Int)) false] from (.cons _ _ _ _ (.refl _) (.cons _ _ _ _ (.nil _) .nil))) (q44 (ai h4 (ai (eqD_of (k := ((minL p1 [p2]), (maxL p1 [p2]))) keq81 (rfl)) (ai (find_no (L := y1) (k := ((minL p1 [p2]), (maxL p1 [p2]))) keq81 (rfl) (fun _ _ => rfl) h5) trivial))))) (by kernel_rfl)) (e := .ret) rfl (vs := [.p (.int .i64 0), .p (.int .i64 14)]) trivial (by kernel_rfl) (.tup _ _ (.cons _ _ _ _ (.p _ _ (.refl _)) (.cons _ _ _ _ (.p _ _ (.refl _)) .nil)))
    · subst h3
      have hr := Option.some.inj g3
      subst hr
      exact callP_of is22 rfl (path hm (ks := [6, 7]) (σ' := ⟨[(6, .p (.int .i64 0)), (7, .p (.int .i64 2))], []⟩) (cc := c43 ++ [.reg [] [] 0 [(1, none, .n (p0.length : Int)), (6, none, .call (.bool false))] [1, 2, 8, 21], .reg [] [] 0 [] [6, 7]])
      (ai (show PVleL [.sl (List.map e68 p0) fp0, .nilsl] [.sl (List.map e68 p0) fp0, .sl (List.map e2 ([] : List Int)) false] from (.cons _ _ _ _ (.refl _) (.cons _ _ _ _ (.nil _) .nil))) (q44 trivial)) (by kernel_rfl)) (e := .ret) rfl (vs := [.p (.int .i64 0), .p (.int .i64 2)]) trivial (by kernel_rfl) (.tup _ _ (.cons _ _ _ _ (.p _ _ (.refl _)) (.cons _ _ _ _ (.p _ _ (.refl _)) .nil)))
def F52  (fuel : Nat) (p0 : (Int × Int)) (p1 : (Int × Int)) : Option Bool :=
  oif ((decide (p0.1 < p1.1)))
  (some true)
  (oif ((p0.1 == p1.1))
    (oif ((decide (p0.2 < p1.2)))
      (some true)
      (some false))
    (some false))
theorem F52_ok  (fuel : Nat) (p0 : (Int × Int)) (p1 : (Int × Int))  (r : Bool) (h : F52 fuel p0 p1 = some r) : CallP prog 52 [.agg [.int .i64 p0.1, .int .i64 p0.2], .agg [.int .i64 p1.1, .int .i64 p1.2]] (.bool r) := by
  unfold F52 at h
  let c46 : List CC := [.reg [] [] 0 [(0, none, .imm), (1, none, .imm)] [2, 3]]
  refine oif_elim h (fun h1 g1 => ?_) (fun h1 g1 => ?_)
  · have hr := Option.some.inj g1
    subst hr
    exact callP_of is52 rfl (path hm (ks := [4]) (σ' := ⟨[(4, .p (.bool true))], []⟩) (cc := c46 ++ [.reg [] [] 0 [(4, none, .b true)] [4]])
      (ai h1 trivial) (by kernel_rfl)) (e := .ret) rfl (vs := [.p (.bool true)]) trivial (by kernel_rfl) (.p _ _ (.refl _))
  · refine oif_elim g1 (fun h2 g2 => ?_) (fun h2 g2 => ?_)
    · refine oif_elim g2 (fun h3 g3 => ?_) (fun h3 g3 => ?_)
      · have hr := Option.some.inj g3
        subst hr
        exact callP_of is52 rfl (path hm (ks := [4]) (σ' := ⟨[(4, .p (.bool true))], []⟩) (cc := c46 ++ [.reg [] [] 0 [(4, none, .b false), (10, none, .b true), (16, none, .b true)] [4]])
      (ai h1 (ai h2 (ai h3 trivial))) (by kernel_rfl)) (e := .ret) rfl (vs := [.p (.bool true)]) trivial (by kernel_rfl) (.p _ _ (.refl _))
      · have hr := Option.some.inj g3
        subst hr
        exact callP_of is52 rfl (path hm (ks := [4]) (σ' := ⟨[(4, .p (.bool false))], []⟩) (cc := c46 ++ [.reg [] [] 0 [(4, none, .b false), (10, none, .b true), (16, none, .b false)] [4]])
      (ai h1 (ai h2 (ai h3 trivial))) (by kernel_rfl)) (e := .ret) rfl (vs := [.p (.bool false)]) trivial (by kernel_rfl) (.p _ _ (.refl _))
    · have hr := Option.some.inj g2
      subst hr
      exact callP_of is52 rfl (path hm (ks := [4]) (σ' := ⟨[(4, .p (.bool false))], []⟩) (cc := c46 ++ [.reg [] [] 0 [(4, none, .b false), (10, none, .b false)] [4]])
      (ai h1 (ai h2 trivial)) (by kernel_rfl)) (e := .ret) rfl (vs := [.p (.bool false)]) trivial (by kernel_rfl) (.p _ _ (.refl _))
def L51_0  (v12 : (List (Int × Int))) (v13 : Int) : Nat → Int → Int → Int → Option (Int × Int)
  | 0, _, _, _ => none
  | fuel + 1, v14, w1, w1_1 =>
    oif ((decide (v14 < v13)))
    (obind (sg v12 v14) fun x1 => obind (F52 fuel (x1.1, x1.2) (w1, w1_1)) fun r2 => oif (r2)
      (L51_0 v12 v13 fuel (IntKind.wrap .i64 (v14 + 1)) x1.1 x1.2)
      (L51_0 v12 v13 fuel (IntKind.wrap .i64 (v14 + 1)) w1 w1_1))
    (some ((w1, w1_1)))
noncomputable def L51_0_post (v12 : (List (Int × Int))) (v13 : Int) (fp0 : Bool) : (Int × Int) → Ex × St
  | y => ((.exit 0), ⟨[(4, .ptr 0 0 2), (5, .ptr 1 0 2)], [.cells [.p (.int .i64 0), .p (.int .i64 0)] 0, .cells [.p (.int .i64 y.1), .p (.int .i64 y.2)] 0]⟩)
theorem L51_0_ok  (v12 : (List (Int × Int))) (v13 : Int) (fp0 : Bool) : ∀ (fuel : Nat) (v14 : Int) (w1 : Int) (w1_1 : Int) (r : (Int × Int)), L51_0 v12 v13 fuel v14 w1 w1_1 = some r →
    SemJ prog ⟨25, 0, false⟩ (codeAt [1, 1, 0, 1, 0, 0] (bodyOf f51)) ⟨[(1, .p (.fn 52 [] [])), (4, .ptr 0 0 2), (5, .ptr 1 0 2), (12, .p (.sl (List.map e81 v12) fp0)), (13, .p (.int .i64 v13)), (14, .p (.int .i64 v14))], [.cells [.p (.int .i64 0), .p (.int .i64 0)] 0, .cells [.p (.int .i64 w1), .p (.int .i64 w1_1)] 0]⟩ (L51_0_post v12 v13 fp0 r).1 (L51_0_post v12 v13 fp0 r).2
  | 0, _, _, _, _, h => nomatch h
  | fuel + 1, v14, w1, w1_1, r, h => by
    unfold L51_0 at h
    refine oif_elim h (fun h1 g1 => ?_) (fun h1 g1 => ?_)
    · refine obind_elim g1 fun x1 h2 g2 => ?_
      refine obind_elim g2 fun r2 h3 g3 => ?_
      let c47 : List CC := [.reg [] [] 0 [(0, none, .b true)] [1, 4, 5, 12, 13, 14, 15], .reg [] [] 1 [(0, none, .iv (.p (.agg [.int .i64 x1.1, .int .i64 x1.2]))), (2, some 2, .a)] [1, 4, 5, 7, 12, 13, 14]]
      refine oif_elim g3 (fun h4 g4 => ?_) (fun h4 g4 => ?_)
      · subst h4
        exact SemJ.again (σ1 := ⟨[(1, .p (.fn 52 [] [])), (4, .ptr 0 0 2), (5, .ptr 1 0 2), (12, .p (.sl (List.map e81 v12) fp0)), (13, .p (.int .i64 v13)), (14, .p (.int .i64 (IntKind.wrap .i64 (v14 + 1))))], [.cells [.p (.int .i64 0), .p (.int .i64 0)] 0, .cells [.p (.int .i64 x1.1), .p (.int .i64 x1.2)] 0]⟩) (SemC.post (path hm (σ' := ⟨[(1, .p (.fn 52 [] [])), (4, .ptr 0 0 2), (5, .ptr 1 0 2), (12, .p (.sl (List.map e81 v12) fp0)), (13, .p (.int .i64 v13)), (14, .p (.int .i64 (IntKind.wrap .i64 (v14 + 1))))], [.cells [.p (.int .i64 0), .p (.int .i64 0)] 0, .cells [.p (.int .i64 x1.1), .p (.int .i64 x1.2)] 0, .cells [.p (.int .i64 x1.1), .p (.int .i64 x1.2)] 0]⟩) (ks := [1, 4, 5, 12, 13, 14]) (cc := c47 ++ [.reg [] [] 0 [(3, none, .call (.bool true))] [1, 4, 5, 7, 12, 13, 14, 21], .reg [] [] 0 [] [1, 4, 5, 12, 13, 14], .reg [] [] 0 [] [1, 4, 5, 12, 13, 14]])
        (ai h1 (ai (sg_map (f := e81) h2) (ai (F52_ok fuel (x1.1, x1.2) (w1, w1_1) _ h3) trivial))) (by kernel_rfl)) (Weak.sel (E := [(1, .p (.fn 52 [] [])), (4, .ptr 0 0 2), (5, .ptr 1 0 2), (12, .p (.sl (List.map e81 v12) fp0)), (13, .p (.int .i64 v13)), (14, .p (.int .i64 (IntKind.wrap .i64 (v14 + 1))))]) (E' := [(1, .p (.fn 52 [] [])), (4, .ptr 0 0 2), (5, .ptr 1 0 2), (12, .p (.sl (List.map e81 v12) fp0)), (13, .p (.int .i64 v13)), (14, .p (.int .i64 (IntKind.wrap .i64 (v14 + 1))))]) (H := [.cells [.p (.int .i64 0), .p (.int .i64 0)] 0, .cells [.p (.int .i64 x1.1), .p (.int .i64 x1.2)] 0, .cells [.p (.int .i64 x1.1), .p (.int .i64 x1.2)] 0]) (H' := [.cells [.p (.int .i64 0), .p (.int .i64 0)] 0, .cells [.p (.int .i64 x1.1), .p (.int .i64 x1.2)] 0]) [0, 1] (selH_cons (o := .cells [.p (.int .i64 0), .p (.int .i64 0)] 0) (o' := .cells [.p (.int .i64 0), .p (.int .i64 0)] 0) (by kernel_rfl) (sel_x (by kernel_rfl)) (selH_cons (o := .cells [.p (.int .i64 x1.1), .p (.int .i64 x1.2)] 0) (o' := .cells [.p (.int .i64 x1.1), .p (.int .i64 x1.2)] 0) (by kernel_rfl) (sel_x (by kernel_rfl)) trivial)) (by kernel_rfl) (by kernel_rfl))) (L51_0_ok v12 v13 fp0 fuel (IntKind.wrap .i64 (v14 + 1)) x1.1 x1.2 _ g4)
      · subst h4
        exact SemJ.again (σ1 := ⟨[(1, .p (.fn 52 [] [])), (4, .ptr 0 0 2), (5, .ptr 1 0 2), (12, .p (.sl (List.map e81 v12) fp0)), (13, .p (.int .i64 v13)), (14, .p (.int .i64 (IntKind.wrap .i64 (v14 + 1))))], [.cells [.p (.int .i64 0), .p (.int .i64 0)] 0, .cells [.p (.int .i64 w1), .p (.int .i64 w1_1)] 0]⟩) (SemC.post (path hm (σ' := ⟨[(1, .p (.fn 52 [] [])), (4, .ptr 0 0 2), (5, .ptr 1 0 2), (12, .p (.sl (List.map e81 v12) fp0)), (13, .p (.int .i64 v13)), (14, .p (.int .i64 (IntKind.wrap .i64 (v14 + 1))))], [.cells [.p (.int .i64 0), .p (.int .i64 0)] 0, .cells [.p (.int .i64 w1), .p (.int .i64 w1_1)] 0, .cells [.p (.int .i64 x1.1), .p (.int .i64 x1.2)] 0]⟩) (ks := [1, 4, 5, 12, 13, 14]) (cc := c47 ++ [.reg [] [] 0 [(3, none, .call (.bool false))] [1, 4, 5, 7, 12, 13, 14, 21], .reg [] [] 0 [] [1, 4, 5, 12, 13, 14]])
        (ai h1 (ai (sg_map (f := e81) h2) (ai (F52_ok fuel (x1.1, x1.2) (w1, w1_1) _ h3) trivial))) (by kernel_rfl)) (Weak.sel (E := [(1, .p (.fn 52 [] [])), (4, .ptr 0 0 2), (5, .ptr 1 0 2), (12, .p (.sl (List.map e81 v12) fp0)), (13, .p (.int .i64 v13)), (14, .p (.int .i64 (IntKind.wrap .i64 (v14 + 1))))]) (E' := [(1, .p (.fn 52 [] [])), (4, .ptr 0 0 2), (5, .ptr 1 0 2), (12, .p (.sl (List.map e81 v12) fp0)), (13, .p (.int .i64 v13)), (14, .p (.int .i64 (IntKind.wrap .i64 (v14 + 1))))]) (H := [.cells [.p (.int .i64 0), .p (.int .i64 0)] 0, .cells [.p (.int .i64 w1), .p (.int .i64 w1_1)] 0, .cells [.p (.int .i64 x1.1), .p (.int .i64 x1.2)] 0]) (H' := [.cells [.p (.int .i64 0), .p (.int .i64 0)] 0, .cells [.p (.int .i64 w1), .p (.int .i64 w1_1)] 0]) [0, 1] (selH_cons (o := .cells [.p (.int .i64 0), .p (.int .i64 0)] 0) (o' := .cells [.p (.int .i64 0), .p (.int .i64 0)] 0) (by kernel_rfl) (sel_x (by kernel_rfl)) (selH_cons (o := .cells [.p (.int .i64 w1), .p (.int .i64 w1_1)] 0) (o' := .cells [.p (.int .i64 w1), .p (.int .i64 w1_1)] 0) (by kernel_rfl) (sel_x (by kernel_rfl)) trivial)) (by kernel_rfl) (by kernel_rfl))) (L51_0_ok v12 v13 fp0 fuel (IntKind.wrap .i64 (v14 + 1)) w1 w1_1 _ g4)
    · have hr := Option.some.inj g1
      subst hr
      exact SemC.cast (SemJ.out (e := (.exit 0)) (path hm (σ' := ⟨[(4, .ptr 0 0 2), (5, .ptr 1 0 2)], [.cells [.p (.int .i64 0), .p (.int .i64 0)] 0, .cells [.p (.int .i64 w1), .p (.int .i64 w1_1)] 0]⟩) (ks := [4, 5]) (cc := [.reg [] [] 0 [(0, none, .b false)] [1, 4, 5, 12, 13, 14, 15]])
        (ai h1 trivial) (by kernel_rfl)) (by simp)) (by kernel_rfl) (by kernel_rfl)
def F51  (fuel : Nat) (p0 : (List (Int × Int))) : Option (Int × Int) :=
  obind (sg p0 0) fun x1 => obind (subL p0 (some 1) none) fun x2 => obind (L51_0 x2 (x2.length : Int) fuel 0 x1.1 x1.2) fun y3 => some (y3.1, y3.2)
theorem F51_ok  (fuel : Nat) (p0 : (List (Int × Int))) (fp0 : Bool) (r : (Int × Int)) (h : F51 fuel p0 = some r) : CallP prog 51 [.sl (List.map e81 p0) fp0, .fn 52 [] []] (.agg [.int .i64 r.1, .int .i64 r.2]) := by
  unfold F51 at h
  refine obind_elim h fun x1 h1 g1 => ?_
  refine obind_elim g1 fun x2 h2 g2 => ?_
  refine obind_elim g2 fun y3 h3 g3 => ?_
  have hr := Option.some.inj g3
  subst hr
  exact callP_of is51 rfl (path hm (ks := [4]) (σ' := ⟨[(4, .ptr 0 0 2)], [.cells [.p (.int .i64 y3.1), .p (.int .i64 y3.2)] 0, .cells [.p (.int .i64 y3.1), .p (.int .i64 y3.2)] 0]⟩) (cc := [.reg [] [] 1 [(0, some 0, .a)] [0, 1, 4], .reg [] [] 1 [(1, none, .iv (.p (.agg [.int .i64 x1.1, .int .i64 x1.2]))), (3, some 1, .a)] [0, 1, 4, 5], .reg [] [] 0 [(1, none, .pvs (List.map e81 x2)), (2, none, .n (x2.length : Int))] [1, 4, 5, 12, 13, 14], .leaf (.exit 0) ⟨[(4, .ptr 0 0 2), (5, .ptr 1 0 2)], [.cells [.p (.int .i64 0), .p (.int .i64 0)] 0, .cells [.p (.int .i64 y3.1), .p (.int .i64 y3.2)] 0]⟩, .reg [] [] 0 [] [4]])
      (ai (sg_map (f := e81) h1) (ai (sub_eq e81 h2) (ai (row_es el81 p0) (ai (sub_lo0 h2) (ai (sub_lo1 e81 h2) (ai (len_map e81 x2) (ai (SemJ.loop (L51_0_ok x2 (x2.length : Int) fp0 fuel 0 x1.1 x1.2 _ h3)) trivial))))))) (by kernel_rfl)) (e := .ret) rfl (vs := [.agg [.p (.int .i64 y3.1), .p (.int .i64 y3.2)]]) (ai (rfl : (2:Nat) = 2) (ai (by decide : (2:Nat) ≤ 2) trivial)) (by kernel_rfl) (.agg _ _ (.cons _ _ _ _ (.p _ _ (.refl _)) (.cons _ _ _ _ (.p _ _ (.refl _)) .nil)))
def B24_0 (fuel : Nat) (uM : (List ((Int × Int) × Int))) (k : (Int × Int)) (v : Int) (s : (Unit ⊕ (List (Int × Int)))) : Option ((Unit ⊕ (List (Int × Int))) ⊕ (Int × Int)) :=
  match s with
  | .inl s => oif (decide (1 * 16 ≤ 140737488355328)) (some (.inl (.inr ([(k.1, k.2)])))) none
  | .inr (s) => oif (decide (((List.length s) + 1) * 16 ≤ 140737488355328)) (some (.inl (.inr ((s ++ [(k.1, k.2)]))))) none
def Z24_0 (fuel : Nat) (uM : (List ((Int × Int) × Int))) (s : (Unit ⊕ (List (Int × Int)))) : Option (Int × Int) :=
  match s with
  | .inl s => obind (F51 fuel []) fun r1 => some (r1.1, r1.2)
  | .inr (s) => obind (F51 fuel s) fun r1 => some (r1.1, r1.2)
noncomputable def L24_0_post (uM : (List ((Int × Int) × Int))) (fp0 : Bool) : (Int × Int) → Ex × St
  | y => (.ret, ⟨[(2, .p (.int .i64 y.1)), (3, .p (.int .i64 y.2)), (4, .p (.int .i64 0))], []⟩)
def ltP (a b : Int × Int) : Bool := decide (a.1 < b.1) || (a.1 == b.1 && decide (a.2 < b.2))
theorem F52_eq (fuel : Nat) (a b : Int × Int) : F52 fuel a b = some (ltP a b) := by
  unfold F52 ltP
  cases decide (a.1 < b.1) <;> cases a.1 == b.1 <;> cases decide (a.2 < b.2) <;> rfl
def minP (m : Int × Int) (L : List (Int × Int)) : Int × Int := L.foldl (fun m x => if ltP x m then x else m) m
theorem minP_in : ∀ (L : List (Int × Int)) (m : Int × Int), minP m L ∈ m :: L
  | [], m => by simp [minP]
  | x :: L, m => by
    have := minP_in L (if ltP x m then x else m)
    rw [show minP m (x :: L) = minP (if ltP x m then x else m) L from rfl]
    rcases List.mem_cons.1 this with h | h
    · rw [h]; split <;> simp
    · simp [h]
theorem ltP_trans {a b c : Int × Int} (h1 : ltP a b = false) (h2 : ltP b c = false) : ltP a c = false := by
  simp only [ltP, Bool.or_eq_false_iff, Bool.and_eq_false_iff, decide_eq_false_iff_not, beq_eq_false_iff_ne] at *
  omega
theorem ltP_irr (a : Int × Int) : ltP a a = false := by simp [ltP]
theorem ltP_as {a b : Int × Int} (h : ltP a b = true) : ltP b a = false := by
  simp only [ltP, Bool.or_eq_false_iff, Bool.and_eq_false_iff, decide_eq_false_iff_not, beq_eq_false_iff_ne, Bool.or_eq_true, Bool.and_eq_true, decide_eq_true_eq, beq_iff_eq] at *
  omega
theorem ltP_eq {a b : Int × Int} (h1 : ltP a b = false) (h2 : ltP b a = false) : a = b := by
  simp only [ltP, Bool.or_eq_false_iff, Bool.and_eq_false_iff, decide_eq_false_iff_not, beq_eq_false_iff_ne] at *
  apply Prod.ext <;> omega
theorem minP_le : ∀ (L : List (Int × Int)) (m y : Int × Int), y ∈ m :: L → ltP y (minP m L) = false
  | [], m, y, h => by simp at h; subst h; exact ltP_irr _
  | x :: L, m, y, h => by
    rw [show minP m (x :: L) = minP (if ltP x m then x else m) L from rfl]
    have key := minP_le L (if ltP x m then x else m)
    have hself := key _ (List.mem_cons_self ..)
    rcases List.mem_cons.1 h with rfl | h
    · cases hx : ltP x y with
      | true => rw [hx] at hself; rw [if_pos rfl] at hself ⊢; exact ltP_trans (ltP_as hx) hself
      | false => rw [hx] at hself; exact hself
    · rcases List.mem_cons.1 h with rfl | h
      · cases hx : ltP y m with
        | true => rw [hx] at hself; exact hself
        | false => rw [hx] at hself; exact ltP_trans hx hself
      · exact key y (List.mem_cons_of_mem _ h)
theorem minP_perm {a b : Int × Int} {L M : List (Int × Int)} (h : (a :: L).Perm (b :: M)) : minP a L = minP b M :=
  ltP_eq (minP_le M b _ (h.mem_iff.1 (minP_in L a))) (minP_le L a _ (h.mem_iff.2 (minP_in M b)))
theorem L51_eq (L : List (Int × Int)) (hl : L.length ≤ 100000000000000) : ∀ (f k : Nat) (m : Int × Int), k ≤ L.length → L51_0 L (L.length : Int) f (k : Int) m.1 m.2 = if L.length - k < f then some (minP m (L.drop k)) else none
  | 0, k, m, hk => by rw [if_neg (by omega)]; rfl
  | f + 1, k, m, hk => by
    unfold L51_0
    by_cases hlt : k < L.length
    · rw [oif_pos (by simpa using hlt), sg_ge hlt, obind_some, show F52 f (L[k].1, L[k].2) (m.1, m.2) = some (ltP L[k] m) from F52_eq f L[k] m, obind_some, wrap_succ (by omega), L51_eq L hl f (k + 1) L[k] (by omega), L51_eq L hl f (k + 1) m (by omega), List.drop_eq_getElem_cons hlt, oif_ite]
      rw [show minP m (L[k] :: L.drop (k + 1)) = minP (if ltP L[k] m then L[k] else m) (L.drop (k + 1)) from rfl]
      have hc1 : (L.length - (k + 1) < f) ↔ (L.length - k < f + 1) := by omega
      simp only [hc1]
      cases ltP L[k] m <;> simp
    · rw [oif_neg (by simpa using hlt), if_pos (by omega), List.drop_eq_nil_of_le (by omega)]
      rfl
theorem F51_eq (fuel : Nat) (a : Int × Int) (L : List (Int × Int)) (hl : L.length ≤ 100000000000000) : F51 fuel (a :: L) = if L.length < fuel then some (minP a L) else none := by
  unfold F51
  have e0 : sg (a :: L) 0 = some a := rfl
  have e1 : subL (a :: L) (some 1) none = some L := by
    unfold subL
    rw [if_pos (ai (fun v h => by cases h; simp [natO]; omega) (fun v h => by cases h))]
    simp [natO]
  have := L51_eq L hl fuel 0 a (by omega)
  rw [Int.natCast_zero, Nat.sub_zero, List.drop_zero] at this
  rw [e0, obind_some, e1, obind_some, this]
  split <;> rfl
theorem F51_perm {fuel : Nat} {p q : List (Int × Int)} {r : Int × Int} (hp : p.Perm q) (hl : q.length ≤ 100000000000000) (h : F51 fuel q = some r) : F51 fuel p = some r := by
  cases q with
  | nil => rw [hp.eq_nil]; exact h
  | cons b M =>
    cases p with
    | nil => have := hp.length_eq; simp at this
    | cons a L =>
      have hlen := hp.length_eq
      simp only [List.length_cons] at hlen hl
      rw [F51_eq _ _ _ (by omega)] at h ⊢
      rw [show L.length = M.length from by omega, minP_perm hp]; exact h
theorem B24_run (fuel : Nat) (uM : (List ((Int × Int) × Int))) : ∀ (p : List ((Int × Int) × Int)) (w : List (Int × Int)),
    mfold (B24_0 fuel uM) (Z24_0 fuel uM) p (.inr w) = if p = [] ∨ (w.length + p.length) * 16 ≤ 140737488355328 then Z24_0 fuel uM (.inr (w ++ p.map (·.1))) else none
  | [], w => by rw [if_pos (Or.inl rfl), List.map_nil, List.append_nil]; rfl
  | (k, v) :: p, w => by
    unfold mfold
    by_cases h : (w.length + ((k, v) :: p).length) * 16 ≤ 140737488355328
    · rw [if_pos (Or.inr h)]
      simp only [List.length_cons] at h
      rw [show B24_0 fuel uM k v (.inr w) = some (.inl (.inr (w ++ [k]))) from oif_pos (by rw [decide_eq_true_eq]; omega), obind_some]
      simp only []
      rw [B24_run fuel uM p, List.map_cons, List.append_assoc, if_pos (by right; simp; omega)]
      rfl
    · rw [if_neg (by intro hh; rcases hh with hh | hh; cases hh; exact h hh)]
      simp only [List.length_cons] at h
      by_cases h2 : (w.length + 1) * 16 ≤ 140737488355328
      · rw [show B24_0 fuel uM k v (.inr w) = some (.inl (.inr (w ++ [k]))) from oif_pos (by rw [decide_eq_true_eq]; exact h2), obind_some]
        simp only []
        rw [B24_run fuel uM p, if_neg]
        rintro (rfl | hh)
        · simp at h; omega
        · simp at hh; omega
      · rw [show B24_0 fuel uM k v (.inr w) = none from oif_neg (by rw [decide_eq_false_iff_not]; exact h2)]; rfl
theorem L24_0_ind (fuel : Nat) (uM : (List ((Int × Int) × Int))) (p q : List ((Int × Int) × Int)) (s : (Unit ⊕ (List (Int × Int)))) (r : (Int × Int)) (hp : p.Perm q) (hn : (q.map (·.1)).Nodup) (h : mfold (B24_0 fuel uM) (Z24_0 fuel uM) q s = some r) : mfold (B24_0 fuel uM) (Z24_0 fuel uM) p s = some r := by
  have zf : ∀ {w w' : List (Int × Int)}, w.Perm w' → w'.length ≤ 100000000000000 → Z24_0 fuel uM (.inr w') = some r → Z24_0 fuel uM (.inr w) = some r := by
    intro w w' hw hl hz
    have hz' : (obind (F51 fuel w') fun r1 => some (r1.1, r1.2)) = some r := hz
    show (obind (F51 fuel w) fun r1 => some (r1.1, r1.2)) = some r
    refine obind_elim hz' fun y h1 h2 => ?_
    rw [F51_perm hw hl h1]; exact h2
  have go : ∀ (w : List (Int × Int)) (p q : List ((Int × Int) × Int)), p.Perm q → mfold (B24_0 fuel uM) (Z24_0 fuel uM) q (.inr w) = some r → mfold (B24_0 fuel uM) (Z24_0 fuel uM) p (.inr w) = some r := by
    intro w p q hp h
    cases hq : q with
    | nil => rw [hq] at hp h; rw [hp.eq_nil]; exact h
    | cons x q' =>
      rw [B24_run] at h ⊢
      by_cases hc : (w.length + q.length) * 16 ≤ 140737488355328
      · rw [if_pos (Or.inr hc)] at h
        rw [if_pos (Or.inr (by rw [hp.length_eq]; exact hc))]
        exact zf ((List.Perm.refl w).append (hp.map _)) (by simp; omega) h
      · rw [if_neg (by rintro (hh | hh); rw [hq] at hh; cases hh; exact hc hh)] at h
        cases h
  cases s with
  | inr w => exact go w p q hp h
  | inl u =>
    cases q with
    | nil => rw [hp.eq_nil]; exact h
    | cons y q' =>
      cases p with
      | nil => have := hp.length_eq; simp at this
      | cons x p' =>
        obtain ⟨ky, vy⟩ := y
        obtain ⟨kx, vx⟩ := x
        have e : ∀ (k : Int × Int) (v : Int) (t : List ((Int × Int) × Int)), mfold (B24_0 fuel uM) (Z24_0 fuel uM) ((k, v) :: t) (.inl u) = mfold (B24_0 fuel uM) (Z24_0 fuel uM) t (.inr [k]) := fun k v t => rfl
        rw [e] at h ⊢
        rw [B24_run] at h ⊢
        have hlen := hp.length_eq
        simp only [List.length_cons] at hlen
        by_cases hc : q' = [] ∨ ([ky].length + q'.length) * 16 ≤ 140737488355328
        · rw [if_pos hc] at h
          have hc2 : p' = [] ∨ ([kx].length + p'.length) * 16 ≤ 140737488355328 := by
            rcases hc with rfl | hc
            · left; exact List.eq_nil_of_length_eq_zero (by simpa using hlen)
            · right; simp only [List.length_singleton] at hc ⊢; omega
          rw [if_pos hc2]
          refine zf (show ([kx] ++ p'.map (·.1)).Perm ([ky] ++ q'.map (·.1)) from hp.map Prod.fst) ?_ h
          rcases hc with rfl | hc
          · simp
          · simp only [List.length_singleton] at hc; simp; omega
        · rw [if_neg hc] at h; cases h
theorem L24_0_ok (fuel : Nat) (uM : (List ((Int × Int) × Int))) (fp0 : Bool) (r : (Int × Int)) (hn : (List.map (·.1) uM).Nodup) (h : mfold (B24_0 fuel uM) (Z24_0 fuel uM) uM (.inl ()) = some r) :
    SemC prog ⟨45, 0, false⟩ [.code (codeAt [1, 1, 1, 1, 0, 1] (bodyOf f24)), .code (codeAt [1, 1, 1, 1, 1] (bodyOf f24))] ⟨[(30, .iter 0), (7, .p (.nilsl))], [.iterP (mapK e81 uM) (mapV e2 uM) ([] : List Nat)]⟩ (L24_0_post uM fp0 r).1 (L24_0_post uM fp0 r).2 := by
  refine SemC.cast0 (mapCollect (P := prog) (md := ⟨45, 0, false⟩) (ek := e81) (ev := e2) (ti := 30) (d0 := 31) (d1 := 32) (li := 0) (id := 1) (b := codeAt [1, 1, 1, 1, 0, 1, 0, 0] (bodyOf f24)) (rest := codeAt [1, 1, 1, 1, 0, 1, 0, 0, 1] (bodyOf f24)) (y := codeAt [1, 1, 1, 1, 1] (bodyOf f24)) (z := codeAt [1, 1, 1, 1, 0, 1] (bodyOf f24)) (body := B24_0 fuel uM) (fin := Z24_0 fuel uM) uM (fun s => match s with | .inl s => [(30, .iter 0), (7, .p (.nilsl))] | .inr (s) => [(30, .iter 0), (7, .msl 1 0 (List.length s) (List.length (rowI e81 s)) false)]) (fun s x => match s with | .inl s => [.iterP (mapK e81 uM) (mapV e2 uM) x] | .inr (s) => [.iterP (mapK e81 uM) (mapV e2 uM) x, .cells (rowI e81 s) 2]) (fun s => match s with | .inl s => ⟨[(7, .p (.nilsl))], []⟩ | .inr (s) => ⟨[(7, .msl 0 0 (List.length s) (List.length (rowI e81 s)) false)], [.cells (rowI e81 s) 2]⟩) (L24_0_post uM fp0) (by kernel_rfl) (by kernel_rfl) (by kernel_rfl) (by kernel_rfl) (fun s => (by cases s <;> kernel_rfl)) (fun s x => (by cases s <;> kernel_rfl)) (fun s x y => (by cases s <;> kernel_rfl)) ?_ ?_ ?_ ?_ (.inl ()) r (fun p hp => L24_0_ind fuel uM p uM _ r hp hn h)) (by kernel_rfl)
  · clear h hn
    intro s x r h
    match s, h with
    | .inl s, h =>
      exact SemC.cast (SemC.post (path hm (σ' := ⟨[(7, .p (.nilsl))], [.iterP (mapK e81 uM) (mapV e2 uM) x]⟩) (ks := [7]) (cc := [])
        trivial (by kernel_rfl)) (Weak.sel (E := [(7, .p (.nilsl))]) (E' := [(7, .p (.nilsl))]) (H := [.iterP (mapK e81 uM) (mapV e2 uM) x]) (H' := []) [] trivial (by kernel_rfl) (by kernel_rfl))) rfl (by kernel_rfl)
    | .inr (s), h =>
      exact SemC.cast (SemC.post (path hm (σ' := ⟨[(7, .msl 1 0 (List.length s) (List.length (rowI e81 s)) false)], [.iterP (mapK e81 uM) (mapV e2 uM) x, .cells (rowI e81 s) 2]⟩) (ks := [7]) (cc := [])
        trivial (by kernel_rfl)) (Weak.sel (E := [(7, .msl 1 0 (List.length s) (List.length (rowI e81 s)) false)]) (E' := [(7, .msl 0 0 (List.length s) (List.length (rowI e81 s)) false)]) (H := [.iterP (mapK e81 uM) (mapV e2 uM) x, .cells (rowI e81 s) 2]) (H' := [.cells (rowI e81 s) 2]) [1] (selH_cons (o := .cells (rowI e81 s) 2) (o' := .cells (rowI e81 s) 2) (by kernel_rfl) sel_row trivial) (by kernel_rfl) (by kernel_rfl))) rfl (by kernel_rfl)
  · clear h hn
    intro k v s x j s' hj h
    unfold B24_0 at h
    match s, h with
    | .inl s, h =>
      refine oif_elim h (fun h1 g1 => ?_) (fun _ h => nomatch h)
      cases g1; exact SemC.cast (SemC.post (path hm (σ' := ⟨[(30, .iter 0), (7, .msl 2 0 (List.length [(k.1, k.2)]) (List.length (rowI e81 [(k.1, k.2)])) false)], [.iterP (mapK e81 uM) (mapV e2 uM) (x ++ [j]), .cells [.p (.int .i64 k.1), .p (.int .i64 k.2)] 0, .cells (rowI e81 [(k.1, k.2)]) 2]⟩) (ks := [30, 7]) (cc := [.reg [] [] 1 [(0, none, .mp (Int.ofNat j) [.agg [.int .i64 k.1, .int .i64 k.2]] [] [] 0 (.int .i64 v)), (2, some 1, .a)] [7, 8, 30], .reg [] [] 1 [(3, some 2, .ap (rowI e81 [(k.1, k.2)]) (List.length [(k.1, k.2)]) (List.length (rowI e81 [(k.1, k.2)])))] [7, 30]])
        (ai (mapK_at e81 hj) (ai (mapV_at e2 hj) (ai (last_snoc : (x ++ [j]).getLast? = some j) (ai (by decide : 0 < 1) (ai (od h1) (ai (app_c0 (by decide) (od h1)) (ai (rl (List.length [(k.1, k.2)])) (ai (rl (List.length (rowI e81 [(k.1, k.2)]))) (ai (row_src e81 [(k.1, k.2)]) (ai (row_sc el81 [(k.1, k.2)]) (ai (row_es el81 [(k.1, k.2)]) trivial))))))))))) (by kernel_rfl)) (Weak.sel (E := [(30, .iter 0), (7, .msl 2 0 (List.length [(k.1, k.2)]) (List.length (rowI e81 [(k.1, k.2)])) false)]) (E' := [(30, .iter 0), (7, .msl 1 0 (List.length [(k.1, k.2)]) (List.length (rowI e81 [(k.1, k.2)])) false)]) (H := [.iterP (mapK e81 uM) (mapV e2 uM) (x ++ [j]), .cells [.p (.int .i64 k.1), .p (.int .i64 k.2)] 0, .cells (rowI e81 [(k.1, k.2)]) 2]) (H' := [.iterP (mapK e81 uM) (mapV e2 uM) (x ++ [j]), .cells (rowI e81 [(k.1, k.2)]) 2]) [0, 2] (selH_cons (o := .iterP (mapK e81 uM) (mapV e2 uM) (x ++ [j])) (o' := .iterP (mapK e81 uM) (mapV e2 uM) (x ++ [j])) (by kernel_rfl) (by exact rfl) (selH_cons (o := .cells (rowI e81 [(k.1, k.2)]) 2) (o' := .cells (rowI e81 [(k.1, k.2)]) 2) (by kernel_rfl) sel_row trivial)) (by kernel_rfl) (by kernel_rfl))) rfl (by kernel_rfl)
    | .inr (s), h =>
      refine oif_elim h (fun h1 g1 => ?_) (fun _ h => nomatch h)
      cases g1; exact SemC.cast (SemC.post (path hm (σ' := ⟨[(30, .iter 0), (7, .msl 1 0 (List.length (s ++ [(k.1, k.2)])) (List.length (rowI e81 (s ++ [(k.1, k.2)]))) false)], [.iterP (mapK e81 uM) (mapV e2 uM) (x ++ [j]), .cells (rowI e81 (s ++ [(k.1, k.2)])) 2, .cells [.p (.int .i64 k.1), .p (.int .i64 k.2)] 0]⟩) (ks := [30, 7]) (cc := [.reg [] [] 1 [(0, none, .mp (Int.ofNat j) [.agg [.int .i64 k.1, .int .i64 k.2]] [] [] 0 (.int .i64 v)), (2, some 2, .a)] [7, 8, 30], .reg [] [] 0 [(3, none, .ap (rowI e81 (s ++ [(k.1, k.2)])) (List.length (s ++ [(k.1, k.2)])) (List.length (rowI e81 (s ++ [(k.1, k.2)]))))] [7, 30]])
        (ai (mapK_at e81 hj) (ai (mapV_at e2 hj) (ai (last_snoc : (x ++ [j]).getLast? = some j) (ai (by decide : 0 < 1) (ai (od h1) (ai (app_c2 (by decide) (od h1)) (ai (app_len e81 [(k.1, k.2)] (rl (List.length s))) (ai (rl (List.length (rowI e81 (s ++ [(k.1, k.2)])))) (ai (row_app e81 s [(k.1, k.2)]) (ai (rl (List.length (rowI e81 s))) (ai (row_sz el81 (rl (List.length (rowI e81 s))) (rl (List.length s))) (ai (row_sc el81 [(k.1, k.2)]) (ai (row_es el81 [(k.1, k.2)]) trivial))))))))))))) (by kernel_rfl)) (Weak.sel (E := [(30, .iter 0), (7, .msl 1 0 (List.length (s ++ [(k.1, k.2)])) (List.length (rowI e81 (s ++ [(k.1, k.2)]))) false)]) (E' := [(30, .iter 0), (7, .msl 1 0 (List.length (s ++ [(k.1, k.2)])) (List.length (rowI e81 (s ++ [(k.1, k.2)]))) false)]) (H := [.iterP (mapK e81 uM) (mapV e2 uM) (x ++ [j]), .cells (rowI e81 (s ++ [(k.1, k.2)])) 2, .cells [.p (.int .i64 k.1), .p (.int .i64 k.2)] 0]) (H' := [.iterP (mapK e81 uM) (mapV e2 uM) (x ++ [j]), .cells (rowI e81 (s ++ [(k.1, k.2)])) 2]) [0, 1] (selH_cons (o := .iterP (mapK e81 uM) (mapV e2 uM) (x ++ [j])) (o' := .iterP (mapK e81 uM) (mapV e2 uM) (x ++ [j])) (by kernel_rfl) (by exact rfl) (selH_cons (o := .cells (rowI e81 (s ++ [(k.1, k.2)])) 2) (o' := .cells (rowI e81 (s ++ [(k.1, k.2)])) 2) (by kernel_rfl) sel_row trivial)) (by kernel_rfl) (by kernel_rfl))) rfl (by kernel_rfl)
  · clear h hn
    intro k v s x j r hj h
    unfold B24_0 at h
    match s, h with
    | .inl s, h =>
      refine oif_elim h (fun h1 g1 => ?_) (fun _ h => nomatch h)
      cases g1
    | .inr (s), h =>
      refine oif_elim h (fun h1 g1 => ?_) (fun _ h => nomatch h)
      cases g1
  · clear h hn
    intro s r h
    unfold Z24_0 at h
    match s, h with
    | .inl s, h =>
      refine obind_elim h fun r1 h1 g1 => ?_
      cases g1; exact SemC.cast (SemC.post (path hm (e := .ret) (σ' := ⟨[(2, .p (.int .i64 r1.1)), (3, .p (.int .i64 r1.2)), (4, .p (.int .i64 0))], [.cells [.p (.int .i64 r1.1), .p (.int .i64 r1.2)] 0]⟩) (ks := [2, 3, 4]) (cc := [.reg [] [] 1 [(1, none, .cw [.sl (List.map e81 ([] : List (Int × Int))) false, .fn 52 [] []] (.agg [.int .i64 r1.1, .int .i64 r1.2])), (2, some 0, .a)] [9], .reg [0, 1, 0, 4, 3, 31, 63] [] 0 [] [2, 3, 4]])
        (ai (show PVleL [.nilsl, .fn 52 [] []] [.sl (List.map e81 ([] : List (Int × Int))) false, .fn 52 [] []] from (.cons _ _ _ _ (.nil _) (.cons _ _ _ _ (.refl _) .nil))) (ai (F51_ok fuel [] false _ h1) trivial)) (by kernel_rfl)) (Weak.sel (E := [(2, .p (.int .i64 r1.1)), (3, .p (.int .i64 r1.2)), (4, .p (.int .i64 0))]) (E' := [(2, .p (.int .i64 r1.1)), (3, .p (.int .i64 r1.2)), (4, .p (.int .i64 0))]) (H := [.cells [.p (.int .i64 r1.1), .p (.int .i64 r1.2)] 0]) (H' := []) [] trivial (by kernel_rfl) (by kernel_rfl))) (by kernel_rfl) (by kernel_rfl)
    | .inr (s), h =>
      refine obind_elim h fun r1 h1 g1 => ?_
      cases g1; exact SemC.cast (SemC.post (path hm (e := .ret) (σ' := ⟨[(2, .p (.int .i64 r1.1)), (3, .p (.int .i64 r1.2)), (4, .p (.int .i64 0))], [.cells (rowI e81 s) 2, .cells [.p (.int .i64 r1.1), .p (.int .i64 r1.2)] 0]⟩) (ks := [2, 3, 4]) (cc := [.reg [] [] 1 [(1, none, .bor [] [.sl (List.map e81 s) false, .fn 52 [] []] (.agg [.int .i64 r1.1, .int .i64 r1.2])), (2, some 1, .a)] [9], .reg [0, 1, 0, 4, 3, 31, 63] [] 0 [] [2, 3, 4]])
        (ai (snap_row (hp := one 0 (.cells (rowI e81 s) 2)) (l := 0) (x := false) (g := 2) (L := s) el81 (by kernel_rfl) (rl (List.length (rowI e81 s))) (rl (List.length s))) (ai (.refl _ : PVle (.fn 52 [] []) (.fn 52 [] [])) (ai (F51_ok fuel s false _ h1) trivial))) (by kernel_rfl)) (Weak.sel (E := [(2, .p (.int .i64 r1.1)), (3, .p (.int .i64 r1.2)), (4, .p (.int .i64 0))]) (E' := [(2, .p (.int .i64 r1.1)), (3, .p (.int .i64 r1.2)), (4, .p (.int .i64 0))]) (H := [.cells (rowI e81 s) 2, .cells [.p (.int .i64 r1.1), .p (.int .i64 r1.2)] 0]) (H' := []) [] trivial (by kernel_rfl) (by kernel_rfl))) (by kernel_rfl) (by kernel_rfl)
def F24  (fuel : Nat) (p0 : (List (Int × Int))) : Option (Int × Int × Int) :=
  (obind (F38 fuel p0 []) fun y1 => match y1 with
  | .inl y1 => oif ((y1 != 0))
    (some (0, 0, y1))
    (none)
  | .inr (y1) => oif (((y1.length : Int) == 0))
    (some (0, 0, 5))
    (oif (decide (List.Nodup (List.map Prod.fst y1))) (obind (mfold (B24_0 fuel  y1) (Z24_0 fuel  y1) y1 (.inl ())) fun y2 => some (y2.1, y2.2, 0)) none))
theorem F24_ok  (fuel : Nat) (p0 : (List (Int × Int))) (fp0 : Bool) (r : (Int × Int × Int)) (h : F24 fuel p0 = some r) : CallP prog 24 [.sl (List.map e68 p0) fp0] (.tup [.int .i64 r.1, .int .i64 r.2.1, .int .i64 r.2.2]) := by
  unfold F24 at h
  refine obind_elim h fun y h1 g1 => ?_
  match y, h1, g1 with
  | .inl y1, h1, g1 =>
    refine oif_elim g1 (fun h2 g2 => ?_) (fun h2 g2 => ?_)
    · have hr := Option.some.inj g2
      subst hr
      exact callP_of is24 rfl (path hm (ks := [2, 3, 4]) (σ' := ⟨[(2, .p (.int .i64 0)), (3, .p (.int .i64 0)), (4, .p (.int .i64 y1))], []⟩) (cc := [.reg [] [] 0 [] [0], .reg [] [] 0 [(1, none, .cw [.sl (List.map e68 p0) fp0, .sl (List.map e2 ([] : List Int)) false] (.tup [.nilp, .int .i64 y1]))] [5, 6], .reg [] [] 0 [(1, none, .b true)] [5, 6, 15], .reg [] [] 0 [] [2, 3, 4]])
      (ai (show PVleL [.sl (List.map e68 p0) fp0, .nilsl] [.sl (List.map e68 p0) fp0, .sl (List.map e2 ([] : List Int)) false] from (.cons _ _ _ _ (.refl _) (.cons _ _ _ _ (.nil _) .nil))) (ai (F38_ok fuel p0 [] fp0 false _ h1) (ai h2 trivial))) (by kernel_rfl)) (e := .ret) rfl (vs := [.p (.int .i64 0), .p (.int .i64 0), .p (.int .i64 y1)]) trivial (by kernel_rfl) (.tup _ _ (.cons _ _ _ _ (.p _ _ (.refl _)) (.cons _ _ _ _ (.p _ _ (.refl _)) (.cons _ _ _ _ (.p _ _ (.refl _)) .nil))))
    · exact nomatch g2
  | .inr (y1), h1, g1 =>
    let c48 : List CC := [.reg [] [] 0 [] [0], .reg [] [] 0 [(1, none, .cw [.sl (List.map e68 p0) fp0, .sl (List.map e2 ([] : List Int)) false] (.tup [.ref [.sl (List.map e68 p0) false, .map (mapK e81 y1) (mapV e2 y1)], .int .i64 0]))] [5, 6], .reg [] [] 0 [] [5, 6, 15]]
    refine oif_elim g1 (fun h2 g2 => ?_) (fun h2 g2 => ?_)
    · have hr := Option.some.inj g2
      subst hr
      exact callP_of is24 rfl (path hm (ks := [2, 3, 4]) (σ' := ⟨[(2, .p (.int .i64 0)), (3, .p (.int .i64 0)), (4, .p (.int .i64 5))], []⟩) (cc := c48 ++ [.reg [] [] 0 [(4, none, .n (y1.length : Int)), (5, none, .b true)] [5, 19], .reg [] [] 0 [] [2, 3, 4]])
      (ai (show PVleL [.sl (List.map e68 p0) fp0, .nilsl] [.sl (List.map e68 p0) fp0, .sl (List.map e2 ([] : List Int)) false] from (.cons _ _ _ _ (.refl _) (.cons _ _ _ _ (.nil _) .nil))) (ai (F38_ok fuel p0 [] fp0 false _ h1) (ai (congrArg (fun n : Nat => (n : Int)) (mapK_len e81 y1)) (ai h2 trivial)))) (by kernel_rfl)) (e := .ret) rfl (vs := [.p (.int .i64 0), .p (.int .i64 0), .p (.int .i64 5)]) trivial (by kernel_rfl) (.tup _ _ (.cons _ _ _ _ (.p _ _ (.refl _)) (.cons _ _ _ _ (.p _ _ (.refl _)) (.cons _ _ _ _ (.p _ _ (.refl _)) .nil))))
    · refine oif_elim g2 (fun h3 g3 => ?_) (fun _ h => nomatch h)
      refine obind_elim g3 fun y2 h4 g4 => ?_
      have hr := Option.some.inj g4
      subst hr
      exact callP_of is24 rfl (path hm (ks := [2, 3, 4]) (σ' := ⟨[(2, .p (.int .i64 y2.1)), (3, .p (.int .i64 y2.2)), (4, .p (.int .i64 0))], []⟩) (cc := c48 ++ [.reg [] [] 0 [(4, none, .n (y1.length : Int)), (5, none, .b false)] [5, 19], .reg [] [] 0 [] [5, 7], .cut .ret ⟨[(2, .p (.int .i64 y2.1)), (3, .p (.int .i64 y2.2)), (4, .p (.int .i64 0))], []⟩])
      (ai (show PVleL [.sl (List.map e68 p0) fp0, .nilsl] [.sl (List.map e68 p0) fp0, .sl (List.map e2 ([] : List Int)) false] from (.cons _ _ _ _ (.refl _) (.cons _ _ _ _ (.nil _) .nil))) (ai (F38_ok fuel p0 [] fp0 false _ h1) (ai (congrArg (fun n : Nat => (n : Int)) (mapK_len e81 y1)) (ai h2 (ai (SemC.rot (x := codeAt [1, 1, 1, 1, 0, 0] (bodyOf f24)) (y := codeAt [1, 1, 1, 1, 0, 1] (bodyOf f24)) (z := codeAt [1, 1, 1, 1, 1] (bodyOf f24)) (path (nt := ⟨45, 0, false⟩) (σ := ⟨[(5, .p (.ref [.sl (List.map e68 p0) false, .map (mapK e81 y1) (mapV e2 y1)])), (7, .p (.nilsl))], []⟩) hm (σ' := ⟨[(30, .iter 0), (7, .p (.nilsl))], [.iterP (mapK e81 y1) (mapV e2 y1) ([] : List Nat)]⟩) (ks := [30, 7]) (cc := [.reg [] [] 1 [(4, some 0, .a)] [7, 30]]) trivial (by kernel_rfl)) (L24_0_ok fuel  y1 fp0 _ (od h3) h4)) trivial))))) (by kernel_rfl)) (e := .ret) rfl (vs := [.p (.int .i64 y2.1), .p (.int .i64 y2.2), .p (.int .i64 0)]) trivial (by kernel_rfl) (.tup _ _ (.cons _ _ _ _ (.p _ _ (.refl _)) (.cons _ _ _ _ (.p _ _ (.refl _)) (.cons _ _ _ _ (.p _ _ (.refl _)) .nil))))
def L56_2  (v0 : (List (Int × Int))) (v0_1 : (List ((Int × Int) × Int))) (v1 : (List Int)) (v6 : Int) (v11 : (List Int)) (v12 : Int) (v13 : Int) (v20 : (List Int)) (v21 : Int) : Nat → Int → Option (Unit ⊕ Unit)
  | 0, _ => none
  | fuel + 1, v22 =>
    oif ((decide (v22 < v21)))
    (obind (sg v20 v22) fun x1 => oif (mhas v0_1 (x1, v6))
      (obind (mget v0_1 (x1, v6)) fun x2 => some (.inl ()))
      (L56_2 v0 v0_1 v1 v6 v11 v12 v13 v20 v21 fuel (IntKind.wrap .i64 (v22 + 1))))
    (some (.inr (())))
noncomputable def L56_2_post (v0 : (List (Int × Int))) (v0_1 : (List ((Int × Int) × Int))) (v1 : (List Int)) (v6 : Int) (v11 : (List Int)) (v12 : Int) (v13 : Int) (v20 : (List Int)) (v21 : Int) (fp1 : Bool) : (Unit ⊕ Unit) → Ex × St
  | .inl y => (.ret, ⟨[(4, .p (.bool false))], []⟩)
  | .inr (y) => ((.exit 2), ⟨[(0, .p (.ref [.sl (List.map e68 v0) false, .map (mapK e81 v0_1) (mapV e2 v0_1)])), (1, .p (.sl (List.map e3 v1) fp1)), (11, .p (.sl (List.map e3 v11) fp1)), (12, .p (.int .i64 v12)), (13, .p (.int .i64 v13))], []⟩)
theorem L56_2_ok  (v0 : (List (Int × Int))) (v0_1 : (List ((Int × Int) × Int))) (v1 : (List Int)) (v6 : Int) (v11 : (List Int)) (v12 : Int) (v13 : Int) (v20 : (List Int)) (v21 : Int) (fp1 : Bool) : ∀ (fuel : Nat) (v22 : Int) (r : (Unit ⊕ Unit)), L56_2 v0 v0_1 v1 v6 v11 v12 v13 v20 v21 fuel v22 = some r →
    SemJ prog ⟨40, 0, false⟩ (codeAt [1, 0, 1, 0, 0, 1, 1, 0, 0, 1, 1, 0, 0] (bodyOf f56)) ⟨[(0, .p (.ref [.sl (List.map e68 v0) false, .map (mapK e81 v0_1) (mapV e2 v0_1)])), (1, .p (.sl (List.map e3 v1) fp1)), (6, .p (.int .i64 v6)), (11, .p (.sl (List.map e3 v11) fp1)), (12, .p (.int .i64 v12)), (13, .p (.int .i64 v13)), (20, .p (.sl (List.map e3 v20) false)), (21, .p (.int .i64 v21)), (22, .p (.int .i64 v22))], []⟩ (L56_2_post v0 v0_1 v1 v6 v11 v12 v13 v20 v21 fp1 r).1 (L56_2_post v0 v0_1 v1 v6 v11 v12 v13 v20 v21 fp1 r).2
  | 0, _, _, h => nomatch h
  | fuel + 1, v22, r, h => by
    unfold L56_2 at h
    refine oif_elim h (fun h1 g1 => ?_) (fun h1 g1 => ?_)
    · refine obind_elim g1 fun x1 h2 g2 => ?_
      let c50 : List CC := [.reg [] [] 0 [(0, none, .b true)] [0, 1, 6, 11, 12, 13, 20, 21, 22, 23], .reg [] [] 0 [(0, none, .iv (.p (.int .i64 x1)))] [0, 1, 6, 8, 11, 12, 13, 20, 21, 22]]
      refine oif_elim g2 (fun h3 g3 => ?_) (fun h3 g3 => ?_)
      · refine obind_elim g3 fun x2 h4 g4 => ?_
        have hr := Option.some.inj g4
        subst hr
        exact SemC.cast (SemJ.out (e := .ret) (path hm (σ' := ⟨[(4, .p (.bool false))], []⟩) (ks := [4]) (cc := c50 ++ [.reg [] [] 0 [(7, none, .mp (Int.ofNat (midx v0_1 (x1, v6))) [] [] [] 0 (.int .i64 x2))] [0, 1, 6, 10, 11, 12, 13, 20, 21, 22], .reg [] [] 0 [] [0, 1, 6, 11, 12, 13, 20, 21, 22, 37], .reg [] [] 0 [] [4]])
        (ai h1 (ai (sg_map (f := e3) h2) (ai (eqD_of (k := (x1, v6)) keq81 (rfl)) (ai (find_yes (L := v0_1) (k := (x1, v6)) keq81 (rfl) (fun _ _ => rfl) h3) (ai (val_at e2 h4) trivial))))) (by kernel_rfl)) (by simp)) (by kernel_rfl) (by kernel_rfl)
      · exact SemJ.again (σ1 := ⟨[(0, .p (.ref [.sl (List.map e68 v0) false, .map (mapK e81 v0_1) (mapV e2 v0_1)])), (1, .p (.sl (List.map e3 v1) fp1)), (6, .p (.int .i64 v6)), (11, .p (.sl (List.map e3 v11) fp1)), (12, .p (.int .i64 v12)), (13, .p (.int .i64 v13)), (20, .p (.sl (List.map e3 v20) false)), (21, .p (.int .i64 v21)), (22, .p (.int .i64 (IntKind.wrap .i64 (v22 + 1))))], []⟩) (path hm (σ' := ⟨[(0, .p (.ref [.sl (List.map e68 v0) false, .map (mapK e81 v0_1) (mapV e2 v0_1)])), (1, .p (.sl (List.map e3 v1) fp1)), (6, .p (.int .i64 v6)), (11, .p (.sl (List.map e3 v11) fp1)), (12, .p (.int .i64 v12)), (13, .p (.int .i64 v13)), (20, .p (.sl (List.map e3 v20) false)), (21, .p (.int .i64 v21)), (22, .p (.int .i64 (IntKind.wrap .i64 (v22 + 1))))], []⟩) (ks := [0, 1, 6, 11, 12, 13, 20, 21, 22]) (cc := c50 ++ [.reg [] [] 0 [(7, none, .mp (Int.negSucc 0) [] [] [] 0 .junk)] [0, 1, 6, 10, 11, 12, 13, 20, 21, 22], .reg [] [] 0 [] [0, 1, 6, 11, 12, 13, 20, 21, 22, 37], .reg [] [] 0 [] [0, 1, 6, 11, 12, 13, 20, 21, 22]])
        (ai h1 (ai (sg_map (f := e3) h2) (ai (eqD_of (k := (x1, v6)) keq81 (rfl)) (ai (find_no (L := v0_1) (k := (x1, v6)) keq81 (rfl) (fun _ _ => rfl) h3) trivial)))) (by kernel_rfl)) (L56_2_ok v0 v0_1 v1 v6 v11 v12 v13 v20 v21 fp1 fuel (IntKind.wrap .i64 (v22 + 1)) _ g3)
    · have hr := Option.some.inj g1
      subst hr
      exact SemC.cast (SemJ.out (e := (.exit 2)) (path hm (σ' := ⟨[(0, .p (.ref [.sl (List.map e68 v0) false, .map (mapK e81 v0_1) (mapV e2 v0_1)])), (1, .p (.sl (List.map e3 v1) fp1)), (11, .p (.sl (List.map e3 v11) fp1)), (12, .p (.int .i64 v12)), (13, .p (.int .i64 v13))], []⟩) (ks := [0, 1, 11, 12, 13]) (cc := [.reg [] [] 0 [(0, none, .b false)] [0, 1, 6, 11, 12, 13, 20, 21, 22, 23]])
        (ai h1 trivial) (by kernel_rfl)) (by simp)) (by kernel_rfl) (by kernel_rfl)
def L56_0  (v0 : (List (Int × Int))) (v0_1 : (List ((Int × Int) × Int))) (v1 : (List Int)) (v11 : (List Int)) (v12 : Int) : Nat → Int → Option (Unit ⊕ Unit)
  | 0, _ => none
  | fuel + 1, v13 =>
    oif ((decide (v13 < v12)))
    (obind (sg v11 v13) fun x1 => obind (subL v1 none (some v13)) fun x2 => (obind (L56_2 v0 v0_1 v1 x1 v11 v12 v13 x2 (x2.length : Int) fuel 0) fun y3 => match y3 with
      | .inl y3 => some (.inl ())
      | .inr (y3) => L56_0 v0 v0_1 v1 v11 v12 fuel (IntKind.wrap .i64 (v13 + 1))))
    (some (.inr (())))
noncomputable def L56_0_post (v0 : (List (Int × Int))) (v0_1 : (List ((Int × Int) × Int))) (v1 : (List Int)) (v11 : (List Int)) (v12 : Int) (fp1 : Bool) : (Unit ⊕ Unit) → Ex × St
  | .inl y => (.ret, ⟨[(4, .p (.bool false))], []⟩)
  | .inr (y) => ((.exit 0), ⟨[], []⟩)
theorem L56_0_ok  (v0 : (List (Int × Int))) (v0_1 : (List ((Int × Int) × Int))) (v1 : (List Int)) (v11 : (List Int)) (v12 : Int) (fp1 : Bool) : ∀ (fuel : Nat) (v13 : Int) (r : (Unit ⊕ Unit)), L56_0 v0 v0_1 v1 v11 v12 fuel v13 = some r →
    SemJ prog ⟨40, 0, false⟩ (codeAt [1, 0, 1, 0, 0] (bodyOf f56)) ⟨[(0, .p (.ref [.sl (List.map e68 v0) false, .map (mapK e81 v0_1) (mapV e2 v0_1)])), (1, .p (.sl (List.map e3 v1) fp1)), (11, .p (.sl (List.map e3 v11) fp1)), (12, .p (.int .i64 v12)), (13, .p (.int .i64 v13))], []⟩ (L56_0_post v0 v0_1 v1 v11 v12 fp1 r).1 (L56_0_post v0 v0_1 v1 v11 v12 fp1 r).2
  | 0, _, _, h => nomatch h
  | fuel + 1, v13, r, h => by
    unfold L56_0 at h
    refine oif_elim h (fun h1 g1 => ?_) (fun h1 g1 => ?_)
    · refine obind_elim g1 fun x1 h2 g2 => ?_
      refine obind_elim g2 fun x2 h3 g3 => ?_
      let c51 : List CC := [.reg [] [] 0 [(0, none, .b true)] [0, 1, 11, 12, 13, 14], .reg [] [] 0 [(1, none, .iv (.p (.int .i64 x1)))] [0, 1, 5, 6, 11, 12, 13], .reg [] [] 0 [(2, none, .pvs (List.map e3 x2)), (3, none, .n (x2.length : Int))] [0, 1, 6, 11, 12, 13, 20, 21, 22]]
      refine obind_elim g3 fun y h4 g4 => ?_
      match y, h4, g4 with
      | .inl y3, h4, g4 =>
        have hr := Option.some.inj g4
        subst hr
        exact SemC.cast (SemJ.out (e := .ret) (path hm (σ' := ⟨[(4, .p (.bool false))], []⟩) (ks := [4]) (cc := c51 ++ [.leaf .ret ⟨[(4, .p (.bool false))], []⟩])
        (ai h1 (ai (sg_map (f := e3) h2) (ai (sub_eq e3 h3) (ai (row_es el3 v1) (ai (sub_hi0 h3) (ai (sub_hi1 e3 h3) (ai (len_map e3 x2) (ai (SemJ.loop (L56_2_ok v0 v0_1 v1 x1 v11 v12 v13 x2 (x2.length : Int) fp1 fuel 0 _ h4)) trivial)))))))) (by kernel_rfl)) (by simp)) (by kernel_rfl) (by kernel_rfl)
      | .inr (y3), h4, g4 =>
        exact SemJ.again (σ1 := ⟨[(0, .p (.ref [.sl (List.map e68 v0) false, .map (mapK e81 v0_1) (mapV e2 v0_1)])), (1, .p (.sl (List.map e3 v1) fp1)), (11, .p (.sl (List.map e3 v11) fp1)), (12, .p (.int .i64 v12)), (13, .p (.int .i64 (IntKind.wrap .i64 (v13 + 1))))], []⟩) (path hm (σ' := ⟨[(0, .p (.ref [.sl (List.map e68 v0) false, .map (mapK e81 v0_1) (mapV e2 v0_1)])), (1, .p (.sl (List.map e3 v1) fp1)), (11, .p (.sl (List.map e3 v11) fp1)), (12, .p (.int .i64 v12)), (13, .p (.int .i64 (IntKind.wrap .i64 (v13 + 1))))], []⟩) (ks := [0, 1, 11, 12, 13]) (cc := c51 ++ [.leaf (.exit 2) ⟨[(0, .p (.ref [.sl (List.map e68 v0) false, .map (mapK e81 v0_1) (mapV e2 v0_1)])), (1, .p (.sl (List.map e3 v1) fp1)), (11, .p (.sl (List.map e3 v11) fp1)), (12, .p (.int .i64 v12)), (13, .p (.int .i64 v13))], []⟩, .reg [] [] 0 [] [0, 1, 11, 12, 13]])
        (ai h1 (ai (sg_map (f := e3) h2) (ai (sub_eq e3 h3) (ai (row_es el3 v1) (ai (sub_hi0 h3) (ai (sub_hi1 e3 h3) (ai (len_map e3 x2) (ai (SemJ.loop (L56_2_ok v0 v0_1 v1 x1 v11 v12 v13 x2 (x2.length : Int) fp1 fuel 0 _ h4)) trivial)))))))) (by kernel_rfl)) (L56_0_ok v0 v0_1 v1 v11 v12 fp1 fuel (IntKind.wrap .i64 (v13 + 1)) _ g4)
    · have hr := Option.some.inj g1
      subst hr
      exact SemC.cast (SemJ.out (e := (.exit 0)) (path hm (σ' := ⟨[], []⟩) (ks := []) (cc := [.reg [] [] 0 [(0, none, .b false)] [0, 1, 11, 12, 13, 14]])
        (ai h1 trivial) (by kernel_rfl)) (by simp)) (by kernel_rfl) (by kernel_rfl)
def F56  (fuel : Nat) (p0 : ((List (Int × Int)) × (List ((Int × Int) × Int)))) (p1 : (List Int)) : Option Bool :=
  (obind (L56_0 p0.1 p0.2 p1 p1 (p1.length : Int) fuel 0) fun y1 => match y1 with
  | .inl y1 => some false
  | .inr (y1) => some true)
theorem F56_ok  (fuel : Nat) (p0 : ((List (Int × Int)) × (List ((Int × Int) × Int)))) (p1 : (List Int)) (fp1 : Bool) (r : Bool) (h : F56 fuel p0 p1 = some r) : CallP prog 56 [.ref [.sl (List.map e68 p0.1) false, .map (mapK e81 p0.2) (mapV e2 p0.2)], .sl (List.map e3 p1) fp1] (.bool r) := by
  unfold F56 at h
  let c52 : List CC := [.reg [] [] 0 [] [0, 1], .reg [] [] 0 [(1, none, .n (p1.length : Int))] [0, 1, 11, 12, 13]]
  refine obind_elim h fun y h1 g1 => ?_
  match y, h1, g1 with
  | .inl y1, h1, g1 =>
    have hr := Option.some.inj g1
    subst hr
    exact callP_of is56 rfl (path hm (ks := [4]) (σ' := ⟨[(4, .p (.bool false))], []⟩) (cc := c52 ++ [.leaf .ret ⟨[(4, .p (.bool false))], []⟩])
      (ai (len_map e3 p1) (ai (SemJ.loop (L56_0_ok p0.1 p0.2 p1 p1 (p1.length : Int) fp1 fuel 0 _ h1)) trivial)) (by kernel_rfl)) (e := .ret) rfl (vs := [.p (.bool false)]) trivial (by kernel_rfl) (.p _ _ (.refl _))
  | .inr (y1), h1, g1 =>
    have hr := Option.some.inj g1
    subst hr
    exact callP_of is56 rfl (path hm (ks := [4]) (σ' := ⟨[(4, .p (.bool true))], []⟩) (cc := c52 ++ [.leaf (.exit 0) ⟨[], []⟩, .reg [] [] 0 [] [4]])
      (ai (len_map e3 p1) (ai (SemJ.loop (L56_0_ok p0.1 p0.2 p1 p1 (p1.length : Int) fp1 fuel 0 _ h1)) trivial)) (by kernel_rfl)) (e := .ret) rfl (vs := [.p (.bool true)]) trivial (by kernel_rfl) (.p _ _ (.refl _))
def L53_1 (rc_F53 : ((List (Int × Int)) × (List ((Int × Int) × Int))) → (List Int) → Int → Option (List Int)) (v0 : (List (Int × Int))) (v0_1 : (List ((Int × Int) × Int))) (v1 : (List Int)) : Nat → Int → (List (List Int)) → Option (List (List Int))
  | 0, _, _ => none
  | fuel + 1, v8, w0 =>
    oif ((decide (v8 < (v0.length : Int))))
    (obind (subL v1 none (some (v1.length : Int))) fun x1 => oif (decide (((List.length (List.map e3 x1)) + 1) * 8 ≤ 140737488355328)) (obind (F56 fuel (v0, v0_1) (x1 ++ [v8])) fun r2 => oif (r2)
      (obind (rc_F53 (v0, v0_1) (x1 ++ [v8]) (IntKind.wrap .i64 (v8 + 1))) fun r3 => oif (decide (((List.length w0) + 1) * 24 ≤ 140737488355328)) (L53_1 rc_F53 v0 v0_1 v1 fuel (IntKind.wrap .i64 (v8 + 1)) (w0 ++ [r3])) none)
      (L53_1 rc_F53 v0 v0_1 v1 fuel (IntKind.wrap .i64 (v8 + 1)) w0)) none)
    (some (w0))
noncomputable def L53_1_post (v0 : (List (Int × Int))) (v0_1 : (List ((Int × Int) × Int))) (v1 : (List Int))  : (List (List Int)) → Ex × St
  | y => ((.exit 0), ⟨[(7, .msl 0 0 (List.length y) (List.length (rowI e25 y)) false)], [.cells (rowI e25 y) 1]⟩)
theorem L53_1_ok (rc_F53 : ((List (Int × Int)) × (List ((Int × Int) × Int))) → (List Int) → Int → Option (List Int)) (hrc_F53 : ∀ (p0 : ((List (Int × Int)) × (List ((Int × Int) × Int)))) (p1 : (List Int)) (p2 : Int) (fp1 : Bool) (r : (List Int)), rc_F53 p0 p1 p2 = some r → CallP prog 53 [.ref [.sl (List.map e68 p0.1) false, .map (mapK e81 p0.2) (mapV e2 p0.2)], .sl (List.map e3 p1) fp1, .int .i64 p2] (.sl (List.map e3 r) false)) (v0 : (List (Int × Int))) (v0_1 : (List ((Int × Int) × Int))) (v1 : (List Int))  : ∀ (fuel : Nat) (v8 : Int) (w0 : (List (List Int))) (r : (List (List Int))), L53_1 rc_F53 v0 v0_1 v1 fuel v8 w0 = some r →
    SemJ prog ⟨46, 0, false⟩ (codeAt [1, 0, 1, 1, 0, 1, 0, 0] (bodyOf f53)) ⟨[(0, .p (.ref [.sl (List.map e68 v0) false, .map (mapK e81 v0_1) (mapV e2 v0_1)])), (1, .p (.sl (List.map e3 v1) false)), (7, .msl 0 0 (List.length w0) (List.length (rowI e25 w0)) false), (8, .p (.int .i64 v8))], [.cells (rowI e25 w0) 1]⟩ (L53_1_post v0 v0_1 v1 r).1 (L53_1_post v0 v0_1 v1 r).2
  | 0, _, _, _, h => nomatch h
  | fuel + 1, v8, w0, r, h => by
    unfold L53_1 at h
    refine oif_elim h (fun h1 g1 => ?_) (fun h1 g1 => ?_)
    · refine obind_elim g1 fun x1 h2 g2 => ?_
      refine oif_elim g2 (fun h3 g3 => ?_) (fun _ h => nomatch h)
      refine obind_elim g3 fun r2 h4 g4 => ?_
      let c53 : List CC := [.reg [] [] 0 [(6, none, .n (v0.length : Int)), (7, none, .b true)] [0, 1, 7, 8, 20], .reg [] [] 1 [(2, none, .n (v1.length : Int)), (4, none, .n (v1.length : Int)), (5, none, .pvs (List.map e3 x1)), (8, some 1, .ap (rowI e3 (x1 ++ [v8])) (List.length (x1 ++ [v8])) (List.length (rowI e3 (x1 ++ [v8]))))] [0, 1, 7, 8, 9]]
      have q54 := fun {P : Prop} (t : P) => ai (len_map e68 v0) (ai h1 (ai (len_map e3 v1) (ai (len_map e3 v1) (ai (sub_eq e3 h2) (ai (row_es el3 v1) (ai (sub_hi0 h2) (ai (sub_hi1 e3 h2) (ai (rfl : ((v1.length : Int) : Int) = (v1.length : Int)) t))))))))
      have q55 := fun {P : Prop} (t : P) => ai (od h3) (ai (app_c2 (by decide) (od h3)) (ai (app_len2 e3 x1 [v8]) (ai (rl (List.length (rowI e3 (x1 ++ [v8])))) (ai (row_app2 e3 x1 [v8]) (ai (row_sc el3 [v8]) (ai (row_es el3 [v8]) (ai (row_es el3 x1) (ai (.refl _ : PVle (.ref [.sl (List.map e68 v0) false, .map (mapK e81 v0_1) (mapV e2 v0_1)]) (.ref [.sl (List.map e68 v0) false, .map (mapK e81 v0_1) (mapV e2 v0_1)])) (ai (snap_row (hp := one 1 (.cells (rowI e3 (x1 ++ [v8])) 1)) (l := 1) (x := false) (g := 1) (L := (x1 ++ [v8])) el3 (by kernel_rfl) (rl (List.length (rowI e3 (x1 ++ [v8])))) (rl (List.length (x1 ++ [v8])))) (ai (F56_ok fuel (v0, v0_1) (x1 ++ [v8]) false _ h4) t))))))))))
      refine oif_elim g4 (fun h5 g5 => ?_) (fun h5 g5 => ?_)
      · subst h5
        refine obind_elim g5 fun r3 h6 g6 => ?_
        refine oif_elim g6 (fun h7 g7 => ?_) (fun _ h => nomatch h)
        exact SemJ.again (σ1 := ⟨[(0, .p (.ref [.sl (List.map e68 v0) false, .map (mapK e81 v0_1) (mapV e2 v0_1)])), (1, .p (.sl (List.map e3 v1) false)), (7, .msl 0 0 (List.length (w0 ++ [r3])) (List.length (rowI e25 (w0 ++ [r3]))) false), (8, .p (.int .i64 (IntKind.wrap .i64 (v8 + 1))))], [.cells (rowI e25 (w0 ++ [r3])) 1]⟩) (SemC.post (path hm (σ' := ⟨[(0, .p (.ref [.sl (List.map e68 v0) false, .map (mapK e81 v0_1) (mapV e2 v0_1)])), (1, .p (.sl (List.map e3 v1) false)), (7, .msl 0 0 (List.length (w0 ++ [r3])) (List.length (rowI e25 (w0 ++ [r3]))) false), (8, .p (.int .i64 (IntKind.wrap .i64 (v8 + 1))))], [.cells (rowI e25 (w0 ++ [r3])) 1, .dead]⟩) (ks := [0, 1, 7, 8]) (cc := c53 ++ [.reg [] [] 0 [(2, none, .bor [] [.ref [.sl (List.map e68 v0) false, .map (mapK e81 v0_1) (mapV e2 v0_1)], .sl (List.map e3 (x1 ++ [v8])) false] (.bool true))] [0, 1, 7, 8, 9, 35], .reg [] [] 0 [(5, none, .bor [1] [.ref [.sl (List.map e68 v0) false, .map (mapK e81 v0_1) (mapV e2 v0_1)], .sl (List.map e3 (x1 ++ [v8])) false, .int .i64 (IntKind.wrap .i64 (v8 + 1))] (.sl (List.map e3 r3) false)), (7, none, .ap (rowI e25 (w0 ++ [r3])) (List.length (w0 ++ [r3])) (List.length (rowI e25 (w0 ++ [r3]))))] [0, 1, 7, 8], .reg [] [] 0 [] [0, 1, 7, 8]])
        (q54 (ai (by decide : 0 < 1) (q55 (ai (.refl _ : PVle (.ref [.sl (List.map e68 v0) false, .map (mapK e81 v0_1) (mapV e2 v0_1)]) (.ref [.sl (List.map e68 v0) false, .map (mapK e81 v0_1) (mapV e2 v0_1)])) (ai (snap_row (hp := one 1 (.cells (rowI e3 (x1 ++ [v8])) 1)) (l := 1) (x := false) (g := 1) (L := (x1 ++ [v8])) el3 (by kernel_rfl) (rl (List.length (rowI e3 (x1 ++ [v8])))) (rl (List.length (x1 ++ [v8])))) (ai (.refl _ : PVle (.int .i64 (IntKind.wrap .i64 (v8 + 1))) (.int .i64 (IntKind.wrap .i64 (v8 + 1)))) (ai (hrc_F53 (v0, v0_1) (x1 ++ [v8]) (IntKind.wrap .i64 (v8 + 1)) false _ h6) (ai (by decide : 0 < 1) (ai (od h7) (ai (app_c2 (by decide) (od h7)) (ai (app_len e25 [r3] (rl (List.length w0))) (ai (rl (List.length (rowI e25 (w0 ++ [r3])))) (ai (row_app e25 w0 [r3]) (ai (rl (List.length (rowI e25 w0))) (ai (row_sz el25 (rl (List.length (rowI e25 w0))) (rl (List.length w0))) (ai (row_sc el25 [r3]) (ai (row_es el25 [r3]) trivial))))))))))))))))) (by kernel_rfl)) (Weak.sel (E := [(0, .p (.ref [.sl (List.map e68 v0) false, .map (mapK e81 v0_1) (mapV e2 v0_1)])), (1, .p (.sl (List.map e3 v1) false)), (7, .msl 0 0 (List.length (w0 ++ [r3])) (List.length (rowI e25 (w0 ++ [r3]))) false), (8, .p (.int .i64 (IntKind.wrap .i64 (v8 + 1))))]) (E' := [(0, .p (.ref [.sl (List.map e68 v0) false, .map (mapK e81 v0_1) (mapV e2 v0_1)])), (1, .p (.sl (List.map e3 v1) false)), (7, .msl 0 0 (List.length (w0 ++ [r3])) (List.length (rowI e25 (w0 ++ [r3]))) false), (8, .p (.int .i64 (IntKind.wrap .i64 (v8 + 1))))]) (H := [.cells (rowI e25 (w0 ++ [r3])) 1, .dead]) (H' := [.cells (rowI e25 (w0 ++ [r3])) 1]) [0] (selH_cons (o := .cells (rowI e25 (w0 ++ [r3])) 1) (o' := .cells (rowI e25 (w0 ++ [r3])) 1) (by kernel_rfl) sel_row trivial) (by kernel_rfl) (by kernel_rfl))) (L53_1_ok rc_F53 hrc_F53 v0 v0_1 v1 fuel (IntKind.wrap .i64 (v8 + 1)) (w0 ++ [r3]) _ g7)
      · subst h5
        exact SemJ.again (σ1 := ⟨[(0, .p (.ref [.sl (List.map e68 v0) false, .map (mapK e81 v0_1) (mapV e2 v0_1)])), (1, .p (.sl (List.map e3 v1) false)), (7, .msl 0 0 (List.length w0) (List.length (rowI e25 w0)) false), (8, .p (.int .i64 (IntKind.wrap .i64 (v8 + 1))))], [.cells (rowI e25 w0) 1]⟩) (SemC.post (path hm (σ' := ⟨[(0, .p (.ref [.sl (List.map e68 v0) false, .map (mapK e81 v0_1) (mapV e2 v0_1)])), (1, .p (.sl (List.map e3 v1) false)), (7, .msl 0 0 (List.length w0) (List.length (rowI e25 w0)) false), (8, .p (.int .i64 (IntKind.wrap .i64 (v8 + 1))))], [.cells (rowI e25 w0) 1, .cells (rowI e3 (x1 ++ [v8])) 1]⟩) (ks := [0, 1, 7, 8]) (cc := c53 ++ [.reg [] [] 0 [(2, none, .bor [] [.ref [.sl (List.map e68 v0) false, .map (mapK e81 v0_1) (mapV e2 v0_1)], .sl (List.map e3 (x1 ++ [v8])) false] (.bool false))] [0, 1, 7, 8, 9, 35], .reg [] [] 0 [] [0, 1, 7, 8]])
        (q54 (ai (by decide : 0 < 1) (q55 trivial))) (by kernel_rfl)) (Weak.sel (E := [(0, .p (.ref [.sl (List.map e68 v0) false, .map (mapK e81 v0_1) (mapV e2 v0_1)])), (1, .p (.sl (List.map e3 v1) false)), (7, .msl 0 0 (List.length w0) (List.length (rowI e25 w0)) false), (8, .p (.int .i64 (IntKind.wrap .i64 (v8 + 1))))]) (E' := [(0, .p (.ref [.sl (List.map e68 v0) false, .map (mapK e81 v0_1) (mapV e2 v0_1)])), (1, .p (.sl (List.map e3 v1) false)), (7, .msl 0 0 (List.length w0) (List.length (rowI e25 w0)) false), (8, .p (.int .i64 (IntKind.wrap .i64 (v8 + 1))))]) (H := [.cells (rowI e25 w0) 1, .cells (rowI e3 (x1 ++ [v8])) 1]) (H' := [.cells (rowI e25 w0) 1]) [0] (selH_cons (o := .cells (rowI e25 w0) 1) (o' := .cells (rowI e25 w0) 1) (by kernel_rfl) sel_row trivial) (by kernel_rfl) (by kernel_rfl))) (L53_1_ok rc_F53 hrc_F53 v0 v0_1 v1 fuel (IntKind.wrap .i64 (v8 + 1)) w0 _ g5)
    · have hr := Option.some.inj g1
      subst hr
      exact SemC.cast (SemJ.out (e := (.exit 0)) (path hm (σ' := ⟨[(7, .msl 0 0 (List.length w0) (List.length (rowI e25 w0)) false)], [.cells (rowI e25 w0) 1]⟩) (ks := [7]) (cc := [.reg [] [] 0 [(6, none, .n (v0.length : Int)), (7, none, .b false)] [0, 1, 7, 8, 20]])
        (ai (len_map e68 v0) (ai h1 trivial)) (by kernel_rfl)) (by simp)) (by kernel_rfl) (by kernel_rfl)
def L53_0 (rc_F53 : ((List (Int × Int)) × (List ((Int × Int) × Int))) → (List Int) → Int → Option (List Int)) (v0 : (List (Int × Int))) (v0_1 : (List ((Int × Int) × Int))) (v1 : (List Int)) (v7 : (List (List Int))) : Nat → Int → Option ((List (List Int)) ⊕ Unit)
  | 0, _ => none
  | fuel + 1, v8 =>
    oif ((decide (v8 < (v0.length : Int))))
    (obind (subL v1 none (some (v1.length : Int))) fun x1 => oif (decide (((List.length (List.map e3 x1)) + 1) * 8 ≤ 140737488355328)) (obind (F56 fuel (v0, v0_1) (x1 ++ [v8])) fun r2 => oif (r2)
      (obind (rc_F53 (v0, v0_1) (x1 ++ [v8]) (IntKind.wrap .i64 (v8 + 1))) fun r3 => oif (decide (((List.length (List.map e25 v7)) + 1) * 24 ≤ 140737488355328)) (obind (L53_1 rc_F53 v0 v0_1 v1 fuel (IntKind.wrap .i64 (v8 + 1)) (v7 ++ [r3])) fun y4 => some (.inl y4)) none)
      (L53_0 rc_F53 v0 v0_1 v1 v7 fuel (IntKind.wrap .i64 (v8 + 1)))) none)
    (some (.inr (())))
noncomputable def L53_0_post (v0 : (List (Int × Int))) (v0_1 : (List ((Int × Int) × Int))) (v1 : (List Int)) (v7 : (List (List Int)))  : ((List (List Int)) ⊕ Unit) → Ex × St
  | .inl y => ((.exit 0), ⟨[(7, .msl 0 0 (List.length y) (List.length (rowI e25 y)) false)], [.cells (rowI e25 y) 1]⟩)
  | .inr (y) => ((.exit 0), ⟨[(7, .p (.sl (List.map e25 v7) true))], []⟩)
theorem L53_0_ok (rc_F53 : ((List (Int × Int)) × (List ((Int × Int) × Int))) → (List Int) → Int → Option (List Int)) (hrc_F53 : ∀ (p0 : ((List (Int × Int)) × (List ((Int × Int) × Int)))) (p1 : (List Int)) (p2 : Int) (fp1 : Bool) (r : (List Int)), rc_F53 p0 p1 p2 = some r → CallP prog 53 [.ref [.sl (List.map e68 p0.1) false, .map (mapK e81 p0.2) (mapV e2 p0.2)], .sl (List.map e3 p1) fp1, .int .i64 p2] (.sl (List.map e3 r) false)) (v0 : (List (Int × Int))) (v0_1 : (List ((Int × Int) × Int))) (v1 : (List Int)) (v7 : (List (List Int)))  : ∀ (fuel : Nat) (v8 : Int) (r : ((List (List Int)) ⊕ Unit)), L53_0 rc_F53 v0 v0_1 v1 v7 fuel v8 = some r →
    SemJ prog ⟨46, 0, false⟩ (codeAt [1, 0, 1, 1, 0, 1, 0, 0] (bodyOf f53)) ⟨[(0, .p (.ref [.sl (List.map e68 v0) false, .map (mapK e81 v0_1) (mapV e2 v0_1)])), (1, .p (.sl (List.map e3 v1) false)), (7, .p (.sl (List.map e25 v7) true)), (8, .p (.int .i64 v8))], []⟩ (L53_0_post v0 v0_1 v1 v7 r).1 (L53_0_post v0 v0_1 v1 v7 r).2
  | 0, _, _, h => nomatch h
  | fuel + 1, v8, r, h => by
    unfold L53_0 at h
    refine oif_elim h (fun h1 g1 => ?_) (fun h1 g1 => ?_)
    · refine obind_elim g1 fun x1 h2 g2 => ?_
      refine oif_elim g2 (fun h3 g3 => ?_) (fun _ h => nomatch h)
      refine obind_elim g3 fun r2 h4 g4 => ?_
      let c56 : List CC := [.reg [] [] 0 [(6, none, .n (v0.length : Int)), (7, none, .b true)] [0, 1, 7, 8, 20], .reg [] [] 1 [(2, none, .n (v1.length : Int)), (4, none, .n (v1.length : Int)), (5, none, .pvs (List.map e3 x1)), (8, some 0, .ap (rowI e3 (x1 ++ [v8])) (List.length (x1 ++ [v8])) (List.length (rowI e3 (x1 ++ [v8]))))] [0, 1, 7, 8, 9]]
      have q57 := fun {P : Prop} (t : P) => ai (len_map e68 v0) (ai h1 (ai (len_map e3 v1) (ai (len_map e3 v1) (ai (sub_eq e3 h2) (ai (row_es el3 v1) (ai (sub_hi0 h2) (ai (sub_hi1 e3 h2) (ai (rfl : ((v1.length : Int) : Int) = (v1.length : Int)) t))))))))
      have q58 := fun {P : Prop} (t : P) => ai (od h3) (ai (app_c2 (by decide) (od h3)) (ai (app_len2 e3 x1 [v8]) (ai (rl (List.length (rowI e3 (x1 ++ [v8])))) (ai (row_app2 e3 x1 [v8]) (ai (row_sc el3 [v8]) (ai (row_es el3 [v8]) (ai (row_es el3 x1) (ai (.refl _ : PVle (.ref [.sl (List.map e68 v0) false, .map (mapK e81 v0_1) (mapV e2 v0_1)]) (.ref [.sl (List.map e68 v0) false, .map (mapK e81 v0_1) (mapV e2 v0_1)])) (ai (snap_row (hp := one 0 (.cells (rowI e3 (x1 ++ [v8])) 1)) (l := 0) (x := false) (g := 1) (L := (x1 ++ [v8])) el3 (by kernel_rfl) (rl (List.length (rowI e3 (x1 ++ [v8])))) (rl (List.length (x1 ++ [v8])))) (ai (F56_ok fuel (v0, v0_1) (x1 ++ [v8]) false _ h4) t))))))))))
      refine oif_elim g4 (fun h5 g5 => ?_) (fun h5 g5 => ?_)
      · subst h5
        refine obind_elim g5 fun r3 h6 g6 => ?_
        refine oif_elim g6 (fun h7 g7 => ?_) (fun _ h => nomatch h)
        refine obind_elim g7 fun y4 h8 g8 => ?_
        have hr := Option.some.inj g8
        subst hr
        exact SemC.cast (SemJ.again (σ1 := ⟨[(0, .p (.ref [.sl (List.map e68 v0) false, .map (mapK e81 v0_1) (mapV e2 v0_1)])), (1, .p (.sl (List.map e3 v1) false)), (7, .msl 0 0 (List.length (v7 ++ [r3])) (List.length (rowI e25 (v7 ++ [r3]))) false), (8, .p (.int .i64 (IntKind.wrap .i64 (v8 + 1))))], [.cells (rowI e25 (v7 ++ [r3])) 1]⟩) (SemC.post (path hm (σ' := ⟨[(0, .p (.ref [.sl (List.map e68 v0) false, .map (mapK e81 v0_1) (mapV e2 v0_1)])), (1, .p (.sl (List.map e3 v1) false)), (7, .msl 1 0 (List.length (v7 ++ [r3])) (List.length (rowI e25 (v7 ++ [r3]))) false), (8, .p (.int .i64 (IntKind.wrap .i64 (v8 + 1))))], [.dead, .cells (rowI e25 (v7 ++ [r3])) 1]⟩) (ks := [0, 1, 7, 8]) (cc := c56 ++ [.reg [] [] 0 [(2, none, .bor [] [.ref [.sl (List.map e68 v0) false, .map (mapK e81 v0_1) (mapV e2 v0_1)], .sl (List.map e3 (x1 ++ [v8])) false] (.bool true))] [0, 1, 7, 8, 9, 35], .reg [] [] 1 [(5, none, .bor [0] [.ref [.sl (List.map e68 v0) false, .map (mapK e81 v0_1) (mapV e2 v0_1)], .sl (List.map e3 (x1 ++ [v8])) false, .int .i64 (IntKind.wrap .i64 (v8 + 1))] (.sl (List.map e3 r3) false)), (7, some 1, .ap (rowI e25 (v7 ++ [r3])) (List.length (v7 ++ [r3])) (List.length (rowI e25 (v7 ++ [r3]))))] [0, 1, 7, 8], .reg [] [] 0 [] [0, 1, 7, 8]])
        (q57 (ai (by decide : 0 < 1) (q58 (ai (.refl _ : PVle (.ref [.sl (List.map e68 v0) false, .map (mapK e81 v0_1) (mapV e2 v0_1)]) (.ref [.sl (List.map e68 v0) false, .map (mapK e81 v0_1) (mapV e2 v0_1)])) (ai (snap_row (hp := one 0 (.cells (rowI e3 (x1 ++ [v8])) 1)) (l := 0) (x := false) (g := 1) (L := (x1 ++ [v8])) el3 (by kernel_rfl) (rl (List.length (rowI e3 (x1 ++ [v8])))) (rl (List.length (x1 ++ [v8])))) (ai (.refl _ : PVle (.int .i64 (IntKind.wrap .i64 (v8 + 1))) (.int .i64 (IntKind.wrap .i64 (v8 + 1)))) (ai (hrc_F53 (v0, v0_1) (x1 ++ [v8]) (IntKind.wrap .i64 (v8 + 1)) false _ h6) (ai (by decide : 0 < 1) (ai (od h7) (ai (app_c2 (by decide) (od h7)) (ai (app_len2 e25 v7 [r3]) (ai (rl (List.length (rowI e25 (v7 ++ [r3])))) (ai (row_app2 e25 v7 [r3]) (ai (row_sc el25 [r3]) (ai (row_es el25 [r3]) (ai (row_es el25 v7) trivial)))))))))))))))) (by kernel_rfl)) (Weak.sel (E := [(0, .p (.ref [.sl (List.map e68 v0) false, .map (mapK e81 v0_1) (mapV e2 v0_1)])), (1, .p (.sl (List.map e3 v1) false)), (7, .msl 1 0 (List.length (v7 ++ [r3])) (List.length (rowI e25 (v7 ++ [r3]))) false), (8, .p (.int .i64 (IntKind.wrap .i64 (v8 + 1))))]) (E' := [(0, .p (.ref [.sl (List.map e68 v0) false, .map (mapK e81 v0_1) (mapV e2 v0_1)])), (1, .p (.sl (List.map e3 v1) false)), (7, .msl 0 0 (List.length (v7 ++ [r3])) (List.length (rowI e25 (v7 ++ [r3]))) false), (8, .p (.int .i64 (IntKind.wrap .i64 (v8 + 1))))]) (H := [.dead, .cells (rowI e25 (v7 ++ [r3])) 1]) (H' := [.cells (rowI e25 (v7 ++ [r3])) 1]) [1] (selH_cons (o := .cells (rowI e25 (v7 ++ [r3])) 1) (o' := .cells (rowI e25 (v7 ++ [r3])) 1) (by kernel_rfl) sel_row trivial) (by kernel_rfl) (by kernel_rfl))) (L53_1_ok rc_F53 hrc_F53 v0 v0_1 v1 fuel (IntKind.wrap .i64 (v8 + 1)) (v7 ++ [r3]) _ h8)) (by kernel_rfl) (by kernel_rfl)
      · subst h5
        exact SemJ.again (σ1 := ⟨[(0, .p (.ref [.sl (List.map e68 v0) false, .map (mapK e81 v0_1) (mapV e2 v0_1)])), (1, .p (.sl (List.map e3 v1) false)), (7, .p (.sl (List.map e25 v7) true)), (8, .p (.int .i64 (IntKind.wrap .i64 (v8 + 1))))], []⟩) (SemC.post (path hm (σ' := ⟨[(0, .p (.ref [.sl (List.map e68 v0) false, .map (mapK e81 v0_1) (mapV e2 v0_1)])), (1, .p (.sl (List.map e3 v1) false)), (7, .p (.sl (List.map e25 v7) true)), (8, .p (.int .i64 (IntKind.wrap .i64 (v8 + 1))))], [.cells (rowI e3 (x1 ++ [v8])) 1]⟩) (ks := [0, 1, 7, 8]) (cc := c56 ++ [.reg [] [] 0 [(2, none, .bor [] [.ref [.sl (List.map e68 v0) false, .map (mapK e81 v0_1) (mapV e2 v0_1)], .sl (List.map e3 (x1 ++ [v8])) false] (.bool false))] [0, 1, 7, 8, 9, 35], .reg [] [] 0 [] [0, 1, 7, 8]])
        (q57 (ai (by decide : 0 < 1) (q58 trivial))) (by kernel_rfl)) (Weak.sel (E := [(0, .p (.ref [.sl (List.map e68 v0) false, .map (mapK e81 v0_1) (mapV e2 v0_1)])), (1, .p (.sl (List.map e3 v1) false)), (7, .p (.sl (List.map e25 v7) true)), (8, .p (.int .i64 (IntKind.wrap .i64 (v8 + 1))))]) (E' := [(0, .p (.ref [.sl (List.map e68 v0) false, .map (mapK e81 v0_1) (mapV e2 v0_1)])), (1, .p (.sl (List.map e3 v1) false)), (7, .p (.sl (List.map e25 v7) true)), (8, .p (.int .i64 (IntKind.wrap .i64 (v8 + 1))))]) (H := [.cells (rowI e3 (x1 ++ [v8])) 1]) (H' := []) [] trivial (by kernel_rfl) (by kernel_rfl))) (L53_0_ok rc_F53 hrc_F53 v0 v0_1 v1 v7 fuel (IntKind.wrap .i64 (v8 + 1)) _ g5)
    · have hr := Option.some.inj g1
      subst hr
      exact SemC.cast (SemJ.out (e := (.exit 0)) (path hm (σ' := ⟨[(7, .p (.sl (List.map e25 v7) true))], []⟩) (ks := [7]) (cc := [.reg [] [] 0 [(6, none, .n (v0.length : Int)), (7, none, .b false)] [0, 1, 7, 8, 20]])
        (ai (len_map e68 v0) (ai h1 trivial)) (by kernel_rfl)) (by simp)) (by kernel_rfl) (by kernel_rfl)
def F69  (fuel : Nat) (p0 : (List Int)) (p1 : (List Int)) : Option Bool :=
  oif ((decide ((p0.length : Int) > (p1.length : Int))))
  (some true)
  (some false)
theorem F69_ok  (fuel : Nat) (p0 : (List Int)) (p1 : (List Int)) (fp0 : Bool) (fp1 : Bool) (r : Bool) (h : F69 fuel p0 p1 = some r) : CallP prog 69 [.sl (List.map e3 p0) fp0, .sl (List.map e3 p1) fp1] (.bool r) := by
  unfold F69 at h
  refine oif_elim h (fun h1 g1 => ?_) (fun h1 g1 => ?_)
  · have hr := Option.some.inj g1
    subst hr
    exact callP_of is69 rfl (path hm (ks := [4]) (σ' := ⟨[(4, .p (.bool true))], []⟩) (cc := [.reg [] [] 0 [] [0, 1], .reg [] [] 0 [(1, none, .n (p0.length : Int)), (3, none, .n (p1.length : Int)), (4, none, .b true)] [4]])
      (ai (len_map e3 p0) (ai (len_map e3 p1) (ai h1 trivial))) (by kernel_rfl)) (e := .ret) rfl (vs := [.p (.bool true)]) trivial (by kernel_rfl) (.p _ _ (.refl _))
  · have hr := Option.some.inj g1
    subst hr
    exact callP_of is69 rfl (path hm (ks := [4]) (σ' := ⟨[(4, .p (.bool false))], []⟩) (cc := [.reg [] [] 0 [] [0, 1], .reg [] [] 0 [(1, none, .n (p0.length : Int)), (3, none, .n (p1.length : Int)), (4, none, .b false)] [4]])
      (ai (len_map e3 p0) (ai (len_map e3 p1) (ai h1 trivial))) (by kernel_rfl)) (e := .ret) rfl (vs := [.p (.bool false)]) trivial (by kernel_rfl) (.p _ _ (.refl _))
def L68_0  (v12 : (List (List Int))) (v13 : Int) : Nat → (List Int) → Int → Option (List Int)
  | 0, _, _ => none
  | fuel + 1, v5, v14 =>
    oif ((decide (v14 < v13)))
    (obind (sg v12 v14) fun x1 => obind (F69 fuel x1 v5) fun r2 => oif (r2)
      (L68_0 v12 v13 fuel x1 (IntKind.wrap .i64 (v14 + 1)))
      (L68_0 v12 v13 fuel v5 (IntKind.wrap .i64 (v14 + 1))))
    (some (v5))
noncomputable def L68_0_post (v12 : (List (List Int))) (v13 : Int) (fp0 : Bool) : (List Int) → Ex × St
  | y => ((.exit 0), ⟨[(5, .p (.sl (List.map e3 y) false))], []⟩)
theorem L68_0_ok  (v12 : (List (List Int))) (v13 : Int) (fp0 : Bool) : ∀ (fuel : Nat) (v5 : (List Int)) (v14 : Int) (r : (List Int)), L68_0 v12 v13 fuel v5 v14 = some r →
    SemJ prog ⟨25, 0, false⟩ (codeAt [1, 1, 0, 1, 0, 0] (bodyOf f68)) ⟨[(1, .p (.fn 69 [] [])), (5, .p (.sl (List.map e3 v5) false)), (12, .p (.sl (List.map e25 v12) fp0)), (13, .p (.int .i64 v13)), (14, .p (.int .i64 v14))], []⟩ (L68_0_post v12 v13 fp0 r).1 (L68_0_post v12 v13 fp0 r).2
  | 0, _, _, _, h => nomatch h
  | fuel + 1, v5, v14, r, h => by
    unfold L68_0 at h
    refine oif_elim h (fun h1 g1 => ?_) (fun h1 g1 => ?_)
    · refine obind_elim g1 fun x1 h2 g2 => ?_
      refine obind_elim g2 fun r2 h3 g3 => ?_
      let c59 : List CC := [.reg [] [] 0 [(0, none, .b true)] [1, 5, 12, 13, 14, 15], .reg [] [] 0 [(0, none, .iv (.p (.sl (List.map e3 x1) false)))] [1, 5, 7, 12, 13, 14]]
      refine oif_elim g3 (fun h4 g4 => ?_) (fun h4 g4 => ?_)
      · subst h4
        exact SemJ.again (σ1 := ⟨[(1, .p (.fn 69 [] [])), (5, .p (.sl (List.map e3 x1) false)), (12, .p (.sl (List.map e25 v12) fp0)), (13, .p (.int .i64 v13)), (14, .p (.int .i64 (IntKind.wrap .i64 (v14 + 1))))], []⟩) (path hm (σ' := ⟨[(1, .p (.fn 69 [] [])), (5, .p (.sl (List.map e3 x1) false)), (12, .p (.sl (List.map e25 v12) fp0)), (13, .p (.int .i64 v13)), (14, .p (.int .i64 (IntKind.wrap .i64 (v14 + 1))))], []⟩) (ks := [1, 5, 12, 13, 14]) (cc := c59 ++ [.reg [] [] 0 [(3, none, .call (.bool true))] [1, 5, 7, 12, 13, 14, 21], .reg [] [] 0 [] [1, 5, 12, 13, 14], .reg [] [] 0 [] [1, 5, 12, 13, 14]])
        (ai h1 (ai (sg_map (f := e25) h2) (ai (F69_ok fuel x1 v5 false false _ h3) trivial))) (by kernel_rfl)) (L68_0_ok v12 v13 fp0 fuel x1 (IntKind.wrap .i64 (v14 + 1)) _ g4)
      · subst h4
        exact SemJ.again (σ1 := ⟨[(1, .p (.fn 69 [] [])), (5, .p (.sl (List.map e3 v5) false)), (12, .p (.sl (List.map e25 v12) fp0)), (13, .p (.int .i64 v13)), (14, .p (.int .i64 (IntKind.wrap .i64 (v14 + 1))))], []⟩) (path hm (σ' := ⟨[(1, .p (.fn 69 [] [])), (5, .p (.sl (List.map e3 v5) false)), (12, .p (.sl (List.map e25 v12) fp0)), (13, .p (.int .i64 v13)), (14, .p (.int .i64 (IntKind.wrap .i64 (v14 + 1))))], []⟩) (ks := [1, 5, 12, 13, 14]) (cc := c59 ++ [.reg [] [] 0 [(3, none, .call (.bool false))] [1, 5, 7, 12, 13, 14, 21], .reg [] [] 0 [] [1, 5, 12, 13, 14]])
        (ai h1 (ai (sg_map (f := e25) h2) (ai (F69_ok fuel x1 v5 false false _ h3) trivial))) (by kernel_rfl)) (L68_0_ok v12 v13 fp0 fuel v5 (IntKind.wrap .i64 (v14 + 1)) _ g4)
    · have hr := Option.some.inj g1
      subst hr
      exact SemC.cast (SemJ.out (e := (.exit 0)) (path hm (σ' := ⟨[(5, .p (.sl (List.map e3 v5) false))], []⟩) (ks := [5]) (cc := [.reg [] [] 0 [(0, none, .b false)] [1, 5, 12, 13, 14, 15]])
        (ai h1 trivial) (by kernel_rfl)) (by simp)) (by kernel_rfl) (by kernel_rfl)
def F68  (fuel : Nat) (p0 : (List (List Int))) : Option (List Int) :=
  obind (sg p0 0) fun x1 => obind (subL p0 (some 1) none) fun x2 => obind (L68_0 x2 (x2.length : Int) fuel x1 0) fun y3 => some y3
theorem F68_ok  (fuel : Nat) (p0 : (List (List Int))) (fp0 : Bool) (r : (List Int)) (h : F68 fuel p0 = some r) : CallP prog 68 [.sl (List.map e25 p0) fp0, .fn 69 [] []] (.sl (List.map e3 r) false) := by
  unfold F68 at h
  refine obind_elim h fun x1 h1 g1 => ?_
  refine obind_elim g1 fun x2 h2 g2 => ?_
  refine obind_elim g2 fun y3 h3 g3 => ?_
  have hr := Option.some.inj g3
  subst hr
  exact callP_of is68 rfl (path hm (ks := [4]) (σ' := ⟨[(4, .p (.sl (List.map e3 y3) false))], []⟩) (cc := [.reg [] [] 0 [] [0, 1], .reg [] [] 0 [(1, none, .iv (.p (.sl (List.map e3 x1) false)))] [0, 1, 5], .reg [] [] 0 [(1, none, .pvs (List.map e25 x2)), (2, none, .n (x2.length : Int))] [1, 5, 12, 13, 14], .leaf (.exit 0) ⟨[(5, .p (.sl (List.map e3 y3) false))], []⟩, .reg [] [] 0 [] [4]])
      (ai (sg_map (f := e25) h1) (ai (sub_eq e25 h2) (ai (row_es el25 p0) (ai (sub_lo0 h2) (ai (sub_lo1 e25 h2) (ai (len_map e25 x2) (ai (SemJ.loop (L68_0_ok x2 (x2.length : Int) fp0 fuel x1 0 _ h3)) trivial))))))) (by kernel_rfl)) (e := .ret) rfl (vs := [.p (.sl (List.map e3 y3) false)]) trivial (by kernel_rfl) (.p _ _ (.refl _))
def F53  : Nat → ((List (Int × Int)) × (List ((Int × Int) × Int))) → (List Int) → Int → Option (List Int)
  | 0, _, _, _ => none
  | fuel + 1, p0, p1, p2 =>
    (obind (L53_0 (F53 fuel) p0.1 p0.2 p1 [p1] fuel p2) fun y1 => match y1 with
    | .inl y1 => obind (F68 fuel y1) fun r2 => some r2
    | .inr (y1) => obind (F68 fuel [p1]) fun r2 => some r2)
theorem F53_le (p0 : ((List (Int × Int)) × (List ((Int × Int) × Int)))) (p1 : (List Int)) (p2 : Int) (fp1 : Bool) (r : (List Int)) (h : CallP prog 53 [.ref [.sl (List.map e68 p0.1) false, .map (mapK e81 p0.2) (mapV e2 p0.2)], .sl (List.map e3 p1) false, .int .i64 p2] (.sl (List.map e3 r) false)) : CallP prog 53 [.ref [.sl (List.map e68 p0.1) false, .map (mapK e81 p0.2) (mapV e2 p0.2)], .sl (List.map e3 p1) fp1, .int .i64 p2] (.sl (List.map e3 r) false) := CallP.le (args' := [.ref [.sl (List.map e68 p0.1) false, .map (mapK e81 p0.2) (mapV e2 p0.2)], .sl (List.map e3 p1) false, .int .i64 p2]) ((.cons _ _ _ _ (.refl _) (.cons _ _ _ _ (.flag _ _ _ (fun h => nomatch h)) (.cons _ _ _ _ (.refl _) .nil)))) h
theorem F53_ok0  : ∀ (fuel : Nat) (p0 : ((List (Int × Int)) × (List ((Int × Int) × Int)))) (p1 : (List Int)) (p2 : Int) (r : (List Int)), F53 fuel p0 p1 p2 = some r → CallP prog 53 [.ref [.sl (List.map e68 p0.1) false, .map (mapK e81 p0.2) (mapV e2 p0.2)], .sl (List.map e3 p1) false, .int .i64 p2] (.sl (List.map e3 r) false)
  | 0, _, _, _, _, h => nomatch h
  | fuel + 1, p0, p1, p2, r, h => by
    unfold F53 at h
    let c60 : List CC := [.reg [] [] 0 [] [0, 1, 2], .reg [] [] 0 [] [0, 1, 2, 7], .reg [] [] 0 [] [0, 1, 7, 8]]
    refine obind_elim h fun y h1 g1 => ?_
    match y, h1, g1 with
    | .inl y1, h1, g1 =>
      refine obind_elim g1 fun r2 h2 g2 => ?_
      have hr := Option.some.inj g2
      subst hr
      exact callP_of is53 rfl (path hm (ks := [6]) (σ' := ⟨[(6, .p (.sl (List.map e3 r2) false))], [.dead]⟩) (cc := c60 ++ [.leaf (.exit 0) ⟨[(7, .msl 0 0 (List.length y1) (List.length (rowI e25 y1)) false)], [.cells (rowI e25 y1) 1]⟩, .reg [] [] 0 [(1, none, .bor [0] [.sl (List.map e25 y1) false, .fn 69 [] []] (.sl (List.map e3 r2) false))] [6]])
      (ai (SemJ.loop (L53_0_ok (F53 fuel) (fun p0 p1 p2 fp1 r h => F53_le p0 p1 p2 fp1 r (F53_ok0 fuel p0 p1 p2 r h)) p0.1 p0.2 p1 [p1] fuel p2 _ h1)) (ai (snap_row (hp := one 0 (.cells (rowI e25 y1) 1)) (l := 0) (x := false) (g := 1) (L := y1) el25 (by kernel_rfl) (rl (List.length (rowI e25 y1))) (rl (List.length y1))) (ai (.refl _ : PVle (.fn 69 [] []) (.fn 69 [] [])) (ai (F68_ok fuel y1 false _ h2) trivial)))) (by kernel_rfl)) (e := .ret) rfl (vs := [.p (.sl (List.map e3 r2) false)]) trivial (by kernel_rfl) (.p _ _ (.refl _))
    | .inr (y1), h1, g1 =>
      refine obind_elim g1 fun r2 h2 g2 => ?_
      have hr := Option.some.inj g2
      subst hr
      exact callP_of is53 rfl (path hm (ks := [6]) (σ' := ⟨[(6, .p (.sl (List.map e3 r2) false))], []⟩) (cc := c60 ++ [.leaf (.exit 0) ⟨[(7, .p (.sl (List.map e25 [p1]) true))], []⟩, .reg [] [] 0 [(1, none, .call (.sl (List.map e3 r2) false))] [6]])
      (ai (SemJ.loop (L53_0_ok (F53 fuel) (fun p0 p1 p2 fp1 r h => F53_le p0 p1 p2 fp1 r (F53_ok0 fuel p0 p1 p2 r h)) p0.1 p0.2 p1 [p1] fuel p2 _ h1)) (ai (F68_ok fuel [p1] true _ h2) trivial)) (by kernel_rfl)) (e := .ret) rfl (vs := [.p (.sl (List.map e3 r2) false)]) trivial (by kernel_rfl) (.p _ _ (.refl _))
theorem F53_ok  (fuel : Nat) (p0 : ((List (Int × Int)) × (List ((Int × Int) × Int)))) (p1 : (List Int)) (p2 : Int) (fp1 : Bool) (r : (List Int)) (h : F53 fuel p0 p1 p2 = some r) : CallP prog 53 [.ref [.sl (List.map e68 p0.1) false, .map (mapK e81 p0.2) (mapV e2 p0.2)], .sl (List.map e3 p1) fp1, .int .i64 p2] (.sl (List.map e3 r) false) := F53_le p0 p1 p2 fp1 r (F53_ok0 fuel p0 p1 p2 r h)
def F26  (fuel : Nat) (p0 : (List (Int × Int))) : Option ((List Int) × Int) :=
  (obind (F38 fuel p0 []) fun y1 => match y1 with
  | .inl y1 => oif ((y1 != 0))
    (some ([], y1))
    (none)
  | .inr (y1) => obind (F53 fuel (p0, y1) [] 0) fun r2 => oif (decide ((0:Int) ≤ (r2.length : Int))) (oif (decide (((8 : Nat) : Int) * (r2.length : Int) ≤ 281474976710656)) (oif (decide (((r2.length : Int) : Int) ≤ 9223372036854775807)) (some ((copyL (List.replicate (Int.toNat (r2.length : Int)) (0 : Int)) r2), 0)) none) none) none)
theorem F26_ok  (fuel : Nat) (p0 : (List (Int × Int))) (fp0 : Bool) (r : ((List Int) × Int)) (h : F26 fuel p0 = some r) : CallP prog 26 [.sl (List.map e68 p0) fp0] (.tup [.sl (List.map e3 r.1) false, .int .i64 r.2]) := by
  unfold F26 at h
  refine obind_elim h fun y h1 g1 => ?_
  match y, h1, g1 with
  | .inl y1, h1, g1 =>
    refine oif_elim g1 (fun h2 g2 => ?_) (fun h2 g2 => ?_)
    · have hr := Option.some.inj g2
      subst hr
      exact callP_of is26 rfl (path hm (ks := [2, 3]) (σ' := ⟨[(2, .p (.nilsl)), (3, .p (.int .i64 y1))], []⟩) (cc := [.reg [] [] 0 [] [0], .reg [] [] 0 [(1, none, .cw [.sl (List.map e68 p0) fp0, .sl (List.map e2 ([] : List Int)) false] (.tup [.nilp, .int .i64 y1]))] [4, 5], .reg [] [] 0 [(1, none, .b true)] [4, 5, 14], .reg [] [] 0 [] [2, 3]])
      (ai (show PVleL [.sl (List.map e68 p0) fp0, .nilsl] [.sl (List.map e68 p0) fp0, .sl (List.map e2 ([] : List Int)) false] from (.cons _ _ _ _ (.refl _) (.cons _ _ _ _ (.nil _) .nil))) (ai (F38_ok fuel p0 [] fp0 false _ h1) (ai h2 trivial))) (by kernel_rfl)) (e := .ret) rfl (vs := [.p (.nilsl), .p (.int .i64 y1)]) trivial (by kernel_rfl) (.tup _ _ (.cons _ _ _ _ (.p _ _ (.nil _)) (.cons _ _ _ _ (.p _ _ (.refl _)) .nil)))
    · exact nomatch g2
  | .inr (y1), h1, g1 =>
    refine obind_elim g1 fun r2 h2 g2 => ?_
    refine oif_elim g2 (fun h3 g3 => ?_) (fun _ h => nomatch h)
    refine oif_elim g3 (fun h4 g4 => ?_) (fun _ h => nomatch h)
    refine oif_elim g4 (fun h5 g5 => ?_) (fun _ h => nomatch h)
    have hr := Option.some.inj g5
    subst hr
    exact callP_of is26 rfl (path hm (ks := [2, 3]) (σ' := ⟨[(2, .msl 0 0 (Int.toNat (r2.length : Int)) (List.length (rowI e3 (List.replicate (Int.toNat (r2.length : Int)) (0 : Int)))) true), (3, .p (.int .i64 0))], [.cells (rowI e3 (copyL (List.replicate (Int.toNat (r2.length : Int)) (0 : Int)) r2)) 1]⟩) (cc := [.reg [] [] 0 [] [0], .reg [] [] 0 [(1, none, .cw [.sl (List.map e68 p0) fp0, .sl (List.map e2 ([] : List Int)) false] (.tup [.ref [.sl (List.map e68 p0) false, .map (mapK e81 y1) (mapV e2 y1)], .int .i64 0]))] [4, 5], .reg [] [] 0 [] [4, 5, 14], .reg [] [] 0 [(1, none, .cw [.ref [.sl (List.map e68 p0) false, .map (mapK e81 y1) (mapV e2 y1)], .sl (List.map e3 ([] : List Int)) false, .int .i64 0] (.sl (List.map e3 r2) false))] [6], .reg [] [] 1 [(1, none, .n (r2.length : Int)), (2, some 0, .ap (rowI e3 (List.replicate (Int.toNat (r2.length : Int)) (0 : Int))) (Int.toNat (r2.length : Int)) (List.length (rowI e3 (List.replicate (Int.toNat (r2.length : Int)) (0 : Int)))))] [6, 7], .reg [] [] 0 [(2, none, .ap (rowI e3 (copyL (List.replicate (Int.toNat (r2.length : Int)) (0 : Int)) r2)) (Nat.min (List.length (List.map e3 r2)) (Int.toNat (r2.length : Int))) 0)] [7], .reg [] [] 0 [] [2, 3]])
      (ai (show PVleL [.sl (List.map e68 p0) fp0, .nilsl] [.sl (List.map e68 p0) fp0, .sl (List.map e2 ([] : List Int)) false] from (.cons _ _ _ _ (.refl _) (.cons _ _ _ _ (.nil _) .nil))) (ai (F38_ok fuel p0 [] fp0 false _ h1) (ai (show PVleL [.ref [.sl (List.map e68 p0) false, .map (mapK e81 y1) (mapV e2 y1)], .nilsl, .int .i64 0] [.ref [.sl (List.map e68 p0) false, .map (mapK e81 y1) (mapV e2 y1)], .sl (List.map e3 ([] : List Int)) false, .int .i64 0] from (.cons _ _ _ _ (.refl _) (.cons _ _ _ _ (.nil _) (.cons _ _ _ _ (.refl _) .nil)))) (ai (F53_ok fuel (p0, y1) [] 0 false _ h2) (ai (len_map e3 r2) (ai (od h3) (ai (rfl : ((r2.length : Int) : Int) = (r2.length : Int)) (ai (od h4) (ai (od h5) (ai (rl (Int.toNat (r2.length : Int))) (ai (rl (List.length (rowI e3 (List.replicate (Int.toNat (r2.length : Int)) (0 : Int))))) (ai (zeros_row el3 (0 : Int) (Int.toNat (r2.length : Int))) (ai (rl (Nat.min (List.length (List.map e3 r2)) (Int.toNat (r2.length : Int)))) (ai (rl (List.length (rowI e3 (List.replicate (Int.toNat (r2.length : Int)) (0 : Int))))) (ai (row_whole_le el3 (List.length_replicate : List.length (List.replicate (Int.toNat (r2.length : Int)) (0 : Int)) = (Int.toNat (r2.length : Int))) (rl (List.length (rowI e3 (List.replicate (Int.toNat (r2.length : Int)) (0 : Int)))))) (ai (fun y h => row_sc el3 r2 y h) (ai (row_copy' el3 (L := (List.replicate (Int.toNat (r2.length : Int)) (0 : Int))) (M := r2) rfl (List.length_replicate : List.length (List.replicate (Int.toNat (r2.length : Int)) (0 : Int)) = (Int.toNat (r2.length : Int)))) (ai (row_es el3 r2) trivial)))))))))))))))))) (by kernel_rfl)) (e := .ret) rfl (vs := [.msl 0 0 (Int.toNat (r2.length : Int)) (List.length (rowI e3 (List.replicate (Int.toNat (r2.length : Int)) (0 : Int)))) true, .p (.int .i64 0)]) trivial (by kernel_rfl) (.tup _ _ (.cons _ _ _ _ (snap_row (g := 1) (L := (copyL (List.replicate (Int.toNat (r2.length : Int)) (0 : Int)) r2)) el3 (by kernel_rfl) ((row_copylen el3 (List.replicate (Int.toNat (r2.length : Int)) (0 : Int)) r2).trans (rl (List.length (rowI e3 (List.replicate (Int.toNat (r2.length : Int)) (0 : Int)))))) ((copyL_len (List.replicate (Int.toNat (r2.length : Int)) (0 : Int)) r2).trans (List.length_replicate : List.length (List.replicate (Int.toNat (r2.length : Int)) (0 : Int)) = (Int.toNat (r2.length : Int))))) (.cons _ _ _ _ (.p _ _ (.refl _)) .nil)))
def F36  (fuel : Nat) (p0 : (List Int)) : Option (List Int) :=
  some p0
theorem F36_ok  (fuel : Nat) (p0 : (List Int)) (fp0 : Bool) (r : (List Int)) (h : F36 fuel p0 = some r) : CallP prog 36 [.sl (List.map e3 p0) fp0] (.sl (List.map e3 r) false) := by
  unfold F36 at h
  have hr := Option.some.inj h
  subst hr
  exact callP_of is36 rfl (path hm (ks := [2]) (σ' := ⟨[(2, .p (.sl (List.map e3 p0) fp0))], []⟩) (cc := [.reg [] [] 0 [] [0], .reg [] [] 0 [] [2]])
      trivial (by kernel_rfl)) (e := .ret) rfl (vs := [.p (.sl (List.map e3 p0) fp0)]) trivial (by kernel_rfl) (.p _ _ (.flag _ _ _ (fun h => nomatch h)))
def L28_0  (v0 : (List (Int × Int))) (v1 : (List Int)) (v18 : (List Int)) (v19 : Int) : Nat → Int → Int → Option (Unit ⊕ Unit)
  | 0, _, _ => none
  | fuel + 1, v7, v20 =>
    oif ((decide (v20 < v19)))
    (obind (sg v18 v20) fun x1 => obind (F43 fuel v7 (IntKind.wrap .i64 ((v0.length : Int) - 1)) [x1]) fun r2 => oif (r2)
      (L28_0 v0 v1 v18 v19 fuel (IntKind.wrap .i64 (x1 + 1)) (IntKind.wrap .i64 (v20 + 1)))
      (some (.inl ())))
    (some (.inr (())))
noncomputable def L28_0_post (v0 : (List (Int × Int))) (v1 : (List Int)) (v18 : (List Int)) (v19 : Int) (fp0 : Bool) (fp1 : Bool) : (Unit ⊕ Unit) → Ex × St
  | .inl y => (.ret, ⟨[(4, .p (.int .i64 2))], []⟩)
  | .inr (y) => ((.exit 0), ⟨[(1, .p (.sl (List.map e3 v1) fp1)), (5, .p (.nilp))], []⟩)
theorem L28_0_ok  (v0 : (List (Int × Int))) (v1 : (List Int)) (v18 : (List Int)) (v19 : Int) (fp0 : Bool) (fp1 : Bool) : ∀ (fuel : Nat) (v7 : Int) (v20 : Int) (r : (Unit ⊕ Unit)), L28_0 v0 v1 v18 v19 fuel v7 v20 = some r →
    SemJ prog ⟨39, 0, false⟩ (codeAt [1, 1, 1, 1, 0, 1, 0, 0] (bodyOf f28)) ⟨[(0, .p (.sl (List.map e68 v0) fp0)), (1, .p (.sl (List.map e3 v1) fp1)), (5, .p (.nilp)), (7, .p (.int .i64 v7)), (18, .p (.sl (List.map e3 v18) fp1)), (19, .p (.int .i64 v19)), (20, .p (.int .i64 v20))], []⟩ (L28_0_post v0 v1 v18 v19 fp0 fp1 r).1 (L28_0_post v0 v1 v18 v19 fp0 fp1 r).2
  | 0, _, _, _, h => nomatch h
  | fuel + 1, v7, v20, r, h => by
    unfold L28_0 at h
    refine oif_elim h (fun h1 g1 => ?_) (fun h1 g1 => ?_)
    · refine obind_elim g1 fun x1 h2 g2 => ?_
      refine obind_elim g2 fun r2 h3 g3 => ?_
      let c61 : List CC := [.reg [] [] 0 [(0, none, .b true)] [0, 1, 5, 7, 18, 19, 20, 21], .reg [] [] 0 [(0, none, .iv (.p (.int .i64 x1)))] [0, 1, 5, 7, 9, 18, 19, 20]]
      have q62 := fun {P : Prop} (t : P) => ai h1 (ai (sg_map (f := e3) h2) (ai (len_map e68 v0) (ai (F43_ok fuel v7 (IntKind.wrap .i64 ((v0.length : Int) - 1)) [x1] true _ h3) t)))
      refine oif_elim g3 (fun h4 g4 => ?_) (fun h4 g4 => ?_)
      · subst h4
        exact SemJ.again (σ1 := ⟨[(0, .p (.sl (List.map e68 v0) fp0)), (1, .p (.sl (List.map e3 v1) fp1)), (5, .p (.nilp)), (7, .p (.int .i64 (IntKind.wrap .i64 (x1 + 1)))), (18, .p (.sl (List.map e3 v18) fp1)), (19, .p (.int .i64 v19)), (20, .p (.int .i64 (IntKind.wrap .i64 (v20 + 1))))], []⟩) (path hm (σ' := ⟨[(0, .p (.sl (List.map e68 v0) fp0)), (1, .p (.sl (List.map e3 v1) fp1)), (5, .p (.nilp)), (7, .p (.int .i64 (IntKind.wrap .i64 (x1 + 1)))), (18, .p (.sl (List.map e3 v18) fp1)), (19, .p (.int .i64 v19)), (20, .p (.int .i64 (IntKind.wrap .i64 (v20 + 1))))], []⟩) (ks := [0, 1, 5, 7, 18, 19, 20]) (cc := c61 ++ [.reg [] [] 0 [(2, none, .n (v0.length : Int)), (6, none, .call (.bool true))] [0, 1, 5, 9, 18, 19, 20, 31], .reg [] [] 0 [] [0, 1, 5, 7, 18, 19, 20], .reg [] [] 0 [] [0, 1, 5, 7, 18, 19, 20]])
        (q62 trivial) (by kernel_rfl)) (L28_0_ok v0 v1 v18 v19 fp0 fp1 fuel (IntKind.wrap .i64 (x1 + 1)) (IntKind.wrap .i64 (v20 + 1)) _ g4)
      · subst h4
        have hr := Option.some.inj g4
        subst hr
        exact SemC.cast (SemJ.out (e := .ret) (path hm (σ' := ⟨[(4, .p (.int .i64 2))], []⟩) (ks := [4]) (cc := c61 ++ [.reg [] [] 0 [(2, none, .n (v0.length : Int)), (6, none, .call (.bool false))] [0, 1, 5, 9, 18, 19, 20, 31], .reg [] [] 0 [] [4]])
        (q62 trivial) (by kernel_rfl)) (by simp)) (by kernel_rfl) (by kernel_rfl)
    · have hr := Option.some.inj g1
      subst hr
      exact SemC.cast (SemJ.out (e := (.exit 0)) (path hm (σ' := ⟨[(1, .p (.sl (List.map e3 v1) fp1)), (5, .p (.nilp))], []⟩) (ks := [1, 5]) (cc := [.reg [] [] 0 [(0, none, .b false)] [0, 1, 5, 7, 18, 19, 20, 21]])
        (ai h1 trivial) (by kernel_rfl)) (by simp)) (by kernel_rfl) (by kernel_rfl)
def L28_1  (v0 : (List (Int × Int))) (v1 : (List Int)) (v5 : (List (Int × Int))) (v5_1 : (List ((Int × Int) × Int))) (v18 : (List Int)) (v19 : Int) : Nat → Int → Int → Option (Unit ⊕ Unit)
  | 0, _, _ => none
  | fuel + 1, v7, v20 =>
    oif ((decide (v20 < v19)))
    (obind (sg v18 v20) fun x1 => obind (F43 fuel v7 (IntKind.wrap .i64 ((v0.length : Int) - 1)) [x1]) fun r2 => oif (r2)
      (L28_1 v0 v1 v5 v5_1 v18 v19 fuel (IntKind.wrap .i64 (x1 + 1)) (IntKind.wrap .i64 (v20 + 1)))
      (some (.inl ())))
    (some (.inr (())))
noncomputable def L28_1_post (v0 : (List (Int × Int))) (v1 : (List Int)) (v5 : (List (Int × Int))) (v5_1 : (List ((Int × Int) × Int))) (v18 : (List Int)) (v19 : Int) (fp0 : Bool) (fp1 : Bool) : (Unit ⊕ Unit) → Ex × St
  | .inl y => (.ret, ⟨[(4, .p (.int .i64 2))], []⟩)
  | .inr (y) => ((.exit 0), ⟨[(1, .p (.sl (List.map e3 v1) fp1)), (5, .p (.ref [.sl (List.map e68 v5) false, .map (mapK e81 v5_1) (mapV e2 v5_1)]))], []⟩)
theorem L28_1_ok  (v0 : (List (Int × Int))) (v1 : (List Int)) (v5 : (List (Int × Int))) (v5_1 : (List ((Int × Int) × Int))) (v18 : (List Int)) (v19 : Int) (fp0 : Bool) (fp1 : Bool) : ∀ (fuel : Nat) (v7 : Int) (v20 : Int) (r : (Unit ⊕ Unit)), L28_1 v0 v1 v5 v5_1 v18 v19 fuel v7 v20 = some r →
    SemJ prog ⟨39, 0, false⟩ (codeAt [1, 1, 1, 1, 0, 1, 0, 0] (bodyOf f28)) ⟨[(0, .p (.sl (List.map e68 v0) fp0)), (1, .p (.sl (List.map e3 v1) fp1)), (5, .p (.ref [.sl (List.map e68 v5) false, .map (mapK e81 v5_1) (mapV e2 v5_1)])), (7, .p (.int .i64 v7)), (18, .p (.sl (List.map e3 v18) fp1)), (19, .p (.int .i64 v19)), (20, .p (.int .i64 v20))], []⟩ (L28_1_post v0 v1 v5 v5_1 v18 v19 fp0 fp1 r).1 (L28_1_post v0 v1 v5 v5_1 v18 v19 fp0 fp1 r).2
  | 0, _, _, _, h => nomatch h
  | fuel + 1, v7, v20, r, h => by
    unfold L28_1 at h
    refine oif_elim h (fun h1 g1 => ?_) (fun h1 g1 => ?_)
    · refine obind_elim g1 fun x1 h2 g2 => ?_
      refine obind_elim g2 fun r2 h3 g3 => ?_
      let c63 : List CC := [.reg [] [] 0 [(0, none, .b true)] [0, 1, 5, 7, 18, 19, 20, 21], .reg [] [] 0 [(0, none, .iv (.p (.int .i64 x1)))] [0, 1, 5, 7, 9, 18, 19, 20]]
      have q64 := fun {P : Prop} (t : P) => ai h1 (ai (sg_map (f := e3) h2) (ai (len_map e68 v0) (ai (F43_ok fuel v7 (IntKind.wrap .i64 ((v0.length : Int) - 1)) [x1] true _ h3) t)))
      refine oif_elim g3 (fun h4 g4 => ?_) (fun h4 g4 => ?_)
      · subst h4
        exact SemJ.again (σ1 := ⟨[(0, .p (.sl (List.map e68 v0) fp0)), (1, .p (.sl (List.map e3 v1) fp1)), (5, .p (.ref [.sl (List.map e68 v5) false, .map (mapK e81 v5_1) (mapV e2 v5_1)])), (7, .p (.int .i64 (IntKind.wrap .i64 (x1 + 1)))), (18, .p (.sl (List.map e3 v18) fp1)), (19, .p (.int .i64 v19)), (20, .p (.int .i64 (IntKind.wrap .i64 (v20 + 1))))], []⟩) (path hm (σ' := ⟨[(0, .p (.sl (List.map e68 v0) fp0)), (1, .p (.sl (List.map e3 v1) fp1)), (5, .p (.ref [.sl (List.map e68 v5) false, .map (mapK e81 v5_1) (mapV e2 v5_1)])), (7, .p (.int .i64 (IntKind.wrap .i64 (x1 + 1)))), (18, .p (.sl (List.map e3 v18) fp1)), (19, .p (.int .i64 v19)), (20, .p (.int .i64 (IntKind.wrap .i64 (v20 + 1))))], []⟩) (ks := [0, 1, 5, 7, 18, 19, 20]) (cc := c63 ++ [.reg [] [] 0 [(2, none, .n (v0.length : Int)), (6, none, .call (.bool true))] [0, 1, 5, 9, 18, 19, 20, 31], .reg [] [] 0 [] [0, 1, 5, 7, 18, 19, 20], .reg [] [] 0 [] [0, 1, 5, 7, 18, 19, 20]])
        (q64 trivial) (by kernel_rfl)) (L28_1_ok v0 v1 v5 v5_1 v18 v19 fp0 fp1 fuel (IntKind.wrap .i64 (x1 + 1)) (IntKind.wrap .i64 (v20 + 1)) _ g4)
      · subst h4
        have hr := Option.some.inj g4
        subst hr
        exact SemC.cast (SemJ.out (e := .ret) (path hm (σ' := ⟨[(4, .p (.int .i64 2))], []⟩) (ks := [4]) (cc := c63 ++ [.reg [] [] 0 [(2, none, .n (v0.length : Int)), (6, none, .call (.bool false))] [0, 1, 5, 9, 18, 19, 20, 31], .reg [] [] 0 [] [4]])
        (q64 trivial) (by kernel_rfl)) (by simp)) (by kernel_rfl) (by kernel_rfl)
    · have hr := Option.some.inj g1
      subst hr
      exact SemC.cast (SemJ.out (e := (.exit 0)) (path hm (σ' := ⟨[(1, .p (.sl (List.map e3 v1) fp1)), (5, .p (.ref [.sl (List.map e68 v5) false, .map (mapK e81 v5_1) (mapV e2 v5_1)]))], []⟩) (ks := [1, 5]) (cc := [.reg [] [] 0 [(0, none, .b false)] [0, 1, 5, 7, 18, 19, 20, 21]])
        (ai h1 trivial) (by kernel_rfl)) (by simp)) (by kernel_rfl) (by kernel_rfl)
def F28  (fuel : Nat) (p0 : (List (Int × Int))) (p1 : (List Int)) : Option Int :=
  (obind (F38 fuel p0 []) fun y1 => match y1 with
  | .inl y1 => oif ((y1 != 0))
    (some y1)
    ((obind (L28_0 p0 p1 p1 (p1.length : Int) fuel 0 0) fun y2 => match y2 with
      | .inl y2 => some 2
      | .inr (y2) => none))
  | .inr (y1) => (obind (L28_1 p0 p1 p0 y1 p1 (p1.length : Int) fuel 0 0) fun y2 => match y2 with
    | .inl y2 => some 2
    | .inr (y2) => obind (F56 fuel (p0, y1) p1) fun r3 => oif (r3)
      (some 0)
      (some 21)))
theorem F28_ok  (fuel : Nat) (p0 : (List (Int × Int))) (p1 : (List Int)) (fp0 : Bool) (fp1 : Bool) (r : Int) (h : F28 fuel p0 p1 = some r) : CallP prog 28 [.sl (List.map e68 p0) fp0, .sl (List.map e3 p1) fp1] (.int .i64 r) := by
  unfold F28 at h
  let c65 : List CC := [.reg [] [] 0 [] [0, 1]]
  refine obind_elim h fun y h1 g1 => ?_
  match y, h1, g1 with
  | .inl y1, h1, g1 =>
    let c66 : List CC := c65 ++ [.reg [] [] 0 [(1, none, .cw [.sl (List.map e68 p0) fp0, .sl (List.map e2 ([] : List Int)) false] (.tup [.nilp, .int .i64 y1]))] [0, 1, 5, 6]]
    refine oif_elim g1 (fun h2 g2 => ?_) (fun h2 g2 => ?_)
    · have hr := Option.some.inj g2
      subst hr
      exact callP_of is28 rfl (path hm (ks := [4]) (σ' := ⟨[(4, .p (.int .i64 y1))], []⟩) (cc := c66 ++ [.reg [] [] 0 [(1, none, .b true)] [0, 1, 5, 6, 16], .reg [] [] 0 [] [4]])
      (ai (show PVleL [.sl (List.map e68 p0) fp0, .nilsl] [.sl (List.map e68 p0) fp0, .sl (List.map e2 ([] : List Int)) false] from (.cons _ _ _ _ (.refl _) (.cons _ _ _ _ (.nil _) .nil))) (ai (F38_ok fuel p0 [] fp0 false _ h1) (ai h2 trivial))) (by kernel_rfl)) (e := .ret) rfl (vs := [.p (.int .i64 y1)]) trivial (by kernel_rfl) (.p _ _ (.refl _))
    · refine obind_elim g2 fun y h3 g3 => ?_
      match y, h3, g3 with
      | .inl y2, h3, g3 =>
        have hr := Option.some.inj g3
        subst hr
        exact callP_of is28 rfl (path hm (ks := [4]) (σ' := ⟨[(4, .p (.int .i64 2))], []⟩) (cc := c66 ++ [.reg [] [] 0 [(1, none, .b false)] [0, 1, 5, 6, 16], .reg [] [] 0 [] [0, 1, 5, 7], .reg [] [] 0 [(1, none, .n (p1.length : Int))] [0, 1, 5, 7, 18, 19, 20], .leaf .ret ⟨[(4, .p (.int .i64 2))], []⟩])
      (ai (show PVleL [.sl (List.map e68 p0) fp0, .nilsl] [.sl (List.map e68 p0) fp0, .sl (List.map e2 ([] : List Int)) false] from (.cons _ _ _ _ (.refl _) (.cons _ _ _ _ (.nil _) .nil))) (ai (F38_ok fuel p0 [] fp0 false _ h1) (ai h2 (ai (len_map e3 p1) (ai (SemJ.loop (L28_0_ok p0 p1 p1 (p1.length : Int) fp0 fp1 fuel 0 0 _ h3)) trivial))))) (by kernel_rfl)) (e := .ret) rfl (vs := [.p (.int .i64 2)]) trivial (by kernel_rfl) (.p _ _ (.refl _))
      | .inr (y2), h3, g3 =>
        exact nomatch g3
  | .inr (y1), h1, g1 =>
    let c67 : List CC := c65 ++ [.reg [] [] 0 [(1, none, .cw [.sl (List.map e68 p0) fp0, .sl (List.map e2 ([] : List Int)) false] (.tup [.ref [.sl (List.map e68 p0) false, .map (mapK e81 y1) (mapV e2 y1)], .int .i64 0]))] [0, 1, 5, 6], .reg [] [] 0 [] [0, 1, 5, 6, 16], .reg [] [] 0 [] [0, 1, 5, 7], .reg [] [] 0 [(1, none, .n (p1.length : Int))] [0, 1, 5, 7, 18, 19, 20]]
    refine obind_elim g1 fun y h2 g2 => ?_
    match y, h2, g2 with
    | .inl y2, h2, g2 =>
      have hr := Option.some.inj g2
      subst hr
      exact callP_of is28 rfl (path hm (ks := [4]) (σ' := ⟨[(4, .p (.int .i64 2))], []⟩) (cc := c67 ++ [.leaf .ret ⟨[(4, .p (.int .i64 2))], []⟩])
      (ai (show PVleL [.sl (List.map e68 p0) fp0, .nilsl] [.sl (List.map e68 p0) fp0, .sl (List.map e2 ([] : List Int)) false] from (.cons _ _ _ _ (.refl _) (.cons _ _ _ _ (.nil _) .nil))) (ai (F38_ok fuel p0 [] fp0 false _ h1) (ai (len_map e3 p1) (ai (SemJ.loop (L28_1_ok p0 p1 p0 y1 p1 (p1.length : Int) fp0 fp1 fuel 0 0 _ h2)) trivial)))) (by kernel_rfl)) (e := .ret) rfl (vs := [.p (.int .i64 2)]) trivial (by kernel_rfl) (.p _ _ (.refl _))
    | .inr (y2), h2, g2 =>
      refine obind_elim g2 fun r3 h3 g3 => ?_
      let c68 : List CC := c67 ++ [.leaf (.exit 0) ⟨[(1, .p (.sl (List.map e3 p1) fp1)), (5, .p (.ref [.sl (List.map e68 p0) false, .map (mapK e81 y1) (mapV e2 y1)]))], []⟩]
      have q69 := fun {P : Prop} (t : P) => ai (F38_ok fuel p0 [] fp0 false _ h1) (ai (len_map e3 p1) (ai (SemJ.loop (L28_1_ok p0 p1 p0 y1 p1 (p1.length : Int) fp0 fp1 fuel 0 0 _ h2)) (ai (F56_ok fuel (p0, y1) p1 fp1 _ h3) t)))
      refine oif_elim g3 (fun h4 g4 => ?_) (fun h4 g4 => ?_)
      · subst h4
        have hr := Option.some.inj g4
        subst hr
        exact callP_of is28 rfl (path hm (ks := [4]) (σ' := ⟨[(4, .p (.int .i64 0))], []⟩) (cc := c68 ++ [.reg [] [] 0 [(2, none, .call (.bool true))] [38], .reg [] [] 0 [] [4]])
      (ai (show PVleL [.sl (List.map e68 p0) fp0, .nilsl] [.sl (List.map e68 p0) fp0, .sl (List.map e2 ([] : List Int)) false] from (.cons _ _ _ _ (.refl _) (.cons _ _ _ _ (.nil _) .nil))) (q69 trivial)) (by kernel_rfl)) (e := .ret) rfl (vs := [.p (.int .i64 0)]) trivial (by kernel_rfl) (.p _ _ (.refl _))
      · subst h4
        have hr := Option.some.inj g4
        subst hr
        exact callP_of is28 rfl (path hm (ks := [4]) (σ' := ⟨[(4, .p (.int .i64 21))], []⟩) (cc := c68 ++ [.reg [] [] 0 [(2, none, .call (.bool false))] [38], .reg [] [] 0 [] [4]])
      (ai (show PVleL [.sl (List.map e68 p0) fp0, .nilsl] [.sl (List.map e68 p0) fp0, .sl (List.map e2 ([] : List Int)) false] from (.cons _ _ _ _ (.refl _) (.cons _ _ _ _ (.nil _) .nil))) (q69 trivial)) (by kernel_rfl)) (e := .ret) rfl (vs := [.p (.int .i64 21)]) trivial (by kernel_rfl) (.p _ _ (.refl _))
def L30_0  (v1 : Int) (v8 : (List (Int × Int))) (v27 : Int) : Nat → Int → Option (Int ⊕ Unit)
  | 0, _ => none
  | fuel + 1, v28 =>
    oif ((decide (v28 < v27)))
    (obind (F39 fuel v8 (IntKind.wrap .i64 (v1 + v28))) fun r1 => oif (decide (List.length r1 = 5)) (oif ((r1 == [(0 : Int), (0 : Int), (0 : Int), (0 : Int), (0 : Int)]))
      (some (.inl (IntKind.wrap .i64 (v1 + v28))))
      (L30_0 v1 v8 v27 fuel (IntKind.wrap .i64 (v28 + 1)))) none)
    (some (.inr (())))
noncomputable def L30_0_post (v1 : Int) (v8 : (List (Int × Int))) (v27 : Int) (fp0 : Bool) : (Int ⊕ Unit) → Ex × St
  | .inl y => (.ret, ⟨[(4, .p (.int .i64 y)), (5, .p (.int .i64 0))], []⟩)
  | .inr (y) => ((.exit 0), ⟨[], []⟩)
theorem L30_0_ok  (v1 : Int) (v8 : (List (Int × Int))) (v27 : Int) (fp0 : Bool) : ∀ (fuel : Nat) (v28 : Int) (r : (Int ⊕ Unit)), L30_0 v1 v8 v27 fuel v28 = some r →
    SemJ prog ⟨42, 0, false⟩ (codeAt [1, 1, 1, 1, 0, 1, 0, 0] (bodyOf f30)) ⟨[(1, .p (.int .i64 v1)), (8, .p (.fn 39 [.agg [.sl (List.map e68 v8) false]] [])), (27, .p (.int .i64 v27)), (28, .p (.int .i64 v28))], []⟩ (L30_0_post v1 v8 v27 fp0 r).1 (L30_0_post v1 v8 v27 fp0 r).2
  | 0, _, _, h => nomatch h
  | fuel + 1, v28, r, h => by
    unfold L30_0 at h
    refine oif_elim h (fun h1 g1 => ?_) (fun h1 g1 => ?_)
    · refine obind_elim g1 fun r1 h2 g2 => ?_
      refine oif_elim g2 (fun h3 g3 => ?_) (fun _ h => nomatch h)
      let c70 : List CC := [.reg [] [] 0 [(0, none, .b true)] [1, 8, 27, 28, 29], .reg [] [] 0 [] [1, 8, 9, 27, 28]]
      refine oif_elim g3 (fun h4 g4 => ?_) (fun h4 g4 => ?_)
      · have hr := Option.some.inj g4
        subst hr
        exact SemC.cast (SemJ.out (e := .ret) (path hm (σ' := ⟨[(4, .p (.int .i64 (IntKind.wrap .i64 (v1 + v28)))), (5, .p (.int .i64 0))], []⟩) (ks := [4, 5]) (cc := c70 ++ [.reg [] [] 0 [(4, none, .call (.agg (rowP e3 r1))), (6, none, .call (.bool true))] [1, 8, 9, 27, 28, 37], .reg [] [] 0 [] [4, 5]])
        (ai h1 (ai (F39_ok fuel v8 (IntKind.wrap .i64 (v1 + v28)) _ h2) (ai ((eqPV_row (P := prog) (t := 58) (d := 9999) (L := r1) (M := [(0 : Int), (0 : Int), (0 : Int), (0 : Int), (0 : Int)]) el3 eqr3 (by kernel_rfl : prog.underlying 58 = some (.array 5 3)) (by kernel_rfl : prog.info? 3 = some t3) (by kernel_rfl) (od h3) (rfl : List.length [(0 : Int), (0 : Int), (0 : Int), (0 : Int), (0 : Int)] = 5)).trans (congrArg some h4)) trivial))) (by kernel_rfl)) (by simp)) (by kernel_rfl) (by kernel_rfl)
      · exact SemJ.again (σ1 := ⟨[(1, .p (.int .i64 v1)), (8, .p (.fn 39 [.agg [.sl (List.map e68 v8) false]] [])), (27, .p (.int .i64 v27)), (28, .p (.int .i64 (IntKind.wrap .i64 (v28 + 1))))], []⟩) (path hm (σ' := ⟨[(1, .p (.int .i64 v1)), (8, .p (.fn 39 [.agg [.sl (List.map e68 v8) false]] [])), (27, .p (.int .i64 v27)), (28, .p (.int .i64 (IntKind.wrap .i64 (v28 + 1))))], []⟩) (ks := [1, 8, 27, 28]) (cc := c70 ++ [.reg [] [] 0 [(4, none, .call (.agg (rowP e3 r1))), (6, none, .call (.bool false))] [1, 8, 9, 27, 28, 37], .reg [] [] 0 [] [1, 8, 27, 28]])
        (ai h1 (ai (F39_ok fuel v8 (IntKind.wrap .i64 (v1 + v28)) _ h2) (ai ((eqPV_row (P := prog) (t := 58) (d := 9999) (L := r1) (M := [(0 : Int), (0 : Int), (0 : Int), (0 : Int), (0 : Int)]) el3 eqr3 (by kernel_rfl : prog.underlying 58 = some (.array 5 3)) (by kernel_rfl : prog.info? 3 = some t3) (by kernel_rfl) (od h3) (rfl : List.length [(0 : Int), (0 : Int), (0 : Int), (0 : Int), (0 : Int)] = 5)).trans (congrArg some h4)) trivial))) (by kernel_rfl)) (L30_0_ok v1 v8 v27 fp0 fuel (IntKind.wrap .i64 (v28 + 1)) _ g4)
    · have hr := Option.some.inj g1
      subst hr
      exact SemC.cast (SemJ.out (e := (.exit 0)) (path hm (σ' := ⟨[], []⟩) (ks := []) (cc := [.reg [] [] 0 [(0, none, .b false)] [1, 8, 27, 28, 29]])
        (ai h1 trivial) (by kernel_rfl)) (by simp)) (by kernel_rfl) (by kernel_rfl)
def F30  (fuel : Nat) (p0 : (List (Int × Int))) (p1 : Int) : Option (Int × Int) :=
  (obind (F38 fuel p0 [p1]) fun y1 => match y1 with
  | .inl y1 => oif ((y1 != 0))
    (some (0, y1))
    (none)
  | .inr (y1) => oif (decide ((0:Int) ≤ (p0.length : Int))) ((obind (L30_0 p1 p0 (IntKind.wrap .i64 (1 * 2 ^ (min (Int.toNat (p0.length : Int)) (IntKind.bits .i64)))) fuel 0) fun y2 => match y2 with
    | .inl y2 => some (y2, 0)
    | .inr (y2) => some (0, 21))) none)
theorem F30_ok  (fuel : Nat) (p0 : (List (Int × Int))) (p1 : Int) (fp0 : Bool) (r : (Int × Int)) (h : F30 fuel p0 p1 = some r) : CallP prog 30 [.sl (List.map e68 p0) fp0, .int .i64 p1] (.tup [.int .i64 r.1, .int .i64 r.2]) := by
  unfold F30 at h
  refine obind_elim h fun y h1 g1 => ?_
  match y, h1, g1 with
  | .inl y1, h1, g1 =>
    refine oif_elim g1 (fun h2 g2 => ?_) (fun h2 g2 => ?_)
    · have hr := Option.some.inj g2
      subst hr
      exact callP_of is30 rfl (path hm (ks := [4, 5]) (σ' := ⟨[(4, .p (.int .i64 0)), (5, .p (.int .i64 y1))], []⟩) (cc := [.reg [] [] 0 [] [0, 1], .reg [] [] 0 [(3, none, .call (.tup [.nilp, .int .i64 y1]))] [0, 1, 6, 7], .reg [] [] 0 [(1, none, .b true)] [0, 1, 6, 7, 18], .reg [] [] 0 [] [4, 5]])
      (ai (F38_ok fuel p0 [p1] fp0 true _ h1) (ai h2 trivial)) (by kernel_rfl)) (e := .ret) rfl (vs := [.p (.int .i64 0), .p (.int .i64 y1)]) trivial (by kernel_rfl) (.tup _ _ (.cons _ _ _ _ (.p _ _ (.refl _)) (.cons _ _ _ _ (.p _ _ (.refl _)) .nil)))
    · exact nomatch g2
  | .inr (y1), h1, g1 =>
    refine oif_elim g1 (fun h2 g2 => ?_) (fun _ h => nomatch h)
    let c71 : List CC := [.reg [] [] 0 [] [0, 1], .reg [] [] 0 [(3, none, .call (.tup [.ref [.sl (List.map e68 p0) false, .map (mapK e81 y1) (mapV e2 y1)], .int .i64 0]))] [0, 1, 6, 7], .reg [] [] 0 [] [0, 1, 6, 7, 18], .reg [] [] 0 [] [0, 1, 8], .reg [] [] 0 [(1, none, .n (p0.length : Int))] [1, 8, 27, 28]]
    refine obind_elim g2 fun y h3 g3 => ?_
    match y, h3, g3 with
    | .inl y2, h3, g3 =>
      have hr := Option.some.inj g3
      subst hr
      exact callP_of is30 rfl (path hm (ks := [4, 5]) (σ' := ⟨[(4, .p (.int .i64 y2)), (5, .p (.int .i64 0))], []⟩) (cc := c71 ++ [.leaf .ret ⟨[(4, .p (.int .i64 y2)), (5, .p (.int .i64 0))], []⟩])
      (ai (F38_ok fuel p0 [p1] fp0 true _ h1) (ai (len_map e68 p0) (ai (od h2) (ai (SemJ.loop (L30_0_ok p1 p0 (IntKind.wrap .i64 (1 * 2 ^ (min (Int.toNat (p0.length : Int)) (IntKind.bits .i64)))) fp0 fuel 0 _ h3)) trivial)))) (by kernel_rfl)) (e := .ret) rfl (vs := [.p (.int .i64 y2), .p (.int .i64 0)]) trivial (by kernel_rfl) (.tup _ _ (.cons _ _ _ _ (.p _ _ (.refl _)) (.cons _ _ _ _ (.p _ _ (.refl _)) .nil)))
    | .inr (y2), h3, g3 =>
      have hr := Option.some.inj g3
      subst hr
      exact callP_of is30 rfl (path hm (ks := [4, 5]) (σ' := ⟨[(4, .p (.int .i64 0)), (5, .p (.int .i64 21))], []⟩) (cc := c71 ++ [.leaf (.exit 0) ⟨[], []⟩, .reg [] [] 0 [] [4, 5]])
      (ai (F38_ok fuel p0 [p1] fp0 true _ h1) (ai (len_map e68 p0) (ai (od h2) (ai (SemJ.loop (L30_0_ok p1 p0 (IntKind.wrap .i64 (1 * 2 ^ (min (Int.toNat (p0.length : Int)) (IntKind.bits .i64)))) fp0 fuel 0 _ h3)) trivial)))) (by kernel_rfl)) (e := .ret) rfl (vs := [.p (.int .i64 0), .p (.int .i64 21)]) trivial (by kernel_rfl) (.tup _ _ (.cons _ _ _ _ (.p _ _ (.refl _)) (.cons _ _ _ _ (.p _ _ (.refl _)) .nil)))
def F60  (fuel : Nat) (p0 : (List (Int × Int))) : Option (List (Int × Int)) :=
  oif (List.isEmpty p0)
  (some [])
  (oif (decide ((List.length (List.map e68 p0)) * 16 ≤ 140737488355328)) (some p0) none)
theorem F60_own  (fuel : Nat) (p0 : (List (Int × Int))) (fp0 : Bool) (r : (List (Int × Int))) (h : F60 fuel p0 = some r) (hne : List.isEmpty r = false) : CallO prog 60 [.sl (List.map e68 p0) fp0] (rowI e68 r) (List.length r) 2 := by
  unfold F60 at h
  refine oif_elim h (fun h1 g1 => ?_) (fun h1 g1 => ?_)
  · have hr := Option.some.inj g1
    subst hr
    cases hne
  · refine oif_elim g1 (fun h2 g2 => ?_) (fun _ h => nomatch h)
    have hr := Option.some.inj g2
    subst hr
    exact callO_of (l := 0) (x := false) (L := p0) el68 is60 rfl (path hm (ks := [2]) (σ' := ⟨[(2, .msl 0 0 (List.length p0) (List.length (rowI e68 p0)) false)], [.cells (rowI e68 p0) 2]⟩) (cc := [.reg [] [] 0 [] [0], .reg [] [] 0 [] [0, 4], .reg [] [] 1 [(2, some 0, .ap (rowI e68 p0) (List.length p0) (List.length (rowI e68 p0)))] [2]])
      (ai (map_ne (f := e68) h1) (ai (notEmpty_len e68 h1) (ai (app_e1 (m := (List.length (List.map e68 p0))) (od h2)) (ai (app_e2 (m := (List.length (List.map e68 p0))) (by decide) (od h2)) (ai (app_e3 e68 p0) (ai (rl (List.length (rowI e68 p0))) (ai (row_src e68 p0) (ai (row_sc el68 p0) (ai (row_es el68 p0) (ai (fun _ h => nomatch h : ∀ y ∈ ([] : List PV), y.cells.length = 2) trivial)))))))))) (by kernel_rfl)) (e := .ret) rfl trivial (by kernel_rfl) (by kernel_rfl) (rl (List.length (rowI e68 p0))) (rl (List.length p0))
def G59  (fuel : Nat) (p1 : Int) (p2 : Int) (w0 : (List (Int × Int))) : Option (Unit ⊕ (Nat × (List (Int × Int)))) :=
  oif (decide ((0:Int) ≤ p2)) (oif (decide (p2 ≤ (((List.length w0) : Nat) : Int))) (oif (decide (((((List.length w0) : Nat) : Int) : Int) ≤ (((List.length w0) : Nat) : Int))) (oif (decide ((0:Int) ≤ p1)) (oif (decide ((p1 : Int) ≤ (((Int.toNat p2) : Nat) : Int))) (oif ((p1 == p2))
  (some (.inl ()))
  (oif (decide ((p1 : Int) ≤ (((List.length w0) : Nat) : Int))) (oif (decide (p2 < (((List.length w0) : Nat) : Int)))
    (oif (decide (0 < ((List.length w0) - (Int.toNat p2)))) (oif (decide ((Int.toNat p1) ≤ (Int.toNat p2))) (oif (decide ((Int.toNat p2) ≤ (List.length w0))) (oif (decide ((0:Int) ≤ ((((Int.toNat p1) + ((List.length w0) - (Int.toNat p2))) : Nat) : Int))) (oif (decide (((((Int.toNat p1) + ((List.length w0) - (Int.toNat p2))) : Nat) : Int) < (((List.length w0) : Nat) : Int))) (oif (decide ((0:Int) ≤ (((List.length w0) : Nat) : Int))) (oif (decide (((Int.toNat p1) + ((List.length w0) - (Int.toNat p2))) + ((List.length w0) - ((Int.toNat p1) + ((List.length w0) - (Int.toNat p2)))) ≤ (List.length w0))) (some (.inr ((((Int.toNat p1) + ((List.length w0) - (Int.toNat p2))), (clrL (mvL w0 (Int.toNat p1) (Int.toNat p2)) ((Int.toNat p1) + ((List.length w0) - (Int.toNat p2))) ((List.length w0) - ((Int.toNat p1) + ((List.length w0) - (Int.toNat p2)))) ((0, 0) : (Int × Int))))))) none) none) none) none) none) none) none)
    (oif (decide ((p2 : Int) ≤ (((List.length w0) : Nat) : Int))) (oif (decide (0 < List.length w0)) (oif (decide ((0:Int) ≤ (((Int.toNat p1) : Nat) : Int))) (oif (decide ((((Int.toNat p1) : Nat) : Int) < (((List.length w0) : Nat) : Int))) (oif (decide ((0:Int) ≤ (((List.length w0) : Nat) : Int))) (oif (decide ((Int.toNat p1) + ((List.length w0) - (Int.toNat p1)) ≤ (List.length w0))) (some (.inr (((Int.toNat p1), (clrL w0 (Int.toNat p1) ((List.length w0) - (Int.toNat p1)) ((0, 0) : (Int × Int))))))) none) none) none) none) none) none)) none)) none) none) none) none) none
noncomputable def G59_post (p1 : Int) (p2 : Int) (w0 : (List (Int × Int)))  : (Unit ⊕ (Nat × (List (Int × Int)))) → IV × List MObj
  | .inl y => (.msl 0 0 (List.length w0) (List.length (rowI e68 w0)) false, [.cells (rowI e68 w0) 2])
  | .inr (y) => (.msl 0 0 y.1 (List.length (rowI e68 y.2)) false, [.cells (rowI e68 y.2) 2])
theorem G59_ok  (fuel : Nat) (p1 : Int) (p2 : Int) (w0 : (List (Int × Int)))  (r : (Unit ⊕ (Nat × (List (Int × Int))))) (h : G59 fuel p1 p2 w0 = some r) : CallI prog 59 [.msl 0 0 (List.length w0) (List.length (rowI e68 w0)) false, .p (.int .i64 p1), .p (.int .i64 p2)] [.cells (rowI e68 w0) 2] (G59_post p1 p2 w0 r).1 (G59_post p1 p2 w0 r).2 := by
  unfold G59 at h
  refine oif_elim h (fun h1 g1 => ?_) (fun _ h => nomatch h)
  refine oif_elim g1 (fun h2 g2 => ?_) (fun _ h => nomatch h)
  refine oif_elim g2 (fun h3 g3 => ?_) (fun _ h => nomatch h)
  refine oif_elim g3 (fun h4 g4 => ?_) (fun _ h => nomatch h)
  refine oif_elim g4 (fun h5 g5 => ?_) (fun _ h => nomatch h)
  let c72 : List CC := [.reg [] [] 0 [] [0, 1, 2], .reg [] [] 0 [(5, none, .b true)] [0, 1, 2]]
  have q73 := fun {P : Prop} (t : P) => ai (od h1) (ai (od h2) (ai (od h3) (ai (od h4) (ai (od h5) t))))
  refine oif_elim g5 (fun h6 g6 => ?_) (fun h6 g6 => ?_)
  · have hr := Option.some.inj g6
    subst hr
    exact CallI.cast (callI_of is59 (by kernel_rfl) (m := 1) (by kernel_rfl) (e := .ret) (vs := [.msl 0 0 (List.length w0) (List.length (rowI e68 w0)) false]) (path hm (ks := [6]) (σ' := ⟨[(6, .msl 0 0 (List.length w0) (List.length (rowI e68 w0)) false)], [.cells (rowI e68 w0) 2]⟩) (cc := c72 ++ [.reg [] [] 0 [(2, none, .b true)] [0, 1, 2, 16], .reg [] [] 0 [] [6]])
      (q73 (ai h6 trivial)) (by kernel_rfl)) rfl (show True from trivial) (by kernel_rfl)) (by kernel_rfl)
  · refine oif_elim g6 (fun h7 g7 => ?_) (fun _ h => nomatch h)
    have q74 := fun {P : Prop} (t : P) => ai h6 (ai (sl_lo0 none (Int.toNat p1) (List.length w0)) (ai (rl (Int.toNat p1)) (ai (od h4) (ai (od h7) t))))
    refine oif_elim g7 (fun h8 g8 => ?_) (fun h8 g8 => ?_)
    · refine oif_elim g8 (fun h9 g9 => ?_) (fun _ h => nomatch h)
      refine oif_elim g9 (fun h10 g10 => ?_) (fun _ h => nomatch h)
      refine oif_elim g10 (fun h11 g11 => ?_) (fun _ h => nomatch h)
      refine oif_elim g11 (fun h12 g12 => ?_) (fun _ h => nomatch h)
      refine oif_elim g12 (fun h13 g13 => ?_) (fun _ h => nomatch h)
      refine oif_elim g13 (fun h14 g14 => ?_) (fun _ h => nomatch h)
      refine oif_elim g14 (fun h15 g15 => ?_) (fun _ h => nomatch h)
      have hr := Option.some.inj g15
      subst hr
      exact CallI.cast (callI_of is59 (by kernel_rfl) (m := 1) (by kernel_rfl) (e := .ret) (vs := [.msl 0 0 ((Int.toNat p1) + ((List.length w0) - (Int.toNat p2))) (List.length (rowI e68 (clrL (mvL w0 (Int.toNat p1) (Int.toNat p2)) ((Int.toNat p1) + ((List.length w0) - (Int.toNat p2))) ((List.length w0) - ((Int.toNat p1) + ((List.length w0) - (Int.toNat p2)))) ((0, 0) : (Int × Int))))) false]) (SemC.post (path hm (ks := [6]) (σ' := ⟨[(6, .msl 0 0 ((Int.toNat p1) + ((List.length w0) - (Int.toNat p2))) (List.length (rowI e68 w0)) false)], [.cells (rowI e68 (clrL (mvL w0 (Int.toNat p1) (Int.toNat p2)) ((Int.toNat p1) + ((List.length w0) - (Int.toNat p2))) ((List.length w0) - ((Int.toNat p1) + ((List.length w0) - (Int.toNat p2)))) ((0, 0) : (Int × Int)))) 2]⟩) (cc := c72 ++ [.reg [] [] 0 [(2, none, .b false)] [0, 1, 2, 16], .reg [] [] 0 [] [0, 1, 2, 7], .reg [0, 0, 3, 0, 0, 24, 63, 127] [(0, 6)] 0 [(2, none, .ap [] (Int.toNat p1) 0), (5, none, .ap [] ((List.length w0) - (Int.toNat p2)) 0), (6, none, .cs (rowI e68 (mvL w0 (Int.toNat p1) (Int.toNat p2))))] [0, 7], .reg [] [] 0 [(4, none, .cs []), (5, none, .cs (rowI e68 (clrL (mvL w0 (Int.toNat p1) (Int.toNat p2)) ((Int.toNat p1) + ((List.length w0) - (Int.toNat p2))) ((List.length w0) - ((Int.toNat p1) + ((List.length w0) - (Int.toNat p2)))) ((0, 0) : (Int × Int)))))] [0], .reg [] [] 0 [] [6]])
      (q73 (q74 (ai (piece_lt (od h1) (od h8)) (ai (rl ((List.length w0) - (Int.toNat p2))) (ai (od h1) (ai (Int.le_of_lt (od h8)) (ai (od h9) (ai (row_mv el68 (rl (List.length w0)) (od h10) (od h11)) (ai (rl (List.length (rowI e68 w0))) (ai (row_mvfit (row_sz el68 (rl (List.length (rowI e68 w0))) (rl (List.length w0))) (od h10) (od h11)) (ai (row_scP el68 w0 (0 + (Int.toNat p2) * 2) (((List.length w0) - (Int.toNat p2)) * 2)) (ai (rl (List.length (rowI e68 w0))) (ai (row_pfit el68 (row_sz el68 (rl (List.length (rowI e68 w0))) (rl (List.length w0))) (piece_all (od h11))) (ai (by decide : 0 < 2) (ai (piece_lt2 (od h12) (od h13)) (ai ((row_mvlen el68 (rl (List.length w0)) (od h10) (od h11)).trans (rl (List.length (rowI e68 w0)))) (ai (row_qfit (row_sz el68 ((row_mvlen el68 (rl (List.length w0)) (od h10) (od h11)).trans (rl (List.length (rowI e68 w0)))) (mvL_len2 (rl (List.length w0)) (od h10) (od h11))) (piece_le (od h3))) (ai (od h14) (ai (od h12) (ai (piece_lo (od h13)) (ai ((row_mvlen el68 (rl (List.length w0)) (od h10) (od h11)).trans (rl (List.length (rowI e68 w0)))) (ai (row_pfit el68 (row_sz el68 ((row_mvlen el68 (rl (List.length w0)) (od h10) (od h11)).trans (rl (List.length (rowI e68 w0)))) (mvL_len2 (rl (List.length w0)) (od h10) (od h11))) (od h15)) (ai (row_clr el68 ((0, 0) : (Int × Int)) (mvL_len2 (rl (List.length w0)) (od h10) (od h11)) (od h15)) trivial))))))))))))))))))))))) (by kernel_rfl)) (Weak.eq (congrArg (fun ZZ : Nat => (⟨[(6, .msl 0 0 ((Int.toNat p1) + ((List.length w0) - (Int.toNat p2))) ZZ false)], [.cells (rowI e68 (clrL (mvL w0 (Int.toNat p1) (Int.toNat p2)) ((Int.toNat p1) + ((List.length w0) - (Int.toNat p2))) ((List.length w0) - ((Int.toNat p1) + ((List.length w0) - (Int.toNat p2)))) ((0, 0) : (Int × Int)))) 2]⟩ : St)) (Eq.symm ((row_clrlen el68 ((0, 0) : (Int × Int)) (mvL_len2 (rl (List.length w0)) (od h10) (od h11)) (od h15)).trans ((row_mvlen el68 (rl (List.length w0)) (od h10) (od h11)).trans (rl (List.length (rowI e68 w0))))))))) rfl (show True from trivial) (by kernel_rfl)) (by kernel_rfl)
    · refine oif_elim g8 (fun h9 g9 => ?_) (fun _ h => nomatch h)
      refine oif_elim g9 (fun h10 g10 => ?_) (fun _ h => nomatch h)
      refine oif_elim g10 (fun h11 g11 => ?_) (fun _ h => nomatch h)
      refine oif_elim g11 (fun h12 g12 => ?_) (fun _ h => nomatch h)
      refine oif_elim g12 (fun h13 g13 => ?_) (fun _ h => nomatch h)
      refine oif_elim g13 (fun h14 g14 => ?_) (fun _ h => nomatch h)
      have hr := Option.some.inj g14
      subst hr
      exact CallI.cast (callI_of is59 (by kernel_rfl) (m := 1) (by kernel_rfl) (e := .ret) (vs := [.msl 0 0 (Int.toNat p1) (List.length (rowI e68 (clrL w0 (Int.toNat p1) ((List.length w0) - (Int.toNat p1)) ((0, 0) : (Int × Int))))) false]) (SemC.post (path hm (ks := [6]) (σ' := ⟨[(6, .msl 0 0 (Int.toNat p1) (List.length (rowI e68 w0)) false)], [.cells (rowI e68 (clrL w0 (Int.toNat p1) ((List.length w0) - (Int.toNat p1)) ((0, 0) : (Int × Int)))) 2]⟩) (cc := c72 ++ [.reg [] [] 0 [(2, none, .b false)] [0, 1, 2, 16], .reg [] [] 0 [] [0, 1, 2, 7], .reg [0, 0, 3, 0, 0, 24, 63, 127] [] 0 [(2, none, .ap [] (Int.toNat p1) 0), (5, none, .n 0), (6, none, .n 0)] [0, 7], .reg [] [] 0 [(4, none, .cs []), (5, none, .cs (rowI e68 (clrL w0 (Int.toNat p1) ((List.length w0) - (Int.toNat p1)) ((0, 0) : (Int × Int)))))] [0], .reg [] [] 0 [] [6]])
      (q73 (q74 (ai (piece_end (od h1) (od h9) h8) (ai (row_pos el68 (by decide) (od h10)) (ai (od h1) (ai (od h9) (ai (rfl : (0:Nat) = 0) (ai (by decide : 0 < 2) (ai (piece_lt2 (od h11) (od h12)) (ai (rl (List.length (rowI e68 w0))) (ai (row_qfit (row_sz el68 (rl (List.length (rowI e68 w0))) (rl (List.length w0))) (piece_le (od h3))) (ai (od h13) (ai (od h11) (ai (piece_lo (od h12)) (ai (rl (List.length (rowI e68 w0))) (ai (row_pfit el68 (row_sz el68 (rl (List.length (rowI e68 w0))) (rl (List.length w0))) (od h14)) (ai (row_clr el68 ((0, 0) : (Int × Int)) (rl (List.length w0)) (od h14)) trivial))))))))))))))))) (by kernel_rfl)) (Weak.eq (congrArg (fun ZZ : Nat => (⟨[(6, .msl 0 0 (Int.toNat p1) ZZ false)], [.cells (rowI e68 (clrL w0 (Int.toNat p1) ((List.length w0) - (Int.toNat p1)) ((0, 0) : (Int × Int)))) 2]⟩ : St)) (Eq.symm ((row_clrlen el68 ((0, 0) : (Int × Int)) (rl (List.length w0)) (od h14)).trans (rl (List.length (rowI e68 w0)))))))) rfl (show True from trivial) (by kernel_rfl)) (by kernel_rfl)
def L32_0  (v7 : Int) (v11 : Int) (v56 : Int) : Nat → Int → (List Int) → Option (List Int)
  | 0, _, _ => none
  | fuel + 1, v57, w0 =>
    oif ((decide (v57 < v56)))
    (oif (decide (v11 ≠ 0)) (oif (decide ((0:Int) ≤ v57)) (oif (decide ((v57 : Int) < (((List.length w0) : Nat) : Int))) (obind (stL w0 v57 (IntKind.wrap .i64 ((Int.tmod v7 v11) + (IntKind.wrap .i64 (v57 * v11))))) fun x1 => L32_0 v7 v11 v56 fuel (IntKind.wrap .i64 (v57 + 1)) x1) none) none) none)
    (some (w0))
noncomputable def L32_0_post (v7 : Int) (v11 : Int) (v56 : Int) (fp0 : Bool) : (List Int) → Ex × St
  | y => ((.exit 1), ⟨[(12, .msl 0 0 (List.length y) (List.length (rowI e2 y)) true)], [.cells (rowI e2 y) 1]⟩)
theorem L32_0_ok  (v7 : Int) (v11 : Int) (v56 : Int) (fp0 : Bool) : ∀ (fuel : Nat) (v57 : Int) (w0 : (List Int)) (r : (List Int)), L32_0 v7 v11 v56 fuel v57 w0 = some r →
    SemJ prog ⟨72, 0, false⟩ (codeAt [1, 1, 1, 1, 1, 1, 1, 1, 1, 0, 1, 0, 0] (bodyOf f32)) ⟨[(7, .p (.int .i64 v7)), (11, .p (.int .i64 v11)), (12, .msl 0 0 (List.length w0) (List.length (rowI e2 w0)) true), (56, .p (.int .i64 v56)), (57, .p (.int .i64 v57))], [.cells (rowI e2 w0) 1]⟩ (L32_0_post v7 v11 v56 fp0 r).1 (L32_0_post v7 v11 v56 fp0 r).2
  | 0, _, _, _, h => nomatch h
  | fuel + 1, v57, w0, r, h => by
    unfold L32_0 at h
    refine oif_elim h (fun h1 g1 => ?_) (fun h1 g1 => ?_)
    · refine oif_elim g1 (fun h2 g2 => ?_) (fun _ h => nomatch h)
      refine oif_elim g2 (fun h3 g3 => ?_) (fun _ h => nomatch h)
      refine oif_elim g3 (fun h4 g4 => ?_) (fun _ h => nomatch h)
      refine obind_elim g4 fun x1 h5 g5 => ?_
      exact SemJ.again (σ1 := ⟨[(7, .p (.int .i64 v7)), (11, .p (.int .i64 v11)), (12, .msl 0 0 (List.length x1) (List.length (rowI e2 x1)) true), (56, .p (.int .i64 v56)), (57, .p (.int .i64 (IntKind.wrap .i64 (v57 + 1))))], [.cells (rowI e2 x1) 1]⟩) (SemC.post (path hm (σ' := ⟨[(7, .p (.int .i64 v7)), (11, .p (.int .i64 v11)), (12, .msl 0 0 (List.length w0) (List.length (rowI e2 w0)) true), (56, .p (.int .i64 v56)), (57, .p (.int .i64 (IntKind.wrap .i64 (v57 + 1))))], [.cells (rowI e2 x1) 1]⟩) (ks := [7, 11, 12, 56, 57]) (cc := [.reg [] [] 0 [(0, none, .b true)] [7, 11, 12, 56, 57, 58], .reg [] [] 0 [] [7, 11, 12, 13, 56, 57], .reg [] [] 0 [(10, none, .cs (rowI e2 x1))] [7, 11, 12, 56, 57], .reg [] [] 0 [] [7, 11, 12, 56, 57]])
        (ai h1 (ai (od h2) (ai (od h3) (ai (od h4) (ai (rl (List.length (rowI e2 w0))) (ai (Nat.le_trans (row_fit el2 (stL_0 h5) (stL_lt h5)) (Nat.le_of_eq (rl (List.length (rowI e2 w0))))) (ai (row_put el2 h5) trivial))))))) (by kernel_rfl)) (Weak.trans (Weak.eq (congrArg (fun ZZ : Nat => (⟨[(7, .p (.int .i64 v7)), (11, .p (.int .i64 v11)), (12, .msl 0 0 ZZ (List.length (rowI e2 w0)) true), (56, .p (.int .i64 v56)), (57, .p (.int .i64 (IntKind.wrap .i64 (v57 + 1))))], [.cells (rowI e2 x1) 1]⟩ : St)) (Eq.symm ((stL_len h5).trans (rl (List.length w0)))))) (Weak.eq (congrArg (fun ZZ : Nat => (⟨[(7, .p (.int .i64 v7)), (11, .p (.int .i64 v11)), (12, .msl 0 0 (List.length x1) ZZ true), (56, .p (.int .i64 v56)), (57, .p (.int .i64 (IntKind.wrap .i64 (v57 + 1))))], [.cells (rowI e2 x1) 1]⟩ : St)) (Eq.symm ((row_setlen el2 h5).trans (rl (List.length (rowI e2 w0))))))))) (L32_0_ok v7 v11 v56 fp0 fuel (IntKind.wrap .i64 (v57 + 1)) x1 _ g5)
    · have hr := Option.some.inj g1
      subst hr
      exact SemC.cast (SemJ.out (e := (.exit 1)) (path hm (σ' := ⟨[(12, .msl 0 0 (List.length w0) (List.length (rowI e2 w0)) true)], [.cells (rowI e2 w0) 1]⟩) (ks := [12]) (cc := [.reg [] [] 0 [(0, none, .b false)] [7, 11, 12, 56, 57, 58]])
        (ai h1 trivial) (by kernel_rfl)) (by simp)) (by kernel_rfl) (by kernel_rfl)
def F32  (fuel : Nat) (p0 : (List (Int × Int))) (p1 : Int) : Option ((List Int) × Int) :=
  obind (F12 fuel p0) fun r1 => oif ((r1 != 0))
  (some ([], r1))
  (obind (F43 fuel 0 (IntKind.wrap .i64 ((p0.length : Int) - 1)) [p1]) fun r2 => oif (r2)
    (obind (F60 fuel p0) fun r3 => oif (List.isEmpty r3)
      (none)
      ((obind (G59 fuel p1 (IntKind.wrap .i64 (p1 + 1)) r3) fun y4 => match y4 with
        | .inl y4 => obind (F58 fuel r3) fun y5 => obind (F45 fuel (r3, y5)) fun r6 => oif (r6.2.2)
          (obind (sg p0 p1) fun x7 => obind (F61 fuel r6.2.1 x7.1) fun r8 => oif (decide (r8 ≠ 0)) (oif (decide ((0:Int) ≤ (IntKind.wrap .i64 (Int.tdiv x7.1 r8)))) (oif (decide (((8 : Nat) : Int) * (IntKind.wrap .i64 (Int.tdiv x7.1 r8)) ≤ 281474976710656)) (oif (decide (((IntKind.wrap .i64 (Int.tdiv x7.1 r8)) : Int) ≤ 9223372036854775807)) (obind (L32_0 r6.1 r8 (((Int.toNat (IntKind.wrap .i64 (Int.tdiv x7.1 r8))) : Nat) : Int) fuel 0 (List.replicate (Int.toNat (IntKind.wrap .i64 (Int.tdiv x7.1 r8))) (0 : Int))) fun y9 => some (y9, 0)) none) none) none) none)
          (some ([], 0))
        | .inr (y4) => oif (decide (y4.1 ≤ List.length y4.2)) (obind (F58 fuel (List.take y4.1 y4.2)) fun y5 => obind (F45 fuel ((List.take y4.1 y4.2), y5)) fun r6 => oif (r6.2.2)
          (obind (sg p0 p1) fun x7 => obind (F61 fuel r6.2.1 x7.1) fun r8 => oif (decide (r8 ≠ 0)) (oif (decide ((0:Int) ≤ (IntKind.wrap .i64 (Int.tdiv x7.1 r8)))) (oif (decide (((8 : Nat) : Int) * (IntKind.wrap .i64 (Int.tdiv x7.1 r8)) ≤ 281474976710656)) (oif (decide (((IntKind.wrap .i64 (Int.tdiv x7.1 r8)) : Int) ≤ 9223372036854775807)) (obind (L32_0 r6.1 r8 (((Int.toNat (IntKind.wrap .i64 (Int.tdiv x7.1 r8))) : Nat) : Int) fuel 0 (List.replicate (Int.toNat (IntKind.wrap .i64 (Int.tdiv x7.1 r8))) (0 : Int))) fun y9 => some (y9, 0)) none) none) none) none)
          (some ([], 0))) none)))
    (some ([], 2)))
end Go.Idl.N
