/-
  Part D of a proof: natives of the functions that are reached, and their contracts.
-/
import Derived.Test.YtmkkkahidonnjaaC
import Derived.Test.YtmkkkahidonnjaaProg
set_option maxRecDepth 100000
set_option linter.unusedVariables false
set_option linter.unusedSimpArgs false
namespace Go.Idl.N
open Go Go.Idl Go.Proofs.Try
theorem hm : prog.follows .mixedOrders = true := by kernel_rfl
theorem is3 : IsFn prog 3 f3 := ⟨by kernel_rfl, by kernel_rfl, by kernel_rfl⟩
theorem is7 : IsFn prog 7 f7 := ⟨by kernel_rfl, by kernel_rfl, by kernel_rfl⟩
theorem is8 : IsFn prog 8 f8 := ⟨by kernel_rfl, by kernel_rfl, by kernel_rfl⟩
theorem is9 : IsFn prog 9 f9 := ⟨by kernel_rfl, by kernel_rfl, by kernel_rfl⟩
theorem is10 : IsFn prog 10 f10 := ⟨by kernel_rfl, by kernel_rfl, by kernel_rfl⟩
theorem is11 : IsFn prog 11 f11 := ⟨by kernel_rfl, by kernel_rfl, by kernel_rfl⟩
theorem is12 : IsFn prog 12 f12 := ⟨by kernel_rfl, by kernel_rfl, by kernel_rfl⟩
theorem is13 : IsFn prog 13 f13 := ⟨by kernel_rfl, by kernel_rfl, by kernel_rfl⟩
theorem is14 : IsFn prog 14 f14 := ⟨by kernel_rfl, by kernel_rfl, by kernel_rfl⟩
theorem is15 : IsFn prog 15 f15 := ⟨by kernel_rfl, by kernel_rfl, by kernel_rfl⟩
theorem is16 : IsFn prog 16 f16 := ⟨by kernel_rfl, by kernel_rfl, by kernel_rfl⟩
theorem is17 : IsFn prog 17 f17 := ⟨by kernel_rfl, by kernel_rfl, by kernel_rfl⟩
theorem is19 : IsFn prog 19 f19 := ⟨by kernel_rfl, by kernel_rfl, by kernel_rfl⟩
theorem is21 : IsFn prog 21 f21 := ⟨by kernel_rfl, by kernel_rfl, by kernel_rfl⟩
theorem is23 : IsFn prog 23 f23 := ⟨by kernel_rfl, by kernel_rfl, by kernel_rfl⟩
theorem is26 : IsFn prog 26 f26 := ⟨by kernel_rfl, by kernel_rfl, by kernel_rfl⟩
theorem is28 : IsFn prog 28 f28 := ⟨by kernel_rfl, by kernel_rfl, by kernel_rfl⟩
theorem is29 : IsFn prog 29 f29 := ⟨by kernel_rfl, by kernel_rfl, by kernel_rfl⟩
theorem is31 : IsFn prog 31 f31 := ⟨by kernel_rfl, by kernel_rfl, by kernel_rfl⟩
theorem is33 : IsFn prog 33 f33 := ⟨by kernel_rfl, by kernel_rfl, by kernel_rfl⟩
theorem is34 : IsFn prog 34 f34 := ⟨by kernel_rfl, by kernel_rfl, by kernel_rfl⟩
theorem is36 : IsFn prog 36 f36 := ⟨by kernel_rfl, by kernel_rfl, by kernel_rfl⟩
theorem is37 : IsFn prog 37 f37 := ⟨by kernel_rfl, by kernel_rfl, by kernel_rfl⟩
theorem is38 : IsFn prog 38 f38 := ⟨by kernel_rfl, by kernel_rfl, by kernel_rfl⟩
theorem is39 : IsFn prog 39 f39 := ⟨by kernel_rfl, by kernel_rfl, by kernel_rfl⟩
theorem is40 : IsFn prog 40 f40 := ⟨by kernel_rfl, by kernel_rfl, by kernel_rfl⟩
theorem is41 : IsFn prog 41 f41 := ⟨by kernel_rfl, by kernel_rfl, by kernel_rfl⟩
theorem is42 : IsFn prog 42 f42 := ⟨by kernel_rfl, by kernel_rfl, by kernel_rfl⟩
theorem is43 : IsFn prog 43 f43 := ⟨by kernel_rfl, by kernel_rfl, by kernel_rfl⟩
theorem is44 : IsFn prog 44 f44 := ⟨by kernel_rfl, by kernel_rfl, by kernel_rfl⟩
theorem is45 : IsFn prog 45 f45 := ⟨by kernel_rfl, by kernel_rfl, by kernel_rfl⟩
theorem is46 : IsFn prog 46 f46 := ⟨by kernel_rfl, by kernel_rfl, by kernel_rfl⟩
theorem is47 : IsFn prog 47 f47 := ⟨by kernel_rfl, by kernel_rfl, by kernel_rfl⟩
theorem is48 : IsFn prog 48 f48 := ⟨by kernel_rfl, by kernel_rfl, by kernel_rfl⟩
theorem is49 : IsFn prog 49 f49 := ⟨by kernel_rfl, by kernel_rfl, by kernel_rfl⟩
theorem is50 : IsFn prog 50 f50 := ⟨by kernel_rfl, by kernel_rfl, by kernel_rfl⟩
theorem is51 : IsFn prog 51 f51 := ⟨by kernel_rfl, by kernel_rfl, by kernel_rfl⟩
theorem is52 : IsFn prog 52 f52 := ⟨by kernel_rfl, by kernel_rfl, by kernel_rfl⟩
theorem is53 : IsFn prog 53 f53 := ⟨by kernel_rfl, by kernel_rfl, by kernel_rfl⟩
theorem is56 : IsFn prog 56 f56 := ⟨by kernel_rfl, by kernel_rfl, by kernel_rfl⟩
theorem is57 : IsFn prog 57 f57 := ⟨by kernel_rfl, by kernel_rfl, by kernel_rfl⟩
theorem is58 : IsFn prog 58 f58 := ⟨by kernel_rfl, by kernel_rfl, by kernel_rfl⟩
theorem is59 : IsFn prog 59 f59 := ⟨by kernel_rfl, by kernel_rfl, by kernel_rfl⟩
theorem is60 : IsFn prog 60 f60 := ⟨by kernel_rfl, by kernel_rfl, by kernel_rfl⟩
theorem is62 : IsFn prog 62 f62 := ⟨by kernel_rfl, by kernel_rfl, by kernel_rfl⟩
theorem is63 : IsFn prog 63 f63 := ⟨by kernel_rfl, by kernel_rfl, by kernel_rfl⟩
theorem is64 : IsFn prog 64 f64 := ⟨by kernel_rfl, by kernel_rfl, by kernel_rfl⟩
theorem is65 : IsFn prog 65 f65 := ⟨by kernel_rfl, by kernel_rfl, by kernel_rfl⟩
theorem is66 : IsFn prog 66 f66 := ⟨by kernel_rfl, by kernel_rfl, by kernel_rfl⟩
theorem is67 : IsFn prog 67 f67 := ⟨by kernel_rfl, by kernel_rfl, by kernel_rfl⟩
theorem is68 : IsFn prog 68 f68 := ⟨by kernel_rfl, by kernel_rfl, by kernel_rfl⟩
theorem is69 : IsFn prog 69 f69 := ⟨by kernel_rfl, by kernel_rfl, by kernel_rfl⟩
theorem is70 : IsFn prog 70 f70 := ⟨by kernel_rfl, by kernel_rfl, by kernel_rfl⟩
theorem is71 : IsFn prog 71 f71 := ⟨by kernel_rfl, by kernel_rfl, by kernel_rfl⟩
theorem is72 : IsFn prog 72 f72 := ⟨by kernel_rfl, by kernel_rfl, by kernel_rfl⟩
theorem is73 : IsFn prog 73 f73 := ⟨by kernel_rfl, by kernel_rfl, by kernel_rfl⟩
theorem is74 : IsFn prog 74 f74 := ⟨by kernel_rfl, by kernel_rfl, by kernel_rfl⟩
theorem is75 : IsFn prog 75 f75 := ⟨by kernel_rfl, by kernel_rfl, by kernel_rfl⟩
theorem is76 : IsFn prog 76 f76 := ⟨by kernel_rfl, by kernel_rfl, by kernel_rfl⟩
theorem is77 : IsFn prog 77 f77 := ⟨by kernel_rfl, by kernel_rfl, by kernel_rfl⟩
theorem is78 : IsFn prog 78 f78 := ⟨by kernel_rfl, by kernel_rfl, by kernel_rfl⟩
theorem is79 : IsFn prog 79 f79 := ⟨by kernel_rfl, by kernel_rfl, by kernel_rfl⟩
theorem is80 : IsFn prog 80 f80 := ⟨by kernel_rfl, by kernel_rfl, by kernel_rfl⟩
theorem is81 : IsFn prog 81 f81 := ⟨by kernel_rfl, by kernel_rfl, by kernel_rfl⟩
theorem is82 : IsFn prog 82 f82 := ⟨by kernel_rfl, by kernel_rfl, by kernel_rfl⟩
theorem is83 : IsFn prog 83 f83 := ⟨by kernel_rfl, by kernel_rfl, by kernel_rfl⟩
theorem is84 : IsFn prog 84 f84 := ⟨by kernel_rfl, by kernel_rfl, by kernel_rfl⟩
theorem is85 : IsFn prog 85 f85 := ⟨by kernel_rfl, by kernel_rfl, by kernel_rfl⟩
theorem is86 : IsFn prog 86 f86 := ⟨by kernel_rfl, by kernel_rfl, by kernel_rfl⟩
theorem is87 : IsFn prog 87 f87 := ⟨by kernel_rfl, by kernel_rfl, by kernel_rfl⟩
theorem is88 : IsFn prog 88 f88 := ⟨by kernel_rfl, by kernel_rfl, by kernel_rfl⟩
theorem is89 : IsFn prog 89 f89 := ⟨by kernel_rfl, by kernel_rfl, by kernel_rfl⟩
noncomputable def R82_1_1_0_1_0 : Rng := rngOf (codeAt [1, 1, 0, 1, 0] (bodyOf f82)) 30
noncomputable def R85_1_0_1_0 : Rng := rngOf (codeAt [1, 0, 1, 0] (bodyOf f85)) 13
noncomputable def R64_1_0_1_1_1_1_1_0_0_0_0_1_1_1_0 : Rng := rngOf (codeAt [1, 0, 1, 1, 1, 1, 1, 0, 0, 0, 0, 1, 1, 1, 0] (bodyOf f64)) 61
def e2 (v : Int) : PV := .int .i64 v
theorem el2 : Elem e2 1 := ⟨fun _ => rfl, fun _ => rfl, by decide⟩
def e3 (v : Int) : PV := .int .i64 v
theorem el3 : Elem e3 1 := ⟨fun _ => rfl, fun _ => rfl, by decide⟩
def e60 (v : (Int × Int)) : PV := .agg [.int .i64 v.1, .int .i64 v.2]
theorem el60 : Elem e60 2 := ⟨fun _ => rfl, fun _ => rfl, by decide⟩
def e70 (v : (Int × Int)) : PV := .agg [.int .i64 v.1, .int .i64 v.2]
theorem el70 : Elem e70 2 := ⟨fun _ => rfl, fun _ => rfl, by decide⟩
def e78 (v : (Int × Int × Int)) : PV := .agg [.int .i64 v.1, .int .i64 v.2.1, .int .i64 v.2.2]
theorem el78 : Elem e78 3 := ⟨fun _ => rfl, fun _ => rfl, by decide⟩
def e89 (v : Int) : PV := .agg [.int .i64 v]
theorem keq89 : KEq prog e89 89 (fun _ => true) := ⟨fun a b _ _ => (by kernel_rfl : _ = some (((a == b) && true))).trans (congrArg some (by first | rfl | (rw [Bool.and_true]) | (obtain ⟨a1, a2⟩ := a; obtain ⟨b1, b2⟩ := b; simp only [Bool.and_true]; rfl) | simp)), fun a => keyF_of [.int .i64 a] (by rfl) ⟨Or.inl ⟨_, _, rfl⟩, trivial⟩⟩
def F7  (fuel : Nat) (p0 : (List (Int × Int))) : Option Bool :=
 oif ((decide ((p0.length : Int) > 12)))
 (some true)
 (some false)
theorem F7_ok  (fuel : Nat) (p0 : (List (Int × Int))) (fp0 : Bool) (r : Bool) (h : F7 fuel p0 = some r) : CallP prog 7 [.sl (List.map e70 p0) fp0] (.bool r) := by
 unfold F7 at h
 refine oif_elim h (fun h1 g1 => ?_) (fun h1 g1 => ?_)
 ·have hr := Option.some.inj g1
  subst hr
  exact callP_of is7 rfl (path hm (ks := [2]) (σ' := ⟨[(2, .p (.bool true))], []⟩) (cc := [.reg [] [] 0 [] [0], .reg [] [] 0 [(1, none, .n (p0.length : Int)), (2, none, .b true)] [2]])
   (ai (len_map e70 p0) (ai h1 trivial)) (by kernel_rfl)) (e := .ret) rfl (vs := [.p (.bool true)]) trivial (by kernel_rfl) (.p _ _ (.refl _))
 ·have hr := Option.some.inj g1
  subst hr
  exact callP_of is7 rfl (path hm (ks := [2]) (σ' := ⟨[(2, .p (.bool false))], []⟩) (cc := [.reg [] [] 0 [] [0], .reg [] [] 0 [(1, none, .n (p0.length : Int)), (2, none, .b false)] [2]])
   (ai (len_map e70 p0) (ai h1 trivial)) (by kernel_rfl)) (e := .ret) rfl (vs := [.p (.bool false)]) trivial (by kernel_rfl) (.p _ _ (.refl _))
def L36_1  (v0 : (List Int)) : Nat → Int → (List (Int × Int)) → Option (List (Int × Int))
 | 0, _, _ => none
 | fuel + 1, v4, w0 =>
  oif ((decide ((IntKind.wrap .i64 (v4 + 1)) < (v0.length : Int))))
  (obind (sg v0 v4) fun x1 => obind (sg v0 (IntKind.wrap .i64 (v4 + 1))) fun x2 => oif (decide (((List.length w0) + 1) * 16 ≤ 140737488355328)) (L36_1 v0 fuel (IntKind.wrap .i64 (v4 + 2)) (w0 ++ [(x1, x2)])) none)
  (some (w0))
noncomputable def L36_1_post (v0 : (List Int)) (fp0 : Bool) : (List (Int × Int)) → Ex × St
 | y => ((.exit 0), ⟨[(3, .msl 0 0 (List.length y) (List.length (rowI e70 y)) false)], [.cells (rowI e70 y) 2]⟩)
theorem L36_1_ok  (v0 : (List Int)) (fp0 : Bool) : ∀ (fuel : Nat) (v4 : Int) (w0 : (List (Int × Int))) (r : (List (Int × Int))), L36_1 v0 fuel v4 w0 = some r →
  SemJ prog ⟨26, 0, false⟩ (codeAt [1, 1, 0, 1, 0, 0] (bodyOf f36)) ⟨[(0, .p (.sl (List.map e2 v0) fp0)), (3, .msl 0 0 (List.length w0) (List.length (rowI e70 w0)) false), (4, .p (.int .i64 v4))], [.cells (rowI e70 w0) 2]⟩ (L36_1_post v0 fp0 r).1 (L36_1_post v0 fp0 r).2
 | 0, _, _, _, h => nomatch h
 | fuel + 1, v4, w0, r, h => by
  let z1 : Int := (IntKind.wrap .i64 (v4 + 2))
  unfold L36_1 at h
  refine oif_elim h (fun h1 g1 => ?_) (fun h1 g1 => ?_)
  ·refine obind_elim g1 fun x1 h2 g2 => ?_
   refine obind_elim g2 fun x2 h3 g3 => ?_
   let z2 : List MObj := [.cells (rowI e70 (w0 ++ [(x1, x2)])) 2]
   refine oif_elim g3 (fun h4 g4 => ?_) (fun _ h => nomatch h)
   exact SemJ.again (σ1 := ⟨[(0, .p (.sl (List.map e2 v0) fp0)), (3, .msl 0 0 (List.length (w0 ++ [(x1, x2)])) (List.length (rowI e70 (w0 ++ [(x1, x2)]))) false), (4, .p (.int .i64 z1))], z2⟩) (path hm (σ' := ⟨[(0, .p (.sl (List.map e2 v0) fp0)), (3, .msl 0 0 (List.length (w0 ++ [(x1, x2)])) (List.length (rowI e70 (w0 ++ [(x1, x2)]))) false), (4, .p (.int .i64 z1))], z2⟩) (ks := [0, 3, 4]) (cc := [.reg [] [] 0 [(3, none, .n (v0.length : Int)), (4, none, .b true)] [0, 3, 4, 9], .reg [0, 0, 0, 6, 14, 0, 0, 64, 224, 480, 1022, 2046, 4095, 8191] [(0, 12)] 0 [(3, none, .iv (.p (.int .i64 x1))), (8, none, .iv (.p (.int .i64 x2))), (12, none, .ap (rowI e70 (w0 ++ [(x1, x2)])) (List.length (w0 ++ [(x1, x2)])) (List.length (rowI e70 (w0 ++ [(x1, x2)]))))] [0, 3, 4], .reg [] [] 0 [] [0, 3, 4]])
    (ai (len_map e2 v0) (ai h1 (ai (sg_map (f := e2) h2) (ai (sg_map (f := e2) h3) (ai (by decide : 0 < 1) (ai (od h4) (ai (app_c2 (by decide) (od h4)) (ai (app_len e70 [(x1, x2)] (rl (List.length w0))) (ai (rl (List.length (rowI e70 (w0 ++ [(x1, x2)])))) (ai (row_app e70 w0 [(x1, x2)]) (ai (rl (List.length (rowI e70 w0))) (ai (row_sz el70 (rl (List.length (rowI e70 w0))) (rl (List.length w0))) (ai (row_sc el70 [(x1, x2)]) (ai (row_es el70 [(x1, x2)]) trivial)))))))))))))) (by kernel_rfl)) (L36_1_ok v0 fp0 fuel z1 (w0 ++ [(x1, x2)]) _ g4)
  ·have hr := Option.some.inj g1
   subst hr
   exact SemC.cast (SemJ.out (e := (.exit 0)) (path hm (σ' := ⟨[(3, .msl 0 0 (List.length w0) (List.length (rowI e70 w0)) false)], [.cells (rowI e70 w0) 2]⟩) (ks := [3]) (cc := [.reg [] [] 0 [(3, none, .n (v0.length : Int)), (4, none, .b false)] [0, 3, 4, 9]])
    (ai (len_map e2 v0) (ai h1 trivial)) (by kernel_rfl)) (by simp)) (by kernel_rfl) (by kernel_rfl)
def L36_0  (v0 : (List Int)) : Nat → Option (List (Int × Int))
 | 0 => none
 | fuel + 1 =>
  oif ((decide (1 < (v0.length : Int))))
  (obind (sg v0 0) fun x1 => obind (sg v0 1) fun x2 => oif (decide (1 * 16 ≤ 140737488355328)) (obind (L36_1 v0 fuel 2 [(x1, x2)]) fun y3 => some (y3)) none)
  (some (([] : List (Int × Int))))
noncomputable def L36_0_post (v0 : (List Int)) (fp0 : Bool) : (List (Int × Int)) → Ex × St
 | y => ((.exit 0), ⟨[(3, .p (.sl (List.map e70 y) false))], []⟩)
theorem L36_0_ok  (v0 : (List Int)) (fp0 : Bool) : ∀ (fuel : Nat)  (r : (List (Int × Int))), L36_0 v0 fuel  = some r →
  SemJ prog ⟨26, 0, false⟩ (codeAt [1, 1, 0, 1, 0, 0] (bodyOf f36)) ⟨[(0, .p (.sl (List.map e2 v0) fp0)), (3, .p (.nilsl)), (4, .p (.int .i64 0))], []⟩ (L36_0_post v0 fp0 r).1 (L36_0_post v0 fp0 r).2
 | 0, _, h => nomatch h
 | fuel + 1, r, h => by
  let z1 : Env := [(3, .p (.sl (List.map e70 ([] : List (Int × Int))) false))]
  unfold L36_0 at h
  refine oif_elim h (fun h1 g1 => ?_) (fun h1 g1 => ?_)
  ·refine obind_elim g1 fun x1 h2 g2 => ?_
   refine obind_elim g2 fun x2 h3 g3 => ?_
   let z2 : St := ⟨[(0, .p (.sl (List.map e2 v0) fp0)), (3, .msl 0 0 (List.length [(x1, x2)]) (List.length (rowI e70 [(x1, x2)])) false), (4, .p (.int .i64 2))], [.cells (rowI e70 [(x1, x2)]) 2]⟩
   refine oif_elim g3 (fun h4 g4 => ?_) (fun _ h => nomatch h)
   refine obind_elim g4 fun y3 h5 g5 => ?_
   let z3 : Env := [(3, .p (.sl (List.map e70 y3) false))]
   have hr := Option.some.inj g5
   subst hr
   exact SemC.cast (SemJ.again (σ1 := z2) (path hm (σ' := z2) (ks := [0, 3, 4]) (cc := [.reg [] [] 0 [(3, none, .n (v0.length : Int)), (4, none, .b true)] [0, 3, 4, 9], .reg [0, 0, 0, 6, 14, 0, 0, 64, 224, 480, 1022, 2046, 4095, 8191] [(0, 12)] 1 [(3, none, .iv (.p (.int .i64 x1))), (8, none, .iv (.p (.int .i64 x2))), (12, some 0, .ap (rowI e70 [(x1, x2)]) (List.length [(x1, x2)]) (List.length (rowI e70 [(x1, x2)])))] [0, 3, 4], .reg [] [] 0 [] [0, 3, 4]])
    (ai (len_map e2 v0) (ai h1 (ai (sg_map (f := e2) h2) (ai (sg_map (f := e2) h3) (ai (by decide : 0 < 1) (ai (od h4) (ai (app_c0 (by decide) (od h4)) (ai (rl (List.length [(x1, x2)])) (ai (rl (List.length (rowI e70 [(x1, x2)]))) (ai (row_src e70 [(x1, x2)]) (ai (row_sc el70 [(x1, x2)]) (ai (row_es el70 [(x1, x2)]) trivial)))))))))))) (by kernel_rfl)) (SemC.post (L36_1_ok v0 fp0 fuel 2 [(x1, x2)] _ h5) (Weak.trans (wcast (Weak.freeze (E := [(3, .msl 0 0 (List.length y3) (List.length (rowI e70 y3)) false)]) (E' := z3) (H := [.cells (rowI e70 y3) 2]) [0] (by kernel_rfl) (.snap _ _ _ _ _ (snap_row (g := 2) (L := y3) el70 (by kernel_rfl) (rl (List.length (rowI e70 y3))) (rl (List.length y3))) .nil)) (by kernel_rfl : (⟨z3, puts (dieW [0]) [.cells (rowI e70 y3) 2]⟩ : St) = ⟨z3, [.dead]⟩)) (Weak.sel [] trivial (by kernel_rfl) (by kernel_rfl))))) (by kernel_rfl) (by kernel_rfl)
  ·have hr := Option.some.inj g1
   subst hr
   exact SemC.cast (SemJ.out (e := (.exit 0)) (SemC.post (path hm (σ' := ⟨[(3, .p (.nilsl))], []⟩) (ks := [3]) (cc := [.reg [] [] 0 [(3, none, .n (v0.length : Int)), (4, none, .b false)] [0, 3, 4, 9]])
    (ai (len_map e2 v0) (ai h1 trivial)) (by kernel_rfl)) (wcast (Weak.freeze (E := [(3, .p (.nilsl))]) (E' := z1) (H := []) [] (by kernel_rfl) (.snap _ _ _ _ _ (.p _ _ (.nil _)) .nil)) (by kernel_rfl : (⟨z1, puts (dieW []) []⟩ : St) = ⟨z1, []⟩))) (by simp)) (by kernel_rfl) (by kernel_rfl)
def F36  (fuel : Nat) (p0 : (List Int)) : Option (List (Int × Int)) :=
 obind (L36_0 p0 fuel ) fun y1 => some y1
theorem F36_ok  (fuel : Nat) (p0 : (List Int)) (fp0 : Bool) (r : (List (Int × Int))) (h : F36 fuel p0 = some r) : CallP prog 36 [.sl (List.map e2 p0) fp0] (.sl (List.map e70 r) false) := by
 unfold F36 at h
 refine obind_elim h fun y1 h1 g1 => ?_
 have hr := Option.some.inj g1
 subst hr
 exact callP_of is36 rfl (path hm (ks := [2]) (σ' := ⟨[(2, .p (.sl (List.map e70 y1) false))], []⟩) (cc := [.reg [] [] 0 [] [0], .reg [] [] 0 [] [0, 3], .reg [] [] 0 [] [0, 3, 4], .leaf (.exit 0) ⟨[(3, .p (.sl (List.map e70 y1) false))], []⟩, .reg [] [] 0 [] [2]])
   (ai (SemJ.loop (L36_0_ok p0 fp0 fuel  _ h1)) trivial) (by kernel_rfl)) (e := .ret) rfl (vs := [.p (.sl (List.map e70 y1) false)]) trivial (by kernel_rfl) (.p _ _ (.refl _))
def L37_1  (v0 : (List Int)) : Nat → Int → (List (Int × Int)) → Option (List (Int × Int))
 | 0, _, _ => none
 | fuel + 1, v4, w0 =>
  oif ((decide ((IntKind.wrap .i64 (v4 + 1)) < (v0.length : Int))))
  (obind (sg v0 v4) fun x1 => obind (sg v0 (IntKind.wrap .i64 (v4 + 1))) fun x2 => oif (decide (((List.length w0) + 1) * 16 ≤ 140737488355328)) (L37_1 v0 fuel (IntKind.wrap .i64 (v4 + 2)) (w0 ++ [(x1, x2)])) none)
  (some (w0))
noncomputable def L37_1_post (v0 : (List Int)) (fp0 : Bool) : (List (Int × Int)) → Ex × St
 | y => ((.exit 0), ⟨[(3, .msl 0 0 (List.length y) (List.length (rowI e60 y)) false)], [.cells (rowI e60 y) 2]⟩)
theorem L37_1_ok  (v0 : (List Int)) (fp0 : Bool) : ∀ (fuel : Nat) (v4 : Int) (w0 : (List (Int × Int))) (r : (List (Int × Int))), L37_1 v0 fuel v4 w0 = some r →
  SemJ prog ⟨26, 0, false⟩ (codeAt [1, 1, 0, 1, 0, 0] (bodyOf f37)) ⟨[(0, .p (.sl (List.map e2 v0) fp0)), (3, .msl 0 0 (List.length w0) (List.length (rowI e60 w0)) false), (4, .p (.int .i64 v4))], [.cells (rowI e60 w0) 2]⟩ (L37_1_post v0 fp0 r).1 (L37_1_post v0 fp0 r).2
 | 0, _, _, _, h => nomatch h
 | fuel + 1, v4, w0, r, h => by
  let z1 : Int := (IntKind.wrap .i64 (v4 + 2))
  unfold L37_1 at h
  refine oif_elim h (fun h1 g1 => ?_) (fun h1 g1 => ?_)
  ·refine obind_elim g1 fun x1 h2 g2 => ?_
   refine obind_elim g2 fun x2 h3 g3 => ?_
   let z2 : List MObj := [.cells (rowI e60 (w0 ++ [(x1, x2)])) 2]
   refine oif_elim g3 (fun h4 g4 => ?_) (fun _ h => nomatch h)
   exact SemJ.again (σ1 := ⟨[(0, .p (.sl (List.map e2 v0) fp0)), (3, .msl 0 0 (List.length (w0 ++ [(x1, x2)])) (List.length (rowI e60 (w0 ++ [(x1, x2)]))) false), (4, .p (.int .i64 z1))], z2⟩) (path hm (σ' := ⟨[(0, .p (.sl (List.map e2 v0) fp0)), (3, .msl 0 0 (List.length (w0 ++ [(x1, x2)])) (List.length (rowI e60 (w0 ++ [(x1, x2)]))) false), (4, .p (.int .i64 z1))], z2⟩) (ks := [0, 3, 4]) (cc := [.reg [] [] 0 [(3, none, .n (v0.length : Int)), (4, none, .b true)] [0, 3, 4, 9], .reg [0, 0, 0, 6, 14, 0, 0, 64, 224, 480, 1022, 2046, 4095, 8191] [(0, 12)] 0 [(3, none, .iv (.p (.int .i64 x1))), (8, none, .iv (.p (.int .i64 x2))), (12, none, .ap (rowI e60 (w0 ++ [(x1, x2)])) (List.length (w0 ++ [(x1, x2)])) (List.length (rowI e60 (w0 ++ [(x1, x2)]))))] [0, 3, 4], .reg [] [] 0 [] [0, 3, 4]])
    (ai (len_map e2 v0) (ai h1 (ai (sg_map (f := e2) h2) (ai (sg_map (f := e2) h3) (ai (by decide : 0 < 1) (ai (od h4) (ai (app_c2 (by decide) (od h4)) (ai (app_len e60 [(x1, x2)] (rl (List.length w0))) (ai (rl (List.length (rowI e60 (w0 ++ [(x1, x2)])))) (ai (row_app e60 w0 [(x1, x2)]) (ai (rl (List.length (rowI e60 w0))) (ai (row_sz el60 (rl (List.length (rowI e60 w0))) (rl (List.length w0))) (ai (row_sc el60 [(x1, x2)]) (ai (row_es el60 [(x1, x2)]) trivial)))))))))))))) (by kernel_rfl)) (L37_1_ok v0 fp0 fuel z1 (w0 ++ [(x1, x2)]) _ g4)
  ·have hr := Option.some.inj g1
   subst hr
   exact SemC.cast (SemJ.out (e := (.exit 0)) (path hm (σ' := ⟨[(3, .msl 0 0 (List.length w0) (List.length (rowI e60 w0)) false)], [.cells (rowI e60 w0) 2]⟩) (ks := [3]) (cc := [.reg [] [] 0 [(3, none, .n (v0.length : Int)), (4, none, .b false)] [0, 3, 4, 9]])
    (ai (len_map e2 v0) (ai h1 trivial)) (by kernel_rfl)) (by simp)) (by kernel_rfl) (by kernel_rfl)
def L37_0  (v0 : (List Int)) : Nat → Option (List (Int × Int))
 | 0 => none
 | fuel + 1 =>
  oif ((decide (1 < (v0.length : Int))))
  (obind (sg v0 0) fun x1 => obind (sg v0 1) fun x2 => oif (decide (1 * 16 ≤ 140737488355328)) (obind (L37_1 v0 fuel 2 [(x1, x2)]) fun y3 => some (y3)) none)
  (some (([] : List (Int × Int))))
noncomputable def L37_0_post (v0 : (List Int)) (fp0 : Bool) : (List (Int × Int)) → Ex × St
 | y => ((.exit 0), ⟨[(3, .p (.sl (List.map e60 y) false))], []⟩)
theorem L37_0_ok  (v0 : (List Int)) (fp0 : Bool) : ∀ (fuel : Nat)  (r : (List (Int × Int))), L37_0 v0 fuel  = some r →
  SemJ prog ⟨26, 0, false⟩ (codeAt [1, 1, 0, 1, 0, 0] (bodyOf f37)) ⟨[(0, .p (.sl (List.map e2 v0) fp0)), (3, .p (.nilsl)), (4, .p (.int .i64 0))], []⟩ (L37_0_post v0 fp0 r).1 (L37_0_post v0 fp0 r).2
 | 0, _, h => nomatch h
 | fuel + 1, r, h => by
  let z1 : Env := [(3, .p (.sl (List.map e60 ([] : List (Int × Int))) false))]
  unfold L37_0 at h
  refine oif_elim h (fun h1 g1 => ?_) (fun h1 g1 => ?_)
  ·refine obind_elim g1 fun x1 h2 g2 => ?_
   refine obind_elim g2 fun x2 h3 g3 => ?_
   let z2 : St := ⟨[(0, .p (.sl (List.map e2 v0) fp0)), (3, .msl 0 0 (List.length [(x1, x2)]) (List.length (rowI e60 [(x1, x2)])) false), (4, .p (.int .i64 2))], [.cells (rowI e60 [(x1, x2)]) 2]⟩
   refine oif_elim g3 (fun h4 g4 => ?_) (fun _ h => nomatch h)
   refine obind_elim g4 fun y3 h5 g5 => ?_
   let z3 : Env := [(3, .p (.sl (List.map e60 y3) false))]
   have hr := Option.some.inj g5
   subst hr
   exact SemC.cast (SemJ.again (σ1 := z2) (path hm (σ' := z2) (ks := [0, 3, 4]) (cc := [.reg [] [] 0 [(3, none, .n (v0.length : Int)), (4, none, .b true)] [0, 3, 4, 9], .reg [0, 0, 0, 6, 14, 0, 0, 64, 224, 480, 1022, 2046, 4095, 8191] [(0, 12)] 1 [(3, none, .iv (.p (.int .i64 x1))), (8, none, .iv (.p (.int .i64 x2))), (12, some 0, .ap (rowI e60 [(x1, x2)]) (List.length [(x1, x2)]) (List.length (rowI e60 [(x1, x2)])))] [0, 3, 4], .reg [] [] 0 [] [0, 3, 4]])
    (ai (len_map e2 v0) (ai h1 (ai (sg_map (f := e2) h2) (ai (sg_map (f := e2) h3) (ai (by decide : 0 < 1) (ai (od h4) (ai (app_c0 (by decide) (od h4)) (ai (rl (List.length [(x1, x2)])) (ai (rl (List.length (rowI e60 [(x1, x2)]))) (ai (row_src e60 [(x1, x2)]) (ai (row_sc el60 [(x1, x2)]) (ai (row_es el60 [(x1, x2)]) trivial)))))))))))) (by kernel_rfl)) (SemC.post (L37_1_ok v0 fp0 fuel 2 [(x1, x2)] _ h5) (Weak.trans (wcast (Weak.freeze (E := [(3, .msl 0 0 (List.length y3) (List.length (rowI e60 y3)) false)]) (E' := z3) (H := [.cells (rowI e60 y3) 2]) [0] (by kernel_rfl) (.snap _ _ _ _ _ (snap_row (g := 2) (L := y3) el60 (by kernel_rfl) (rl (List.length (rowI e60 y3))) (rl (List.length y3))) .nil)) (by kernel_rfl : (⟨z3, puts (dieW [0]) [.cells (rowI e60 y3) 2]⟩ : St) = ⟨z3, [.dead]⟩)) (Weak.sel [] trivial (by kernel_rfl) (by kernel_rfl))))) (by kernel_rfl) (by kernel_rfl)
  ·have hr := Option.some.inj g1
   subst hr
   exact SemC.cast (SemJ.out (e := (.exit 0)) (SemC.post (path hm (σ' := ⟨[(3, .p (.nilsl))], []⟩) (ks := [3]) (cc := [.reg [] [] 0 [(3, none, .n (v0.length : Int)), (4, none, .b false)] [0, 3, 4, 9]])
    (ai (len_map e2 v0) (ai h1 trivial)) (by kernel_rfl)) (wcast (Weak.freeze (E := [(3, .p (.nilsl))]) (E' := z1) (H := []) [] (by kernel_rfl) (.snap _ _ _ _ _ (.p _ _ (.nil _)) .nil)) (by kernel_rfl : (⟨z1, puts (dieW []) []⟩ : St) = ⟨z1, []⟩))) (by simp)) (by kernel_rfl) (by kernel_rfl)
def F37  (fuel : Nat) (p0 : (List Int)) : Option (List (Int × Int)) :=
 obind (L37_0 p0 fuel ) fun y1 => some y1
theorem F37_ok  (fuel : Nat) (p0 : (List Int)) (fp0 : Bool) (r : (List (Int × Int))) (h : F37 fuel p0 = some r) : CallP prog 37 [.sl (List.map e2 p0) fp0] (.sl (List.map e60 r) false) := by
 unfold F37 at h
 refine obind_elim h fun y1 h1 g1 => ?_
 have hr := Option.some.inj g1
 subst hr
 exact callP_of is37 rfl (path hm (ks := [2]) (σ' := ⟨[(2, .p (.sl (List.map e60 y1) false))], []⟩) (cc := [.reg [] [] 0 [] [0], .reg [] [] 0 [] [0, 3], .reg [] [] 0 [] [0, 3, 4], .leaf (.exit 0) ⟨[(3, .p (.sl (List.map e60 y1) false))], []⟩, .reg [] [] 0 [] [2]])
   (ai (SemJ.loop (L37_0_ok p0 fp0 fuel  _ h1)) trivial) (by kernel_rfl)) (e := .ret) rfl (vs := [.p (.sl (List.map e60 y1) false)]) trivial (by kernel_rfl) (.p _ _ (.refl _))
def F71  (fuel : Nat) (p0 : Int) (p1 : Int) (p2 : Int) : Option Bool :=
 oif ((decide (p0 < p1)))
 (some true)
 (oif ((decide (p0 > p2)))
  (some true)
  (some false))
theorem F71_ok  (fuel : Nat) (p0 : Int) (p1 : Int) (p2 : Int)  (r : Bool) (h : F71 fuel p0 p1 p2 = some r) : CallP prog 71 [.int .i64 p0, .ref [.int .i64 p1], .ref [.int .i64 p2]] (.bool r) := by
 let z1 : St := ⟨[(4, .p (.bool true))], []⟩
 unfold F71 at h
 refine oif_elim h (fun h1 g1 => ?_) (fun h1 g1 => ?_)
 ·have hr := Option.some.inj g1
  subst hr
  exact callP_of is71 rfl (path hm (ks := [4]) (σ' := z1) (cc := [.reg [] [] 0 [] [0, 1, 2], .reg [] [] 0 [(2, none, .b true)] [4]])
   (ai h1 trivial) (by kernel_rfl)) (e := .ret) rfl (vs := [.p (.bool true)]) trivial (by kernel_rfl) (.p _ _ (.refl _))
 ·refine oif_elim g1 (fun h2 g2 => ?_) (fun h2 g2 => ?_)
  ·have hr := Option.some.inj g2
   subst hr
   exact callP_of is71 rfl (path hm (ks := [4]) (σ' := z1) (cc := [.reg [] [] 0 [] [0, 1, 2], .reg [] [] 0 [(2, none, .b false), (6, none, .b true)] [4]])
   (ai h1 (ai h2 trivial)) (by kernel_rfl)) (e := .ret) rfl (vs := [.p (.bool true)]) trivial (by kernel_rfl) (.p _ _ (.refl _))
  ·have hr := Option.some.inj g2
   subst hr
   exact callP_of is71 rfl (path hm (ks := [4]) (σ' := ⟨[(4, .p (.bool false))], []⟩) (cc := [.reg [] [] 0 [] [0, 1, 2], .reg [] [] 0 [(2, none, .b false), (6, none, .b false)] [4]])
   (ai h1 (ai h2 trivial)) (by kernel_rfl)) (e := .ret) rfl (vs := [.p (.bool false)]) trivial (by kernel_rfl) (.p _ _ (.refl _))
def L87_0  (v0 : (List Int)) (v1 : Int) (v1_1 : Int) (v7 : Int) : Nat → Int → Option (Int ⊕ Unit)
 | 0, _ => none
 | fuel + 1, v8 =>
  oif ((decide (v8 < v7)))
  (obind (sg v0 v8) fun x1 => obind (F71 fuel x1 v1 v1_1) fun r2 => oif (r2)
   (some (.inl v8))
   (L87_0 v0 v1 v1_1 v7 fuel (IntKind.wrap .i64 (v8 + 1))))
  (some (.inr (())))
noncomputable def L87_0_post (v0 : (List Int)) (v1 : Int) (v1_1 : Int) (v7 : Int) (fp0 : Bool) : (Int ⊕ Unit) → Ex × St
 | .inl y => (.ret, ⟨[(4, .p (.int .i64 y))], []⟩)
 | .inr (y) => ((.exit 0), ⟨[], []⟩)
theorem L87_0_ok  (v0 : (List Int)) (v1 : Int) (v1_1 : Int) (v7 : Int) (fp0 : Bool) : ∀ (fuel : Nat) (v8 : Int) (r : (Int ⊕ Unit)), L87_0 v0 v1 v1_1 v7 fuel v8 = some r →
  SemJ prog ⟨19, 0, false⟩ (codeAt [1, 0, 1, 0, 0] (bodyOf f87)) ⟨[(0, .p (.sl (List.map e2 v0) fp0)), (1, .p (.fn 71 [] [.ref [.int .i64 v1], .ref [.int .i64 v1_1]])), (7, .p (.int .i64 v7)), (8, .p (.int .i64 v8))], []⟩ (L87_0_post v0 v1 v1_1 v7 fp0 r).1 (L87_0_post v0 v1 v1_1 v7 fp0 r).2
 | 0, _, _, h => nomatch h
 | fuel + 1, v8, r, h => by
  let z2 : Int := (IntKind.wrap .i64 (v8 + 1))
  let z1 : St := ⟨[(0, .p (.sl (List.map e2 v0) fp0)), (1, .p (.fn 71 [] [.ref [.int .i64 v1], .ref [.int .i64 v1_1]])), (7, .p (.int .i64 v7)), (8, .p (.int .i64 z2))], []⟩
  unfold L87_0 at h
  refine oif_elim h (fun h1 g1 => ?_) (fun h1 g1 => ?_)
  ·refine obind_elim g1 fun x1 h2 g2 => ?_
   refine obind_elim g2 fun r2 h3 g3 => ?_
   let c1 : List CC := [.reg [] [] 0 [(0, none, .b true)] [0, 1, 7, 8, 9], .reg [] [] 0 [] [0, 1, 5, 7, 8]]
   refine oif_elim g3 (fun h4 g4 => ?_) (fun h4 g4 => ?_)
   ·subst h4
    have hr := Option.some.inj g4
    subst hr
    exact SemC.cast (SemJ.out (e := .ret) (path hm (σ' := ⟨[(4, .p (.int .i64 v8))], []⟩) (ks := [4]) (cc := c1 ++ [.reg [] [] 0 [(3, none, .iv (.p (.int .i64 x1))), (5, none, .call (.bool true))] [0, 1, 5, 7, 8, 16], .reg [] [] 0 [] [4]])
    (ai h1 (ai (sg_map (f := e2) h2) (ai (F71_ok fuel x1 v1 v1_1 _ h3) trivial))) (by kernel_rfl)) (by simp)) (by kernel_rfl) (by kernel_rfl)
   ·subst h4
    exact SemJ.again (σ1 := z1) (path hm (σ' := z1) (ks := [0, 1, 7, 8]) (cc := c1 ++ [.reg [] [] 0 [(3, none, .iv (.p (.int .i64 x1))), (5, none, .call (.bool false))] [0, 1, 5, 7, 8, 16], .reg [] [] 0 [] [0, 1, 7, 8]])
    (ai h1 (ai (sg_map (f := e2) h2) (ai (F71_ok fuel x1 v1 v1_1 _ h3) trivial))) (by kernel_rfl)) (L87_0_ok v0 v1 v1_1 v7 fp0 fuel z2 _ g4)
  ·have hr := Option.some.inj g1
   subst hr
   exact SemC.cast (SemJ.out (e := (.exit 0)) (path hm (σ' := ⟨[], []⟩) (ks := []) (cc := [.reg [] [] 0 [(0, none, .b false)] [0, 1, 7, 8, 9]])
    (ai h1 trivial) (by kernel_rfl)) (by simp)) (by kernel_rfl) (by kernel_rfl)
def F87  (fuel : Nat) (p0 : (List Int)) (p1ay : Int) (p1by : Int) : Option Int :=
 (obind (L87_0 p0 p1ay p1by (p0.length : Int) fuel 0) fun y1 => match y1 with
 | .inl y1 => some y1
 | .inr (y1) => some (-1))
theorem F87_ok  (fuel : Nat) (p0 : (List Int)) (p1ay : Int) (p1by : Int) (fp0 : Bool) (r : Int) (h : F87 fuel p0 p1ay p1by = some r) : CallP prog 87 [.sl (List.map e2 p0) fp0, .fn 71 [] [.ref [.int .i64 p1ay], .ref [.int .i64 p1by]]] (.int .i64 r) := by
 unfold F87 at h
 let c2 : List CC := [.reg [] [] 0 [] [0, 1], .reg [] [] 0 [(1, none, .n (p0.length : Int))] [0, 1, 7, 8]]
 refine obind_elim h fun y h1 g1 => ?_
 match y, h1, g1 with
 | .inl y1, h1, g1 =>
  let z1 : St := ⟨[(4, .p (.int .i64 y1))], []⟩
  have hr := Option.some.inj g1
  subst hr
  exact callP_of is87 rfl (path hm (ks := [4]) (σ' := z1) (cc := c2 ++ [.leaf .ret z1])
   (ai (len_map e2 p0) (ai (SemJ.loop (L87_0_ok p0 p1ay p1by (p0.length : Int) fp0 fuel 0 _ h1)) trivial)) (by kernel_rfl)) (e := .ret) rfl (vs := [.p (.int .i64 y1)]) trivial (by kernel_rfl) (.p _ _ (.refl _))
 | .inr (y1), h1, g1 =>
  have hr := Option.some.inj g1
  subst hr
  exact callP_of is87 rfl (path hm (ks := [4]) (σ' := ⟨[(4, .p (.int .i64 (-1)))], []⟩) (cc := c2 ++ [.leaf (.exit 0) ⟨[], []⟩, .reg [] [] 0 [] [4]])
   (ai (len_map e2 p0) (ai (SemJ.loop (L87_0_ok p0 p1ay p1by (p0.length : Int) fp0 fuel 0 _ h1)) trivial)) (by kernel_rfl)) (e := .ret) rfl (vs := [.p (.int .i64 (-1))]) trivial (by kernel_rfl) (.p _ _ (.refl _))
def F70  (fuel : Nat) (p0 : (List Int)) (p1ay : Int) (p1by : Int) : Option Bool :=
 obind (F87 fuel p0 p1ay p1by) fun r1 => oif ((decide (r1 ≥ 0)))
 (some true)
 (some false)
theorem F70_ok  (fuel : Nat) (p0 : (List Int)) (p1ay : Int) (p1by : Int) (fp0 : Bool) (r : Bool) (h : F70 fuel p0 p1ay p1by = some r) : CallP prog 70 [.sl (List.map e2 p0) fp0, .fn 71 [] [.ref [.int .i64 p1ay], .ref [.int .i64 p1by]]] (.bool r) := by
 unfold F70 at h
 refine obind_elim h fun r1 h1 g1 => ?_
 refine oif_elim g1 (fun h2 g2 => ?_) (fun h2 g2 => ?_)
 ·have hr := Option.some.inj g2
  subst hr
  exact callP_of is70 rfl (path hm (ks := [4]) (σ' := ⟨[(4, .p (.bool true))], []⟩) (cc := [.reg [] [] 0 [] [0, 1], .reg [] [] 0 [(2, none, .call (.int .i64 r1)), (3, none, .b true)] [4]])
   (ai (F87_ok fuel p0 p1ay p1by fp0 _ h1) (ai h2 trivial)) (by kernel_rfl)) (e := .ret) rfl (vs := [.p (.bool true)]) trivial (by kernel_rfl) (.p _ _ (.refl _))
 ·have hr := Option.some.inj g2
  subst hr
  exact callP_of is70 rfl (path hm (ks := [4]) (σ' := ⟨[(4, .p (.bool false))], []⟩) (cc := [.reg [] [] 0 [] [0, 1], .reg [] [] 0 [(2, none, .call (.int .i64 r1)), (3, none, .b false)] [4]])
   (ai (F87_ok fuel p0 p1ay p1by fp0 _ h1) (ai h2 trivial)) (by kernel_rfl)) (e := .ret) rfl (vs := [.p (.bool false)]) trivial (by kernel_rfl) (.p _ _ (.refl _))
def F42  (fuel : Nat) (p0 : Int) (p1 : Int) (p2 : (List Int)) : Option Bool :=
 obind (F70 fuel p2 p0 p1) fun r1 => oif (r1)
 (some false)
 (some true)
theorem F42_ok  (fuel : Nat) (p0 : Int) (p1 : Int) (p2 : (List Int)) (fp2 : Bool) (r : Bool) (h : F42 fuel p0 p1 p2 = some r) : CallP prog 42 [.int .i64 p0, .int .i64 p1, .sl (List.map e2 p2) fp2] (.bool r) := by
 unfold F42 at h
 refine obind_elim h fun r1 h1 g1 => ?_
 refine oif_elim g1 (fun h2 g2 => ?_) (fun h2 g2 => ?_)
 ·subst h2
  have hr := Option.some.inj g2
  subst hr
  exact callP_of is42 rfl (path hm (ks := [6]) (σ' := ⟨[(6, .p (.bool false))], []⟩) (cc := [.reg [] [] 0 [(0, none, .imm), (1, none, .imm)] [2, 3, 4], .reg [] [] 0 [(2, none, .call (.bool true))] [6]])
   (ai (F70_ok fuel p2 p0 p1 fp2 _ h1) trivial) (by kernel_rfl)) (e := .ret) rfl (vs := [.p (.bool false)]) trivial (by kernel_rfl) (.p _ _ (.refl _))
 ·subst h2
  have hr := Option.some.inj g2
  subst hr
  exact callP_of is42 rfl (path hm (ks := [6]) (σ' := ⟨[(6, .p (.bool true))], []⟩) (cc := [.reg [] [] 0 [(0, none, .imm), (1, none, .imm)] [2, 3, 4], .reg [] [] 0 [(2, none, .call (.bool false))] [6]])
   (ai (F70_ok fuel p2 p0 p1 fp2 _ h1) trivial) (by kernel_rfl)) (e := .ret) rfl (vs := [.p (.bool true)]) trivial (by kernel_rfl) (.p _ _ (.refl _))
def F51  (fuel : Nat) (p0 : (Int × Int)) : Option Bool :=
 obind (F42 fuel 1 500 [p0.1, p0.2]) fun r1 => oif (r1)
 (some false)
 (some true)
theorem F51_ok  (fuel : Nat) (p0 : (Int × Int))  (r : Bool) (h : F51 fuel p0 = some r) : CallP prog 51 [.agg [.int .i64 p0.1, .int .i64 p0.2]] (.bool r) := by
 unfold F51 at h
 refine obind_elim h fun r1 h1 g1 => ?_
 refine oif_elim g1 (fun h2 g2 => ?_) (fun h2 g2 => ?_)
 ·subst h2
  have hr := Option.some.inj g2
  subst hr
  exact callP_of is51 rfl (path hm (ks := [2]) (σ' := ⟨[(2, .p (.bool false))], []⟩) (cc := [.reg [] [] 0 [(0, none, .imm)] [1], .reg [] [] 0 [(5, none, .call (.bool true))] [2]])
   (ai (F42_ok fuel 1 500 [p0.1, p0.2] true _ h1) trivial) (by kernel_rfl)) (e := .ret) rfl (vs := [.p (.bool false)]) trivial (by kernel_rfl) (.p _ _ (.refl _))
 ·subst h2
  have hr := Option.some.inj g2
  subst hr
  exact callP_of is51 rfl (path hm (ks := [2]) (σ' := ⟨[(2, .p (.bool true))], []⟩) (cc := [.reg [] [] 0 [(0, none, .imm)] [1], .reg [] [] 0 [(5, none, .call (.bool false))] [2]])
   (ai (F42_ok fuel 1 500 [p0.1, p0.2] true _ h1) trivial) (by kernel_rfl)) (e := .ret) rfl (vs := [.p (.bool true)]) trivial (by kernel_rfl) (.p _ _ (.refl _))
def L73_0  (v0 : (List (Int × Int))) (v7 : Int) : Nat → Int → Option (Int ⊕ Unit)
 | 0, _ => none
 | fuel + 1, v8 =>
  oif ((decide (v8 < v7)))
  (obind (sg v0 v8) fun x1 => obind (F51 fuel (x1.1, x1.2)) fun r2 => oif (r2)
   (some (.inl v8))
   (L73_0 v0 v7 fuel (IntKind.wrap .i64 (v8 + 1))))
  (some (.inr (())))
noncomputable def L73_0_post (v0 : (List (Int × Int))) (v7 : Int) (fp0 : Bool) : (Int ⊕ Unit) → Ex × St
 | .inl y => (.ret, ⟨[(4, .p (.int .i64 y))], []⟩)
 | .inr (y) => ((.exit 0), ⟨[], []⟩)
theorem L73_0_ok  (v0 : (List (Int × Int))) (v7 : Int) (fp0 : Bool) : ∀ (fuel : Nat) (v8 : Int) (r : (Int ⊕ Unit)), L73_0 v0 v7 fuel v8 = some r →
  SemJ prog ⟨19, 0, false⟩ (codeAt [1, 0, 1, 0, 0] (bodyOf f73)) ⟨[(0, .p (.sl (List.map e70 v0) fp0)), (1, .p (.fn 51 [] [])), (7, .p (.int .i64 v7)), (8, .p (.int .i64 v8))], []⟩ (L73_0_post v0 v7 fp0 r).1 (L73_0_post v0 v7 fp0 r).2
 | 0, _, _, h => nomatch h
 | fuel + 1, v8, r, h => by
  let z2 : Int := (IntKind.wrap .i64 (v8 + 1))
  let z1 : St := ⟨[(0, .p (.sl (List.map e70 v0) fp0)), (1, .p (.fn 51 [] [])), (7, .p (.int .i64 v7)), (8, .p (.int .i64 z2))], []⟩
  unfold L73_0 at h
  refine oif_elim h (fun h1 g1 => ?_) (fun h1 g1 => ?_)
  ·refine obind_elim g1 fun x1 h2 g2 => ?_
   refine obind_elim g2 fun r2 h3 g3 => ?_
   let c3 : List CC := [.reg [] [] 0 [(0, none, .b true)] [0, 1, 7, 8, 9], .reg [] [] 0 [] [0, 1, 5, 7, 8]]
   refine oif_elim g3 (fun h4 g4 => ?_) (fun h4 g4 => ?_)
   ·subst h4
    have hr := Option.some.inj g4
    subst hr
    exact SemC.cast (SemJ.out (e := .ret) (path hm (σ' := ⟨[(4, .p (.int .i64 v8))], []⟩) (ks := [4]) (cc := c3 ++ [.reg [] [] 0 [(3, none, .iv (.p (.agg [.int .i64 x1.1, .int .i64 x1.2]))), (5, none, .call (.bool true))] [0, 1, 5, 7, 8, 16], .reg [] [] 0 [] [4]])
    (ai h1 (ai (sg_map (f := e70) h2) (ai (F51_ok fuel (x1.1, x1.2) _ h3) trivial))) (by kernel_rfl)) (by simp)) (by kernel_rfl) (by kernel_rfl)
   ·subst h4
    exact SemJ.again (σ1 := z1) (path hm (σ' := z1) (ks := [0, 1, 7, 8]) (cc := c3 ++ [.reg [] [] 0 [(3, none, .iv (.p (.agg [.int .i64 x1.1, .int .i64 x1.2]))), (5, none, .call (.bool false))] [0, 1, 5, 7, 8, 16], .reg [] [] 0 [] [0, 1, 7, 8]])
    (ai h1 (ai (sg_map (f := e70) h2) (ai (F51_ok fuel (x1.1, x1.2) _ h3) trivial))) (by kernel_rfl)) (L73_0_ok v0 v7 fp0 fuel z2 _ g4)
  ·have hr := Option.some.inj g1
   subst hr
   exact SemC.cast (SemJ.out (e := (.exit 0)) (path hm (σ' := ⟨[], []⟩) (ks := []) (cc := [.reg [] [] 0 [(0, none, .b false)] [0, 1, 7, 8, 9]])
    (ai h1 trivial) (by kernel_rfl)) (by simp)) (by kernel_rfl) (by kernel_rfl)
def F73  (fuel : Nat) (p0 : (List (Int × Int))) : Option Int :=
 (obind (L73_0 p0 (p0.length : Int) fuel 0) fun y1 => match y1 with
 | .inl y1 => some y1
 | .inr (y1) => some (-1))
theorem F73_ok  (fuel : Nat) (p0 : (List (Int × Int))) (fp0 : Bool) (r : Int) (h : F73 fuel p0 = some r) : CallP prog 73 [.sl (List.map e70 p0) fp0, .fn 51 [] []] (.int .i64 r) := by
 unfold F73 at h
 let c4 : List CC := [.reg [] [] 0 [] [0, 1], .reg [] [] 0 [(1, none, .n (p0.length : Int))] [0, 1, 7, 8]]
 refine obind_elim h fun y h1 g1 => ?_
 match y, h1, g1 with
 | .inl y1, h1, g1 =>
  let z1 : St := ⟨[(4, .p (.int .i64 y1))], []⟩
  have hr := Option.some.inj g1
  subst hr
  exact callP_of is73 rfl (path hm (ks := [4]) (σ' := z1) (cc := c4 ++ [.leaf .ret z1])
   (ai (len_map e70 p0) (ai (SemJ.loop (L73_0_ok p0 (p0.length : Int) fp0 fuel 0 _ h1)) trivial)) (by kernel_rfl)) (e := .ret) rfl (vs := [.p (.int .i64 y1)]) trivial (by kernel_rfl) (.p _ _ (.refl _))
 | .inr (y1), h1, g1 =>
  have hr := Option.some.inj g1
  subst hr
  exact callP_of is73 rfl (path hm (ks := [4]) (σ' := ⟨[(4, .p (.int .i64 (-1)))], []⟩) (cc := c4 ++ [.leaf (.exit 0) ⟨[], []⟩, .reg [] [] 0 [] [4]])
   (ai (len_map e70 p0) (ai (SemJ.loop (L73_0_ok p0 (p0.length : Int) fp0 fuel 0 _ h1)) trivial)) (by kernel_rfl)) (e := .ret) rfl (vs := [.p (.int .i64 (-1))]) trivial (by kernel_rfl) (.p _ _ (.refl _))
def F52  (fuel : Nat) (p0 : (List (Int × Int))) : Option Bool :=
 obind (F73 fuel p0) fun r1 => oif ((decide (r1 ≥ 0)))
 (some true)
 (some false)
theorem F52_ok  (fuel : Nat) (p0 : (List (Int × Int))) (fp0 : Bool) (r : Bool) (h : F52 fuel p0 = some r) : CallP prog 52 [.sl (List.map e70 p0) fp0, .fn 51 [] []] (.bool r) := by
 unfold F52 at h
 refine obind_elim h fun r1 h1 g1 => ?_
 refine oif_elim g1 (fun h2 g2 => ?_) (fun h2 g2 => ?_)
 ·have hr := Option.some.inj g2
  subst hr
  exact callP_of is52 rfl (path hm (ks := [4]) (σ' := ⟨[(4, .p (.bool true))], []⟩) (cc := [.reg [] [] 0 [] [0, 1], .reg [] [] 0 [(2, none, .call (.int .i64 r1)), (3, none, .b true)] [4]])
   (ai (F73_ok fuel p0 fp0 _ h1) (ai h2 trivial)) (by kernel_rfl)) (e := .ret) rfl (vs := [.p (.bool true)]) trivial (by kernel_rfl) (.p _ _ (.refl _))
 ·have hr := Option.some.inj g2
  subst hr
  exact callP_of is52 rfl (path hm (ks := [4]) (σ' := ⟨[(4, .p (.bool false))], []⟩) (cc := [.reg [] [] 0 [] [0, 1], .reg [] [] 0 [(2, none, .call (.int .i64 r1)), (3, none, .b false)] [4]])
   (ai (F73_ok fuel p0 fp0 _ h1) (ai h2 trivial)) (by kernel_rfl)) (e := .ret) rfl (vs := [.p (.bool false)]) trivial (by kernel_rfl) (.p _ _ (.refl _))
def F13  (fuel : Nat) (p0 : (List (Int × Int))) : Option Int :=
 obind (F42 fuel 1 8 [(p0.length : Int)]) fun r1 => oif (r1)
 (obind (F52 fuel p0) fun r2 => oif (r2)
  (some 3)
  (some 0))
 (some 6)
theorem F13_ok  (fuel : Nat) (p0 : (List (Int × Int))) (fp0 : Bool) (r : Int) (h : F13 fuel p0 = some r) : CallP prog 13 [.sl (List.map e70 p0) fp0] (.int .i64 r) := by
 unfold F13 at h
 refine obind_elim h fun r1 h1 g1 => ?_
 let c5 : List CC := [.reg [] [] 0 [] [0], .reg [] [] 0 [] [0, 3]]
 have q6 := fun {P : Prop} (t : P) => ai (len_map e70 p0) (ai (F42_ok fuel 1 8 [(p0.length : Int)] true _ h1) t)
 refine oif_elim g1 (fun h2 g2 => ?_) (fun h2 g2 => ?_)
 ·subst h2
  refine obind_elim g2 fun r2 h3 g3 => ?_
  let c7 : List CC := c5 ++ [.reg [] [] 0 [(1, none, .n (p0.length : Int)), (3, none, .call (.bool true))] [0, 3, 4]]
  refine oif_elim g3 (fun h4 g4 => ?_) (fun h4 g4 => ?_)
  ·subst h4
   have hr := Option.some.inj g4
   subst hr
   exact callP_of is13 rfl (path hm (ks := [2]) (σ' := ⟨[(2, .p (.int .i64 3))], []⟩) (cc := c7 ++ [.reg [] [] 0 [(2, none, .call (.bool true))] [10], .reg [] [] 0 [] [2]])
   (q6 (ai (F52_ok fuel p0 fp0 _ h3) trivial)) (by kernel_rfl)) (e := .ret) rfl (vs := [.p (.int .i64 3)]) trivial (by kernel_rfl) (.p _ _ (.refl _))
  ·subst h4
   have hr := Option.some.inj g4
   subst hr
   exact callP_of is13 rfl (path hm (ks := [2]) (σ' := ⟨[(2, .p (.int .i64 0))], []⟩) (cc := c7 ++ [.reg [] [] 0 [(2, none, .call (.bool false))] [10], .reg [] [] 0 [] [2]])
   (q6 (ai (F52_ok fuel p0 fp0 _ h3) trivial)) (by kernel_rfl)) (e := .ret) rfl (vs := [.p (.int .i64 0)]) trivial (by kernel_rfl) (.p _ _ (.refl _))
 ·subst h2
  have hr := Option.some.inj g2
  subst hr
  exact callP_of is13 rfl (path hm (ks := [2]) (σ' := ⟨[(2, .p (.int .i64 6))], []⟩) (cc := c5 ++ [.reg [] [] 0 [(1, none, .n (p0.length : Int)), (3, none, .call (.bool false))] [0, 3, 4], .reg [] [] 0 [] [2]])
   (q6 trivial) (by kernel_rfl)) (e := .ret) rfl (vs := [.p (.int .i64 6)]) trivial (by kernel_rfl) (.p _ _ (.refl _))
def L49_0  (v6 : (List (Int × Int))) (v7 : Int) : Nat → Int → Int → Int → Option (Int × Int)
 | 0, _, _, _ => none
 | fuel + 1, v8, w1, w1_1 =>
  oif ((decide (v8 < v7)))
  (obind (sg v6 v8) fun x1 => L49_0 v6 v7 fuel (IntKind.wrap .i64 (v8 + 1)) (IntKind.wrap .i64 (w1 + x1.1)) (IntKind.wrap .i64 (w1_1 + x1.2)))
  (some ((w1, w1_1)))
noncomputable def L49_0_post (v6 : (List (Int × Int))) (v7 : Int) (fp0 : Bool) : (Int × Int) → Ex × St
 | y => ((.exit 0), ⟨[(2, .ptr 0 0 2), (3, .ptr 1 0 2)], [.cells [.p (.int .i64 0), .p (.int .i64 0)] 0, .cells [.p (.int .i64 y.1), .p (.int .i64 y.2)] 0]⟩)
theorem L49_0_ok  (v6 : (List (Int × Int))) (v7 : Int) (fp0 : Bool) : ∀ (fuel : Nat) (v8 : Int) (w1 : Int) (w1_1 : Int) (r : (Int × Int)), L49_0 v6 v7 fuel v8 w1 w1_1 = some r →
  SemJ prog ⟨26, 0, false⟩ (codeAt [1, 1, 0, 1, 0, 0] (bodyOf f49)) ⟨[(2, .ptr 0 0 2), (3, .ptr 1 0 2), (6, .p (.sl (List.map e70 v6) fp0)), (7, .p (.int .i64 v7)), (8, .p (.int .i64 v8))], [.cells [.p (.int .i64 0), .p (.int .i64 0)] 0, .cells [.p (.int .i64 w1), .p (.int .i64 w1_1)] 0]⟩ (L49_0_post v6 v7 fp0 r).1 (L49_0_post v6 v7 fp0 r).2
 | 0, _, _, _, _, h => nomatch h
 | fuel + 1, v8, w1, w1_1, r, h => by
  let z3 : Int := (IntKind.wrap .i64 (v8 + 1))
  let z2 : MObj := .cells [.p (.int .i64 0), .p (.int .i64 0)] 0
  let z1 : Env := [(2, .ptr 0 0 2), (3, .ptr 1 0 2), (6, .p (.sl (List.map e70 v6) fp0)), (7, .p (.int .i64 v7)), (8, .p (.int .i64 z3))]
  unfold L49_0 at h
  refine oif_elim h (fun h1 g1 => ?_) (fun h1 g1 => ?_)
  ·refine obind_elim g1 fun x1 h2 g2 => ?_
   let z6 : Int := (IntKind.wrap .i64 (w1 + x1.1))
   let z5 : Int := (IntKind.wrap .i64 (w1_1 + x1.2))
   let z4 : MObj := .cells [.p (.int .i64 z6), .p (.int .i64 z5)] 0
   exact SemJ.again (σ1 := ⟨z1, [z2, z4]⟩) (SemC.post (path hm (σ' := ⟨z1, [z2, z4, .cells [.p (.int .i64 x1.1), .p (.int .i64 x1.2)] 0]⟩) (ks := [2, 3, 6, 7, 8]) (cc := [.reg [] [] 0 [(0, none, .b true)] [2, 3, 6, 7, 8, 9], .reg [] [] 1 [(0, none, .iv (.p (.agg [.int .i64 x1.1, .int .i64 x1.2]))), (2, some 2, .a)] [2, 3, 5, 6, 7, 8], .reg [] [] 0 [] [2, 3, 5, 6, 7, 8], .reg [] [] 0 [] [2, 3, 6, 7, 8], .reg [] [] 0 [] [2, 3, 6, 7, 8]])
    (ai h1 (ai (sg_map (f := e70) h2) (ai (by decide : (0:Int) ≤ 0) (ai (by decide : (0:Int) < ((2:Nat):Int)) (ai (by decide : (0:Int) ≤ 0) (ai (by decide : (0:Int) < ((2:Nat):Int)) (ai (by decide : (0:Int) ≤ 1) (ai (by decide : (1:Int) < ((2:Nat):Int)) (ai (by decide : (0:Int) ≤ 1) (ai (by decide : (1:Int) < ((2:Nat):Int)) trivial)))))))))) (by kernel_rfl)) (Weak.sel [0, 1] (selH_cons (o := z2) (o' := z2) (by kernel_rfl) (sel_x (by kernel_rfl)) (selH_cons (o := z4) (o' := z4) (by kernel_rfl) (sel_x (by kernel_rfl)) trivial)) (by kernel_rfl) (by kernel_rfl))) (L49_0_ok v6 v7 fp0 fuel z3 z6 z5 _ g2)
  ·have hr := Option.some.inj g1
   subst hr
   exact SemC.cast (SemJ.out (e := (.exit 0)) (path hm (σ' := ⟨[(2, .ptr 0 0 2), (3, .ptr 1 0 2)], [z2, .cells [.p (.int .i64 w1), .p (.int .i64 w1_1)] 0]⟩) (ks := [2, 3]) (cc := [.reg [] [] 0 [(0, none, .b false)] [2, 3, 6, 7, 8, 9]])
    (ai h1 trivial) (by kernel_rfl)) (by simp)) (by kernel_rfl) (by kernel_rfl)
def F49  (fuel : Nat) (p0 : (List (Int × Int))) : Option (Int × Int) :=
 obind (L49_0 p0 (p0.length : Int) fuel 0 0 0) fun y1 => some (y1.1, y1.2)
theorem F49_ok  (fuel : Nat) (p0 : (List (Int × Int))) (fp0 : Bool) (r : (Int × Int)) (h : F49 fuel p0 = some r) : CallP prog 49 [.sl (List.map e70 p0) fp0] (.agg [.int .i64 r.1, .int .i64 r.2]) := by
 unfold F49 at h
 refine obind_elim h fun y1 h1 g1 => ?_
 let z1 : MObj := .cells [.p (.int .i64 y1.1), .p (.int .i64 y1.2)] 0
 have hr := Option.some.inj g1
 subst hr
 exact callP_of is49 rfl (path hm (ks := [2]) (σ' := ⟨[(2, .ptr 0 0 2)], [z1, z1]⟩) (cc := [.reg [] [] 1 [(0, some 0, .a)] [0, 2], .reg [] [] 1 [(0, some 1, .a)] [0, 2, 3], .reg [] [] 0 [(1, none, .n (p0.length : Int))] [2, 3, 6, 7, 8], .leaf (.exit 0) ⟨[(2, .ptr 0 0 2), (3, .ptr 1 0 2)], [.cells [.p (.int .i64 0), .p (.int .i64 0)] 0, z1]⟩, .reg [] [] 0 [] [2]])
   (ai (len_map e70 p0) (ai (SemJ.loop (L49_0_ok p0 (p0.length : Int) fp0 fuel 0 0 0 _ h1)) trivial)) (by kernel_rfl)) (e := .ret) rfl (vs := [.agg [.p (.int .i64 y1.1), .p (.int .i64 y1.2)]]) (ai (rfl : (2:Nat) = 2) (ai (by decide : (2:Nat) ≤ 2) trivial)) (by kernel_rfl) (.agg _ _ (.cons _ _ _ _ (.p _ _ (.refl _)) (.cons _ _ _ _ (.p _ _ (.refl _)) .nil)))
def F53  (fuel : Nat) (p0 : (List (Int × Int))) (p1 : Int) (p2 : Int) : Option Int :=
 oif ((p1 == 2))
 (obind (sg p0 p2) fun x1 => some (IntKind.wrap .i64 (x1.1 + x1.2)))
 (obind (F49 fuel p0) fun r1 => obind (sg [(r1.1 : Int), (r1.2 : Int)] p1) fun x2 => oif (decide ((p1 : Int) < ((2 : Nat) : Int))) (some x2) none)
theorem F53_ok  (fuel : Nat) (p0 : (List (Int × Int))) (p1 : Int) (p2 : Int) (fp0 : Bool) (r : Int) (h : F53 fuel p0 p1 p2 = some r) : CallP prog 53 [.sl (List.map e70 p0) fp0, .int .i64 p1, .int .i64 p2] (.int .i64 r) := by
 unfold F53 at h
 refine oif_elim h (fun h1 g1 => ?_) (fun h1 g1 => ?_)
 ·refine obind_elim g1 fun x1 h2 g2 => ?_
  let z1 : Int := (IntKind.wrap .i64 (x1.1 + x1.2))
  have hr := Option.some.inj g2
  subst hr
  exact callP_of is53 rfl (path hm (ks := [6]) (σ' := ⟨[(6, .p (.int .i64 z1))], []⟩) (cc := [.reg [] [] 0 [] [0, 1, 2], .reg [] [] 0 [(1, none, .b true)] [0, 1, 2, 8], .reg [0, 0, 3, 7, 15, 0, 0, 96, 224, 480, 1023, 2047] [] 0 [(2, none, .iv (.p (.agg [.int .i64 x1.1, .int .i64 x1.2]))), (7, none, .iv (.p (.agg [.int .i64 x1.1, .int .i64 x1.2])))] [6]])
   (ai h1 (ai (sg_map (f := e70) h2) (ai (sg_map (f := e70) h2) trivial))) (by kernel_rfl)) (e := .ret) rfl (vs := [.p (.int .i64 z1)]) trivial (by kernel_rfl) (.p _ _ (.refl _))
 ·refine obind_elim g1 fun r1 h2 g2 => ?_
  refine obind_elim g2 fun x2 h3 g3 => ?_
  refine oif_elim g3 (fun h4 g4 => ?_) (fun _ h => nomatch h)
  have hr := Option.some.inj g4
  subst hr
  exact callP_of is53 rfl (path hm (ks := [6]) (σ' := ⟨[(6, .p (.int .i64 x2))], []⟩) (cc := [.reg [] [] 0 [] [0, 1, 2], .reg [] [] 0 [(1, none, .b false)] [0, 1, 2, 8], .reg [] [] 0 [(1, none, .call (.agg [.int .i64 r1.1, .int .i64 r1.2])), (3, none, .iv (.p (.int .i64 x2)))] [6]])
   (ai h1 (ai (F49_ok fuel p0 fp0 _ h2) (ai (sg_0 h3) (ai (od h4) (ai (idx_list (f := e2) el2 rfl h3) trivial))))) (by kernel_rfl)) (e := .ret) rfl (vs := [.p (.int .i64 x2)]) trivial (by kernel_rfl) (.p _ _ (.refl _))
def L56_1  (v0 : (List (Int × Int))) (v13 : Int) : Nat → Int → (List (Int × Int × Int)) → Option (List (Int × Int × Int))
 | 0, _, _ => none
 | fuel + 1, v14, w0 =>
  oif ((decide (v14 < v13)))
  (obind (F53 fuel v0 2 v14) fun r1 => oif (decide (((List.length w0) + 1) * 24 ≤ 140737488355328)) (L56_1 v0 v13 fuel (IntKind.wrap .i64 (v14 + 1)) (w0 ++ [(2, v14, r1)])) none)
  (some (w0))
noncomputable def L56_1_post (v0 : (List (Int × Int))) (v13 : Int) (fp0 : Bool) : (List (Int × Int × Int)) → Ex × St
 | y => ((.exit 0), ⟨[(3, .msl 0 0 (List.length y) (List.length (rowI e78 y)) false)], [.cells (rowI e78 y) 3]⟩)
theorem L56_1_ok  (v0 : (List (Int × Int))) (v13 : Int) (fp0 : Bool) : ∀ (fuel : Nat) (v14 : Int) (w0 : (List (Int × Int × Int))) (r : (List (Int × Int × Int))), L56_1 v0 v13 fuel v14 w0 = some r →
  SemJ prog ⟨27, 0, false⟩ (codeAt [1, 1, 0, 1, 0, 0] (bodyOf f56)) ⟨[(0, .p (.sl (List.map e70 v0) fp0)), (3, .msl 0 0 (List.length w0) (List.length (rowI e78 w0)) false), (13, .p (.int .i64 v13)), (14, .p (.int .i64 v14))], [.cells (rowI e78 w0) 3]⟩ (L56_1_post v0 v13 fp0 r).1 (L56_1_post v0 v13 fp0 r).2
 | 0, _, _, _, h => nomatch h
 | fuel + 1, v14, w0, r, h => by
  let z1 : Int := (IntKind.wrap .i64 (v14 + 1))
  unfold L56_1 at h
  refine oif_elim h (fun h1 g1 => ?_) (fun h1 g1 => ?_)
  ·refine obind_elim g1 fun r1 h2 g2 => ?_
   let z2 : List MObj := [.cells (rowI e78 (w0 ++ [(2, v14, r1)])) 3]
   refine oif_elim g2 (fun h3 g3 => ?_) (fun _ h => nomatch h)
   exact SemJ.again (σ1 := ⟨[(0, .p (.sl (List.map e70 v0) fp0)), (3, .msl 0 0 (List.length (w0 ++ [(2, v14, r1)])) (List.length (rowI e78 (w0 ++ [(2, v14, r1)]))) false), (13, .p (.int .i64 v13)), (14, .p (.int .i64 z1))], z2⟩) (path hm (σ' := ⟨[(0, .p (.sl (List.map e70 v0) fp0)), (3, .msl 0 0 (List.length (w0 ++ [(2, v14, r1)])) (List.length (rowI e78 (w0 ++ [(2, v14, r1)]))) false), (13, .p (.int .i64 v13)), (14, .p (.int .i64 z1))], z2⟩) (ks := [0, 3, 13, 14]) (cc := [.reg [] [] 0 [(0, none, .b true)] [0, 3, 13, 14, 15], .reg [] [] 0 [] [0, 3, 4, 13, 14], .reg [] [] 0 [(4, none, .call (.int .i64 r1)), (7, none, .ap (rowI e78 (w0 ++ [(2, v14, r1)])) (List.length (w0 ++ [(2, v14, r1)])) (List.length (rowI e78 (w0 ++ [(2, v14, r1)]))))] [0, 3, 13, 14], .reg [] [] 0 [] [0, 3, 13, 14]])
    (ai h1 (ai (F53_ok fuel v0 2 v14 fp0 _ h2) (ai (by decide : 0 < 1) (ai (od h3) (ai (app_c2 (by decide) (od h3)) (ai (app_len e78 [(2, v14, r1)] (rl (List.length w0))) (ai (rl (List.length (rowI e78 (w0 ++ [(2, v14, r1)])))) (ai (row_app e78 w0 [(2, v14, r1)]) (ai (rl (List.length (rowI e78 w0))) (ai (row_sz el78 (rl (List.length (rowI e78 w0))) (rl (List.length w0))) (ai (row_sc el78 [(2, v14, r1)]) (ai (row_es el78 [(2, v14, r1)]) trivial)))))))))))) (by kernel_rfl)) (L56_1_ok v0 v13 fp0 fuel z1 (w0 ++ [(2, v14, r1)]) _ g3)
  ·have hr := Option.some.inj g1
   subst hr
   exact SemC.cast (SemJ.out (e := (.exit 0)) (path hm (σ' := ⟨[(3, .msl 0 0 (List.length w0) (List.length (rowI e78 w0)) false)], [.cells (rowI e78 w0) 3]⟩) (ks := [3]) (cc := [.reg [] [] 0 [(0, none, .b false)] [0, 3, 13, 14, 15]])
    (ai h1 trivial) (by kernel_rfl)) (by simp)) (by kernel_rfl) (by kernel_rfl)
def L56_0  (v0 : (List (Int × Int))) (v3 : (List (Int × Int × Int))) (v13 : Int) : Nat → Option ((List (Int × Int × Int)) ⊕ Unit)
 | 0 => none
 | fuel + 1 =>
  oif ((decide (0 < v13)))
  (obind (F53 fuel v0 2 0) fun r1 => oif (decide (((List.length (List.map e78 v3)) + 1) * 24 ≤ 140737488355328)) (obind (L56_1 v0 v13 fuel 1 (v3 ++ [(2, 0, r1)])) fun y2 => some (.inl y2)) none)
  (some (.inr (())))
noncomputable def L56_0_post (v0 : (List (Int × Int))) (v3 : (List (Int × Int × Int))) (v13 : Int) (fp0 : Bool) : ((List (Int × Int × Int)) ⊕ Unit) → Ex × St
 | .inl y => ((.exit 0), ⟨[(3, .msl 0 0 (List.length y) (List.length (rowI e78 y)) false)], [.cells (rowI e78 y) 3]⟩)
 | .inr (y) => ((.exit 0), ⟨[(3, .p (.sl (List.map e78 v3) true))], []⟩)
theorem L56_0_ok  (v0 : (List (Int × Int))) (v3 : (List (Int × Int × Int))) (v13 : Int) (fp0 : Bool) : ∀ (fuel : Nat)  (r : ((List (Int × Int × Int)) ⊕ Unit)), L56_0 v0 v3 v13 fuel  = some r →
  SemJ prog ⟨27, 0, false⟩ (codeAt [1, 1, 0, 1, 0, 0] (bodyOf f56)) ⟨[(0, .p (.sl (List.map e70 v0) fp0)), (3, .p (.sl (List.map e78 v3) true)), (13, .p (.int .i64 v13)), (14, .p (.int .i64 0))], []⟩ (L56_0_post v0 v3 v13 fp0 r).1 (L56_0_post v0 v3 v13 fp0 r).2
 | 0, _, h => nomatch h
 | fuel + 1, r, h => by
  unfold L56_0 at h
  refine oif_elim h (fun h1 g1 => ?_) (fun h1 g1 => ?_)
  ·refine obind_elim g1 fun r1 h2 g2 => ?_
   let z1 : St := ⟨[(0, .p (.sl (List.map e70 v0) fp0)), (3, .msl 0 0 (List.length (v3 ++ [(2, 0, r1)])) (List.length (rowI e78 (v3 ++ [(2, 0, r1)]))) false), (13, .p (.int .i64 v13)), (14, .p (.int .i64 1))], [.cells (rowI e78 (v3 ++ [(2, 0, r1)])) 3]⟩
   refine oif_elim g2 (fun h3 g3 => ?_) (fun _ h => nomatch h)
   refine obind_elim g3 fun y2 h4 g4 => ?_
   have hr := Option.some.inj g4
   subst hr
   exact SemC.cast (SemJ.again (σ1 := z1) (path hm (σ' := z1) (ks := [0, 3, 13, 14]) (cc := [.reg [] [] 0 [(0, none, .b true)] [0, 3, 13, 14, 15], .reg [] [] 0 [] [0, 3, 4, 13, 14], .reg [] [] 1 [(4, none, .call (.int .i64 r1)), (7, some 0, .ap (rowI e78 (v3 ++ [(2, 0, r1)])) (List.length (v3 ++ [(2, 0, r1)])) (List.length (rowI e78 (v3 ++ [(2, 0, r1)]))))] [0, 3, 13, 14], .reg [] [] 0 [] [0, 3, 13, 14]])
    (ai h1 (ai (F53_ok fuel v0 2 0 fp0 _ h2) (ai (by decide : 0 < 1) (ai (od h3) (ai (app_c2 (by decide) (od h3)) (ai (app_len2 e78 v3 [(2, 0, r1)]) (ai (rl (List.length (rowI e78 (v3 ++ [(2, 0, r1)])))) (ai (row_app2 e78 v3 [(2, 0, r1)]) (ai (row_sc el78 [(2, 0, r1)]) (ai (row_es el78 [(2, 0, r1)]) (ai (row_es el78 v3) trivial))))))))))) (by kernel_rfl)) (L56_1_ok v0 v13 fp0 fuel 1 (v3 ++ [(2, 0, r1)]) _ h4)) (by kernel_rfl) (by kernel_rfl)
  ·have hr := Option.some.inj g1
   subst hr
   exact SemC.cast (SemJ.out (e := (.exit 0)) (path hm (σ' := ⟨[(3, .p (.sl (List.map e78 v3) true))], []⟩) (ks := [3]) (cc := [.reg [] [] 0 [(0, none, .b false)] [0, 3, 13, 14, 15]])
    (ai h1 trivial) (by kernel_rfl)) (by simp)) (by kernel_rfl) (by kernel_rfl)
def F56  (fuel : Nat) (p0 : (List (Int × Int))) : Option (List (Int × Int × Int)) :=
 obind (F53 fuel p0 0 0) fun r1 => obind (F53 fuel p0 1 0) fun r2 => (obind (L56_0 p0 [(0, 0, r1), (1, 0, r2)] (p0.length : Int) fuel ) fun y3 => match y3 with
 | .inl y3 => some y3
 | .inr (y3) => some [(0, 0, r1), (1, 0, r2)])
theorem F56_ok  (fuel : Nat) (p0 : (List (Int × Int))) (fp0 : Bool) (r : (List (Int × Int × Int))) (h : F56 fuel p0 = some r) : CallP prog 56 [.sl (List.map e70 p0) fp0] (.sl (List.map e78 r) false) := by
 unfold F56 at h
 refine obind_elim h fun r1 h1 g1 => ?_
 refine obind_elim g1 fun r2 h2 g2 => ?_
 let c8 : List CC := [.reg [] [] 0 [] [0], .reg [] [] 0 [(1, none, .call (.int .i64 r1)), (4, none, .call (.int .i64 r2))] [0, 3], .reg [] [] 0 [(1, none, .n (p0.length : Int))] [0, 3, 13, 14]]
 refine obind_elim g2 fun y h3 g3 => ?_
 match y, h3, g3 with
 | .inl y3, h3, g3 =>
  have hr := Option.some.inj g3
  subst hr
  exact callP_of is56 rfl (path hm (ks := [2]) (σ' := ⟨[(2, .msl 0 0 (List.length y3) (List.length (rowI e78 y3)) false)], [.cells (rowI e78 y3) 3]⟩) (cc := c8 ++ [.leaf (.exit 0) ⟨[(3, .msl 0 0 (List.length y3) (List.length (rowI e78 y3)) false)], [.cells (rowI e78 y3) 3]⟩, .reg [] [] 0 [] [2]])
   (ai (F53_ok fuel p0 0 0 fp0 _ h1) (ai (F53_ok fuel p0 1 0 fp0 _ h2) (ai (len_map e70 p0) (ai (SemJ.loop (L56_0_ok p0 [(0, 0, r1), (1, 0, r2)] (p0.length : Int) fp0 fuel  _ h3)) trivial)))) (by kernel_rfl)) (e := .ret) rfl (vs := [.msl 0 0 (List.length y3) (List.length (rowI e78 y3)) false]) trivial (by kernel_rfl) (snap_row (g := 3) (L := y3) el78 (by kernel_rfl) (rl (List.length (rowI e78 y3))) (rl (List.length y3)))
 | .inr (y3), h3, g3 =>
  have hr := Option.some.inj g3
  subst hr
  exact callP_of is56 rfl (path hm (ks := [2]) (σ' := ⟨[(2, .p (.sl (List.map e78 [(0, 0, r1), (1, 0, r2)]) true))], []⟩) (cc := c8 ++ [.leaf (.exit 0) ⟨[(3, .p (.sl (List.map e78 [(0, 0, r1), (1, 0, r2)]) true))], []⟩, .reg [] [] 0 [] [2]])
   (ai (F53_ok fuel p0 0 0 fp0 _ h1) (ai (F53_ok fuel p0 1 0 fp0 _ h2) (ai (len_map e70 p0) (ai (SemJ.loop (L56_0_ok p0 [(0, 0, r1), (1, 0, r2)] (p0.length : Int) fp0 fuel  _ h3)) trivial)))) (by kernel_rfl)) (e := .ret) rfl (vs := [.p (.sl (List.map e78 [(0, 0, r1), (1, 0, r2)]) true)]) trivial (by kernel_rfl) (.p _ _ (.flag _ _ _ (fun h => nomatch h)))
def F58  (fuel : Nat) (p0 : (Int × Int × Int)) (p1 : (Int × Int × Int)) : Option Bool :=
 oif ((decide (p0.2.2 > p1.2.2)))
 (some true)
 (some false)
theorem F58_ok  (fuel : Nat) (p0 : (Int × Int × Int)) (p1 : (Int × Int × Int))  (r : Bool) (h : F58 fuel p0 p1 = some r) : CallP prog 58 [.agg [.int .i64 p0.1, .int .i64 p0.2.1, .int .i64 p0.2.2], .agg [.int .i64 p1.1, .int .i64 p1.2.1, .int .i64 p1.2.2]] (.bool r) := by
 unfold F58 at h
 refine oif_elim h (fun h1 g1 => ?_) (fun h1 g1 => ?_)
 ·have hr := Option.some.inj g1
  subst hr
  exact callP_of is58 rfl (path hm (ks := [4]) (σ' := ⟨[(4, .p (.bool true))], []⟩) (cc := [.reg [] [] 0 [(0, none, .imm), (1, none, .imm)] [2, 3], .reg [] [] 0 [(4, none, .b true)] [4]])
   (ai h1 trivial) (by kernel_rfl)) (e := .ret) rfl (vs := [.p (.bool true)]) trivial (by kernel_rfl) (.p _ _ (.refl _))
 ·have hr := Option.some.inj g1
  subst hr
  exact callP_of is58 rfl (path hm (ks := [4]) (σ' := ⟨[(4, .p (.bool false))], []⟩) (cc := [.reg [] [] 0 [(0, none, .imm), (1, none, .imm)] [2, 3], .reg [] [] 0 [(4, none, .b false)] [4]])
   (ai h1 trivial) (by kernel_rfl)) (e := .ret) rfl (vs := [.p (.bool false)]) trivial (by kernel_rfl) (.p _ _ (.refl _))
def L57_0  (v12 : (List (Int × Int × Int))) (v13 : Int) : Nat → Int → Int → Int → Int → Option (Int × Int × Int)
 | 0, _, _, _, _ => none
 | fuel + 1, v14, w1, w1_1, w1_2 =>
  oif ((decide (v14 < v13)))
  (obind (sg v12 v14) fun x1 => obind (F58 fuel (x1.1, x1.2.1, x1.2.2) (w1, w1_1, w1_2)) fun r2 => oif (r2)
   (L57_0 v12 v13 fuel (IntKind.wrap .i64 (v14 + 1)) x1.1 x1.2.1 x1.2.2)
   (L57_0 v12 v13 fuel (IntKind.wrap .i64 (v14 + 1)) w1 w1_1 w1_2))
  (some ((w1, w1_1, w1_2)))
noncomputable def L57_0_post (v12 : (List (Int × Int × Int))) (v13 : Int) (fp0 : Bool) : (Int × Int × Int) → Ex × St
 | y => ((.exit 0), ⟨[(4, .ptr 0 0 3), (5, .ptr 1 0 3)], [.cells [.p (.int .i64 0), .p (.int .i64 0), .p (.int .i64 0)] 0, .cells [.p (.int .i64 y.1), .p (.int .i64 y.2.1), .p (.int .i64 y.2.2)] 0]⟩)
theorem L57_0_ok  (v12 : (List (Int × Int × Int))) (v13 : Int) (fp0 : Bool) : ∀ (fuel : Nat) (v14 : Int) (w1 : Int) (w1_1 : Int) (w1_2 : Int) (r : (Int × Int × Int)), L57_0 v12 v13 fuel v14 w1 w1_1 w1_2 = some r →
  SemJ prog ⟨25, 0, false⟩ (codeAt [1, 1, 0, 1, 0, 0] (bodyOf f57)) ⟨[(1, .p (.fn 58 [] [])), (4, .ptr 0 0 3), (5, .ptr 1 0 3), (12, .p (.sl (List.map e78 v12) fp0)), (13, .p (.int .i64 v13)), (14, .p (.int .i64 v14))], [.cells [.p (.int .i64 0), .p (.int .i64 0), .p (.int .i64 0)] 0, .cells [.p (.int .i64 w1), .p (.int .i64 w1_1), .p (.int .i64 w1_2)] 0]⟩ (L57_0_post v12 v13 fp0 r).1 (L57_0_post v12 v13 fp0 r).2
 | 0, _, _, _, _, _, h => nomatch h
 | fuel + 1, v14, w1, w1_1, w1_2, r, h => by
  let z5 : Int := (IntKind.wrap .i64 (v14 + 1))
  let z4 : MObj := .cells [.p (.int .i64 0), .p (.int .i64 0), .p (.int .i64 0)] 0
  let z3 : MObj := .cells [.p (.int .i64 w1), .p (.int .i64 w1_1), .p (.int .i64 w1_2)] 0
  let z2 : List MObj := [z4, z3]
  let z1 : Env := [(1, .p (.fn 58 [] [])), (4, .ptr 0 0 3), (5, .ptr 1 0 3), (12, .p (.sl (List.map e78 v12) fp0)), (13, .p (.int .i64 v13)), (14, .p (.int .i64 z5))]
  unfold L57_0 at h
  refine oif_elim h (fun h1 g1 => ?_) (fun h1 g1 => ?_)
  ·refine obind_elim g1 fun x1 h2 g2 => ?_
   let z6 : MObj := .cells [.p (.int .i64 x1.1), .p (.int .i64 x1.2.1), .p (.int .i64 x1.2.2)] 0
   refine obind_elim g2 fun r2 h3 g3 => ?_
   let c9 : List CC := [.reg [] [] 0 [(0, none, .b true)] [1, 4, 5, 12, 13, 14, 15], .reg [] [] 1 [(0, none, .iv (.p (.agg [.int .i64 x1.1, .int .i64 x1.2.1, .int .i64 x1.2.2]))), (2, some 2, .a)] [1, 4, 5, 7, 12, 13, 14]]
   refine oif_elim g3 (fun h4 g4 => ?_) (fun h4 g4 => ?_)
   ·subst h4
    exact SemJ.again (σ1 := ⟨z1, [z4, z6]⟩) (SemC.post (path hm (σ' := ⟨z1, [z4, z6, z6]⟩) (ks := [1, 4, 5, 12, 13, 14]) (cc := c9 ++ [.reg [] [] 0 [(3, none, .call (.bool true))] [1, 4, 5, 7, 12, 13, 14, 21], .reg [] [] 0 [] [1, 4, 5, 12, 13, 14], .reg [] [] 0 [] [1, 4, 5, 12, 13, 14]])
    (ai h1 (ai (sg_map (f := e78) h2) (ai (F58_ok fuel (x1.1, x1.2.1, x1.2.2) (w1, w1_1, w1_2) _ h3) trivial))) (by kernel_rfl)) (Weak.sel [0, 1] (selH_cons (o := z4) (o' := z4) (by kernel_rfl) (sel_x (by kernel_rfl)) (selH_cons (o := z6) (o' := z6) (by kernel_rfl) (sel_x (by kernel_rfl)) trivial)) (by kernel_rfl) (by kernel_rfl))) (L57_0_ok v12 v13 fp0 fuel z5 x1.1 x1.2.1 x1.2.2 _ g4)
   ·subst h4
    exact SemJ.again (σ1 := ⟨z1, z2⟩) (SemC.post (path hm (σ' := ⟨z1, [z4, z3, z6]⟩) (ks := [1, 4, 5, 12, 13, 14]) (cc := c9 ++ [.reg [] [] 0 [(3, none, .call (.bool false))] [1, 4, 5, 7, 12, 13, 14, 21], .reg [] [] 0 [] [1, 4, 5, 12, 13, 14]])
    (ai h1 (ai (sg_map (f := e78) h2) (ai (F58_ok fuel (x1.1, x1.2.1, x1.2.2) (w1, w1_1, w1_2) _ h3) trivial))) (by kernel_rfl)) (Weak.sel [0, 1] (selH_cons (o := z4) (o' := z4) (by kernel_rfl) (sel_x (by kernel_rfl)) (selH_cons (o := z3) (o' := z3) (by kernel_rfl) (sel_x (by kernel_rfl)) trivial)) (by kernel_rfl) (by kernel_rfl))) (L57_0_ok v12 v13 fp0 fuel z5 w1 w1_1 w1_2 _ g4)
  ·have hr := Option.some.inj g1
   subst hr
   exact SemC.cast (SemJ.out (e := (.exit 0)) (path hm (σ' := ⟨[(4, .ptr 0 0 3), (5, .ptr 1 0 3)], z2⟩) (ks := [4, 5]) (cc := [.reg [] [] 0 [(0, none, .b false)] [1, 4, 5, 12, 13, 14, 15]])
    (ai h1 trivial) (by kernel_rfl)) (by simp)) (by kernel_rfl) (by kernel_rfl)
def F57  (fuel : Nat) (p0 : (List (Int × Int × Int))) : Option (Int × Int × Int) :=
 obind (sg p0 0) fun x1 => obind (subL p0 (some 1) none) fun x2 => obind (L57_0 x2 (x2.length : Int) fuel 0 x1.1 x1.2.1 x1.2.2) fun y3 => some (y3.1, y3.2.1, y3.2.2)
theorem F57_ok  (fuel : Nat) (p0 : (List (Int × Int × Int))) (fp0 : Bool) (r : (Int × Int × Int)) (h : F57 fuel p0 = some r) : CallP prog 57 [.sl (List.map e78 p0) fp0, .fn 58 [] []] (.agg [.int .i64 r.1, .int .i64 r.2.1, .int .i64 r.2.2]) := by
 unfold F57 at h
 refine obind_elim h fun x1 h1 g1 => ?_
 refine obind_elim g1 fun x2 h2 g2 => ?_
 refine obind_elim g2 fun y3 h3 g3 => ?_
 let z1 : MObj := .cells [.p (.int .i64 y3.1), .p (.int .i64 y3.2.1), .p (.int .i64 y3.2.2)] 0
 have hr := Option.some.inj g3
 subst hr
 exact callP_of is57 rfl (path hm (ks := [4]) (σ' := ⟨[(4, .ptr 0 0 3)], [z1, z1]⟩) (cc := [.reg [] [] 1 [(0, some 0, .a)] [0, 1, 4], .reg [] [] 1 [(1, none, .iv (.p (.agg [.int .i64 x1.1, .int .i64 x1.2.1, .int .i64 x1.2.2]))), (3, some 1, .a)] [0, 1, 4, 5], .reg [] [] 0 [(1, none, .pvs (List.map e78 x2)), (2, none, .n (x2.length : Int))] [1, 4, 5, 12, 13, 14], .leaf (.exit 0) ⟨[(4, .ptr 0 0 3), (5, .ptr 1 0 3)], [.cells [.p (.int .i64 0), .p (.int .i64 0), .p (.int .i64 0)] 0, z1]⟩, .reg [] [] 0 [] [4]])
   (ai (sg_map (f := e78) h1) (ai (sub_eq e78 h2) (ai (row_es el78 p0) (ai (sub_lo0 h2) (ai (sub_lo1 e78 h2) (ai (len_map e78 x2) (ai (SemJ.loop (L57_0_ok x2 (x2.length : Int) fp0 fuel 0 x1.1 x1.2.1 x1.2.2 _ h3)) trivial))))))) (by kernel_rfl)) (e := .ret) rfl (vs := [.agg [.p (.int .i64 y3.1), .p (.int .i64 y3.2.1), .p (.int .i64 y3.2.2)]]) (ai (rfl : (3:Nat) = 3) (ai (by decide : (3:Nat) ≤ 3) trivial)) (by kernel_rfl) (.agg _ _ (.cons _ _ _ _ (.p _ _ (.refl _)) (.cons _ _ _ _ (.p _ _ (.refl _)) (.cons _ _ _ _ (.p _ _ (.refl _)) .nil))))
def F21  (fuel : Nat) (p0 : (List (Int × Int))) : Option (Int × Int × Int) :=
 obind (F13 fuel p0) fun r1 => oif ((r1 != 0))
 (some (0, 0, r1))
 (obind (F56 fuel p0) fun r2 => obind (F57 fuel r2) fun r3 => some (r3.1, r3.2.1, 0))
theorem F21_ok  (fuel : Nat) (p0 : (List (Int × Int))) (fp0 : Bool) (r : (Int × Int × Int)) (h : F21 fuel p0 = some r) : CallP prog 21 [.sl (List.map e70 p0) fp0] (.tup [.int .i64 r.1, .int .i64 r.2.1, .int .i64 r.2.2]) := by
 unfold F21 at h
 refine obind_elim h fun r1 h1 g1 => ?_
 refine oif_elim g1 (fun h2 g2 => ?_) (fun h2 g2 => ?_)
 ·have hr := Option.some.inj g2
  subst hr
  exact callP_of is21 rfl (path hm (ks := [2, 3, 4]) (σ' := ⟨[(2, .p (.int .i64 0)), (3, .p (.int .i64 0)), (4, .p (.int .i64 r1))], []⟩) (cc := [.reg [] [] 0 [] [0], .reg [] [] 0 [(1, none, .call (.int .i64 r1))] [0, 5], .reg [] [] 0 [(1, none, .b true)] [0, 5, 11], .reg [] [] 0 [] [2, 3, 4]])
   (ai (F13_ok fuel p0 fp0 _ h1) (ai h2 trivial)) (by kernel_rfl)) (e := .ret) rfl (vs := [.p (.int .i64 0), .p (.int .i64 0), .p (.int .i64 r1)]) trivial (by kernel_rfl) (.tup _ _ (.cons _ _ _ _ (.p _ _ (.refl _)) (.cons _ _ _ _ (.p _ _ (.refl _)) (.cons _ _ _ _ (.p _ _ (.refl _)) .nil))))
 ·refine obind_elim g2 fun r2 h3 g3 => ?_
  refine obind_elim g3 fun r3 h4 g4 => ?_
  have hr := Option.some.inj g4
  subst hr
  exact callP_of is21 rfl (path hm (ks := [2, 3, 4]) (σ' := ⟨[(2, .p (.int .i64 r3.1)), (3, .p (.int .i64 r3.2.1)), (4, .p (.int .i64 0))], [.cells [.p (.int .i64 r3.1), .p (.int .i64 r3.2.1), .p (.int .i64 r3.2.2)] 0]⟩) (cc := [.reg [] [] 0 [] [0], .reg [] [] 0 [(1, none, .call (.int .i64 r1))] [0, 5], .reg [] [] 0 [(1, none, .b false)] [0, 5, 11], .reg [] [] 0 [(1, none, .call (.sl (List.map e78 r2) false))] [6], .reg [] [] 1 [(1, none, .call (.agg [.int .i64 r3.1, .int .i64 r3.2.1, .int .i64 r3.2.2])), (2, some 0, .a)] [7], .reg [0, 1, 0, 4, 3, 31, 63] [] 0 [] [2, 3, 4]])
   (ai (F13_ok fuel p0 fp0 _ h1) (ai h2 (ai (F56_ok fuel p0 fp0 _ h3) (ai (F57_ok fuel r2 false _ h4) trivial)))) (by kernel_rfl)) (e := .ret) rfl (vs := [.p (.int .i64 r3.1), .p (.int .i64 r3.2.1), .p (.int .i64 0)]) trivial (by kernel_rfl) (.tup _ _ (.cons _ _ _ _ (.p _ _ (.refl _)) (.cons _ _ _ _ (.p _ _ (.refl _)) (.cons _ _ _ _ (.p _ _ (.refl _)) .nil))))
def F19  (fuel : Nat) (p0 : (List (Int × Int))) : Option (Int × Int) :=
 obind (F21 fuel p0) fun r1 => oif ((r1.2.2 != 0))
 (some (0, r1.2.2))
 (obind (F53 fuel p0 r1.1 r1.2.1) fun r2 => some (r2, 0))
theorem F19_ok  (fuel : Nat) (p0 : (List (Int × Int))) (fp0 : Bool) (r : (Int × Int)) (h : F19 fuel p0 = some r) : CallP prog 19 [.sl (List.map e70 p0) fp0] (.tup [.int .i64 r.1, .int .i64 r.2]) := by
 unfold F19 at h
 refine obind_elim h fun r1 h1 g1 => ?_
 let c10 : List CC := [.reg [] [] 0 [] [0], .reg [] [] 0 [(1, none, .call (.tup [.int .i64 r1.1, .int .i64 r1.2.1, .int .i64 r1.2.2]))] [0, 4, 5, 6]]
 refine oif_elim g1 (fun h2 g2 => ?_) (fun h2 g2 => ?_)
 ·have hr := Option.some.inj g2
  subst hr
  exact callP_of is19 rfl (path hm (ks := [2, 3]) (σ' := ⟨[(2, .p (.int .i64 0)), (3, .p (.int .i64 r1.2.2))], []⟩) (cc := c10 ++ [.reg [] [] 0 [(1, none, .b true)] [0, 4, 5, 6, 14], .reg [] [] 0 [] [2, 3]])
   (ai (F21_ok fuel p0 fp0 _ h1) (ai h2 trivial)) (by kernel_rfl)) (e := .ret) rfl (vs := [.p (.int .i64 0), .p (.int .i64 r1.2.2)]) trivial (by kernel_rfl) (.tup _ _ (.cons _ _ _ _ (.p _ _ (.refl _)) (.cons _ _ _ _ (.p _ _ (.refl _)) .nil)))
 ·refine obind_elim g2 fun r2 h3 g3 => ?_
  have hr := Option.some.inj g3
  subst hr
  exact callP_of is19 rfl (path hm (ks := [2, 3]) (σ' := ⟨[(2, .p (.int .i64 r2)), (3, .p (.int .i64 0))], []⟩) (cc := c10 ++ [.reg [] [] 0 [(1, none, .b false)] [0, 4, 5, 6, 14], .reg [] [] 0 [(3, none, .call (.int .i64 r2))] [2, 3]])
   (ai (F21_ok fuel p0 fp0 _ h1) (ai h2 (ai (F53_ok fuel p0 r1.1 r1.2.1 fp0 _ h3) trivial))) (by kernel_rfl)) (e := .ret) rfl (vs := [.p (.int .i64 r2), .p (.int .i64 0)]) trivial (by kernel_rfl) (.tup _ _ (.cons _ _ _ _ (.p _ _ (.refl _)) (.cons _ _ _ _ (.p _ _ (.refl _)) .nil)))
def F17  (fuel : Nat) (p0 : (List (Int × Int))) (p1 : Int) (p2 : Int) : Option (Int × Int) :=
 obind (F13 fuel p0) fun r1 => oif ((r1 != 0))
 (some (0, r1))
 (obind (F42 fuel 0 2 [p1]) fun r2 => oif (r2)
  (obind (F42 fuel 0 (IntKind.wrap .i64 ((p0.length : Int) - 1)) [p2]) fun r3 => oif (r3)
   (obind (F53 fuel p0 p1 p2) fun r4 => some (r4, 0))
   (some (0, 2)))
  (some (0, 2)))
theorem F17_ok  (fuel : Nat) (p0 : (List (Int × Int))) (p1 : Int) (p2 : Int) (fp0 : Bool) (r : (Int × Int)) (h : F17 fuel p0 p1 p2 = some r) : CallP prog 17 [.sl (List.map e70 p0) fp0, .int .i64 p1, .int .i64 p2] (.tup [.int .i64 r.1, .int .i64 r.2]) := by
 let z2 : Int := (IntKind.wrap .i64 ((p0.length : Int) - 1))
 let z1 : St := ⟨[(6, .p (.int .i64 0)), (7, .p (.int .i64 2))], []⟩
 unfold F17 at h
 refine obind_elim h fun r1 h1 g1 => ?_
 let c11 : List CC := [.reg [] [] 0 [] [0, 1, 2], .reg [] [] 0 [(1, none, .call (.int .i64 r1))] [0, 1, 2, 8]]
 refine oif_elim g1 (fun h2 g2 => ?_) (fun h2 g2 => ?_)
 ·have hr := Option.some.inj g2
  subst hr
  exact callP_of is17 rfl (path hm (ks := [6, 7]) (σ' := ⟨[(6, .p (.int .i64 0)), (7, .p (.int .i64 r1))], []⟩) (cc := c11 ++ [.reg [] [] 0 [(1, none, .b true)] [0, 1, 2, 8, 11], .reg [] [] 0 [] [6, 7]])
   (ai (F13_ok fuel p0 fp0 _ h1) (ai h2 trivial)) (by kernel_rfl)) (e := .ret) rfl (vs := [.p (.int .i64 0), .p (.int .i64 r1)]) trivial (by kernel_rfl) (.tup _ _ (.cons _ _ _ _ (.p _ _ (.refl _)) (.cons _ _ _ _ (.p _ _ (.refl _)) .nil)))
 ·refine obind_elim g2 fun r2 h3 g3 => ?_
  let c12 : List CC := c11 ++ [.reg [] [] 0 [(1, none, .b false)] [0, 1, 2, 8, 11]]
  have q13 := fun {P : Prop} (t : P) => ai (F13_ok fuel p0 fp0 _ h1) (ai h2 (ai (F42_ok fuel 0 2 [p1] true _ h3) t))
  refine oif_elim g3 (fun h4 g4 => ?_) (fun h4 g4 => ?_)
  ·subst h4
   refine obind_elim g4 fun r3 h5 g5 => ?_
   refine oif_elim g5 (fun h6 g6 => ?_) (fun h6 g6 => ?_)
   ·subst h6
    refine obind_elim g6 fun r4 h7 g7 => ?_
    have hr := Option.some.inj g7
    subst hr
    exact callP_of is17 rfl (path hm (ks := [6, 7]) (σ' := ⟨[(6, .p (.int .i64 r4)), (7, .p (.int .i64 0))], []⟩) (cc := c12 ++ [.reg [] [] 0 [(2, none, .call (.bool true)), (6, none, .n (p0.length : Int)), (10, none, .call (.bool true))] [0, 1, 2, 15], .reg [] [] 0 [(3, none, .call (.int .i64 r4))] [6, 7]])
   (q13 (ai (len_map e70 p0) (ai (F42_ok fuel 0 z2 [p2] true _ h5) (ai (F53_ok fuel p0 p1 p2 fp0 _ h7) trivial)))) (by kernel_rfl)) (e := .ret) rfl (vs := [.p (.int .i64 r4), .p (.int .i64 0)]) trivial (by kernel_rfl) (.tup _ _ (.cons _ _ _ _ (.p _ _ (.refl _)) (.cons _ _ _ _ (.p _ _ (.refl _)) .nil)))
   ·subst h6
    have hr := Option.some.inj g6
    subst hr
    exact callP_of is17 rfl (path hm (ks := [6, 7]) (σ' := z1) (cc := c12 ++ [.reg [] [] 0 [(2, none, .call (.bool true)), (6, none, .n (p0.length : Int)), (10, none, .call (.bool false))] [0, 1, 2, 15], .reg [] [] 0 [] [6, 7]])
   (q13 (ai (len_map e70 p0) (ai (F42_ok fuel 0 z2 [p2] true _ h5) trivial))) (by kernel_rfl)) (e := .ret) rfl (vs := [.p (.int .i64 0), .p (.int .i64 2)]) trivial (by kernel_rfl) (.tup _ _ (.cons _ _ _ _ (.p _ _ (.refl _)) (.cons _ _ _ _ (.p _ _ (.refl _)) .nil)))
  ·subst h4
   have hr := Option.some.inj g4
   subst hr
   exact callP_of is17 rfl (path hm (ks := [6, 7]) (σ' := z1) (cc := c12 ++ [.reg [] [] 0 [(2, none, .call (.bool false))] [0, 1, 2, 15], .reg [] [] 0 [] [6, 7]])
   (q13 trivial) (by kernel_rfl)) (e := .ret) rfl (vs := [.p (.int .i64 0), .p (.int .i64 2)]) trivial (by kernel_rfl) (.tup _ _ (.cons _ _ _ _ (.p _ _ (.refl _)) (.cons _ _ _ _ (.p _ _ (.refl _)) .nil)))
def F41  (fuel : Nat) (p0 : (Int × Int)) : Option Bool :=
 obind (F42 fuel 0 100000 [p0.1, p0.2]) fun r1 => oif (r1)
 (some false)
 (some true)
theorem F41_ok  (fuel : Nat) (p0 : (Int × Int))  (r : Bool) (h : F41 fuel p0 = some r) : CallP prog 41 [.agg [.int .i64 p0.1, .int .i64 p0.2]] (.bool r) := by
 unfold F41 at h
 refine obind_elim h fun r1 h1 g1 => ?_
 refine oif_elim g1 (fun h2 g2 => ?_) (fun h2 g2 => ?_)
 ·subst h2
  have hr := Option.some.inj g2
  subst hr
  exact callP_of is41 rfl (path hm (ks := [2]) (σ' := ⟨[(2, .p (.bool false))], []⟩) (cc := [.reg [] [] 0 [(0, none, .imm)] [1], .reg [] [] 0 [(5, none, .call (.bool true))] [2]])
   (ai (F42_ok fuel 0 100000 [p0.1, p0.2] true _ h1) trivial) (by kernel_rfl)) (e := .ret) rfl (vs := [.p (.bool false)]) trivial (by kernel_rfl) (.p _ _ (.refl _))
 ·subst h2
  have hr := Option.some.inj g2
  subst hr
  exact callP_of is41 rfl (path hm (ks := [2]) (σ' := ⟨[(2, .p (.bool true))], []⟩) (cc := [.reg [] [] 0 [(0, none, .imm)] [1], .reg [] [] 0 [(5, none, .call (.bool false))] [2]])
   (ai (F42_ok fuel 0 100000 [p0.1, p0.2] true _ h1) trivial) (by kernel_rfl)) (e := .ret) rfl (vs := [.p (.bool true)]) trivial (by kernel_rfl) (.p _ _ (.refl _))
def L72_0  (v0 : (List (Int × Int))) (v7 : Int) : Nat → Int → Option (Int ⊕ Unit)
 | 0, _ => none
 | fuel + 1, v8 =>
  oif ((decide (v8 < v7)))
  (obind (sg v0 v8) fun x1 => obind (F41 fuel (x1.1, x1.2)) fun r2 => oif (r2)
   (some (.inl v8))
   (L72_0 v0 v7 fuel (IntKind.wrap .i64 (v8 + 1))))
  (some (.inr (())))
noncomputable def L72_0_post (v0 : (List (Int × Int))) (v7 : Int) (fp0 : Bool) : (Int ⊕ Unit) → Ex × St
 | .inl y => (.ret, ⟨[(4, .p (.int .i64 y))], []⟩)
 | .inr (y) => ((.exit 0), ⟨[], []⟩)
theorem L72_0_ok  (v0 : (List (Int × Int))) (v7 : Int) (fp0 : Bool) : ∀ (fuel : Nat) (v8 : Int) (r : (Int ⊕ Unit)), L72_0 v0 v7 fuel v8 = some r →
  SemJ prog ⟨19, 0, false⟩ (codeAt [1, 0, 1, 0, 0] (bodyOf f72)) ⟨[(0, .p (.sl (List.map e60 v0) fp0)), (1, .p (.fn 41 [] [])), (7, .p (.int .i64 v7)), (8, .p (.int .i64 v8))], []⟩ (L72_0_post v0 v7 fp0 r).1 (L72_0_post v0 v7 fp0 r).2
 | 0, _, _, h => nomatch h
 | fuel + 1, v8, r, h => by
  let z2 : Int := (IntKind.wrap .i64 (v8 + 1))
  let z1 : St := ⟨[(0, .p (.sl (List.map e60 v0) fp0)), (1, .p (.fn 41 [] [])), (7, .p (.int .i64 v7)), (8, .p (.int .i64 z2))], []⟩
  unfold L72_0 at h
  refine oif_elim h (fun h1 g1 => ?_) (fun h1 g1 => ?_)
  ·refine obind_elim g1 fun x1 h2 g2 => ?_
   refine obind_elim g2 fun r2 h3 g3 => ?_
   let c14 : List CC := [.reg [] [] 0 [(0, none, .b true)] [0, 1, 7, 8, 9], .reg [] [] 0 [] [0, 1, 5, 7, 8]]
   refine oif_elim g3 (fun h4 g4 => ?_) (fun h4 g4 => ?_)
   ·subst h4
    have hr := Option.some.inj g4
    subst hr
    exact SemC.cast (SemJ.out (e := .ret) (path hm (σ' := ⟨[(4, .p (.int .i64 v8))], []⟩) (ks := [4]) (cc := c14 ++ [.reg [] [] 0 [(3, none, .iv (.p (.agg [.int .i64 x1.1, .int .i64 x1.2]))), (5, none, .call (.bool true))] [0, 1, 5, 7, 8, 16], .reg [] [] 0 [] [4]])
    (ai h1 (ai (sg_map (f := e60) h2) (ai (F41_ok fuel (x1.1, x1.2) _ h3) trivial))) (by kernel_rfl)) (by simp)) (by kernel_rfl) (by kernel_rfl)
   ·subst h4
    exact SemJ.again (σ1 := z1) (path hm (σ' := z1) (ks := [0, 1, 7, 8]) (cc := c14 ++ [.reg [] [] 0 [(3, none, .iv (.p (.agg [.int .i64 x1.1, .int .i64 x1.2]))), (5, none, .call (.bool false))] [0, 1, 5, 7, 8, 16], .reg [] [] 0 [] [0, 1, 7, 8]])
    (ai h1 (ai (sg_map (f := e60) h2) (ai (F41_ok fuel (x1.1, x1.2) _ h3) trivial))) (by kernel_rfl)) (L72_0_ok v0 v7 fp0 fuel z2 _ g4)
  ·have hr := Option.some.inj g1
   subst hr
   exact SemC.cast (SemJ.out (e := (.exit 0)) (path hm (σ' := ⟨[], []⟩) (ks := []) (cc := [.reg [] [] 0 [(0, none, .b false)] [0, 1, 7, 8, 9]])
    (ai h1 trivial) (by kernel_rfl)) (by simp)) (by kernel_rfl) (by kernel_rfl)
def F72  (fuel : Nat) (p0 : (List (Int × Int))) : Option Int :=
 (obind (L72_0 p0 (p0.length : Int) fuel 0) fun y1 => match y1 with
 | .inl y1 => some y1
 | .inr (y1) => some (-1))
theorem F72_ok  (fuel : Nat) (p0 : (List (Int × Int))) (fp0 : Bool) (r : Int) (h : F72 fuel p0 = some r) : CallP prog 72 [.sl (List.map e60 p0) fp0, .fn 41 [] []] (.int .i64 r) := by
 unfold F72 at h
 let c15 : List CC := [.reg [] [] 0 [] [0, 1], .reg [] [] 0 [(1, none, .n (p0.length : Int))] [0, 1, 7, 8]]
 refine obind_elim h fun y h1 g1 => ?_
 match y, h1, g1 with
 | .inl y1, h1, g1 =>
  let z1 : St := ⟨[(4, .p (.int .i64 y1))], []⟩
  have hr := Option.some.inj g1
  subst hr
  exact callP_of is72 rfl (path hm (ks := [4]) (σ' := z1) (cc := c15 ++ [.leaf .ret z1])
   (ai (len_map e60 p0) (ai (SemJ.loop (L72_0_ok p0 (p0.length : Int) fp0 fuel 0 _ h1)) trivial)) (by kernel_rfl)) (e := .ret) rfl (vs := [.p (.int .i64 y1)]) trivial (by kernel_rfl) (.p _ _ (.refl _))
 | .inr (y1), h1, g1 =>
  have hr := Option.some.inj g1
  subst hr
  exact callP_of is72 rfl (path hm (ks := [4]) (σ' := ⟨[(4, .p (.int .i64 (-1)))], []⟩) (cc := c15 ++ [.leaf (.exit 0) ⟨[], []⟩, .reg [] [] 0 [] [4]])
   (ai (len_map e60 p0) (ai (SemJ.loop (L72_0_ok p0 (p0.length : Int) fp0 fuel 0 _ h1)) trivial)) (by kernel_rfl)) (e := .ret) rfl (vs := [.p (.int .i64 (-1))]) trivial (by kernel_rfl) (.p _ _ (.refl _))
def F43  (fuel : Nat) (p0 : (List (Int × Int))) : Option Bool :=
 obind (F72 fuel p0) fun r1 => oif ((decide (r1 ≥ 0)))
 (some true)
 (some false)
theorem F43_ok  (fuel : Nat) (p0 : (List (Int × Int))) (fp0 : Bool) (r : Bool) (h : F43 fuel p0 = some r) : CallP prog 43 [.sl (List.map e60 p0) fp0, .fn 41 [] []] (.bool r) := by
 unfold F43 at h
 refine obind_elim h fun r1 h1 g1 => ?_
 refine oif_elim g1 (fun h2 g2 => ?_) (fun h2 g2 => ?_)
 ·have hr := Option.some.inj g2
  subst hr
  exact callP_of is43 rfl (path hm (ks := [4]) (σ' := ⟨[(4, .p (.bool true))], []⟩) (cc := [.reg [] [] 0 [] [0, 1], .reg [] [] 0 [(2, none, .call (.int .i64 r1)), (3, none, .b true)] [4]])
   (ai (F72_ok fuel p0 fp0 _ h1) (ai h2 trivial)) (by kernel_rfl)) (e := .ret) rfl (vs := [.p (.bool true)]) trivial (by kernel_rfl) (.p _ _ (.refl _))
 ·have hr := Option.some.inj g2
  subst hr
  exact callP_of is43 rfl (path hm (ks := [4]) (σ' := ⟨[(4, .p (.bool false))], []⟩) (cc := [.reg [] [] 0 [] [0, 1], .reg [] [] 0 [(2, none, .call (.int .i64 r1)), (3, none, .b false)] [4]])
   (ai (F72_ok fuel p0 fp0 _ h1) (ai h2 trivial)) (by kernel_rfl)) (e := .ret) rfl (vs := [.p (.bool false)]) trivial (by kernel_rfl) (.p _ _ (.refl _))
def F44  (fuel : Nat) (p0 : (List (Int × Int))) (p1 : Int) : Option Int :=
 obind (sg p0 (IntKind.wrap .i64 (Int.tdiv p1 2))) fun x1 => obind (sg [(x1.1 : Int), (x1.2 : Int)] (Int.tmod p1 2)) fun x2 => oif (decide (((Int.tmod p1 2) : Int) < ((2 : Nat) : Int))) (some x2) none
theorem F44_ok  (fuel : Nat) (p0 : (List (Int × Int))) (p1 : Int) (fp0 : Bool) (r : Int) (h : F44 fuel p0 p1 = some r) : CallP prog 44 [.sl (List.map e60 p0) fp0, .int .i64 p1] (.int .i64 r) := by
 unfold F44 at h
 refine obind_elim h fun x1 h1 g1 => ?_
 refine obind_elim g1 fun x2 h2 g2 => ?_
 refine oif_elim g2 (fun h3 g3 => ?_) (fun _ h => nomatch h)
 have hr := Option.some.inj g3
 subst hr
 exact callP_of is44 rfl (path hm (ks := [4]) (σ' := ⟨[(4, .p (.int .i64 x2))], []⟩) (cc := [.reg [] [] 0 [] [0, 1], .reg [0, 0, 2, 7, 15, 31, 0, 0, 128, 448, 960, 1984, 4095, 0, 8192, 32767, 65535] [] 0 [(3, none, .iv (.p (.agg [.int .i64 x1.1, .int .i64 x1.2]))), (9, none, .iv (.p (.agg [.int .i64 x1.1, .int .i64 x1.2]))), (15, none, .iv (.p (.int .i64 x2)))] [4]])
   (ai (by decide : (2 : Int) ≠ 0) (ai (sg_map (f := e60) h1) (ai (by decide : (2 : Int) ≠ 0) (ai (sg_map (f := e60) h1) (ai (by decide : (2 : Int) ≠ 0) (ai (sg_0 h2) (ai (od h3) (ai (idx_list (f := e2) el2 rfl h2) trivial)))))))) (by kernel_rfl)) (e := .ret) rfl (vs := [.p (.int .i64 x2)]) trivial (by kernel_rfl) (.p _ _ (.refl _))
def F45  (fuel : Nat) (p0 : (List (Int × Int))) (p1 : Int) : Option Int :=
 obind (sg p0 (IntKind.wrap .i64 (Int.tdiv p1 2))) fun x1 => obind (sg [(x1.1 : Int), (x1.2 : Int)] (Int.tmod p1 2)) fun x2 => oif (decide (((Int.tmod p1 2) : Int) < ((2 : Nat) : Int))) (some x2) none
theorem F45_ok  (fuel : Nat) (p0 : (List (Int × Int))) (p1 : Int) (fp0 : Bool) (r : Int) (h : F45 fuel p0 p1 = some r) : CallP prog 45 [.sl (List.map e70 p0) fp0, .int .i64 p1] (.int .i64 r) := by
 unfold F45 at h
 refine obind_elim h fun x1 h1 g1 => ?_
 refine obind_elim g1 fun x2 h2 g2 => ?_
 refine oif_elim g2 (fun h3 g3 => ?_) (fun _ h => nomatch h)
 have hr := Option.some.inj g3
 subst hr
 exact callP_of is45 rfl (path hm (ks := [4]) (σ' := ⟨[(4, .p (.int .i64 x2))], []⟩) (cc := [.reg [] [] 0 [] [0, 1], .reg [0, 0, 2, 7, 15, 31, 0, 0, 128, 448, 960, 1984, 4095, 0, 8192, 32767, 65535] [] 0 [(3, none, .iv (.p (.agg [.int .i64 x1.1, .int .i64 x1.2]))), (9, none, .iv (.p (.agg [.int .i64 x1.1, .int .i64 x1.2]))), (15, none, .iv (.p (.int .i64 x2)))] [4]])
   (ai (by decide : (2 : Int) ≠ 0) (ai (sg_map (f := e70) h1) (ai (by decide : (2 : Int) ≠ 0) (ai (sg_map (f := e70) h1) (ai (by decide : (2 : Int) ≠ 0) (ai (sg_0 h2) (ai (od h3) (ai (idx_list (f := e2) el2 rfl h2) trivial)))))))) (by kernel_rfl)) (e := .ret) rfl (vs := [.p (.int .i64 x2)]) trivial (by kernel_rfl) (.p _ _ (.refl _))
def L9_2  (v0 : (List (Int × Int))) (v1 : (List (Int × Int))) (v8 : Int) (v9 : Int) (v10 : Int) (v30 : Int) (v31 : Int) (v46 : Int) : Nat → Int → Option (Unit ⊕ Unit)
 | 0, _ => none
 | fuel + 1, v47 =>
  oif ((decide (v47 < v46)))
  (oif ((v47 != v9))
   (oif (((IntKind.wrap .i64 (Int.tdiv v47 2)) == (IntKind.wrap .i64 (Int.tdiv v9 2))))
    (obind (F44 fuel v1 v47) fun r1 => obind (F44 fuel v1 v9) fun r2 => oif ((decide (r1 ≥ r2)))
     (oif ((decide (r1 < v10)))
      (some (.inl ()))
      (L9_2 v0 v1 v8 v9 v10 v30 v31 v46 fuel (IntKind.wrap .i64 (v47 + 1))))
     (L9_2 v0 v1 v8 v9 v10 v30 v31 v46 fuel (IntKind.wrap .i64 (v47 + 1))))
    (oif (((Int.tmod v47 2) == (Int.tmod v9 2)))
     (obind (F44 fuel v1 v47) fun r1 => obind (F44 fuel v1 v9) fun r2 => oif ((decide (r1 ≥ r2)))
      (oif ((decide (r1 < v10)))
       (some (.inl ()))
       (L9_2 v0 v1 v8 v9 v10 v30 v31 v46 fuel (IntKind.wrap .i64 (v47 + 1))))
      (L9_2 v0 v1 v8 v9 v10 v30 v31 v46 fuel (IntKind.wrap .i64 (v47 + 1))))
     (L9_2 v0 v1 v8 v9 v10 v30 v31 v46 fuel (IntKind.wrap .i64 (v47 + 1)))))
   (L9_2 v0 v1 v8 v9 v10 v30 v31 v46 fuel (IntKind.wrap .i64 (v47 + 1))))
  (some (.inr (())))
noncomputable def L9_2_post (v0 : (List (Int × Int))) (v1 : (List (Int × Int))) (v8 : Int) (v9 : Int) (v10 : Int) (v30 : Int) (v31 : Int) (v46 : Int) (fp0 : Bool) (fp1 : Bool) : (Unit ⊕ Unit) → Ex × St
 | .inl y => (.ret, ⟨[(4, .p (.int .i64 0)), (5, .p (.int .i64 16))], []⟩)
 | .inr (y) => ((.exit 3), ⟨[(0, .p (.sl (List.map e70 v0) fp0)), (1, .p (.sl (List.map e60 v1) fp1)), (8, .p (.int .i64 v8)), (30, .p (.int .i64 v30)), (31, .p (.int .i64 v31))], []⟩)
theorem L9_2_ok  (v0 : (List (Int × Int))) (v1 : (List (Int × Int))) (v8 : Int) (v9 : Int) (v10 : Int) (v30 : Int) (v31 : Int) (v46 : Int) (fp0 : Bool) (fp1 : Bool) : ∀ (fuel : Nat) (v47 : Int) (r : (Unit ⊕ Unit)), L9_2 v0 v1 v8 v9 v10 v30 v31 v46 fuel v47 = some r →
  SemJ prog ⟨86, 0, false⟩ (codeAt [1, 1, 1, 1, 1, 0, 1, 0, 0, 1, 1, 0, 0, 1, 1, 1, 1, 0, 0] (bodyOf f9)) ⟨[(0, .p (.sl (List.map e70 v0) fp0)), (1, .p (.sl (List.map e60 v1) fp1)), (8, .p (.int .i64 v8)), (9, .p (.int .i64 v9)), (10, .p (.int .i64 v10)), (30, .p (.int .i64 v30)), (31, .p (.int .i64 v31)), (46, .p (.int .i64 v46)), (47, .p (.int .i64 v47))], []⟩ (L9_2_post v0 v1 v8 v9 v10 v30 v31 v46 fp0 fp1 r).1 (L9_2_post v0 v1 v8 v9 v10 v30 v31 v46 fp0 fp1 r).2
 | 0, _, _, h => nomatch h
 | fuel + 1, v47, r, h => by
  let z3 : Int := (IntKind.wrap .i64 (v47 + 1))
  let z2 : St := ⟨[(4, .p (.int .i64 0)), (5, .p (.int .i64 16))], []⟩
  let z1 : St := ⟨[(0, .p (.sl (List.map e70 v0) fp0)), (1, .p (.sl (List.map e60 v1) fp1)), (8, .p (.int .i64 v8)), (9, .p (.int .i64 v9)), (10, .p (.int .i64 v10)), (30, .p (.int .i64 v30)), (31, .p (.int .i64 v31)), (46, .p (.int .i64 v46)), (47, .p (.int .i64 z3))], []⟩
  unfold L9_2 at h
  refine oif_elim h (fun h1 g1 => ?_) (fun h1 g1 => ?_)
  ·let c20 : List CC := [.reg [] [] 0 [(0, none, .b true)] [0, 1, 8, 9, 10, 30, 31, 46, 47, 48], .reg [] [] 0 [] [0, 1, 8, 9, 10, 11, 30, 31, 46, 47]]
   refine oif_elim g1 (fun h2 g2 => ?_) (fun h2 g2 => ?_)
   ·have q21 := fun {P : Prop} (t : P) => ai h1 (ai h2 t)
    refine oif_elim g2 (fun h3 g3 => ?_) (fun h3 g3 => ?_)
    ·refine obind_elim g3 fun r1 h4 g4 => ?_
     refine obind_elim g4 fun r2 h5 g5 => ?_
     have q22 := fun {P : Prop} (t : P) => ai h3 (ai (F44_ok fuel v1 v47 fp1 _ h4) (ai (F44_ok fuel v1 v9 fp1 _ h5) t))
     refine oif_elim g5 (fun h6 g6 => ?_) (fun h6 g6 => ?_)
     ·refine oif_elim g6 (fun h7 g7 => ?_) (fun h7 g7 => ?_)
      ·have hr := Option.some.inj g7
       subst hr
       exact SemC.cast (SemJ.out (e := .ret) (path hm (σ' := z2) (ks := [4, 5]) (cc := c20 ++ [.reg [] [] 0 [(2, none, .b true), (8, none, .b true), (20, none, .call (.int .i64 r1)), (23, none, .call (.int .i64 r2)), (24, none, .b true), (29, none, .call (.int .i64 r1)), (31, none, .b true)] [0, 1, 8, 9, 10, 30, 31, 46, 47, 82], .reg [] [] 0 [] [4, 5]])
    (q21 (ai (by decide : (2 : Int) ≠ 0) (ai (by decide : (2 : Int) ≠ 0) (q22 (ai h6 (ai (F44_ok fuel v1 v47 fp1 _ h4) (ai h7 trivial))))))) (by kernel_rfl)) (by simp)) (by kernel_rfl) (by kernel_rfl)
      ·exact SemJ.again (σ1 := z1) (path hm (σ' := z1) (ks := [0, 1, 8, 9, 10, 30, 31, 46, 47]) (cc := c20 ++ [.reg [] [] 0 [(2, none, .b true), (8, none, .b true), (20, none, .call (.int .i64 r1)), (23, none, .call (.int .i64 r2)), (24, none, .b true), (29, none, .call (.int .i64 r1)), (31, none, .b false)] [0, 1, 8, 9, 10, 30, 31, 46, 47, 82], .reg [] [] 0 [] [0, 1, 8, 9, 10, 30, 31, 46, 47]])
    (q21 (ai (by decide : (2 : Int) ≠ 0) (ai (by decide : (2 : Int) ≠ 0) (q22 (ai h6 (ai (F44_ok fuel v1 v47 fp1 _ h4) (ai h7 trivial))))))) (by kernel_rfl)) (L9_2_ok v0 v1 v8 v9 v10 v30 v31 v46 fp0 fp1 fuel z3 _ g7)
     ·exact SemJ.again (σ1 := z1) (path hm (σ' := z1) (ks := [0, 1, 8, 9, 10, 30, 31, 46, 47]) (cc := c20 ++ [.reg [] [] 0 [(2, none, .b true), (8, none, .b true), (20, none, .call (.int .i64 r1)), (23, none, .call (.int .i64 r2)), (24, none, .b false)] [0, 1, 8, 9, 10, 30, 31, 46, 47, 82], .reg [] [] 0 [] [0, 1, 8, 9, 10, 30, 31, 46, 47]])
    (q21 (ai (by decide : (2 : Int) ≠ 0) (ai (by decide : (2 : Int) ≠ 0) (q22 (ai h6 trivial))))) (by kernel_rfl)) (L9_2_ok v0 v1 v8 v9 v10 v30 v31 v46 fp0 fp1 fuel z3 _ g6)
    ·refine oif_elim g3 (fun h4 g4 => ?_) (fun h4 g4 => ?_)
     ·refine obind_elim g4 fun r1 h5 g5 => ?_
      refine obind_elim g5 fun r2 h6 g6 => ?_
      have q23 := fun {P : Prop} (t : P) => ai h4 (ai (F44_ok fuel v1 v47 fp1 _ h5) (ai (F44_ok fuel v1 v9 fp1 _ h6) t))
      refine oif_elim g6 (fun h7 g7 => ?_) (fun h7 g7 => ?_)
      ·refine oif_elim g7 (fun h8 g8 => ?_) (fun h8 g8 => ?_)
       ·have hr := Option.some.inj g8
        subst hr
        exact SemC.cast (SemJ.out (e := .ret) (path hm (σ' := z2) (ks := [4, 5]) (cc := c20 ++ [.reg [] [] 0 [(2, none, .b true), (8, none, .b false), (14, none, .b true), (20, none, .call (.int .i64 r1)), (23, none, .call (.int .i64 r2)), (24, none, .b true), (29, none, .call (.int .i64 r1)), (31, none, .b true)] [0, 1, 8, 9, 10, 30, 31, 46, 47, 82], .reg [] [] 0 [] [4, 5]])
    (q21 (ai (by decide : (2 : Int) ≠ 0) (ai (by decide : (2 : Int) ≠ 0) (ai h3 (ai (by decide : (2 : Int) ≠ 0) (ai (by decide : (2 : Int) ≠ 0) (q23 (ai h7 (ai (F44_ok fuel v1 v47 fp1 _ h5) (ai h8 trivial)))))))))) (by kernel_rfl)) (by simp)) (by kernel_rfl) (by kernel_rfl)
       ·exact SemJ.again (σ1 := z1) (path hm (σ' := z1) (ks := [0, 1, 8, 9, 10, 30, 31, 46, 47]) (cc := c20 ++ [.reg [] [] 0 [(2, none, .b true), (8, none, .b false), (14, none, .b true), (20, none, .call (.int .i64 r1)), (23, none, .call (.int .i64 r2)), (24, none, .b true), (29, none, .call (.int .i64 r1)), (31, none, .b false)] [0, 1, 8, 9, 10, 30, 31, 46, 47, 82], .reg [] [] 0 [] [0, 1, 8, 9, 10, 30, 31, 46, 47]])
    (q21 (ai (by decide : (2 : Int) ≠ 0) (ai (by decide : (2 : Int) ≠ 0) (ai h3 (ai (by decide : (2 : Int) ≠ 0) (ai (by decide : (2 : Int) ≠ 0) (q23 (ai h7 (ai (F44_ok fuel v1 v47 fp1 _ h5) (ai h8 trivial)))))))))) (by kernel_rfl)) (L9_2_ok v0 v1 v8 v9 v10 v30 v31 v46 fp0 fp1 fuel z3 _ g8)
      ·exact SemJ.again (σ1 := z1) (path hm (σ' := z1) (ks := [0, 1, 8, 9, 10, 30, 31, 46, 47]) (cc := c20 ++ [.reg [] [] 0 [(2, none, .b true), (8, none, .b false), (14, none, .b true), (20, none, .call (.int .i64 r1)), (23, none, .call (.int .i64 r2)), (24, none, .b false)] [0, 1, 8, 9, 10, 30, 31, 46, 47, 82], .reg [] [] 0 [] [0, 1, 8, 9, 10, 30, 31, 46, 47]])
    (q21 (ai (by decide : (2 : Int) ≠ 0) (ai (by decide : (2 : Int) ≠ 0) (ai h3 (ai (by decide : (2 : Int) ≠ 0) (ai (by decide : (2 : Int) ≠ 0) (q23 (ai h7 trivial)))))))) (by kernel_rfl)) (L9_2_ok v0 v1 v8 v9 v10 v30 v31 v46 fp0 fp1 fuel z3 _ g7)
     ·exact SemJ.again (σ1 := z1) (path hm (σ' := z1) (ks := [0, 1, 8, 9, 10, 30, 31, 46, 47]) (cc := c20 ++ [.reg [] [] 0 [(2, none, .b true), (8, none, .b false), (14, none, .b false)] [0, 1, 8, 9, 10, 30, 31, 46, 47, 82], .reg [] [] 0 [] [0, 1, 8, 9, 10, 30, 31, 46, 47]])
    (q21 (ai (by decide : (2 : Int) ≠ 0) (ai (by decide : (2 : Int) ≠ 0) (ai h3 (ai (by decide : (2 : Int) ≠ 0) (ai (by decide : (2 : Int) ≠ 0) (ai h4 trivial))))))) (by kernel_rfl)) (L9_2_ok v0 v1 v8 v9 v10 v30 v31 v46 fp0 fp1 fuel z3 _ g4)
   ·exact SemJ.again (σ1 := z1) (path hm (σ' := z1) (ks := [0, 1, 8, 9, 10, 30, 31, 46, 47]) (cc := c20 ++ [.reg [] [] 0 [(2, none, .b false)] [0, 1, 8, 9, 10, 30, 31, 46, 47, 82], .reg [] [] 0 [] [0, 1, 8, 9, 10, 30, 31, 46, 47]])
    (ai h1 (ai h2 trivial)) (by kernel_rfl)) (L9_2_ok v0 v1 v8 v9 v10 v30 v31 v46 fp0 fp1 fuel z3 _ g2)
  ·have hr := Option.some.inj g1
   subst hr
   exact SemC.cast (SemJ.out (e := (.exit 3)) (path hm (σ' := ⟨[(0, .p (.sl (List.map e70 v0) fp0)), (1, .p (.sl (List.map e60 v1) fp1)), (8, .p (.int .i64 v8)), (30, .p (.int .i64 v30)), (31, .p (.int .i64 v31))], []⟩) (ks := [0, 1, 8, 30, 31]) (cc := [.reg [] [] 0 [(0, none, .b false)] [0, 1, 8, 9, 10, 30, 31, 46, 47, 48]])
    (ai h1 trivial) (by kernel_rfl)) (by simp)) (by kernel_rfl) (by kernel_rfl)
def L9_0  (v0 : (List (Int × Int))) (v1 : (List (Int × Int))) (v30 : Int) : Nat → Int → Int → Option (Unit ⊕ Int)
 | 0, _, _ => none
 | fuel + 1, v8, v31 =>
  oif ((decide (v31 < v30)))
  (obind (F44 fuel v1 v31) fun r1 => obind (F45 fuel v0 v31) fun r2 => (obind (L9_2 v0 v1 (maxL v8 [(IntKind.wrap .i64 (r1 + r2))]) v31 (IntKind.wrap .i64 (r1 + r2)) v30 v31 (IntKind.wrap .i64 (2 * (v0.length : Int))) fuel 0) fun y3 => match y3 with
   | .inl y3 => some (.inl ())
   | .inr (y3) => L9_0 v0 v1 v30 fuel (maxL v8 [(IntKind.wrap .i64 (r1 + r2))]) (IntKind.wrap .i64 (v31 + 1))))
  (some (.inr (v8)))
noncomputable def L9_0_post (v0 : (List (Int × Int))) (v1 : (List (Int × Int))) (v30 : Int) (fp0 : Bool) (fp1 : Bool) : (Unit ⊕ Int) → Ex × St
 | .inl y => (.ret, ⟨[(4, .p (.int .i64 0)), (5, .p (.int .i64 16))], []⟩)
 | .inr (y) => ((.exit 1), ⟨[(8, .p (.int .i64 y))], []⟩)
theorem L9_0_ok  (v0 : (List (Int × Int))) (v1 : (List (Int × Int))) (v30 : Int) (fp0 : Bool) (fp1 : Bool) : ∀ (fuel : Nat) (v8 : Int) (v31 : Int) (r : (Unit ⊕ Int)), L9_0 v0 v1 v30 fuel v8 v31 = some r →
  SemJ prog ⟨86, 0, false⟩ (codeAt [1, 1, 1, 1, 1, 0, 1, 0, 0] (bodyOf f9)) ⟨[(0, .p (.sl (List.map e70 v0) fp0)), (1, .p (.sl (List.map e60 v1) fp1)), (8, .p (.int .i64 v8)), (30, .p (.int .i64 v30)), (31, .p (.int .i64 v31))], []⟩ (L9_0_post v0 v1 v30 fp0 fp1 r).1 (L9_0_post v0 v1 v30 fp0 fp1 r).2
 | 0, _, _, _, h => nomatch h
 | fuel + 1, v8, v31, r, h => by
  let z3 : Int := (IntKind.wrap .i64 (v31 + 1))
  let z2 : Int := (IntKind.wrap .i64 (2 * (v0.length : Int)))
  let z1 : St := ⟨[(4, .p (.int .i64 0)), (5, .p (.int .i64 16))], []⟩
  unfold L9_0 at h
  refine oif_elim h (fun h1 g1 => ?_) (fun h1 g1 => ?_)
  ·refine obind_elim g1 fun r1 h2 g2 => ?_
   refine obind_elim g2 fun r2 h3 g3 => ?_
   let z4 : Int := (IntKind.wrap .i64 (r1 + r2))
   let c24 : List CC := [.reg [] [] 0 [(0, none, .b true)] [0, 1, 8, 30, 31, 32], .reg [] [] 0 [] [0, 1, 8, 9, 30, 31], .reg [] [] 0 [(2, none, .call (.int .i64 r1)), (5, none, .call (.int .i64 r2))] [0, 1, 8, 9, 10, 30, 31], .reg [] [] 0 [] [0, 1, 8, 9, 10, 30, 31], .reg [] [] 0 [(1, none, .n (v0.length : Int))] [0, 1, 8, 9, 10, 30, 31, 46, 47]]
   refine obind_elim g3 fun y h4 g4 => ?_
   match y, h4, g4 with
   | .inl y3, h4, g4 =>
    have hr := Option.some.inj g4
    subst hr
    exact SemC.cast (SemJ.out (e := .ret) (path hm (σ' := z1) (ks := [4, 5]) (cc := c24 ++ [.leaf .ret z1])
    (ai h1 (ai (F44_ok fuel v1 v31 fp1 _ h2) (ai (F45_ok fuel v0 v31 fp0 _ h3) (ai (len_map e70 v0) (ai (SemJ.loop (L9_2_ok v0 v1 (maxL v8 [z4]) v31 z4 v30 v31 z2 fp0 fp1 fuel 0 _ h4)) trivial))))) (by kernel_rfl)) (by simp)) (by kernel_rfl) (by kernel_rfl)
   | .inr (y3), h4, g4 =>
    exact SemJ.again (σ1 := ⟨[(0, .p (.sl (List.map e70 v0) fp0)), (1, .p (.sl (List.map e60 v1) fp1)), (8, .p (.int .i64 (maxL v8 [z4]))), (30, .p (.int .i64 v30)), (31, .p (.int .i64 z3))], []⟩) (path hm (σ' := ⟨[(0, .p (.sl (List.map e70 v0) fp0)), (1, .p (.sl (List.map e60 v1) fp1)), (8, .p (.int .i64 (maxL v8 [z4]))), (30, .p (.int .i64 v30)), (31, .p (.int .i64 z3))], []⟩) (ks := [0, 1, 8, 30, 31]) (cc := c24 ++ [.leaf (.exit 3) ⟨[(0, .p (.sl (List.map e70 v0) fp0)), (1, .p (.sl (List.map e60 v1) fp1)), (8, .p (.int .i64 (maxL v8 [z4]))), (30, .p (.int .i64 v30)), (31, .p (.int .i64 v31))], []⟩, .reg [] [] 0 [] [0, 1, 8, 30, 31]])
    (ai h1 (ai (F44_ok fuel v1 v31 fp1 _ h2) (ai (F45_ok fuel v0 v31 fp0 _ h3) (ai (len_map e70 v0) (ai (SemJ.loop (L9_2_ok v0 v1 (maxL v8 [z4]) v31 z4 v30 v31 z2 fp0 fp1 fuel 0 _ h4)) trivial))))) (by kernel_rfl)) (L9_0_ok v0 v1 v30 fp0 fp1 fuel (maxL v8 [z4]) z3 _ g4)
  ·have hr := Option.some.inj g1
   subst hr
   exact SemC.cast (SemJ.out (e := (.exit 1)) (path hm (σ' := ⟨[(8, .p (.int .i64 v8))], []⟩) (ks := [8]) (cc := [.reg [] [] 0 [(0, none, .b false)] [0, 1, 8, 30, 31, 32]])
    (ai h1 trivial) (by kernel_rfl)) (by simp)) (by kernel_rfl) (by kernel_rfl)
def F9  (fuel : Nat) (p0 : (List (Int × Int))) (p1 : (List (Int × Int))) : Option (Int × Int) :=
 obind (F13 fuel p0) fun r1 => oif ((r1 != 0))
 (some (0, r1))
 (oif (((p1.length : Int) != (p0.length : Int)))
  (some (0, 15))
  (obind (F43 fuel p1) fun r2 => oif (r2)
   (some (0, 3))
   ((obind (L9_0 p0 p1 (IntKind.wrap .i64 (2 * (p0.length : Int))) fuel 0 0) fun y3 => match y3 with
    | .inl y3 => some (0, 16)
    | .inr (y3) => some (y3, 0)))))
theorem F9_ok  (fuel : Nat) (p0 : (List (Int × Int))) (p1 : (List (Int × Int))) (fp0 : Bool) (fp1 : Bool) (r : (Int × Int)) (h : F9 fuel p0 p1 = some r) : CallP prog 9 [.sl (List.map e70 p0) fp0, .sl (List.map e60 p1) fp1] (.tup [.int .i64 r.1, .int .i64 r.2]) := by
 let z2 : Int := (IntKind.wrap .i64 (2 * (p0.length : Int)))
 let z1 : St := ⟨[(4, .p (.int .i64 0)), (5, .p (.int .i64 16))], []⟩
 unfold F9 at h
 refine obind_elim h fun r1 h1 g1 => ?_
 let c25 : List CC := [.reg [] [] 0 [] [0, 1], .reg [] [] 0 [(1, none, .call (.int .i64 r1))] [0, 1, 6], .reg [] [] 0 [] [0, 1, 6, 7]]
 refine oif_elim g1 (fun h2 g2 => ?_) (fun h2 g2 => ?_)
 ·have hr := Option.some.inj g2
  subst hr
  exact callP_of is9 rfl (path hm (ks := [4, 5]) (σ' := ⟨[(4, .p (.int .i64 0)), (5, .p (.int .i64 r1))], []⟩) (cc := c25 ++ [.reg [] [] 0 [(1, none, .b true)] [0, 1, 6, 7, 14], .reg [] [] 0 [] [4, 5]])
   (ai (F13_ok fuel p0 fp0 _ h1) (ai h2 trivial)) (by kernel_rfl)) (e := .ret) rfl (vs := [.p (.int .i64 0), .p (.int .i64 r1)]) trivial (by kernel_rfl) (.tup _ _ (.cons _ _ _ _ (.p _ _ (.refl _)) (.cons _ _ _ _ (.p _ _ (.refl _)) .nil)))
 ·let c26 : List CC := c25 ++ [.reg [] [] 0 [(1, none, .b false)] [0, 1, 6, 7, 14]]
  have q27 := fun {P : Prop} (t : P) => ai (F13_ok fuel p0 fp0 _ h1) (ai h2 (ai (len_map e60 p1) (ai (len_map e70 p0) t)))
  refine oif_elim g2 (fun h3 g3 => ?_) (fun h3 g3 => ?_)
  ·have hr := Option.some.inj g3
   subst hr
   exact callP_of is9 rfl (path hm (ks := [4, 5]) (σ' := ⟨[(4, .p (.int .i64 0)), (5, .p (.int .i64 15))], []⟩) (cc := c26 ++ [.reg [] [] 0 [(1, none, .n (p1.length : Int)), (3, none, .n (p0.length : Int)), (4, none, .b true)] [0, 1, 7, 18], .reg [] [] 0 [] [4, 5]])
   (q27 (ai h3 trivial)) (by kernel_rfl)) (e := .ret) rfl (vs := [.p (.int .i64 0), .p (.int .i64 15)]) trivial (by kernel_rfl) (.tup _ _ (.cons _ _ _ _ (.p _ _ (.refl _)) (.cons _ _ _ _ (.p _ _ (.refl _)) .nil)))
  ·refine obind_elim g3 fun r2 h4 g4 => ?_
   let c28 : List CC := c26 ++ [.reg [] [] 0 [(1, none, .n (p1.length : Int)), (3, none, .n (p0.length : Int)), (4, none, .b false)] [0, 1, 7, 18]]
   refine oif_elim g4 (fun h5 g5 => ?_) (fun h5 g5 => ?_)
   ·subst h5
    have hr := Option.some.inj g5
    subst hr
    exact callP_of is9 rfl (path hm (ks := [4, 5]) (σ' := ⟨[(4, .p (.int .i64 0)), (5, .p (.int .i64 3))], []⟩) (cc := c28 ++ [.reg [] [] 0 [(2, none, .call (.bool true))] [0, 1, 24], .reg [] [] 0 [] [4, 5]])
   (q27 (ai h3 (ai (F43_ok fuel p1 fp1 _ h4) trivial))) (by kernel_rfl)) (e := .ret) rfl (vs := [.p (.int .i64 0), .p (.int .i64 3)]) trivial (by kernel_rfl) (.tup _ _ (.cons _ _ _ _ (.p _ _ (.refl _)) (.cons _ _ _ _ (.p _ _ (.refl _)) .nil)))
   ·subst h5
    let c29 : List CC := c28 ++ [.reg [] [] 0 [(2, none, .call (.bool false))] [0, 1, 24], .reg [] [] 0 [] [0, 1, 8], .reg [] [] 0 [(1, none, .n (p0.length : Int))] [0, 1, 8, 30, 31]]
    refine obind_elim g5 fun y h6 g6 => ?_
    match y, h6, g6 with
    | .inl y3, h6, g6 =>
     have hr := Option.some.inj g6
     subst hr
     exact callP_of is9 rfl (path hm (ks := [4, 5]) (σ' := z1) (cc := c29 ++ [.leaf .ret z1])
   (q27 (ai h3 (ai (F43_ok fuel p1 fp1 _ h4) (ai (len_map e70 p0) (ai (SemJ.loop (L9_0_ok p0 p1 z2 fp0 fp1 fuel 0 0 _ h6)) trivial))))) (by kernel_rfl)) (e := .ret) rfl (vs := [.p (.int .i64 0), .p (.int .i64 16)]) trivial (by kernel_rfl) (.tup _ _ (.cons _ _ _ _ (.p _ _ (.refl _)) (.cons _ _ _ _ (.p _ _ (.refl _)) .nil)))
    | .inr (y3), h6, g6 =>
     have hr := Option.some.inj g6
     subst hr
     exact callP_of is9 rfl (path hm (ks := [4, 5]) (σ' := ⟨[(4, .p (.int .i64 y3)), (5, .p (.int .i64 0))], []⟩) (cc := c29 ++ [.leaf (.exit 1) ⟨[(8, .p (.int .i64 y3))], []⟩, .reg [] [] 0 [] [4, 5]])
   (q27 (ai h3 (ai (F43_ok fuel p1 fp1 _ h4) (ai (len_map e70 p0) (ai (SemJ.loop (L9_0_ok p0 p1 z2 fp0 fp1 fuel 0 0 _ h6)) trivial))))) (by kernel_rfl)) (e := .ret) rfl (vs := [.p (.int .i64 y3), .p (.int .i64 0)]) trivial (by kernel_rfl) (.tup _ _ (.cons _ _ _ _ (.p _ _ (.refl _)) (.cons _ _ _ _ (.p _ _ (.refl _)) .nil)))
def L11_0  (v0 : (List (Int × Int))) (v1 : (List (Int × Int))) (v2 : Int) (v28 : Int) : Nat → Int → Int → Option Int
 | 0, _, _ => none
 | fuel + 1, v10, v29 =>
  oif ((decide (v29 < v28)))
  (obind (F44 fuel v1 (IntKind.wrap .i64 ((IntKind.wrap .i64 (2 * v29)) + v2))) fun r1 => obind (F45 fuel v0 (IntKind.wrap .i64 ((IntKind.wrap .i64 (2 * v29)) + v2))) fun r2 => L11_0 v0 v1 v2 v28 fuel (maxL v10 [(IntKind.wrap .i64 (r1 + r2))]) (IntKind.wrap .i64 (v29 + 1)))
  (some (v10))
noncomputable def L11_0_post (v0 : (List (Int × Int))) (v1 : (List (Int × Int))) (v2 : Int) (v28 : Int) (fp0 : Bool) (fp1 : Bool) : Int → Ex × St
 | y => ((.exit 1), ⟨[(0, .p (.sl (List.map e70 v0) fp0)), (2, .p (.int .i64 v2)), (10, .p (.int .i64 y))], []⟩)
theorem L11_0_ok  (v0 : (List (Int × Int))) (v1 : (List (Int × Int))) (v2 : Int) (v28 : Int) (fp0 : Bool) (fp1 : Bool) : ∀ (fuel : Nat) (v10 : Int) (v29 : Int) (r : Int), L11_0 v0 v1 v2 v28 fuel v10 v29 = some r →
  SemJ prog ⟨54, 0, false⟩ (codeAt [1, 1, 1, 1, 0, 1, 0, 0] (bodyOf f11)) ⟨[(0, .p (.sl (List.map e70 v0) fp0)), (1, .p (.sl (List.map e60 v1) fp1)), (2, .p (.int .i64 v2)), (10, .p (.int .i64 v10)), (28, .p (.int .i64 v28)), (29, .p (.int .i64 v29))], []⟩ (L11_0_post v0 v1 v2 v28 fp0 fp1 r).1 (L11_0_post v0 v1 v2 v28 fp0 fp1 r).2
 | 0, _, _, _, h => nomatch h
 | fuel + 1, v10, v29, r, h => by
  let z2 : Int := (IntKind.wrap .i64 (v29 + 1))
  let z1 : Int := (IntKind.wrap .i64 ((IntKind.wrap .i64 (2 * v29)) + v2))
  unfold L11_0 at h
  refine oif_elim h (fun h1 g1 => ?_) (fun h1 g1 => ?_)
  ·refine obind_elim g1 fun r1 h2 g2 => ?_
   refine obind_elim g2 fun r2 h3 g3 => ?_
   let z3 : Int := (IntKind.wrap .i64 (r1 + r2))
   exact SemJ.again (σ1 := ⟨[(0, .p (.sl (List.map e70 v0) fp0)), (1, .p (.sl (List.map e60 v1) fp1)), (2, .p (.int .i64 v2)), (10, .p (.int .i64 (maxL v10 [z3]))), (28, .p (.int .i64 v28)), (29, .p (.int .i64 z2))], []⟩) (path hm (σ' := ⟨[(0, .p (.sl (List.map e70 v0) fp0)), (1, .p (.sl (List.map e60 v1) fp1)), (2, .p (.int .i64 v2)), (10, .p (.int .i64 (maxL v10 [z3]))), (28, .p (.int .i64 v28)), (29, .p (.int .i64 z2))], []⟩) (ks := [0, 1, 2, 10, 28, 29]) (cc := [.reg [] [] 0 [(0, none, .b true)] [0, 1, 2, 10, 28, 29, 30], .reg [] [] 0 [] [0, 1, 2, 10, 11, 28, 29], .reg [] [] 0 [(6, none, .call (.int .i64 r1)), (12, none, .call (.int .i64 r2))] [0, 1, 2, 10, 28, 29], .reg [] [] 0 [] [0, 1, 2, 10, 28, 29]])
    (ai h1 (ai (F44_ok fuel v1 z1 fp1 _ h2) (ai (F45_ok fuel v0 z1 fp0 _ h3) trivial))) (by kernel_rfl)) (L11_0_ok v0 v1 v2 v28 fp0 fp1 fuel (maxL v10 [z3]) z2 _ g3)
  ·have hr := Option.some.inj g1
   subst hr
   exact SemC.cast (SemJ.out (e := (.exit 1)) (path hm (σ' := ⟨[(0, .p (.sl (List.map e70 v0) fp0)), (2, .p (.int .i64 v2)), (10, .p (.int .i64 v10))], []⟩) (ks := [0, 2, 10]) (cc := [.reg [] [] 0 [(0, none, .b false)] [0, 1, 2, 10, 28, 29, 30]])
    (ai h1 trivial) (by kernel_rfl)) (by simp)) (by kernel_rfl) (by kernel_rfl)
def F11  (fuel : Nat) (p0 : (List (Int × Int))) (p1 : (List (Int × Int))) (p2 : Int) : Option (Int × Int) :=
 obind (F9 fuel p0 p1) fun r1 => oif ((r1.2 != 0))
 (some (0, r1.2))
 (obind (F42 fuel 0 1 [p2]) fun r2 => oif (r2)
  (obind (L11_0 p0 p1 p2 (p0.length : Int) fuel 0 0) fun y3 => obind (F49 fuel p0) fun r4 => obind (sg [(r4.1 : Int), (r4.2 : Int)] p2) fun x5 => oif (decide ((p2 : Int) < ((2 : Nat) : Int))) (some ((IntKind.wrap .i64 (y3 - x5)), 0)) none)
  (some (0, 2)))
theorem F11_ok  (fuel : Nat) (p0 : (List (Int × Int))) (p1 : (List (Int × Int))) (p2 : Int) (fp0 : Bool) (fp1 : Bool) (r : (Int × Int)) (h : F11 fuel p0 p1 p2 = some r) : CallP prog 11 [.sl (List.map e70 p0) fp0, .sl (List.map e60 p1) fp1, .int .i64 p2] (.tup [.int .i64 r.1, .int .i64 r.2]) := by
 unfold F11 at h
 refine obind_elim h fun r1 h1 g1 => ?_
 let c30 : List CC := [.reg [] [] 0 [] [0, 1, 2], .reg [] [] 0 [(2, none, .call (.tup [.int .i64 r1.1, .int .i64 r1.2]))] [0, 1, 2, 9]]
 refine oif_elim g1 (fun h2 g2 => ?_) (fun h2 g2 => ?_)
 ·have hr := Option.some.inj g2
  subst hr
  exact callP_of is11 rfl (path hm (ks := [6, 7]) (σ' := ⟨[(6, .p (.int .i64 0)), (7, .p (.int .i64 r1.2))], []⟩) (cc := c30 ++ [.reg [] [] 0 [(1, none, .b true)] [0, 1, 2, 9, 18], .reg [] [] 0 [] [6, 7]])
   (ai (F9_ok fuel p0 p1 fp0 fp1 _ h1) (ai h2 trivial)) (by kernel_rfl)) (e := .ret) rfl (vs := [.p (.int .i64 0), .p (.int .i64 r1.2)]) trivial (by kernel_rfl) (.tup _ _ (.cons _ _ _ _ (.p _ _ (.refl _)) (.cons _ _ _ _ (.p _ _ (.refl _)) .nil)))
 ·refine obind_elim g2 fun r2 h3 g3 => ?_
  refine oif_elim g3 (fun h4 g4 => ?_) (fun h4 g4 => ?_)
  ·subst h4
   refine obind_elim g4 fun y3 h5 g5 => ?_
   refine obind_elim g5 fun r4 h6 g6 => ?_
   refine obind_elim g6 fun x5 h7 g7 => ?_
   let z1 : Int := (IntKind.wrap .i64 (y3 - x5))
   refine oif_elim g7 (fun h8 g8 => ?_) (fun _ h => nomatch h)
   have hr := Option.some.inj g8
   subst hr
   exact callP_of is11 rfl (path hm (ks := [6, 7]) (σ' := ⟨[(6, .p (.int .i64 z1)), (7, .p (.int .i64 0))], []⟩) (cc := c30 ++ [.reg [] [] 0 [(1, none, .b false)] [0, 1, 2, 9, 18], .reg [] [] 0 [(2, none, .call (.bool true))] [0, 1, 2, 22], .reg [] [] 0 [] [0, 1, 2, 10], .reg [] [] 0 [(1, none, .n (p0.length : Int))] [0, 1, 2, 10, 28, 29], .leaf (.exit 1) ⟨[(0, .p (.sl (List.map e70 p0) fp0)), (2, .p (.int .i64 p2)), (10, .p (.int .i64 y3))], []⟩, .reg [] [] 0 [(2, none, .call (.agg [.int .i64 r4.1, .int .i64 r4.2])), (4, none, .iv (.p (.int .i64 x5)))] [6, 7]])
   (ai (F9_ok fuel p0 p1 fp0 fp1 _ h1) (ai h2 (ai (F42_ok fuel 0 1 [p2] true _ h3) (ai (len_map e70 p0) (ai (SemJ.loop (L11_0_ok p0 p1 p2 (p0.length : Int) fp0 fp1 fuel 0 0 _ h5)) (ai (F49_ok fuel p0 fp0 _ h6) (ai (sg_0 h7) (ai (od h8) (ai (idx_list (f := e2) el2 rfl h7) trivial))))))))) (by kernel_rfl)) (e := .ret) rfl (vs := [.p (.int .i64 z1), .p (.int .i64 0)]) trivial (by kernel_rfl) (.tup _ _ (.cons _ _ _ _ (.p _ _ (.refl _)) (.cons _ _ _ _ (.p _ _ (.refl _)) .nil)))
  ·subst h4
   have hr := Option.some.inj g4
   subst hr
   exact callP_of is11 rfl (path hm (ks := [6, 7]) (σ' := ⟨[(6, .p (.int .i64 0)), (7, .p (.int .i64 2))], []⟩) (cc := c30 ++ [.reg [] [] 0 [(1, none, .b false)] [0, 1, 2, 9, 18], .reg [] [] 0 [(2, none, .call (.bool false))] [0, 1, 2, 22], .reg [] [] 0 [] [6, 7]])
   (ai (F9_ok fuel p0 p1 fp0 fp1 _ h1) (ai h2 (ai (F42_ok fuel 0 1 [p2] true _ h3) trivial))) (by kernel_rfl)) (e := .ret) rfl (vs := [.p (.int .i64 0), .p (.int .i64 2)]) trivial (by kernel_rfl) (.tup _ _ (.cons _ _ _ _ (.p _ _ (.refl _)) (.cons _ _ _ _ (.p _ _ (.refl _)) .nil)))
def L59_3  (v1 : (List (Int × Int))) (v13 : (List (Int × Int))) (v14 : Int) : Nat → Int → (List Int) → (List Int) → Option ((List Int) × (List Int))
 | 0, _, _, _ => none
 | fuel + 1, v15, w1, w2 =>
  oif ((decide (v15 < v14)))
  (obind (sg v13 v15) fun x1 => oif ((decide (x1.1 ≤ x1.2)))
   (oif (decide (((List.length w1) + 1) * 8 ≤ 140737488355328)) (L59_3 v1 v13 v14 fuel (IntKind.wrap .i64 (v15 + 1)) (w1 ++ [v15]) w2) none)
   (oif (decide (((List.length w2) + 1) * 8 ≤ 140737488355328)) (L59_3 v1 v13 v14 fuel (IntKind.wrap .i64 (v15 + 1)) w1 (w2 ++ [v15])) none))
  (some ((w1, w2)))
noncomputable def L59_3_post (v1 : (List (Int × Int))) (v13 : (List (Int × Int))) (v14 : Int) (fp0 : Bool) : ((List Int) × (List Int)) → Ex × St
 | y => ((.exit 0), ⟨[(1, .p (.ref [.sl (List.map e70 v1) fp0])), (2, .ptr 0 0 3), (3, .msl 1 0 (List.length y.1) (List.length (rowI e3 y.1)) false), (4, .msl 2 0 (List.length y.2) (List.length (rowI e3 y.2)) false)], [.cells [.p (.nilsl), .p (.nilsl), .p (.nilsl)] 0, .cells (rowI e3 y.1) 1, .cells (rowI e3 y.2) 1]⟩)
theorem L59_3_ok  (v1 : (List (Int × Int))) (v13 : (List (Int × Int))) (v14 : Int) (fp0 : Bool) : ∀ (fuel : Nat) (v15 : Int) (w1 : (List Int)) (w2 : (List Int)) (r : ((List Int) × (List Int))), L59_3 v1 v13 v14 fuel v15 w1 w2 = some r →
  SemJ prog ⟨101, 0, false⟩ (codeAt [1, 1, 0, 1, 0, 0] (bodyOf f59)) ⟨[(1, .p (.ref [.sl (List.map e70 v1) fp0])), (2, .ptr 0 0 3), (3, .msl 1 0 (List.length w1) (List.length (rowI e3 w1)) false), (4, .msl 2 0 (List.length w2) (List.length (rowI e3 w2)) false), (13, .p (.sl (List.map e70 v13) fp0)), (14, .p (.int .i64 v14)), (15, .p (.int .i64 v15))], [.cells [.p (.nilsl), .p (.nilsl), .p (.nilsl)] 0, .cells (rowI e3 w1) 1, .cells (rowI e3 w2) 1]⟩ (L59_3_post v1 v13 v14 fp0 r).1 (L59_3_post v1 v13 v14 fp0 r).2
 | 0, _, _, _, _, h => nomatch h
 | fuel + 1, v15, w1, w2, r, h => by
  let z6 : Int := (IntKind.wrap .i64 (v15 + 1))
  let z5 : MObj := .cells (rowI e3 (w2 ++ [v15])) 1
  let z4 : MObj := .cells (rowI e3 (w1 ++ [v15])) 1
  let z3 : MObj := .cells [.p (.nilsl), .p (.nilsl), .p (.nilsl)] 0
  let z2 : Env := [(1, .p (.ref [.sl (List.map e70 v1) fp0])), (2, .ptr 0 0 3), (3, .msl 1 0 (List.length w1) (List.length (rowI e3 w1)) false), (4, .msl 2 0 (List.length (w2 ++ [v15])) (List.length (rowI e3 (w2 ++ [v15]))) false), (13, .p (.sl (List.map e70 v13) fp0)), (14, .p (.int .i64 v14)), (15, .p (.int .i64 z6))]
  let z1 : Env := [(1, .p (.ref [.sl (List.map e70 v1) fp0])), (2, .ptr 0 0 3), (3, .msl 1 0 (List.length (w1 ++ [v15])) (List.length (rowI e3 (w1 ++ [v15]))) false), (4, .msl 2 0 (List.length w2) (List.length (rowI e3 w2)) false), (13, .p (.sl (List.map e70 v13) fp0)), (14, .p (.int .i64 v14)), (15, .p (.int .i64 z6))]
  unfold L59_3 at h
  refine oif_elim h (fun h1 g1 => ?_) (fun h1 g1 => ?_)
  ·refine obind_elim g1 fun x1 h2 g2 => ?_
   let z7 : MObj := .cells [.p (.int .i64 x1.1), .p (.int .i64 x1.2)] 0
   let c32 : List CC := [.reg [] [] 0 [(0, none, .b true)] [1, 2, 3, 4, 13, 14, 15, 16], .reg [] [] 1 [(1, none, .iv (.p (.agg [.int .i64 x1.1, .int .i64 x1.2]))), (3, some 3, .a)] [1, 2, 3, 4, 5, 6, 13, 14, 15]]
   refine oif_elim g2 (fun h3 g3 => ?_) (fun h3 g3 => ?_)
   ·refine oif_elim g3 (fun h4 g4 => ?_) (fun _ h => nomatch h)
    exact SemJ.again (σ1 := ⟨z1, [z3, z4, .cells (rowI e3 w2) 1]⟩) (SemC.post (path hm (σ' := ⟨z1, [z3, z4, .cells (rowI e3 w2) 1, z7]⟩) (ks := [1, 2, 3, 4, 13, 14, 15]) (cc := c32 ++ [.reg [] [] 0 [(4, none, .b true)] [1, 2, 3, 4, 5, 13, 14, 15, 24], .reg [] [] 0 [(3, none, .ap (rowI e3 (w1 ++ [v15])) (List.length (w1 ++ [v15])) (List.length (rowI e3 (w1 ++ [v15]))))] [1, 2, 3, 4, 13, 14, 15], .reg [] [] 0 [] [1, 2, 3, 4, 13, 14, 15]])
    (ai h1 (ai (sg_map (f := e70) h2) (ai h3 (ai (by decide : 0 < 1) (ai (od h4) (ai (app_c2 (by decide) (od h4)) (ai (app_len e3 [v15] (rl (List.length w1))) (ai (rl (List.length (rowI e3 (w1 ++ [v15])))) (ai (row_app e3 w1 [v15]) (ai (rl (List.length (rowI e3 w1))) (ai (row_sz el3 (rl (List.length (rowI e3 w1))) (rl (List.length w1))) (ai (row_sc el3 [v15]) (ai (row_es el3 [v15]) trivial))))))))))))) (by kernel_rfl)) (Weak.sel [0, 1, 2] (selH_cons (o := z3) (o' := z3) (by kernel_rfl) (sel_x (by kernel_rfl)) (selH_cons (o := z4) (o' := z4) (by kernel_rfl) sel_row (selH_cons (o := .cells (rowI e3 w2) 1) (o' := .cells (rowI e3 w2) 1) (by kernel_rfl) sel_row trivial))) (by kernel_rfl) (by kernel_rfl))) (L59_3_ok v1 v13 v14 fp0 fuel z6 (w1 ++ [v15]) w2 _ g4)
   ·refine oif_elim g3 (fun h4 g4 => ?_) (fun _ h => nomatch h)
    exact SemJ.again (σ1 := ⟨z2, [z3, .cells (rowI e3 w1) 1, z5]⟩) (SemC.post (path hm (σ' := ⟨z2, [z3, .cells (rowI e3 w1) 1, z5, z7]⟩) (ks := [1, 2, 3, 4, 13, 14, 15]) (cc := c32 ++ [.reg [] [] 0 [(4, none, .b false)] [1, 2, 3, 4, 5, 13, 14, 15, 24], .reg [] [] 0 [(3, none, .ap (rowI e3 (w2 ++ [v15])) (List.length (w2 ++ [v15])) (List.length (rowI e3 (w2 ++ [v15]))))] [1, 2, 3, 4, 13, 14, 15], .reg [] [] 0 [] [1, 2, 3, 4, 13, 14, 15]])
    (ai h1 (ai (sg_map (f := e70) h2) (ai h3 (ai (by decide : 0 < 1) (ai (od h4) (ai (app_c2 (by decide) (od h4)) (ai (app_len e3 [v15] (rl (List.length w2))) (ai (rl (List.length (rowI e3 (w2 ++ [v15])))) (ai (row_app e3 w2 [v15]) (ai (rl (List.length (rowI e3 w2))) (ai (row_sz el3 (rl (List.length (rowI e3 w2))) (rl (List.length w2))) (ai (row_sc el3 [v15]) (ai (row_es el3 [v15]) trivial))))))))))))) (by kernel_rfl)) (Weak.sel [0, 1, 2] (selH_cons (o := z3) (o' := z3) (by kernel_rfl) (sel_x (by kernel_rfl)) (selH_cons (o := .cells (rowI e3 w1) 1) (o' := .cells (rowI e3 w1) 1) (by kernel_rfl) sel_row (selH_cons (o := z5) (o' := z5) (by kernel_rfl) sel_row trivial))) (by kernel_rfl) (by kernel_rfl))) (L59_3_ok v1 v13 v14 fp0 fuel z6 w1 (w2 ++ [v15]) _ g4)
  ·have hr := Option.some.inj g1
   subst hr
   exact SemC.cast (SemJ.out (e := (.exit 0)) (path hm (σ' := ⟨[(1, .p (.ref [.sl (List.map e70 v1) fp0])), (2, .ptr 0 0 3), (3, .msl 1 0 (List.length w1) (List.length (rowI e3 w1)) false), (4, .msl 2 0 (List.length w2) (List.length (rowI e3 w2)) false)], [z3, .cells (rowI e3 w1) 1, .cells (rowI e3 w2) 1]⟩) (ks := [1, 2, 3, 4]) (cc := [.reg [] [] 0 [(0, none, .b false)] [1, 2, 3, 4, 13, 14, 15, 16]])
    (ai h1 trivial) (by kernel_rfl)) (by simp)) (by kernel_rfl) (by kernel_rfl)
def L59_1  (v1 : (List (Int × Int))) (v13 : (List (Int × Int))) (v14 : Int) : Nat → Int → (List Int) → Option ((List Int) × (List Int))
 | 0, _, _ => none
 | fuel + 1, v15, w1 =>
  oif ((decide (v15 < v14)))
  (obind (sg v13 v15) fun x1 => oif ((decide (x1.1 ≤ x1.2)))
   (oif (decide (((List.length w1) + 1) * 8 ≤ 140737488355328)) (L59_1 v1 v13 v14 fuel (IntKind.wrap .i64 (v15 + 1)) (w1 ++ [v15])) none)
   (oif (decide (1 * 8 ≤ 140737488355328)) (obind (L59_3 v1 v13 v14 fuel (IntKind.wrap .i64 (v15 + 1)) w1 [v15]) fun y2 => some ((y2.1, y2.2))) none))
  (some ((w1, ([] : List Int))))
noncomputable def L59_1_post (v1 : (List (Int × Int))) (v13 : (List (Int × Int))) (v14 : Int) (fp0 : Bool) : ((List Int) × (List Int)) → Ex × St
 | y => ((.exit 0), ⟨[(1, .p (.ref [.sl (List.map e70 v1) fp0])), (2, .ptr 0 0 3), (3, .p (.sl (List.map e3 y.1) false)), (4, .p (.sl (List.map e3 y.2) false))], [.cells [.p (.nilsl), .p (.nilsl), .p (.nilsl)] 0]⟩)
theorem L59_1_ok  (v1 : (List (Int × Int))) (v13 : (List (Int × Int))) (v14 : Int) (fp0 : Bool) : ∀ (fuel : Nat) (v15 : Int) (w1 : (List Int)) (r : ((List Int) × (List Int))), L59_1 v1 v13 v14 fuel v15 w1 = some r →
  SemJ prog ⟨101, 0, false⟩ (codeAt [1, 1, 0, 1, 0, 0] (bodyOf f59)) ⟨[(1, .p (.ref [.sl (List.map e70 v1) fp0])), (2, .ptr 0 0 3), (3, .msl 1 0 (List.length w1) (List.length (rowI e3 w1)) false), (4, .p (.nilsl)), (13, .p (.sl (List.map e70 v13) fp0)), (14, .p (.int .i64 v14)), (15, .p (.int .i64 v15))], [.cells [.p (.nilsl), .p (.nilsl), .p (.nilsl)] 0, .cells (rowI e3 w1) 1]⟩ (L59_1_post v1 v13 v14 fp0 r).1 (L59_1_post v1 v13 v14 fp0 r).2
 | 0, _, _, _, h => nomatch h
 | fuel + 1, v15, w1, r, h => by
  let z8 : MObj := .cells (rowI e3 [v15]) 1
  let z7 : Int := (IntKind.wrap .i64 (v15 + 1))
  let z6 : MObj := .cells (rowI e3 (w1 ++ [v15])) 1
  let z5 : MObj := .cells [.p (.nilsl), .p (.nilsl), .p (.nilsl)] 0
  let z4 : List MObj := [z5, .cells (rowI e3 w1) 1]
  let z3 : Env := [(1, .p (.ref [.sl (List.map e70 v1) fp0])), (2, .ptr 0 0 3), (3, .msl 1 0 (List.length w1) (List.length (rowI e3 w1)) false), (4, .p (.nilsl))]
  let z2 : Env := [(1, .p (.ref [.sl (List.map e70 v1) fp0])), (2, .ptr 0 0 3), (3, .p (.sl (List.map e3 w1) false)), (4, .p (.sl (List.map e3 ([] : List Int)) false))]
  let z1 : Env := [(1, .p (.ref [.sl (List.map e70 v1) fp0])), (2, .ptr 0 0 3), (3, .msl 1 0 (List.length (w1 ++ [v15])) (List.length (rowI e3 (w1 ++ [v15]))) false), (4, .p (.nilsl)), (13, .p (.sl (List.map e70 v13) fp0)), (14, .p (.int .i64 v14)), (15, .p (.int .i64 z7))]
  unfold L59_1 at h
  refine oif_elim h (fun h1 g1 => ?_) (fun h1 g1 => ?_)
  ·refine obind_elim g1 fun x1 h2 g2 => ?_
   let z9 : MObj := .cells [.p (.int .i64 x1.1), .p (.int .i64 x1.2)] 0
   let c33 : List CC := [.reg [] [] 0 [(0, none, .b true)] [1, 2, 3, 4, 13, 14, 15, 16], .reg [] [] 1 [(1, none, .iv (.p (.agg [.int .i64 x1.1, .int .i64 x1.2]))), (3, some 2, .a)] [1, 2, 3, 4, 5, 6, 13, 14, 15]]
   refine oif_elim g2 (fun h3 g3 => ?_) (fun h3 g3 => ?_)
   ·refine oif_elim g3 (fun h4 g4 => ?_) (fun _ h => nomatch h)
    exact SemJ.again (σ1 := ⟨z1, [z5, z6]⟩) (SemC.post (path hm (σ' := ⟨z1, [z5, z6, z9]⟩) (ks := [1, 2, 3, 4, 13, 14, 15]) (cc := c33 ++ [.reg [] [] 0 [(4, none, .b true)] [1, 2, 3, 4, 5, 13, 14, 15, 24], .reg [] [] 0 [(3, none, .ap (rowI e3 (w1 ++ [v15])) (List.length (w1 ++ [v15])) (List.length (rowI e3 (w1 ++ [v15]))))] [1, 2, 3, 4, 13, 14, 15], .reg [] [] 0 [] [1, 2, 3, 4, 13, 14, 15]])
    (ai h1 (ai (sg_map (f := e70) h2) (ai h3 (ai (by decide : 0 < 1) (ai (od h4) (ai (app_c2 (by decide) (od h4)) (ai (app_len e3 [v15] (rl (List.length w1))) (ai (rl (List.length (rowI e3 (w1 ++ [v15])))) (ai (row_app e3 w1 [v15]) (ai (rl (List.length (rowI e3 w1))) (ai (row_sz el3 (rl (List.length (rowI e3 w1))) (rl (List.length w1))) (ai (row_sc el3 [v15]) (ai (row_es el3 [v15]) trivial))))))))))))) (by kernel_rfl)) (Weak.sel [0, 1] (selH_cons (o := z5) (o' := z5) (by kernel_rfl) (sel_x (by kernel_rfl)) (selH_cons (o := z6) (o' := z6) (by kernel_rfl) sel_row trivial)) (by kernel_rfl) (by kernel_rfl))) (L59_1_ok v1 v13 v14 fp0 fuel z7 (w1 ++ [v15]) _ g4)
   ·refine oif_elim g3 (fun h4 g4 => ?_) (fun _ h => nomatch h)
    refine obind_elim g4 fun y2 h5 g5 => ?_
    let z10 : Env := [(1, .p (.ref [.sl (List.map e70 v1) fp0])), (2, .ptr 0 0 3), (3, .p (.sl (List.map e3 y2.1) false)), (4, .p (.sl (List.map e3 y2.2) false))]
    have hr := Option.some.inj g5
    subst hr
    exact SemC.cast (SemJ.again (σ1 := ⟨[(1, .p (.ref [.sl (List.map e70 v1) fp0])), (2, .ptr 0 0 3), (3, .msl 1 0 (List.length w1) (List.length (rowI e3 w1)) false), (4, .msl 2 0 (List.length [v15]) (List.length (rowI e3 [v15])) false), (13, .p (.sl (List.map e70 v13) fp0)), (14, .p (.int .i64 v14)), (15, .p (.int .i64 z7))], [z5, .cells (rowI e3 w1) 1, z8]⟩) (SemC.post (path hm (σ' := ⟨[(1, .p (.ref [.sl (List.map e70 v1) fp0])), (2, .ptr 0 0 3), (3, .msl 1 0 (List.length w1) (List.length (rowI e3 w1)) false), (4, .msl 3 0 (List.length [v15]) (List.length (rowI e3 [v15])) false), (13, .p (.sl (List.map e70 v13) fp0)), (14, .p (.int .i64 v14)), (15, .p (.int .i64 z7))], [z5, .cells (rowI e3 w1) 1, z9, z8]⟩) (ks := [1, 2, 3, 4, 13, 14, 15]) (cc := c33 ++ [.reg [] [] 0 [(4, none, .b false)] [1, 2, 3, 4, 5, 13, 14, 15, 24], .reg [] [] 1 [(3, some 3, .ap (rowI e3 [v15]) (List.length [v15]) (List.length (rowI e3 [v15])))] [1, 2, 3, 4, 13, 14, 15], .reg [] [] 0 [] [1, 2, 3, 4, 13, 14, 15]])
    (ai h1 (ai (sg_map (f := e70) h2) (ai h3 (ai (by decide : 0 < 1) (ai (od h4) (ai (app_c0 (by decide) (od h4)) (ai (rl (List.length [v15])) (ai (rl (List.length (rowI e3 [v15]))) (ai (row_src e3 [v15]) (ai (row_sc el3 [v15]) (ai (row_es el3 [v15]) trivial))))))))))) (by kernel_rfl)) (Weak.sel [0, 1, 3] (selH_cons (o := z5) (o' := z5) (by kernel_rfl) (sel_x (by kernel_rfl)) (selH_cons (o := .cells (rowI e3 w1) 1) (o' := .cells (rowI e3 w1) 1) (by kernel_rfl) sel_row (selH_cons (o := z8) (o' := z8) (by kernel_rfl) sel_row trivial))) (by kernel_rfl) (by kernel_rfl))) (SemC.post (L59_3_ok v1 v13 v14 fp0 fuel z7 w1 [v15] _ h5) (Weak.trans (wcast (Weak.freeze (E := [(1, .p (.ref [.sl (List.map e70 v1) fp0])), (2, .ptr 0 0 3), (3, .msl 1 0 (List.length y2.1) (List.length (rowI e3 y2.1)) false), (4, .msl 2 0 (List.length y2.2) (List.length (rowI e3 y2.2)) false)]) (E' := z10) (H := [z5, .cells (rowI e3 y2.1) 1, .cells (rowI e3 y2.2) 1]) [1, 2] (by kernel_rfl) (.keep _ _ _ _ (.keep _ _ _ _ (.snap _ _ _ _ _ (snap_row (g := 1) (L := y2.1) el3 (by kernel_rfl) (rl (List.length (rowI e3 y2.1))) (rl (List.length y2.1))) (.snap _ _ _ _ _ (snap_row (g := 1) (L := y2.2) el3 (by kernel_rfl) (rl (List.length (rowI e3 y2.2))) (rl (List.length y2.2))) .nil))))) (by kernel_rfl : (⟨z10, puts (dieW [1, 2]) [z5, .cells (rowI e3 y2.1) 1, .cells (rowI e3 y2.2) 1]⟩ : St) = ⟨z10, [z5, .dead, .dead]⟩)) (Weak.sel [0] (selH_cons (o := z5) (o' := z5) (by kernel_rfl) (sel_x (by kernel_rfl)) trivial) (by kernel_rfl) (by kernel_rfl))))) (by kernel_rfl) (by kernel_rfl)
  ·have hr := Option.some.inj g1
   subst hr
   exact SemC.cast (SemJ.out (e := (.exit 0)) (SemC.post (path hm (σ' := ⟨z3, z4⟩) (ks := [1, 2, 3, 4]) (cc := [.reg [] [] 0 [(0, none, .b false)] [1, 2, 3, 4, 13, 14, 15, 16]])
    (ai h1 trivial) (by kernel_rfl)) (Weak.trans (wcast (Weak.freeze (E := z3) (E' := z2) (H := z4) [1] (by kernel_rfl) (.keep _ _ _ _ (.keep _ _ _ _ (.snap _ _ _ _ _ (snap_row (g := 1) (L := w1) el3 (by kernel_rfl) (rl (List.length (rowI e3 w1))) (rl (List.length w1))) (.snap _ _ _ _ _ (.p _ _ (.nil _)) .nil))))) (by kernel_rfl : (⟨z2, puts (dieW [1]) z4⟩ : St) = ⟨z2, [z5, .dead]⟩)) (Weak.sel [0] (selH_cons (o := z5) (o' := z5) (by kernel_rfl) (sel_x (by kernel_rfl)) trivial) (by kernel_rfl) (by kernel_rfl)))) (by simp)) (by kernel_rfl) (by kernel_rfl)
def L59_4  (v1 : (List (Int × Int))) (v13 : (List (Int × Int))) (v14 : Int) : Nat → Int → (List Int) → Option ((List Int) × (List Int))
 | 0, _, _ => none
 | fuel + 1, v15, w1 =>
  oif ((decide (v15 < v14)))
  (obind (sg v13 v15) fun x1 => oif ((decide (x1.1 ≤ x1.2)))
   (oif (decide (1 * 8 ≤ 140737488355328)) (obind (L59_3 v1 v13 v14 fuel (IntKind.wrap .i64 (v15 + 1)) [v15] w1) fun y2 => some ((y2.1, y2.2))) none)
   (oif (decide (((List.length w1) + 1) * 8 ≤ 140737488355328)) (L59_4 v1 v13 v14 fuel (IntKind.wrap .i64 (v15 + 1)) (w1 ++ [v15])) none))
  (some ((([] : List Int), w1)))
noncomputable def L59_4_post (v1 : (List (Int × Int))) (v13 : (List (Int × Int))) (v14 : Int) (fp0 : Bool) : ((List Int) × (List Int)) → Ex × St
 | y => ((.exit 0), ⟨[(1, .p (.ref [.sl (List.map e70 v1) fp0])), (2, .ptr 0 0 3), (3, .p (.sl (List.map e3 y.1) false)), (4, .p (.sl (List.map e3 y.2) false))], [.cells [.p (.nilsl), .p (.nilsl), .p (.nilsl)] 0]⟩)
theorem L59_4_ok  (v1 : (List (Int × Int))) (v13 : (List (Int × Int))) (v14 : Int) (fp0 : Bool) : ∀ (fuel : Nat) (v15 : Int) (w1 : (List Int)) (r : ((List Int) × (List Int))), L59_4 v1 v13 v14 fuel v15 w1 = some r →
  SemJ prog ⟨101, 0, false⟩ (codeAt [1, 1, 0, 1, 0, 0] (bodyOf f59)) ⟨[(1, .p (.ref [.sl (List.map e70 v1) fp0])), (2, .ptr 0 0 3), (3, .p (.nilsl)), (4, .msl 1 0 (List.length w1) (List.length (rowI e3 w1)) false), (13, .p (.sl (List.map e70 v13) fp0)), (14, .p (.int .i64 v14)), (15, .p (.int .i64 v15))], [.cells [.p (.nilsl), .p (.nilsl), .p (.nilsl)] 0, .cells (rowI e3 w1) 1]⟩ (L59_4_post v1 v13 v14 fp0 r).1 (L59_4_post v1 v13 v14 fp0 r).2
 | 0, _, _, _, h => nomatch h
 | fuel + 1, v15, w1, r, h => by
  let z8 : MObj := .cells (rowI e3 [v15]) 1
  let z7 : Int := (IntKind.wrap .i64 (v15 + 1))
  let z6 : MObj := .cells (rowI e3 (w1 ++ [v15])) 1
  let z5 : MObj := .cells [.p (.nilsl), .p (.nilsl), .p (.nilsl)] 0
  let z4 : List MObj := [z5, .cells (rowI e3 w1) 1]
  let z3 : Env := [(1, .p (.ref [.sl (List.map e70 v1) fp0])), (2, .ptr 0 0 3), (3, .p (.nilsl)), (4, .msl 1 0 (List.length w1) (List.length (rowI e3 w1)) false)]
  let z2 : Env := [(1, .p (.ref [.sl (List.map e70 v1) fp0])), (2, .ptr 0 0 3), (3, .p (.sl (List.map e3 ([] : List Int)) false)), (4, .p (.sl (List.map e3 w1) false))]
  let z1 : Env := [(1, .p (.ref [.sl (List.map e70 v1) fp0])), (2, .ptr 0 0 3), (3, .p (.nilsl)), (4, .msl 1 0 (List.length (w1 ++ [v15])) (List.length (rowI e3 (w1 ++ [v15]))) false), (13, .p (.sl (List.map e70 v13) fp0)), (14, .p (.int .i64 v14)), (15, .p (.int .i64 z7))]
  unfold L59_4 at h
  refine oif_elim h (fun h1 g1 => ?_) (fun h1 g1 => ?_)
  ·refine obind_elim g1 fun x1 h2 g2 => ?_
   let z9 : MObj := .cells [.p (.int .i64 x1.1), .p (.int .i64 x1.2)] 0
   let c34 : List CC := [.reg [] [] 0 [(0, none, .b true)] [1, 2, 3, 4, 13, 14, 15, 16], .reg [] [] 1 [(1, none, .iv (.p (.agg [.int .i64 x1.1, .int .i64 x1.2]))), (3, some 2, .a)] [1, 2, 3, 4, 5, 6, 13, 14, 15]]
   refine oif_elim g2 (fun h3 g3 => ?_) (fun h3 g3 => ?_)
   ·refine oif_elim g3 (fun h4 g4 => ?_) (fun _ h => nomatch h)
    refine obind_elim g4 fun y2 h5 g5 => ?_
    let z10 : Env := [(1, .p (.ref [.sl (List.map e70 v1) fp0])), (2, .ptr 0 0 3), (3, .p (.sl (List.map e3 y2.1) false)), (4, .p (.sl (List.map e3 y2.2) false))]
    have hr := Option.some.inj g5
    subst hr
    exact SemC.cast (SemJ.again (σ1 := ⟨[(1, .p (.ref [.sl (List.map e70 v1) fp0])), (2, .ptr 0 0 3), (3, .msl 1 0 (List.length [v15]) (List.length (rowI e3 [v15])) false), (4, .msl 2 0 (List.length w1) (List.length (rowI e3 w1)) false), (13, .p (.sl (List.map e70 v13) fp0)), (14, .p (.int .i64 v14)), (15, .p (.int .i64 z7))], [z5, z8, .cells (rowI e3 w1) 1]⟩) (SemC.post (path hm (σ' := ⟨[(1, .p (.ref [.sl (List.map e70 v1) fp0])), (2, .ptr 0 0 3), (3, .msl 3 0 (List.length [v15]) (List.length (rowI e3 [v15])) false), (4, .msl 1 0 (List.length w1) (List.length (rowI e3 w1)) false), (13, .p (.sl (List.map e70 v13) fp0)), (14, .p (.int .i64 v14)), (15, .p (.int .i64 z7))], [z5, .cells (rowI e3 w1) 1, z9, z8]⟩) (ks := [1, 2, 3, 4, 13, 14, 15]) (cc := c34 ++ [.reg [] [] 0 [(4, none, .b true)] [1, 2, 3, 4, 5, 13, 14, 15, 24], .reg [] [] 1 [(3, some 3, .ap (rowI e3 [v15]) (List.length [v15]) (List.length (rowI e3 [v15])))] [1, 2, 3, 4, 13, 14, 15], .reg [] [] 0 [] [1, 2, 3, 4, 13, 14, 15]])
    (ai h1 (ai (sg_map (f := e70) h2) (ai h3 (ai (by decide : 0 < 1) (ai (od h4) (ai (app_c0 (by decide) (od h4)) (ai (rl (List.length [v15])) (ai (rl (List.length (rowI e3 [v15]))) (ai (row_src e3 [v15]) (ai (row_sc el3 [v15]) (ai (row_es el3 [v15]) trivial))))))))))) (by kernel_rfl)) (Weak.sel [0, 3, 1] (selH_cons (o := z5) (o' := z5) (by kernel_rfl) (sel_x (by kernel_rfl)) (selH_cons (o := z8) (o' := z8) (by kernel_rfl) sel_row (selH_cons (o := .cells (rowI e3 w1) 1) (o' := .cells (rowI e3 w1) 1) (by kernel_rfl) sel_row trivial))) (by kernel_rfl) (by kernel_rfl))) (SemC.post (L59_3_ok v1 v13 v14 fp0 fuel z7 [v15] w1 _ h5) (Weak.trans (wcast (Weak.freeze (E := [(1, .p (.ref [.sl (List.map e70 v1) fp0])), (2, .ptr 0 0 3), (3, .msl 1 0 (List.length y2.1) (List.length (rowI e3 y2.1)) false), (4, .msl 2 0 (List.length y2.2) (List.length (rowI e3 y2.2)) false)]) (E' := z10) (H := [z5, .cells (rowI e3 y2.1) 1, .cells (rowI e3 y2.2) 1]) [1, 2] (by kernel_rfl) (.keep _ _ _ _ (.keep _ _ _ _ (.snap _ _ _ _ _ (snap_row (g := 1) (L := y2.1) el3 (by kernel_rfl) (rl (List.length (rowI e3 y2.1))) (rl (List.length y2.1))) (.snap _ _ _ _ _ (snap_row (g := 1) (L := y2.2) el3 (by kernel_rfl) (rl (List.length (rowI e3 y2.2))) (rl (List.length y2.2))) .nil))))) (by kernel_rfl : (⟨z10, puts (dieW [1, 2]) [z5, .cells (rowI e3 y2.1) 1, .cells (rowI e3 y2.2) 1]⟩ : St) = ⟨z10, [z5, .dead, .dead]⟩)) (Weak.sel [0] (selH_cons (o := z5) (o' := z5) (by kernel_rfl) (sel_x (by kernel_rfl)) trivial) (by kernel_rfl) (by kernel_rfl))))) (by kernel_rfl) (by kernel_rfl)
   ·refine oif_elim g3 (fun h4 g4 => ?_) (fun _ h => nomatch h)
    exact SemJ.again (σ1 := ⟨z1, [z5, z6]⟩) (SemC.post (path hm (σ' := ⟨z1, [z5, z6, z9]⟩) (ks := [1, 2, 3, 4, 13, 14, 15]) (cc := c34 ++ [.reg [] [] 0 [(4, none, .b false)] [1, 2, 3, 4, 5, 13, 14, 15, 24], .reg [] [] 0 [(3, none, .ap (rowI e3 (w1 ++ [v15])) (List.length (w1 ++ [v15])) (List.length (rowI e3 (w1 ++ [v15]))))] [1, 2, 3, 4, 13, 14, 15], .reg [] [] 0 [] [1, 2, 3, 4, 13, 14, 15]])
    (ai h1 (ai (sg_map (f := e70) h2) (ai h3 (ai (by decide : 0 < 1) (ai (od h4) (ai (app_c2 (by decide) (od h4)) (ai (app_len e3 [v15] (rl (List.length w1))) (ai (rl (List.length (rowI e3 (w1 ++ [v15])))) (ai (row_app e3 w1 [v15]) (ai (rl (List.length (rowI e3 w1))) (ai (row_sz el3 (rl (List.length (rowI e3 w1))) (rl (List.length w1))) (ai (row_sc el3 [v15]) (ai (row_es el3 [v15]) trivial))))))))))))) (by kernel_rfl)) (Weak.sel [0, 1] (selH_cons (o := z5) (o' := z5) (by kernel_rfl) (sel_x (by kernel_rfl)) (selH_cons (o := z6) (o' := z6) (by kernel_rfl) sel_row trivial)) (by kernel_rfl) (by kernel_rfl))) (L59_4_ok v1 v13 v14 fp0 fuel z7 (w1 ++ [v15]) _ g4)
  ·have hr := Option.some.inj g1
   subst hr
   exact SemC.cast (SemJ.out (e := (.exit 0)) (SemC.post (path hm (σ' := ⟨z3, z4⟩) (ks := [1, 2, 3, 4]) (cc := [.reg [] [] 0 [(0, none, .b false)] [1, 2, 3, 4, 13, 14, 15, 16]])
    (ai h1 trivial) (by kernel_rfl)) (Weak.trans (wcast (Weak.freeze (E := z3) (E' := z2) (H := z4) [1] (by kernel_rfl) (.keep _ _ _ _ (.keep _ _ _ _ (.snap _ _ _ _ _ (.p _ _ (.nil _)) (.snap _ _ _ _ _ (snap_row (g := 1) (L := w1) el3 (by kernel_rfl) (rl (List.length (rowI e3 w1))) (rl (List.length w1))) .nil))))) (by kernel_rfl : (⟨z2, puts (dieW [1]) z4⟩ : St) = ⟨z2, [z5, .dead]⟩)) (Weak.sel [0] (selH_cons (o := z5) (o' := z5) (by kernel_rfl) (sel_x (by kernel_rfl)) trivial) (by kernel_rfl) (by kernel_rfl)))) (by simp)) (by kernel_rfl) (by kernel_rfl)
def L59_0  (v1 : (List (Int × Int))) (v13 : (List (Int × Int))) (v14 : Int) : Nat → Option (((List Int) × (List Int)) ⊕ Unit)
 | 0 => none
 | fuel + 1 =>
  oif ((decide (0 < v14)))
  (obind (sg v13 0) fun x1 => oif ((decide (x1.1 ≤ x1.2)))
   (oif (decide (1 * 8 ≤ 140737488355328)) (obind (L59_1 v1 v13 v14 fuel 1 [0]) fun y2 => some (.inl (y2.1, y2.2))) none)
   (oif (decide (1 * 8 ≤ 140737488355328)) (obind (L59_4 v1 v13 v14 fuel 1 [0]) fun y2 => some (.inl (y2.1, y2.2))) none))
  (some (.inr (())))
noncomputable def L59_0_post (v1 : (List (Int × Int))) (v13 : (List (Int × Int))) (v14 : Int) (fp0 : Bool) : (((List Int) × (List Int)) ⊕ Unit) → Ex × St
 | .inl y => ((.exit 0), ⟨[(1, .p (.ref [.sl (List.map e70 v1) fp0])), (2, .ptr 0 0 3), (3, .p (.sl (List.map e3 y.1) false)), (4, .p (.sl (List.map e3 y.2) false))], [.cells [.p (.nilsl), .p (.nilsl), .p (.nilsl)] 0]⟩)
 | .inr (y) => ((.exit 0), ⟨[(1, .p (.ref [.sl (List.map e70 v1) fp0])), (2, .ptr 0 0 3), (3, .p (.nilsl)), (4, .p (.nilsl))], [.cells [.p (.nilsl), .p (.nilsl), .p (.nilsl)] 0]⟩)
theorem L59_0_ok  (v1 : (List (Int × Int))) (v13 : (List (Int × Int))) (v14 : Int) (fp0 : Bool) : ∀ (fuel : Nat)  (r : (((List Int) × (List Int)) ⊕ Unit)), L59_0 v1 v13 v14 fuel  = some r →
  SemJ prog ⟨101, 0, false⟩ (codeAt [1, 1, 0, 1, 0, 0] (bodyOf f59)) ⟨[(1, .p (.ref [.sl (List.map e70 v1) fp0])), (2, .ptr 0 0 3), (3, .p (.nilsl)), (4, .p (.nilsl)), (13, .p (.sl (List.map e70 v13) fp0)), (14, .p (.int .i64 v14)), (15, .p (.int .i64 0))], [.cells [.p (.nilsl), .p (.nilsl), .p (.nilsl)] 0]⟩ (L59_0_post v1 v13 v14 fp0 r).1 (L59_0_post v1 v13 v14 fp0 r).2
 | 0, _, h => nomatch h
 | fuel + 1, r, h => by
  let z2 : MObj := .cells [.p (.nilsl), .p (.nilsl), .p (.nilsl)] 0
  let z1 : List MObj := [z2, .cells (rowI e3 [0]) 1]
  unfold L59_0 at h
  refine oif_elim h (fun h1 g1 => ?_) (fun h1 g1 => ?_)
  ·refine obind_elim g1 fun x1 h2 g2 => ?_
   let z3 : MObj := .cells [.p (.int .i64 x1.1), .p (.int .i64 x1.2)] 0
   let c35 : List CC := [.reg [] [] 0 [(0, none, .b true)] [1, 2, 3, 4, 13, 14, 15, 16], .reg [] [] 1 [(1, none, .iv (.p (.agg [.int .i64 x1.1, .int .i64 x1.2]))), (3, some 1, .a)] [1, 2, 3, 4, 5, 6, 13, 14, 15]]
   refine oif_elim g2 (fun h3 g3 => ?_) (fun h3 g3 => ?_)
   ·refine oif_elim g3 (fun h4 g4 => ?_) (fun _ h => nomatch h)
    refine obind_elim g4 fun y2 h5 g5 => ?_
    have hr := Option.some.inj g5
    subst hr
    exact SemC.cast (SemJ.again (σ1 := ⟨[(1, .p (.ref [.sl (List.map e70 v1) fp0])), (2, .ptr 0 0 3), (3, .msl 1 0 (List.length [0]) (List.length (rowI e3 [0])) false), (4, .p (.nilsl)), (13, .p (.sl (List.map e70 v13) fp0)), (14, .p (.int .i64 v14)), (15, .p (.int .i64 1))], z1⟩) (SemC.post (path hm (σ' := ⟨[(1, .p (.ref [.sl (List.map e70 v1) fp0])), (2, .ptr 0 0 3), (3, .msl 2 0 (List.length [0]) (List.length (rowI e3 [0])) false), (4, .p (.nilsl)), (13, .p (.sl (List.map e70 v13) fp0)), (14, .p (.int .i64 v14)), (15, .p (.int .i64 1))], [z2, z3, .cells (rowI e3 [0]) 1]⟩) (ks := [1, 2, 3, 4, 13, 14, 15]) (cc := c35 ++ [.reg [] [] 0 [(4, none, .b true)] [1, 2, 3, 4, 5, 13, 14, 15, 24], .reg [] [] 1 [(3, some 2, .ap (rowI e3 [0]) (List.length [0]) (List.length (rowI e3 [0])))] [1, 2, 3, 4, 13, 14, 15], .reg [] [] 0 [] [1, 2, 3, 4, 13, 14, 15]])
    (ai h1 (ai (sg_map (f := e70) h2) (ai h3 (ai (by decide : 0 < 1) (ai (od h4) (ai (app_c0 (by decide) (od h4)) (ai (rl (List.length [0])) (ai (rl (List.length (rowI e3 [0]))) (ai (row_src e3 [0]) (ai (row_sc el3 [0]) (ai (row_es el3 [0]) trivial))))))))))) (by kernel_rfl)) (Weak.sel [0, 2] (selH_cons (o := z2) (o' := z2) (by kernel_rfl) (sel_x (by kernel_rfl)) (selH_cons (o := .cells (rowI e3 [0]) 1) (o' := .cells (rowI e3 [0]) 1) (by kernel_rfl) sel_row trivial)) (by kernel_rfl) (by kernel_rfl))) (L59_1_ok v1 v13 v14 fp0 fuel 1 [0] _ h5)) (by kernel_rfl) (by kernel_rfl)
   ·refine oif_elim g3 (fun h4 g4 => ?_) (fun _ h => nomatch h)
    refine obind_elim g4 fun y2 h5 g5 => ?_
    have hr := Option.some.inj g5
    subst hr
    exact SemC.cast (SemJ.again (σ1 := ⟨[(1, .p (.ref [.sl (List.map e70 v1) fp0])), (2, .ptr 0 0 3), (3, .p (.nilsl)), (4, .msl 1 0 (List.length [0]) (List.length (rowI e3 [0])) false), (13, .p (.sl (List.map e70 v13) fp0)), (14, .p (.int .i64 v14)), (15, .p (.int .i64 1))], z1⟩) (SemC.post (path hm (σ' := ⟨[(1, .p (.ref [.sl (List.map e70 v1) fp0])), (2, .ptr 0 0 3), (3, .p (.nilsl)), (4, .msl 2 0 (List.length [0]) (List.length (rowI e3 [0])) false), (13, .p (.sl (List.map e70 v13) fp0)), (14, .p (.int .i64 v14)), (15, .p (.int .i64 1))], [z2, z3, .cells (rowI e3 [0]) 1]⟩) (ks := [1, 2, 3, 4, 13, 14, 15]) (cc := c35 ++ [.reg [] [] 0 [(4, none, .b false)] [1, 2, 3, 4, 5, 13, 14, 15, 24], .reg [] [] 1 [(3, some 2, .ap (rowI e3 [0]) (List.length [0]) (List.length (rowI e3 [0])))] [1, 2, 3, 4, 13, 14, 15], .reg [] [] 0 [] [1, 2, 3, 4, 13, 14, 15]])
    (ai h1 (ai (sg_map (f := e70) h2) (ai h3 (ai (by decide : 0 < 1) (ai (od h4) (ai (app_c0 (by decide) (od h4)) (ai (rl (List.length [0])) (ai (rl (List.length (rowI e3 [0]))) (ai (row_src e3 [0]) (ai (row_sc el3 [0]) (ai (row_es el3 [0]) trivial))))))))))) (by kernel_rfl)) (Weak.sel [0, 2] (selH_cons (o := z2) (o' := z2) (by kernel_rfl) (sel_x (by kernel_rfl)) (selH_cons (o := .cells (rowI e3 [0]) 1) (o' := .cells (rowI e3 [0]) 1) (by kernel_rfl) sel_row trivial)) (by kernel_rfl) (by kernel_rfl))) (L59_4_ok v1 v13 v14 fp0 fuel 1 [0] _ h5)) (by kernel_rfl) (by kernel_rfl)
  ·have hr := Option.some.inj g1
   subst hr
   exact SemC.cast (SemJ.out (e := (.exit 0)) (path hm (σ' := ⟨[(1, .p (.ref [.sl (List.map e70 v1) fp0])), (2, .ptr 0 0 3), (3, .p (.nilsl)), (4, .p (.nilsl))], [z2]⟩) (ks := [1, 2, 3, 4]) (cc := [.reg [] [] 0 [(0, none, .b false)] [1, 2, 3, 4, 13, 14, 15, 16]])
    (ai h1 trivial) (by kernel_rfl)) (by simp)) (by kernel_rfl) (by kernel_rfl)
def F74  (fuel : Nat) (p0 : Int) (p1 : Int) (p2 : (List (Int × Int))) : Option Bool :=
 obind (sg p2 p0) fun x1 => obind (sg p2 p1) fun x2 => oif ((decide (x1.1 > x2.1)))
 (some true)
 (some false)
theorem F74_ok  (fuel : Nat) (p0 : Int) (p1 : Int) (p2 : (List (Int × Int)))  (r : Bool) (h : F74 fuel p0 p1 p2 = some r) : CallP prog 74 [.int .i64 p0, .int .i64 p1, .ref [.sl (List.map e70 p2) false]] (.bool r) := by
 unfold F74 at h
 refine obind_elim h fun x1 h1 g1 => ?_
 refine obind_elim g1 fun x2 h2 g2 => ?_
 refine oif_elim g2 (fun h3 g3 => ?_) (fun h3 g3 => ?_)
 ·have hr := Option.some.inj g3
  subst hr
  exact callP_of is74 rfl (path hm (ks := [5]) (σ' := ⟨[(5, .p (.bool true))], []⟩) (cc := [.reg [] [] 0 [] [0, 1, 2], .reg [0, 0, 3, 7, 15, 0, 0, 96, 224, 480, 1023, 2047] [] 0 [(2, none, .iv (.p (.agg [.int .i64 x1.1, .int .i64 x1.2]))), (7, none, .iv (.p (.agg [.int .i64 x2.1, .int .i64 x2.2]))), (10, none, .b true)] [5]])
   (ai (sg_map (f := e70) h1) (ai (sg_map (f := e70) h2) (ai h3 trivial))) (by kernel_rfl)) (e := .ret) rfl (vs := [.p (.bool true)]) trivial (by kernel_rfl) (.p _ _ (.refl _))
 ·have hr := Option.some.inj g3
  subst hr
  exact callP_of is74 rfl (path hm (ks := [5]) (σ' := ⟨[(5, .p (.bool false))], []⟩) (cc := [.reg [] [] 0 [] [0, 1, 2], .reg [0, 0, 3, 7, 15, 0, 0, 96, 224, 480, 1023, 2047] [] 0 [(2, none, .iv (.p (.agg [.int .i64 x1.1, .int .i64 x1.2]))), (7, none, .iv (.p (.agg [.int .i64 x2.1, .int .i64 x2.2]))), (10, none, .b false)] [5]])
   (ai (sg_map (f := e70) h1) (ai (sg_map (f := e70) h2) (ai h3 trivial))) (by kernel_rfl)) (e := .ret) rfl (vs := [.p (.bool false)]) trivial (by kernel_rfl) (.p _ _ (.refl _))
def L76_0  (v1 : (List (Int × Int))) (v12 : (List Int)) (v13 : Int) : Nat → Int → Int → Option Int
 | 0, _, _ => none
 | fuel + 1, v5, v14 =>
  oif ((decide (v14 < v13)))
  (obind (sg v12 v14) fun x1 => obind (F74 fuel x1 v5 v1) fun r2 => oif (r2)
   (L76_0 v1 v12 v13 fuel x1 (IntKind.wrap .i64 (v14 + 1)))
   (L76_0 v1 v12 v13 fuel v5 (IntKind.wrap .i64 (v14 + 1))))
  (some (v5))
noncomputable def L76_0_post (v1 : (List (Int × Int))) (v12 : (List Int)) (v13 : Int) (fp0 : Bool) : Int → Ex × St
 | y => ((.exit 0), ⟨[(5, .p (.int .i64 y))], []⟩)
theorem L76_0_ok  (v1 : (List (Int × Int))) (v12 : (List Int)) (v13 : Int) (fp0 : Bool) : ∀ (fuel : Nat) (v5 : Int) (v14 : Int) (r : Int), L76_0 v1 v12 v13 fuel v5 v14 = some r →
  SemJ prog ⟨25, 0, false⟩ (codeAt [1, 1, 0, 1, 0, 0] (bodyOf f76)) ⟨[(1, .p (.fn 74 [] [.ref [.sl (List.map e70 v1) false]])), (5, .p (.int .i64 v5)), (12, .p (.sl (List.map e3 v12) fp0)), (13, .p (.int .i64 v13)), (14, .p (.int .i64 v14))], []⟩ (L76_0_post v1 v12 v13 fp0 r).1 (L76_0_post v1 v12 v13 fp0 r).2
 | 0, _, _, _, h => nomatch h
 | fuel + 1, v5, v14, r, h => by
  let z2 : Int := (IntKind.wrap .i64 (v14 + 1))
  let z1 : St := ⟨[(1, .p (.fn 74 [] [.ref [.sl (List.map e70 v1) false]])), (5, .p (.int .i64 v5)), (12, .p (.sl (List.map e3 v12) fp0)), (13, .p (.int .i64 v13)), (14, .p (.int .i64 z2))], []⟩
  unfold L76_0 at h
  refine oif_elim h (fun h1 g1 => ?_) (fun h1 g1 => ?_)
  ·refine obind_elim g1 fun x1 h2 g2 => ?_
   refine obind_elim g2 fun r2 h3 g3 => ?_
   let c36 : List CC := [.reg [] [] 0 [(0, none, .b true)] [1, 5, 12, 13, 14, 15], .reg [] [] 0 [(0, none, .iv (.p (.int .i64 x1)))] [1, 5, 7, 12, 13, 14]]
   refine oif_elim g3 (fun h4 g4 => ?_) (fun h4 g4 => ?_)
   ·subst h4
    exact SemJ.again (σ1 := ⟨[(1, .p (.fn 74 [] [.ref [.sl (List.map e70 v1) false]])), (5, .p (.int .i64 x1)), (12, .p (.sl (List.map e3 v12) fp0)), (13, .p (.int .i64 v13)), (14, .p (.int .i64 z2))], []⟩) (path hm (σ' := ⟨[(1, .p (.fn 74 [] [.ref [.sl (List.map e70 v1) false]])), (5, .p (.int .i64 x1)), (12, .p (.sl (List.map e3 v12) fp0)), (13, .p (.int .i64 v13)), (14, .p (.int .i64 z2))], []⟩) (ks := [1, 5, 12, 13, 14]) (cc := c36 ++ [.reg [] [] 0 [(3, none, .call (.bool true))] [1, 5, 7, 12, 13, 14, 21], .reg [] [] 0 [] [1, 5, 12, 13, 14], .reg [] [] 0 [] [1, 5, 12, 13, 14]])
    (ai h1 (ai (sg_map (f := e3) h2) (ai (F74_ok fuel x1 v5 v1 _ h3) trivial))) (by kernel_rfl)) (L76_0_ok v1 v12 v13 fp0 fuel x1 z2 _ g4)
   ·subst h4
    exact SemJ.again (σ1 := z1) (path hm (σ' := z1) (ks := [1, 5, 12, 13, 14]) (cc := c36 ++ [.reg [] [] 0 [(3, none, .call (.bool false))] [1, 5, 7, 12, 13, 14, 21], .reg [] [] 0 [] [1, 5, 12, 13, 14]])
    (ai h1 (ai (sg_map (f := e3) h2) (ai (F74_ok fuel x1 v5 v1 _ h3) trivial))) (by kernel_rfl)) (L76_0_ok v1 v12 v13 fp0 fuel v5 z2 _ g4)
  ·have hr := Option.some.inj g1
   subst hr
   exact SemC.cast (SemJ.out (e := (.exit 0)) (path hm (σ' := ⟨[(5, .p (.int .i64 v5))], []⟩) (ks := [5]) (cc := [.reg [] [] 0 [(0, none, .b false)] [1, 5, 12, 13, 14, 15]])
    (ai h1 trivial) (by kernel_rfl)) (by simp)) (by kernel_rfl) (by kernel_rfl)
def F76  (fuel : Nat) (p0 : (List Int)) (p1ay : (List (Int × Int))) : Option Int :=
 obind (sg p0 0) fun x1 => obind (subL p0 (some 1) none) fun x2 => obind (L76_0 p1ay x2 (x2.length : Int) fuel x1 0) fun y3 => some y3
theorem F76_ok  (fuel : Nat) (p0 : (List Int)) (p1ay : (List (Int × Int))) (fp0 : Bool) (r : Int) (h : F76 fuel p0 p1ay = some r) : CallP prog 76 [.sl (List.map e3 p0) fp0, .fn 74 [] [.ref [.sl (List.map e70 p1ay) false]]] (.int .i64 r) := by
 unfold F76 at h
 refine obind_elim h fun x1 h1 g1 => ?_
 refine obind_elim g1 fun x2 h2 g2 => ?_
 refine obind_elim g2 fun y3 h3 g3 => ?_
 have hr := Option.some.inj g3
 subst hr
 exact callP_of is76 rfl (path hm (ks := [4]) (σ' := ⟨[(4, .p (.int .i64 y3))], []⟩) (cc := [.reg [] [] 0 [] [0, 1], .reg [] [] 0 [(1, none, .iv (.p (.int .i64 x1)))] [0, 1, 5], .reg [] [] 0 [(1, none, .pvs (List.map e3 x2)), (2, none, .n (x2.length : Int))] [1, 5, 12, 13, 14], .leaf (.exit 0) ⟨[(5, .p (.int .i64 y3))], []⟩, .reg [] [] 0 [] [4]])
   (ai (sg_map (f := e3) h1) (ai (sub_eq e3 h2) (ai (row_es el3 p0) (ai (sub_lo0 h2) (ai (sub_lo1 e3 h2) (ai (len_map e3 x2) (ai (SemJ.loop (L76_0_ok p1ay x2 (x2.length : Int) fp0 fuel x1 0 _ h3)) trivial))))))) (by kernel_rfl)) (e := .ret) rfl (vs := [.p (.int .i64 y3)]) trivial (by kernel_rfl) (.p _ _ (.refl _))
def F79  (fuel : Nat) (p0 : (List Int)) : Option (List Int) :=
 oif (List.isEmpty p0)
 (some [])
 (oif (decide ((List.length (List.map e3 p0)) * 8 ≤ 140737488355328)) (some p0) none)
theorem F79_own  (fuel : Nat) (p0 : (List Int)) (fp0 : Bool) (r : (List Int)) (h : F79 fuel p0 = some r) (hne : List.isEmpty r = false) : CallO prog 79 [.sl (List.map e3 p0) fp0] (rowI e3 r) (List.length r) 1 := by
 unfold F79 at h
 refine oif_elim h (fun h1 g1 => ?_) (fun h1 g1 => ?_)
 ·have hr := Option.some.inj g1
  subst hr
  cases hne
 ·refine oif_elim g1 (fun h2 g2 => ?_) (fun _ h => nomatch h)
  have hr := Option.some.inj g2
  subst hr
  exact callO_of (l := 0) (x := false) (L := p0) el3 is79 rfl (path hm (ks := [2]) (σ' := ⟨[(2, .msl 0 0 (List.length p0) (List.length (rowI e3 p0)) false)], [.cells (rowI e3 p0) 1]⟩) (cc := [.reg [] [] 0 [] [0], .reg [] [] 0 [] [0, 4], .reg [] [] 1 [(2, some 0, .ap (rowI e3 p0) (List.length p0) (List.length (rowI e3 p0)))] [2]])
   (ai (map_ne (f := e3) h1) (ai (notEmpty_len e3 h1) (ai (app_e1 (m := (List.length (List.map e3 p0))) (od h2)) (ai (app_e2 (m := (List.length (List.map e3 p0))) (by decide) (od h2)) (ai (app_e3 e3 p0) (ai (rl (List.length (rowI e3 p0))) (ai (row_src e3 p0) (ai (row_sc el3 p0) (ai (row_es el3 p0) (ai (fun _ h => nomatch h : ∀ y ∈ ([] : List PV), y.cells.length = 1) trivial)))))))))) (by kernel_rfl)) (e := .ret) rfl trivial (by kernel_rfl) (by kernel_rfl) (rl (List.length (rowI e3 p0))) (rl (List.length p0))
def F89  (fuel : Nat) (p0 : Int) (p1 : Int) : Option Bool :=
 oif ((p0 == p1))
 (some true)
 (some false)
theorem F89_ok  (fuel : Nat) (p0 : Int) (p1 : Int)  (r : Bool) (h : F89 fuel p0 p1 = some r) : CallP prog 89 [.int .i64 p0, .ref [.int .i64 p1]] (.bool r) := by
 unfold F89 at h
 refine oif_elim h (fun h1 g1 => ?_) (fun h1 g1 => ?_)
 ·have hr := Option.some.inj g1
  subst hr
  exact callP_of is89 rfl (path hm (ks := [3]) (σ' := ⟨[(3, .p (.bool true))], []⟩) (cc := [.reg [] [] 0 [] [0, 1], .reg [] [] 0 [(2, none, .b true)] [3]])
   (ai h1 trivial) (by kernel_rfl)) (e := .ret) rfl (vs := [.p (.bool true)]) trivial (by kernel_rfl) (.p _ _ (.refl _))
 ·have hr := Option.some.inj g1
  subst hr
  exact callP_of is89 rfl (path hm (ks := [3]) (σ' := ⟨[(3, .p (.bool false))], []⟩) (cc := [.reg [] [] 0 [] [0, 1], .reg [] [] 0 [(2, none, .b false)] [3]])
   (ai h1 trivial) (by kernel_rfl)) (e := .ret) rfl (vs := [.p (.bool false)]) trivial (by kernel_rfl) (.p _ _ (.refl _))
def L84_0  (v0 : (List Int)) (v1 : Int) (v7 : Int) : Nat → Int → Option (Int ⊕ Unit)
 | 0, _ => none
 | fuel + 1, v8 =>
  oif ((decide (v8 < v7)))
  (obind (sg v0 v8) fun x1 => obind (F89 fuel x1 v1) fun r2 => oif (r2)
   (some (.inl v8))
   (L84_0 v0 v1 v7 fuel (IntKind.wrap .i64 (v8 + 1))))
  (some (.inr (())))
noncomputable def L84_0_post (v0 : (List Int)) (v1 : Int) (v7 : Int) (fp0 : Bool) : (Int ⊕ Unit) → Ex × St
 | .inl y => (.ret, ⟨[(4, .p (.int .i64 y))], []⟩)
 | .inr (y) => ((.exit 0), ⟨[], []⟩)
theorem L84_0_ok  (v0 : (List Int)) (v1 : Int) (v7 : Int) (fp0 : Bool) : ∀ (fuel : Nat) (v8 : Int) (r : (Int ⊕ Unit)), L84_0 v0 v1 v7 fuel v8 = some r →
  SemJ prog ⟨19, 0, false⟩ (codeAt [1, 0, 1, 0, 0] (bodyOf f84)) ⟨[(0, .p (.sl (List.map e3 v0) fp0)), (1, .p (.fn 89 [] [.ref [.int .i64 v1]])), (7, .p (.int .i64 v7)), (8, .p (.int .i64 v8))], []⟩ (L84_0_post v0 v1 v7 fp0 r).1 (L84_0_post v0 v1 v7 fp0 r).2
 | 0, _, _, h => nomatch h
 | fuel + 1, v8, r, h => by
  let z2 : Int := (IntKind.wrap .i64 (v8 + 1))
  let z1 : St := ⟨[(0, .p (.sl (List.map e3 v0) fp0)), (1, .p (.fn 89 [] [.ref [.int .i64 v1]])), (7, .p (.int .i64 v7)), (8, .p (.int .i64 z2))], []⟩
  unfold L84_0 at h
  refine oif_elim h (fun h1 g1 => ?_) (fun h1 g1 => ?_)
  ·refine obind_elim g1 fun x1 h2 g2 => ?_
   refine obind_elim g2 fun r2 h3 g3 => ?_
   let c37 : List CC := [.reg [] [] 0 [(0, none, .b true)] [0, 1, 7, 8, 9], .reg [] [] 0 [] [0, 1, 5, 7, 8]]
   refine oif_elim g3 (fun h4 g4 => ?_) (fun h4 g4 => ?_)
   ·subst h4
    have hr := Option.some.inj g4
    subst hr
    exact SemC.cast (SemJ.out (e := .ret) (path hm (σ' := ⟨[(4, .p (.int .i64 v8))], []⟩) (ks := [4]) (cc := c37 ++ [.reg [] [] 0 [(3, none, .iv (.p (.int .i64 x1))), (5, none, .call (.bool true))] [0, 1, 5, 7, 8, 16], .reg [] [] 0 [] [4]])
    (ai h1 (ai (sg_map (f := e3) h2) (ai (F89_ok fuel x1 v1 _ h3) trivial))) (by kernel_rfl)) (by simp)) (by kernel_rfl) (by kernel_rfl)
   ·subst h4
    exact SemJ.again (σ1 := z1) (path hm (σ' := z1) (ks := [0, 1, 7, 8]) (cc := c37 ++ [.reg [] [] 0 [(3, none, .iv (.p (.int .i64 x1))), (5, none, .call (.bool false))] [0, 1, 5, 7, 8, 16], .reg [] [] 0 [] [0, 1, 7, 8]])
    (ai h1 (ai (sg_map (f := e3) h2) (ai (F89_ok fuel x1 v1 _ h3) trivial))) (by kernel_rfl)) (L84_0_ok v0 v1 v7 fp0 fuel z2 _ g4)
  ·have hr := Option.some.inj g1
   subst hr
   exact SemC.cast (SemJ.out (e := (.exit 0)) (path hm (σ' := ⟨[], []⟩) (ks := []) (cc := [.reg [] [] 0 [(0, none, .b false)] [0, 1, 7, 8, 9]])
    (ai h1 trivial) (by kernel_rfl)) (by simp)) (by kernel_rfl) (by kernel_rfl)
def F84  (fuel : Nat) (p0 : (List Int)) (p1ay : Int) : Option Int :=
 (obind (L84_0 p0 p1ay (p0.length : Int) fuel 0) fun y1 => match y1 with
 | .inl y1 => some y1
 | .inr (y1) => some (-1))
theorem F84_ok  (fuel : Nat) (p0 : (List Int)) (p1ay : Int) (fp0 : Bool) (r : Int) (h : F84 fuel p0 p1ay = some r) : CallP prog 84 [.sl (List.map e3 p0) fp0, .fn 89 [] [.ref [.int .i64 p1ay]]] (.int .i64 r) := by
 unfold F84 at h
 let c38 : List CC := [.reg [] [] 0 [] [0, 1], .reg [] [] 0 [(1, none, .n (p0.length : Int))] [0, 1, 7, 8]]
 refine obind_elim h fun y h1 g1 => ?_
 match y, h1, g1 with
 | .inl y1, h1, g1 =>
  let z1 : St := ⟨[(4, .p (.int .i64 y1))], []⟩
  have hr := Option.some.inj g1
  subst hr
  exact callP_of is84 rfl (path hm (ks := [4]) (σ' := z1) (cc := c38 ++ [.leaf .ret z1])
   (ai (len_map e3 p0) (ai (SemJ.loop (L84_0_ok p0 p1ay (p0.length : Int) fp0 fuel 0 _ h1)) trivial)) (by kernel_rfl)) (e := .ret) rfl (vs := [.p (.int .i64 y1)]) trivial (by kernel_rfl) (.p _ _ (.refl _))
 | .inr (y1), h1, g1 =>
  have hr := Option.some.inj g1
  subst hr
  exact callP_of is84 rfl (path hm (ks := [4]) (σ' := ⟨[(4, .p (.int .i64 (-1)))], []⟩) (cc := c38 ++ [.leaf (.exit 0) ⟨[], []⟩, .reg [] [] 0 [] [4]])
   (ai (len_map e3 p0) (ai (SemJ.loop (L84_0_ok p0 p1ay (p0.length : Int) fp0 fuel 0 _ h1)) trivial)) (by kernel_rfl)) (e := .ret) rfl (vs := [.p (.int .i64 (-1))]) trivial (by kernel_rfl) (.p _ _ (.refl _))
def L88_2_0  (v1 : Int) : Nat → Int → Int → (List Int) → Option (Int × (List Int))
 | 0, _, _, _ => none
 | fuel + 1, v5, v6, w2 =>
  oif ((decide (v6 < (((List.length w2) : Nat) : Int))))
  (oif (decide ((0:Int) ≤ v6)) (oif (decide ((v6 : Int) < (((List.length w2) : Nat) : Int))) (obind (sg w2 v6) fun x1 => obind (F89 fuel x1 v1) fun r2 => oif (r2)
   (L88_2_0 v1 fuel v5 (IntKind.wrap .i64 (v6 + 1)) w2)
   (oif (decide ((0:Int) ≤ v5)) (oif (decide ((v5 : Int) < (((List.length w2) : Nat) : Int))) (obind (stL w2 v5 x1) fun x3 => L88_2_0 v1 fuel (IntKind.wrap .i64 (v5 + 1)) (IntKind.wrap .i64 (v6 + 1)) x3) none) none)) none) none)
  (some ((v5, w2)))
noncomputable def L88_2_0_post (v1 : Int)  : (Int × (List Int)) → Ex × St
 | y => ((.exit 0), ⟨[(0, .msl 2 0 (List.length y.2) (List.length (rowI e3 y.2)) false), (5, .p (.int .i64 y.1))], [.cells [.p (.nilsl), .p (.nilsl), .p (.nilsl)] 0, .hole, .cells (rowI e3 y.2) 1]⟩)
theorem L88_2_0_ok  (v1 : Int)  : ∀ (fuel : Nat) (v5 : Int) (v6 : Int) (w2 : (List Int)) (r : (Int × (List Int))), L88_2_0 v1 fuel v5 v6 w2 = some r →
  SemJ prog ⟨42, 3, false⟩ (codeAt [1, 1, 1, 0, 1, 0, 0] (bodyOf f88)) ⟨[(0, .msl 2 0 (List.length w2) (List.length (rowI e3 w2)) false), (1, .p (.fn 89 [] [.ref [.int .i64 v1]])), (5, .p (.int .i64 v5)), (6, .p (.int .i64 v6))], [.cells [.p (.nilsl), .p (.nilsl), .p (.nilsl)] 0, .hole, .cells (rowI e3 w2) 1]⟩ (L88_2_0_post v1 r).1 (L88_2_0_post v1 r).2
 | 0, _, _, _, _, h => nomatch h
 | fuel + 1, v5, v6, w2, r, h => by
  let z5 : Int := (IntKind.wrap .i64 (v5 + 1))
  let z4 : Int := (IntKind.wrap .i64 (v6 + 1))
  let z3 : MObj := .cells [.p (.nilsl), .p (.nilsl), .p (.nilsl)] 0
  let z2 : List MObj := [z3, .hole, .cells (rowI e3 w2) 1]
  let z1 : St := ⟨[(0, .msl 2 0 (List.length w2) (List.length (rowI e3 w2)) false), (1, .p (.fn 89 [] [.ref [.int .i64 v1]])), (5, .p (.int .i64 v5)), (6, .p (.int .i64 z4))], z2⟩
  unfold L88_2_0 at h
  refine oif_elim h (fun h1 g1 => ?_) (fun h1 g1 => ?_)
  ·refine oif_elim g1 (fun h2 g2 => ?_) (fun _ h => nomatch h)
   refine oif_elim g2 (fun h3 g3 => ?_) (fun _ h => nomatch h)
   refine obind_elim g3 fun x1 h4 g4 => ?_
   refine obind_elim g4 fun r2 h5 g5 => ?_
   let c49 : List CC := [.reg [] [] 0 [(3, none, .b true)] [0, 1, 5, 6, 19], .reg [] [] 0 [(3, none, .iv (.p (.int .i64 x1)))] [0, 1, 5, 6, 7]]
   have q50 := fun {P : Prop} (t : P) => ai h1 (ai (od h2) (ai (od h3) (ai (rl (List.length (rowI e3 w2))) (ai (row_get el3 h4 rfl) (ai (F89_ok fuel x1 v1 _ h5) t)))))
   refine oif_elim g5 (fun h6 g6 => ?_) (fun h6 g6 => ?_)
   ·subst h6
    exact SemJ.again (σ1 := z1) (path hm (σ' := z1) (ks := [0, 1, 5, 6]) (cc := c49 ++ [.reg [] [] 0 [(2, none, .call (.bool true))] [0, 1, 5, 6, 7, 29], .reg [] [] 0 [] [0, 1, 5, 6]])
    (q50 trivial) (by kernel_rfl)) (L88_2_0_ok v1 fuel v5 z4 w2 _ g6)
   ·subst h6
    refine oif_elim g6 (fun h7 g7 => ?_) (fun _ h => nomatch h)
    refine oif_elim g7 (fun h8 g8 => ?_) (fun _ h => nomatch h)
    refine obind_elim g8 fun x3 h9 g9 => ?_
    exact SemJ.again (σ1 := ⟨[(0, .msl 2 0 (List.length x3) (List.length (rowI e3 x3)) false), (1, .p (.fn 89 [] [.ref [.int .i64 v1]])), (5, .p (.int .i64 z5)), (6, .p (.int .i64 z4))], [z3, .hole, .cells (rowI e3 x3) 1]⟩) (SemC.post (path hm (σ' := ⟨[(0, .msl 2 0 (List.length w2) (List.length (rowI e3 w2)) false), (1, .p (.fn 89 [] [.ref [.int .i64 v1]])), (5, .p (.int .i64 z5)), (6, .p (.int .i64 z4))], [z3, .hole, .cells (rowI e3 x3) 1]⟩) (ks := [0, 1, 5, 6]) (cc := c49 ++ [.reg [] [] 0 [(2, none, .call (.bool false))] [0, 1, 5, 6, 7, 29], .reg [] [] 0 [(4, none, .cs (rowI e3 x3))] [0, 1, 5, 6], .reg [] [] 0 [] [0, 1, 5, 6], .reg [] [] 0 [] [0, 1, 5, 6]])
    (q50 (ai (od h7) (ai (od h8) (ai (rl (List.length (rowI e3 w2))) (ai (Nat.le_trans (row_fit el3 (stL_0 h9) (stL_lt h9)) (Nat.le_of_eq (rl (List.length (rowI e3 w2))))) (ai (row_put el3 h9) trivial)))))) (by kernel_rfl)) (Weak.trans (Weak.eq (congrArg (fun ZZ : Nat => (⟨[(0, .msl 2 0 ZZ (List.length (rowI e3 w2)) false), (1, .p (.fn 89 [] [.ref [.int .i64 v1]])), (5, .p (.int .i64 z5)), (6, .p (.int .i64 z4))], [z3, .hole, .cells (rowI e3 x3) 1]⟩ : St)) (Eq.symm ((stL_len h9).trans (rl (List.length w2)))))) (Weak.eq (congrArg (fun ZZ : Nat => (⟨[(0, .msl 2 0 (List.length x3) ZZ false), (1, .p (.fn 89 [] [.ref [.int .i64 v1]])), (5, .p (.int .i64 z5)), (6, .p (.int .i64 z4))], [z3, .hole, .cells (rowI e3 x3) 1]⟩ : St)) (Eq.symm ((row_setlen el3 h9).trans (rl (List.length (rowI e3 w2))))))))) (L88_2_0_ok v1 fuel z5 z4 x3 _ g9)
  ·have hr := Option.some.inj g1
   subst hr
   exact SemC.cast (SemJ.out (e := (.exit 0)) (path hm (σ' := ⟨[(0, .msl 2 0 (List.length w2) (List.length (rowI e3 w2)) false), (5, .p (.int .i64 v5))], z2⟩) (ks := [0, 5]) (cc := [.reg [] [] 0 [(3, none, .b false)] [0, 1, 5, 6, 19]])
    (ai h1 trivial) (by kernel_rfl)) (by simp)) (by kernel_rfl) (by kernel_rfl)
def G88_2  (fuel : Nat) (p1 : Int) (w2 : (List Int)) : Option (Unit ⊕ (Nat × (List Int))) :=
 obind (F84 fuel w2 p1) fun r1 => oif ((r1 == -1))
 (some (.inl ()))
 (obind (L88_2_0 p1 fuel r1 (IntKind.wrap .i64 (r1 + 1)) w2) fun y2 => oif (decide ((0:Int) ≤ y2.1)) (oif (decide (y2.1 < (((List.length y2.2) : Nat) : Int)))
  (oif (decide ((Int.toNat y2.1) + ((List.length y2.2) - (Int.toNat y2.1)) ≤ (List.length y2.2))) (oif (decide ((y2.1 : Int) ≤ (((List.length y2.2) : Nat) : Int))) (some (.inr (((Int.toNat y2.1), (clrL y2.2 (Int.toNat y2.1) ((List.length y2.2) - (Int.toNat y2.1)) (0 : Int)))))) none) none)
  (oif (decide ((y2.1 : Int) ≤ (((List.length y2.2) : Nat) : Int))) (oif (decide (0 < List.length y2.2)) (some (.inr (((Int.toNat y2.1), y2.2)))) none) none)) none)
noncomputable def G88_2_post (p1 : Int) (w2 : (List Int))  : (Unit ⊕ (Nat × (List Int))) → IV × List MObj
 | .inl y => (.msl 2 0 (List.length w2) (List.length (rowI e3 w2)) false, [.cells [.p (.nilsl), .p (.nilsl), .p (.nilsl)] 0, .hole, .cells (rowI e3 w2) 1])
 | .inr (y) => (.msl 2 0 y.1 (List.length (rowI e3 y.2)) false, [.cells [.p (.nilsl), .p (.nilsl), .p (.nilsl)] 0, .hole, .cells (rowI e3 y.2) 1])
theorem G88_2_ok  (fuel : Nat) (p1 : Int) (w2 : (List Int))  (r : (Unit ⊕ (Nat × (List Int)))) (h : G88_2 fuel p1 w2 = some r) : CallI prog 88 [.msl 2 0 (List.length w2) (List.length (rowI e3 w2)) false, .p (.fn 89 [] [.ref [.int .i64 p1]])] [.cells [.p (.nilsl), .p (.nilsl), .p (.nilsl)] 0, .hole, .cells (rowI e3 w2) 1] (G88_2_post p1 w2 r).1 (G88_2_post p1 w2 r).2 := by
 let z1 : MObj := .cells [.p (.nilsl), .p (.nilsl), .p (.nilsl)] 0
 unfold G88_2 at h
 refine obind_elim h fun r1 h1 g1 => ?_
 let z2 : Int := (IntKind.wrap .i64 (r1 + 1))
 let c51 : List CC := [.reg [] [] 0 [] [0, 1], .reg [] [] 0 [(2, none, .bor [] [.sl (List.map e3 w2) false, .fn 89 [] [.ref [.int .i64 p1]]] (.int .i64 r1))] [0, 1, 5]]
 have q52 := fun {P : Prop} (t : P) => ai (snap_row (hp := one 2 (.cells (rowI e3 w2) 1)) (l := 2) (x := false) (g := 1) (L := w2) el3 (by kernel_rfl) (rl (List.length (rowI e3 w2))) (rl (List.length w2))) (ai (.refl _ : PVle (.fn 89 [] [.ref [.int .i64 p1]]) (.fn 89 [] [.ref [.int .i64 p1]])) (ai (F84_ok fuel w2 p1 false _ h1) t))
 refine oif_elim g1 (fun h2 g2 => ?_) (fun h2 g2 => ?_)
 ·have hr := Option.some.inj g2
  subst hr
  exact CallI.cast (callI_of is88 (by kernel_rfl) (m := 3) (by kernel_rfl) (e := .ret) (vs := [.msl 2 0 (List.length w2) (List.length (rowI e3 w2)) false]) (path hm (ks := [4]) (σ' := ⟨[(4, .msl 2 0 (List.length w2) (List.length (rowI e3 w2)) false)], [z1, .hole, .cells (rowI e3 w2) 1]⟩) (cc := c51 ++ [.reg [] [] 0 [(1, none, .b true)] [0, 1, 5, 12], .reg [] [] 0 [] [4]])
   (q52 (ai h2 trivial)) (by kernel_rfl)) rfl (show _ from trivial) (by kernel_rfl)) (by kernel_rfl)
 ·refine obind_elim g2 fun y2 h3 g3 => ?_
  let z4 : Env := [(4, .msl 2 0 (Int.toNat y2.1) (List.length (rowI e3 y2.2)) false)]
  let z3 : MObj := .cells (rowI e3 (clrL y2.2 (Int.toNat y2.1) ((List.length y2.2) - (Int.toNat y2.1)) (0 : Int))) 1
  refine oif_elim g3 (fun h4 g4 => ?_) (fun _ h => nomatch h)
  let c53 : List CC := c51 ++ [.reg [] [] 0 [(1, none, .b false)] [0, 1, 5, 12], .reg [] [] 0 [] [0, 1, 5, 6], .leaf (.exit 0) ⟨[(0, .msl 2 0 (List.length y2.2) (List.length (rowI e3 y2.2)) false), (5, .p (.int .i64 y2.1))], [z1, .hole, .cells (rowI e3 y2.2) 1]⟩]
  refine oif_elim g4 (fun h5 g5 => ?_) (fun h5 g5 => ?_)
  ·refine oif_elim g5 (fun h6 g6 => ?_) (fun _ h => nomatch h)
   refine oif_elim g6 (fun h7 g7 => ?_) (fun _ h => nomatch h)
   have hr := Option.some.inj g7
   subst hr
   exact CallI.cast (callI_of is88 (by kernel_rfl) (m := 3) (by kernel_rfl) (e := .ret) (vs := [.msl 2 0 (Int.toNat y2.1) (List.length (rowI e3 (clrL y2.2 (Int.toNat y2.1) ((List.length y2.2) - (Int.toNat y2.1)) (0 : Int)))) false]) (SemC.post (path hm (ks := [4]) (σ' := ⟨z4, [z1, .hole, z3]⟩) (cc := c53 ++ [.reg [] [] 0 [(2, none, .ap [] ((List.length y2.2) - (Int.toNat y2.1)) 0), (3, none, .cs (rowI e3 (clrL y2.2 (Int.toNat y2.1) ((List.length y2.2) - (Int.toNat y2.1)) (0 : Int))))] [0, 5], .reg [] [] 0 [(2, none, .ap [] (Int.toNat y2.1) 0)] [4]])
   (q52 (ai h2 (ai (SemJ.loop (L88_2_0_ok p1 fuel r1 z2 w2 _ h3)) (ai (piece_lt (od h4) (od h5)) (ai (rl ((List.length y2.2) - (Int.toNat y2.1))) (ai (od h4) (ai (Int.le_of_lt (od h5)) (ai (rl (List.length (rowI e3 y2.2))) (ai (row_pfit el3 (row_sz el3 (rl (List.length (rowI e3 y2.2))) (rl (List.length y2.2))) (od h6)) (ai (row_clr el3 (0 : Int) (rl (List.length y2.2)) (od h6)) (ai (sl_lo0 none (Int.toNat y2.1) (List.length y2.2)) (ai (rl (Int.toNat y2.1)) (ai (od h4) (ai (od h7) trivial)))))))))))))) (by kernel_rfl)) (Weak.eq (congrArg (fun ZZ : Nat => (⟨[(4, .msl 2 0 (Int.toNat y2.1) ZZ false)], [z1, .hole, z3]⟩ : St)) (Eq.symm ((row_clrlen el3 (0 : Int) (rl (List.length y2.2)) (od h6)).trans (rl (List.length (rowI e3 y2.2)))))))) rfl (show _ from trivial) (by kernel_rfl)) (by kernel_rfl)
  ·refine oif_elim g5 (fun h6 g6 => ?_) (fun _ h => nomatch h)
   refine oif_elim g6 (fun h7 g7 => ?_) (fun _ h => nomatch h)
   have hr := Option.some.inj g7
   subst hr
   exact CallI.cast (callI_of is88 (by kernel_rfl) (m := 3) (by kernel_rfl) (e := .ret) (vs := [.msl 2 0 (Int.toNat y2.1) (List.length (rowI e3 y2.2)) false]) (path hm (ks := [4]) (σ' := ⟨z4, [z1, .hole, .cells (rowI e3 y2.2) 1]⟩) (cc := c53 ++ [.reg [] [] 0 [(2, none, .n 0), (3, none, .n 0)] [0, 5], .reg [] [] 0 [(2, none, .ap [] (Int.toNat y2.1) 0)] [4]])
   (q52 (ai h2 (ai (SemJ.loop (L88_2_0_ok p1 fuel r1 z2 w2 _ h3)) (ai (piece_end (od h4) (od h6) h5) (ai (row_pos el3 (by decide) (od h7)) (ai (od h4) (ai (od h6) (ai (rfl : (0:Nat) = 0) (ai (sl_lo0 none (Int.toNat y2.1) (List.length y2.2)) (ai (rl (Int.toNat y2.1)) (ai (od h4) (ai (od h6) trivial)))))))))))) (by kernel_rfl)) rfl (show _ from trivial) (by kernel_rfl)) (by kernel_rfl)
def G77_1  (fuel : Nat) (p0 : (List Int)) (p1 : Int) : Option (List Int) :=
 obind (F79 fuel p0) fun r1 => oif (List.isEmpty r1)
 (none)
 ((obind (G88_2 fuel p1 r1) fun y2 => match y2 with
  | .inl y2 => some r1
  | .inr (y2) => oif (decide (List.length y2.2 = List.length r1)) (oif (decide (y2.1 ≤ List.length y2.2)) (some (List.take y2.1 y2.2)) none) none))
noncomputable def G77_1_post (p0 : (List Int)) (p1 : Int)  : (List Int) → IV × List MObj
 | y => (.msl 1 0 (List.length y) (List.length (rowI e3 y)) false, [.cells [.p (.nilsl), .p (.nilsl), .p (.nilsl)] 0, .cells (rowI e3 y) 1])
theorem G77_1_ok  (fuel : Nat) (p0 : (List Int)) (p1 : Int)  (r : (List Int)) (h : G77_1 fuel p0 p1 = some r) : CallI prog 77 [.p (.sl (List.map e3 p0) false), .p (.int .i64 p1)] [.cells [.p (.nilsl), .p (.nilsl), .p (.nilsl)] 0, .hole] (G77_1_post p0 p1 r).1 (G77_1_post p0 p1 r).2 := by
 let z1 : MObj := .cells [.p (.nilsl), .p (.nilsl), .p (.nilsl)] 0
 unfold G77_1 at h
 refine obind_elim h fun r1 h1 g1 => ?_
 refine oif_elim g1 (fun h2 g2 => ?_) (fun h2 g2 => ?_)
 ·exact nomatch g2
 ·refine obind_elim g2 fun y h3 g3 => ?_
  match y, h3, g3 with
  | .inl y2, h3, g3 =>
   have hr := Option.some.inj g3
   subst hr
   exact CallI.cast (callI_of is77 (by kernel_rfl) (m := 2) (by kernel_rfl) (e := .ret) (vs := [.msl 1 0 (List.length r1) (List.length (rowI e3 r1)) false]) (SemC.post (path hm (ks := [4]) (σ' := ⟨[(4, .msl 2 0 (List.length r1) (List.length (rowI e3 r1)) false)], [z1, .hole, .cells (rowI e3 r1) 1]⟩) (cc := [.reg [] [] 0 [(0, none, .imm)] [0, 3], .reg [] [] 1 [(1, some 2, .ap (rowI e3 r1) (List.length r1) 1), (3, none, .ci (.msl 2 0 (List.length r1) (List.length (rowI e3 r1)) false) [])] [4]])
   (ai (F79_own fuel p0 false _ h1 h2) (ai (G88_2_ok fuel p1 r1 _ h3) trivial)) (by kernel_rfl)) (Weak.sel [0, 2] (selH_cons (o := z1) (o' := z1) (by kernel_rfl) (sel_x (by kernel_rfl)) (selH_cons (o := .cells (rowI e3 r1) 1) (o' := .cells (rowI e3 r1) 1) (by kernel_rfl) sel_row trivial)) (by kernel_rfl) (by kernel_rfl))) rfl (show _ from trivial) (by kernel_rfl)) (by kernel_rfl)
  | .inr (y2), h3, g3 =>
   let z3 : MObj := .cells (rowI e3 (List.take y2.1 y2.2)) 1
   let z2 : Env := [(4, .msl 2 0 y2.1 (List.length (rowI e3 y2.2)) false)]
   refine oif_elim g3 (fun h4 g4 => ?_) (fun _ h => nomatch h)
   refine oif_elim g4 (fun h5 g5 => ?_) (fun _ h => nomatch h)
   have hr := Option.some.inj g5
   subst hr
   exact CallI.cast (callI_of is77 (by kernel_rfl) (m := 2) (by kernel_rfl) (e := .ret) (vs := [.msl 1 0 (List.length (List.take y2.1 y2.2)) (List.length (rowI e3 (List.take y2.1 y2.2))) false]) (SemC.post (path hm (ks := [4]) (σ' := ⟨z2, [z1, .hole, .cells (rowI e3 y2.2) 1]⟩) (cc := [.reg [] [] 0 [(0, none, .imm)] [0, 3], .reg [] [] 1 [(1, some 2, .ap (rowI e3 r1) (List.length r1) 1), (3, none, .ci (.msl 2 0 y2.1 (List.length (rowI e3 y2.2)) false) [(2, .cells (rowI e3 y2.2) 1)])] [4]])
   (ai (F79_own fuel p0 false _ h1 h2) (ai (G88_2_ok fuel p1 r1 _ h3) trivial)) (by kernel_rfl)) (Weak.trans (wcast (c := ⟨[(4, .msl 3 0 y2.1 (List.length (rowI e3 (List.take y2.1 y2.2))) false)], [z1, .hole, .dead, z3]⟩) (Weak.rebase (E := z2) (H := [z1, .hole, .cells (rowI e3 y2.2) 1]) 4 (l := 2) (off := 0) (len := y2.1) (sz := (List.length (rowI e3 y2.2))) (sz' := (List.length (rowI e3 (List.take y2.1 y2.2)))) (g := 1) (x := false) (cs := rowI e3 y2.2) (cs' := rowI e3 (List.take y2.1 y2.2)) (by kernel_rfl) (by kernel_rfl) (rl (List.length (rowI e3 y2.2))) (by decide) (part_row0 el3 y2.2 y2.1) (part_len0 el3 (od h5)) rfl (Nat.zero_le _)) (by kernel_rfl)) (Weak.trans (Weak.sel [0, 3] (selH_cons (o := z1) (o' := z1) (by kernel_rfl) (sel_x (by kernel_rfl)) (selH_cons (o := z3) (o' := z3) (by kernel_rfl) sel_row trivial)) (by kernel_rfl) (by kernel_rfl)) (Weak.eq (congrArg (fun ZZ : Nat => (⟨[(4, .msl 1 0 ZZ (List.length (rowI e3 (List.take y2.1 y2.2))) false)], [z1, z3]⟩ : St)) (Eq.symm (part_ln0 (od h5)))))))) rfl (show _ from trivial) (by kernel_rfl)) (by kernel_rfl)
def G79_1  (fuel : Nat) (w1 : (List Int)) : Option (Unit ⊕ Unit) :=
 oif (List.isEmpty w1)
 (some (.inl ()))
 (oif (decide ((List.length w1) * 8 ≤ 140737488355328)) (some (.inr (()))) none)
noncomputable def G79_1_post (w1 : (List Int))  : (Unit ⊕ Unit) → IV × List MObj
 | .inl y => (.p (.sl (List.map e3 []) true), [.cells [.p (.nilsl), .p (.nilsl), .p (.nilsl)] 0, .cells (rowI e3 w1) 1, .hole])
 | .inr (y) => (.msl 2 0 (List.length w1) (List.length (rowI e3 w1)) false, [.cells [.p (.nilsl), .p (.nilsl), .p (.nilsl)] 0, .cells (rowI e3 w1) 1, .cells (rowI e3 w1) 1])
theorem G79_1_ok  (fuel : Nat) (w1 : (List Int))  (r : (Unit ⊕ Unit)) (h : G79_1 fuel w1 = some r) : CallI prog 79 [.msl 1 0 (List.length w1) (List.length (rowI e3 w1)) false] [.cells [.p (.nilsl), .p (.nilsl), .p (.nilsl)] 0, .cells (rowI e3 w1) 1, .hole] (G79_1_post w1 r).1 (G79_1_post w1 r).2 := by
 let z1 : MObj := .cells [.p (.nilsl), .p (.nilsl), .p (.nilsl)] 0
 unfold G79_1 at h
 refine oif_elim h (fun h1 g1 => ?_) (fun h1 g1 => ?_)
 ·have hr := Option.some.inj g1
  subst hr
  exact CallI.cast (callI_of is79 (by kernel_rfl) (m := 3) (by kernel_rfl) (e := .ret) (vs := [.p (.sl [] true)]) (path hm (ks := [2]) (σ' := ⟨[(2, .p (.sl [] true))], [z1, .cells (rowI e3 w1) 1, .hole]⟩) (cc := [.reg [] [] 0 [] [0], .reg [] [] 0 [] [0, 4], .reg [] [] 0 [(2, none, .b true)] [2]])
   (ai (isEmpty_lenO h1 (rl (List.length w1))) (ai (row_scO el3 w1 ((List.length w1) * 1)) (ai (rl (List.length (rowI e3 w1))) (ai (row_whole_le el3 (rl (List.length w1)) (rl (List.length (rowI e3 w1)))) trivial)))) (by kernel_rfl)) rfl (show _ from trivial) (by kernel_rfl)) (by kernel_rfl)
 ·refine oif_elim g1 (fun h2 g2 => ?_) (fun _ h => nomatch h)
  have hr := Option.some.inj g2
  subst hr
  exact CallI.cast (callI_of is79 (by kernel_rfl) (m := 3) (by kernel_rfl) (e := .ret) (vs := [.msl 2 0 (List.length w1) (List.length (rowI e3 w1)) false]) (SemC.post (path hm (ks := [2]) (σ' := ⟨[(2, .msl 3 0 (List.length w1) (List.length (rowI e3 w1)) false)], [z1, .cells (rowI e3 w1) 1, .hole, .cells (rowI e3 w1) 1]⟩) (cc := [.reg [] [] 0 [] [0], .reg [] [] 0 [] [0, 4], .reg [] [] 1 [(2, some 3, .ap (rowI e3 w1) (List.length w1) (List.length (rowI e3 w1)))] [2]])
   (ai (notEmpty_lenO h1 (rl (List.length w1))) (ai (app_e1 (m := (List.length w1)) (od h2)) (ai (app_e2 (m := (List.length w1)) (by decide) (od h2)) (ai (Eq.trans (rl (List.length w1)) (Nat.zero_add _).symm) (ai (rl (List.length (rowI e3 w1))) (ai (row_srcO el3 (rl (List.length w1))) (ai (row_scO el3 w1 ((List.length w1) * 1)) (ai (rl (List.length (rowI e3 w1))) (ai (row_whole_le el3 (rl (List.length w1)) (rl (List.length (rowI e3 w1)))) (ai (fun _ h => nomatch h : ∀ y ∈ ([] : List PV), y.cells.length = 1) trivial)))))))))) (by kernel_rfl)) (Weak.sel [0, 1, 3] (selH_cons (o := z1) (o' := z1) (by kernel_rfl) (sel_x (by kernel_rfl)) (selH_cons (o := .cells (rowI e3 w1) 1) (o' := .cells (rowI e3 w1) 1) (by kernel_rfl) sel_row (selH_cons (o := .cells (rowI e3 w1) 1) (o' := .cells (rowI e3 w1) 1) (by kernel_rfl) sel_row trivial))) (by kernel_rfl) (by kernel_rfl))) rfl (show _ from trivial) (by kernel_rfl)) (by kernel_rfl)
def L78_1  (v3 : Int) (v4 : Int) (v18 : Int) (w1 : (List Int)) (w1_1 : (List Int)) : Nat → Int → (List Int) → Option (List Int)
 | 0, _, _ => none
 | fuel + 1, v19, w2 =>
  oif ((decide (v19 < v18)))
  (oif ((v19 == v3))
   (oif (decide (((List.length w2) + 1) * 8 ≤ 140737488355328)) (L78_1 v3 v4 v18 w1 w1_1 fuel (IntKind.wrap .i64 (v19 + 1)) (w2 ++ [v4])) none)
   (oif (decide (((List.length w2) + 1) * 8 ≤ 140737488355328)) (L78_1 v3 v4 v18 w1 w1_1 fuel (IntKind.wrap .i64 (v19 + 1)) (w2 ++ [(IntKind.wrap .i64 (1 - v4))])) none))
  (some (w2))
noncomputable def L78_1_post (v3 : Int) (v4 : Int) (v18 : Int) (w1 : (List Int)) (w1_1 : (List Int)) (fp0 : Bool) (fp1 : Bool) (fp2 : Bool) : (List Int) → Ex × St
 | y => ((.exit 0), ⟨[(10, .ptr 0 0 3), (11, .ptr 1 0 3)], [.cells [.p (.nilsl), .p (.nilsl), .p (.nilsl)] 0, .cells [.p (.sl (List.map e3 w1) fp1), .p (.sl (List.map e3 w1_1) fp2), .msl 2 0 (List.length y) (List.length (rowI e3 y)) false] 0, .cells (rowI e3 y) 1]⟩)
theorem L78_1_ok  (v3 : Int) (v4 : Int) (v18 : Int) (w1 : (List Int)) (w1_1 : (List Int)) (fp0 : Bool) (fp1 : Bool) (fp2 : Bool) : ∀ (fuel : Nat) (v19 : Int) (w2 : (List Int)) (r : (List Int)), L78_1 v3 v4 v18 w1 w1_1 fuel v19 w2 = some r →
  SemJ prog ⟨36, 0, false⟩ (codeAt [1, 1, 0, 1, 0, 0] (bodyOf f78)) ⟨[(3, .p (.int .i64 v3)), (4, .p (.int .i64 v4)), (10, .ptr 0 0 3), (11, .ptr 1 0 3), (18, .p (.int .i64 v18)), (19, .p (.int .i64 v19))], [.cells [.p (.nilsl), .p (.nilsl), .p (.nilsl)] 0, .cells [.p (.sl (List.map e3 w1) fp1), .p (.sl (List.map e3 w1_1) fp2), .msl 2 0 (List.length w2) (List.length (rowI e3 w2)) false] 0, .cells (rowI e3 w2) 1]⟩ (L78_1_post v3 v4 v18 w1 w1_1 fp0 fp1 fp2 r).1 (L78_1_post v3 v4 v18 w1 w1_1 fp0 fp1 fp2 r).2
 | 0, _, _, _, h => nomatch h
 | fuel + 1, v19, w2, r, h => by
  let z6 : Int := (IntKind.wrap .i64 (1 - v4))
  let z5 : Int := (IntKind.wrap .i64 (v19 + 1))
  let z4 : MObj := .cells [.p (.nilsl), .p (.nilsl), .p (.nilsl)] 0
  let z3 : Env := [(3, .p (.int .i64 v3)), (4, .p (.int .i64 v4)), (10, .ptr 0 0 3), (11, .ptr 1 0 3), (18, .p (.int .i64 v18)), (19, .p (.int .i64 z5))]
  let z2 : St := ⟨z3, [z4, .cells [.p (.sl (List.map e3 w1) fp1), .p (.sl (List.map e3 w1_1) fp2), .msl 2 0 (List.length (w2 ++ [v4])) (List.length (rowI e3 (w2 ++ [v4]))) false] 0, .cells (rowI e3 (w2 ++ [v4])) 1]⟩
  let z1 : St := ⟨z3, [z4, .cells [.p (.sl (List.map e3 w1) fp1), .p (.sl (List.map e3 w1_1) fp2), .msl 2 0 (List.length (w2 ++ [z6])) (List.length (rowI e3 (w2 ++ [z6]))) false] 0, .cells (rowI e3 (w2 ++ [z6])) 1]⟩
  unfold L78_1 at h
  refine oif_elim h (fun h1 g1 => ?_) (fun h1 g1 => ?_)
  ·let c54 : List CC := [.reg [] [] 0 [(0, none, .b true)] [3, 4, 10, 11, 18, 19, 20], .reg [] [] 0 [] [3, 4, 10, 11, 12, 18, 19], .reg [] [] 0 [] [3, 4, 10, 11, 12, 13, 18, 19]]
   refine oif_elim g1 (fun h2 g2 => ?_) (fun h2 g2 => ?_)
   ·refine oif_elim g2 (fun h3 g3 => ?_) (fun _ h => nomatch h)
    exact SemJ.again (σ1 := z2) (path hm (σ' := z2) (ks := [3, 4, 10, 11, 18, 19]) (cc := c54 ++ [.reg [] [] 0 [(2, none, .b true)] [3, 4, 10, 11, 13, 18, 19, 26], .reg [] [] 0 [] [3, 4, 10, 11, 13, 18, 19], .reg [] [] 0 [(4, none, .ap (rowI e3 (w2 ++ [v4])) (List.length (w2 ++ [v4])) (List.length (rowI e3 (w2 ++ [v4]))))] [3, 4, 10, 11, 18, 19], .reg [] [] 0 [] [3, 4, 10, 11, 18, 19]])
    (ai h1 (ai h2 (ai (by decide : 0 < 1) (ai (od h3) (ai (app_c2 (by decide) (od h3)) (ai (app_len e3 [v4] (rl (List.length w2))) (ai (rl (List.length (rowI e3 (w2 ++ [v4])))) (ai (row_app e3 w2 [v4]) (ai (rl (List.length (rowI e3 w2))) (ai (row_sz el3 (rl (List.length (rowI e3 w2))) (rl (List.length w2))) (ai (row_sc el3 [v4]) (ai (row_es el3 [v4]) trivial)))))))))))) (by kernel_rfl)) (L78_1_ok v3 v4 v18 w1 w1_1 fp0 fp1 fp2 fuel z5 (w2 ++ [v4]) _ g3)
   ·refine oif_elim g2 (fun h3 g3 => ?_) (fun _ h => nomatch h)
    exact SemJ.again (σ1 := z1) (path hm (σ' := z1) (ks := [3, 4, 10, 11, 18, 19]) (cc := c54 ++ [.reg [] [] 0 [(2, none, .b false)] [3, 4, 10, 11, 13, 18, 19, 26], .reg [] [] 0 [(4, none, .ap (rowI e3 (w2 ++ [z6])) (List.length (w2 ++ [z6])) (List.length (rowI e3 (w2 ++ [z6]))))] [3, 4, 10, 11, 18, 19], .reg [] [] 0 [] [3, 4, 10, 11, 18, 19]])
    (ai h1 (ai h2 (ai (by decide : 0 < 1) (ai (od h3) (ai (app_c2 (by decide) (od h3)) (ai (app_len e3 [z6] (rl (List.length w2))) (ai (rl (List.length (rowI e3 (w2 ++ [z6])))) (ai (row_app e3 w2 [z6]) (ai (rl (List.length (rowI e3 w2))) (ai (row_sz el3 (rl (List.length (rowI e3 w2))) (rl (List.length w2))) (ai (row_sc el3 [z6]) (ai (row_es el3 [z6]) trivial)))))))))))) (by kernel_rfl)) (L78_1_ok v3 v4 v18 w1 w1_1 fp0 fp1 fp2 fuel z5 (w2 ++ [z6]) _ g3)
  ·have hr := Option.some.inj g1
   subst hr
   exact SemC.cast (SemJ.out (e := (.exit 0)) (path hm (σ' := ⟨[(10, .ptr 0 0 3), (11, .ptr 1 0 3)], [z4, .cells [.p (.sl (List.map e3 w1) fp1), .p (.sl (List.map e3 w1_1) fp2), .msl 2 0 (List.length w2) (List.length (rowI e3 w2)) false] 0, .cells (rowI e3 w2) 1]⟩) (ks := [10, 11]) (cc := [.reg [] [] 0 [(0, none, .b false)] [3, 4, 10, 11, 18, 19, 20]])
    (ai h1 trivial) (by kernel_rfl)) (by simp)) (by kernel_rfl) (by kernel_rfl)
def L78_0  (v3 : Int) (v4 : Int) (v18 : Int) (w1 : (List Int)) (w1_1 : (List Int)) : Nat → Option ((List Int) ⊕ Unit)
 | 0 => none
 | fuel + 1 =>
  oif ((decide (0 < v18)))
  (oif ((0 == v3))
   (oif (decide (1 * 8 ≤ 140737488355328)) (obind (L78_1 v3 v4 v18 w1 w1_1 fuel 1 [v4]) fun y1 => some (.inl y1)) none)
   (oif (decide (1 * 8 ≤ 140737488355328)) (obind (L78_1 v3 v4 v18 w1 w1_1 fuel 1 [(IntKind.wrap .i64 (1 - v4))]) fun y1 => some (.inl y1)) none))
  (some (.inr (())))
noncomputable def L78_0_post (v3 : Int) (v4 : Int) (v18 : Int) (w1 : (List Int)) (w1_1 : (List Int)) (fp0 : Bool) (fp1 : Bool) (fp2 : Bool) : ((List Int) ⊕ Unit) → Ex × St
 | .inl y => ((.exit 0), ⟨[(10, .ptr 0 0 3), (11, .ptr 1 0 3)], [.cells [.p (.nilsl), .p (.nilsl), .p (.nilsl)] 0, .cells [.p (.sl (List.map e3 w1) fp1), .p (.sl (List.map e3 w1_1) fp2), .msl 2 0 (List.length y) (List.length (rowI e3 y)) false] 0, .cells (rowI e3 y) 1]⟩)
 | .inr (y) => ((.exit 0), ⟨[(10, .ptr 0 0 3), (11, .ptr 1 0 3)], [.cells [.p (.nilsl), .p (.nilsl), .p (.nilsl)] 0, .cells [.p (.sl (List.map e3 w1) fp1), .p (.sl (List.map e3 w1_1) fp2), .p (.nilsl)] 0]⟩)
theorem L78_0_ok  (v3 : Int) (v4 : Int) (v18 : Int) (w1 : (List Int)) (w1_1 : (List Int)) (fp0 : Bool) (fp1 : Bool) (fp2 : Bool) : ∀ (fuel : Nat)  (r : ((List Int) ⊕ Unit)), L78_0 v3 v4 v18 w1 w1_1 fuel  = some r →
  SemJ prog ⟨36, 0, false⟩ (codeAt [1, 1, 0, 1, 0, 0] (bodyOf f78)) ⟨[(3, .p (.int .i64 v3)), (4, .p (.int .i64 v4)), (10, .ptr 0 0 3), (11, .ptr 1 0 3), (18, .p (.int .i64 v18)), (19, .p (.int .i64 0))], [.cells [.p (.nilsl), .p (.nilsl), .p (.nilsl)] 0, .cells [.p (.sl (List.map e3 w1) fp1), .p (.sl (List.map e3 w1_1) fp2), .p (.nilsl)] 0]⟩ (L78_0_post v3 v4 v18 w1 w1_1 fp0 fp1 fp2 r).1 (L78_0_post v3 v4 v18 w1 w1_1 fp0 fp1 fp2 r).2
 | 0, _, h => nomatch h
 | fuel + 1, r, h => by
  let z5 : Int := (IntKind.wrap .i64 (1 - v4))
  let z4 : MObj := .cells [.p (.nilsl), .p (.nilsl), .p (.nilsl)] 0
  let z3 : Env := [(3, .p (.int .i64 v3)), (4, .p (.int .i64 v4)), (10, .ptr 0 0 3), (11, .ptr 1 0 3), (18, .p (.int .i64 v18)), (19, .p (.int .i64 1))]
  let z2 : St := ⟨z3, [z4, .cells [.p (.sl (List.map e3 w1) fp1), .p (.sl (List.map e3 w1_1) fp2), .msl 2 0 (List.length [v4]) (List.length (rowI e3 [v4])) false] 0, .cells (rowI e3 [v4]) 1]⟩
  let z1 : St := ⟨z3, [z4, .cells [.p (.sl (List.map e3 w1) fp1), .p (.sl (List.map e3 w1_1) fp2), .msl 2 0 (List.length [z5]) (List.length (rowI e3 [z5])) false] 0, .cells (rowI e3 [z5]) 1]⟩
  unfold L78_0 at h
  refine oif_elim h (fun h1 g1 => ?_) (fun h1 g1 => ?_)
  ·let c55 : List CC := [.reg [] [] 0 [(0, none, .b true)] [3, 4, 10, 11, 18, 19, 20], .reg [] [] 0 [] [3, 4, 10, 11, 12, 18, 19], .reg [] [] 0 [] [3, 4, 10, 11, 12, 13, 18, 19]]
   refine oif_elim g1 (fun h2 g2 => ?_) (fun h2 g2 => ?_)
   ·refine oif_elim g2 (fun h3 g3 => ?_) (fun _ h => nomatch h)
    refine obind_elim g3 fun y1 h4 g4 => ?_
    have hr := Option.some.inj g4
    subst hr
    exact SemC.cast (SemJ.again (σ1 := z2) (path hm (σ' := z2) (ks := [3, 4, 10, 11, 18, 19]) (cc := c55 ++ [.reg [] [] 0 [(2, none, .b true)] [3, 4, 10, 11, 13, 18, 19, 26], .reg [] [] 0 [] [3, 4, 10, 11, 13, 18, 19], .reg [] [] 1 [(4, some 2, .ap (rowI e3 [v4]) (List.length [v4]) (List.length (rowI e3 [v4])))] [3, 4, 10, 11, 18, 19], .reg [] [] 0 [] [3, 4, 10, 11, 18, 19]])
    (ai h1 (ai h2 (ai (by decide : 0 < 1) (ai (od h3) (ai (app_c0 (by decide) (od h3)) (ai (rl (List.length [v4])) (ai (rl (List.length (rowI e3 [v4]))) (ai (row_src e3 [v4]) (ai (row_sc el3 [v4]) (ai (row_es el3 [v4]) trivial)))))))))) (by kernel_rfl)) (L78_1_ok v3 v4 v18 w1 w1_1 fp0 fp1 fp2 fuel 1 [v4] _ h4)) (by kernel_rfl) (by kernel_rfl)
   ·refine oif_elim g2 (fun h3 g3 => ?_) (fun _ h => nomatch h)
    refine obind_elim g3 fun y1 h4 g4 => ?_
    have hr := Option.some.inj g4
    subst hr
    exact SemC.cast (SemJ.again (σ1 := z1) (path hm (σ' := z1) (ks := [3, 4, 10, 11, 18, 19]) (cc := c55 ++ [.reg [] [] 0 [(2, none, .b false)] [3, 4, 10, 11, 13, 18, 19, 26], .reg [] [] 1 [(4, some 2, .ap (rowI e3 [z5]) (List.length [z5]) (List.length (rowI e3 [z5])))] [3, 4, 10, 11, 18, 19], .reg [] [] 0 [] [3, 4, 10, 11, 18, 19]])
    (ai h1 (ai h2 (ai (by decide : 0 < 1) (ai (od h3) (ai (app_c0 (by decide) (od h3)) (ai (rl (List.length [z5])) (ai (rl (List.length (rowI e3 [z5]))) (ai (row_src e3 [z5]) (ai (row_sc el3 [z5]) (ai (row_es el3 [z5]) trivial)))))))))) (by kernel_rfl)) (L78_1_ok v3 v4 v18 w1 w1_1 fp0 fp1 fp2 fuel 1 [z5] _ h4)) (by kernel_rfl) (by kernel_rfl)
  ·have hr := Option.some.inj g1
   subst hr
   exact SemC.cast (SemJ.out (e := (.exit 0)) (path hm (σ' := ⟨[(10, .ptr 0 0 3), (11, .ptr 1 0 3)], [z4, .cells [.p (.sl (List.map e3 w1) fp1), .p (.sl (List.map e3 w1_1) fp2), .p (.nilsl)] 0]⟩) (ks := [10, 11]) (cc := [.reg [] [] 0 [(0, none, .b false)] [3, 4, 10, 11, 18, 19, 20]])
    (ai h1 trivial) (by kernel_rfl)) (by simp)) (by kernel_rfl) (by kernel_rfl)
def F78  (fuel : Nat) (p0 : (List (Int × Int))) (p1 : (List Int)) (p2 : (List Int)) (p3 : Int) (p4 : Int) : Option ((List Int) × (List Int) × (List Int)) :=
 (obind (L78_0 p3 p4 (p0.length : Int) p1 p2 fuel ) fun y1 => match y1 with
 | .inl y1 => some (p1, p2, y1)
 | .inr (y1) => some (p1, p2, []))
theorem F78_ok  (fuel : Nat) (p0 : (List (Int × Int))) (p1 : (List Int)) (p2 : (List Int)) (p3 : Int) (p4 : Int) (fp0 : Bool) (fp1 : Bool) (fp2 : Bool) (r : ((List Int) × (List Int) × (List Int))) (h : F78 fuel p0 p1 p2 p3 p4 = some r) : CallP prog 78 [.sl (List.map e70 p0) fp0, .sl (List.map e3 p1) fp1, .sl (List.map e3 p2) fp2, .int .i64 p3, .int .i64 p4] (.agg [.sl (List.map e3 r.1) false, .sl (List.map e3 r.2.1) false, .sl (List.map e3 r.2.2) false]) := by
 let z3 : Env := [(10, .ptr 0 0 3), (11, .ptr 1 0 3)]
 let z2 : MObj := .cells [.p (.nilsl), .p (.nilsl), .p (.nilsl)] 0
 let z1 : MObj := .cells [.p (.sl (List.map e3 p1) fp1), .p (.sl (List.map e3 p2) fp2), .p (.nilsl)] 0
 unfold F78 at h
 let c56 : List CC := [.reg [] [] 1 [(0, some 0, .a)] [0, 1, 2, 3, 4, 10], .reg [] [] 1 [(3, some 1, .a)] [0, 3, 4, 10, 11], .reg [] [] 0 [(1, none, .n (p0.length : Int))] [3, 4, 10, 11, 18, 19]]
 refine obind_elim h fun y h1 g1 => ?_
 match y, h1, g1 with
 | .inl y1, h1, g1 =>
  let z4 : MObj := .cells [.p (.sl (List.map e3 p1) fp1), .p (.sl (List.map e3 p2) fp2), .msl 2 0 (List.length y1) (List.length (rowI e3 y1)) false] 0
  have hr := Option.some.inj g1
  subst hr
  exact callP_of is78 rfl (path hm (ks := [10]) (σ' := ⟨[(10, .ptr 0 0 3)], [z4, z4, .cells (rowI e3 y1) 1]⟩) (cc := c56 ++ [.leaf (.exit 0) ⟨z3, [z2, z4, .cells (rowI e3 y1) 1]⟩, .reg [] [] 0 [] [10]])
   (ai (len_map e70 p0) (ai (SemJ.loop (L78_0_ok p3 p4 (p0.length : Int) p1 p2 fp0 fp1 fp2 fuel  _ h1)) trivial)) (by kernel_rfl)) (e := .ret) rfl (vs := [.agg [.p (.sl (List.map e3 p1) fp1), .p (.sl (List.map e3 p2) fp2), .msl 2 0 (List.length y1) (List.length (rowI e3 y1)) false]]) (ai (rfl : (3:Nat) = 3) (ai (by decide : (3:Nat) ≤ 3) trivial)) (by kernel_rfl) (.agg _ _ (.cons _ _ _ _ (.p _ _ (.flag _ _ _ (fun h => nomatch h))) (.cons _ _ _ _ (.p _ _ (.flag _ _ _ (fun h => nomatch h))) (.cons _ _ _ _ (snap_row (g := 1) (L := y1) el3 (by kernel_rfl) (rl (List.length (rowI e3 y1))) (rl (List.length y1))) .nil))))
 | .inr (y1), h1, g1 =>
  have hr := Option.some.inj g1
  subst hr
  exact callP_of is78 rfl (path hm (ks := [10]) (σ' := ⟨[(10, .ptr 0 0 3)], [z1, z1]⟩) (cc := c56 ++ [.leaf (.exit 0) ⟨z3, [z2, z1]⟩, .reg [] [] 0 [] [10]])
   (ai (len_map e70 p0) (ai (SemJ.loop (L78_0_ok p3 p4 (p0.length : Int) p1 p2 fp0 fp1 fp2 fuel  _ h1)) trivial)) (by kernel_rfl)) (e := .ret) rfl (vs := [.agg [.p (.sl (List.map e3 p1) fp1), .p (.sl (List.map e3 p2) fp2), .p (.nilsl)]]) (ai (rfl : (3:Nat) = 3) (ai (by decide : (3:Nat) ≤ 3) trivial)) (by kernel_rfl) (.agg _ _ (.cons _ _ _ _ (.p _ _ (.flag _ _ _ (fun h => nomatch h))) (.cons _ _ _ _ (.p _ _ (.flag _ _ _ (fun h => nomatch h))) (.cons _ _ _ _ (.p _ _ (.nil _)) .nil))))
def G79_4  (fuel : Nat) (w1 : (List Int)) : Option (Unit ⊕ Unit) :=
 oif (List.isEmpty w1)
 (some (.inl ()))
 (oif (decide ((List.length w1) * 8 ≤ 140737488355328)) (some (.inr (()))) none)
noncomputable def G79_4_post (w1 : (List Int))  : (Unit ⊕ Unit) → IV × List MObj
 | .inl y => (.p (.sl (List.map e3 []) true), [.cells [.p (.nilsl), .p (.nilsl), .p (.nilsl)] 0, .cells (rowI e3 w1) 1, .hole, .hole])
 | .inr (y) => (.msl 2 0 (List.length w1) (List.length (rowI e3 w1)) false, [.cells [.p (.nilsl), .p (.nilsl), .p (.nilsl)] 0, .cells (rowI e3 w1) 1, .cells (rowI e3 w1) 1, .hole])
theorem G79_4_ok  (fuel : Nat) (w1 : (List Int))  (r : (Unit ⊕ Unit)) (h : G79_4 fuel w1 = some r) : CallI prog 79 [.msl 1 0 (List.length w1) (List.length (rowI e3 w1)) false] [.cells [.p (.nilsl), .p (.nilsl), .p (.nilsl)] 0, .cells (rowI e3 w1) 1, .hole, .hole] (G79_4_post w1 r).1 (G79_4_post w1 r).2 := by
 let z1 : MObj := .cells [.p (.nilsl), .p (.nilsl), .p (.nilsl)] 0
 unfold G79_4 at h
 refine oif_elim h (fun h1 g1 => ?_) (fun h1 g1 => ?_)
 ·have hr := Option.some.inj g1
  subst hr
  exact CallI.cast (callI_of is79 (by kernel_rfl) (m := 4) (by kernel_rfl) (e := .ret) (vs := [.p (.sl [] true)]) (path hm (ks := [2]) (σ' := ⟨[(2, .p (.sl [] true))], [z1, .cells (rowI e3 w1) 1, .hole, .hole]⟩) (cc := [.reg [] [] 0 [] [0], .reg [] [] 0 [] [0, 4], .reg [] [] 0 [(2, none, .b true)] [2]])
   (ai (isEmpty_lenO h1 (rl (List.length w1))) (ai (row_scO el3 w1 ((List.length w1) * 1)) (ai (rl (List.length (rowI e3 w1))) (ai (row_whole_le el3 (rl (List.length w1)) (rl (List.length (rowI e3 w1)))) trivial)))) (by kernel_rfl)) rfl (show _ from trivial) (by kernel_rfl)) (by kernel_rfl)
 ·refine oif_elim g1 (fun h2 g2 => ?_) (fun _ h => nomatch h)
  have hr := Option.some.inj g2
  subst hr
  exact CallI.cast (callI_of is79 (by kernel_rfl) (m := 4) (by kernel_rfl) (e := .ret) (vs := [.msl 2 0 (List.length w1) (List.length (rowI e3 w1)) false]) (SemC.post (path hm (ks := [2]) (σ' := ⟨[(2, .msl 4 0 (List.length w1) (List.length (rowI e3 w1)) false)], [z1, .cells (rowI e3 w1) 1, .hole, .hole, .cells (rowI e3 w1) 1]⟩) (cc := [.reg [] [] 0 [] [0], .reg [] [] 0 [] [0, 4], .reg [] [] 1 [(2, some 4, .ap (rowI e3 w1) (List.length w1) (List.length (rowI e3 w1)))] [2]])
   (ai (notEmpty_lenO h1 (rl (List.length w1))) (ai (app_e1 (m := (List.length w1)) (od h2)) (ai (app_e2 (m := (List.length w1)) (by decide) (od h2)) (ai (Eq.trans (rl (List.length w1)) (Nat.zero_add _).symm) (ai (rl (List.length (rowI e3 w1))) (ai (row_srcO el3 (rl (List.length w1))) (ai (row_scO el3 w1 ((List.length w1) * 1)) (ai (rl (List.length (rowI e3 w1))) (ai (row_whole_le el3 (rl (List.length w1)) (rl (List.length (rowI e3 w1)))) (ai (fun _ h => nomatch h : ∀ y ∈ ([] : List PV), y.cells.length = 1) trivial)))))))))) (by kernel_rfl)) (Weak.sel [0, 1, 4, 3] (selH_cons (o := z1) (o' := z1) (by kernel_rfl) (sel_x (by kernel_rfl)) (selH_cons (o := .cells (rowI e3 w1) 1) (o' := .cells (rowI e3 w1) 1) (by kernel_rfl) sel_row (selH_cons (o := .cells (rowI e3 w1) 1) (o' := .cells (rowI e3 w1) 1) (by kernel_rfl) sel_row (selH_cons (o := .hole) (o' := .hole) (by kernel_rfl) (by exact rfl) trivial)))) (by kernel_rfl) (by kernel_rfl))) rfl (show _ from trivial) (by kernel_rfl)) (by kernel_rfl)
def G79_6  (fuel : Nat) (w1 : (List Int)) : Option (Unit ⊕ Unit) :=
 oif (List.isEmpty w1)
 (some (.inl ()))
 (oif (decide ((List.length w1) * 8 ≤ 140737488355328)) (some (.inr (()))) none)
noncomputable def G79_6_post (w1 : (List Int))  : (Unit ⊕ Unit) → IV × List MObj
 | .inl y => (.p (.sl (List.map e3 []) true), [.cells [.p (.nilsl), .p (.nilsl), .p (.nilsl)] 0, .cells (rowI e3 w1) 1, .hole, .hole, .hole])
 | .inr (y) => (.msl 2 0 (List.length w1) (List.length (rowI e3 w1)) false, [.cells [.p (.nilsl), .p (.nilsl), .p (.nilsl)] 0, .cells (rowI e3 w1) 1, .cells (rowI e3 w1) 1, .hole, .hole])
theorem G79_6_ok  (fuel : Nat) (w1 : (List Int))  (r : (Unit ⊕ Unit)) (h : G79_6 fuel w1 = some r) : CallI prog 79 [.msl 1 0 (List.length w1) (List.length (rowI e3 w1)) false] [.cells [.p (.nilsl), .p (.nilsl), .p (.nilsl)] 0, .cells (rowI e3 w1) 1, .hole, .hole, .hole] (G79_6_post w1 r).1 (G79_6_post w1 r).2 := by
 let z1 : MObj := .cells [.p (.nilsl), .p (.nilsl), .p (.nilsl)] 0
 unfold G79_6 at h
 refine oif_elim h (fun h1 g1 => ?_) (fun h1 g1 => ?_)
 ·have hr := Option.some.inj g1
  subst hr
  exact CallI.cast (callI_of is79 (by kernel_rfl) (m := 5) (by kernel_rfl) (e := .ret) (vs := [.p (.sl [] true)]) (path hm (ks := [2]) (σ' := ⟨[(2, .p (.sl [] true))], [z1, .cells (rowI e3 w1) 1, .hole, .hole, .hole]⟩) (cc := [.reg [] [] 0 [] [0], .reg [] [] 0 [] [0, 4], .reg [] [] 0 [(2, none, .b true)] [2]])
   (ai (isEmpty_lenO h1 (rl (List.length w1))) (ai (row_scO el3 w1 ((List.length w1) * 1)) (ai (rl (List.length (rowI e3 w1))) (ai (row_whole_le el3 (rl (List.length w1)) (rl (List.length (rowI e3 w1)))) trivial)))) (by kernel_rfl)) rfl (show _ from trivial) (by kernel_rfl)) (by kernel_rfl)
 ·refine oif_elim g1 (fun h2 g2 => ?_) (fun _ h => nomatch h)
  have hr := Option.some.inj g2
  subst hr
  exact CallI.cast (callI_of is79 (by kernel_rfl) (m := 5) (by kernel_rfl) (e := .ret) (vs := [.msl 2 0 (List.length w1) (List.length (rowI e3 w1)) false]) (SemC.post (path hm (ks := [2]) (σ' := ⟨[(2, .msl 5 0 (List.length w1) (List.length (rowI e3 w1)) false)], [z1, .cells (rowI e3 w1) 1, .hole, .hole, .hole, .cells (rowI e3 w1) 1]⟩) (cc := [.reg [] [] 0 [] [0], .reg [] [] 0 [] [0, 4], .reg [] [] 1 [(2, some 5, .ap (rowI e3 w1) (List.length w1) (List.length (rowI e3 w1)))] [2]])
   (ai (notEmpty_lenO h1 (rl (List.length w1))) (ai (app_e1 (m := (List.length w1)) (od h2)) (ai (app_e2 (m := (List.length w1)) (by decide) (od h2)) (ai (Eq.trans (rl (List.length w1)) (Nat.zero_add _).symm) (ai (rl (List.length (rowI e3 w1))) (ai (row_srcO el3 (rl (List.length w1))) (ai (row_scO el3 w1 ((List.length w1) * 1)) (ai (rl (List.length (rowI e3 w1))) (ai (row_whole_le el3 (rl (List.length w1)) (rl (List.length (rowI e3 w1)))) (ai (fun _ h => nomatch h : ∀ y ∈ ([] : List PV), y.cells.length = 1) trivial)))))))))) (by kernel_rfl)) (Weak.sel [0, 1, 5, 3, 4] (selH_cons (o := z1) (o' := z1) (by kernel_rfl) (sel_x (by kernel_rfl)) (selH_cons (o := .cells (rowI e3 w1) 1) (o' := .cells (rowI e3 w1) 1) (by kernel_rfl) sel_row (selH_cons (o := .cells (rowI e3 w1) 1) (o' := .cells (rowI e3 w1) 1) (by kernel_rfl) sel_row (selH_cons (o := .hole) (o' := .hole) (by kernel_rfl) (by exact rfl) (selH_cons (o := .hole) (o' := .hole) (by kernel_rfl) (by exact rfl) trivial))))) (by kernel_rfl) (by kernel_rfl))) rfl (show _ from trivial) (by kernel_rfl)) (by kernel_rfl)
def F75  (fuel : Nat) (p0 : Int) (p1 : Int) (p2 : (List (Int × Int))) : Option Bool :=
 obind (sg p2 p0) fun x1 => obind (sg p2 p1) fun x2 => oif ((decide (x1.2 > x2.2)))
 (some true)
 (some false)
theorem F75_ok  (fuel : Nat) (p0 : Int) (p1 : Int) (p2 : (List (Int × Int)))  (r : Bool) (h : F75 fuel p0 p1 p2 = some r) : CallP prog 75 [.int .i64 p0, .int .i64 p1, .ref [.sl (List.map e70 p2) false]] (.bool r) := by
 unfold F75 at h
 refine obind_elim h fun x1 h1 g1 => ?_
 refine obind_elim g1 fun x2 h2 g2 => ?_
 refine oif_elim g2 (fun h3 g3 => ?_) (fun h3 g3 => ?_)
 ·have hr := Option.some.inj g3
  subst hr
  exact callP_of is75 rfl (path hm (ks := [5]) (σ' := ⟨[(5, .p (.bool true))], []⟩) (cc := [.reg [] [] 0 [] [0, 1, 2], .reg [0, 0, 3, 7, 15, 0, 0, 96, 224, 480, 1023, 2047] [] 0 [(2, none, .iv (.p (.agg [.int .i64 x1.1, .int .i64 x1.2]))), (7, none, .iv (.p (.agg [.int .i64 x2.1, .int .i64 x2.2]))), (10, none, .b true)] [5]])
   (ai (sg_map (f := e70) h1) (ai (sg_map (f := e70) h2) (ai h3 trivial))) (by kernel_rfl)) (e := .ret) rfl (vs := [.p (.bool true)]) trivial (by kernel_rfl) (.p _ _ (.refl _))
 ·have hr := Option.some.inj g3
  subst hr
  exact callP_of is75 rfl (path hm (ks := [5]) (σ' := ⟨[(5, .p (.bool false))], []⟩) (cc := [.reg [] [] 0 [] [0, 1, 2], .reg [0, 0, 3, 7, 15, 0, 0, 96, 224, 480, 1023, 2047] [] 0 [(2, none, .iv (.p (.agg [.int .i64 x1.1, .int .i64 x1.2]))), (7, none, .iv (.p (.agg [.int .i64 x2.1, .int .i64 x2.2]))), (10, none, .b false)] [5]])
   (ai (sg_map (f := e70) h1) (ai (sg_map (f := e70) h2) (ai h3 trivial))) (by kernel_rfl)) (e := .ret) rfl (vs := [.p (.bool false)]) trivial (by kernel_rfl) (.p _ _ (.refl _))
def L76_1_0  (v1 : (List (Int × Int))) (v12 : (List Int)) (v13 : Int) : Nat → Int → Int → Option Int
 | 0, _, _ => none
 | fuel + 1, v5, v14 =>
  oif ((decide (v14 < v13)))
  (obind (sg v12 v14) fun x1 => obind (F75 fuel x1 v5 v1) fun r2 => oif (r2)
   (L76_1_0 v1 v12 v13 fuel x1 (IntKind.wrap .i64 (v14 + 1)))
   (L76_1_0 v1 v12 v13 fuel v5 (IntKind.wrap .i64 (v14 + 1))))
  (some (v5))
noncomputable def L76_1_0_post (v1 : (List (Int × Int))) (v12 : (List Int)) (v13 : Int) (fp0 : Bool) : Int → Ex × St
 | y => ((.exit 0), ⟨[(5, .p (.int .i64 y))], []⟩)
theorem L76_1_0_ok  (v1 : (List (Int × Int))) (v12 : (List Int)) (v13 : Int) (fp0 : Bool) : ∀ (fuel : Nat) (v5 : Int) (v14 : Int) (r : Int), L76_1_0 v1 v12 v13 fuel v5 v14 = some r →
  SemJ prog ⟨25, 0, false⟩ (codeAt [1, 1, 0, 1, 0, 0] (bodyOf f76)) ⟨[(1, .p (.fn 75 [] [.ref [.sl (List.map e70 v1) false]])), (5, .p (.int .i64 v5)), (12, .p (.sl (List.map e3 v12) fp0)), (13, .p (.int .i64 v13)), (14, .p (.int .i64 v14))], []⟩ (L76_1_0_post v1 v12 v13 fp0 r).1 (L76_1_0_post v1 v12 v13 fp0 r).2
 | 0, _, _, _, h => nomatch h
 | fuel + 1, v5, v14, r, h => by
  let z2 : Int := (IntKind.wrap .i64 (v14 + 1))
  let z1 : St := ⟨[(1, .p (.fn 75 [] [.ref [.sl (List.map e70 v1) false]])), (5, .p (.int .i64 v5)), (12, .p (.sl (List.map e3 v12) fp0)), (13, .p (.int .i64 v13)), (14, .p (.int .i64 z2))], []⟩
  unfold L76_1_0 at h
  refine oif_elim h (fun h1 g1 => ?_) (fun h1 g1 => ?_)
  ·refine obind_elim g1 fun x1 h2 g2 => ?_
   refine obind_elim g2 fun r2 h3 g3 => ?_
   let c57 : List CC := [.reg [] [] 0 [(0, none, .b true)] [1, 5, 12, 13, 14, 15], .reg [] [] 0 [(0, none, .iv (.p (.int .i64 x1)))] [1, 5, 7, 12, 13, 14]]
   refine oif_elim g3 (fun h4 g4 => ?_) (fun h4 g4 => ?_)
   ·subst h4
    exact SemJ.again (σ1 := ⟨[(1, .p (.fn 75 [] [.ref [.sl (List.map e70 v1) false]])), (5, .p (.int .i64 x1)), (12, .p (.sl (List.map e3 v12) fp0)), (13, .p (.int .i64 v13)), (14, .p (.int .i64 z2))], []⟩) (path hm (σ' := ⟨[(1, .p (.fn 75 [] [.ref [.sl (List.map e70 v1) false]])), (5, .p (.int .i64 x1)), (12, .p (.sl (List.map e3 v12) fp0)), (13, .p (.int .i64 v13)), (14, .p (.int .i64 z2))], []⟩) (ks := [1, 5, 12, 13, 14]) (cc := c57 ++ [.reg [] [] 0 [(3, none, .call (.bool true))] [1, 5, 7, 12, 13, 14, 21], .reg [] [] 0 [] [1, 5, 12, 13, 14], .reg [] [] 0 [] [1, 5, 12, 13, 14]])
    (ai h1 (ai (sg_map (f := e3) h2) (ai (F75_ok fuel x1 v5 v1 _ h3) trivial))) (by kernel_rfl)) (L76_1_0_ok v1 v12 v13 fp0 fuel x1 z2 _ g4)
   ·subst h4
    exact SemJ.again (σ1 := z1) (path hm (σ' := z1) (ks := [1, 5, 12, 13, 14]) (cc := c57 ++ [.reg [] [] 0 [(3, none, .call (.bool false))] [1, 5, 7, 12, 13, 14, 21], .reg [] [] 0 [] [1, 5, 12, 13, 14]])
    (ai h1 (ai (sg_map (f := e3) h2) (ai (F75_ok fuel x1 v5 v1 _ h3) trivial))) (by kernel_rfl)) (L76_1_0_ok v1 v12 v13 fp0 fuel v5 z2 _ g4)
  ·have hr := Option.some.inj g1
   subst hr
   exact SemC.cast (SemJ.out (e := (.exit 0)) (path hm (σ' := ⟨[(5, .p (.int .i64 v5))], []⟩) (ks := [5]) (cc := [.reg [] [] 0 [(0, none, .b false)] [1, 5, 12, 13, 14, 15]])
    (ai h1 trivial) (by kernel_rfl)) (by simp)) (by kernel_rfl) (by kernel_rfl)
def F76_1  (fuel : Nat) (p0 : (List Int)) (p1ay : (List (Int × Int))) : Option Int :=
 obind (sg p0 0) fun x1 => obind (subL p0 (some 1) none) fun x2 => obind (L76_1_0 p1ay x2 (x2.length : Int) fuel x1 0) fun y3 => some y3
theorem F76_1_ok  (fuel : Nat) (p0 : (List Int)) (p1ay : (List (Int × Int))) (fp0 : Bool) (r : Int) (h : F76_1 fuel p0 p1ay = some r) : CallP prog 76 [.sl (List.map e3 p0) fp0, .fn 75 [] [.ref [.sl (List.map e70 p1ay) false]]] (.int .i64 r) := by
 unfold F76_1 at h
 refine obind_elim h fun x1 h1 g1 => ?_
 refine obind_elim g1 fun x2 h2 g2 => ?_
 refine obind_elim g2 fun y3 h3 g3 => ?_
 have hr := Option.some.inj g3
 subst hr
 exact callP_of is76 rfl (path hm (ks := [4]) (σ' := ⟨[(4, .p (.int .i64 y3))], []⟩) (cc := [.reg [] [] 0 [] [0, 1], .reg [] [] 0 [(1, none, .iv (.p (.int .i64 x1)))] [0, 1, 5], .reg [] [] 0 [(1, none, .pvs (List.map e3 x2)), (2, none, .n (x2.length : Int))] [1, 5, 12, 13, 14], .leaf (.exit 0) ⟨[(5, .p (.int .i64 y3))], []⟩, .reg [] [] 0 [] [4]])
   (ai (sg_map (f := e3) h1) (ai (sub_eq e3 h2) (ai (row_es el3 p0) (ai (sub_lo0 h2) (ai (sub_lo1 e3 h2) (ai (len_map e3 x2) (ai (SemJ.loop (L76_1_0_ok p1ay x2 (x2.length : Int) fp0 fuel x1 0 _ h3)) trivial))))))) (by kernel_rfl)) (e := .ret) rfl (vs := [.p (.int .i64 y3)]) trivial (by kernel_rfl) (.p _ _ (.refl _))
def G79_35  (fuel : Nat) (w1 : (List Int)) (w3 : (List Int)) : Option (Unit ⊕ Unit) :=
 oif (List.isEmpty w1)
 (some (.inl ()))
 (oif (decide ((List.length w1) * 8 ≤ 140737488355328)) (some (.inr (()))) none)
noncomputable def G79_35_post (w1 : (List Int)) (w3 : (List Int))  : (Unit ⊕ Unit) → IV × List MObj
 | .inl y => (.p (.sl (List.map e3 []) true), [.cells [.p (.nilsl), .p (.nilsl), .p (.nilsl)] 0, .cells (rowI e3 w1) 1, .hole, .cells (rowI e3 w3) 1])
 | .inr (y) => (.msl 2 0 (List.length w1) (List.length (rowI e3 w1)) false, [.cells [.p (.nilsl), .p (.nilsl), .p (.nilsl)] 0, .cells (rowI e3 w1) 1, .cells (rowI e3 w1) 1, .cells (rowI e3 w3) 1])
theorem G79_35_ok  (fuel : Nat) (w1 : (List Int)) (w3 : (List Int))  (r : (Unit ⊕ Unit)) (h : G79_35 fuel w1 w3 = some r) : CallI prog 79 [.msl 1 0 (List.length w1) (List.length (rowI e3 w1)) false] [.cells [.p (.nilsl), .p (.nilsl), .p (.nilsl)] 0, .cells (rowI e3 w1) 1, .hole, .cells (rowI e3 w3) 1] (G79_35_post w1 w3 r).1 (G79_35_post w1 w3 r).2 := by
 let z1 : MObj := .cells [.p (.nilsl), .p (.nilsl), .p (.nilsl)] 0
 unfold G79_35 at h
 refine oif_elim h (fun h1 g1 => ?_) (fun h1 g1 => ?_)
 ·have hr := Option.some.inj g1
  subst hr
  exact CallI.cast (callI_of is79 (by kernel_rfl) (m := 4) (by kernel_rfl) (e := .ret) (vs := [.p (.sl [] true)]) (path hm (ks := [2]) (σ' := ⟨[(2, .p (.sl [] true))], [z1, .cells (rowI e3 w1) 1, .hole, .cells (rowI e3 w3) 1]⟩) (cc := [.reg [] [] 0 [] [0], .reg [] [] 0 [] [0, 4], .reg [] [] 0 [(2, none, .b true)] [2]])
   (ai (isEmpty_lenO h1 (rl (List.length w1))) (ai (row_scO el3 w1 ((List.length w1) * 1)) (ai (rl (List.length (rowI e3 w1))) (ai (row_whole_le el3 (rl (List.length w1)) (rl (List.length (rowI e3 w1)))) trivial)))) (by kernel_rfl)) rfl (show _ from trivial) (by kernel_rfl)) (by kernel_rfl)
 ·refine oif_elim g1 (fun h2 g2 => ?_) (fun _ h => nomatch h)
  have hr := Option.some.inj g2
  subst hr
  exact CallI.cast (callI_of is79 (by kernel_rfl) (m := 4) (by kernel_rfl) (e := .ret) (vs := [.msl 2 0 (List.length w1) (List.length (rowI e3 w1)) false]) (SemC.post (path hm (ks := [2]) (σ' := ⟨[(2, .msl 4 0 (List.length w1) (List.length (rowI e3 w1)) false)], [z1, .cells (rowI e3 w1) 1, .hole, .cells (rowI e3 w3) 1, .cells (rowI e3 w1) 1]⟩) (cc := [.reg [] [] 0 [] [0], .reg [] [] 0 [] [0, 4], .reg [] [] 1 [(2, some 4, .ap (rowI e3 w1) (List.length w1) (List.length (rowI e3 w1)))] [2]])
   (ai (notEmpty_lenO h1 (rl (List.length w1))) (ai (app_e1 (m := (List.length w1)) (od h2)) (ai (app_e2 (m := (List.length w1)) (by decide) (od h2)) (ai (Eq.trans (rl (List.length w1)) (Nat.zero_add _).symm) (ai (rl (List.length (rowI e3 w1))) (ai (row_srcO el3 (rl (List.length w1))) (ai (row_scO el3 w1 ((List.length w1) * 1)) (ai (rl (List.length (rowI e3 w1))) (ai (row_whole_le el3 (rl (List.length w1)) (rl (List.length (rowI e3 w1)))) (ai (fun _ h => nomatch h : ∀ y ∈ ([] : List PV), y.cells.length = 1) trivial)))))))))) (by kernel_rfl)) (Weak.sel [0, 1, 4, 3] (selH_cons (o := z1) (o' := z1) (by kernel_rfl) (sel_x (by kernel_rfl)) (selH_cons (o := .cells (rowI e3 w1) 1) (o' := .cells (rowI e3 w1) 1) (by kernel_rfl) sel_row (selH_cons (o := .cells (rowI e3 w1) 1) (o' := .cells (rowI e3 w1) 1) (by kernel_rfl) sel_row (selH_cons (o := .cells (rowI e3 w3) 1) (o' := .cells (rowI e3 w3) 1) (by kernel_rfl) sel_row trivial)))) (by kernel_rfl) (by kernel_rfl))) rfl (show _ from trivial) (by kernel_rfl)) (by kernel_rfl)
def G79_37  (fuel : Nat) (w1 : (List Int)) (w3 : (List Int)) : Option (Unit ⊕ Unit) :=
 oif (List.isEmpty w1)
 (some (.inl ()))
 (oif (decide ((List.length w1) * 8 ≤ 140737488355328)) (some (.inr (()))) none)
noncomputable def G79_37_post (w1 : (List Int)) (w3 : (List Int))  : (Unit ⊕ Unit) → IV × List MObj
 | .inl y => (.p (.sl (List.map e3 []) true), [.cells [.p (.nilsl), .p (.nilsl), .p (.nilsl)] 0, .cells (rowI e3 w1) 1, .hole, .cells (rowI e3 w3) 1, .hole])
 | .inr (y) => (.msl 2 0 (List.length w1) (List.length (rowI e3 w1)) false, [.cells [.p (.nilsl), .p (.nilsl), .p (.nilsl)] 0, .cells (rowI e3 w1) 1, .cells (rowI e3 w1) 1, .cells (rowI e3 w3) 1, .hole])
theorem G79_37_ok  (fuel : Nat) (w1 : (List Int)) (w3 : (List Int))  (r : (Unit ⊕ Unit)) (h : G79_37 fuel w1 w3 = some r) : CallI prog 79 [.msl 1 0 (List.length w1) (List.length (rowI e3 w1)) false] [.cells [.p (.nilsl), .p (.nilsl), .p (.nilsl)] 0, .cells (rowI e3 w1) 1, .hole, .cells (rowI e3 w3) 1, .hole] (G79_37_post w1 w3 r).1 (G79_37_post w1 w3 r).2 := by
 let z1 : MObj := .cells [.p (.nilsl), .p (.nilsl), .p (.nilsl)] 0
 unfold G79_37 at h
 refine oif_elim h (fun h1 g1 => ?_) (fun h1 g1 => ?_)
 ·have hr := Option.some.inj g1
  subst hr
  exact CallI.cast (callI_of is79 (by kernel_rfl) (m := 5) (by kernel_rfl) (e := .ret) (vs := [.p (.sl [] true)]) (path hm (ks := [2]) (σ' := ⟨[(2, .p (.sl [] true))], [z1, .cells (rowI e3 w1) 1, .hole, .cells (rowI e3 w3) 1, .hole]⟩) (cc := [.reg [] [] 0 [] [0], .reg [] [] 0 [] [0, 4], .reg [] [] 0 [(2, none, .b true)] [2]])
   (ai (isEmpty_lenO h1 (rl (List.length w1))) (ai (row_scO el3 w1 ((List.length w1) * 1)) (ai (rl (List.length (rowI e3 w1))) (ai (row_whole_le el3 (rl (List.length w1)) (rl (List.length (rowI e3 w1)))) trivial)))) (by kernel_rfl)) rfl (show _ from trivial) (by kernel_rfl)) (by kernel_rfl)
 ·refine oif_elim g1 (fun h2 g2 => ?_) (fun _ h => nomatch h)
  have hr := Option.some.inj g2
  subst hr
  exact CallI.cast (callI_of is79 (by kernel_rfl) (m := 5) (by kernel_rfl) (e := .ret) (vs := [.msl 2 0 (List.length w1) (List.length (rowI e3 w1)) false]) (SemC.post (path hm (ks := [2]) (σ' := ⟨[(2, .msl 5 0 (List.length w1) (List.length (rowI e3 w1)) false)], [z1, .cells (rowI e3 w1) 1, .hole, .cells (rowI e3 w3) 1, .hole, .cells (rowI e3 w1) 1]⟩) (cc := [.reg [] [] 0 [] [0], .reg [] [] 0 [] [0, 4], .reg [] [] 1 [(2, some 5, .ap (rowI e3 w1) (List.length w1) (List.length (rowI e3 w1)))] [2]])
   (ai (notEmpty_lenO h1 (rl (List.length w1))) (ai (app_e1 (m := (List.length w1)) (od h2)) (ai (app_e2 (m := (List.length w1)) (by decide) (od h2)) (ai (Eq.trans (rl (List.length w1)) (Nat.zero_add _).symm) (ai (rl (List.length (rowI e3 w1))) (ai (row_srcO el3 (rl (List.length w1))) (ai (row_scO el3 w1 ((List.length w1) * 1)) (ai (rl (List.length (rowI e3 w1))) (ai (row_whole_le el3 (rl (List.length w1)) (rl (List.length (rowI e3 w1)))) (ai (fun _ h => nomatch h : ∀ y ∈ ([] : List PV), y.cells.length = 1) trivial)))))))))) (by kernel_rfl)) (Weak.sel [0, 1, 5, 3, 4] (selH_cons (o := z1) (o' := z1) (by kernel_rfl) (sel_x (by kernel_rfl)) (selH_cons (o := .cells (rowI e3 w1) 1) (o' := .cells (rowI e3 w1) 1) (by kernel_rfl) sel_row (selH_cons (o := .cells (rowI e3 w1) 1) (o' := .cells (rowI e3 w1) 1) (by kernel_rfl) sel_row (selH_cons (o := .cells (rowI e3 w3) 1) (o' := .cells (rowI e3 w3) 1) (by kernel_rfl) sel_row (selH_cons (o := .hole) (o' := .hole) (by kernel_rfl) (by exact rfl) trivial))))) (by kernel_rfl) (by kernel_rfl))) rfl (show _ from trivial) (by kernel_rfl)) (by kernel_rfl)
def F59  (fuel : Nat) (p0 : (List (Int × Int))) : Option ((List Int) × (List Int) × (List Int)) :=
 (obind (L59_0 p0 p0 (p0.length : Int) fuel ) fun y1 => match y1 with
 | .inl y1 => oif (((y1.2.length : Int) == 0))
  (obind (F76 fuel y1.1 p0) fun r2 => obind (G77_1 fuel y1.1 r2) fun y3 => oif (List.isEmpty y1.2)
   ((obind (G79_1 fuel y3) fun y4 => match y4 with
    | .inl y4 => oif (decide (((List.length (List.map e3 [])) + 1) * 8 ≤ 140737488355328)) (oif (List.isEmpty y3)
     (obind (F78 fuel p0 ([] ++ [r2]) [r2] r2 1) fun r5 => some (r5.1, r5.2.1, r5.2.2))
     (oif (decide ((1 + (List.length y3)) * 8 ≤ 140737488355328)) (obind (F78 fuel p0 ([] ++ [r2]) ([r2] ++ y3) r2 1) fun r5 => some (r5.1, r5.2.1, r5.2.2)) none)) none
    | .inr (y4) => oif (decide (((List.length y3) + 1) * 8 ≤ 140737488355328)) (oif (List.isEmpty y3)
     (obind (F78 fuel p0 (y3 ++ [r2]) [r2] r2 1) fun r5 => some (r5.1, r5.2.1, r5.2.2))
     (oif (decide ((1 + (List.length y3)) * 8 ≤ 140737488355328)) (obind (F78 fuel p0 (y3 ++ [r2]) ([r2] ++ y3) r2 1) fun r5 => some (r5.1, r5.2.1, r5.2.2)) none)) none))
   (oif (decide (((List.length y3) + (List.length (List.map e3 y1.2))) * 8 ≤ 140737488355328)) ((obind (G79_1 fuel (y3 ++ y1.2)) fun y4 => match y4 with
    | .inl y4 => oif (decide (((List.length (List.map e3 [])) + 1) * 8 ≤ 140737488355328)) (oif (List.isEmpty (y3 ++ y1.2))
     (obind (F78 fuel p0 ([] ++ [r2]) [r2] r2 1) fun r5 => some (r5.1, r5.2.1, r5.2.2))
     (oif (decide ((1 + (List.length (y3 ++ y1.2))) * 8 ≤ 140737488355328)) (obind (F78 fuel p0 ([] ++ [r2]) ([r2] ++ (y3 ++ y1.2)) r2 1) fun r5 => some (r5.1, r5.2.1, r5.2.2)) none)) none
    | .inr (y4) => oif (decide (((List.length (y3 ++ y1.2)) + 1) * 8 ≤ 140737488355328)) (oif (List.isEmpty (y3 ++ y1.2))
     (obind (F78 fuel p0 ((y3 ++ y1.2) ++ [r2]) [r2] r2 1) fun r5 => some (r5.1, r5.2.1, r5.2.2))
     (oif (decide ((1 + (List.length (y3 ++ y1.2))) * 8 ≤ 140737488355328)) (obind (F78 fuel p0 ((y3 ++ y1.2) ++ [r2]) ([r2] ++ (y3 ++ y1.2)) r2 1) fun r5 => some (r5.1, r5.2.1, r5.2.2)) none)) none)) none))
  (oif ((decide ((y1.1.length : Int) > 0)))
   (obind (F76 fuel y1.1 p0) fun r2 => obind (sg p0 r2) fun x3 => obind (F76_1 fuel y1.2 p0) fun r4 => obind (sg p0 r4) fun x5 => oif ((decide (x3.1 ≥ x5.2)))
    (obind (G77_1 fuel y1.1 r2) fun y6 => oif (List.isEmpty y1.2)
     ((obind (G79_1 fuel y6) fun y7 => match y7 with
      | .inl y7 => oif (decide (((List.length (List.map e3 [])) + 1) * 8 ≤ 140737488355328)) (oif (List.isEmpty y6)
       (obind (F78 fuel p0 ([] ++ [r2]) [r2] r2 1) fun r8 => some (r8.1, r8.2.1, r8.2.2))
       (oif (decide ((1 + (List.length y6)) * 8 ≤ 140737488355328)) (obind (F78 fuel p0 ([] ++ [r2]) ([r2] ++ y6) r2 1) fun r8 => some (r8.1, r8.2.1, r8.2.2)) none)) none
      | .inr (y7) => oif (decide (((List.length y6) + 1) * 8 ≤ 140737488355328)) (oif (List.isEmpty y6)
       (obind (F78 fuel p0 (y6 ++ [r2]) [r2] r2 1) fun r8 => some (r8.1, r8.2.1, r8.2.2))
       (oif (decide ((1 + (List.length y6)) * 8 ≤ 140737488355328)) (obind (F78 fuel p0 (y6 ++ [r2]) ([r2] ++ y6) r2 1) fun r8 => some (r8.1, r8.2.1, r8.2.2)) none)) none))
     (oif (decide (((List.length y6) + (List.length (List.map e3 y1.2))) * 8 ≤ 140737488355328)) ((obind (G79_1 fuel (y6 ++ y1.2)) fun y7 => match y7 with
      | .inl y7 => oif (decide (((List.length (List.map e3 [])) + 1) * 8 ≤ 140737488355328)) (oif (List.isEmpty (y6 ++ y1.2))
       (obind (F78 fuel p0 ([] ++ [r2]) [r2] r2 1) fun r8 => some (r8.1, r8.2.1, r8.2.2))
       (oif (decide ((1 + (List.length (y6 ++ y1.2))) * 8 ≤ 140737488355328)) (obind (F78 fuel p0 ([] ++ [r2]) ([r2] ++ (y6 ++ y1.2)) r2 1) fun r8 => some (r8.1, r8.2.1, r8.2.2)) none)) none
      | .inr (y7) => oif (decide (((List.length (y6 ++ y1.2)) + 1) * 8 ≤ 140737488355328)) (oif (List.isEmpty (y6 ++ y1.2))
       (obind (F78 fuel p0 ((y6 ++ y1.2) ++ [r2]) [r2] r2 1) fun r8 => some (r8.1, r8.2.1, r8.2.2))
       (oif (decide ((1 + (List.length (y6 ++ y1.2))) * 8 ≤ 140737488355328)) (obind (F78 fuel p0 ((y6 ++ y1.2) ++ [r2]) ([r2] ++ (y6 ++ y1.2)) r2 1) fun r8 => some (r8.1, r8.2.1, r8.2.2)) none)) none)) none))
    (obind (G77_1 fuel y1.2 r4) fun y6 => oif (List.isEmpty y1.1)
     (oif (List.isEmpty y6)
      ((obind (G79_1 fuel y6) fun y7 => match y7 with
       | .inl y7 => oif (decide (((List.length (List.map e3 [])) + 1) * 8 ≤ 140737488355328)) (obind (F78 fuel p0 [r4] ([] ++ [r4]) r4 0) fun r8 => some (r8.1, r8.2.1, r8.2.2)) none
       | .inr (y7) => oif (decide (((List.length y6) + 1) * 8 ≤ 140737488355328)) (obind (F78 fuel p0 [r4] (y6 ++ [r4]) r4 0) fun r8 => some (r8.1, r8.2.1, r8.2.2)) none))
      (oif (decide ((1 + (List.length y6)) * 8 ≤ 140737488355328)) ((obind (G79_35 fuel y6 ([r4] ++ y6)) fun y7 => match y7 with
       | .inl y7 => oif (decide (((List.length (List.map e3 [])) + 1) * 8 ≤ 140737488355328)) (obind (F78 fuel p0 ([r4] ++ y6) ([] ++ [r4]) r4 0) fun r8 => some (r8.1, r8.2.1, r8.2.2)) none
       | .inr (y7) => oif (decide (((List.length y6) + 1) * 8 ≤ 140737488355328)) (obind (F78 fuel p0 ([r4] ++ y6) (y6 ++ [r4]) r4 0) fun r8 => some (r8.1, r8.2.1, r8.2.2)) none)) none))
     (oif (decide (((List.length y6) + (List.length (List.map e3 y1.1))) * 8 ≤ 140737488355328)) (oif (List.isEmpty (y6 ++ y1.1))
      ((obind (G79_1 fuel (y6 ++ y1.1)) fun y7 => match y7 with
       | .inl y7 => oif (decide (((List.length (List.map e3 [])) + 1) * 8 ≤ 140737488355328)) (obind (F78 fuel p0 [r4] ([] ++ [r4]) r4 0) fun r8 => some (r8.1, r8.2.1, r8.2.2)) none
       | .inr (y7) => oif (decide (((List.length (y6 ++ y1.1)) + 1) * 8 ≤ 140737488355328)) (obind (F78 fuel p0 [r4] ((y6 ++ y1.1) ++ [r4]) r4 0) fun r8 => some (r8.1, r8.2.1, r8.2.2)) none))
      (oif (decide ((1 + (List.length (y6 ++ y1.1))) * 8 ≤ 140737488355328)) ((obind (G79_35 fuel (y6 ++ y1.1) ([r4] ++ (y6 ++ y1.1))) fun y7 => match y7 with
       | .inl y7 => oif (decide (((List.length (List.map e3 [])) + 1) * 8 ≤ 140737488355328)) (obind (F78 fuel p0 ([r4] ++ (y6 ++ y1.1)) ([] ++ [r4]) r4 0) fun r8 => some (r8.1, r8.2.1, r8.2.2)) none
       | .inr (y7) => oif (decide (((List.length (y6 ++ y1.1)) + 1) * 8 ≤ 140737488355328)) (obind (F78 fuel p0 ([r4] ++ (y6 ++ y1.1)) ((y6 ++ y1.1) ++ [r4]) r4 0) fun r8 => some (r8.1, r8.2.1, r8.2.2)) none)) none)) none)))
   (obind (F76_1 fuel y1.2 p0) fun r2 => obind (G77_1 fuel y1.2 r2) fun y3 => oif (List.isEmpty y1.1)
    (oif (List.isEmpty y3)
     ((obind (G79_1 fuel y3) fun y4 => match y4 with
      | .inl y4 => oif (decide (((List.length (List.map e3 [])) + 1) * 8 ≤ 140737488355328)) (obind (F78 fuel p0 [r2] ([] ++ [r2]) r2 0) fun r5 => some (r5.1, r5.2.1, r5.2.2)) none
      | .inr (y4) => oif (decide (((List.length y3) + 1) * 8 ≤ 140737488355328)) (obind (F78 fuel p0 [r2] (y3 ++ [r2]) r2 0) fun r5 => some (r5.1, r5.2.1, r5.2.2)) none))
     (oif (decide ((1 + (List.length y3)) * 8 ≤ 140737488355328)) ((obind (G79_35 fuel y3 ([r2] ++ y3)) fun y4 => match y4 with
      | .inl y4 => oif (decide (((List.length (List.map e3 [])) + 1) * 8 ≤ 140737488355328)) (obind (F78 fuel p0 ([r2] ++ y3) ([] ++ [r2]) r2 0) fun r5 => some (r5.1, r5.2.1, r5.2.2)) none
      | .inr (y4) => oif (decide (((List.length y3) + 1) * 8 ≤ 140737488355328)) (obind (F78 fuel p0 ([r2] ++ y3) (y3 ++ [r2]) r2 0) fun r5 => some (r5.1, r5.2.1, r5.2.2)) none)) none))
    (oif (decide (((List.length y3) + (List.length (List.map e3 y1.1))) * 8 ≤ 140737488355328)) (oif (List.isEmpty (y3 ++ y1.1))
     ((obind (G79_1 fuel (y3 ++ y1.1)) fun y4 => match y4 with
      | .inl y4 => oif (decide (((List.length (List.map e3 [])) + 1) * 8 ≤ 140737488355328)) (obind (F78 fuel p0 [r2] ([] ++ [r2]) r2 0) fun r5 => some (r5.1, r5.2.1, r5.2.2)) none
      | .inr (y4) => oif (decide (((List.length (y3 ++ y1.1)) + 1) * 8 ≤ 140737488355328)) (obind (F78 fuel p0 [r2] ((y3 ++ y1.1) ++ [r2]) r2 0) fun r5 => some (r5.1, r5.2.1, r5.2.2)) none))
     (oif (decide ((1 + (List.length (y3 ++ y1.1))) * 8 ≤ 140737488355328)) ((obind (G79_35 fuel (y3 ++ y1.1) ([r2] ++ (y3 ++ y1.1))) fun y4 => match y4 with
      | .inl y4 => oif (decide (((List.length (List.map e3 [])) + 1) * 8 ≤ 140737488355328)) (obind (F78 fuel p0 ([r2] ++ (y3 ++ y1.1)) ([] ++ [r2]) r2 0) fun r5 => some (r5.1, r5.2.1, r5.2.2)) none
      | .inr (y4) => oif (decide (((List.length (y3 ++ y1.1)) + 1) * 8 ≤ 140737488355328)) (obind (F78 fuel p0 ([r2] ++ (y3 ++ y1.1)) ((y3 ++ y1.1) ++ [r2]) r2 0) fun r5 => some (r5.1, r5.2.1, r5.2.2)) none)) none)) none)))
 | .inr (y1) => obind (F76 fuel [] p0) fun r2 => none)
end Go.Idl.N
