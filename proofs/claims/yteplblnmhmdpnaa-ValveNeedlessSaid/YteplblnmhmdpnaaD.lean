/-
  Part D of a proof: natives of the functions that are reached, and their contracts.
-/
import Derived.Test.YteplblnmhmdpnaaC
import Derived.Test.YteplblnmhmdpnaaProg
set_option maxRecDepth 100000
set_option linter.unusedVariables false
set_option linter.unusedSimpArgs false
namespace Go.Idl.N
open Go Go.Idl Go.Proofs.Try
theorem hm : prog.follows .mixedOrders = true := by kernel_rfl
theorem is5 : IsFn prog 5 f5 := ⟨by kernel_rfl, by kernel_rfl, by kernel_rfl⟩
theorem is6 : IsFn prog 6 f6 := ⟨by kernel_rfl, by kernel_rfl, by kernel_rfl⟩
theorem is7 : IsFn prog 7 f7 := ⟨by kernel_rfl, by kernel_rfl, by kernel_rfl⟩
theorem is8 : IsFn prog 8 f8 := ⟨by kernel_rfl, by kernel_rfl, by kernel_rfl⟩
theorem is9 : IsFn prog 9 f9 := ⟨by kernel_rfl, by kernel_rfl, by kernel_rfl⟩
theorem is11 : IsFn prog 11 f11 := ⟨by kernel_rfl, by kernel_rfl, by kernel_rfl⟩
theorem is12 : IsFn prog 12 f12 := ⟨by kernel_rfl, by kernel_rfl, by kernel_rfl⟩
theorem is13 : IsFn prog 13 f13 := ⟨by kernel_rfl, by kernel_rfl, by kernel_rfl⟩
theorem is14 : IsFn prog 14 f14 := ⟨by kernel_rfl, by kernel_rfl, by kernel_rfl⟩
theorem is15 : IsFn prog 15 f15 := ⟨by kernel_rfl, by kernel_rfl, by kernel_rfl⟩
theorem is17 : IsFn prog 17 f17 := ⟨by kernel_rfl, by kernel_rfl, by kernel_rfl⟩
theorem is19 : IsFn prog 19 f19 := ⟨by kernel_rfl, by kernel_rfl, by kernel_rfl⟩
theorem is21 : IsFn prog 21 f21 := ⟨by kernel_rfl, by kernel_rfl, by kernel_rfl⟩
theorem is23 : IsFn prog 23 f23 := ⟨by kernel_rfl, by kernel_rfl, by kernel_rfl⟩
theorem is24 : IsFn prog 24 f24 := ⟨by kernel_rfl, by kernel_rfl, by kernel_rfl⟩
theorem is25 : IsFn prog 25 f25 := ⟨by kernel_rfl, by kernel_rfl, by kernel_rfl⟩
theorem is26 : IsFn prog 26 f26 := ⟨by kernel_rfl, by kernel_rfl, by kernel_rfl⟩
theorem is27 : IsFn prog 27 f27 := ⟨by kernel_rfl, by kernel_rfl, by kernel_rfl⟩
theorem is28 : IsFn prog 28 f28 := ⟨by kernel_rfl, by kernel_rfl, by kernel_rfl⟩
theorem is29 : IsFn prog 29 f29 := ⟨by kernel_rfl, by kernel_rfl, by kernel_rfl⟩
theorem is30 : IsFn prog 30 f30 := ⟨by kernel_rfl, by kernel_rfl, by kernel_rfl⟩
theorem is31 : IsFn prog 31 f31 := ⟨by kernel_rfl, by kernel_rfl, by kernel_rfl⟩
theorem is32 : IsFn prog 32 f32 := ⟨by kernel_rfl, by kernel_rfl, by kernel_rfl⟩
theorem is33 : IsFn prog 33 f33 := ⟨by kernel_rfl, by kernel_rfl, by kernel_rfl⟩
theorem is34 : IsFn prog 34 f34 := ⟨by kernel_rfl, by kernel_rfl, by kernel_rfl⟩
theorem is35 : IsFn prog 35 f35 := ⟨by kernel_rfl, by kernel_rfl, by kernel_rfl⟩
theorem is36 : IsFn prog 36 f36 := ⟨by kernel_rfl, by kernel_rfl, by kernel_rfl⟩
theorem is37 : IsFn prog 37 f37 := ⟨by kernel_rfl, by kernel_rfl, by kernel_rfl⟩
theorem is38 : IsFn prog 38 f38 := ⟨by kernel_rfl, by kernel_rfl, by kernel_rfl⟩
theorem is39 : IsFn prog 39 f39 := ⟨by kernel_rfl, by kernel_rfl, by kernel_rfl⟩
theorem is40 : IsFn prog 40 f40 := ⟨by kernel_rfl, by kernel_rfl, by kernel_rfl⟩
theorem is41 : IsFn prog 41 f41 := ⟨by kernel_rfl, by kernel_rfl, by kernel_rfl⟩
theorem is42 : IsFn prog 42 f42 := ⟨by kernel_rfl, by kernel_rfl, by kernel_rfl⟩
theorem is43 : IsFn prog 43 f43 := ⟨by kernel_rfl, by kernel_rfl, by kernel_rfl⟩
theorem is44 : IsFn prog 44 f44 := ⟨by kernel_rfl, by kernel_rfl, by kernel_rfl⟩
theorem is45 : IsFn prog 45 f45 := ⟨by kernel_rfl, by kernel_rfl, by kernel_rfl⟩
theorem is46 : IsFn prog 46 f46 := ⟨by kernel_rfl, by kernel_rfl, by kernel_rfl⟩
theorem is47 : IsFn prog 47 f47 := ⟨by kernel_rfl, by kernel_rfl, by kernel_rfl⟩
theorem is51 : IsFn prog 51 f51 := ⟨by kernel_rfl, by kernel_rfl, by kernel_rfl⟩
theorem is52 : IsFn prog 52 f52 := ⟨by kernel_rfl, by kernel_rfl, by kernel_rfl⟩
theorem is53 : IsFn prog 53 f53 := ⟨by kernel_rfl, by kernel_rfl, by kernel_rfl⟩
theorem is54 : IsFn prog 54 f54 := ⟨by kernel_rfl, by kernel_rfl, by kernel_rfl⟩
theorem is55 : IsFn prog 55 f55 := ⟨by kernel_rfl, by kernel_rfl, by kernel_rfl⟩
theorem is56 : IsFn prog 56 f56 := ⟨by kernel_rfl, by kernel_rfl, by kernel_rfl⟩
theorem is57 : IsFn prog 57 f57 := ⟨by kernel_rfl, by kernel_rfl, by kernel_rfl⟩
theorem is58 : IsFn prog 58 f58 := ⟨by kernel_rfl, by kernel_rfl, by kernel_rfl⟩
theorem is59 : IsFn prog 59 f59 := ⟨by kernel_rfl, by kernel_rfl, by kernel_rfl⟩
theorem is60 : IsFn prog 60 f60 := ⟨by kernel_rfl, by kernel_rfl, by kernel_rfl⟩
theorem is61 : IsFn prog 61 f61 := ⟨by kernel_rfl, by kernel_rfl, by kernel_rfl⟩
theorem is62 : IsFn prog 62 f62 := ⟨by kernel_rfl, by kernel_rfl, by kernel_rfl⟩
theorem is63 : IsFn prog 63 f63 := ⟨by kernel_rfl, by kernel_rfl, by kernel_rfl⟩
theorem is64 : IsFn prog 64 f64 := ⟨by kernel_rfl, by kernel_rfl, by kernel_rfl⟩
theorem is67 : IsFn prog 67 f67 := ⟨by kernel_rfl, by kernel_rfl, by kernel_rfl⟩
theorem is68 : IsFn prog 68 f68 := ⟨by kernel_rfl, by kernel_rfl, by kernel_rfl⟩
noncomputable def R15_1_0_1_1_1_1_0_1_0 : Rng := rngOf (codeAt [1, 0, 1, 1, 1, 1, 0, 1, 0] (bodyOf f15)) 57
noncomputable def R17_1_1_1_1_0_1_0 : Rng := rngOf (codeAt [1, 1, 1, 1, 0, 1, 0] (bodyOf f17)) 57
noncomputable def R51_1_0_1_0 : Rng := rngOf (codeAt [1, 0, 1, 0] (bodyOf f51)) 21
noncomputable def R57_1_0_1_0 : Rng := rngOf (codeAt [1, 0, 1, 0] (bodyOf f57)) 42
def e2 (v : Int) : PV := .int .i64 v
theorem el2 : Elem e2 1 := ⟨fun _ => rfl, fun _ => rfl, by decide⟩
def e3 (v : Int) : PV := .int .i64 v
theorem el3 : Elem e3 1 := ⟨fun _ => rfl, fun _ => rfl, by decide⟩
def e4 (v : Bool) : PV := .bool v
theorem el4 : Elem e4 1 := ⟨fun _ => rfl, fun _ => rfl, by decide⟩
def e62 (v : (Int × Int)) : PV := .agg [.int .i64 v.1, .int .i64 v.2]
theorem el62 : Elem e62 2 := ⟨fun _ => rfl, fun _ => rfl, by decide⟩
def e74 (v : (List Int)) : PV := .agg (rowP e2 v)
noncomputable def fs74 : Array Field := match prog.underlying 74 with | some (.struct fs) => fs | _ => #[]
noncomputable def fd74 : Field := match fs74.toList with | [f] => f | _ => default
theorem eqr2p : ElEq prog e2 2 9998 := ⟨fun _ _ => by kernel_rfl, fun _ => rfl, fun _ _ => by kernel_rfl⟩
theorem keq74 : KEq prog e74 74 (fun l => decide (List.length l = 8)) := ⟨fun a b ha hb => (eqPV_wrap (P := prog) (t := 74) (d := 9999) (n := 1) (fs := fs74) (fd := fd74) (i := t58) (td0 := .array 8 2) (by kernel_rfl) (by kernel_rfl) (by kernel_rfl) (by kernel_rfl) (by kernel_rfl) (by kernel_rfl) (by kernel_rfl) (by kernel_rfl) el2 (od ha) (od hb) (eqPV_row (P := prog) (t := 58) (d := 9998) el2 eqr2p (by kernel_rfl : prog.underlying 58 = some (.array 8 2)) (by kernel_rfl : prog.info? 2 = some t2) (by kernel_rfl) (od ha) (od hb))), fun a => keyF_row (fun x => ⟨_, _, rfl⟩) a⟩
theorem eqr2 : ElEq prog e2 2 9999 := ⟨fun _ _ => by kernel_rfl, fun _ => rfl, fun _ _ => by kernel_rfl⟩
def F6  (fuel : Nat) (p0 : (Int × (List (Int × Int)))) : Option Bool :=
  oif ((decide ((p0.2.length : Int) > 50)))
  (some true)
  (some false)
theorem F6_ok  (fuel : Nat) (p0 : (Int × (List (Int × Int))))  (r : Bool) (h : F6 fuel p0 = some r) : CallP prog 6 [.agg [.int .i64 p0.1, .sl (List.map e62 p0.2) false]] (.bool r) := by
  unfold F6 at h
  refine oif_elim h (fun h1 g1 => ?_) (fun h1 g1 => ?_)
  · have hr := Option.some.inj g1
    subst hr
    exact callP_of is6 rfl (path hm (ks := [2]) (σ' := ⟨[(2, .p (.bool true))], []⟩) (cc := [.reg [] [] 0 [(0, none, .imm)] [1], .reg [] [] 0 [(2, none, .n (p0.2.length : Int)), (3, none, .b true)] [2]])
      (ai (len_map e62 p0.2) (ai h1 trivial)) (by kernel_rfl)) (e := .ret) rfl (vs := [.p (.bool true)]) trivial (by kernel_rfl) (.p _ _ (.refl _))
  · have hr := Option.some.inj g1
    subst hr
    exact callP_of is6 rfl (path hm (ks := [2]) (σ' := ⟨[(2, .p (.bool false))], []⟩) (cc := [.reg [] [] 0 [(0, none, .imm)] [1], .reg [] [] 0 [(2, none, .n (p0.2.length : Int)), (3, none, .b false)] [2]])
      (ai (len_map e62 p0.2) (ai h1 trivial)) (by kernel_rfl)) (e := .ret) rfl (vs := [.p (.bool false)]) trivial (by kernel_rfl) (.p _ _ (.refl _))
def L34_1  (v1 : (List Int)) (w1 : Int) : Nat → Int → (List (Int × Int)) → Option (List (Int × Int))
  | 0, _, _ => none
  | fuel + 1, v6, w2 =>
    oif ((decide ((IntKind.wrap .i64 (v6 + 1)) < (v1.length : Int))))
    (obind (sg v1 v6) fun x1 => obind (sg v1 (IntKind.wrap .i64 (v6 + 1))) fun x2 => oif (decide (((List.length w2) + 1) * 16 ≤ 140737488355328)) (L34_1 v1 w1 fuel (IntKind.wrap .i64 (v6 + 2)) (w2 ++ [(x1, x2)])) none)
    (some (w2))
noncomputable def L34_1_post (v1 : (List Int)) (w1 : Int) (fp1 : Bool) : (List (Int × Int)) → Ex × St
  | y => ((.exit 0), ⟨[(4, .ptr 0 0 2), (5, .ptr 1 0 2)], [.cells [.p (.int .i64 0), .p (.nilsl)] 0, .cells [.p (.int .i64 w1), .msl 2 0 (List.length y) (List.length (rowI e62 y)) false] 0, .cells (rowI e62 y) 2]⟩)
theorem L34_1_ok  (v1 : (List Int)) (w1 : Int) (fp1 : Bool) : ∀ (fuel : Nat) (v6 : Int) (w2 : (List (Int × Int))) (r : (List (Int × Int))), L34_1 v1 w1 fuel v6 w2 = some r →
    SemJ prog ⟨32, 0, false⟩ (codeAt [1, 1, 0, 1, 0, 0] (bodyOf f34)) ⟨[(1, .p (.sl (List.map e3 v1) fp1)), (4, .ptr 0 0 2), (5, .ptr 1 0 2), (6, .p (.int .i64 v6))], [.cells [.p (.int .i64 0), .p (.nilsl)] 0, .cells [.p (.int .i64 w1), .msl 2 0 (List.length w2) (List.length (rowI e62 w2)) false] 0, .cells (rowI e62 w2) 2]⟩ (L34_1_post v1 w1 fp1 r).1 (L34_1_post v1 w1 fp1 r).2
  | 0, _, _, _, h => nomatch h
  | fuel + 1, v6, w2, r, h => by
    unfold L34_1 at h
    refine oif_elim h (fun h1 g1 => ?_) (fun h1 g1 => ?_)
    · refine obind_elim g1 fun x1 h2 g2 => ?_
      refine obind_elim g2 fun x2 h3 g3 => ?_
      refine oif_elim g3 (fun h4 g4 => ?_) (fun _ h => nomatch h)
      exact SemJ.again (σ1 := ⟨[(1, .p (.sl (List.map e3 v1) fp1)), (4, .ptr 0 0 2), (5, .ptr 1 0 2), (6, .p (.int .i64 (IntKind.wrap .i64 (v6 + 2))))], [.cells [.p (.int .i64 0), .p (.nilsl)] 0, .cells [.p (.int .i64 w1), .msl 2 0 (List.length (w2 ++ [(x1, x2)])) (List.length (rowI e62 (w2 ++ [(x1, x2)]))) false] 0, .cells (rowI e62 (w2 ++ [(x1, x2)])) 2]⟩) (path hm (σ' := ⟨[(1, .p (.sl (List.map e3 v1) fp1)), (4, .ptr 0 0 2), (5, .ptr 1 0 2), (6, .p (.int .i64 (IntKind.wrap .i64 (v6 + 2))))], [.cells [.p (.int .i64 0), .p (.nilsl)] 0, .cells [.p (.int .i64 w1), .msl 2 0 (List.length (w2 ++ [(x1, x2)])) (List.length (rowI e62 (w2 ++ [(x1, x2)]))) false] 0, .cells (rowI e62 (w2 ++ [(x1, x2)])) 2]⟩) (ks := [1, 4, 5, 6]) (cc := [.reg [] [] 0 [(3, none, .n (v1.length : Int)), (4, none, .b true)] [1, 4, 5, 6, 13], .reg [0, 1, 0, 0, 12, 28, 0, 0, 128, 448, 960, 2044, 4092, 8191, 16383, 32767] [(2, 13), (1, 15)] 0 [(4, none, .iv (.p (.int .i64 x1))), (9, none, .iv (.p (.int .i64 x2))), (13, none, .ap (rowI e62 (w2 ++ [(x1, x2)])) (List.length (w2 ++ [(x1, x2)])) (List.length (rowI e62 (w2 ++ [(x1, x2)]))))] [1, 4, 5, 6], .reg [] [] 0 [] [1, 4, 5, 6]])
        (ai (len_map e3 v1) (ai h1 (ai (sg_map (f := e3) h2) (ai (sg_map (f := e3) h3) (ai (by decide : 0 < 1) (ai (od h4) (ai (app_c2 (by decide) (od h4)) (ai (app_len e62 [(x1, x2)] (rl (List.length w2))) (ai (rl (List.length (rowI e62 (w2 ++ [(x1, x2)])))) (ai (row_app e62 w2 [(x1, x2)]) (ai (rl (List.length (rowI e62 w2))) (ai (row_sz el62 (rl (List.length (rowI e62 w2))) (rl (List.length w2))) (ai (row_sc el62 [(x1, x2)]) (ai (row_es el62 [(x1, x2)]) trivial)))))))))))))) (by kernel_rfl)) (L34_1_ok v1 w1 fp1 fuel (IntKind.wrap .i64 (v6 + 2)) (w2 ++ [(x1, x2)]) _ g4)
    · have hr := Option.some.inj g1
      subst hr
      exact SemC.cast (SemJ.out (e := (.exit 0)) (path hm (σ' := ⟨[(4, .ptr 0 0 2), (5, .ptr 1 0 2)], [.cells [.p (.int .i64 0), .p (.nilsl)] 0, .cells [.p (.int .i64 w1), .msl 2 0 (List.length w2) (List.length (rowI e62 w2)) false] 0, .cells (rowI e62 w2) 2]⟩) (ks := [4, 5]) (cc := [.reg [] [] 0 [(3, none, .n (v1.length : Int)), (4, none, .b false)] [1, 4, 5, 6, 13]])
        (ai (len_map e3 v1) (ai h1 trivial)) (by kernel_rfl)) (by simp)) (by kernel_rfl) (by kernel_rfl)
def L34_0  (v1 : (List Int)) (w1 : Int) : Nat → Option ((List (Int × Int)) ⊕ Unit)
  | 0 => none
  | fuel + 1 =>
    oif ((decide (1 < (v1.length : Int))))
    (obind (sg v1 0) fun x1 => obind (sg v1 1) fun x2 => oif (decide (1 * 16 ≤ 140737488355328)) (obind (L34_1 v1 w1 fuel 2 [(x1, x2)]) fun y3 => some (.inl y3)) none)
    (some (.inr (())))
noncomputable def L34_0_post (v1 : (List Int)) (w1 : Int) (fp1 : Bool) : ((List (Int × Int)) ⊕ Unit) → Ex × St
  | .inl y => ((.exit 0), ⟨[(4, .ptr 0 0 2), (5, .ptr 1 0 2)], [.cells [.p (.int .i64 0), .p (.nilsl)] 0, .cells [.p (.int .i64 w1), .msl 2 0 (List.length y) (List.length (rowI e62 y)) false] 0, .cells (rowI e62 y) 2]⟩)
  | .inr (y) => ((.exit 0), ⟨[(4, .ptr 0 0 2), (5, .ptr 1 0 2)], [.cells [.p (.int .i64 0), .p (.nilsl)] 0, .cells [.p (.int .i64 w1), .p (.nilsl)] 0]⟩)
theorem L34_0_ok  (v1 : (List Int)) (w1 : Int) (fp1 : Bool) : ∀ (fuel : Nat)  (r : ((List (Int × Int)) ⊕ Unit)), L34_0 v1 w1 fuel  = some r →
    SemJ prog ⟨32, 0, false⟩ (codeAt [1, 1, 0, 1, 0, 0] (bodyOf f34)) ⟨[(1, .p (.sl (List.map e3 v1) fp1)), (4, .ptr 0 0 2), (5, .ptr 1 0 2), (6, .p (.int .i64 0))], [.cells [.p (.int .i64 0), .p (.nilsl)] 0, .cells [.p (.int .i64 w1), .p (.nilsl)] 0]⟩ (L34_0_post v1 w1 fp1 r).1 (L34_0_post v1 w1 fp1 r).2
  | 0, _, h => nomatch h
  | fuel + 1, r, h => by
    unfold L34_0 at h
    refine oif_elim h (fun h1 g1 => ?_) (fun h1 g1 => ?_)
    · refine obind_elim g1 fun x1 h2 g2 => ?_
      refine obind_elim g2 fun x2 h3 g3 => ?_
      refine oif_elim g3 (fun h4 g4 => ?_) (fun _ h => nomatch h)
      refine obind_elim g4 fun y3 h5 g5 => ?_
      have hr := Option.some.inj g5
      subst hr
      exact SemC.cast (SemJ.again (σ1 := ⟨[(1, .p (.sl (List.map e3 v1) fp1)), (4, .ptr 0 0 2), (5, .ptr 1 0 2), (6, .p (.int .i64 2))], [.cells [.p (.int .i64 0), .p (.nilsl)] 0, .cells [.p (.int .i64 w1), .msl 2 0 (List.length [(x1, x2)]) (List.length (rowI e62 [(x1, x2)])) false] 0, .cells (rowI e62 [(x1, x2)]) 2]⟩) (path hm (σ' := ⟨[(1, .p (.sl (List.map e3 v1) fp1)), (4, .ptr 0 0 2), (5, .ptr 1 0 2), (6, .p (.int .i64 2))], [.cells [.p (.int .i64 0), .p (.nilsl)] 0, .cells [.p (.int .i64 w1), .msl 2 0 (List.length [(x1, x2)]) (List.length (rowI e62 [(x1, x2)])) false] 0, .cells (rowI e62 [(x1, x2)]) 2]⟩) (ks := [1, 4, 5, 6]) (cc := [.reg [] [] 0 [(3, none, .n (v1.length : Int)), (4, none, .b true)] [1, 4, 5, 6, 13], .reg [0, 1, 0, 0, 12, 28, 0, 0, 128, 448, 960, 2044, 4092, 8191, 16383, 32767] [(2, 13), (1, 15)] 1 [(4, none, .iv (.p (.int .i64 x1))), (9, none, .iv (.p (.int .i64 x2))), (13, some 2, .ap (rowI e62 [(x1, x2)]) (List.length [(x1, x2)]) (List.length (rowI e62 [(x1, x2)])))] [1, 4, 5, 6], .reg [] [] 0 [] [1, 4, 5, 6]])
        (ai (len_map e3 v1) (ai h1 (ai (sg_map (f := e3) h2) (ai (sg_map (f := e3) h3) (ai (by decide : 0 < 1) (ai (od h4) (ai (app_c0 (by decide) (od h4)) (ai (rl (List.length [(x1, x2)])) (ai (rl (List.length (rowI e62 [(x1, x2)]))) (ai (row_src e62 [(x1, x2)]) (ai (row_sc el62 [(x1, x2)]) (ai (row_es el62 [(x1, x2)]) trivial)))))))))))) (by kernel_rfl)) (L34_1_ok v1 w1 fp1 fuel 2 [(x1, x2)] _ h5)) (by kernel_rfl) (by kernel_rfl)
    · have hr := Option.some.inj g1
      subst hr
      exact SemC.cast (SemJ.out (e := (.exit 0)) (path hm (σ' := ⟨[(4, .ptr 0 0 2), (5, .ptr 1 0 2)], [.cells [.p (.int .i64 0), .p (.nilsl)] 0, .cells [.p (.int .i64 w1), .p (.nilsl)] 0]⟩) (ks := [4, 5]) (cc := [.reg [] [] 0 [(3, none, .n (v1.length : Int)), (4, none, .b false)] [1, 4, 5, 6, 13]])
        (ai (len_map e3 v1) (ai h1 trivial)) (by kernel_rfl)) (by simp)) (by kernel_rfl) (by kernel_rfl)
def F34  (fuel : Nat) (p0 : Int) (p1 : (List Int)) : Option (Int × (List (Int × Int))) :=
  (obind (L34_0 p1 p0 fuel ) fun y1 => match y1 with
  | .inl y1 => some (p0, y1)
  | .inr (y1) => some (p0, []))
theorem F34_ok  (fuel : Nat) (p0 : Int) (p1 : (List Int)) (fp1 : Bool) (r : (Int × (List (Int × Int)))) (h : F34 fuel p0 p1 = some r) : CallP prog 34 [.int .i64 p0, .sl (List.map e3 p1) fp1] (.agg [.int .i64 r.1, .sl (List.map e62 r.2) false]) := by
  unfold F34 at h
  let c1 : List CC := [.reg [] [] 1 [(0, some 0, .a)] [0, 1, 4], .reg [] [] 1 [(2, some 1, .a)] [1, 4, 5], .reg [] [] 0 [] [1, 4, 5, 6]]
  refine obind_elim h fun y h1 g1 => ?_
  match y, h1, g1 with
  | .inl y1, h1, g1 =>
    have hr := Option.some.inj g1
    subst hr
    exact callP_of is34 rfl (path hm (ks := [4]) (σ' := ⟨[(4, .ptr 0 0 2)], [.cells [.p (.int .i64 p0), .msl 2 0 (List.length y1) (List.length (rowI e62 y1)) false] 0, .cells [.p (.int .i64 p0), .msl 2 0 (List.length y1) (List.length (rowI e62 y1)) false] 0, .cells (rowI e62 y1) 2]⟩) (cc := c1 ++ [.leaf (.exit 0) ⟨[(4, .ptr 0 0 2), (5, .ptr 1 0 2)], [.cells [.p (.int .i64 0), .p (.nilsl)] 0, .cells [.p (.int .i64 p0), .msl 2 0 (List.length y1) (List.length (rowI e62 y1)) false] 0, .cells (rowI e62 y1) 2]⟩, .reg [] [] 0 [] [4]])
      (ai (SemJ.loop (L34_0_ok p1 p0 fp1 fuel  _ h1)) trivial) (by kernel_rfl)) (e := .ret) rfl (vs := [.agg [.p (.int .i64 p0), .msl 2 0 (List.length y1) (List.length (rowI e62 y1)) false]]) (ai (rfl : (2:Nat) = 2) (ai (by decide : (2:Nat) ≤ 2) trivial)) (by kernel_rfl) (.agg _ _ (.cons _ _ _ _ (.p _ _ (.refl _)) (.cons _ _ _ _ (snap_row (g := 2) (L := y1) el62 (by kernel_rfl) (rl (List.length (rowI e62 y1))) (rl (List.length y1))) .nil)))
  | .inr (y1), h1, g1 =>
    have hr := Option.some.inj g1
    subst hr
    exact callP_of is34 rfl (path hm (ks := [4]) (σ' := ⟨[(4, .ptr 0 0 2)], [.cells [.p (.int .i64 p0), .p (.nilsl)] 0, .cells [.p (.int .i64 p0), .p (.nilsl)] 0]⟩) (cc := c1 ++ [.leaf (.exit 0) ⟨[(4, .ptr 0 0 2), (5, .ptr 1 0 2)], [.cells [.p (.int .i64 0), .p (.nilsl)] 0, .cells [.p (.int .i64 p0), .p (.nilsl)] 0]⟩, .reg [] [] 0 [] [4]])
      (ai (SemJ.loop (L34_0_ok p1 p0 fp1 fuel  _ h1)) trivial) (by kernel_rfl)) (e := .ret) rfl (vs := [.agg [.p (.int .i64 p0), .p (.nilsl)]]) (ai (rfl : (2:Nat) = 2) (ai (by decide : (2:Nat) ≤ 2) trivial)) (by kernel_rfl) (.agg _ _ (.cons _ _ _ _ (.p _ _ (.refl _)) (.cons _ _ _ _ (.p _ _ (.nil _)) .nil)))
def F35  (fuel : Nat) (p0 : (List Int)) : Option (List Int) :=
  some p0
theorem F35_ok  (fuel : Nat) (p0 : (List Int)) (fp0 : Bool) (r : (List Int)) (h : F35 fuel p0 = some r) : CallP prog 35 [.sl (List.map e2 p0) fp0] (.sl (List.map e2 r) false) := by
  unfold F35 at h
  have hr := Option.some.inj h
  subst hr
  exact callP_of is35 rfl (path hm (ks := [2]) (σ' := ⟨[(2, .p (.sl (List.map e2 p0) fp0))], []⟩) (cc := [.reg [] [] 0 [] [0], .reg [] [] 0 [] [2]])
      trivial (by kernel_rfl)) (e := .ret) rfl (vs := [.p (.sl (List.map e2 p0) fp0)]) trivial (by kernel_rfl) (.p _ _ (.flag _ _ _ (fun h => nomatch h)))
def F62  (fuel : Nat) (p0 : Int) (p1 : Int) (p2 : Int) : Option Bool :=
  oif ((decide (p0 < p1)))
  (some true)
  (oif ((decide (p0 > p2)))
    (some true)
    (some false))
theorem F62_ok  (fuel : Nat) (p0 : Int) (p1 : Int) (p2 : Int)  (r : Bool) (h : F62 fuel p0 p1 p2 = some r) : CallP prog 62 [.int .i64 p0, .ref [.int .i64 p1], .ref [.int .i64 p2]] (.bool r) := by
  unfold F62 at h
  refine oif_elim h (fun h1 g1 => ?_) (fun h1 g1 => ?_)
  · have hr := Option.some.inj g1
    subst hr
    exact callP_of is62 rfl (path hm (ks := [4]) (σ' := ⟨[(4, .p (.bool true))], []⟩) (cc := [.reg [] [] 0 [] [0, 1, 2], .reg [] [] 0 [(2, none, .b true)] [4]])
      (ai h1 trivial) (by kernel_rfl)) (e := .ret) rfl (vs := [.p (.bool true)]) trivial (by kernel_rfl) (.p _ _ (.refl _))
  · refine oif_elim g1 (fun h2 g2 => ?_) (fun h2 g2 => ?_)
    · have hr := Option.some.inj g2
      subst hr
      exact callP_of is62 rfl (path hm (ks := [4]) (σ' := ⟨[(4, .p (.bool true))], []⟩) (cc := [.reg [] [] 0 [] [0, 1, 2], .reg [] [] 0 [(2, none, .b false), (6, none, .b true)] [4]])
      (ai h1 (ai h2 trivial)) (by kernel_rfl)) (e := .ret) rfl (vs := [.p (.bool true)]) trivial (by kernel_rfl) (.p _ _ (.refl _))
    · have hr := Option.some.inj g2
      subst hr
      exact callP_of is62 rfl (path hm (ks := [4]) (σ' := ⟨[(4, .p (.bool false))], []⟩) (cc := [.reg [] [] 0 [] [0, 1, 2], .reg [] [] 0 [(2, none, .b false), (6, none, .b false)] [4]])
      (ai h1 (ai h2 trivial)) (by kernel_rfl)) (e := .ret) rfl (vs := [.p (.bool false)]) trivial (by kernel_rfl) (.p _ _ (.refl _))
def L68_0  (v0 : (List Int)) (v1 : Int) (v1_1 : Int) (v7 : Int) : Nat → Int → Option (Int ⊕ Unit)
  | 0, _ => none
  | fuel + 1, v8 =>
    oif ((decide (v8 < v7)))
    (obind (sg v0 v8) fun x1 => obind (F62 fuel x1 v1 v1_1) fun r2 => oif (r2)
      (some (.inl v8))
      (L68_0 v0 v1 v1_1 v7 fuel (IntKind.wrap .i64 (v8 + 1))))
    (some (.inr (())))
noncomputable def L68_0_post (v0 : (List Int)) (v1 : Int) (v1_1 : Int) (v7 : Int) (fp0 : Bool) : (Int ⊕ Unit) → Ex × St
  | .inl y => (.ret, ⟨[(4, .p (.int .i64 y))], []⟩)
  | .inr (y) => ((.exit 0), ⟨[], []⟩)
theorem L68_0_ok  (v0 : (List Int)) (v1 : Int) (v1_1 : Int) (v7 : Int) (fp0 : Bool) : ∀ (fuel : Nat) (v8 : Int) (r : (Int ⊕ Unit)), L68_0 v0 v1 v1_1 v7 fuel v8 = some r →
    SemJ prog ⟨19, 0, false⟩ (codeAt [1, 0, 1, 0, 0] (bodyOf f68)) ⟨[(0, .p (.sl (List.map e3 v0) fp0)), (1, .p (.fn 62 [] [.ref [.int .i64 v1], .ref [.int .i64 v1_1]])), (7, .p (.int .i64 v7)), (8, .p (.int .i64 v8))], []⟩ (L68_0_post v0 v1 v1_1 v7 fp0 r).1 (L68_0_post v0 v1 v1_1 v7 fp0 r).2
  | 0, _, _, h => nomatch h
  | fuel + 1, v8, r, h => by
    unfold L68_0 at h
    refine oif_elim h (fun h1 g1 => ?_) (fun h1 g1 => ?_)
    · refine obind_elim g1 fun x1 h2 g2 => ?_
      refine obind_elim g2 fun r2 h3 g3 => ?_
      let c2 : List CC := [.reg [] [] 0 [(0, none, .b true)] [0, 1, 7, 8, 9], .reg [] [] 0 [] [0, 1, 5, 7, 8]]
      refine oif_elim g3 (fun h4 g4 => ?_) (fun h4 g4 => ?_)
      · subst h4
        have hr := Option.some.inj g4
        subst hr
        exact SemC.cast (SemJ.out (e := .ret) (path hm (σ' := ⟨[(4, .p (.int .i64 v8))], []⟩) (ks := [4]) (cc := c2 ++ [.reg [] [] 0 [(3, none, .iv (.p (.int .i64 x1))), (5, none, .call (.bool true))] [0, 1, 5, 7, 8, 16], .reg [] [] 0 [] [4]])
        (ai h1 (ai (sg_map (f := e3) h2) (ai (F62_ok fuel x1 v1 v1_1 _ h3) trivial))) (by kernel_rfl)) (by simp)) (by kernel_rfl) (by kernel_rfl)
      · subst h4
        exact SemJ.again (σ1 := ⟨[(0, .p (.sl (List.map e3 v0) fp0)), (1, .p (.fn 62 [] [.ref [.int .i64 v1], .ref [.int .i64 v1_1]])), (7, .p (.int .i64 v7)), (8, .p (.int .i64 (IntKind.wrap .i64 (v8 + 1))))], []⟩) (path hm (σ' := ⟨[(0, .p (.sl (List.map e3 v0) fp0)), (1, .p (.fn 62 [] [.ref [.int .i64 v1], .ref [.int .i64 v1_1]])), (7, .p (.int .i64 v7)), (8, .p (.int .i64 (IntKind.wrap .i64 (v8 + 1))))], []⟩) (ks := [0, 1, 7, 8]) (cc := c2 ++ [.reg [] [] 0 [(3, none, .iv (.p (.int .i64 x1))), (5, none, .call (.bool false))] [0, 1, 5, 7, 8, 16], .reg [] [] 0 [] [0, 1, 7, 8]])
        (ai h1 (ai (sg_map (f := e3) h2) (ai (F62_ok fuel x1 v1 v1_1 _ h3) trivial))) (by kernel_rfl)) (L68_0_ok v0 v1 v1_1 v7 fp0 fuel (IntKind.wrap .i64 (v8 + 1)) _ g4)
    · have hr := Option.some.inj g1
      subst hr
      exact SemC.cast (SemJ.out (e := (.exit 0)) (path hm (σ' := ⟨[], []⟩) (ks := []) (cc := [.reg [] [] 0 [(0, none, .b false)] [0, 1, 7, 8, 9]])
        (ai h1 trivial) (by kernel_rfl)) (by simp)) (by kernel_rfl) (by kernel_rfl)
def F68  (fuel : Nat) (p0 : (List Int)) (p1ay : Int) (p1by : Int) : Option Int :=
  (obind (L68_0 p0 p1ay p1by (p0.length : Int) fuel 0) fun y1 => match y1 with
  | .inl y1 => some y1
  | .inr (y1) => some (-1))
theorem F68_ok  (fuel : Nat) (p0 : (List Int)) (p1ay : Int) (p1by : Int) (fp0 : Bool) (r : Int) (h : F68 fuel p0 p1ay p1by = some r) : CallP prog 68 [.sl (List.map e3 p0) fp0, .fn 62 [] [.ref [.int .i64 p1ay], .ref [.int .i64 p1by]]] (.int .i64 r) := by
  unfold F68 at h
  let c3 : List CC := [.reg [] [] 0 [] [0, 1], .reg [] [] 0 [(1, none, .n (p0.length : Int))] [0, 1, 7, 8]]
  refine obind_elim h fun y h1 g1 => ?_
  match y, h1, g1 with
  | .inl y1, h1, g1 =>
    have hr := Option.some.inj g1
    subst hr
    exact callP_of is68 rfl (path hm (ks := [4]) (σ' := ⟨[(4, .p (.int .i64 y1))], []⟩) (cc := c3 ++ [.leaf .ret ⟨[(4, .p (.int .i64 y1))], []⟩])
      (ai (len_map e3 p0) (ai (SemJ.loop (L68_0_ok p0 p1ay p1by (p0.length : Int) fp0 fuel 0 _ h1)) trivial)) (by kernel_rfl)) (e := .ret) rfl (vs := [.p (.int .i64 y1)]) trivial (by kernel_rfl) (.p _ _ (.refl _))
  | .inr (y1), h1, g1 =>
    have hr := Option.some.inj g1
    subst hr
    exact callP_of is68 rfl (path hm (ks := [4]) (σ' := ⟨[(4, .p (.int .i64 (-1)))], []⟩) (cc := c3 ++ [.leaf (.exit 0) ⟨[], []⟩, .reg [] [] 0 [] [4]])
      (ai (len_map e3 p0) (ai (SemJ.loop (L68_0_ok p0 p1ay p1by (p0.length : Int) fp0 fuel 0 _ h1)) trivial)) (by kernel_rfl)) (e := .ret) rfl (vs := [.p (.int .i64 (-1))]) trivial (by kernel_rfl) (.p _ _ (.refl _))
def F61  (fuel : Nat) (p0 : (List Int)) (p1ay : Int) (p1by : Int) : Option Bool :=
  obind (F68 fuel p0 p1ay p1by) fun r1 => oif ((decide (r1 ≥ 0)))
  (some true)
  (some false)
theorem F61_ok  (fuel : Nat) (p0 : (List Int)) (p1ay : Int) (p1by : Int) (fp0 : Bool) (r : Bool) (h : F61 fuel p0 p1ay p1by = some r) : CallP prog 61 [.sl (List.map e3 p0) fp0, .fn 62 [] [.ref [.int .i64 p1ay], .ref [.int .i64 p1by]]] (.bool r) := by
  unfold F61 at h
  refine obind_elim h fun r1 h1 g1 => ?_
  refine oif_elim g1 (fun h2 g2 => ?_) (fun h2 g2 => ?_)
  · have hr := Option.some.inj g2
    subst hr
    exact callP_of is61 rfl (path hm (ks := [4]) (σ' := ⟨[(4, .p (.bool true))], []⟩) (cc := [.reg [] [] 0 [] [0, 1], .reg [] [] 0 [(2, none, .call (.int .i64 r1)), (3, none, .b true)] [4]])
      (ai (F68_ok fuel p0 p1ay p1by fp0 _ h1) (ai h2 trivial)) (by kernel_rfl)) (e := .ret) rfl (vs := [.p (.bool true)]) trivial (by kernel_rfl) (.p _ _ (.refl _))
  · have hr := Option.some.inj g2
    subst hr
    exact callP_of is61 rfl (path hm (ks := [4]) (σ' := ⟨[(4, .p (.bool false))], []⟩) (cc := [.reg [] [] 0 [] [0, 1], .reg [] [] 0 [(2, none, .call (.int .i64 r1)), (3, none, .b false)] [4]])
      (ai (F68_ok fuel p0 p1ay p1by fp0 _ h1) (ai h2 trivial)) (by kernel_rfl)) (e := .ret) rfl (vs := [.p (.bool false)]) trivial (by kernel_rfl) (.p _ _ (.refl _))
def F44  (fuel : Nat) (p0 : Int) (p1 : Int) (p2 : (List Int)) : Option Bool :=
  obind (F61 fuel p2 p0 p1) fun r1 => oif (r1)
  (some false)
  (some true)
theorem F44_ok  (fuel : Nat) (p0 : Int) (p1 : Int) (p2 : (List Int)) (fp2 : Bool) (r : Bool) (h : F44 fuel p0 p1 p2 = some r) : CallP prog 44 [.int .i64 p0, .int .i64 p1, .sl (List.map e3 p2) fp2] (.bool r) := by
  unfold F44 at h
  refine obind_elim h fun r1 h1 g1 => ?_
  refine oif_elim g1 (fun h2 g2 => ?_) (fun h2 g2 => ?_)
  · subst h2
    have hr := Option.some.inj g2
    subst hr
    exact callP_of is44 rfl (path hm (ks := [6]) (σ' := ⟨[(6, .p (.bool false))], []⟩) (cc := [.reg [] [] 0 [(0, none, .imm), (1, none, .imm)] [2, 3, 4], .reg [] [] 0 [(2, none, .call (.bool true))] [6]])
      (ai (F61_ok fuel p2 p0 p1 fp2 _ h1) trivial) (by kernel_rfl)) (e := .ret) rfl (vs := [.p (.bool false)]) trivial (by kernel_rfl) (.p _ _ (.refl _))
  · subst h2
    have hr := Option.some.inj g2
    subst hr
    exact callP_of is44 rfl (path hm (ks := [6]) (σ' := ⟨[(6, .p (.bool true))], []⟩) (cc := [.reg [] [] 0 [(0, none, .imm), (1, none, .imm)] [2, 3, 4], .reg [] [] 0 [(2, none, .call (.bool false))] [6]])
      (ai (F61_ok fuel p2 p0 p1 fp2 _ h1) trivial) (by kernel_rfl)) (e := .ret) rfl (vs := [.p (.bool true)]) trivial (by kernel_rfl) (.p _ _ (.refl _))
def F43  (fuel : Nat) (p0 : (Int × Int)) (p1 : (Int × (List (Int × Int)))) : Option Bool :=
  obind (F44 fuel 0 (IntKind.wrap .i64 (p1.1 - 1)) [p0.1, p0.2]) fun r1 => oif (r1)
  (oif ((decide (p0.1 ≥ p0.2)))
    (some true)
    (some false))
  (some true)
theorem F43_ok  (fuel : Nat) (p0 : (Int × Int)) (p1 : (Int × (List (Int × Int))))  (r : Bool) (h : F43 fuel p0 p1 = some r) : CallP prog 43 [.agg [.int .i64 p0.1, .int .i64 p0.2], .ref [.int .i64 p1.1, .sl (List.map e62 p1.2) false]] (.bool r) := by
  unfold F43 at h
  refine obind_elim h fun r1 h1 g1 => ?_
  have q4 := fun {P : Prop} (t : P) => ai (F44_ok fuel 0 (IntKind.wrap .i64 (p1.1 - 1)) [p0.1, p0.2] true _ h1) t
  refine oif_elim g1 (fun h2 g2 => ?_) (fun h2 g2 => ?_)
  · subst h2
    refine oif_elim g2 (fun h3 g3 => ?_) (fun h3 g3 => ?_)
    · have hr := Option.some.inj g3
      subst hr
      exact callP_of is43 rfl (path hm (ks := [3]) (σ' := ⟨[(3, .p (.bool true))], []⟩) (cc := [.reg [] [] 0 [(0, none, .imm)] [1, 2], .reg [0, 1, 3, 0, 15, 31, 63, 127, 255, 127, 639, 2047, 4095, 8191] [] 0 [(4, none, .call (.bool true)), (11, none, .b true)] [3]])
      (q4 (ai (by decide : (0:Int) ≤ 0) (ai (by decide : (0:Int) < ((2:Nat):Int)) (ai (by decide : (0:Int) ≤ 1) (ai (by decide : (1:Int) < ((2:Nat):Int)) (ai h3 trivial)))))) (by kernel_rfl)) (e := .ret) rfl (vs := [.p (.bool true)]) trivial (by kernel_rfl) (.p _ _ (.refl _))
    · have hr := Option.some.inj g3
      subst hr
      exact callP_of is43 rfl (path hm (ks := [3]) (σ' := ⟨[(3, .p (.bool false))], []⟩) (cc := [.reg [] [] 0 [(0, none, .imm)] [1, 2], .reg [0, 1, 3, 0, 15, 31, 63, 127, 255, 127, 639, 2047, 4095, 8191] [] 0 [(4, none, .call (.bool true)), (11, none, .b false)] [3]])
      (q4 (ai (by decide : (0:Int) ≤ 0) (ai (by decide : (0:Int) < ((2:Nat):Int)) (ai (by decide : (0:Int) ≤ 1) (ai (by decide : (1:Int) < ((2:Nat):Int)) (ai h3 trivial)))))) (by kernel_rfl)) (e := .ret) rfl (vs := [.p (.bool false)]) trivial (by kernel_rfl) (.p _ _ (.refl _))
  · subst h2
    have hr := Option.some.inj g2
    subst hr
    exact callP_of is43 rfl (path hm (ks := [3]) (σ' := ⟨[(3, .p (.bool true))], []⟩) (cc := [.reg [] [] 0 [(0, none, .imm)] [1, 2], .reg [0, 1, 3, 0, 15, 31, 63, 127, 255, 127, 639, 2047, 4095, 8191] [] 0 [(4, none, .call (.bool false))] [3]])
      (q4 trivial) (by kernel_rfl)) (e := .ret) rfl (vs := [.p (.bool true)]) trivial (by kernel_rfl) (.p _ _ (.refl _))
def L63_0  (v0 : (List (Int × Int))) (v1 : Int) (v1_1 : (List (Int × Int))) (v7 : Int) : Nat → Int → Option (Int ⊕ Unit)
  | 0, _ => none
  | fuel + 1, v8 =>
    oif ((decide (v8 < v7)))
    (obind (sg v0 v8) fun x1 => obind (F43 fuel (x1.1, x1.2) (v1, v1_1)) fun r2 => oif (r2)
      (some (.inl v8))
      (L63_0 v0 v1 v1_1 v7 fuel (IntKind.wrap .i64 (v8 + 1))))
    (some (.inr (())))
noncomputable def L63_0_post (v0 : (List (Int × Int))) (v1 : Int) (v1_1 : (List (Int × Int))) (v7 : Int) (fp0 : Bool) : (Int ⊕ Unit) → Ex × St
  | .inl y => (.ret, ⟨[(4, .p (.int .i64 y))], []⟩)
  | .inr (y) => ((.exit 0), ⟨[], []⟩)
theorem L63_0_ok  (v0 : (List (Int × Int))) (v1 : Int) (v1_1 : (List (Int × Int))) (v7 : Int) (fp0 : Bool) : ∀ (fuel : Nat) (v8 : Int) (r : (Int ⊕ Unit)), L63_0 v0 v1 v1_1 v7 fuel v8 = some r →
    SemJ prog ⟨19, 0, false⟩ (codeAt [1, 0, 1, 0, 0] (bodyOf f63)) ⟨[(0, .p (.sl (List.map e62 v0) fp0)), (1, .p (.fn 43 [] [.ref [.int .i64 v1, .sl (List.map e62 v1_1) false]])), (7, .p (.int .i64 v7)), (8, .p (.int .i64 v8))], []⟩ (L63_0_post v0 v1 v1_1 v7 fp0 r).1 (L63_0_post v0 v1 v1_1 v7 fp0 r).2
  | 0, _, _, h => nomatch h
  | fuel + 1, v8, r, h => by
    unfold L63_0 at h
    refine oif_elim h (fun h1 g1 => ?_) (fun h1 g1 => ?_)
    · refine obind_elim g1 fun x1 h2 g2 => ?_
      refine obind_elim g2 fun r2 h3 g3 => ?_
      let c5 : List CC := [.reg [] [] 0 [(0, none, .b true)] [0, 1, 7, 8, 9], .reg [] [] 0 [] [0, 1, 5, 7, 8]]
      refine oif_elim g3 (fun h4 g4 => ?_) (fun h4 g4 => ?_)
      · subst h4
        have hr := Option.some.inj g4
        subst hr
        exact SemC.cast (SemJ.out (e := .ret) (path hm (σ' := ⟨[(4, .p (.int .i64 v8))], []⟩) (ks := [4]) (cc := c5 ++ [.reg [] [] 0 [(3, none, .iv (.p (.agg [.int .i64 x1.1, .int .i64 x1.2]))), (5, none, .call (.bool true))] [0, 1, 5, 7, 8, 16], .reg [] [] 0 [] [4]])
        (ai h1 (ai (sg_map (f := e62) h2) (ai (F43_ok fuel (x1.1, x1.2) (v1, v1_1) _ h3) trivial))) (by kernel_rfl)) (by simp)) (by kernel_rfl) (by kernel_rfl)
      · subst h4
        exact SemJ.again (σ1 := ⟨[(0, .p (.sl (List.map e62 v0) fp0)), (1, .p (.fn 43 [] [.ref [.int .i64 v1, .sl (List.map e62 v1_1) false]])), (7, .p (.int .i64 v7)), (8, .p (.int .i64 (IntKind.wrap .i64 (v8 + 1))))], []⟩) (path hm (σ' := ⟨[(0, .p (.sl (List.map e62 v0) fp0)), (1, .p (.fn 43 [] [.ref [.int .i64 v1, .sl (List.map e62 v1_1) false]])), (7, .p (.int .i64 v7)), (8, .p (.int .i64 (IntKind.wrap .i64 (v8 + 1))))], []⟩) (ks := [0, 1, 7, 8]) (cc := c5 ++ [.reg [] [] 0 [(3, none, .iv (.p (.agg [.int .i64 x1.1, .int .i64 x1.2]))), (5, none, .call (.bool false))] [0, 1, 5, 7, 8, 16], .reg [] [] 0 [] [0, 1, 7, 8]])
        (ai h1 (ai (sg_map (f := e62) h2) (ai (F43_ok fuel (x1.1, x1.2) (v1, v1_1) _ h3) trivial))) (by kernel_rfl)) (L63_0_ok v0 v1 v1_1 v7 fp0 fuel (IntKind.wrap .i64 (v8 + 1)) _ g4)
    · have hr := Option.some.inj g1
      subst hr
      exact SemC.cast (SemJ.out (e := (.exit 0)) (path hm (σ' := ⟨[], []⟩) (ks := []) (cc := [.reg [] [] 0 [(0, none, .b false)] [0, 1, 7, 8, 9]])
        (ai h1 trivial) (by kernel_rfl)) (by simp)) (by kernel_rfl) (by kernel_rfl)
def F63  (fuel : Nat) (p0 : (List (Int × Int))) (p1ay : (Int × (List (Int × Int)))) : Option Int :=
  (obind (L63_0 p0 p1ay.1 p1ay.2 (p0.length : Int) fuel 0) fun y1 => match y1 with
  | .inl y1 => some y1
  | .inr (y1) => some (-1))
theorem F63_ok  (fuel : Nat) (p0 : (List (Int × Int))) (p1ay : (Int × (List (Int × Int)))) (fp0 : Bool) (r : Int) (h : F63 fuel p0 p1ay = some r) : CallP prog 63 [.sl (List.map e62 p0) fp0, .fn 43 [] [.ref [.int .i64 p1ay.1, .sl (List.map e62 p1ay.2) false]]] (.int .i64 r) := by
  unfold F63 at h
  let c6 : List CC := [.reg [] [] 0 [] [0, 1], .reg [] [] 0 [(1, none, .n (p0.length : Int))] [0, 1, 7, 8]]
  refine obind_elim h fun y h1 g1 => ?_
  match y, h1, g1 with
  | .inl y1, h1, g1 =>
    have hr := Option.some.inj g1
    subst hr
    exact callP_of is63 rfl (path hm (ks := [4]) (σ' := ⟨[(4, .p (.int .i64 y1))], []⟩) (cc := c6 ++ [.leaf .ret ⟨[(4, .p (.int .i64 y1))], []⟩])
      (ai (len_map e62 p0) (ai (SemJ.loop (L63_0_ok p0 p1ay.1 p1ay.2 (p0.length : Int) fp0 fuel 0 _ h1)) trivial)) (by kernel_rfl)) (e := .ret) rfl (vs := [.p (.int .i64 y1)]) trivial (by kernel_rfl) (.p _ _ (.refl _))
  | .inr (y1), h1, g1 =>
    have hr := Option.some.inj g1
    subst hr
    exact callP_of is63 rfl (path hm (ks := [4]) (σ' := ⟨[(4, .p (.int .i64 (-1)))], []⟩) (cc := c6 ++ [.leaf (.exit 0) ⟨[], []⟩, .reg [] [] 0 [] [4]])
      (ai (len_map e62 p0) (ai (SemJ.loop (L63_0_ok p0 p1ay.1 p1ay.2 (p0.length : Int) fp0 fuel 0 _ h1)) trivial)) (by kernel_rfl)) (e := .ret) rfl (vs := [.p (.int .i64 (-1))]) trivial (by kernel_rfl) (.p _ _ (.refl _))
def F45  (fuel : Nat) (p0 : (List (Int × Int))) (p1ay : (Int × (List (Int × Int)))) : Option Bool :=
  obind (F63 fuel p0 (p1ay.1, p1ay.2)) fun r1 => oif ((decide (r1 ≥ 0)))
  (some true)
  (some false)
theorem F45_ok  (fuel : Nat) (p0 : (List (Int × Int))) (p1ay : (Int × (List (Int × Int)))) (fp0 : Bool) (r : Bool) (h : F45 fuel p0 p1ay = some r) : CallP prog 45 [.sl (List.map e62 p0) fp0, .fn 43 [] [.ref [.int .i64 p1ay.1, .sl (List.map e62 p1ay.2) false]]] (.bool r) := by
  unfold F45 at h
  refine obind_elim h fun r1 h1 g1 => ?_
  refine oif_elim g1 (fun h2 g2 => ?_) (fun h2 g2 => ?_)
  · have hr := Option.some.inj g2
    subst hr
    exact callP_of is45 rfl (path hm (ks := [4]) (σ' := ⟨[(4, .p (.bool true))], []⟩) (cc := [.reg [] [] 0 [] [0, 1], .reg [] [] 0 [(2, none, .call (.int .i64 r1)), (3, none, .b true)] [4]])
      (ai (F63_ok fuel p0 (p1ay.1, p1ay.2) fp0 _ h1) (ai h2 trivial)) (by kernel_rfl)) (e := .ret) rfl (vs := [.p (.bool true)]) trivial (by kernel_rfl) (.p _ _ (.refl _))
  · have hr := Option.some.inj g2
    subst hr
    exact callP_of is45 rfl (path hm (ks := [4]) (σ' := ⟨[(4, .p (.bool false))], []⟩) (cc := [.reg [] [] 0 [] [0, 1], .reg [] [] 0 [(2, none, .call (.int .i64 r1)), (3, none, .b false)] [4]])
      (ai (F63_ok fuel p0 (p1ay.1, p1ay.2) fp0 _ h1) (ai h2 trivial)) (by kernel_rfl)) (e := .ret) rfl (vs := [.p (.bool false)]) trivial (by kernel_rfl) (.p _ _ (.refl _))
def F11  (fuel : Nat) (p0 : (Int × (List (Int × Int)))) : Option Int :=
  obind (F44 fuel 1 8 [p0.1]) fun r1 => oif (r1)
  (oif ((decide ((p0.2.length : Int) > 40)))
    (some 6)
    (obind (F45 fuel p0.2 (p0.1, p0.2)) fun r2 => oif (r2)
      (some 2)
      (some 0)))
  (some 6)
theorem F11_ok  (fuel : Nat) (p0 : (Int × (List (Int × Int))))  (r : Int) (h : F11 fuel p0 = some r) : CallP prog 11 [.agg [.int .i64 p0.1, .sl (List.map e62 p0.2) false]] (.int .i64 r) := by
  unfold F11 at h
  refine obind_elim h fun r1 h1 g1 => ?_
  let c7 : List CC := [.reg [] [] 0 [(0, none, .imm)] [1], .reg [] [] 0 [] [1, 3]]
  have q8 := fun {P : Prop} (t : P) => ai (F44_ok fuel 1 8 [p0.1] true _ h1) t
  refine oif_elim g1 (fun h2 g2 => ?_) (fun h2 g2 => ?_)
  · subst h2
    refine oif_elim g2 (fun h3 g3 => ?_) (fun h3 g3 => ?_)
    · have hr := Option.some.inj g3
      subst hr
      exact callP_of is11 rfl (path hm (ks := [2]) (σ' := ⟨[(2, .p (.int .i64 6))], []⟩) (cc := c7 ++ [.reg [] [] 0 [(3, none, .call (.bool true)), (8, none, .n (p0.2.length : Int)), (9, none, .b true)] [1, 3, 5], .reg [] [] 0 [] [2]])
      (q8 (ai (len_map e62 p0.2) (ai h3 trivial))) (by kernel_rfl)) (e := .ret) rfl (vs := [.p (.int .i64 6)]) trivial (by kernel_rfl) (.p _ _ (.refl _))
    · refine obind_elim g3 fun r2 h4 g4 => ?_
      let c9 : List CC := c7 ++ [.reg [] [] 0 [(3, none, .call (.bool true)), (8, none, .n (p0.2.length : Int)), (9, none, .b false)] [1, 3, 5]]
      refine oif_elim g4 (fun h5 g5 => ?_) (fun h5 g5 => ?_)
      · subst h5
        have hr := Option.some.inj g5
        subst hr
        exact callP_of is11 rfl (path hm (ks := [2]) (σ' := ⟨[(2, .p (.int .i64 2))], []⟩) (cc := c9 ++ [.reg [] [] 0 [(3, none, .call (.bool true))] [17], .reg [] [] 0 [] [2]])
      (q8 (ai (len_map e62 p0.2) (ai h3 (ai (F45_ok fuel p0.2 (p0.1, p0.2) false _ h4) trivial)))) (by kernel_rfl)) (e := .ret) rfl (vs := [.p (.int .i64 2)]) trivial (by kernel_rfl) (.p _ _ (.refl _))
      · subst h5
        have hr := Option.some.inj g5
        subst hr
        exact callP_of is11 rfl (path hm (ks := [2]) (σ' := ⟨[(2, .p (.int .i64 0))], []⟩) (cc := c9 ++ [.reg [] [] 0 [(3, none, .call (.bool false))] [17], .reg [] [] 0 [] [2]])
      (q8 (ai (len_map e62 p0.2) (ai h3 (ai (F45_ok fuel p0.2 (p0.1, p0.2) false _ h4) trivial)))) (by kernel_rfl)) (e := .ret) rfl (vs := [.p (.int .i64 0)]) trivial (by kernel_rfl) (.p _ _ (.refl _))
  · subst h2
    have hr := Option.some.inj g2
    subst hr
    exact callP_of is11 rfl (path hm (ks := [2]) (σ' := ⟨[(2, .p (.int .i64 6))], []⟩) (cc := c7 ++ [.reg [] [] 0 [(3, none, .call (.bool false))] [1, 3, 5], .reg [] [] 0 [] [2]])
      (q8 trivial) (by kernel_rfl)) (e := .ret) rfl (vs := [.p (.int .i64 6)]) trivial (by kernel_rfl) (.p _ _ (.refl _))
def F39  (fuel : Nat) (p0 : (Int × (List (Int × Int)))) : Option (Int ⊕ Unit) :=
  obind (F11 fuel (p0.1, p0.2)) fun r1 => oif ((r1 != 0))
  (some (.inl r1))
  (some (.inr (())))
def F39_post (p0 : (Int × (List (Int × Int))))  : (Int ⊕ Unit) → PV
  | .inl y => .tup [.nilp, .int .i64 y]
  | .inr (y) => .tup [.ref [.int .i64 p0.1, .sl (List.map e62 p0.2) false], .int .i64 0]
theorem F39_ok  (fuel : Nat) (p0 : (Int × (List (Int × Int))))  (r : (Int ⊕ Unit)) (h : F39 fuel p0 = some r) : CallP prog 39 [.agg [.int .i64 p0.1, .sl (List.map e62 p0.2) false]] (F39_post p0 r) := by
  unfold F39 at h
  refine obind_elim h fun r1 h1 g1 => ?_
  let c10 : List CC := [.reg [] [] 0 [(0, none, .imm)] [1], .reg [] [] 0 [(1, none, .call (.int .i64 r1))] [1, 4]]
  refine oif_elim g1 (fun h2 g2 => ?_) (fun h2 g2 => ?_)
  · have hr := Option.some.inj g2
    subst hr
    exact callP_of is39 rfl (path hm (ks := [2, 3]) (σ' := ⟨[(2, .p (.nilp)), (3, .p (.int .i64 r1))], []⟩) (cc := c10 ++ [.reg [] [] 0 [(1, none, .b true)] [1, 4, 8], .reg [] [] 0 [] [2, 3]])
      (ai (F11_ok fuel (p0.1, p0.2) _ h1) (ai h2 trivial)) (by kernel_rfl)) (e := .ret) rfl (vs := [.p (.nilp), .p (.int .i64 r1)]) trivial (by kernel_rfl) (.tup _ _ (.cons _ _ _ _ (.p _ _ (.refl _)) (.cons _ _ _ _ (.p _ _ (.refl _)) .nil)))
  · have hr := Option.some.inj g2
    subst hr
    exact callP_of is39 rfl (path hm (ks := [2, 3]) (σ' := ⟨[(2, .p (.ref [.int .i64 p0.1, .sl (List.map e62 p0.2) false])), (3, .p (.int .i64 0))], []⟩) (cc := c10 ++ [.reg [] [] 0 [(1, none, .b false)] [1, 4, 8], .reg [] [] 0 [(2, none, .imm)] [2, 3]])
      (ai (F11_ok fuel (p0.1, p0.2) _ h1) (ai h2 trivial)) (by kernel_rfl)) (e := .ret) rfl (vs := [.p (.ref [.int .i64 p0.1, .sl (List.map e62 p0.2) false]), .p (.int .i64 0)]) trivial (by kernel_rfl) (.tup _ _ (.cons _ _ _ _ (.p _ _ (.refl _)) (.cons _ _ _ _ (.p _ _ (.refl _)) .nil)))
def L40_0  (v15 : (List (Int × Int))) (v16 : Int) (w1 : (List Int)) : Nat → Int → (List Int) → Option (List Int)
  | 0, _, _ => none
  | fuel + 1, v17, w0 =>
    oif ((decide (v17 < v16)))
    (obind (sg v15 v17) fun x1 => oif (decide ((0:Int) ≤ x1.1)) (oif (decide ((x1.1 : Int) < ((8 : Nat) : Int))) (obind (sg w0 x1.1) fun x2 => oif (decide ((0:Int) ≤ x1.2)) (oif (decide ((x1.2 : Int) < ((8 : Nat) : Int))) (obind (sg w0 x1.2) fun x3 => oif ((decide (x2 > x3)))
      (obind (stL w0 x1.1 x3) fun x4 => obind (stL x4 x1.2 x2) fun x5 => L40_0 v15 v16 w1 fuel (IntKind.wrap .i64 (v17 + 1)) x5)
      (L40_0 v15 v16 w1 fuel (IntKind.wrap .i64 (v17 + 1)) w0)) none) none) none) none)
    (some (w0))
noncomputable def L40_0_post (v15 : (List (Int × Int))) (v16 : Int) (w1 : (List Int))  : (List Int) → Ex × St
  | y => ((.exit 0), ⟨[(4, .ptr 0 0 (List.length (rowI e2 y))), (6, .ptr 1 0 (List.length (rowI e2 w1)))], [.cells (rowI e2 y) 0, .cells (rowI e2 w1) 0]⟩)
theorem L40_0_ok  (v15 : (List (Int × Int))) (v16 : Int) (w1 : (List Int))  : ∀ (fuel : Nat) (v17 : Int) (w0 : (List Int)) (r : (List Int)), L40_0 v15 v16 w1 fuel v17 w0 = some r →
    SemJ prog ⟨46, 0, false⟩ (codeAt [1, 0, 1, 0, 0] (bodyOf f40)) ⟨[(4, .ptr 0 0 (List.length (rowI e2 w0))), (6, .ptr 1 0 (List.length (rowI e2 w1))), (15, .p (.sl (List.map e62 v15) false)), (16, .p (.int .i64 v16)), (17, .p (.int .i64 v17))], [.cells (rowI e2 w0) 0, .cells (rowI e2 w1) 0]⟩ (L40_0_post v15 v16 w1 r).1 (L40_0_post v15 v16 w1 r).2
  | 0, _, _, _, h => nomatch h
  | fuel + 1, v17, w0, r, h => by
    unfold L40_0 at h
    refine oif_elim h (fun h1 g1 => ?_) (fun h1 g1 => ?_)
    · refine obind_elim g1 fun x1 h2 g2 => ?_
      refine oif_elim g2 (fun h3 g3 => ?_) (fun _ h => nomatch h)
      refine oif_elim g3 (fun h4 g4 => ?_) (fun _ h => nomatch h)
      refine obind_elim g4 fun x2 h5 g5 => ?_
      refine oif_elim g5 (fun h6 g6 => ?_) (fun _ h => nomatch h)
      refine oif_elim g6 (fun h7 g7 => ?_) (fun _ h => nomatch h)
      refine obind_elim g7 fun x3 h8 g8 => ?_
      let c11 : List CC := [.reg [] [] 0 [(0, none, .b true)] [4, 6, 15, 16, 17, 18], .reg [] [] 1 [(0, none, .iv (.p (.agg [.int .i64 x1.1, .int .i64 x1.2]))), (2, some 2, .a)] [4, 6, 8, 15, 16, 17]]
      have q12 := fun {P : Prop} (t : P) => ai h1 (ai (sg_map (f := e62) h2) t)
      have q13 := fun {P : Prop} (t : P) => ai (od h3) (ai (od h4) (ai (rl (List.length (rowI e2 w0))) (ai (row_get el2 h5 rfl) t)))
      have q14 := fun {P : Prop} (t : P) => ai (od h6) (ai (od h7) (ai (rl (List.length (rowI e2 w0))) (ai (row_get el2 h8 rfl) t)))
      refine oif_elim g8 (fun h9 g9 => ?_) (fun h9 g9 => ?_)
      · refine obind_elim g9 fun x4 h10 g10 => ?_
        refine obind_elim g10 fun x5 h11 g11 => ?_
        exact SemJ.again (σ1 := ⟨[(4, .ptr 0 0 (List.length (rowI e2 x5))), (6, .ptr 1 0 (List.length (rowI e2 w1))), (15, .p (.sl (List.map e62 v15) false)), (16, .p (.int .i64 v16)), (17, .p (.int .i64 (IntKind.wrap .i64 (v17 + 1))))], [.cells (rowI e2 x5) 0, .cells (rowI e2 w1) 0]⟩) (SemC.post (path hm (σ' := ⟨[(4, .ptr 0 0 (List.length (rowI e2 w0))), (6, .ptr 1 0 (List.length (rowI e2 w1))), (15, .p (.sl (List.map e62 v15) false)), (16, .p (.int .i64 v16)), (17, .p (.int .i64 (IntKind.wrap .i64 (v17 + 1))))], [.cells (rowI e2 x5) 0, .cells (rowI e2 w1) 0, .cells [.p (.int .i64 x1.1), .p (.int .i64 x1.2)] 0]⟩) (ks := [4, 6, 15, 16, 17]) (cc := c11 ++ [.reg [0, 1, 3, 7, 0, 16, 48, 112, 255] [] 0 [(3, none, .iv (.p (.int .i64 x2))), (7, none, .iv (.p (.int .i64 x3))), (8, none, .b true)] [4, 6, 8, 15, 16, 17, 29], .reg [0, 1, 0, 4, 0, 16, 48, 112, 0, 256, 768, 1792, 4083, 8179, 16383, 32767] [(0, 13), (0, 15)] 0 [(7, none, .iv (.p (.int .i64 x3))), (11, none, .iv (.p (.int .i64 x2))), (13, none, .cs (rowI e2 x4)), (15, none, .cs (rowI e2 x5))] [4, 6, 15, 16, 17], .reg [] [] 0 [] [4, 6, 15, 16, 17]])
        (q12 (ai (by decide : (0:Int) ≤ 0) (ai (by decide : (0:Int) < ((2:Nat):Int)) (q13 (ai (by decide : (0:Int) ≤ 1) (ai (by decide : (1:Int) < ((2:Nat):Int)) (q14 (ai h9 (ai (by decide : (0:Int) ≤ 0) (ai (by decide : (0:Int) < ((2:Nat):Int)) (ai (by decide : (0:Int) ≤ 1) (ai (by decide : (1:Int) < ((2:Nat):Int)) (ai (by decide : (0:Int) ≤ 1) (ai (by decide : (1:Int) < ((2:Nat):Int)) (ai (od h6) (ai (od h7) (ai (rl (List.length (rowI e2 w0))) (ai (row_get el2 h8 rfl) (ai (by decide : (0:Int) ≤ 0) (ai (by decide : (0:Int) < ((2:Nat):Int)) (ai (od h3) (ai (od h4) (ai (rl (List.length (rowI e2 w0))) (ai (row_get el2 h5 rfl) (ai (od h3) (ai (od h4) (ai (rl (List.length (rowI e2 w0))) (ai (Nat.le_trans (row_fit el2 (stL_0 h10) (stL_lt h10)) (Nat.le_of_eq (rl (List.length (rowI e2 w0))))) (ai (row_put el2 h10) (ai (od h6) (ai (od h7) (ai ((row_setlen el2 h10).trans (rl (List.length (rowI e2 w0)))) (ai (Nat.le_trans (row_fit el2 (stL_0 h11) (stL_lt h11)) (Nat.le_of_eq ((row_setlen el2 h10).trans (rl (List.length (rowI e2 w0)))))) (ai (row_put el2 h11) trivial)))))))))))))))))))))))))))))))))) (by kernel_rfl)) (Weak.trans (Weak.sel (E := [(4, .ptr 0 0 (List.length (rowI e2 w0))), (6, .ptr 1 0 (List.length (rowI e2 w1))), (15, .p (.sl (List.map e62 v15) false)), (16, .p (.int .i64 v16)), (17, .p (.int .i64 (IntKind.wrap .i64 (v17 + 1))))]) (E' := [(4, .ptr 0 0 (List.length (rowI e2 w0))), (6, .ptr 1 0 (List.length (rowI e2 w1))), (15, .p (.sl (List.map e62 v15) false)), (16, .p (.int .i64 v16)), (17, .p (.int .i64 (IntKind.wrap .i64 (v17 + 1))))]) (H := [.cells (rowI e2 x5) 0, .cells (rowI e2 w1) 0, .cells [.p (.int .i64 x1.1), .p (.int .i64 x1.2)] 0]) (H' := [.cells (rowI e2 x5) 0, .cells (rowI e2 w1) 0]) [0, 1] (selH_cons (o := .cells (rowI e2 x5) 0) (o' := .cells (rowI e2 x5) 0) (by kernel_rfl) sel_row (selH_cons (o := .cells (rowI e2 w1) 0) (o' := .cells (rowI e2 w1) 0) (by kernel_rfl) sel_row trivial)) (by kernel_rfl) (by kernel_rfl)) (Weak.eq (congrArg (fun ZZ : Nat => (⟨[(4, .ptr 0 0 ZZ), (6, .ptr 1 0 (List.length (rowI e2 w1))), (15, .p (.sl (List.map e62 v15) false)), (16, .p (.int .i64 v16)), (17, .p (.int .i64 (IntKind.wrap .i64 (v17 + 1))))], [.cells (rowI e2 x5) 0, .cells (rowI e2 w1) 0]⟩ : St)) (Eq.symm ((row_setlen el2 h11).trans ((row_setlen el2 h10).trans (rl (List.length (rowI e2 w0)))))))))) (L40_0_ok v15 v16 w1 fuel (IntKind.wrap .i64 (v17 + 1)) x5 _ g11)
      · exact SemJ.again (σ1 := ⟨[(4, .ptr 0 0 (List.length (rowI e2 w0))), (6, .ptr 1 0 (List.length (rowI e2 w1))), (15, .p (.sl (List.map e62 v15) false)), (16, .p (.int .i64 v16)), (17, .p (.int .i64 (IntKind.wrap .i64 (v17 + 1))))], [.cells (rowI e2 w0) 0, .cells (rowI e2 w1) 0]⟩) (SemC.post (path hm (σ' := ⟨[(4, .ptr 0 0 (List.length (rowI e2 w0))), (6, .ptr 1 0 (List.length (rowI e2 w1))), (15, .p (.sl (List.map e62 v15) false)), (16, .p (.int .i64 v16)), (17, .p (.int .i64 (IntKind.wrap .i64 (v17 + 1))))], [.cells (rowI e2 w0) 0, .cells (rowI e2 w1) 0, .cells [.p (.int .i64 x1.1), .p (.int .i64 x1.2)] 0]⟩) (ks := [4, 6, 15, 16, 17]) (cc := c11 ++ [.reg [0, 1, 3, 7, 0, 16, 48, 112, 255] [] 0 [(3, none, .iv (.p (.int .i64 x2))), (7, none, .iv (.p (.int .i64 x3))), (8, none, .b false)] [4, 6, 8, 15, 16, 17, 29], .reg [] [] 0 [] [4, 6, 15, 16, 17]])
        (q12 (ai (by decide : (0:Int) ≤ 0) (ai (by decide : (0:Int) < ((2:Nat):Int)) (q13 (ai (by decide : (0:Int) ≤ 1) (ai (by decide : (1:Int) < ((2:Nat):Int)) (q14 (ai h9 trivial)))))))) (by kernel_rfl)) (Weak.sel (E := [(4, .ptr 0 0 (List.length (rowI e2 w0))), (6, .ptr 1 0 (List.length (rowI e2 w1))), (15, .p (.sl (List.map e62 v15) false)), (16, .p (.int .i64 v16)), (17, .p (.int .i64 (IntKind.wrap .i64 (v17 + 1))))]) (E' := [(4, .ptr 0 0 (List.length (rowI e2 w0))), (6, .ptr 1 0 (List.length (rowI e2 w1))), (15, .p (.sl (List.map e62 v15) false)), (16, .p (.int .i64 v16)), (17, .p (.int .i64 (IntKind.wrap .i64 (v17 + 1))))]) (H := [.cells (rowI e2 w0) 0, .cells (rowI e2 w1) 0, .cells [.p (.int .i64 x1.1), .p (.int .i64 x1.2)] 0]) (H' := [.cells (rowI e2 w0) 0, .cells (rowI e2 w1) 0]) [0, 1] (selH_cons (o := .cells (rowI e2 w0) 0) (o' := .cells (rowI e2 w0) 0) (by kernel_rfl) sel_row (selH_cons (o := .cells (rowI e2 w1) 0) (o' := .cells (rowI e2 w1) 0) (by kernel_rfl) sel_row trivial)) (by kernel_rfl) (by kernel_rfl))) (L40_0_ok v15 v16 w1 fuel (IntKind.wrap .i64 (v17 + 1)) w0 _ g9)
    · have hr := Option.some.inj g1
      subst hr
      exact SemC.cast (SemJ.out (e := (.exit 0)) (path hm (σ' := ⟨[(4, .ptr 0 0 (List.length (rowI e2 w0))), (6, .ptr 1 0 (List.length (rowI e2 w1)))], [.cells (rowI e2 w0) 0, .cells (rowI e2 w1) 0]⟩) (ks := [4, 6]) (cc := [.reg [] [] 0 [(0, none, .b false)] [4, 6, 15, 16, 17, 18]])
        (ai h1 trivial) (by kernel_rfl)) (by simp)) (by kernel_rfl) (by kernel_rfl)
def F40  (fuel : Nat) (p0 : (Int × (List (Int × Int)))) (p1 : (List Int)) (p2 : Int) : Option (List Int) :=
  obind (subL p0.2 none (some p2)) fun x1 => obind (L40_0 x1 (x1.length : Int) (List.replicate 8 (0 : Int)) fuel 0 p1) fun y2 => oif (decide (List.length y2 = 8)) (oif (decide (List.length (List.replicate 8 (0 : Int)) = 8)) (some y2) none) none
theorem F40_ok  (fuel : Nat) (p0 : (Int × (List (Int × Int)))) (p1 : (List Int)) (p2 : Int)  (r : (List Int)) (h : F40 fuel p0 p1 p2 = some r) : CallP prog 40 [.ref [.int .i64 p0.1, .sl (List.map e62 p0.2) false], .agg (rowP e2 p1), .int .i64 p2] (.agg (rowP e2 r)) := by
  unfold F40 at h
  refine obind_elim h fun x1 h1 g1 => ?_
  refine obind_elim g1 fun y2 h2 g2 => ?_
  refine oif_elim g2 (fun h3 g3 => ?_) (fun _ h => nomatch h)
  refine oif_elim g3 (fun h4 g4 => ?_) (fun _ h => nomatch h)
  have hr := Option.some.inj g4
  subst hr
  exact callP_of is40 rfl (path hm (ks := [6]) (σ' := ⟨[(6, .ptr 1 0 (List.length (rowI e2 (List.replicate 8 (0 : Int)))))], [.cells (rowI e2 y2) 0, .cells (rowI e2 y2) 0]⟩) (cc := [.reg [] [] 2 [(0, some 0, .a), (1, some 1, .a)] [0, 2, 4, 6], .reg [] [] 0 [(6, none, .pvs (List.map e62 x1)), (7, none, .n (x1.length : Int))] [4, 6, 15, 16, 17], .leaf (.exit 0) ⟨[(4, .ptr 0 0 (List.length (rowI e2 y2))), (6, .ptr 1 0 (List.length (rowI e2 (List.replicate 8 (0 : Int)))))], [.cells (rowI e2 y2) 0, .cells (rowI e2 (List.replicate 8 (0 : Int))) 0]⟩, .reg [] [] 0 [(0, none, .iv (.p (.agg (rowP e2 y2)))), (1, none, .ap (rowI e2 y2) 0 0)] [6]])
      (ai (sub_eq e62 h1) (ai (row_es el62 p0.2) (ai (sub_hi0 h1) (ai (sub_hi1 e62 h1) (ai (len_map e62 x1) (ai (SemJ.loop (L40_0_ok x1 (x1.length : Int) (List.replicate 8 (0 : Int)) fuel 0 p1 _ h2)) (ai (rl (List.length (rowI e2 y2))) (ai (row_wle el2 (od h3) (rfl : 8 * 1 = 8) (rl (List.length (rowI e2 y2)))) (ai (row_wtake el2 (od h3) (rfl : 8 * 1 = 8)) (ai (row_wlen el2 (od h3) (rfl : 8 * 1 = 8)) (ai (row_scal el2 y2) (ai (rl (List.length (rowI e2 (List.replicate 8 (0 : Int))))) (ai (row_wle el2 (od h4) (rfl : 8 * 1 = 8) (rl (List.length (rowI e2 (List.replicate 8 (0 : Int)))))) (ai (row_putall el2 (od h4) (od h3)) trivial)))))))))))))) (by kernel_rfl)) (e := .ret) rfl (vs := [.agg (List.take 8 (List.drop 0 (rowI e2 y2)))]) (ai ((row_same el2 (od h4) (od h3)).trans (rl (List.length (rowI e2 (List.replicate 8 (0 : Int)))))) (ai (row_wle el2 (od h3) (rfl : 8 * 1 = 8) ((row_same el2 (od h4) (od h3)).trans (rl (List.length (rowI e2 (List.replicate 8 (0 : Int))))))) trivial)) (by kernel_rfl) (.agg _ _ ((row_wtake el2 (od h3) (rfl : 8 * 1 = 8)).symm ▸ (SnapL.pure _ (rowP e2 y2))))
def F41  (fuel : Nat) (p0 : (List Int)) : Option (List Int) :=
  oif (List.isEmpty p0)
  (some [])
  (oif (decide ((List.length (List.map e2 p0)) * 8 ≤ 140737488355328)) (some p0) none)
theorem F41_ok  (fuel : Nat) (p0 : (List Int)) (fp0 : Bool) (r : (List Int)) (h : F41 fuel p0 = some r) : CallP prog 41 [.sl (List.map e2 p0) fp0] (.sl (List.map e2 r) false) := by
  unfold F41 at h
  refine oif_elim h (fun h1 g1 => ?_) (fun h1 g1 => ?_)
  · have hr := Option.some.inj g1
    subst hr
    have hL := List.isEmpty_iff.1 h1
    subst hL
    exact CallP.split1 (by exact callP_of is41 rfl (path hm (ks := [2]) (σ' := ⟨[(2, .p (.nilsl))], []⟩) (cc := [.reg [] [] 0 [] [0], .reg [] [] 0 [] [0, 4], .reg [] [] 0 [] [2]])
      trivial (by kernel_rfl)) (e := .ret) rfl (vs := [.p (.nilsl)]) trivial (by kernel_rfl) (.p _ _ (.nil _))) (by exact callP_of is41 rfl (path hm (ks := [2]) (σ' := ⟨[(2, .p (.sl [] true))], []⟩) (cc := [.reg [] [] 0 [] [0], .reg [] [] 0 [] [0, 4], .reg [] [] 0 [(2, none, .b true)] [2]])
      (ai (rfl : (0:Nat) = 0) (ai (fun _ h => nomatch h : ∀ y ∈ ([] : List IV), scalarI y = true) trivial)) (by kernel_rfl)) (e := .ret) rfl (vs := [.p (.sl [] true)]) trivial (by kernel_rfl) (.p _ _ (.flag _ _ _ (fun h => nomatch h))))
  · refine oif_elim g1 (fun h2 g2 => ?_) (fun _ h => nomatch h)
    have hr := Option.some.inj g2
    subst hr
    exact callP_of is41 rfl (path hm (ks := [2]) (σ' := ⟨[(2, .msl 0 0 (List.length p0) (List.length (rowI e2 p0)) false)], [.cells (rowI e2 p0) 1]⟩) (cc := [.reg [] [] 0 [] [0], .reg [] [] 0 [] [0, 4], .reg [] [] 1 [(2, some 0, .ap (rowI e2 p0) (List.length p0) (List.length (rowI e2 p0)))] [2]])
      (ai (map_ne (f := e2) h1) (ai (notEmpty_len e2 h1) (ai (app_e1 (m := (List.length (List.map e2 p0))) (od h2)) (ai (app_e2 (m := (List.length (List.map e2 p0))) (by decide) (od h2)) (ai (app_e3 e2 p0) (ai (rl (List.length (rowI e2 p0))) (ai (row_src e2 p0) (ai (row_sc el2 p0) (ai (row_es el2 p0) (ai (fun _ h => nomatch h : ∀ y ∈ ([] : List PV), y.cells.length = 1) trivial)))))))))) (by kernel_rfl)) (e := .ret) rfl (vs := [.msl 0 0 (List.length p0) (List.length (rowI e2 p0)) false]) trivial (by kernel_rfl) (snap_row (g := 1) (L := p0) el2 (by kernel_rfl) (rl (List.length (rowI e2 p0))) (rl (List.length p0)))
def F9  (fuel : Nat) (p0 : (Int × (List (Int × Int)))) (p1 : (List Int)) : Option ((List Int) × Int) :=
  (obind (F39 fuel (p0.1, p0.2)) fun y1 => match y1 with
  | .inl y1 => oif ((y1 != 0))
    (some ([], y1))
    (none)
  | .inr (y1) => oif (((p1.length : Int) != (p0.1, p0.2).1))
    (some ([], 15))
    (oif (decide (List.length (List.replicate 8 (0 : Int)) = 8)) (oif (decide (List.length (copyL (List.replicate 8 (0 : Int)) p1) = 8)) (obind (F40 fuel ((p0.1, p0.2).1, (p0.1, p0.2).2) (copyL (List.replicate 8 (0 : Int)) p1) (((p0.1, p0.2).2).length : Int)) fun r2 => oif (decide (List.length r2 = 8)) (oif (decide ((0:Int) ≤ (p0.1, p0.2).1)) (oif (decide (((p0.1, p0.2).1 : Int) ≤ ((8 : Nat) : Int))) (oif (decide ((Int.toNat ((p0.1, p0.2).1)) ≤ List.length r2)) (obind (F41 fuel (List.take (Int.toNat ((p0.1, p0.2).1)) r2)) fun r3 => some (r3, 0)) none) none) none) none) none) none))
theorem F9_ok  (fuel : Nat) (p0 : (Int × (List (Int × Int)))) (p1 : (List Int)) (fp1 : Bool) (r : ((List Int) × Int)) (h : F9 fuel p0 p1 = some r) : CallP prog 9 [.agg [.int .i64 p0.1, .sl (List.map e62 p0.2) false], .sl (List.map e2 p1) fp1] (.tup [.sl (List.map e2 r.1) false, .int .i64 r.2]) := by
  unfold F9 at h
  refine obind_elim h fun y h1 g1 => ?_
  match y, h1, g1 with
  | .inl y1, h1, g1 =>
    refine oif_elim g1 (fun h2 g2 => ?_) (fun h2 g2 => ?_)
    · have hr := Option.some.inj g2
      subst hr
      exact callP_of is9 rfl (path hm (ks := [4, 5]) (σ' := ⟨[(4, .p (.nilsl)), (5, .p (.int .i64 y1))], []⟩) (cc := [.reg [] [] 0 [(0, none, .imm)] [1, 2], .reg [] [] 0 [(1, none, .call (.tup [.nilp, .int .i64 y1]))] [1, 6, 7], .reg [] [] 0 [(1, none, .b true)] [1, 6, 7, 14], .reg [] [] 0 [] [4, 5]])
      (ai (F39_ok fuel (p0.1, p0.2) _ h1) (ai h2 trivial)) (by kernel_rfl)) (e := .ret) rfl (vs := [.p (.nilsl), .p (.int .i64 y1)]) trivial (by kernel_rfl) (.tup _ _ (.cons _ _ _ _ (.p _ _ (.nil _)) (.cons _ _ _ _ (.p _ _ (.refl _)) .nil)))
    · exact nomatch g2
  | .inr (y1), h1, g1 =>
    let c15 : List CC := [.reg [] [] 0 [(0, none, .imm)] [1, 2], .reg [] [] 0 [(1, none, .call (.tup [.ref [.int .i64 ((p0.1, p0.2).1), .sl (List.map e62 ((p0.1, p0.2).2)) false], .int .i64 0]))] [1, 6, 7], .reg [] [] 0 [] [1, 6, 7, 14]]
    refine oif_elim g1 (fun h2 g2 => ?_) (fun h2 g2 => ?_)
    · have hr := Option.some.inj g2
      subst hr
      exact callP_of is9 rfl (path hm (ks := [4, 5]) (σ' := ⟨[(4, .p (.nilsl)), (5, .p (.int .i64 15))], []⟩) (cc := c15 ++ [.reg [] [] 0 [(1, none, .n (p1.length : Int)), (7, none, .b true)] [1, 6, 18], .reg [] [] 0 [] [4, 5]])
      (ai (F39_ok fuel (p0.1, p0.2) _ h1) (ai (len_map e2 p1) (ai h2 trivial))) (by kernel_rfl)) (e := .ret) rfl (vs := [.p (.nilsl), .p (.int .i64 15)]) trivial (by kernel_rfl) (.tup _ _ (.cons _ _ _ _ (.p _ _ (.nil _)) (.cons _ _ _ _ (.p _ _ (.refl _)) .nil)))
    · refine oif_elim g2 (fun h3 g3 => ?_) (fun _ h => nomatch h)
      refine oif_elim g3 (fun h4 g4 => ?_) (fun _ h => nomatch h)
      refine obind_elim g4 fun r2 h5 g5 => ?_
      refine oif_elim g5 (fun h6 g6 => ?_) (fun _ h => nomatch h)
      refine oif_elim g6 (fun h7 g7 => ?_) (fun _ h => nomatch h)
      refine oif_elim g7 (fun h8 g8 => ?_) (fun _ h => nomatch h)
      refine oif_elim g8 (fun h9 g9 => ?_) (fun _ h => nomatch h)
      refine obind_elim g9 fun r3 h10 g10 => ?_
      have hr := Option.some.inj g10
      subst hr
      exact callP_of is9 rfl (path hm (ks := [4, 5]) (σ' := ⟨[(4, .p (.sl (List.map e2 r3) false)), (5, .p (.int .i64 0))], [.dead]⟩) (cc := c15 ++ [.reg [] [] 0 [(1, none, .n (p1.length : Int)), (7, none, .b false)] [1, 6, 18], .reg [] [] 1 [(0, some 0, .a)] [1, 6, 8], .reg [] [] 0 [(0, none, .ap [] 8 0), (2, none, .ap (rowI e2 (copyL (List.replicate 8 (0 : Int)) p1)) (Nat.min (List.length (List.map e2 p1)) 8) 0)] [6, 8], .reg [0, 0, 0, 4, 12, 28, 60, 124, 255, 511] [(0, 9)] 0 [(1, none, .iv (.p (.agg (rowP e2 (copyL (List.replicate 8 (0 : Int)) p1))))), (7, none, .n (((p0.1, p0.2).2).length : Int)), (8, none, .call (.agg (rowP e2 r2))), (9, none, .ap (rowI e2 r2) 0 0)] [6, 8], .reg [] [] 0 [(5, none, .ap [] (Int.toNat ((p0.1, p0.2).1)) 0), (6, none, .bor [0] [.sl (List.map e2 (List.take (Int.toNat ((p0.1, p0.2).1)) r2)) false] (.sl (List.map e2 r3) false))] [4, 5]])
      (ai (F39_ok fuel (p0.1, p0.2) _ h1) (ai (len_map e2 p1) (ai h2 (ai (sl_lo0 none 8 8) (ai (rl 8) (ai (rl (Nat.min (List.length (List.map e2 p1)) 8)) (ai (rl (List.length (rowI e2 (List.replicate 8 (0 : Int))))) (ai (row_whole_le el2 (od h3) (rl (List.length (rowI e2 (List.replicate 8 (0 : Int)))))) (ai (fun y h => row_sc el2 p1 y h) (ai (row_copy' el2 (L := (List.replicate 8 (0 : Int))) (M := p1) rfl (od h3)) (ai (row_es el2 p1) (ai ((row_copylen el2 (List.replicate 8 (0 : Int)) p1).trans (rl (List.length (rowI e2 (List.replicate 8 (0 : Int)))))) (ai (row_wle el2 (od h4) (rfl : 8 * 1 = 8) ((row_copylen el2 (List.replicate 8 (0 : Int)) p1).trans (rl (List.length (rowI e2 (List.replicate 8 (0 : Int))))))) (ai (row_wtake el2 (od h4) (rfl : 8 * 1 = 8)) (ai (len_map e62 ((p0.1, p0.2).2)) (ai (F40_ok fuel ((p0.1, p0.2).1, (p0.1, p0.2).2) (copyL (List.replicate 8 (0 : Int)) p1) (((p0.1, p0.2).2).length : Int) _ h5) (ai (row_wlen el2 (od h6) (rfl : 8 * 1 = 8)) (ai (row_scal el2 r2) (ai ((row_copylen el2 (List.replicate 8 (0 : Int)) p1).trans (rl (List.length (rowI e2 (List.replicate 8 (0 : Int)))))) (ai (row_wle el2 (od h4) (rfl : 8 * 1 = 8) ((row_copylen el2 (List.replicate 8 (0 : Int)) p1).trans (rl (List.length (rowI e2 (List.replicate 8 (0 : Int))))))) (ai (row_putall el2 (od h4) (od h6)) (ai (sl_lo0 none (Int.toNat ((p0.1, p0.2).1)) 8) (ai (rl (Int.toNat ((p0.1, p0.2).1))) (ai (od h7) (ai (od h8) (ai (snap_part (hp := one 0 (.cells (rowI e2 r2) 0)) (l := 0) (x := false) (g := 0) (len := (Int.toNat ((p0.1, p0.2).1))) (L := r2) el2 (by kernel_rfl) ((row_same el2 (od h4) (od h6)).trans ((row_copylen el2 (List.replicate 8 (0 : Int)) p1).trans (rl (List.length (rowI e2 (List.replicate 8 (0 : Int))))))) (od h9)) (ai (F41_ok fuel (List.take (Int.toNat ((p0.1, p0.2).1)) r2) false _ h10) trivial))))))))))))))))))))))))))) (by kernel_rfl)) (e := .ret) rfl (vs := [.p (.sl (List.map e2 r3) false), .p (.int .i64 0)]) trivial (by kernel_rfl) (.tup _ _ (.cons _ _ _ _ (.p _ _ (.refl _)) (.cons _ _ _ _ (.p _ _ (.refl _)) .nil)))
def F47  (fuel : Nat) (p0 : (Int × (List (Int × Int)))) : Option Unit :=
  some ()
def F47_post (p0 : (Int × (List (Int × Int))))  : Unit → PV
  | y => .fn 64 [] [.ref [.ref [.int .i64 p0.1, .sl (List.map e62 p0.2) false]]]
theorem F47_ok  (fuel : Nat) (p0 : (Int × (List (Int × Int))))  (r : Unit) (h : F47 fuel p0 = some r) : CallP prog 47 [.ref [.int .i64 p0.1, .sl (List.map e62 p0.2) false]] (F47_post p0 r) := by
  unfold F47 at h
  have hr := Option.some.inj h
  subst hr
  exact callP_of is47 rfl (path hm (ks := [2]) (σ' := ⟨[(2, .p (.fn 64 [] [.ref [.ref [.int .i64 p0.1, .sl (List.map e62 p0.2) false]]]))], []⟩) (cc := [.reg [] [] 0 [(0, none, .imm)] [1], .reg [] [] 0 [] [2]])
      trivial (by kernel_rfl)) (e := .ret) rfl (vs := [.p (.fn 64 [] [.ref [.ref [.int .i64 p0.1, .sl (List.map e62 p0.2) false]]])]) trivial (by kernel_rfl) (.p _ _ (.refl _))
def L46_0  (v3 : (List Int)) (v11 : Int) : Nat → Int → Option (Unit ⊕ Unit)
  | 0, _ => none
  | fuel + 1, v12 =>
    oif ((decide (v12 < v11)))
    (obind (sg v3 v12) fun x1 => oif (decide ((v12 : Int) < ((8 : Nat) : Int))) (obind (sg v3 (IntKind.wrap .i64 (v12 + 1))) fun x2 => oif (decide (((IntKind.wrap .i64 (v12 + 1)) : Int) < ((8 : Nat) : Int))) (oif ((decide (x1 > x2)))
      (some (.inl ()))
      (L46_0 v3 v11 fuel (IntKind.wrap .i64 (v12 + 1)))) none) none)
    (some (.inr (())))
noncomputable def L46_0_post (v3 : (List Int)) (v11 : Int)  : (Unit ⊕ Unit) → Ex × St
  | .inl y => (.ret, ⟨[(4, .p (.bool false))], []⟩)
  | .inr (y) => ((.exit 0), ⟨[], []⟩)
theorem L46_0_ok  (v3 : (List Int)) (v11 : Int)  : ∀ (fuel : Nat) (v12 : Int) (r : (Unit ⊕ Unit)), L46_0 v3 v11 fuel v12 = some r →
    SemJ prog ⟨24, 0, false⟩ (codeAt [1, 0, 1, 0, 0] (bodyOf f46)) ⟨[(3, .p (.ref (rowP e2 v3))), (11, .p (.int .i64 v11)), (12, .p (.int .i64 v12))], []⟩ (L46_0_post v3 v11 r).1 (L46_0_post v3 v11 r).2
  | 0, _, _, h => nomatch h
  | fuel + 1, v12, r, h => by
    unfold L46_0 at h
    refine oif_elim h (fun h1 g1 => ?_) (fun h1 g1 => ?_)
    · refine obind_elim g1 fun x1 h2 g2 => ?_
      refine oif_elim g2 (fun h3 g3 => ?_) (fun _ h => nomatch h)
      refine obind_elim g3 fun x2 h4 g4 => ?_
      refine oif_elim g4 (fun h5 g5 => ?_) (fun _ h => nomatch h)
      let c16 : List CC := [.reg [] [] 0 [(0, none, .b true)] [3, 11, 12, 13], .reg [] [] 0 [] [3, 5, 11, 12]]
      refine oif_elim g5 (fun h6 g6 => ?_) (fun h6 g6 => ?_)
      · have hr := Option.some.inj g6
        subst hr
        exact SemC.cast (SemJ.out (e := .ret) (path hm (σ' := ⟨[(4, .p (.bool false))], []⟩) (ks := [4]) (cc := c16 ++ [.reg [0, 1, 3, 0, 8, 24, 56, 127] [] 0 [(1, none, .iv (.p (.int .i64 x1))), (5, none, .iv (.p (.int .i64 x2))), (7, none, .b true)] [3, 11, 12, 22], .reg [] [] 0 [] [4]])
        (ai h1 (ai (sg_0 h2) (ai (od h3) (ai (rowP_get el2 h2) (ai (sg_0 h4) (ai (od h5) (ai (rowP_get el2 h4) (ai h6 trivial)))))))) (by kernel_rfl)) (by simp)) (by kernel_rfl) (by kernel_rfl)
      · exact SemJ.again (σ1 := ⟨[(3, .p (.ref (rowP e2 v3))), (11, .p (.int .i64 v11)), (12, .p (.int .i64 (IntKind.wrap .i64 (v12 + 1))))], []⟩) (path hm (σ' := ⟨[(3, .p (.ref (rowP e2 v3))), (11, .p (.int .i64 v11)), (12, .p (.int .i64 (IntKind.wrap .i64 (v12 + 1))))], []⟩) (ks := [3, 11, 12]) (cc := c16 ++ [.reg [0, 1, 3, 0, 8, 24, 56, 127] [] 0 [(1, none, .iv (.p (.int .i64 x1))), (5, none, .iv (.p (.int .i64 x2))), (7, none, .b false)] [3, 11, 12, 22], .reg [] [] 0 [] [3, 11, 12]])
        (ai h1 (ai (sg_0 h2) (ai (od h3) (ai (rowP_get el2 h2) (ai (sg_0 h4) (ai (od h5) (ai (rowP_get el2 h4) (ai h6 trivial)))))))) (by kernel_rfl)) (L46_0_ok v3 v11 fuel (IntKind.wrap .i64 (v12 + 1)) _ g6)
    · have hr := Option.some.inj g1
      subst hr
      exact SemC.cast (SemJ.out (e := (.exit 0)) (path hm (σ' := ⟨[], []⟩) (ks := []) (cc := [.reg [] [] 0 [(0, none, .b false)] [3, 11, 12, 13]])
        (ai h1 trivial) (by kernel_rfl)) (by simp)) (by kernel_rfl) (by kernel_rfl)
def F46  (fuel : Nat) (p0 : (Int × (List (Int × Int)))) (p1 : (List Int)) : Option Bool :=
  (obind (L46_0 p1 (IntKind.wrap .i64 (p0.1 - 1)) fuel 0) fun y1 => match y1 with
  | .inl y1 => some false
  | .inr (y1) => some true)
theorem F46_ok  (fuel : Nat) (p0 : (Int × (List (Int × Int)))) (p1 : (List Int))  (r : Bool) (h : F46 fuel p0 p1 = some r) : CallP prog 46 [.ref [.int .i64 p0.1, .sl (List.map e62 p0.2) false], .agg (rowP e2 p1)] (.bool r) := by
  unfold F46 at h
  refine obind_elim h fun y h1 g1 => ?_
  match y, h1, g1 with
  | .inl y1, h1, g1 =>
    have hr := Option.some.inj g1
    subst hr
    exact callP_of is46 rfl (path hm (ks := [4]) (σ' := ⟨[(4, .p (.bool false))], []⟩) (cc := [.reg [] [] 0 [(0, none, .imm)] [0, 3], .reg [] [] 0 [] [3, 11, 12], .leaf .ret ⟨[(4, .p (.bool false))], []⟩])
      (ai (SemJ.loop (L46_0_ok p1 (IntKind.wrap .i64 (p0.1 - 1)) fuel 0 _ h1)) trivial) (by kernel_rfl)) (e := .ret) rfl (vs := [.p (.bool false)]) trivial (by kernel_rfl) (.p _ _ (.refl _))
  | .inr (y1), h1, g1 =>
    have hr := Option.some.inj g1
    subst hr
    exact callP_of is46 rfl (path hm (ks := [4]) (σ' := ⟨[(4, .p (.bool true))], []⟩) (cc := [.reg [] [] 0 [(0, none, .imm)] [0, 3], .reg [] [] 0 [] [3, 11, 12], .leaf (.exit 0) ⟨[], []⟩, .reg [] [] 0 [] [4]])
      (ai (SemJ.loop (L46_0_ok p1 (IntKind.wrap .i64 (p0.1 - 1)) fuel 0 _ h1)) trivial) (by kernel_rfl)) (e := .ret) rfl (vs := [.p (.bool true)]) trivial (by kernel_rfl) (.p _ _ (.refl _))
def L64_1  (v1 : Int) (v1_1 : (List (Int × Int))) (w1 : Int) (w2 : Int) (w2_1 : (List (Int × Int))) (w3 : Int) (w3_1 : (List (Int × Int))) : Nat → Int → (List Int) → Option (Int × (List Int))
  | 0, _, _ => none
  | fuel + 1, v4, w5 =>
    oif ((decide (v4 ≥ 0)))
    (oif (decide ((0:Int) ≤ v4)) (oif (decide ((v4 : Int) < ((8 : Nat) : Int))) (obind (sg w5 v4) fun x1 => oif ((x1 == 1))
      (obind (stL w5 v4 0) fun x2 => L64_1 v1 v1_1 w1 w2 w2_1 w3 w3_1 fuel (IntKind.wrap .i64 (v4 - 1)) x2)
      (some ((v4, w5)))) none) none)
    (some ((v4, w5)))
noncomputable def L64_1_post (v1 : Int) (v1_1 : (List (Int × Int))) (w1 : Int) (w2 : Int) (w2_1 : (List (Int × Int))) (w3 : Int) (w3_1 : (List (Int × Int)))  : (Int × (List Int)) → Ex × St
  | y => ((.exit 2), ⟨[(0, .yld 4), (1, .p (.ref [.ref [.int .i64 v1, .sl (List.map e62 v1_1) false]])), (3, .ptr 5 0 (List.length (rowI e2 y.2))), (4, .p (.int .i64 y.1))], [.cells [.p (.nilsl)] 0, .cells [.p (.int .i64 w1)] 0, .cells [.p (.ref [.int .i64 w2, .sl (List.map e62 w2_1) false])] 0, .cells [.p (.fn 46 [.ref [.int .i64 w3, .sl (List.map e62 w3_1) false]] [])] 0, .loop 0 R15_1_0_1_1_1_1_0_1_0 [(2, .ptr 0 0 1), (3, .ptr 1 0 1), (4, .ptr 2 0 1), (6, .ptr 3 0 1)] none, .cells (rowI e2 y.2) 0]⟩)
theorem L64_1_ok  (v1 : Int) (v1_1 : (List (Int × Int))) (w1 : Int) (w2 : Int) (w2_1 : (List (Int × Int))) (w3 : Int) (w3_1 : (List (Int × Int)))  : ∀ (fuel : Nat) (v4 : Int) (w5 : (List Int)) (r : (Int × (List Int))), L64_1 v1 v1_1 w1 w2 w2_1 w3 w3_1 fuel v4 w5 = some r →
    SemJ prog ⟨31, 5, false⟩ (codeAt [1, 0, 0, 0, 1, 1, 0, 0, 0] (bodyOf f64)) ⟨[(0, .yld 4), (1, .p (.ref [.ref [.int .i64 v1, .sl (List.map e62 v1_1) false]])), (3, .ptr 5 0 (List.length (rowI e2 w5))), (4, .p (.int .i64 v4))], [.cells [.p (.nilsl)] 0, .cells [.p (.int .i64 w1)] 0, .cells [.p (.ref [.int .i64 w2, .sl (List.map e62 w2_1) false])] 0, .cells [.p (.fn 46 [.ref [.int .i64 w3, .sl (List.map e62 w3_1) false]] [])] 0, .loop 0 R15_1_0_1_1_1_1_0_1_0 [(2, .ptr 0 0 1), (3, .ptr 1 0 1), (4, .ptr 2 0 1), (6, .ptr 3 0 1)] none, .cells (rowI e2 w5) 0]⟩ (L64_1_post v1 v1_1 w1 w2 w2_1 w3 w3_1 r).1 (L64_1_post v1 v1_1 w1 w2 w2_1 w3 w3_1 r).2
  | 0, _, _, _, h => nomatch h
  | fuel + 1, v4, w5, r, h => by
    unfold L64_1 at h
    refine oif_elim h (fun h1 g1 => ?_) (fun h1 g1 => ?_)
    · refine oif_elim g1 (fun h2 g2 => ?_) (fun _ h => nomatch h)
      refine oif_elim g2 (fun h3 g3 => ?_) (fun _ h => nomatch h)
      refine obind_elim g3 fun x1 h4 g4 => ?_
      have q17 := fun {P : Prop} (t : P) => ai h1 (ai (od h2) (ai (od h3) (ai (rl (List.length (rowI e2 w5))) (ai (row_get el2 h4 rfl) t))))
      refine oif_elim g4 (fun h5 g5 => ?_) (fun h5 g5 => ?_)
      · refine obind_elim g5 fun x2 h6 g6 => ?_
        exact SemJ.again (σ1 := ⟨[(0, .yld 4), (1, .p (.ref [.ref [.int .i64 v1, .sl (List.map e62 v1_1) false]])), (3, .ptr 5 0 (List.length (rowI e2 x2))), (4, .p (.int .i64 (IntKind.wrap .i64 (v4 - 1))))], [.cells [.p (.nilsl)] 0, .cells [.p (.int .i64 w1)] 0, .cells [.p (.ref [.int .i64 w2, .sl (List.map e62 w2_1) false])] 0, .cells [.p (.fn 46 [.ref [.int .i64 w3, .sl (List.map e62 w3_1) false]] [])] 0, .loop 0 R15_1_0_1_1_1_1_0_1_0 [(2, .ptr 0 0 1), (3, .ptr 1 0 1), (4, .ptr 2 0 1), (6, .ptr 3 0 1)] none, .cells (rowI e2 x2) 0]⟩) (SemC.post (path hm (σ' := ⟨[(0, .yld 4), (1, .p (.ref [.ref [.int .i64 v1, .sl (List.map e62 v1_1) false]])), (3, .ptr 5 0 (List.length (rowI e2 w5))), (4, .p (.int .i64 (IntKind.wrap .i64 (v4 - 1))))], [.cells [.p (.nilsl)] 0, .cells [.p (.int .i64 w1)] 0, .cells [.p (.ref [.int .i64 w2, .sl (List.map e62 w2_1) false])] 0, .cells [.p (.fn 46 [.ref [.int .i64 w3, .sl (List.map e62 w3_1) false]] [])] 0, .loop 0 R15_1_0_1_1_1_1_0_1_0 [(2, .ptr 0 0 1), (3, .ptr 1 0 1), (4, .ptr 2 0 1), (6, .ptr 3 0 1)] none, .cells (rowI e2 x2) 0]⟩) (ks := [0, 1, 3, 4]) (cc := [.reg [] [] 0 [(1, none, .b true), (5, none, .iv (.p (.int .i64 x1))), (6, none, .b true)] [0, 1, 3, 4, 22], .reg [] [] 0 [(2, none, .cs (rowI e2 x2))] [0, 1, 3, 4], .reg [] [] 0 [] [0, 1, 3, 4]])
        (q17 (ai h5 (ai (od h2) (ai (od h3) (ai (rl (List.length (rowI e2 w5))) (ai (Nat.le_trans (row_fit el2 (stL_0 h6) (stL_lt h6)) (Nat.le_of_eq (rl (List.length (rowI e2 w5))))) (ai (row_put el2 h6) trivial))))))) (by kernel_rfl)) (Weak.eq (congrArg (fun ZZ : Nat => (⟨[(0, .yld 4), (1, .p (.ref [.ref [.int .i64 v1, .sl (List.map e62 v1_1) false]])), (3, .ptr 5 0 ZZ), (4, .p (.int .i64 (IntKind.wrap .i64 (v4 - 1))))], [.cells [.p (.nilsl)] 0, .cells [.p (.int .i64 w1)] 0, .cells [.p (.ref [.int .i64 w2, .sl (List.map e62 w2_1) false])] 0, .cells [.p (.fn 46 [.ref [.int .i64 w3, .sl (List.map e62 w3_1) false]] [])] 0, .loop 0 R15_1_0_1_1_1_1_0_1_0 [(2, .ptr 0 0 1), (3, .ptr 1 0 1), (4, .ptr 2 0 1), (6, .ptr 3 0 1)] none, .cells (rowI e2 x2) 0]⟩ : St)) (Eq.symm ((row_setlen el2 h6).trans (rl (List.length (rowI e2 w5)))))))) (L64_1_ok v1 v1_1 w1 w2 w2_1 w3 w3_1 fuel (IntKind.wrap .i64 (v4 - 1)) x2 _ g6)
      · have hr := Option.some.inj g5
        subst hr
        exact SemC.cast (SemJ.out (e := (.exit 2)) (path hm (σ' := ⟨[(0, .yld 4), (1, .p (.ref [.ref [.int .i64 v1, .sl (List.map e62 v1_1) false]])), (3, .ptr 5 0 (List.length (rowI e2 w5))), (4, .p (.int .i64 v4))], [.cells [.p (.nilsl)] 0, .cells [.p (.int .i64 w1)] 0, .cells [.p (.ref [.int .i64 w2, .sl (List.map e62 w2_1) false])] 0, .cells [.p (.fn 46 [.ref [.int .i64 w3, .sl (List.map e62 w3_1) false]] [])] 0, .loop 0 R15_1_0_1_1_1_1_0_1_0 [(2, .ptr 0 0 1), (3, .ptr 1 0 1), (4, .ptr 2 0 1), (6, .ptr 3 0 1)] none, .cells (rowI e2 w5) 0]⟩) (ks := [0, 1, 3, 4]) (cc := [.reg [] [] 0 [(1, none, .b true), (5, none, .iv (.p (.int .i64 x1))), (6, none, .b false)] [0, 1, 3, 4, 22]])
        (q17 (ai h5 trivial)) (by kernel_rfl)) (by simp)) (by kernel_rfl) (by kernel_rfl)
    · have hr := Option.some.inj g1
      subst hr
      exact SemC.cast (SemJ.out (e := (.exit 2)) (path hm (σ' := ⟨[(0, .yld 4), (1, .p (.ref [.ref [.int .i64 v1, .sl (List.map e62 v1_1) false]])), (3, .ptr 5 0 (List.length (rowI e2 w5))), (4, .p (.int .i64 v4))], [.cells [.p (.nilsl)] 0, .cells [.p (.int .i64 w1)] 0, .cells [.p (.ref [.int .i64 w2, .sl (List.map e62 w2_1) false])] 0, .cells [.p (.fn 46 [.ref [.int .i64 w3, .sl (List.map e62 w3_1) false]] [])] 0, .loop 0 R15_1_0_1_1_1_1_0_1_0 [(2, .ptr 0 0 1), (3, .ptr 1 0 1), (4, .ptr 2 0 1), (6, .ptr 3 0 1)] none, .cells (rowI e2 w5) 0]⟩) (ks := [0, 1, 3, 4]) (cc := [.reg [] [] 0 [(1, none, .b false)] [0, 1, 3, 4, 22]])
        (ai h1 trivial) (by kernel_rfl)) (by simp)) (by kernel_rfl) (by kernel_rfl)
def L64_3  (v42 : Int) (w1 : Int) (w2 : Int) (w2_1 : (List (Int × Int))) (w3 : Int) (w3_1 : (List (Int × Int))) (w5 : (List Int)) (w7 : (List Int)) : Nat → Int → (List Int) → Option (List Int)
  | 0, _, _ => none
  | fuel + 1, v43, w8 =>
    oif ((decide (v43 < v42)))
    (oif (decide ((0:Int) ≤ v43)) (oif (decide ((v43 : Int) < (((List.length w8) : Nat) : Int))) (obind (sg w8 v43) fun x1 => oif (decide ((v43 : Int) < ((8 : Nat) : Int))) (obind (sg w7 v43) fun x2 => obind (stL w8 v43 (IntKind.wrap .i64 (x1 + x2))) fun x3 => L64_3 v42 w1 w2 w2_1 w3 w3_1 w5 w7 fuel (IntKind.wrap .i64 (v43 + 1)) x3) none) none) none)
    (some (w8))
noncomputable def L64_3_post (v42 : Int) (w1 : Int) (w2 : Int) (w2_1 : (List (Int × Int))) (w3 : Int) (w3_1 : (List (Int × Int))) (w5 : (List Int)) (w7 : (List Int))  : (List Int) → Ex × St
  | y => ((.exit 2), ⟨[(2, .ptr 0 0 1), (3, .ptr 1 0 1), (8, .msl 7 0 (List.length y) (List.length (rowI e3 y)) true)], [.cells [.p (.nilsl)] 0, .cells [.p (.int .i64 w1)] 0, .cells [.p (.ref [.int .i64 w2, .sl (List.map e62 w2_1) false])] 0, .cells [.p (.fn 46 [.ref [.int .i64 w3, .sl (List.map e62 w3_1) false]] [])] 0, .loop 1 R15_1_0_1_1_1_1_0_1_0 [(2, .ptr 0 0 1), (3, .ptr 1 0 1), (4, .ptr 2 0 1), (6, .ptr 3 0 1)] none, .cells (rowI e2 w5) 0, .hole, .cells (rowI e3 y) 1]⟩)
theorem L64_3_ok  (v42 : Int) (w1 : Int) (w2 : Int) (w2_1 : (List (Int × Int))) (w3 : Int) (w3_1 : (List (Int × Int))) (w5 : (List Int)) (w7 : (List Int))  : ∀ (fuel : Nat) (v43 : Int) (w8 : (List Int)) (r : (List Int)), L64_3 v42 w1 w2 w2_1 w3 w3_1 w5 w7 fuel v43 w8 = some r →
    SemJ prog ⟨57, 7, true⟩ (codeAt [1, 0, 1, 1, 1, 1, 0, 1, 0, 1, 0, 1, 1, 1, 0, 1, 0, 0] (bodyOf f15)) ⟨[(2, .ptr 0 0 1), (3, .ptr 1 0 1), (7, .ptr 7 0 (List.length (rowI e2 w7))), (8, .msl 8 0 (List.length w8) (List.length (rowI e3 w8)) true), (42, .p (.int .i64 v42)), (43, .p (.int .i64 v43))], [.cells [.p (.nilsl)] 0, .cells [.p (.int .i64 w1)] 0, .cells [.p (.ref [.int .i64 w2, .sl (List.map e62 w2_1) false])] 0, .cells [.p (.fn 46 [.ref [.int .i64 w3, .sl (List.map e62 w3_1) false]] [])] 0, .loop 1 R15_1_0_1_1_1_1_0_1_0 [(2, .ptr 0 0 1), (3, .ptr 1 0 1), (4, .ptr 2 0 1), (6, .ptr 3 0 1)] none, .cells (rowI e2 w5) 0, .hole, .cells (rowI e2 w7) 0, .cells (rowI e3 w8) 1]⟩ (L64_3_post v42 w1 w2 w2_1 w3 w3_1 w5 w7 r).1 (L64_3_post v42 w1 w2 w2_1 w3 w3_1 w5 w7 r).2
  | 0, _, _, _, h => nomatch h
  | fuel + 1, v43, w8, r, h => by
    unfold L64_3 at h
    refine oif_elim h (fun h1 g1 => ?_) (fun h1 g1 => ?_)
    · refine oif_elim g1 (fun h2 g2 => ?_) (fun _ h => nomatch h)
      refine oif_elim g2 (fun h3 g3 => ?_) (fun _ h => nomatch h)
      refine obind_elim g3 fun x1 h4 g4 => ?_
      refine oif_elim g4 (fun h5 g5 => ?_) (fun _ h => nomatch h)
      refine obind_elim g5 fun x2 h6 g6 => ?_
      refine obind_elim g6 fun x3 h7 g7 => ?_
      exact SemJ.again (σ1 := ⟨[(2, .ptr 0 0 1), (3, .ptr 1 0 1), (7, .ptr 7 0 (List.length (rowI e2 w7))), (8, .msl 8 0 (List.length x3) (List.length (rowI e3 x3)) true), (42, .p (.int .i64 v42)), (43, .p (.int .i64 (IntKind.wrap .i64 (v43 + 1))))], [.cells [.p (.nilsl)] 0, .cells [.p (.int .i64 w1)] 0, .cells [.p (.ref [.int .i64 w2, .sl (List.map e62 w2_1) false])] 0, .cells [.p (.fn 46 [.ref [.int .i64 w3, .sl (List.map e62 w3_1) false]] [])] 0, .loop 1 R15_1_0_1_1_1_1_0_1_0 [(2, .ptr 0 0 1), (3, .ptr 1 0 1), (4, .ptr 2 0 1), (6, .ptr 3 0 1)] none, .cells (rowI e2 w5) 0, .hole, .cells (rowI e2 w7) 0, .cells (rowI e3 x3) 1]⟩) (SemC.post (path hm (σ' := ⟨[(2, .ptr 0 0 1), (3, .ptr 1 0 1), (7, .ptr 7 0 (List.length (rowI e2 w7))), (8, .msl 8 0 (List.length w8) (List.length (rowI e3 w8)) true), (42, .p (.int .i64 v42)), (43, .p (.int .i64 (IntKind.wrap .i64 (v43 + 1))))], [.cells [.p (.nilsl)] 0, .cells [.p (.int .i64 w1)] 0, .cells [.p (.ref [.int .i64 w2, .sl (List.map e62 w2_1) false])] 0, .cells [.p (.fn 46 [.ref [.int .i64 w3, .sl (List.map e62 w3_1) false]] [])] 0, .loop 1 R15_1_0_1_1_1_1_0_1_0 [(2, .ptr 0 0 1), (3, .ptr 1 0 1), (4, .ptr 2 0 1), (6, .ptr 3 0 1)] none, .cells (rowI e2 w5) 0, .hole, .cells (rowI e2 w7) 0, .cells (rowI e3 x3) 1]⟩) (ks := [2, 3, 7, 8, 42, 43]) (cc := [.reg [] [] 0 [(0, none, .b true)] [2, 3, 7, 8, 42, 43, 44], .reg [] [] 0 [] [2, 3, 7, 8, 9, 42, 43], .reg [0, 0, 3, 7, 0, 16, 48, 127, 255, 511] [(8, 9)] 0 [(3, none, .iv (.p (.int .i64 x1))), (6, none, .iv (.p (.int .i64 x2))), (9, none, .cs (rowI e3 x3))] [2, 3, 7, 8, 42, 43], .reg [] [] 0 [] [2, 3, 7, 8, 42, 43]])
        (ai h1 (ai (od h2) (ai (od h3) (ai (rl (List.length (rowI e3 w8))) (ai (row_get el3 h4 rfl) (ai (od h2) (ai (od h5) (ai (rl (List.length (rowI e2 w7))) (ai (row_get el2 h6 rfl) (ai (od h2) (ai (od h3) (ai (rl (List.length (rowI e3 w8))) (ai (Nat.le_trans (row_fit el3 (stL_0 h7) (stL_lt h7)) (Nat.le_of_eq (rl (List.length (rowI e3 w8))))) (ai (row_put el3 h7) trivial)))))))))))))) (by kernel_rfl)) (Weak.trans (Weak.eq (congrArg (fun ZZ : Nat => (⟨[(2, .ptr 0 0 1), (3, .ptr 1 0 1), (7, .ptr 7 0 (List.length (rowI e2 w7))), (8, .msl 8 0 ZZ (List.length (rowI e3 w8)) true), (42, .p (.int .i64 v42)), (43, .p (.int .i64 (IntKind.wrap .i64 (v43 + 1))))], [.cells [.p (.nilsl)] 0, .cells [.p (.int .i64 w1)] 0, .cells [.p (.ref [.int .i64 w2, .sl (List.map e62 w2_1) false])] 0, .cells [.p (.fn 46 [.ref [.int .i64 w3, .sl (List.map e62 w3_1) false]] [])] 0, .loop 1 R15_1_0_1_1_1_1_0_1_0 [(2, .ptr 0 0 1), (3, .ptr 1 0 1), (4, .ptr 2 0 1), (6, .ptr 3 0 1)] none, .cells (rowI e2 w5) 0, .hole, .cells (rowI e2 w7) 0, .cells (rowI e3 x3) 1]⟩ : St)) (Eq.symm ((stL_len h7).trans (rl (List.length w8)))))) (Weak.eq (congrArg (fun ZZ : Nat => (⟨[(2, .ptr 0 0 1), (3, .ptr 1 0 1), (7, .ptr 7 0 (List.length (rowI e2 w7))), (8, .msl 8 0 (List.length x3) ZZ true), (42, .p (.int .i64 v42)), (43, .p (.int .i64 (IntKind.wrap .i64 (v43 + 1))))], [.cells [.p (.nilsl)] 0, .cells [.p (.int .i64 w1)] 0, .cells [.p (.ref [.int .i64 w2, .sl (List.map e62 w2_1) false])] 0, .cells [.p (.fn 46 [.ref [.int .i64 w3, .sl (List.map e62 w3_1) false]] [])] 0, .loop 1 R15_1_0_1_1_1_1_0_1_0 [(2, .ptr 0 0 1), (3, .ptr 1 0 1), (4, .ptr 2 0 1), (6, .ptr 3 0 1)] none, .cells (rowI e2 w5) 0, .hole, .cells (rowI e2 w7) 0, .cells (rowI e3 x3) 1]⟩ : St)) (Eq.symm ((row_setlen el3 h7).trans (rl (List.length (rowI e3 w8))))))))) (L64_3_ok v42 w1 w2 w2_1 w3 w3_1 w5 w7 fuel (IntKind.wrap .i64 (v43 + 1)) x3 _ g7)
    · have hr := Option.some.inj g1
      subst hr
      exact SemC.cast (SemJ.out (e := (.exit 2)) (SemC.post (path hm (σ' := ⟨[(2, .ptr 0 0 1), (3, .ptr 1 0 1), (8, .msl 8 0 (List.length w8) (List.length (rowI e3 w8)) true)], [.cells [.p (.nilsl)] 0, .cells [.p (.int .i64 w1)] 0, .cells [.p (.ref [.int .i64 w2, .sl (List.map e62 w2_1) false])] 0, .cells [.p (.fn 46 [.ref [.int .i64 w3, .sl (List.map e62 w3_1) false]] [])] 0, .loop 1 R15_1_0_1_1_1_1_0_1_0 [(2, .ptr 0 0 1), (3, .ptr 1 0 1), (4, .ptr 2 0 1), (6, .ptr 3 0 1)] none, .cells (rowI e2 w5) 0, .hole, .cells (rowI e2 w7) 0, .cells (rowI e3 w8) 1]⟩) (ks := [2, 3, 8]) (cc := [.reg [] [] 0 [(0, none, .b false)] [2, 3, 7, 8, 42, 43, 44]])
        (ai h1 trivial) (by kernel_rfl)) (Weak.sel (E := [(2, .ptr 0 0 1), (3, .ptr 1 0 1), (8, .msl 8 0 (List.length w8) (List.length (rowI e3 w8)) true)]) (E' := [(2, .ptr 0 0 1), (3, .ptr 1 0 1), (8, .msl 7 0 (List.length w8) (List.length (rowI e3 w8)) true)]) (H := [.cells [.p (.nilsl)] 0, .cells [.p (.int .i64 w1)] 0, .cells [.p (.ref [.int .i64 w2, .sl (List.map e62 w2_1) false])] 0, .cells [.p (.fn 46 [.ref [.int .i64 w3, .sl (List.map e62 w3_1) false]] [])] 0, .loop 1 R15_1_0_1_1_1_1_0_1_0 [(2, .ptr 0 0 1), (3, .ptr 1 0 1), (4, .ptr 2 0 1), (6, .ptr 3 0 1)] none, .cells (rowI e2 w5) 0, .hole, .cells (rowI e2 w7) 0, .cells (rowI e3 w8) 1]) (H' := [.cells [.p (.nilsl)] 0, .cells [.p (.int .i64 w1)] 0, .cells [.p (.ref [.int .i64 w2, .sl (List.map e62 w2_1) false])] 0, .cells [.p (.fn 46 [.ref [.int .i64 w3, .sl (List.map e62 w3_1) false]] [])] 0, .loop 1 R15_1_0_1_1_1_1_0_1_0 [(2, .ptr 0 0 1), (3, .ptr 1 0 1), (4, .ptr 2 0 1), (6, .ptr 3 0 1)] none, .cells (rowI e2 w5) 0, .hole, .cells (rowI e3 w8) 1]) [0, 1, 2, 3, 4, 5, 6, 8] (selH_cons (o := .cells [.p (.nilsl)] 0) (o' := .cells [.p (.nilsl)] 0) (by kernel_rfl) (sel_x (by kernel_rfl)) (selH_cons (o := .cells [.p (.int .i64 w1)] 0) (o' := .cells [.p (.int .i64 w1)] 0) (by kernel_rfl) (sel_x (by kernel_rfl)) (selH_cons (o := .cells [.p (.ref [.int .i64 w2, .sl (List.map e62 w2_1) false])] 0) (o' := .cells [.p (.ref [.int .i64 w2, .sl (List.map e62 w2_1) false])] 0) (by kernel_rfl) (sel_x (by kernel_rfl)) (selH_cons (o := .cells [.p (.fn 46 [.ref [.int .i64 w3, .sl (List.map e62 w3_1) false]] [])] 0) (o' := .cells [.p (.fn 46 [.ref [.int .i64 w3, .sl (List.map e62 w3_1) false]] [])] 0) (by kernel_rfl) (sel_x (by kernel_rfl)) (selH_cons (o := .loop 1 R15_1_0_1_1_1_1_0_1_0 [(2, .ptr 0 0 1), (3, .ptr 1 0 1), (4, .ptr 2 0 1), (6, .ptr 3 0 1)] none) (o' := .loop 1 R15_1_0_1_1_1_1_0_1_0 [(2, .ptr 0 0 1), (3, .ptr 1 0 1), (4, .ptr 2 0 1), (6, .ptr 3 0 1)] none) (by kernel_rfl) (sel_loop (by kernel_rfl)) (selH_cons (o := .cells (rowI e2 w5) 0) (o' := .cells (rowI e2 w5) 0) (by kernel_rfl) sel_row (selH_cons (o := .hole) (o' := .hole) (by kernel_rfl) (by exact rfl) (selH_cons (o := .cells (rowI e3 w8) 1) (o' := .cells (rowI e3 w8) 1) (by kernel_rfl) sel_row trivial)))))))) (by kernel_rfl) (by kernel_rfl))) (by simp)) (by kernel_rfl) (by kernel_rfl)
def L64_0  (v1 : Int) (v1_1 : (List (Int × Int))) (w1 : Int) (w2 : Int) (w2_1 : (List (Int × Int))) (w3 : Int) (w3_1 : (List (Int × Int))) : Nat → (List Int) → Option (Unit ⊕ (List Int))
  | 0, _ => none
  | fuel + 1, w5 =>
    oif (decide (List.length w5 = 8)) (oif (decide (List.length (List.replicate 8 (0 : Int)) = 8)) (obind (F40 fuel (w2, w2_1) w5 (w2_1.length : Int)) fun r1 => obind (F46 fuel (w3, w3_1) r1) fun r2 => oif (r2)
    (obind (L64_1 v1 v1_1 w1 w2 w2_1 w3 w3_1 fuel (IntKind.wrap .i64 (v1 - 1)) w5) fun y3 => oif ((decide (y3.1 < 0)))
      (some (.inl ()))
      (oif (decide ((0:Int) ≤ y3.1)) (oif (decide ((y3.1 : Int) < ((8 : Nat) : Int))) (obind (stL y3.2 y3.1 1) fun x4 => L64_0 v1 v1_1 w1 w2 w2_1 w3 w3_1 fuel x4) none) none))
    (oif (decide ((0:Int) ≤ w2)) (oif (decide (((8 : Nat) : Int) * w2 ≤ 281474976710656)) (oif (decide ((w2 : Int) ≤ 9223372036854775807)) (obind (L64_3 (((Int.toNat w2) : Nat) : Int) w1 w2 w2_1 w3 w3_1 w5 w5 fuel 0 (List.replicate (Int.toNat w2) (0 : Int))) fun y3 => some (.inr (y3))) none) none) none)) none) none
noncomputable def L64_0_post (v1 : Int) (v1_1 : (List (Int × Int))) (w1 : Int) (w2 : Int) (w2_1 : (List (Int × Int))) (w3 : Int) (w3_1 : (List (Int × Int)))  : (Unit ⊕ (List Int)) → Ex × St
  | .inl y => (.ret, ⟨[], [.cells [.p (.nilsl)] 0, .cells [.p (.int .i64 w1)] 0, .cells [.p (.ref [.int .i64 w2, .sl (List.map e62 w2_1) false])] 0, .cells [.p (.fn 46 [.ref [.int .i64 w3, .sl (List.map e62 w3_1) false]] [])] 0, .loop 0 R15_1_0_1_1_1_1_0_1_0 [(2, .ptr 0 0 1), (3, .ptr 1 0 1), (4, .ptr 2 0 1), (6, .ptr 3 0 1)] none]⟩)
  | .inr (y) => (.ret, ⟨[], [.cells [.msl 5 0 (List.length y) (List.length (rowI e3 y)) true] 0, .cells [.p (.int .i64 0)] 0, .cells [.p (.ref [.int .i64 w2, .sl (List.map e62 w2_1) false])] 0, .cells [.p (.fn 46 [.ref [.int .i64 w3, .sl (List.map e62 w3_1) false]] [])] 0, .loop 2 R15_1_0_1_1_1_1_0_1_0 [(2, .ptr 0 0 1), (3, .ptr 1 0 1), (4, .ptr 2 0 1), (6, .ptr 3 0 1)] (some .ret), .cells (rowI e3 y) 1]⟩)
theorem L64_0_ok  (v1 : Int) (v1_1 : (List (Int × Int))) (w1 : Int) (w2 : Int) (w2_1 : (List (Int × Int))) (w3 : Int) (w3_1 : (List (Int × Int)))  : ∀ (fuel : Nat) (w5 : (List Int)) (r : (Unit ⊕ (List Int))), L64_0 v1 v1_1 w1 w2 w2_1 w3 w3_1 fuel w5 = some r →
    SemJ prog ⟨31, 5, false⟩ (codeAt [1, 0, 0] (bodyOf f64)) ⟨[(0, .yld 4), (1, .p (.ref [.ref [.int .i64 v1, .sl (List.map e62 v1_1) false]])), (3, .ptr 5 0 (List.length (rowI e2 w5)))], [.cells [.p (.nilsl)] 0, .cells [.p (.int .i64 w1)] 0, .cells [.p (.ref [.int .i64 w2, .sl (List.map e62 w2_1) false])] 0, .cells [.p (.fn 46 [.ref [.int .i64 w3, .sl (List.map e62 w3_1) false]] [])] 0, .loop 0 R15_1_0_1_1_1_1_0_1_0 [(2, .ptr 0 0 1), (3, .ptr 1 0 1), (4, .ptr 2 0 1), (6, .ptr 3 0 1)] none, .cells (rowI e2 w5) 0]⟩ (L64_0_post v1 v1_1 w1 w2 w2_1 w3 w3_1 r).1 (L64_0_post v1 v1_1 w1 w2 w2_1 w3 w3_1 r).2
  | 0, _, _, h => nomatch h
  | fuel + 1, w5, r, h => by
    unfold L64_0 at h
    refine oif_elim h (fun h1 g1 => ?_) (fun _ h => nomatch h)
    refine oif_elim g1 (fun h2 g2 => ?_) (fun _ h => nomatch h)
    refine obind_elim g2 fun r1 h3 g3 => ?_
    refine obind_elim g3 fun r2 h4 g4 => ?_
    have q18 := fun {P : Prop} (t : P) => ai (rl (List.length (rowI e2 w5))) (ai (row_wle el2 (od h1) (rfl : 8 * 1 = 8) (rl (List.length (rowI e2 w5)))) (ai (row_wtake el2 (od h1) (rfl : 8 * 1 = 8)) t))
    refine oif_elim g4 (fun h5 g5 => ?_) (fun h5 g5 => ?_)
    · subst h5
      refine obind_elim g5 fun y3 h6 g6 => ?_
      let c19 : List CC := [.reg [] [] 0 [(1, none, .iv (.p (.agg (rowP e2 w5)))), (2, none, .ci (.p (.bool true)) [])] [0, 1, 3, 8], .reg [] [] 0 [] [0, 1, 3, 4], .leaf (.exit 2) ⟨[(0, .yld 4), (1, .p (.ref [.ref [.int .i64 v1, .sl (List.map e62 v1_1) false]])), (3, .ptr 5 0 (List.length (rowI e2 y3.2))), (4, .p (.int .i64 y3.1))], [.cells [.p (.nilsl)] 0, .cells [.p (.int .i64 w1)] 0, .cells [.p (.ref [.int .i64 w2, .sl (List.map e62 w2_1) false])] 0, .cells [.p (.fn 46 [.ref [.int .i64 w3, .sl (List.map e62 w3_1) false]] [])] 0, .loop 0 R15_1_0_1_1_1_1_0_1_0 [(2, .ptr 0 0 1), (3, .ptr 1 0 1), (4, .ptr 2 0 1), (6, .ptr 3 0 1)] none, .cells (rowI e2 y3.2) 0]⟩]
      have q20 := fun {P : Prop} (t : P) => ai (roundI_of (P := prog) (l := 4) (args := [.p (.agg (rowP e2 w5))]) (H := [.cells [.p (.nilsl)] 0, .cells [.p (.int .i64 w1)] 0, .cells [.p (.ref [.int .i64 w2, .sl (List.map e62 w2_1) false])] 0, .cells [.p (.fn 46 [.ref [.int .i64 w3, .sl (List.map e62 w3_1) false]] [])] 0, .loop 0 R15_1_0_1_1_1_1_0_1_0 [(2, .ptr 0 0 1), (3, .ptr 1 0 1), (4, .ptr 2 0 1), (6, .ptr 3 0 1)] none, .cells (rowI e2 w5) 0]) (R := R15_1_0_1_1_1_1_0_1_0) (env := [(2, .ptr 0 0 1), (3, .ptr 1 0 1), (4, .ptr 2 0 1), (6, .ptr 3 0 1)]) (env1 := [(2, .ptr 0 0 1), (3, .ptr 1 0 1), (4, .ptr 2 0 1), (6, .ptr 3 0 1)]) (env2 := [(2, .ptr 0 0 1), (3, .ptr 1 0 1), (4, .ptr 2 0 1), (6, .ptr 3 0 1)]) (m := 6) (e := .normal) (by kernel_rfl) (by kernel_rfl) (by kernel_rfl) (by kernel_rfl) (path hm (σ' := ⟨[(2, .ptr 0 0 1), (3, .ptr 1 0 1), (4, .ptr 2 0 1), (6, .ptr 3 0 1), (7, .ptr 6 0 (List.length (rowI e2 (List.replicate 8 (0 : Int)))))], [.cells [.p (.nilsl)] 0, .cells [.p (.int .i64 w1)] 0, .cells [.p (.ref [.int .i64 w2, .sl (List.map e62 w2_1) false])] 0, .cells [.p (.fn 46 [.ref [.int .i64 w3, .sl (List.map e62 w3_1) false]] [])] 0, .loop 0 R15_1_0_1_1_1_1_0_1_0 [(2, .ptr 0 0 1), (3, .ptr 1 0 1), (4, .ptr 2 0 1), (6, .ptr 3 0 1)] none, .cells (rowI e2 w5) 0, .cells (rowI e2 w5) 0]⟩) (ks := [2, 3, 4, 6, 7]) (cc := [.reg [] [] 1 [(0, some 6, .a), (1, none, .ap (rowI e2 w5) 0 0)] [2, 3, 4, 6, 7]]) (ai (row_wlen el2 (od h1) (rfl : 8 * 1 = 8)) (ai (row_scal el2 w5) (ai (rl (List.length (rowI e2 (List.replicate 8 (0 : Int))))) (ai (row_wle el2 (od h2) (rfl : 8 * 1 = 8) (rl (List.length (rowI e2 (List.replicate 8 (0 : Int)))))) (ai (row_putall el2 (od h2) (od h1)) trivial))))) (by kernel_rfl)) (by kernel_rfl) (SemC.post (path hm (σ' := ⟨[], [.cells [.p (.nilsl)] 0, .cells [.p (.int .i64 w1)] 0, .cells [.p (.ref [.int .i64 w2, .sl (List.map e62 w2_1) false])] 0, .cells [.p (.fn 46 [.ref [.int .i64 w3, .sl (List.map e62 w3_1) false]] [])] 0, .loop 1 R15_1_0_1_1_1_1_0_1_0 [(2, .ptr 0 0 1), (3, .ptr 1 0 1), (4, .ptr 2 0 1), (6, .ptr 3 0 1)] none, .cells (rowI e2 w5) 0, .cells (rowI e2 w5) 0]⟩) (ks := []) (cc := [.reg [0, 0, 0, 0, 8, 24, 56, 120, 248, 510, 1023] [] 0 [(2, none, .iv (.p (.agg (rowP e2 w5)))), (8, none, .n (w2_1.length : Int)), (9, none, .call (.agg (rowP e2 r1))), (10, none, .call (.bool true))] [2, 3, 4, 7, 33]]) (ai ((row_same el2 (od h2) (od h1)).trans (rl (List.length (rowI e2 (List.replicate 8 (0 : Int)))))) (ai (row_wle el2 (od h1) (rfl : 8 * 1 = 8) ((row_same el2 (od h2) (od h1)).trans (rl (List.length (rowI e2 (List.replicate 8 (0 : Int))))))) (ai (row_wtake el2 (od h1) (rfl : 8 * 1 = 8)) (ai (len_map e62 w2_1) (ai (F40_ok fuel (w2, w2_1) w5 (w2_1.length : Int) _ h3) (ai (F46_ok fuel (w3, w3_1) r1 _ h4) trivial)))))) (by kernel_rfl)) (Weak.sel (E := []) (E' := []) (H := [.cells [.p (.nilsl)] 0, .cells [.p (.int .i64 w1)] 0, .cells [.p (.ref [.int .i64 w2, .sl (List.map e62 w2_1) false])] 0, .cells [.p (.fn 46 [.ref [.int .i64 w3, .sl (List.map e62 w3_1) false]] [])] 0, .loop 1 R15_1_0_1_1_1_1_0_1_0 [(2, .ptr 0 0 1), (3, .ptr 1 0 1), (4, .ptr 2 0 1), (6, .ptr 3 0 1)] none, .cells (rowI e2 w5) 0, .cells (rowI e2 w5) 0]) (H' := [.cells [.p (.nilsl)] 0, .cells [.p (.int .i64 w1)] 0, .cells [.p (.ref [.int .i64 w2, .sl (List.map e62 w2_1) false])] 0, .cells [.p (.fn 46 [.ref [.int .i64 w3, .sl (List.map e62 w3_1) false]] [])] 0, .loop 1 R15_1_0_1_1_1_1_0_1_0 [(2, .ptr 0 0 1), (3, .ptr 1 0 1), (4, .ptr 2 0 1), (6, .ptr 3 0 1)] none, .cells (rowI e2 w5) 0]) [0, 1, 2, 3, 4, 5] (selH_cons (o := .cells [.p (.nilsl)] 0) (o' := .cells [.p (.nilsl)] 0) (by kernel_rfl) (sel_x (by kernel_rfl)) (selH_cons (o := .cells [.p (.int .i64 w1)] 0) (o' := .cells [.p (.int .i64 w1)] 0) (by kernel_rfl) (sel_x (by kernel_rfl)) (selH_cons (o := .cells [.p (.ref [.int .i64 w2, .sl (List.map e62 w2_1) false])] 0) (o' := .cells [.p (.ref [.int .i64 w2, .sl (List.map e62 w2_1) false])] 0) (by kernel_rfl) (sel_x (by kernel_rfl)) (selH_cons (o := .cells [.p (.fn 46 [.ref [.int .i64 w3, .sl (List.map e62 w3_1) false]] [])] 0) (o' := .cells [.p (.fn 46 [.ref [.int .i64 w3, .sl (List.map e62 w3_1) false]] [])] 0) (by kernel_rfl) (sel_x (by kernel_rfl)) (selH_cons (o := .loop 1 R15_1_0_1_1_1_1_0_1_0 [(2, .ptr 0 0 1), (3, .ptr 1 0 1), (4, .ptr 2 0 1), (6, .ptr 3 0 1)] none) (o' := .loop 1 R15_1_0_1_1_1_1_0_1_0 [(2, .ptr 0 0 1), (3, .ptr 1 0 1), (4, .ptr 2 0 1), (6, .ptr 3 0 1)] none) (by kernel_rfl) (sel_loop (by kernel_rfl)) (selH_cons (o := .cells (rowI e2 w5) 0) (o' := .cells (rowI e2 w5) 0) (by kernel_rfl) sel_row trivial)))))) (by kernel_rfl) (by kernel_rfl))) (by kernel_rfl) (by kernel_rfl : _ = (.p (.bool true), [.cells [.p (.nilsl)] 0, .cells [.p (.int .i64 w1)] 0, .cells [.p (.ref [.int .i64 w2, .sl (List.map e62 w2_1) false])] 0, .cells [.p (.fn 46 [.ref [.int .i64 w3, .sl (List.map e62 w3_1) false]] [])] 0, .loop 0 R15_1_0_1_1_1_1_0_1_0 [(2, .ptr 0 0 1), (3, .ptr 1 0 1), (4, .ptr 2 0 1), (6, .ptr 3 0 1)] none, .cells (rowI e2 w5) 0]))) (ai (SemJ.loop (L64_1_ok v1 v1_1 w1 w2 w2_1 w3 w3_1 fuel (IntKind.wrap .i64 (v1 - 1)) w5 _ h6)) t)
      refine oif_elim g6 (fun h7 g7 => ?_) (fun h7 g7 => ?_)
      · have hr := Option.some.inj g7
        subst hr
        exact SemC.cast (SemJ.out (e := .ret) (SemC.post (path hm (σ' := ⟨[], [.cells [.p (.nilsl)] 0, .cells [.p (.int .i64 w1)] 0, .cells [.p (.ref [.int .i64 w2, .sl (List.map e62 w2_1) false])] 0, .cells [.p (.fn 46 [.ref [.int .i64 w3, .sl (List.map e62 w3_1) false]] [])] 0, .loop 0 R15_1_0_1_1_1_1_0_1_0 [(2, .ptr 0 0 1), (3, .ptr 1 0 1), (4, .ptr 2 0 1), (6, .ptr 3 0 1)] none, .cells (rowI e2 y3.2) 0]⟩) (ks := []) (cc := c19 ++ [.reg [] [] 0 [(1, none, .b true)] [0, 1, 3, 4, 28]])
        (q18 (q20 (ai h7 trivial))) (by kernel_rfl)) (Weak.sel (E := []) (E' := []) (H := [.cells [.p (.nilsl)] 0, .cells [.p (.int .i64 w1)] 0, .cells [.p (.ref [.int .i64 w2, .sl (List.map e62 w2_1) false])] 0, .cells [.p (.fn 46 [.ref [.int .i64 w3, .sl (List.map e62 w3_1) false]] [])] 0, .loop 0 R15_1_0_1_1_1_1_0_1_0 [(2, .ptr 0 0 1), (3, .ptr 1 0 1), (4, .ptr 2 0 1), (6, .ptr 3 0 1)] none, .cells (rowI e2 y3.2) 0]) (H' := [.cells [.p (.nilsl)] 0, .cells [.p (.int .i64 w1)] 0, .cells [.p (.ref [.int .i64 w2, .sl (List.map e62 w2_1) false])] 0, .cells [.p (.fn 46 [.ref [.int .i64 w3, .sl (List.map e62 w3_1) false]] [])] 0, .loop 0 R15_1_0_1_1_1_1_0_1_0 [(2, .ptr 0 0 1), (3, .ptr 1 0 1), (4, .ptr 2 0 1), (6, .ptr 3 0 1)] none]) [0, 1, 2, 3, 4] (selH_cons (o := .cells [.p (.nilsl)] 0) (o' := .cells [.p (.nilsl)] 0) (by kernel_rfl) (sel_x (by kernel_rfl)) (selH_cons (o := .cells [.p (.int .i64 w1)] 0) (o' := .cells [.p (.int .i64 w1)] 0) (by kernel_rfl) (sel_x (by kernel_rfl)) (selH_cons (o := .cells [.p (.ref [.int .i64 w2, .sl (List.map e62 w2_1) false])] 0) (o' := .cells [.p (.ref [.int .i64 w2, .sl (List.map e62 w2_1) false])] 0) (by kernel_rfl) (sel_x (by kernel_rfl)) (selH_cons (o := .cells [.p (.fn 46 [.ref [.int .i64 w3, .sl (List.map e62 w3_1) false]] [])] 0) (o' := .cells [.p (.fn 46 [.ref [.int .i64 w3, .sl (List.map e62 w3_1) false]] [])] 0) (by kernel_rfl) (sel_x (by kernel_rfl)) (selH_cons (o := .loop 0 R15_1_0_1_1_1_1_0_1_0 [(2, .ptr 0 0 1), (3, .ptr 1 0 1), (4, .ptr 2 0 1), (6, .ptr 3 0 1)] none) (o' := .loop 0 R15_1_0_1_1_1_1_0_1_0 [(2, .ptr 0 0 1), (3, .ptr 1 0 1), (4, .ptr 2 0 1), (6, .ptr 3 0 1)] none) (by kernel_rfl) (sel_loop (by kernel_rfl)) trivial))))) (by kernel_rfl) (by kernel_rfl))) (by simp)) (by kernel_rfl) (by kernel_rfl)
      · refine oif_elim g7 (fun h8 g8 => ?_) (fun _ h => nomatch h)
        refine oif_elim g8 (fun h9 g9 => ?_) (fun _ h => nomatch h)
        refine obind_elim g9 fun x4 h10 g10 => ?_
        exact SemJ.again (σ1 := ⟨[(0, .yld 4), (1, .p (.ref [.ref [.int .i64 v1, .sl (List.map e62 v1_1) false]])), (3, .ptr 5 0 (List.length (rowI e2 x4)))], [.cells [.p (.nilsl)] 0, .cells [.p (.int .i64 w1)] 0, .cells [.p (.ref [.int .i64 w2, .sl (List.map e62 w2_1) false])] 0, .cells [.p (.fn 46 [.ref [.int .i64 w3, .sl (List.map e62 w3_1) false]] [])] 0, .loop 0 R15_1_0_1_1_1_1_0_1_0 [(2, .ptr 0 0 1), (3, .ptr 1 0 1), (4, .ptr 2 0 1), (6, .ptr 3 0 1)] none, .cells (rowI e2 x4) 0]⟩) (SemC.post (path hm (σ' := ⟨[(0, .yld 4), (1, .p (.ref [.ref [.int .i64 v1, .sl (List.map e62 v1_1) false]])), (3, .ptr 5 0 (List.length (rowI e2 y3.2)))], [.cells [.p (.nilsl)] 0, .cells [.p (.int .i64 w1)] 0, .cells [.p (.ref [.int .i64 w2, .sl (List.map e62 w2_1) false])] 0, .cells [.p (.fn 46 [.ref [.int .i64 w3, .sl (List.map e62 w3_1) false]] [])] 0, .loop 0 R15_1_0_1_1_1_1_0_1_0 [(2, .ptr 0 0 1), (3, .ptr 1 0 1), (4, .ptr 2 0 1), (6, .ptr 3 0 1)] none, .cells (rowI e2 x4) 0]⟩) (ks := [0, 1, 3]) (cc := c19 ++ [.reg [] [] 0 [(1, none, .b false)] [0, 1, 3, 4, 28], .reg [] [] 0 [(2, none, .cs (rowI e2 x4))] [0, 1, 3]])
        (q18 (q20 (ai h7 (ai (od h8) (ai (od h9) (ai (rl (List.length (rowI e2 y3.2))) (ai (Nat.le_trans (row_fit el2 (stL_0 h10) (stL_lt h10)) (Nat.le_of_eq (rl (List.length (rowI e2 y3.2))))) (ai (row_put el2 h10) trivial)))))))) (by kernel_rfl)) (Weak.eq (congrArg (fun ZZ : Nat => (⟨[(0, .yld 4), (1, .p (.ref [.ref [.int .i64 v1, .sl (List.map e62 v1_1) false]])), (3, .ptr 5 0 ZZ)], [.cells [.p (.nilsl)] 0, .cells [.p (.int .i64 w1)] 0, .cells [.p (.ref [.int .i64 w2, .sl (List.map e62 w2_1) false])] 0, .cells [.p (.fn 46 [.ref [.int .i64 w3, .sl (List.map e62 w3_1) false]] [])] 0, .loop 0 R15_1_0_1_1_1_1_0_1_0 [(2, .ptr 0 0 1), (3, .ptr 1 0 1), (4, .ptr 2 0 1), (6, .ptr 3 0 1)] none, .cells (rowI e2 x4) 0]⟩ : St)) (Eq.symm ((row_setlen el2 h10).trans (rl (List.length (rowI e2 y3.2)))))))) (L64_0_ok v1 v1_1 w1 w2 w2_1 w3 w3_1 fuel x4 _ g10)
    · subst h5
      refine oif_elim g5 (fun h6 g6 => ?_) (fun _ h => nomatch h)
      refine oif_elim g6 (fun h7 g7 => ?_) (fun _ h => nomatch h)
      refine oif_elim g7 (fun h8 g8 => ?_) (fun _ h => nomatch h)
      refine obind_elim g8 fun y3 h9 g9 => ?_
      have hr := Option.some.inj g9
      subst hr
      exact SemC.cast (SemJ.out (e := .ret) (SemC.post (path hm (σ' := ⟨[], [.cells [.msl 6 0 (List.length y3) (List.length (rowI e3 y3)) true] 0, .cells [.p (.int .i64 0)] 0, .cells [.p (.ref [.int .i64 w2, .sl (List.map e62 w2_1) false])] 0, .cells [.p (.fn 46 [.ref [.int .i64 w3, .sl (List.map e62 w3_1) false]] [])] 0, .loop 2 R15_1_0_1_1_1_1_0_1_0 [(2, .ptr 0 0 1), (3, .ptr 1 0 1), (4, .ptr 2 0 1), (6, .ptr 3 0 1)] (some .ret), .cells (rowI e2 w5) 0, .cells (rowI e3 y3) 1]⟩) (ks := []) (cc := [.reg [] [] 1 [(1, none, .iv (.p (.agg (rowP e2 w5)))), (2, none, .ci (.p (.bool false)) [(0, .cells [.msl 6 0 (List.length y3) (List.length (rowI e3 y3)) true] 0), (1, .cells [.p (.int .i64 0)] 0), (4, .loop 2 R15_1_0_1_1_1_1_0_1_0 [(2, .ptr 0 0 1), (3, .ptr 1 0 1), (4, .ptr 2 0 1), (6, .ptr 3 0 1)] (some .ret)), (6, .cells (rowI e3 y3) 1)])] [0, 1, 3, 8]])
        (q18 (ai (roundI_of (P := prog) (l := 4) (args := [.p (.agg (rowP e2 w5))]) (H := [.cells [.p (.nilsl)] 0, .cells [.p (.int .i64 w1)] 0, .cells [.p (.ref [.int .i64 w2, .sl (List.map e62 w2_1) false])] 0, .cells [.p (.fn 46 [.ref [.int .i64 w3, .sl (List.map e62 w3_1) false]] [])] 0, .loop 0 R15_1_0_1_1_1_1_0_1_0 [(2, .ptr 0 0 1), (3, .ptr 1 0 1), (4, .ptr 2 0 1), (6, .ptr 3 0 1)] none, .cells (rowI e2 w5) 0, .hole]) (R := R15_1_0_1_1_1_1_0_1_0) (env := [(2, .ptr 0 0 1), (3, .ptr 1 0 1), (4, .ptr 2 0 1), (6, .ptr 3 0 1)]) (env1 := [(2, .ptr 0 0 1), (3, .ptr 1 0 1), (4, .ptr 2 0 1), (6, .ptr 3 0 1)]) (env2 := [(2, .ptr 0 0 1), (3, .ptr 1 0 1), (4, .ptr 2 0 1), (6, .ptr 3 0 1)]) (m := 7) (e := .ret) (by kernel_rfl) (by kernel_rfl) (by kernel_rfl) (by kernel_rfl) (path hm (σ' := ⟨[(2, .ptr 0 0 1), (3, .ptr 1 0 1), (4, .ptr 2 0 1), (6, .ptr 3 0 1), (7, .ptr 7 0 (List.length (rowI e2 (List.replicate 8 (0 : Int)))))], [.cells [.p (.nilsl)] 0, .cells [.p (.int .i64 w1)] 0, .cells [.p (.ref [.int .i64 w2, .sl (List.map e62 w2_1) false])] 0, .cells [.p (.fn 46 [.ref [.int .i64 w3, .sl (List.map e62 w3_1) false]] [])] 0, .loop 0 R15_1_0_1_1_1_1_0_1_0 [(2, .ptr 0 0 1), (3, .ptr 1 0 1), (4, .ptr 2 0 1), (6, .ptr 3 0 1)] none, .cells (rowI e2 w5) 0, .hole, .cells (rowI e2 w5) 0]⟩) (ks := [2, 3, 4, 6, 7]) (cc := [.reg [] [] 1 [(0, some 7, .a), (1, none, .ap (rowI e2 w5) 0 0)] [2, 3, 4, 6, 7]]) (ai (row_wlen el2 (od h1) (rfl : 8 * 1 = 8)) (ai (row_scal el2 w5) (ai (rl (List.length (rowI e2 (List.replicate 8 (0 : Int))))) (ai (row_wle el2 (od h2) (rfl : 8 * 1 = 8) (rl (List.length (rowI e2 (List.replicate 8 (0 : Int)))))) (ai (row_putall el2 (od h2) (od h1)) trivial))))) (by kernel_rfl)) (by kernel_rfl) (SemC.post (path hm (σ' := ⟨[], [.cells [.msl 7 0 (List.length y3) (List.length (rowI e3 y3)) true] 0, .cells [.p (.int .i64 0)] 0, .cells [.p (.ref [.int .i64 w2, .sl (List.map e62 w2_1) false])] 0, .cells [.p (.fn 46 [.ref [.int .i64 w3, .sl (List.map e62 w3_1) false]] [])] 0, .loop 1 R15_1_0_1_1_1_1_0_1_0 [(2, .ptr 0 0 1), (3, .ptr 1 0 1), (4, .ptr 2 0 1), (6, .ptr 3 0 1)] none, .cells (rowI e2 w5) 0, .hole, .cells (rowI e3 y3) 1]⟩) (ks := []) (cc := [.reg [0, 0, 0, 0, 8, 24, 56, 120, 248, 510, 1023] [] 0 [(2, none, .iv (.p (.agg (rowP e2 w5)))), (8, none, .n (w2_1.length : Int)), (9, none, .call (.agg (rowP e2 r1))), (10, none, .call (.bool false))] [2, 3, 4, 7, 33], .reg [] [] 1 [(5, some 8, .ap (rowI e3 (List.replicate (Int.toNat w2) (0 : Int))) (Int.toNat w2) (List.length (rowI e3 (List.replicate (Int.toNat w2) (0 : Int)))))] [2, 3, 7, 8], .reg [] [] 0 [(1, none, .cs (rowI e3 (List.replicate (Int.toNat w2) (0 : Int))))] [2, 3, 7, 8], .reg [] [] 0 [] [2, 3, 7, 8, 42, 43], .leaf (.exit 2) ⟨[(2, .ptr 0 0 1), (3, .ptr 1 0 1), (8, .msl 7 0 (List.length y3) (List.length (rowI e3 y3)) true)], [.cells [.p (.nilsl)] 0, .cells [.p (.int .i64 w1)] 0, .cells [.p (.ref [.int .i64 w2, .sl (List.map e62 w2_1) false])] 0, .cells [.p (.fn 46 [.ref [.int .i64 w3, .sl (List.map e62 w3_1) false]] [])] 0, .loop 1 R15_1_0_1_1_1_1_0_1_0 [(2, .ptr 0 0 1), (3, .ptr 1 0 1), (4, .ptr 2 0 1), (6, .ptr 3 0 1)] none, .cells (rowI e2 w5) 0, .hole, .cells (rowI e3 y3) 1]⟩, .reg [] [] 0 [] [2, 3]]) (ai ((row_same el2 (od h2) (od h1)).trans (rl (List.length (rowI e2 (List.replicate 8 (0 : Int)))))) (ai (row_wle el2 (od h1) (rfl : 8 * 1 = 8) ((row_same el2 (od h2) (od h1)).trans (rl (List.length (rowI e2 (List.replicate 8 (0 : Int))))))) (ai (row_wtake el2 (od h1) (rfl : 8 * 1 = 8)) (ai (len_map e62 w2_1) (ai (F40_ok fuel (w2, w2_1) w5 (w2_1.length : Int) _ h3) (ai (F46_ok fuel (w3, w3_1) r1 _ h4) (ai (od h6) (ai (rfl : (w2 : Int) = w2) (ai (od h7) (ai (od h8) (ai (rl (Int.toNat w2)) (ai (rl (List.length (rowI e3 (List.replicate (Int.toNat w2) (0 : Int))))) (ai (zeros_row el3 (0 : Int) (Int.toNat w2)) (ai (rl (List.length (rowI e3 (List.replicate (Int.toNat w2) (0 : Int))))) (ai (row_whole_le el3 (List.length_replicate : List.length (List.replicate (Int.toNat w2) (0 : Int)) = (Int.toNat w2)) (rl (List.length (rowI e3 (List.replicate (Int.toNat w2) (0 : Int)))))) (ai (row_clear el3 (0 : Int) (List.length_replicate : List.length (List.replicate (Int.toNat w2) (0 : Int)) = (Int.toNat w2))) (ai (SemC.pre (σ := ⟨[(2, .ptr 0 0 1), (3, .ptr 1 0 1), (7, .ptr 7 0 (List.length (rowI e2 (List.replicate 8 (0 : Int))))), (8, .msl 8 0 (Int.toNat w2) (List.length (rowI e3 (List.replicate (Int.toNat w2) (0 : Int)))) true), (42, .p (.int .i64 (((Int.toNat w2) : Nat) : Int))), (43, .p (.int .i64 0))], [.cells [.p (.nilsl)] 0, .cells [.p (.int .i64 w1)] 0, .cells [.p (.ref [.int .i64 w2, .sl (List.map e62 w2_1) false])] 0, .cells [.p (.fn 46 [.ref [.int .i64 w3, .sl (List.map e62 w3_1) false]] [])] 0, .loop 1 R15_1_0_1_1_1_1_0_1_0 [(2, .ptr 0 0 1), (3, .ptr 1 0 1), (4, .ptr 2 0 1), (6, .ptr 3 0 1)] none, .cells (rowI e2 w5) 0, .hole, .cells (rowI e2 w5) 0, .cells (rowI e3 (List.replicate (Int.toNat w2) (0 : Int))) 1]⟩) (SemJ.loop (L64_3_ok (((Int.toNat w2) : Nat) : Int) w1 w2 w2_1 w3 w3_1 w5 w5 fuel 0 (List.replicate (Int.toNat w2) (0 : Int)) _ h9)) (Weak.trans (Weak.eq (congrArg (fun ZZ : Nat => (⟨[(2, .ptr 0 0 1), (3, .ptr 1 0 1), (7, .ptr 7 0 ZZ), (8, .msl 8 0 (Int.toNat w2) (List.length (rowI e3 (List.replicate (Int.toNat w2) (0 : Int)))) true), (42, .p (.int .i64 (((Int.toNat w2) : Nat) : Int))), (43, .p (.int .i64 0))], [.cells [.p (.nilsl)] 0, .cells [.p (.int .i64 w1)] 0, .cells [.p (.ref [.int .i64 w2, .sl (List.map e62 w2_1) false])] 0, .cells [.p (.fn 46 [.ref [.int .i64 w3, .sl (List.map e62 w3_1) false]] [])] 0, .loop 1 R15_1_0_1_1_1_1_0_1_0 [(2, .ptr 0 0 1), (3, .ptr 1 0 1), (4, .ptr 2 0 1), (6, .ptr 3 0 1)] none, .cells (rowI e2 w5) 0, .hole, .cells (rowI e2 w5) 0, .cells (rowI e3 (List.replicate (Int.toNat w2) (0 : Int))) 1]⟩ : St)) (Eq.symm ((row_same el2 (od h2) (od h1)).trans (rl (List.length (rowI e2 (List.replicate 8 (0 : Int))))))))) (Weak.eq (congrArg (fun ZZ : Nat => (⟨[(2, .ptr 0 0 1), (3, .ptr 1 0 1), (7, .ptr 7 0 (List.length (rowI e2 w5))), (8, .msl 8 0 ZZ (List.length (rowI e3 (List.replicate (Int.toNat w2) (0 : Int)))) true), (42, .p (.int .i64 (((Int.toNat w2) : Nat) : Int))), (43, .p (.int .i64 0))], [.cells [.p (.nilsl)] 0, .cells [.p (.int .i64 w1)] 0, .cells [.p (.ref [.int .i64 w2, .sl (List.map e62 w2_1) false])] 0, .cells [.p (.fn 46 [.ref [.int .i64 w3, .sl (List.map e62 w3_1) false]] [])] 0, .loop 1 R15_1_0_1_1_1_1_0_1_0 [(2, .ptr 0 0 1), (3, .ptr 1 0 1), (4, .ptr 2 0 1), (6, .ptr 3 0 1)] none, .cells (rowI e2 w5) 0, .hole, .cells (rowI e2 w5) 0, .cells (rowI e3 (List.replicate (Int.toNat w2) (0 : Int))) 1]⟩ : St)) (Eq.symm (List.length_replicate : List.length (List.replicate (Int.toNat w2) (0 : Int)) = (Int.toNat w2))))))) trivial))))))))))))))))) (by kernel_rfl)) (Weak.sel (E := []) (E' := []) (H := [.cells [.msl 7 0 (List.length y3) (List.length (rowI e3 y3)) true] 0, .cells [.p (.int .i64 0)] 0, .cells [.p (.ref [.int .i64 w2, .sl (List.map e62 w2_1) false])] 0, .cells [.p (.fn 46 [.ref [.int .i64 w3, .sl (List.map e62 w3_1) false]] [])] 0, .loop 1 R15_1_0_1_1_1_1_0_1_0 [(2, .ptr 0 0 1), (3, .ptr 1 0 1), (4, .ptr 2 0 1), (6, .ptr 3 0 1)] none, .cells (rowI e2 w5) 0, .hole, .cells (rowI e3 y3) 1]) (H' := [.cells [.msl 6 0 (List.length y3) (List.length (rowI e3 y3)) true] 0, .cells [.p (.int .i64 0)] 0, .cells [.p (.ref [.int .i64 w2, .sl (List.map e62 w2_1) false])] 0, .cells [.p (.fn 46 [.ref [.int .i64 w3, .sl (List.map e62 w3_1) false]] [])] 0, .loop 1 R15_1_0_1_1_1_1_0_1_0 [(2, .ptr 0 0 1), (3, .ptr 1 0 1), (4, .ptr 2 0 1), (6, .ptr 3 0 1)] none, .cells (rowI e2 w5) 0, .cells (rowI e3 y3) 1]) [0, 1, 2, 3, 4, 5, 7] (selH_cons (o := .cells [.msl 7 0 (List.length y3) (List.length (rowI e3 y3)) true] 0) (o' := .cells [.msl 6 0 (List.length y3) (List.length (rowI e3 y3)) true] 0) (by kernel_rfl) (sel_x (by kernel_rfl)) (selH_cons (o := .cells [.p (.int .i64 0)] 0) (o' := .cells [.p (.int .i64 0)] 0) (by kernel_rfl) (sel_x (by kernel_rfl)) (selH_cons (o := .cells [.p (.ref [.int .i64 w2, .sl (List.map e62 w2_1) false])] 0) (o' := .cells [.p (.ref [.int .i64 w2, .sl (List.map e62 w2_1) false])] 0) (by kernel_rfl) (sel_x (by kernel_rfl)) (selH_cons (o := .cells [.p (.fn 46 [.ref [.int .i64 w3, .sl (List.map e62 w3_1) false]] [])] 0) (o' := .cells [.p (.fn 46 [.ref [.int .i64 w3, .sl (List.map e62 w3_1) false]] [])] 0) (by kernel_rfl) (sel_x (by kernel_rfl)) (selH_cons (o := .loop 1 R15_1_0_1_1_1_1_0_1_0 [(2, .ptr 0 0 1), (3, .ptr 1 0 1), (4, .ptr 2 0 1), (6, .ptr 3 0 1)] none) (o' := .loop 1 R15_1_0_1_1_1_1_0_1_0 [(2, .ptr 0 0 1), (3, .ptr 1 0 1), (4, .ptr 2 0 1), (6, .ptr 3 0 1)] none) (by kernel_rfl) (sel_loop (by kernel_rfl)) (selH_cons (o := .cells (rowI e2 w5) 0) (o' := .cells (rowI e2 w5) 0) (by kernel_rfl) sel_row (selH_cons (o := .cells (rowI e3 y3) 1) (o' := .cells (rowI e3 y3) 1) (by kernel_rfl) sel_row trivial))))))) (by kernel_rfl) (by kernel_rfl))) (by kernel_rfl) (by kernel_rfl : _ = (.p (.bool false), [.cells [.msl 6 0 (List.length y3) (List.length (rowI e3 y3)) true] 0, .cells [.p (.int .i64 0)] 0, .cells [.p (.ref [.int .i64 w2, .sl (List.map e62 w2_1) false])] 0, .cells [.p (.fn 46 [.ref [.int .i64 w3, .sl (List.map e62 w3_1) false]] [])] 0, .loop 2 R15_1_0_1_1_1_1_0_1_0 [(2, .ptr 0 0 1), (3, .ptr 1 0 1), (4, .ptr 2 0 1), (6, .ptr 3 0 1)] (some .ret), .cells (rowI e2 w5) 0, .cells (rowI e3 y3) 1]))) trivial)) (by kernel_rfl)) (Weak.sel (E := []) (E' := []) (H := [.cells [.msl 6 0 (List.length y3) (List.length (rowI e3 y3)) true] 0, .cells [.p (.int .i64 0)] 0, .cells [.p (.ref [.int .i64 w2, .sl (List.map e62 w2_1) false])] 0, .cells [.p (.fn 46 [.ref [.int .i64 w3, .sl (List.map e62 w3_1) false]] [])] 0, .loop 2 R15_1_0_1_1_1_1_0_1_0 [(2, .ptr 0 0 1), (3, .ptr 1 0 1), (4, .ptr 2 0 1), (6, .ptr 3 0 1)] (some .ret), .cells (rowI e2 w5) 0, .cells (rowI e3 y3) 1]) (H' := [.cells [.msl 5 0 (List.length y3) (List.length (rowI e3 y3)) true] 0, .cells [.p (.int .i64 0)] 0, .cells [.p (.ref [.int .i64 w2, .sl (List.map e62 w2_1) false])] 0, .cells [.p (.fn 46 [.ref [.int .i64 w3, .sl (List.map e62 w3_1) false]] [])] 0, .loop 2 R15_1_0_1_1_1_1_0_1_0 [(2, .ptr 0 0 1), (3, .ptr 1 0 1), (4, .ptr 2 0 1), (6, .ptr 3 0 1)] (some .ret), .cells (rowI e3 y3) 1]) [0, 1, 2, 3, 4, 6] (selH_cons (o := .cells [.msl 6 0 (List.length y3) (List.length (rowI e3 y3)) true] 0) (o' := .cells [.msl 5 0 (List.length y3) (List.length (rowI e3 y3)) true] 0) (by kernel_rfl) (sel_x (by kernel_rfl)) (selH_cons (o := .cells [.p (.int .i64 0)] 0) (o' := .cells [.p (.int .i64 0)] 0) (by kernel_rfl) (sel_x (by kernel_rfl)) (selH_cons (o := .cells [.p (.ref [.int .i64 w2, .sl (List.map e62 w2_1) false])] 0) (o' := .cells [.p (.ref [.int .i64 w2, .sl (List.map e62 w2_1) false])] 0) (by kernel_rfl) (sel_x (by kernel_rfl)) (selH_cons (o := .cells [.p (.fn 46 [.ref [.int .i64 w3, .sl (List.map e62 w3_1) false]] [])] 0) (o' := .cells [.p (.fn 46 [.ref [.int .i64 w3, .sl (List.map e62 w3_1) false]] [])] 0) (by kernel_rfl) (sel_x (by kernel_rfl)) (selH_cons (o := .loop 2 R15_1_0_1_1_1_1_0_1_0 [(2, .ptr 0 0 1), (3, .ptr 1 0 1), (4, .ptr 2 0 1), (6, .ptr 3 0 1)] (some .ret)) (o' := .loop 2 R15_1_0_1_1_1_1_0_1_0 [(2, .ptr 0 0 1), (3, .ptr 1 0 1), (4, .ptr 2 0 1), (6, .ptr 3 0 1)] (some .ret)) (by kernel_rfl) (sel_loop (by kernel_rfl)) (selH_cons (o := .cells (rowI e3 y3) 1) (o' := .cells (rowI e3 y3) 1) (by kernel_rfl) sel_row trivial)))))) (by kernel_rfl) (by kernel_rfl))) (by simp)) (by kernel_rfl) (by kernel_rfl)
def G64  (fuel : Nat) (p1 : Int) (p1_1 : (List (Int × Int))) (w1 : Int) (w2 : Int) (w2_1 : (List (Int × Int))) (w3 : Int) (w3_1 : (List (Int × Int))) : Option (Unit ⊕ (List Int)) :=
  (obind (L64_0 p1 p1_1 w1 w2 w2_1 w3 w3_1 fuel (List.replicate 8 (0 : Int))) fun y1 => match y1 with
  | .inl y1 => some (.inl ())
  | .inr (y1) => some (.inr (y1)))
noncomputable def G64_post (p1 : Int) (p1_1 : (List (Int × Int))) (w1 : Int) (w2 : Int) (w2_1 : (List (Int × Int))) (w3 : Int) (w3_1 : (List (Int × Int)))  : (Unit ⊕ (List Int)) → IV × List MObj
  | .inl y => (.tup [], [.cells [.p (.nilsl)] 0, .cells [.p (.int .i64 w1)] 0, .cells [.p (.ref [.int .i64 w2, .sl (List.map e62 w2_1) false])] 0, .cells [.p (.fn 46 [.ref [.int .i64 w3, .sl (List.map e62 w3_1) false]] [])] 0, .loop 0 R15_1_0_1_1_1_1_0_1_0 [(2, .ptr 0 0 1), (3, .ptr 1 0 1), (4, .ptr 2 0 1), (6, .ptr 3 0 1)] none])
  | .inr (y) => (.tup [], [.cells [.msl 5 0 (List.length y) (List.length (rowI e3 y)) true] 0, .cells [.p (.int .i64 0)] 0, .cells [.p (.ref [.int .i64 w2, .sl (List.map e62 w2_1) false])] 0, .cells [.p (.fn 46 [.ref [.int .i64 w3, .sl (List.map e62 w3_1) false]] [])] 0, .loop 2 R15_1_0_1_1_1_1_0_1_0 [(2, .ptr 0 0 1), (3, .ptr 1 0 1), (4, .ptr 2 0 1), (6, .ptr 3 0 1)] (some .ret), .cells (rowI e3 y) 1])
theorem G64_ok  (fuel : Nat) (p1 : Int) (p1_1 : (List (Int × Int))) (w1 : Int) (w2 : Int) (w2_1 : (List (Int × Int))) (w3 : Int) (w3_1 : (List (Int × Int)))  (r : (Unit ⊕ (List Int))) (h : G64 fuel p1 p1_1 w1 w2 w2_1 w3 w3_1 = some r) : CallI prog 64 [.yld 4, .p (.ref [.ref [.int .i64 p1, .sl (List.map e62 p1_1) false]])] [.cells [.p (.nilsl)] 0, .cells [.p (.int .i64 w1)] 0, .cells [.p (.ref [.int .i64 w2, .sl (List.map e62 w2_1) false])] 0, .cells [.p (.fn 46 [.ref [.int .i64 w3, .sl (List.map e62 w3_1) false]] [])] 0, .loop 0 R15_1_0_1_1_1_1_0_1_0 [(2, .ptr 0 0 1), (3, .ptr 1 0 1), (4, .ptr 2 0 1), (6, .ptr 3 0 1)] none] (G64_post p1 p1_1 w1 w2 w2_1 w3 w3_1 r).1 (G64_post p1 p1_1 w1 w2 w2_1 w3 w3_1 r).2 := by
  unfold G64 at h
  refine obind_elim h fun y h1 g1 => ?_
  match y, h1, g1 with
  | .inl y1, h1, g1 =>
    have hr := Option.some.inj g1
    subst hr
    exact CallI.cast (callI_of is64 (by kernel_rfl) (m := 5) (by kernel_rfl) (e := .ret) (vs := []) (path hm (ks := []) (σ' := ⟨[], [.cells [.p (.nilsl)] 0, .cells [.p (.int .i64 w1)] 0, .cells [.p (.ref [.int .i64 w2, .sl (List.map e62 w2_1) false])] 0, .cells [.p (.fn 46 [.ref [.int .i64 w3, .sl (List.map e62 w3_1) false]] [])] 0, .loop 0 R15_1_0_1_1_1_1_0_1_0 [(2, .ptr 0 0 1), (3, .ptr 1 0 1), (4, .ptr 2 0 1), (6, .ptr 3 0 1)] none]⟩) (cc := [.reg [] [] 1 [(0, some 5, .a)] [0, 1, 3], .leaf .ret ⟨[], [.cells [.p (.nilsl)] 0, .cells [.p (.int .i64 w1)] 0, .cells [.p (.ref [.int .i64 w2, .sl (List.map e62 w2_1) false])] 0, .cells [.p (.fn 46 [.ref [.int .i64 w3, .sl (List.map e62 w3_1) false]] [])] 0, .loop 0 R15_1_0_1_1_1_1_0_1_0 [(2, .ptr 0 0 1), (3, .ptr 1 0 1), (4, .ptr 2 0 1), (6, .ptr 3 0 1)] none]⟩])
      (ai (SemJ.loop (L64_0_ok p1 p1_1 w1 w2 w2_1 w3 w3_1 fuel (List.replicate 8 (0 : Int)) _ h1)) trivial) (by kernel_rfl)) rfl (show True from trivial) (by kernel_rfl)) (by kernel_rfl)
  | .inr (y1), h1, g1 =>
    have hr := Option.some.inj g1
    subst hr
    exact CallI.cast (callI_of is64 (by kernel_rfl) (m := 5) (by kernel_rfl) (e := .ret) (vs := []) (path hm (ks := []) (σ' := ⟨[], [.cells [.msl 5 0 (List.length y1) (List.length (rowI e3 y1)) true] 0, .cells [.p (.int .i64 0)] 0, .cells [.p (.ref [.int .i64 w2, .sl (List.map e62 w2_1) false])] 0, .cells [.p (.fn 46 [.ref [.int .i64 w3, .sl (List.map e62 w3_1) false]] [])] 0, .loop 2 R15_1_0_1_1_1_1_0_1_0 [(2, .ptr 0 0 1), (3, .ptr 1 0 1), (4, .ptr 2 0 1), (6, .ptr 3 0 1)] (some .ret), .cells (rowI e3 y1) 1]⟩) (cc := [.reg [] [] 1 [(0, some 5, .a)] [0, 1, 3], .leaf .ret ⟨[], [.cells [.msl 5 0 (List.length y1) (List.length (rowI e3 y1)) true] 0, .cells [.p (.int .i64 0)] 0, .cells [.p (.ref [.int .i64 w2, .sl (List.map e62 w2_1) false])] 0, .cells [.p (.fn 46 [.ref [.int .i64 w3, .sl (List.map e62 w3_1) false]] [])] 0, .loop 2 R15_1_0_1_1_1_1_0_1_0 [(2, .ptr 0 0 1), (3, .ptr 1 0 1), (4, .ptr 2 0 1), (6, .ptr 3 0 1)] (some .ret), .cells (rowI e3 y1) 1]⟩])
      (ai (SemJ.loop (L64_0_ok p1 p1_1 w1 w2 w2_1 w3 w3_1 fuel (List.replicate 8 (0 : Int)) _ h1)) trivial) (by kernel_rfl)) rfl (show True from trivial) (by kernel_rfl)) (by kernel_rfl)
def F15  (fuel : Nat) (p0 : (Int × (List (Int × Int)))) : Option ((List Int) × Int) :=
  (obind (F39 fuel (p0.1, p0.2)) fun y1 => match y1 with
  | .inl y1 => oif ((y1 != 0))
    (some ([], y1))
    (none)
  | .inr (y1) => obind (F47 fuel ((p0.1, p0.2).1, (p0.1, p0.2).2)) fun y2 => (obind (G64 fuel (((p0.1, p0.2).1, (p0.1, p0.2).2).1) (((p0.1, p0.2).1, (p0.1, p0.2).2).2) 0 ((p0.1, p0.2).1) ((p0.1, p0.2).2) ((p0.1, p0.2).1) ((p0.1, p0.2).2)) fun y3 => match y3 with
    | .inl y3 => some ([], 5)
    | .inr (y3) => some (y3, 0)))
theorem F15_ok  (fuel : Nat) (p0 : (Int × (List (Int × Int))))  (r : ((List Int) × Int)) (h : F15 fuel p0 = some r) : CallP prog 15 [.agg [.int .i64 p0.1, .sl (List.map e62 p0.2) false]] (.tup [.sl (List.map e3 r.1) false, .int .i64 r.2]) := by
  unfold F15 at h
  let c21 : List CC := [.reg [] [] 2 [(0, none, .imm), (1, some 0, .a), (2, some 1, .a)] [1, 2, 3]]
  refine obind_elim h fun y h1 g1 => ?_
  match y, h1, g1 with
  | .inl y1, h1, g1 =>
    refine oif_elim g1 (fun h2 g2 => ?_) (fun h2 g2 => ?_)
    · have hr := Option.some.inj g2
      subst hr
      exact callP_of is15 rfl (path hm (ks := [2, 3]) (σ' := ⟨[(2, .ptr 0 0 1), (3, .ptr 1 0 1)], [.cells [.p (.nilsl)] 0, .cells [.p (.int .i64 y1)] 0, .cells [.p (.nilp)] 0]⟩) (cc := c21 ++ [.reg [] [] 1 [(1, none, .call (.tup [.nilp, .int .i64 y1])), (5, some 2, .a)] [2, 3, 4, 5], .reg [] [] 0 [(1, none, .b true)] [2, 3, 4, 5, 16], .reg [] [] 0 [] [2, 3]])
      (ai (F39_ok fuel (p0.1, p0.2) _ h1) (ai h2 trivial)) (by kernel_rfl)) (e := .ret) rfl (vs := [.p (.nilsl), .p (.int .i64 y1)]) (ai (rfl : (1:Nat) = 1) (ai (rfl : (1:Nat) = 1) trivial)) (by kernel_rfl) (.tup _ _ (.cons _ _ _ _ (.p _ _ (.nil _)) (.cons _ _ _ _ (.p _ _ (.refl _)) .nil)))
    · exact nomatch g2
  | .inr (y1), h1, g1 =>
    refine obind_elim g1 fun y2 h2 g2 => ?_
    let c22 : List CC := c21 ++ [.reg [] [] 1 [(1, none, .call (.tup [.ref [.int .i64 ((p0.1, p0.2).1), .sl (List.map e62 ((p0.1, p0.2).2)) false], .int .i64 0])), (5, some 2, .a)] [2, 3, 4, 5], .reg [] [] 0 [] [2, 3, 4, 5, 16], .reg [] [] 1 [(2, some 3, .a)] [2, 3, 4, 6], .reg [] [] 0 [(1, none, .call (.fn 64 [] [.ref [.ref [.int .i64 (((p0.1, p0.2).1, (p0.1, p0.2).2).1), .sl (List.map e62 (((p0.1, p0.2).1, (p0.1, p0.2).2).2)) false]]]))] [2, 3, 4, 6, 21]]
    refine obind_elim g2 fun y h3 g3 => ?_
    match y, h3, g3 with
    | .inl y3, h3, g3 =>
      have hr := Option.some.inj g3
      subst hr
      exact callP_of is15 rfl (path hm (ks := [2, 3]) (σ' := ⟨[(2, .ptr 0 0 1), (3, .ptr 1 0 1)], [.cells [.p (.nilsl)] 0, .cells [.p (.int .i64 5)] 0, .cells [.p (.ref [.int .i64 ((p0.1, p0.2).1), .sl (List.map e62 ((p0.1, p0.2).2)) false])] 0, .cells [.p (.fn 46 [.ref [.int .i64 ((p0.1, p0.2).1), .sl (List.map e62 ((p0.1, p0.2).2)) false]] [])] 0, .dead]⟩) (cc := c22 ++ [.leaf .normal ⟨[(2, .ptr 0 0 1), (3, .ptr 1 0 1), (4, .ptr 2 0 1), (6, .ptr 3 0 1), (21, .p (.fn 64 [] [.ref [.ref [.int .i64 (((p0.1, p0.2).1, (p0.1, p0.2).2).1), .sl (List.map e62 (((p0.1, p0.2).1, (p0.1, p0.2).2).2)) false]]]))], [.cells [.p (.nilsl)] 0, .cells [.p (.int .i64 0)] 0, .cells [.p (.ref [.int .i64 ((p0.1, p0.2).1), .sl (List.map e62 ((p0.1, p0.2).2)) false])] 0, .cells [.p (.fn 46 [.ref [.int .i64 ((p0.1, p0.2).1), .sl (List.map e62 ((p0.1, p0.2).2)) false]] [])] 0, .dead]⟩, .reg [] [] 0 [] [2, 3]])
      (ai (F39_ok fuel (p0.1, p0.2) _ h1) (ai (F47_ok fuel ((p0.1, p0.2).1, (p0.1, p0.2).2) _ h2) (ai (range_of (P := prog) (nt := 57) (m := 0) (n := 4) (c := codeAt [1, 0, 1, 1, 1, 1, 0, 1, 0] (bodyOf f15)) (σ := ⟨[(2, .ptr 0 0 1), (3, .ptr 1 0 1), (4, .ptr 2 0 1), (6, .ptr 3 0 1), (21, .p (.fn 64 [] [.ref [.ref [.int .i64 (((p0.1, p0.2).1, (p0.1, p0.2).2).1), .sl (List.map e62 (((p0.1, p0.2).1, (p0.1, p0.2).2).2)) false]]]))], [.cells [.p (.nilsl)] 0, .cells [.p (.int .i64 0)] 0, .cells [.p (.ref [.int .i64 ((p0.1, p0.2).1), .sl (List.map e62 ((p0.1, p0.2).2)) false])] 0, .cells [.p (.fn 46 [.ref [.int .i64 ((p0.1, p0.2).1), .sl (List.map e62 ((p0.1, p0.2).2)) false]] [])] 0]⟩) (f := 64) (args := [.yld 4, .p (.ref [.ref [.int .i64 (((p0.1, p0.2).1, (p0.1, p0.2).2).1), .sl (List.map e62 (((p0.1, p0.2).1, (p0.1, p0.2).2).2)) false]])]) (H3 := [.cells [.p (.nilsl)] 0, .cells [.p (.int .i64 0)] 0, .cells [.p (.ref [.int .i64 ((p0.1, p0.2).1), .sl (List.map e62 ((p0.1, p0.2).2)) false])] 0, .cells [.p (.fn 46 [.ref [.int .i64 ((p0.1, p0.2).1), .sl (List.map e62 ((p0.1, p0.2).2)) false]] [])] 0, .dead]) (e := .normal) (s := 0) (R := R15_1_0_1_1_1_1_0_1_0) (R' := R15_1_0_1_1_1_1_0_1_0) (env' := [(2, .ptr 0 0 1), (3, .ptr 1 0 1), (4, .ptr 2 0 1), (6, .ptr 3 0 1)]) [2, 3, 4, 6] (by kernel_rfl) (by kernel_rfl) (by kernel_rfl) (by kernel_rfl) (G64_ok fuel (((p0.1, p0.2).1, (p0.1, p0.2).2).1) (((p0.1, p0.2).1, (p0.1, p0.2).2).2) 0 ((p0.1, p0.2).1) ((p0.1, p0.2).2) ((p0.1, p0.2).1) ((p0.1, p0.2).2) _ h3) (by kernel_rfl) rfl (by kernel_rfl)) trivial))) (by kernel_rfl)) (e := .ret) rfl (vs := [.p (.nilsl), .p (.int .i64 5)]) (ai (rfl : (1:Nat) = 1) (ai (rfl : (1:Nat) = 1) trivial)) (by kernel_rfl) (.tup _ _ (.cons _ _ _ _ (.p _ _ (.nil _)) (.cons _ _ _ _ (.p _ _ (.refl _)) .nil)))
    | .inr (y3), h3, g3 =>
      have hr := Option.some.inj g3
      subst hr
      exact callP_of is15 rfl (path hm (ks := [2, 3]) (σ' := ⟨[(2, .ptr 0 0 1), (3, .ptr 1 0 1)], [.cells [.msl 5 0 (List.length y3) (List.length (rowI e3 y3)) true] 0, .cells [.p (.int .i64 0)] 0, .cells [.p (.ref [.int .i64 ((p0.1, p0.2).1), .sl (List.map e62 ((p0.1, p0.2).2)) false])] 0, .cells [.p (.fn 46 [.ref [.int .i64 ((p0.1, p0.2).1), .sl (List.map e62 ((p0.1, p0.2).2)) false]] [])] 0, .dead, .cells (rowI e3 y3) 1]⟩) (cc := c22 ++ [.leaf .ret ⟨[(2, .ptr 0 0 1), (3, .ptr 1 0 1), (4, .ptr 2 0 1), (6, .ptr 3 0 1), (21, .p (.fn 64 [] [.ref [.ref [.int .i64 (((p0.1, p0.2).1, (p0.1, p0.2).2).1), .sl (List.map e62 (((p0.1, p0.2).1, (p0.1, p0.2).2).2)) false]]]))], [.cells [.msl 5 0 (List.length y3) (List.length (rowI e3 y3)) true] 0, .cells [.p (.int .i64 0)] 0, .cells [.p (.ref [.int .i64 ((p0.1, p0.2).1), .sl (List.map e62 ((p0.1, p0.2).2)) false])] 0, .cells [.p (.fn 46 [.ref [.int .i64 ((p0.1, p0.2).1), .sl (List.map e62 ((p0.1, p0.2).2)) false]] [])] 0, .dead, .cells (rowI e3 y3) 1]⟩])
      (ai (F39_ok fuel (p0.1, p0.2) _ h1) (ai (F47_ok fuel ((p0.1, p0.2).1, (p0.1, p0.2).2) _ h2) (ai (range_of (P := prog) (nt := 57) (m := 0) (n := 4) (c := codeAt [1, 0, 1, 1, 1, 1, 0, 1, 0] (bodyOf f15)) (σ := ⟨[(2, .ptr 0 0 1), (3, .ptr 1 0 1), (4, .ptr 2 0 1), (6, .ptr 3 0 1), (21, .p (.fn 64 [] [.ref [.ref [.int .i64 (((p0.1, p0.2).1, (p0.1, p0.2).2).1), .sl (List.map e62 (((p0.1, p0.2).1, (p0.1, p0.2).2).2)) false]]]))], [.cells [.p (.nilsl)] 0, .cells [.p (.int .i64 0)] 0, .cells [.p (.ref [.int .i64 ((p0.1, p0.2).1), .sl (List.map e62 ((p0.1, p0.2).2)) false])] 0, .cells [.p (.fn 46 [.ref [.int .i64 ((p0.1, p0.2).1), .sl (List.map e62 ((p0.1, p0.2).2)) false]] [])] 0]⟩) (f := 64) (args := [.yld 4, .p (.ref [.ref [.int .i64 (((p0.1, p0.2).1, (p0.1, p0.2).2).1), .sl (List.map e62 (((p0.1, p0.2).1, (p0.1, p0.2).2).2)) false]])]) (H3 := [.cells [.msl 5 0 (List.length y3) (List.length (rowI e3 y3)) true] 0, .cells [.p (.int .i64 0)] 0, .cells [.p (.ref [.int .i64 ((p0.1, p0.2).1), .sl (List.map e62 ((p0.1, p0.2).2)) false])] 0, .cells [.p (.fn 46 [.ref [.int .i64 ((p0.1, p0.2).1), .sl (List.map e62 ((p0.1, p0.2).2)) false]] [])] 0, .dead, .cells (rowI e3 y3) 1]) (e := .ret) (s := 2) (R := R15_1_0_1_1_1_1_0_1_0) (R' := R15_1_0_1_1_1_1_0_1_0) (env' := [(2, .ptr 0 0 1), (3, .ptr 1 0 1), (4, .ptr 2 0 1), (6, .ptr 3 0 1)]) [2, 3, 4, 6] (by kernel_rfl) (by kernel_rfl) (by kernel_rfl) (by kernel_rfl) (G64_ok fuel (((p0.1, p0.2).1, (p0.1, p0.2).2).1) (((p0.1, p0.2).1, (p0.1, p0.2).2).2) 0 ((p0.1, p0.2).1) ((p0.1, p0.2).2) ((p0.1, p0.2).1) ((p0.1, p0.2).2) _ h3) (by kernel_rfl) rfl (by kernel_rfl)) trivial))) (by kernel_rfl)) (e := .ret) rfl (vs := [.msl 5 0 (List.length y3) (List.length (rowI e3 y3)) true, .p (.int .i64 0)]) (ai (rfl : (1:Nat) = 1) (ai (rfl : (1:Nat) = 1) trivial)) (by kernel_rfl) (.tup _ _ (.cons _ _ _ _ (snap_row (g := 1) (L := y3) el3 (by kernel_rfl) (rl (List.length (rowI e3 y3))) (rl (List.length y3))) (.cons _ _ _ _ (.p _ _ (.refl _)) .nil)))
def F19  (fuel : Nat) (p0 : (Int × (List (Int × Int)))) : Option Int :=
  obind (F15 fuel (p0.1, p0.2)) fun r1 => oif ((r1.2 == 0))
  (some 23)
  (oif ((r1.2 == 5))
    (some 0)
    (some r1.2))
theorem F19_ok  (fuel : Nat) (p0 : (Int × (List (Int × Int))))  (r : Int) (h : F19 fuel p0 = some r) : CallP prog 19 [.agg [.int .i64 p0.1, .sl (List.map e62 p0.2) false]] (.int .i64 r) := by
  unfold F19 at h
  refine obind_elim h fun r1 h1 g1 => ?_
  let c23 : List CC := [.reg [] [] 0 [(0, none, .imm)] [1], .reg [] [] 0 [(1, none, .call (.tup [.sl (List.map e3 r1.1) false, .int .i64 r1.2]))] [4], .reg [] [] 0 [] [4, 10]]
  refine oif_elim g1 (fun h2 g2 => ?_) (fun h2 g2 => ?_)
  · have hr := Option.some.inj g2
    subst hr
    exact callP_of is19 rfl (path hm (ks := [2]) (σ' := ⟨[(2, .p (.int .i64 23))], []⟩) (cc := c23 ++ [.reg [] [] 0 [(0, none, .b true)] [4, 10, 11], .reg [] [] 0 [] [2]])
      (ai (F15_ok fuel (p0.1, p0.2) _ h1) (ai h2 trivial)) (by kernel_rfl)) (e := .ret) rfl (vs := [.p (.int .i64 23)]) trivial (by kernel_rfl) (.p _ _ (.refl _))
  · refine oif_elim g2 (fun h3 g3 => ?_) (fun h3 g3 => ?_)
    · have hr := Option.some.inj g3
      subst hr
      exact callP_of is19 rfl (path hm (ks := [2]) (σ' := ⟨[(2, .p (.int .i64 0))], []⟩) (cc := c23 ++ [.reg [] [] 0 [(0, none, .b false)] [4, 10, 11], .reg [] [] 0 [(0, none, .b true)] [4, 13], .reg [] [] 0 [] [2]])
      (ai (F15_ok fuel (p0.1, p0.2) _ h1) (ai h2 (ai h3 trivial))) (by kernel_rfl)) (e := .ret) rfl (vs := [.p (.int .i64 0)]) trivial (by kernel_rfl) (.p _ _ (.refl _))
    · have hr := Option.some.inj g3
      subst hr
      exact callP_of is19 rfl (path hm (ks := [2]) (σ' := ⟨[(2, .p (.int .i64 r1.2))], []⟩) (cc := c23 ++ [.reg [] [] 0 [(0, none, .b false)] [4, 10, 11], .reg [] [] 0 [(0, none, .b false)] [4, 13], .reg [] [] 0 [] [2]])
      (ai (F15_ok fuel (p0.1, p0.2) _ h1) (ai h2 (ai h3 trivial))) (by kernel_rfl)) (e := .ret) rfl (vs := [.p (.int .i64 r1.2)]) trivial (by kernel_rfl) (.p _ _ (.refl _))
def F36  (fuel : Nat) (p0 : (List Int)) : Option (List Int) :=
  some p0
theorem F36_ok  (fuel : Nat) (p0 : (List Int)) (fp0 : Bool) (r : (List Int)) (h : F36 fuel p0 = some r) : CallP prog 36 [.sl (List.map e3 p0) fp0] (.sl (List.map e3 r) false) := by
  unfold F36 at h
  have hr := Option.some.inj h
  subst hr
  exact callP_of is36 rfl (path hm (ks := [2]) (σ' := ⟨[(2, .p (.sl (List.map e3 p0) fp0))], []⟩) (cc := [.reg [] [] 0 [] [0], .reg [] [] 0 [] [2]])
      trivial (by kernel_rfl)) (e := .ret) rfl (vs := [.p (.sl (List.map e3 p0) fp0)]) trivial (by kernel_rfl) (.p _ _ (.flag _ _ _ (fun h => nomatch h)))
def L21_0  (v5 : Int) (v5_1 : (List (Int × Int))) (v32 : (List Int)) (v33 : Int) : Nat → Int → (List Int) → Option (List Int)
  | 0, _, _ => none
  | fuel + 1, v34, w0 =>
    oif ((decide (v34 < v33)))
    (obind (sg v32 v34) fun x1 => oif (decide ((0:Int) ≤ v34)) (oif (decide ((v34 : Int) < ((8 : Nat) : Int))) (obind (stL w0 v34 x1) fun x2 => L21_0 v5 v5_1 v32 v33 fuel (IntKind.wrap .i64 (v34 + 1)) x2) none) none)
    (some (w0))
noncomputable def L21_0_post (v5 : Int) (v5_1 : (List (Int × Int))) (v32 : (List Int)) (v33 : Int) (fp1 : Bool) : (List Int) → Ex × St
  | y => ((.exit 1), ⟨[(5, .p (.ref [.int .i64 v5, .sl (List.map e62 v5_1) false])), (7, .ptr 0 0 (List.length (rowI e2 y)))], [.cells (rowI e2 y) 0]⟩)
theorem L21_0_ok  (v5 : Int) (v5_1 : (List (Int × Int))) (v32 : (List Int)) (v33 : Int) (fp1 : Bool) : ∀ (fuel : Nat) (v34 : Int) (w0 : (List Int)) (r : (List Int)), L21_0 v5 v5_1 v32 v33 fuel v34 w0 = some r →
    SemJ prog ⟨54, 0, false⟩ (codeAt [1, 1, 1, 1, 0, 1, 0, 0] (bodyOf f21)) ⟨[(5, .p (.ref [.int .i64 v5, .sl (List.map e62 v5_1) false])), (7, .ptr 0 0 (List.length (rowI e2 w0))), (32, .p (.sl (List.map e3 v32) fp1)), (33, .p (.int .i64 v33)), (34, .p (.int .i64 v34))], [.cells (rowI e2 w0) 0]⟩ (L21_0_post v5 v5_1 v32 v33 fp1 r).1 (L21_0_post v5 v5_1 v32 v33 fp1 r).2
  | 0, _, _, _, h => nomatch h
  | fuel + 1, v34, w0, r, h => by
    unfold L21_0 at h
    refine oif_elim h (fun h1 g1 => ?_) (fun h1 g1 => ?_)
    · refine obind_elim g1 fun x1 h2 g2 => ?_
      refine oif_elim g2 (fun h3 g3 => ?_) (fun _ h => nomatch h)
      refine oif_elim g3 (fun h4 g4 => ?_) (fun _ h => nomatch h)
      refine obind_elim g4 fun x2 h5 g5 => ?_
      exact SemJ.again (σ1 := ⟨[(5, .p (.ref [.int .i64 v5, .sl (List.map e62 v5_1) false])), (7, .ptr 0 0 (List.length (rowI e2 x2))), (32, .p (.sl (List.map e3 v32) fp1)), (33, .p (.int .i64 v33)), (34, .p (.int .i64 (IntKind.wrap .i64 (v34 + 1))))], [.cells (rowI e2 x2) 0]⟩) (SemC.post (path hm (σ' := ⟨[(5, .p (.ref [.int .i64 v5, .sl (List.map e62 v5_1) false])), (7, .ptr 0 0 (List.length (rowI e2 w0))), (32, .p (.sl (List.map e3 v32) fp1)), (33, .p (.int .i64 v33)), (34, .p (.int .i64 (IntKind.wrap .i64 (v34 + 1))))], [.cells (rowI e2 x2) 0]⟩) (ks := [5, 7, 32, 33, 34]) (cc := [.reg [] [] 0 [(0, none, .b true)] [5, 7, 32, 33, 34, 35], .reg [] [] 0 [(1, none, .iv (.p (.int .i64 x1)))] [5, 7, 8, 9, 32, 33, 34], .reg [] [] 0 [(3, none, .cs (rowI e2 x2))] [5, 7, 32, 33, 34], .reg [] [] 0 [] [5, 7, 32, 33, 34]])
        (ai h1 (ai (sg_map (f := e3) h2) (ai (od h3) (ai (od h4) (ai (rl (List.length (rowI e2 w0))) (ai (Nat.le_trans (row_fit el2 (stL_0 h5) (stL_lt h5)) (Nat.le_of_eq (rl (List.length (rowI e2 w0))))) (ai (row_put el2 h5) trivial))))))) (by kernel_rfl)) (Weak.eq (congrArg (fun ZZ : Nat => (⟨[(5, .p (.ref [.int .i64 v5, .sl (List.map e62 v5_1) false])), (7, .ptr 0 0 ZZ), (32, .p (.sl (List.map e3 v32) fp1)), (33, .p (.int .i64 v33)), (34, .p (.int .i64 (IntKind.wrap .i64 (v34 + 1))))], [.cells (rowI e2 x2) 0]⟩ : St)) (Eq.symm ((row_setlen el2 h5).trans (rl (List.length (rowI e2 w0)))))))) (L21_0_ok v5 v5_1 v32 v33 fp1 fuel (IntKind.wrap .i64 (v34 + 1)) x2 _ g5)
    · have hr := Option.some.inj g1
      subst hr
      exact SemC.cast (SemJ.out (e := (.exit 1)) (path hm (σ' := ⟨[(5, .p (.ref [.int .i64 v5, .sl (List.map e62 v5_1) false])), (7, .ptr 0 0 (List.length (rowI e2 w0)))], [.cells (rowI e2 w0) 0]⟩) (ks := [5, 7]) (cc := [.reg [] [] 0 [(0, none, .b false)] [5, 7, 32, 33, 34, 35]])
        (ai h1 trivial) (by kernel_rfl)) (by simp)) (by kernel_rfl) (by kernel_rfl)
def F21  (fuel : Nat) (p0 : (Int × (List (Int × Int)))) (p1 : (List Int)) : Option Int :=
  (obind (F39 fuel (p0.1, p0.2)) fun y1 => match y1 with
  | .inl y1 => oif ((y1 != 0))
    (some y1)
    (none)
  | .inr (y1) => oif (((p1.length : Int) != (p0.1, p0.2).1))
    (some 15)
    (obind (F44 fuel 0 1 p1) fun r2 => oif (r2)
      (obind (L21_0 ((p0.1, p0.2).1) ((p0.1, p0.2).2) p1 (p1.length : Int) fuel 0 (List.replicate 8 (0 : Int))) fun y3 => oif (decide (List.length y3 = 8)) (obind (F40 fuel (((p0.1, p0.2).1), ((p0.1, p0.2).2)) y3 (((p0.1, p0.2).2).length : Int)) fun r4 => obind (F46 fuel (((p0.1, p0.2).1), ((p0.1, p0.2).2)) r4) fun r5 => oif (r5)
        (some 5)
        (some 0)) none)
      (some 3)))
theorem F21_ok  (fuel : Nat) (p0 : (Int × (List (Int × Int)))) (p1 : (List Int)) (fp1 : Bool) (r : Int) (h : F21 fuel p0 p1 = some r) : CallP prog 21 [.agg [.int .i64 p0.1, .sl (List.map e62 p0.2) false], .sl (List.map e3 p1) fp1] (.int .i64 r) := by
  unfold F21 at h
  let c24 : List CC := [.reg [] [] 0 [(0, none, .imm)] [1, 2]]
  refine obind_elim h fun y h1 g1 => ?_
  match y, h1, g1 with
  | .inl y1, h1, g1 =>
    refine oif_elim g1 (fun h2 g2 => ?_) (fun h2 g2 => ?_)
    · have hr := Option.some.inj g2
      subst hr
      exact callP_of is21 rfl (path hm (ks := [4]) (σ' := ⟨[(4, .p (.int .i64 y1))], []⟩) (cc := c24 ++ [.reg [] [] 0 [(1, none, .call (.tup [.nilp, .int .i64 y1]))] [1, 5, 6], .reg [] [] 0 [(1, none, .b true)] [1, 5, 6, 15], .reg [] [] 0 [] [4]])
      (ai (F39_ok fuel (p0.1, p0.2) _ h1) (ai h2 trivial)) (by kernel_rfl)) (e := .ret) rfl (vs := [.p (.int .i64 y1)]) trivial (by kernel_rfl) (.p _ _ (.refl _))
    · exact nomatch g2
  | .inr (y1), h1, g1 =>
    let c25 : List CC := c24 ++ [.reg [] [] 0 [(1, none, .call (.tup [.ref [.int .i64 ((p0.1, p0.2).1), .sl (List.map e62 ((p0.1, p0.2).2)) false], .int .i64 0]))] [1, 5, 6], .reg [] [] 0 [] [1, 5, 6, 15]]
    have q26 := fun {P : Prop} (t : P) => ai (F39_ok fuel (p0.1, p0.2) _ h1) (ai (len_map e3 p1) t)
    refine oif_elim g1 (fun h2 g2 => ?_) (fun h2 g2 => ?_)
    · have hr := Option.some.inj g2
      subst hr
      exact callP_of is21 rfl (path hm (ks := [4]) (σ' := ⟨[(4, .p (.int .i64 15))], []⟩) (cc := c25 ++ [.reg [] [] 0 [(1, none, .n (p1.length : Int)), (7, none, .b true)] [1, 5, 19], .reg [] [] 0 [] [4]])
      (q26 (ai h2 trivial)) (by kernel_rfl)) (e := .ret) rfl (vs := [.p (.int .i64 15)]) trivial (by kernel_rfl) (.p _ _ (.refl _))
    · refine obind_elim g2 fun r2 h3 g3 => ?_
      let c27 : List CC := c25 ++ [.reg [] [] 0 [(1, none, .n (p1.length : Int)), (7, none, .b false)] [1, 5, 19]]
      refine oif_elim g3 (fun h4 g4 => ?_) (fun h4 g4 => ?_)
      · subst h4
        refine obind_elim g4 fun y3 h5 g5 => ?_
        refine oif_elim g5 (fun h6 g6 => ?_) (fun _ h => nomatch h)
        refine obind_elim g6 fun r4 h7 g7 => ?_
        refine obind_elim g7 fun r5 h8 g8 => ?_
        let c28 : List CC := c27 ++ [.reg [] [] 0 [(1, none, .call (.bool true))] [1, 5, 28], .reg [] [] 1 [(0, some 0, .a)] [1, 5, 7], .reg [] [] 0 [(1, none, .n (p1.length : Int))] [5, 7, 32, 33, 34], .leaf (.exit 1) ⟨[(5, .p (.ref [.int .i64 ((p0.1, p0.2).1), .sl (List.map e62 ((p0.1, p0.2).2)) false])), (7, .ptr 0 0 (List.length (rowI e2 y3)))], [.cells (rowI e2 y3) 0]⟩]
        have q29 := fun {P : Prop} (t : P) => ai h2 (ai (F44_ok fuel 0 1 p1 fp1 _ h3) (ai (len_map e3 p1) (ai (SemJ.loop (L21_0_ok ((p0.1, p0.2).1) ((p0.1, p0.2).2) p1 (p1.length : Int) fp1 fuel 0 (List.replicate 8 (0 : Int)) _ h5)) (ai (rl (List.length (rowI e2 y3))) (ai (row_wle el2 (od h6) (rfl : 8 * 1 = 8) (rl (List.length (rowI e2 y3)))) (ai (row_wtake el2 (od h6) (rfl : 8 * 1 = 8)) (ai (len_map e62 ((p0.1, p0.2).2)) (ai (F40_ok fuel (((p0.1, p0.2).1), ((p0.1, p0.2).2)) y3 (((p0.1, p0.2).2).length : Int) _ h7) (ai (F46_ok fuel (((p0.1, p0.2).1), ((p0.1, p0.2).2)) r4 _ h8) t)))))))))
        refine oif_elim g8 (fun h9 g9 => ?_) (fun h9 g9 => ?_)
        · subst h9
          have hr := Option.some.inj g9
          subst hr
          exact callP_of is21 rfl (path hm (ks := [4]) (σ' := ⟨[(4, .p (.int .i64 5))], [.cells (rowI e2 y3) 0]⟩) (cc := c28 ++ [.reg [0, 0, 0, 0, 8, 24, 56, 120, 248, 510, 1023] [] 0 [(2, none, .iv (.p (.agg (rowP e2 y3)))), (8, none, .n (((p0.1, p0.2).2).length : Int)), (9, none, .call (.agg (rowP e2 r4))), (10, none, .call (.bool true))] [53], .reg [] [] 0 [] [4]])
      (q26 (q29 trivial)) (by kernel_rfl)) (e := .ret) rfl (vs := [.p (.int .i64 5)]) trivial (by kernel_rfl) (.p _ _ (.refl _))
        · subst h9
          have hr := Option.some.inj g9
          subst hr
          exact callP_of is21 rfl (path hm (ks := [4]) (σ' := ⟨[(4, .p (.int .i64 0))], [.cells (rowI e2 y3) 0]⟩) (cc := c28 ++ [.reg [0, 0, 0, 0, 8, 24, 56, 120, 248, 510, 1023] [] 0 [(2, none, .iv (.p (.agg (rowP e2 y3)))), (8, none, .n (((p0.1, p0.2).2).length : Int)), (9, none, .call (.agg (rowP e2 r4))), (10, none, .call (.bool false))] [53], .reg [] [] 0 [] [4]])
      (q26 (q29 trivial)) (by kernel_rfl)) (e := .ret) rfl (vs := [.p (.int .i64 0)]) trivial (by kernel_rfl) (.p _ _ (.refl _))
      · subst h4
        have hr := Option.some.inj g4
        subst hr
        exact callP_of is21 rfl (path hm (ks := [4]) (σ' := ⟨[(4, .p (.int .i64 3))], []⟩) (cc := c27 ++ [.reg [] [] 0 [(1, none, .call (.bool false))] [1, 5, 28], .reg [] [] 0 [] [4]])
      (q26 (ai h2 (ai (F44_ok fuel 0 1 p1 fp1 _ h3) trivial))) (by kernel_rfl)) (e := .ret) rfl (vs := [.p (.int .i64 3)]) trivial (by kernel_rfl) (.p _ _ (.refl _))
def L64_1_1  (v1 : Int) (v1_1 : (List (Int × Int))) (w0 : Int) (w0_1 : (List (Int × Int))) (w2 : (List ((List Int) × Int))) : Nat → Int → (List Int) → Option (Int × (List Int))
  | 0, _, _ => none
  | fuel + 1, v4, w4 =>
    oif ((decide (v4 ≥ 0)))
    (oif (decide ((0:Int) ≤ v4)) (oif (decide ((v4 : Int) < ((8 : Nat) : Int))) (obind (sg w4 v4) fun x1 => oif ((x1 == 1))
      (obind (stL w4 v4 0) fun x2 => L64_1_1 v1 v1_1 w0 w0_1 w2 fuel (IntKind.wrap .i64 (v4 - 1)) x2)
      (some ((v4, w4)))) none) none)
    (some ((v4, w4)))
noncomputable def L64_1_1_post (v1 : Int) (v1_1 : (List (Int × Int))) (w0 : Int) (w0_1 : (List (Int × Int))) (w2 : (List ((List Int) × Int)))  : (Int × (List Int)) → Ex × St
  | y => ((.exit 2), ⟨[(0, .yld 3), (1, .p (.ref [.ref [.int .i64 v1, .sl (List.map e62 v1_1) false]])), (3, .ptr 4 0 (List.length (rowI e2 y.2))), (4, .p (.int .i64 y.1))], [.cells [.p (.ref [.int .i64 w0, .sl (List.map e62 w0_1) false])] 0, .cells [.mmap 2] 0, .mapS (mapK e74 w2) (mapV e3 w2) (List.range (List.length w2)) (List.length w2), .loop 0 R17_1_1_1_1_0_1_0 [(4, .ptr 0 0 1), (6, .ptr 1 0 1)] none, .cells (rowI e2 y.2) 0]⟩)
theorem L64_1_1_ok  (v1 : Int) (v1_1 : (List (Int × Int))) (w0 : Int) (w0_1 : (List (Int × Int))) (w2 : (List ((List Int) × Int)))  : ∀ (fuel : Nat) (v4 : Int) (w4 : (List Int)) (r : (Int × (List Int))), L64_1_1 v1 v1_1 w0 w0_1 w2 fuel v4 w4 = some r →
    SemJ prog ⟨31, 4, false⟩ (codeAt [1, 0, 0, 0, 1, 1, 0, 0, 0] (bodyOf f64)) ⟨[(0, .yld 3), (1, .p (.ref [.ref [.int .i64 v1, .sl (List.map e62 v1_1) false]])), (3, .ptr 4 0 (List.length (rowI e2 w4))), (4, .p (.int .i64 v4))], [.cells [.p (.ref [.int .i64 w0, .sl (List.map e62 w0_1) false])] 0, .cells [.mmap 2] 0, .mapS (mapK e74 w2) (mapV e3 w2) (List.range (List.length w2)) (List.length w2), .loop 0 R17_1_1_1_1_0_1_0 [(4, .ptr 0 0 1), (6, .ptr 1 0 1)] none, .cells (rowI e2 w4) 0]⟩ (L64_1_1_post v1 v1_1 w0 w0_1 w2 r).1 (L64_1_1_post v1 v1_1 w0 w0_1 w2 r).2
  | 0, _, _, _, h => nomatch h
  | fuel + 1, v4, w4, r, h => by
    unfold L64_1_1 at h
    refine oif_elim h (fun h1 g1 => ?_) (fun h1 g1 => ?_)
    · refine oif_elim g1 (fun h2 g2 => ?_) (fun _ h => nomatch h)
      refine oif_elim g2 (fun h3 g3 => ?_) (fun _ h => nomatch h)
      refine obind_elim g3 fun x1 h4 g4 => ?_
      have q30 := fun {P : Prop} (t : P) => ai h1 (ai (od h2) (ai (od h3) (ai (rl (List.length (rowI e2 w4))) (ai (row_get el2 h4 rfl) t))))
      refine oif_elim g4 (fun h5 g5 => ?_) (fun h5 g5 => ?_)
      · refine obind_elim g5 fun x2 h6 g6 => ?_
        exact SemJ.again (σ1 := ⟨[(0, .yld 3), (1, .p (.ref [.ref [.int .i64 v1, .sl (List.map e62 v1_1) false]])), (3, .ptr 4 0 (List.length (rowI e2 x2))), (4, .p (.int .i64 (IntKind.wrap .i64 (v4 - 1))))], [.cells [.p (.ref [.int .i64 w0, .sl (List.map e62 w0_1) false])] 0, .cells [.mmap 2] 0, .mapS (mapK e74 w2) (mapV e3 w2) (List.range (List.length w2)) (List.length w2), .loop 0 R17_1_1_1_1_0_1_0 [(4, .ptr 0 0 1), (6, .ptr 1 0 1)] none, .cells (rowI e2 x2) 0]⟩) (SemC.post (path hm (σ' := ⟨[(0, .yld 3), (1, .p (.ref [.ref [.int .i64 v1, .sl (List.map e62 v1_1) false]])), (3, .ptr 4 0 (List.length (rowI e2 w4))), (4, .p (.int .i64 (IntKind.wrap .i64 (v4 - 1))))], [.cells [.p (.ref [.int .i64 w0, .sl (List.map e62 w0_1) false])] 0, .cells [.mmap 2] 0, .mapS (mapK e74 w2) (mapV e3 w2) (List.range (List.length w2)) (List.length w2), .loop 0 R17_1_1_1_1_0_1_0 [(4, .ptr 0 0 1), (6, .ptr 1 0 1)] none, .cells (rowI e2 x2) 0]⟩) (ks := [0, 1, 3, 4]) (cc := [.reg [] [] 0 [(1, none, .b true), (5, none, .iv (.p (.int .i64 x1))), (6, none, .b true)] [0, 1, 3, 4, 22], .reg [] [] 0 [(2, none, .cs (rowI e2 x2))] [0, 1, 3, 4], .reg [] [] 0 [] [0, 1, 3, 4]])
        (q30 (ai h5 (ai (od h2) (ai (od h3) (ai (rl (List.length (rowI e2 w4))) (ai (Nat.le_trans (row_fit el2 (stL_0 h6) (stL_lt h6)) (Nat.le_of_eq (rl (List.length (rowI e2 w4))))) (ai (row_put el2 h6) trivial))))))) (by kernel_rfl)) (Weak.eq (congrArg (fun ZZ : Nat => (⟨[(0, .yld 3), (1, .p (.ref [.ref [.int .i64 v1, .sl (List.map e62 v1_1) false]])), (3, .ptr 4 0 ZZ), (4, .p (.int .i64 (IntKind.wrap .i64 (v4 - 1))))], [.cells [.p (.ref [.int .i64 w0, .sl (List.map e62 w0_1) false])] 0, .cells [.mmap 2] 0, .mapS (mapK e74 w2) (mapV e3 w2) (List.range (List.length w2)) (List.length w2), .loop 0 R17_1_1_1_1_0_1_0 [(4, .ptr 0 0 1), (6, .ptr 1 0 1)] none, .cells (rowI e2 x2) 0]⟩ : St)) (Eq.symm ((row_setlen el2 h6).trans (rl (List.length (rowI e2 w4)))))))) (L64_1_1_ok v1 v1_1 w0 w0_1 w2 fuel (IntKind.wrap .i64 (v4 - 1)) x2 _ g6)
      · have hr := Option.some.inj g5
        subst hr
        exact SemC.cast (SemJ.out (e := (.exit 2)) (path hm (σ' := ⟨[(0, .yld 3), (1, .p (.ref [.ref [.int .i64 v1, .sl (List.map e62 v1_1) false]])), (3, .ptr 4 0 (List.length (rowI e2 w4))), (4, .p (.int .i64 v4))], [.cells [.p (.ref [.int .i64 w0, .sl (List.map e62 w0_1) false])] 0, .cells [.mmap 2] 0, .mapS (mapK e74 w2) (mapV e3 w2) (List.range (List.length w2)) (List.length w2), .loop 0 R17_1_1_1_1_0_1_0 [(4, .ptr 0 0 1), (6, .ptr 1 0 1)] none, .cells (rowI e2 w4) 0]⟩) (ks := [0, 1, 3, 4]) (cc := [.reg [] [] 0 [(1, none, .b true), (5, none, .iv (.p (.int .i64 x1))), (6, none, .b false)] [0, 1, 3, 4, 22]])
        (q30 (ai h5 trivial)) (by kernel_rfl)) (by simp)) (by kernel_rfl) (by kernel_rfl)
    · have hr := Option.some.inj g1
      subst hr
      exact SemC.cast (SemJ.out (e := (.exit 2)) (path hm (σ' := ⟨[(0, .yld 3), (1, .p (.ref [.ref [.int .i64 v1, .sl (List.map e62 v1_1) false]])), (3, .ptr 4 0 (List.length (rowI e2 w4))), (4, .p (.int .i64 v4))], [.cells [.p (.ref [.int .i64 w0, .sl (List.map e62 w0_1) false])] 0, .cells [.mmap 2] 0, .mapS (mapK e74 w2) (mapV e3 w2) (List.range (List.length w2)) (List.length w2), .loop 0 R17_1_1_1_1_0_1_0 [(4, .ptr 0 0 1), (6, .ptr 1 0 1)] none, .cells (rowI e2 w4) 0]⟩) (ks := [0, 1, 3, 4]) (cc := [.reg [] [] 0 [(1, none, .b false)] [0, 1, 3, 4, 22]])
        (ai h1 trivial) (by kernel_rfl)) (by simp)) (by kernel_rfl) (by kernel_rfl)
def L64_1_0  (v1 : Int) (v1_1 : (List (Int × Int))) (w0 : Int) (w0_1 : (List (Int × Int))) : Nat → (List ((List Int) × Int)) → (List Int) → Option (List ((List Int) × Int))
  | 0, _, _ => none
  | fuel + 1, w2, w4 =>
    oif (decide (List.length w4 = 8)) (oif (decide (List.length (List.replicate 8 (0 : Int)) = 8)) (obind (F40 fuel (w0, w0_1) w4 (w0_1.length : Int)) fun r1 => oif (decide (List.length r1 = 8)) (oif (List.all w2 (fun p => decide (List.length p.1 = 8))) (oif (mhas w2 r1)
    (obind (mget w2 r1) fun x2 => oif (decide (midx w2 r1 < List.length w2)) (obind (L64_1_1 v1 v1_1 w0 w0_1 (msetAt w2 (midx w2 r1) (IntKind.wrap .i64 (x2 + 1))) fuel (IntKind.wrap .i64 (v1 - 1)) w4) fun y3 => oif ((decide (y3.1 < 0)))
      (some ((msetAt w2 (midx w2 r1) (IntKind.wrap .i64 (x2 + 1)))))
      (oif (decide ((0:Int) ≤ y3.1)) (oif (decide ((y3.1 : Int) < ((8 : Nat) : Int))) (obind (stL y3.2 y3.1 1) fun x4 => L64_1_0 v1 v1_1 w0 w0_1 fuel (msetAt w2 (midx w2 r1) (IntKind.wrap .i64 (x2 + 1))) x4) none) none)) none)
    (oif (List.all (w2 ++ [(r1, (0 : Int))]) (fun p => decide (List.length p.1 = 8))) (oif (decide (List.length w2 < List.length (w2 ++ [(r1, (0 : Int))]))) (obind (L64_1_1 v1 v1_1 w0 w0_1 (msetAt (w2 ++ [(r1, (0 : Int))]) (List.length w2) 1) fuel (IntKind.wrap .i64 (v1 - 1)) w4) fun y2 => oif ((decide (y2.1 < 0)))
      (some ((msetAt (w2 ++ [(r1, (0 : Int))]) (List.length w2) 1)))
      (oif (decide ((0:Int) ≤ y2.1)) (oif (decide ((y2.1 : Int) < ((8 : Nat) : Int))) (obind (stL y2.2 y2.1 1) fun x3 => L64_1_0 v1 v1_1 w0 w0_1 fuel (msetAt (w2 ++ [(r1, (0 : Int))]) (List.length w2) 1) x3) none) none)) none) none)) none) none) none) none
noncomputable def L64_1_0_post (v1 : Int) (v1_1 : (List (Int × Int))) (w0 : Int) (w0_1 : (List (Int × Int)))  : (List ((List Int) × Int)) → Ex × St
  | y => (.ret, ⟨[], [.cells [.p (.ref [.int .i64 w0, .sl (List.map e62 w0_1) false])] 0, .cells [.mmap 2] 0, .mapS (mapK e74 y) (mapV e3 y) (List.range (List.length y)) (List.length y), .loop 0 R17_1_1_1_1_0_1_0 [(4, .ptr 0 0 1), (6, .ptr 1 0 1)] none]⟩)
theorem L64_1_0_ok  (v1 : Int) (v1_1 : (List (Int × Int))) (w0 : Int) (w0_1 : (List (Int × Int)))  : ∀ (fuel : Nat) (w2 : (List ((List Int) × Int))) (w4 : (List Int)) (r : (List ((List Int) × Int))), L64_1_0 v1 v1_1 w0 w0_1 fuel w2 w4 = some r →
    SemJ prog ⟨31, 4, false⟩ (codeAt [1, 0, 0] (bodyOf f64)) ⟨[(0, .yld 3), (1, .p (.ref [.ref [.int .i64 v1, .sl (List.map e62 v1_1) false]])), (3, .ptr 4 0 (List.length (rowI e2 w4)))], [.cells [.p (.ref [.int .i64 w0, .sl (List.map e62 w0_1) false])] 0, .cells [.mmap 2] 0, .mapS (mapK e74 w2) (mapV e3 w2) (List.range (List.length w2)) (List.length w2), .loop 0 R17_1_1_1_1_0_1_0 [(4, .ptr 0 0 1), (6, .ptr 1 0 1)] none, .cells (rowI e2 w4) 0]⟩ (L64_1_0_post v1 v1_1 w0 w0_1 r).1 (L64_1_0_post v1 v1_1 w0 w0_1 r).2
  | 0, _, _, _, h => nomatch h
  | fuel + 1, w2, w4, r, h => by
    unfold L64_1_0 at h
    refine oif_elim h (fun h1 g1 => ?_) (fun _ h => nomatch h)
    refine oif_elim g1 (fun h2 g2 => ?_) (fun _ h => nomatch h)
    refine obind_elim g2 fun r1 h3 g3 => ?_
    refine oif_elim g3 (fun h4 g4 => ?_) (fun _ h => nomatch h)
    refine oif_elim g4 (fun h5 g5 => ?_) (fun _ h => nomatch h)
    have q31 := fun {P : Prop} (t : P) => ai (rl (List.length (rowI e2 w4))) (ai (row_wle el2 (od h1) (rfl : 8 * 1 = 8) (rl (List.length (rowI e2 w4)))) (ai (row_wtake el2 (od h1) (rfl : 8 * 1 = 8)) t))
    refine oif_elim g5 (fun h6 g6 => ?_) (fun h6 g6 => ?_)
    · refine obind_elim g6 fun x2 h7 g7 => ?_
      refine oif_elim g7 (fun h8 g8 => ?_) (fun _ h => nomatch h)
      refine obind_elim g8 fun y3 h9 g9 => ?_
      let c32 : List CC := [.reg [] [] 0 [(1, none, .iv (.p (.agg (rowP e2 w4)))), (2, none, .ci (.p (.bool true)) [(2, .mapS (mapK e74 (msetAt w2 (midx w2 r1) (IntKind.wrap .i64 (x2 + 1)))) (mapV e3 (msetAt w2 (midx w2 r1) (IntKind.wrap .i64 (x2 + 1)))) (List.range (List.length (msetAt w2 (midx w2 r1) (IntKind.wrap .i64 (x2 + 1))))) (List.length (msetAt w2 (midx w2 r1) (IntKind.wrap .i64 (x2 + 1)))))])] [0, 1, 3, 8], .reg [] [] 0 [] [0, 1, 3, 4], .leaf (.exit 2) ⟨[(0, .yld 3), (1, .p (.ref [.ref [.int .i64 v1, .sl (List.map e62 v1_1) false]])), (3, .ptr 4 0 (List.length (rowI e2 y3.2))), (4, .p (.int .i64 y3.1))], [.cells [.p (.ref [.int .i64 w0, .sl (List.map e62 w0_1) false])] 0, .cells [.mmap 2] 0, .mapS (mapK e74 (msetAt w2 (midx w2 r1) (IntKind.wrap .i64 (x2 + 1)))) (mapV e3 (msetAt w2 (midx w2 r1) (IntKind.wrap .i64 (x2 + 1)))) (List.range (List.length (msetAt w2 (midx w2 r1) (IntKind.wrap .i64 (x2 + 1))))) (List.length (msetAt w2 (midx w2 r1) (IntKind.wrap .i64 (x2 + 1)))), .loop 0 R17_1_1_1_1_0_1_0 [(4, .ptr 0 0 1), (6, .ptr 1 0 1)] none, .cells (rowI e2 y3.2) 0]⟩]
      have q33 := fun {P : Prop} (t : P) => ai (roundI_of (P := prog) (l := 3) (args := [.p (.agg (rowP e2 w4))]) (H := [.cells [.p (.ref [.int .i64 w0, .sl (List.map e62 w0_1) false])] 0, .cells [.mmap 2] 0, .mapS (mapK e74 w2) (mapV e3 w2) (List.range (List.length w2)) (List.length w2), .loop 0 R17_1_1_1_1_0_1_0 [(4, .ptr 0 0 1), (6, .ptr 1 0 1)] none, .cells (rowI e2 w4) 0]) (R := R17_1_1_1_1_0_1_0) (env := [(4, .ptr 0 0 1), (6, .ptr 1 0 1)]) (env1 := [(4, .ptr 0 0 1), (6, .ptr 1 0 1)]) (env2 := [(4, .ptr 0 0 1), (6, .ptr 1 0 1)]) (m := 5) (e := .normal) (by kernel_rfl) (by kernel_rfl) (by kernel_rfl) (by kernel_rfl) (path hm (σ' := ⟨[(4, .ptr 0 0 1), (6, .ptr 1 0 1), (7, .ptr 5 0 (List.length (rowI e2 (List.replicate 8 (0 : Int)))))], [.cells [.p (.ref [.int .i64 w0, .sl (List.map e62 w0_1) false])] 0, .cells [.mmap 2] 0, .mapS (mapK e74 w2) (mapV e3 w2) (List.range (List.length w2)) (List.length w2), .loop 0 R17_1_1_1_1_0_1_0 [(4, .ptr 0 0 1), (6, .ptr 1 0 1)] none, .cells (rowI e2 w4) 0, .cells (rowI e2 w4) 0]⟩) (ks := [4, 6, 7]) (cc := [.reg [] [] 1 [(0, some 5, .a), (1, none, .ap (rowI e2 w4) 0 0)] [4, 6, 7]]) (ai (row_wlen el2 (od h1) (rfl : 8 * 1 = 8)) (ai (row_scal el2 w4) (ai (rl (List.length (rowI e2 (List.replicate 8 (0 : Int))))) (ai (row_wle el2 (od h2) (rfl : 8 * 1 = 8) (rl (List.length (rowI e2 (List.replicate 8 (0 : Int)))))) (ai (row_putall el2 (od h2) (od h1)) trivial))))) (by kernel_rfl)) (by kernel_rfl) (SemC.post (path hm (σ' := ⟨[], [.cells [.p (.ref [.int .i64 w0, .sl (List.map e62 w0_1) false])] 0, .cells [.mmap 2] 0, .mapS (mapK e74 (msetAt w2 (midx w2 r1) (IntKind.wrap .i64 (x2 + 1)))) (mapV e3 (msetAt w2 (midx w2 r1) (IntKind.wrap .i64 (x2 + 1)))) (List.range (List.length (msetAt w2 (midx w2 r1) (IntKind.wrap .i64 (x2 + 1))))) (List.length (msetAt w2 (midx w2 r1) (IntKind.wrap .i64 (x2 + 1)))), .loop 1 R17_1_1_1_1_0_1_0 [(4, .ptr 0 0 1), (6, .ptr 1 0 1)] none, .cells (rowI e2 w4) 0, .cells (rowI e2 w4) 0]⟩) (ks := []) (cc := [.reg [0, 0, 0, 0, 8, 24, 56, 120, 248, 510, 1022, 2047, 4095, 2047, 10239, 32767] [(2, 13), (2, 15)] 0 [(2, none, .iv (.p (.agg (rowP e2 w4)))), (8, none, .n (w0_1.length : Int)), (9, none, .call (.agg (rowP e2 r1))), (10, none, .pvs (rowP e2 r1)), (11, none, .alt 2 (.mapS (mapK e74 w2) (mapV e3 w2) (List.range (List.length w2)) (List.length w2)) 13 (.mp (Int.ofNat (midx w2 r1)) [] [] [] 0 (.int .i64 x2)) (.mp (Int.ofNat (midx w2 r1)) [] [] [] 0 (.int .i64 x2))), (13, none, .mp (Int.ofNat (midx w2 r1)) [] [] [] (midx w2 r1) (.int .i64 x2)), (15, none, .mp (Int.ofNat (midx w2 r1)) (mapK e74 (msetAt w2 (midx w2 r1) (IntKind.wrap .i64 (x2 + 1)))) (mapV e3 (msetAt w2 (midx w2 r1) (IntKind.wrap .i64 (x2 + 1)))) (List.range (List.length (msetAt w2 (midx w2 r1) (IntKind.wrap .i64 (x2 + 1))))) (List.length (msetAt w2 (midx w2 r1) (IntKind.wrap .i64 (x2 + 1)))) .junk)] []]) (ai ((row_same el2 (od h2) (od h1)).trans (rl (List.length (rowI e2 (List.replicate 8 (0 : Int)))))) (ai (row_wle el2 (od h1) (rfl : 8 * 1 = 8) ((row_same el2 (od h2) (od h1)).trans (rl (List.length (rowI e2 (List.replicate 8 (0 : Int))))))) (ai (row_wtake el2 (od h1) (rfl : 8 * 1 = 8)) (ai (len_map e62 w0_1) (ai (F40_ok fuel (w0, w0_1) w4 (w0_1.length : Int) _ h3) (ai (fill_row (place := fun k => ([(0, 8)] : List (Nat × Nat))[k]?) (z := [.p (.int .i64 0), .p (.int .i64 0), .p (.int .i64 0), .p (.int .i64 0), .p (.int .i64 0), .p (.int .i64 0), .p (.int .i64 0), .p (.int .i64 0)]) el2 (od h4) (rfl : 8 * 1 = 8) (by kernel_rfl) rfl) (ai (eqD_of (k := r1) keq74 h4) (ai (find_yes (L := w2) (k := r1) keq74 h4 (fun p hp => List.all_eq_true.1 h5 p hp) h6) (ai (val_at e3 h7) (ai (eqD_of (k := r1) keq74 h4) (ai (find_yes (L := w2) (k := r1) keq74 h4 (fun p hp => List.all_eq_true.1 h5 p hp) h6) (ai (val_at e3 h7) (ai (rfl : (.p (.int .i64 x2) : IV) = .p (.int .i64 x2)) (ai (by decide : 11 ≠ 13) (ai (eqD_of (k := r1) keq74 h4) (ai (keq74.flat r1) (ai (find_yes (L := w2) (k := r1) keq74 h4 (fun p hp => List.all_eq_true.1 h5 p hp) h6) (ai (key_at e74 h6) (ai (val_at e3 h7) (ai (mget_range w2 h6) (ai (rl (some (.mapS (mapK e74 w2) (mapV e3 w2) (List.range (List.length w2)) (List.length w2) : MObj))) (ai (range_at (od h8)) (ai (Int.natCast_nonneg (midx w2 r1)) (ai (mapV_setAt e3 w2 (IntKind.wrap .i64 (x2 + 1)) (od h8)) (ai (mapK_setAt e74 w2 (midx w2 r1) (IntKind.wrap .i64 (x2 + 1))) (ai (range_setAt w2 (midx w2 r1) (IntKind.wrap .i64 (x2 + 1))) (ai ((msetAt_len w2 (midx w2 r1) (IntKind.wrap .i64 (x2 + 1))).symm) trivial))))))))))))))))))))))))))) (by kernel_rfl)) (Weak.sel (E := []) (E' := []) (H := [.cells [.p (.ref [.int .i64 w0, .sl (List.map e62 w0_1) false])] 0, .cells [.mmap 2] 0, .mapS (mapK e74 (msetAt w2 (midx w2 r1) (IntKind.wrap .i64 (x2 + 1)))) (mapV e3 (msetAt w2 (midx w2 r1) (IntKind.wrap .i64 (x2 + 1)))) (List.range (List.length (msetAt w2 (midx w2 r1) (IntKind.wrap .i64 (x2 + 1))))) (List.length (msetAt w2 (midx w2 r1) (IntKind.wrap .i64 (x2 + 1)))), .loop 1 R17_1_1_1_1_0_1_0 [(4, .ptr 0 0 1), (6, .ptr 1 0 1)] none, .cells (rowI e2 w4) 0, .cells (rowI e2 w4) 0]) (H' := [.cells [.p (.ref [.int .i64 w0, .sl (List.map e62 w0_1) false])] 0, .cells [.mmap 2] 0, .mapS (mapK e74 (msetAt w2 (midx w2 r1) (IntKind.wrap .i64 (x2 + 1)))) (mapV e3 (msetAt w2 (midx w2 r1) (IntKind.wrap .i64 (x2 + 1)))) (List.range (List.length (msetAt w2 (midx w2 r1) (IntKind.wrap .i64 (x2 + 1))))) (List.length (msetAt w2 (midx w2 r1) (IntKind.wrap .i64 (x2 + 1)))), .loop 1 R17_1_1_1_1_0_1_0 [(4, .ptr 0 0 1), (6, .ptr 1 0 1)] none, .cells (rowI e2 w4) 0]) [0, 1, 2, 3, 4] (selH_cons (o := .cells [.p (.ref [.int .i64 w0, .sl (List.map e62 w0_1) false])] 0) (o' := .cells [.p (.ref [.int .i64 w0, .sl (List.map e62 w0_1) false])] 0) (by kernel_rfl) (sel_x (by kernel_rfl)) (selH_cons (o := .cells [.mmap 2] 0) (o' := .cells [.mmap 2] 0) (by kernel_rfl) (sel_x (by kernel_rfl)) (selH_cons (o := .mapS (mapK e74 (msetAt w2 (midx w2 r1) (IntKind.wrap .i64 (x2 + 1)))) (mapV e3 (msetAt w2 (midx w2 r1) (IntKind.wrap .i64 (x2 + 1)))) (List.range (List.length (msetAt w2 (midx w2 r1) (IntKind.wrap .i64 (x2 + 1))))) (List.length (msetAt w2 (midx w2 r1) (IntKind.wrap .i64 (x2 + 1))))) (o' := .mapS (mapK e74 (msetAt w2 (midx w2 r1) (IntKind.wrap .i64 (x2 + 1)))) (mapV e3 (msetAt w2 (midx w2 r1) (IntKind.wrap .i64 (x2 + 1)))) (List.range (List.length (msetAt w2 (midx w2 r1) (IntKind.wrap .i64 (x2 + 1))))) (List.length (msetAt w2 (midx w2 r1) (IntKind.wrap .i64 (x2 + 1))))) (by kernel_rfl) (by exact rfl) (selH_cons (o := .loop 1 R17_1_1_1_1_0_1_0 [(4, .ptr 0 0 1), (6, .ptr 1 0 1)] none) (o' := .loop 1 R17_1_1_1_1_0_1_0 [(4, .ptr 0 0 1), (6, .ptr 1 0 1)] none) (by kernel_rfl) (sel_loop (by kernel_rfl)) (selH_cons (o := .cells (rowI e2 w4) 0) (o' := .cells (rowI e2 w4) 0) (by kernel_rfl) sel_row trivial))))) (by kernel_rfl) (by kernel_rfl))) (by kernel_rfl) (by kernel_rfl : _ = (.p (.bool true), [.cells [.p (.ref [.int .i64 w0, .sl (List.map e62 w0_1) false])] 0, .cells [.mmap 2] 0, .mapS (mapK e74 (msetAt w2 (midx w2 r1) (IntKind.wrap .i64 (x2 + 1)))) (mapV e3 (msetAt w2 (midx w2 r1) (IntKind.wrap .i64 (x2 + 1)))) (List.range (List.length (msetAt w2 (midx w2 r1) (IntKind.wrap .i64 (x2 + 1))))) (List.length (msetAt w2 (midx w2 r1) (IntKind.wrap .i64 (x2 + 1)))), .loop 0 R17_1_1_1_1_0_1_0 [(4, .ptr 0 0 1), (6, .ptr 1 0 1)] none, .cells (rowI e2 w4) 0]))) (ai (SemJ.loop (L64_1_1_ok v1 v1_1 w0 w0_1 (msetAt w2 (midx w2 r1) (IntKind.wrap .i64 (x2 + 1))) fuel (IntKind.wrap .i64 (v1 - 1)) w4 _ h9)) t)
      refine oif_elim g9 (fun h10 g10 => ?_) (fun h10 g10 => ?_)
      · have hr := Option.some.inj g10
        subst hr
        exact SemC.cast (SemJ.out (e := .ret) (SemC.post (path hm (σ' := ⟨[], [.cells [.p (.ref [.int .i64 w0, .sl (List.map e62 w0_1) false])] 0, .cells [.mmap 2] 0, .mapS (mapK e74 (msetAt w2 (midx w2 r1) (IntKind.wrap .i64 (x2 + 1)))) (mapV e3 (msetAt w2 (midx w2 r1) (IntKind.wrap .i64 (x2 + 1)))) (List.range (List.length (msetAt w2 (midx w2 r1) (IntKind.wrap .i64 (x2 + 1))))) (List.length (msetAt w2 (midx w2 r1) (IntKind.wrap .i64 (x2 + 1)))), .loop 0 R17_1_1_1_1_0_1_0 [(4, .ptr 0 0 1), (6, .ptr 1 0 1)] none, .cells (rowI e2 y3.2) 0]⟩) (ks := []) (cc := c32 ++ [.reg [] [] 0 [(1, none, .b true)] [0, 1, 3, 4, 28]])
        (q31 (q33 (ai h10 trivial))) (by kernel_rfl)) (Weak.sel (E := []) (E' := []) (H := [.cells [.p (.ref [.int .i64 w0, .sl (List.map e62 w0_1) false])] 0, .cells [.mmap 2] 0, .mapS (mapK e74 (msetAt w2 (midx w2 r1) (IntKind.wrap .i64 (x2 + 1)))) (mapV e3 (msetAt w2 (midx w2 r1) (IntKind.wrap .i64 (x2 + 1)))) (List.range (List.length (msetAt w2 (midx w2 r1) (IntKind.wrap .i64 (x2 + 1))))) (List.length (msetAt w2 (midx w2 r1) (IntKind.wrap .i64 (x2 + 1)))), .loop 0 R17_1_1_1_1_0_1_0 [(4, .ptr 0 0 1), (6, .ptr 1 0 1)] none, .cells (rowI e2 y3.2) 0]) (H' := [.cells [.p (.ref [.int .i64 w0, .sl (List.map e62 w0_1) false])] 0, .cells [.mmap 2] 0, .mapS (mapK e74 (msetAt w2 (midx w2 r1) (IntKind.wrap .i64 (x2 + 1)))) (mapV e3 (msetAt w2 (midx w2 r1) (IntKind.wrap .i64 (x2 + 1)))) (List.range (List.length (msetAt w2 (midx w2 r1) (IntKind.wrap .i64 (x2 + 1))))) (List.length (msetAt w2 (midx w2 r1) (IntKind.wrap .i64 (x2 + 1)))), .loop 0 R17_1_1_1_1_0_1_0 [(4, .ptr 0 0 1), (6, .ptr 1 0 1)] none]) [0, 1, 2, 3] (selH_cons (o := .cells [.p (.ref [.int .i64 w0, .sl (List.map e62 w0_1) false])] 0) (o' := .cells [.p (.ref [.int .i64 w0, .sl (List.map e62 w0_1) false])] 0) (by kernel_rfl) (sel_x (by kernel_rfl)) (selH_cons (o := .cells [.mmap 2] 0) (o' := .cells [.mmap 2] 0) (by kernel_rfl) (sel_x (by kernel_rfl)) (selH_cons (o := .mapS (mapK e74 (msetAt w2 (midx w2 r1) (IntKind.wrap .i64 (x2 + 1)))) (mapV e3 (msetAt w2 (midx w2 r1) (IntKind.wrap .i64 (x2 + 1)))) (List.range (List.length (msetAt w2 (midx w2 r1) (IntKind.wrap .i64 (x2 + 1))))) (List.length (msetAt w2 (midx w2 r1) (IntKind.wrap .i64 (x2 + 1))))) (o' := .mapS (mapK e74 (msetAt w2 (midx w2 r1) (IntKind.wrap .i64 (x2 + 1)))) (mapV e3 (msetAt w2 (midx w2 r1) (IntKind.wrap .i64 (x2 + 1)))) (List.range (List.length (msetAt w2 (midx w2 r1) (IntKind.wrap .i64 (x2 + 1))))) (List.length (msetAt w2 (midx w2 r1) (IntKind.wrap .i64 (x2 + 1))))) (by kernel_rfl) (by exact rfl) (selH_cons (o := .loop 0 R17_1_1_1_1_0_1_0 [(4, .ptr 0 0 1), (6, .ptr 1 0 1)] none) (o' := .loop 0 R17_1_1_1_1_0_1_0 [(4, .ptr 0 0 1), (6, .ptr 1 0 1)] none) (by kernel_rfl) (sel_loop (by kernel_rfl)) trivial)))) (by kernel_rfl) (by kernel_rfl))) (by simp)) (by kernel_rfl) (by kernel_rfl)
      · refine oif_elim g10 (fun h11 g11 => ?_) (fun _ h => nomatch h)
        refine oif_elim g11 (fun h12 g12 => ?_) (fun _ h => nomatch h)
        refine obind_elim g12 fun x4 h13 g13 => ?_
        exact SemJ.again (σ1 := ⟨[(0, .yld 3), (1, .p (.ref [.ref [.int .i64 v1, .sl (List.map e62 v1_1) false]])), (3, .ptr 4 0 (List.length (rowI e2 x4)))], [.cells [.p (.ref [.int .i64 w0, .sl (List.map e62 w0_1) false])] 0, .cells [.mmap 2] 0, .mapS (mapK e74 (msetAt w2 (midx w2 r1) (IntKind.wrap .i64 (x2 + 1)))) (mapV e3 (msetAt w2 (midx w2 r1) (IntKind.wrap .i64 (x2 + 1)))) (List.range (List.length (msetAt w2 (midx w2 r1) (IntKind.wrap .i64 (x2 + 1))))) (List.length (msetAt w2 (midx w2 r1) (IntKind.wrap .i64 (x2 + 1)))), .loop 0 R17_1_1_1_1_0_1_0 [(4, .ptr 0 0 1), (6, .ptr 1 0 1)] none, .cells (rowI e2 x4) 0]⟩) (SemC.post (path hm (σ' := ⟨[(0, .yld 3), (1, .p (.ref [.ref [.int .i64 v1, .sl (List.map e62 v1_1) false]])), (3, .ptr 4 0 (List.length (rowI e2 y3.2)))], [.cells [.p (.ref [.int .i64 w0, .sl (List.map e62 w0_1) false])] 0, .cells [.mmap 2] 0, .mapS (mapK e74 (msetAt w2 (midx w2 r1) (IntKind.wrap .i64 (x2 + 1)))) (mapV e3 (msetAt w2 (midx w2 r1) (IntKind.wrap .i64 (x2 + 1)))) (List.range (List.length (msetAt w2 (midx w2 r1) (IntKind.wrap .i64 (x2 + 1))))) (List.length (msetAt w2 (midx w2 r1) (IntKind.wrap .i64 (x2 + 1)))), .loop 0 R17_1_1_1_1_0_1_0 [(4, .ptr 0 0 1), (6, .ptr 1 0 1)] none, .cells (rowI e2 x4) 0]⟩) (ks := [0, 1, 3]) (cc := c32 ++ [.reg [] [] 0 [(1, none, .b false)] [0, 1, 3, 4, 28], .reg [] [] 0 [(2, none, .cs (rowI e2 x4))] [0, 1, 3]])
        (q31 (q33 (ai h10 (ai (od h11) (ai (od h12) (ai (rl (List.length (rowI e2 y3.2))) (ai (Nat.le_trans (row_fit el2 (stL_0 h13) (stL_lt h13)) (Nat.le_of_eq (rl (List.length (rowI e2 y3.2))))) (ai (row_put el2 h13) trivial)))))))) (by kernel_rfl)) (Weak.eq (congrArg (fun ZZ : Nat => (⟨[(0, .yld 3), (1, .p (.ref [.ref [.int .i64 v1, .sl (List.map e62 v1_1) false]])), (3, .ptr 4 0 ZZ)], [.cells [.p (.ref [.int .i64 w0, .sl (List.map e62 w0_1) false])] 0, .cells [.mmap 2] 0, .mapS (mapK e74 (msetAt w2 (midx w2 r1) (IntKind.wrap .i64 (x2 + 1)))) (mapV e3 (msetAt w2 (midx w2 r1) (IntKind.wrap .i64 (x2 + 1)))) (List.range (List.length (msetAt w2 (midx w2 r1) (IntKind.wrap .i64 (x2 + 1))))) (List.length (msetAt w2 (midx w2 r1) (IntKind.wrap .i64 (x2 + 1)))), .loop 0 R17_1_1_1_1_0_1_0 [(4, .ptr 0 0 1), (6, .ptr 1 0 1)] none, .cells (rowI e2 x4) 0]⟩ : St)) (Eq.symm ((row_setlen el2 h13).trans (rl (List.length (rowI e2 y3.2)))))))) (L64_1_0_ok v1 v1_1 w0 w0_1 fuel (msetAt w2 (midx w2 r1) (IntKind.wrap .i64 (x2 + 1))) x4 _ g13)
    · refine oif_elim g6 (fun h7 g7 => ?_) (fun _ h => nomatch h)
      refine oif_elim g7 (fun h8 g8 => ?_) (fun _ h => nomatch h)
      refine obind_elim g8 fun y2 h9 g9 => ?_
      let c34 : List CC := [.reg [] [] 0 [(1, none, .iv (.p (.agg (rowP e2 w4)))), (2, none, .ci (.p (.bool true)) [(2, .mapS (mapK e74 (msetAt (w2 ++ [(r1, (0 : Int))]) (List.length w2) 1)) (mapV e3 (msetAt (w2 ++ [(r1, (0 : Int))]) (List.length w2) 1)) (List.range (List.length (msetAt (w2 ++ [(r1, (0 : Int))]) (List.length w2) 1))) (List.length (msetAt (w2 ++ [(r1, (0 : Int))]) (List.length w2) 1)))])] [0, 1, 3, 8], .reg [] [] 0 [] [0, 1, 3, 4], .leaf (.exit 2) ⟨[(0, .yld 3), (1, .p (.ref [.ref [.int .i64 v1, .sl (List.map e62 v1_1) false]])), (3, .ptr 4 0 (List.length (rowI e2 y2.2))), (4, .p (.int .i64 y2.1))], [.cells [.p (.ref [.int .i64 w0, .sl (List.map e62 w0_1) false])] 0, .cells [.mmap 2] 0, .mapS (mapK e74 (msetAt (w2 ++ [(r1, (0 : Int))]) (List.length w2) 1)) (mapV e3 (msetAt (w2 ++ [(r1, (0 : Int))]) (List.length w2) 1)) (List.range (List.length (msetAt (w2 ++ [(r1, (0 : Int))]) (List.length w2) 1))) (List.length (msetAt (w2 ++ [(r1, (0 : Int))]) (List.length w2) 1)), .loop 0 R17_1_1_1_1_0_1_0 [(4, .ptr 0 0 1), (6, .ptr 1 0 1)] none, .cells (rowI e2 y2.2) 0]⟩]
      have q35 := fun {P : Prop} (t : P) => ai (roundI_of (P := prog) (l := 3) (args := [.p (.agg (rowP e2 w4))]) (H := [.cells [.p (.ref [.int .i64 w0, .sl (List.map e62 w0_1) false])] 0, .cells [.mmap 2] 0, .mapS (mapK e74 w2) (mapV e3 w2) (List.range (List.length w2)) (List.length w2), .loop 0 R17_1_1_1_1_0_1_0 [(4, .ptr 0 0 1), (6, .ptr 1 0 1)] none, .cells (rowI e2 w4) 0]) (R := R17_1_1_1_1_0_1_0) (env := [(4, .ptr 0 0 1), (6, .ptr 1 0 1)]) (env1 := [(4, .ptr 0 0 1), (6, .ptr 1 0 1)]) (env2 := [(4, .ptr 0 0 1), (6, .ptr 1 0 1)]) (m := 5) (e := .normal) (by kernel_rfl) (by kernel_rfl) (by kernel_rfl) (by kernel_rfl) (path hm (σ' := ⟨[(4, .ptr 0 0 1), (6, .ptr 1 0 1), (7, .ptr 5 0 (List.length (rowI e2 (List.replicate 8 (0 : Int)))))], [.cells [.p (.ref [.int .i64 w0, .sl (List.map e62 w0_1) false])] 0, .cells [.mmap 2] 0, .mapS (mapK e74 w2) (mapV e3 w2) (List.range (List.length w2)) (List.length w2), .loop 0 R17_1_1_1_1_0_1_0 [(4, .ptr 0 0 1), (6, .ptr 1 0 1)] none, .cells (rowI e2 w4) 0, .cells (rowI e2 w4) 0]⟩) (ks := [4, 6, 7]) (cc := [.reg [] [] 1 [(0, some 5, .a), (1, none, .ap (rowI e2 w4) 0 0)] [4, 6, 7]]) (ai (row_wlen el2 (od h1) (rfl : 8 * 1 = 8)) (ai (row_scal el2 w4) (ai (rl (List.length (rowI e2 (List.replicate 8 (0 : Int))))) (ai (row_wle el2 (od h2) (rfl : 8 * 1 = 8) (rl (List.length (rowI e2 (List.replicate 8 (0 : Int)))))) (ai (row_putall el2 (od h2) (od h1)) trivial))))) (by kernel_rfl)) (by kernel_rfl) (SemC.post (path hm (σ' := ⟨[], [.cells [.p (.ref [.int .i64 w0, .sl (List.map e62 w0_1) false])] 0, .cells [.mmap 2] 0, .mapS (mapK e74 (msetAt (w2 ++ [(r1, (0 : Int))]) (List.length w2) 1)) (mapV e3 (msetAt (w2 ++ [(r1, (0 : Int))]) (List.length w2) 1)) (List.range (List.length (msetAt (w2 ++ [(r1, (0 : Int))]) (List.length w2) 1))) (List.length (msetAt (w2 ++ [(r1, (0 : Int))]) (List.length w2) 1)), .loop 1 R17_1_1_1_1_0_1_0 [(4, .ptr 0 0 1), (6, .ptr 1 0 1)] none, .cells (rowI e2 w4) 0, .cells (rowI e2 w4) 0]⟩) (ks := []) (cc := [.reg [0, 0, 0, 0, 8, 24, 56, 120, 248, 510, 1022, 2047, 4095, 2047, 10239, 32767] [(2, 13), (2, 15)] 0 [(2, none, .iv (.p (.agg (rowP e2 w4)))), (8, none, .n (w0_1.length : Int)), (9, none, .call (.agg (rowP e2 r1))), (10, none, .pvs (rowP e2 r1)), (11, none, .alt 2 (.mapS (mapK e74 (w2 ++ [(r1, (0 : Int))])) (mapV e3 (w2 ++ [(r1, (0 : Int))])) (List.range (List.length (w2 ++ [(r1, (0 : Int))]))) (List.length (w2 ++ [(r1, (0 : Int))]))) 13 (.mp (Int.negSucc 0) [] [] [] 0 .junk) (.mp (Int.ofNat (midx (w2 ++ [(r1, (0 : Int))]) r1)) [] [] [] 0 (.int .i64 0))), (13, none, .mp (Int.negSucc 0) (mapK e74 (w2 ++ [(r1, (0 : Int))])) (mapV e3 (w2 ++ [(r1, (0 : Int))])) (List.range (List.length (w2 ++ [(r1, (0 : Int))]))) (List.length (w2 ++ [(r1, (0 : Int))])) .junk), (15, none, .mp (Int.ofNat (List.length w2)) (mapK e74 (msetAt (w2 ++ [(r1, (0 : Int))]) (List.length w2) 1)) (mapV e3 (msetAt (w2 ++ [(r1, (0 : Int))]) (List.length w2) 1)) (List.range (List.length (msetAt (w2 ++ [(r1, (0 : Int))]) (List.length w2) 1))) (List.length (msetAt (w2 ++ [(r1, (0 : Int))]) (List.length w2) 1)) .junk)] []]) (ai ((row_same el2 (od h2) (od h1)).trans (rl (List.length (rowI e2 (List.replicate 8 (0 : Int)))))) (ai (row_wle el2 (od h1) (rfl : 8 * 1 = 8) ((row_same el2 (od h2) (od h1)).trans (rl (List.length (rowI e2 (List.replicate 8 (0 : Int))))))) (ai (row_wtake el2 (od h1) (rfl : 8 * 1 = 8)) (ai (len_map e62 w0_1) (ai (F40_ok fuel (w0, w0_1) w4 (w0_1.length : Int) _ h3) (ai (fill_row (place := fun k => ([(0, 8)] : List (Nat × Nat))[k]?) (z := [.p (.int .i64 0), .p (.int .i64 0), .p (.int .i64 0), .p (.int .i64 0), .p (.int .i64 0), .p (.int .i64 0), .p (.int .i64 0), .p (.int .i64 0)]) el2 (od h4) (rfl : 8 * 1 = 8) (by kernel_rfl) rfl) (ai (eqD_of (k := r1) keq74 h4) (ai (find_no (L := w2) (k := r1) keq74 h4 (fun p hp => List.all_eq_true.1 h5 p hp) h6) (ai (eqD_of (k := r1) keq74 h4) (ai (find_yes (L := (w2 ++ [(r1, (0 : Int))])) (k := r1) keq74 h4 (fun p hp => List.all_eq_true.1 h7 p hp) (mhas_snoc w2 r1 (0 : Int))) (ai (val_at e3 (mget_snoc h6 (0 : Int))) (ai (rfl : (.p (.int .i64 0) : IV) = .p (.int .i64 0)) (ai (by decide : 11 ≠ 13) (ai (eqD_of (k := r1) keq74 h4) (ai (find_no (L := w2) (k := r1) keq74 h4 (fun p hp => List.all_eq_true.1 h5 p hp) h6) (ai (mapK_snoc e74 w2 r1 (0 : Int)) (ai (mapV_snoc e3 w2 r1 (0 : Int)) (ai (range_snoc w2 (r1, (0 : Int))) (ai (len_snoc w2 (r1, (0 : Int))) (ai (rl (some (.mapS (mapK e74 (w2 ++ [(r1, (0 : Int))])) (mapV e3 (w2 ++ [(r1, (0 : Int))])) (List.range (List.length (w2 ++ [(r1, (0 : Int))]))) (List.length (w2 ++ [(r1, (0 : Int))])) : MObj))) (ai (range_at (od h8)) (ai (Int.natCast_nonneg (List.length w2)) (ai (mapV_setAt e3 (w2 ++ [(r1, (0 : Int))]) 1 (od h8)) (ai (mapK_setAt e74 (w2 ++ [(r1, (0 : Int))]) (List.length w2) 1) (ai (range_setAt (w2 ++ [(r1, (0 : Int))]) (List.length w2) 1) (ai ((msetAt_len (w2 ++ [(r1, (0 : Int))]) (List.length w2) 1).symm) trivial)))))))))))))))))))))))))) (by kernel_rfl)) (Weak.sel (E := []) (E' := []) (H := [.cells [.p (.ref [.int .i64 w0, .sl (List.map e62 w0_1) false])] 0, .cells [.mmap 2] 0, .mapS (mapK e74 (msetAt (w2 ++ [(r1, (0 : Int))]) (List.length w2) 1)) (mapV e3 (msetAt (w2 ++ [(r1, (0 : Int))]) (List.length w2) 1)) (List.range (List.length (msetAt (w2 ++ [(r1, (0 : Int))]) (List.length w2) 1))) (List.length (msetAt (w2 ++ [(r1, (0 : Int))]) (List.length w2) 1)), .loop 1 R17_1_1_1_1_0_1_0 [(4, .ptr 0 0 1), (6, .ptr 1 0 1)] none, .cells (rowI e2 w4) 0, .cells (rowI e2 w4) 0]) (H' := [.cells [.p (.ref [.int .i64 w0, .sl (List.map e62 w0_1) false])] 0, .cells [.mmap 2] 0, .mapS (mapK e74 (msetAt (w2 ++ [(r1, (0 : Int))]) (List.length w2) 1)) (mapV e3 (msetAt (w2 ++ [(r1, (0 : Int))]) (List.length w2) 1)) (List.range (List.length (msetAt (w2 ++ [(r1, (0 : Int))]) (List.length w2) 1))) (List.length (msetAt (w2 ++ [(r1, (0 : Int))]) (List.length w2) 1)), .loop 1 R17_1_1_1_1_0_1_0 [(4, .ptr 0 0 1), (6, .ptr 1 0 1)] none, .cells (rowI e2 w4) 0]) [0, 1, 2, 3, 4] (selH_cons (o := .cells [.p (.ref [.int .i64 w0, .sl (List.map e62 w0_1) false])] 0) (o' := .cells [.p (.ref [.int .i64 w0, .sl (List.map e62 w0_1) false])] 0) (by kernel_rfl) (sel_x (by kernel_rfl)) (selH_cons (o := .cells [.mmap 2] 0) (o' := .cells [.mmap 2] 0) (by kernel_rfl) (sel_x (by kernel_rfl)) (selH_cons (o := .mapS (mapK e74 (msetAt (w2 ++ [(r1, (0 : Int))]) (List.length w2) 1)) (mapV e3 (msetAt (w2 ++ [(r1, (0 : Int))]) (List.length w2) 1)) (List.range (List.length (msetAt (w2 ++ [(r1, (0 : Int))]) (List.length w2) 1))) (List.length (msetAt (w2 ++ [(r1, (0 : Int))]) (List.length w2) 1))) (o' := .mapS (mapK e74 (msetAt (w2 ++ [(r1, (0 : Int))]) (List.length w2) 1)) (mapV e3 (msetAt (w2 ++ [(r1, (0 : Int))]) (List.length w2) 1)) (List.range (List.length (msetAt (w2 ++ [(r1, (0 : Int))]) (List.length w2) 1))) (List.length (msetAt (w2 ++ [(r1, (0 : Int))]) (List.length w2) 1))) (by kernel_rfl) (by exact rfl) (selH_cons (o := .loop 1 R17_1_1_1_1_0_1_0 [(4, .ptr 0 0 1), (6, .ptr 1 0 1)] none) (o' := .loop 1 R17_1_1_1_1_0_1_0 [(4, .ptr 0 0 1), (6, .ptr 1 0 1)] none) (by kernel_rfl) (sel_loop (by kernel_rfl)) (selH_cons (o := .cells (rowI e2 w4) 0) (o' := .cells (rowI e2 w4) 0) (by kernel_rfl) sel_row trivial))))) (by kernel_rfl) (by kernel_rfl))) (by kernel_rfl) (by kernel_rfl : _ = (.p (.bool true), [.cells [.p (.ref [.int .i64 w0, .sl (List.map e62 w0_1) false])] 0, .cells [.mmap 2] 0, .mapS (mapK e74 (msetAt (w2 ++ [(r1, (0 : Int))]) (List.length w2) 1)) (mapV e3 (msetAt (w2 ++ [(r1, (0 : Int))]) (List.length w2) 1)) (List.range (List.length (msetAt (w2 ++ [(r1, (0 : Int))]) (List.length w2) 1))) (List.length (msetAt (w2 ++ [(r1, (0 : Int))]) (List.length w2) 1)), .loop 0 R17_1_1_1_1_0_1_0 [(4, .ptr 0 0 1), (6, .ptr 1 0 1)] none, .cells (rowI e2 w4) 0]))) (ai (SemJ.loop (L64_1_1_ok v1 v1_1 w0 w0_1 (msetAt (w2 ++ [(r1, (0 : Int))]) (List.length w2) 1) fuel (IntKind.wrap .i64 (v1 - 1)) w4 _ h9)) t)
      refine oif_elim g9 (fun h10 g10 => ?_) (fun h10 g10 => ?_)
      · have hr := Option.some.inj g10
        subst hr
        exact SemC.cast (SemJ.out (e := .ret) (SemC.post (path hm (σ' := ⟨[], [.cells [.p (.ref [.int .i64 w0, .sl (List.map e62 w0_1) false])] 0, .cells [.mmap 2] 0, .mapS (mapK e74 (msetAt (w2 ++ [(r1, (0 : Int))]) (List.length w2) 1)) (mapV e3 (msetAt (w2 ++ [(r1, (0 : Int))]) (List.length w2) 1)) (List.range (List.length (msetAt (w2 ++ [(r1, (0 : Int))]) (List.length w2) 1))) (List.length (msetAt (w2 ++ [(r1, (0 : Int))]) (List.length w2) 1)), .loop 0 R17_1_1_1_1_0_1_0 [(4, .ptr 0 0 1), (6, .ptr 1 0 1)] none, .cells (rowI e2 y2.2) 0]⟩) (ks := []) (cc := c34 ++ [.reg [] [] 0 [(1, none, .b true)] [0, 1, 3, 4, 28]])
        (q31 (q35 (ai h10 trivial))) (by kernel_rfl)) (Weak.sel (E := []) (E' := []) (H := [.cells [.p (.ref [.int .i64 w0, .sl (List.map e62 w0_1) false])] 0, .cells [.mmap 2] 0, .mapS (mapK e74 (msetAt (w2 ++ [(r1, (0 : Int))]) (List.length w2) 1)) (mapV e3 (msetAt (w2 ++ [(r1, (0 : Int))]) (List.length w2) 1)) (List.range (List.length (msetAt (w2 ++ [(r1, (0 : Int))]) (List.length w2) 1))) (List.length (msetAt (w2 ++ [(r1, (0 : Int))]) (List.length w2) 1)), .loop 0 R17_1_1_1_1_0_1_0 [(4, .ptr 0 0 1), (6, .ptr 1 0 1)] none, .cells (rowI e2 y2.2) 0]) (H' := [.cells [.p (.ref [.int .i64 w0, .sl (List.map e62 w0_1) false])] 0, .cells [.mmap 2] 0, .mapS (mapK e74 (msetAt (w2 ++ [(r1, (0 : Int))]) (List.length w2) 1)) (mapV e3 (msetAt (w2 ++ [(r1, (0 : Int))]) (List.length w2) 1)) (List.range (List.length (msetAt (w2 ++ [(r1, (0 : Int))]) (List.length w2) 1))) (List.length (msetAt (w2 ++ [(r1, (0 : Int))]) (List.length w2) 1)), .loop 0 R17_1_1_1_1_0_1_0 [(4, .ptr 0 0 1), (6, .ptr 1 0 1)] none]) [0, 1, 2, 3] (selH_cons (o := .cells [.p (.ref [.int .i64 w0, .sl (List.map e62 w0_1) false])] 0) (o' := .cells [.p (.ref [.int .i64 w0, .sl (List.map e62 w0_1) false])] 0) (by kernel_rfl) (sel_x (by kernel_rfl)) (selH_cons (o := .cells [.mmap 2] 0) (o' := .cells [.mmap 2] 0) (by kernel_rfl) (sel_x (by kernel_rfl)) (selH_cons (o := .mapS (mapK e74 (msetAt (w2 ++ [(r1, (0 : Int))]) (List.length w2) 1)) (mapV e3 (msetAt (w2 ++ [(r1, (0 : Int))]) (List.length w2) 1)) (List.range (List.length (msetAt (w2 ++ [(r1, (0 : Int))]) (List.length w2) 1))) (List.length (msetAt (w2 ++ [(r1, (0 : Int))]) (List.length w2) 1))) (o' := .mapS (mapK e74 (msetAt (w2 ++ [(r1, (0 : Int))]) (List.length w2) 1)) (mapV e3 (msetAt (w2 ++ [(r1, (0 : Int))]) (List.length w2) 1)) (List.range (List.length (msetAt (w2 ++ [(r1, (0 : Int))]) (List.length w2) 1))) (List.length (msetAt (w2 ++ [(r1, (0 : Int))]) (List.length w2) 1))) (by kernel_rfl) (by exact rfl) (selH_cons (o := .loop 0 R17_1_1_1_1_0_1_0 [(4, .ptr 0 0 1), (6, .ptr 1 0 1)] none) (o' := .loop 0 R17_1_1_1_1_0_1_0 [(4, .ptr 0 0 1), (6, .ptr 1 0 1)] none) (by kernel_rfl) (sel_loop (by kernel_rfl)) trivial)))) (by kernel_rfl) (by kernel_rfl))) (by simp)) (by kernel_rfl) (by kernel_rfl)
      · refine oif_elim g10 (fun h11 g11 => ?_) (fun _ h => nomatch h)
        refine oif_elim g11 (fun h12 g12 => ?_) (fun _ h => nomatch h)
        refine obind_elim g12 fun x3 h13 g13 => ?_
        exact SemJ.again (σ1 := ⟨[(0, .yld 3), (1, .p (.ref [.ref [.int .i64 v1, .sl (List.map e62 v1_1) false]])), (3, .ptr 4 0 (List.length (rowI e2 x3)))], [.cells [.p (.ref [.int .i64 w0, .sl (List.map e62 w0_1) false])] 0, .cells [.mmap 2] 0, .mapS (mapK e74 (msetAt (w2 ++ [(r1, (0 : Int))]) (List.length w2) 1)) (mapV e3 (msetAt (w2 ++ [(r1, (0 : Int))]) (List.length w2) 1)) (List.range (List.length (msetAt (w2 ++ [(r1, (0 : Int))]) (List.length w2) 1))) (List.length (msetAt (w2 ++ [(r1, (0 : Int))]) (List.length w2) 1)), .loop 0 R17_1_1_1_1_0_1_0 [(4, .ptr 0 0 1), (6, .ptr 1 0 1)] none, .cells (rowI e2 x3) 0]⟩) (SemC.post (path hm (σ' := ⟨[(0, .yld 3), (1, .p (.ref [.ref [.int .i64 v1, .sl (List.map e62 v1_1) false]])), (3, .ptr 4 0 (List.length (rowI e2 y2.2)))], [.cells [.p (.ref [.int .i64 w0, .sl (List.map e62 w0_1) false])] 0, .cells [.mmap 2] 0, .mapS (mapK e74 (msetAt (w2 ++ [(r1, (0 : Int))]) (List.length w2) 1)) (mapV e3 (msetAt (w2 ++ [(r1, (0 : Int))]) (List.length w2) 1)) (List.range (List.length (msetAt (w2 ++ [(r1, (0 : Int))]) (List.length w2) 1))) (List.length (msetAt (w2 ++ [(r1, (0 : Int))]) (List.length w2) 1)), .loop 0 R17_1_1_1_1_0_1_0 [(4, .ptr 0 0 1), (6, .ptr 1 0 1)] none, .cells (rowI e2 x3) 0]⟩) (ks := [0, 1, 3]) (cc := c34 ++ [.reg [] [] 0 [(1, none, .b false)] [0, 1, 3, 4, 28], .reg [] [] 0 [(2, none, .cs (rowI e2 x3))] [0, 1, 3]])
        (q31 (q35 (ai h10 (ai (od h11) (ai (od h12) (ai (rl (List.length (rowI e2 y2.2))) (ai (Nat.le_trans (row_fit el2 (stL_0 h13) (stL_lt h13)) (Nat.le_of_eq (rl (List.length (rowI e2 y2.2))))) (ai (row_put el2 h13) trivial)))))))) (by kernel_rfl)) (Weak.eq (congrArg (fun ZZ : Nat => (⟨[(0, .yld 3), (1, .p (.ref [.ref [.int .i64 v1, .sl (List.map e62 v1_1) false]])), (3, .ptr 4 0 ZZ)], [.cells [.p (.ref [.int .i64 w0, .sl (List.map e62 w0_1) false])] 0, .cells [.mmap 2] 0, .mapS (mapK e74 (msetAt (w2 ++ [(r1, (0 : Int))]) (List.length w2) 1)) (mapV e3 (msetAt (w2 ++ [(r1, (0 : Int))]) (List.length w2) 1)) (List.range (List.length (msetAt (w2 ++ [(r1, (0 : Int))]) (List.length w2) 1))) (List.length (msetAt (w2 ++ [(r1, (0 : Int))]) (List.length w2) 1)), .loop 0 R17_1_1_1_1_0_1_0 [(4, .ptr 0 0 1), (6, .ptr 1 0 1)] none, .cells (rowI e2 x3) 0]⟩ : St)) (Eq.symm ((row_setlen el2 h13).trans (rl (List.length (rowI e2 y2.2)))))))) (L64_1_0_ok v1 v1_1 w0 w0_1 fuel (msetAt (w2 ++ [(r1, (0 : Int))]) (List.length w2) 1) x3 _ g13)
def G64_1  (fuel : Nat) (p1 : Int) (p1_1 : (List (Int × Int))) (w0 : Int) (w0_1 : (List (Int × Int))) (w2 : (List ((List Int) × Int))) : Option (List ((List Int) × Int)) :=
  obind (L64_1_0 p1 p1_1 w0 w0_1 fuel w2 (List.replicate 8 (0 : Int))) fun y1 => some y1
noncomputable def G64_1_post (p1 : Int) (p1_1 : (List (Int × Int))) (w0 : Int) (w0_1 : (List (Int × Int))) (w2 : (List ((List Int) × Int)))  : (List ((List Int) × Int)) → IV × List MObj
  | y => (.tup [], [.cells [.p (.ref [.int .i64 w0, .sl (List.map e62 w0_1) false])] 0, .cells [.mmap 2] 0, .mapS (mapK e74 y) (mapV e3 y) (List.range (List.length y)) (List.length y), .loop 0 R17_1_1_1_1_0_1_0 [(4, .ptr 0 0 1), (6, .ptr 1 0 1)] none])
theorem G64_1_ok  (fuel : Nat) (p1 : Int) (p1_1 : (List (Int × Int))) (w0 : Int) (w0_1 : (List (Int × Int))) (w2 : (List ((List Int) × Int)))  (r : (List ((List Int) × Int))) (h : G64_1 fuel p1 p1_1 w0 w0_1 w2 = some r) : CallI prog 64 [.yld 3, .p (.ref [.ref [.int .i64 p1, .sl (List.map e62 p1_1) false]])] [.cells [.p (.ref [.int .i64 w0, .sl (List.map e62 w0_1) false])] 0, .cells [.mmap 2] 0, .mapS (mapK e74 w2) (mapV e3 w2) (List.range (List.length w2)) (List.length w2), .loop 0 R17_1_1_1_1_0_1_0 [(4, .ptr 0 0 1), (6, .ptr 1 0 1)] none] (G64_1_post p1 p1_1 w0 w0_1 w2 r).1 (G64_1_post p1 p1_1 w0 w0_1 w2 r).2 := by
  unfold G64_1 at h
  refine obind_elim h fun y1 h1 g1 => ?_
  have hr := Option.some.inj g1
  subst hr
  exact CallI.cast (callI_of is64 (by kernel_rfl) (m := 4) (by kernel_rfl) (e := .ret) (vs := []) (path hm (ks := []) (σ' := ⟨[], [.cells [.p (.ref [.int .i64 w0, .sl (List.map e62 w0_1) false])] 0, .cells [.mmap 2] 0, .mapS (mapK e74 y1) (mapV e3 y1) (List.range (List.length y1)) (List.length y1), .loop 0 R17_1_1_1_1_0_1_0 [(4, .ptr 0 0 1), (6, .ptr 1 0 1)] none]⟩) (cc := [.reg [] [] 1 [(0, some 4, .a)] [0, 1, 3], .leaf .ret ⟨[], [.cells [.p (.ref [.int .i64 w0, .sl (List.map e62 w0_1) false])] 0, .cells [.mmap 2] 0, .mapS (mapK e74 y1) (mapV e3 y1) (List.range (List.length y1)) (List.length y1), .loop 0 R17_1_1_1_1_0_1_0 [(4, .ptr 0 0 1), (6, .ptr 1 0 1)] none]⟩])
      (ai (SemJ.loop (L64_1_0_ok p1 p1_1 w0 w0_1 fuel w2 (List.replicate 8 (0 : Int)) _ h1)) trivial) (by kernel_rfl)) rfl (show True from trivial) (by kernel_rfl)) (by kernel_rfl)
def B17_0 (fuel : Nat) (u0 : Int) (u1 : (List (Int × Int))) (k : (List Int)) (v : Int) (s : (List ((List Int) × Int))) : Option ((List ((List Int) × Int)) ⊕ (List ((List Int) × Int))) :=
  oif (decide (List.length (List.replicate 8 (0 : Int)) = 8)) (oif (decide (List.length k = 8)) (obind (F46 fuel (u0, u1) k) fun r1 => oif (r1)
  (oif (List.all s (fun p => decide (List.length p.1 = 8))) (oif (mhas s k)
    (some (.inl (mdel s k)))
    (some (.inl s))) none)
  (some (.inl s))) none) none
def Z17_0 (fuel : Nat) (u0 : Int) (u1 : (List (Int × Int))) (s : (List ((List Int) × Int))) : Option (List ((List Int) × Int)) :=
  some (s)
noncomputable def L17_0_post (u0 : Int) (u1 : (List (Int × Int)))  : (List ((List Int) × Int)) → Ex × St
  | y => ((.exit 2), ⟨[(4, .ptr 0 0 1), (6, .ptr 1 0 1)], [.cells [.p (.ref [.int .i64 u0, .sl (List.map e62 u1) false])] 0, .cells [.mmap 2] 0, .map (mapK e74 y) (mapV e3 y)]⟩)
theorem L17_0_ind (fuel : Nat) (u0 : Int) (u1 : (List (Int × Int))) (p q : List ((List Int) × Int)) (s : (List ((List Int) × Int))) (r : (List ((List Int) × Int))) (hp : p.Perm q) (hn : (q.map (·.1)).Nodup) (h : mfold (B17_0 fuel u0 u1) (Z17_0 fuel u0 u1) q s = some r) : mfold (B17_0 fuel u0 u1) (Z17_0 fuel u0 u1) p s = some r := by
  refine mfold_filter (fun k v => oif (decide (List.length (List.replicate 8 (0 : Int)) = 8)) (oif (decide (List.length k = 8)) (F46 fuel (u0, u1) k) none) none) (fun s => List.all s (fun p => decide (List.length p.1 = 8))) (fun k v s => ?_) (fun s k hs => ?_) hp s r hn h
  · unfold B17_0
    cases decide (List.length (List.replicate 8 (0 : Int)) = 8) with
    | false => rfl
    | true =>
      cases decide (List.length k = 8) with
      | false => rfl
      | true =>
        simp only [oif_t]
        cases F46 fuel (u0, u1) k with
        | none => rfl
        | some b =>
          simp only [obind_some]
          cases hm : mhas s k with
          | true => rfl
          | false => rw [mdel_not s k hm]; rfl
  · rw [List.all_eq_true] at hs ⊢
    exact fun x hx => hs x (mdel_sub s k x hx)
theorem L17_0_ok (fuel : Nat) (u0 : Int) (u1 : (List (Int × Int)))  (s0 : (List ((List Int) × Int))) (r : (List ((List Int) × Int))) (hn : (List.map (·.1) s0).Nodup) (h : mfold (B17_0 fuel u0 u1) (Z17_0 fuel u0 u1) s0 s0 = some r) :
    SemJ prog ⟨57, 0, false⟩ (codeAt [1, 1, 1, 1, 1, 0, 1, 0, 0] (bodyOf f17)) ⟨[(4, .ptr 0 0 1), (6, .ptr 1 0 1), (37, .iter 3)], [.cells [.p (.ref [.int .i64 u0, .sl (List.map e62 u1) false])] 0, .cells [.mmap 2] 0, .mapS (mapK e74 s0) (mapV e3 s0) (List.range (List.length s0)) (List.length s0), .iter 2 ([] : List Nat) (List.length s0)]⟩ (L17_0_post u0 u1 r).1 (L17_0_post u0 u1 r).2 := by
  refine mapLoop (ek := e74) (ev := e3) (ti := 37) (d0 := 38) (d1 := 39) (li := 3) (m := 2) (c := List.length s0) (rest := codeAt [1, 1, 1, 1, 1, 0, 1, 0, 0, 1] (bodyOf f17)) (body := B17_0 fuel u0 u1) (fin := Z17_0 fuel u0 u1) (fun s => s) (fun s => [(4, .ptr 0 0 1), (6, .ptr 1 0 1), (37, .iter 3)]) (fun s x B => [.cells [.p (.ref [.int .i64 u0, .sl (List.map e62 u1) false])] 0, .cells [.mmap 2] 0, .mapS (mapK e74 s) (mapV e3 s) B (List.length s0), .iter 2 x (List.length s0)]) (L17_0_post u0 u1) (by kernel_rfl) (by kernel_rfl) (by kernel_rfl) (fun s => by kernel_rfl) (fun s x B => by kernel_rfl) (fun s x B => by kernel_rfl) (fun s x B y => by kernel_rfl) ?_ ?_ ?_ (List.length s0) s0 [] (List.range (List.length s0)) r s0 rfl ⟨by simp, List.nodup_range, hn, by unfold leftM; rw [leftM_nil]⟩ (fun p hp => L17_0_ind fuel u0 u1 p s0 s0 r hp hn h)
  · clear h hn
    generalize List.length s0 = c
    intro s x B r h
    unfold Z17_0 at h
    cases h; exact SemC.cast (SemK.out (e := (.exit 2)) (SemC.post (path hm (σ' := ⟨[(4, .ptr 0 0 1), (6, .ptr 1 0 1)], [.cells [.p (.ref [.int .i64 u0, .sl (List.map e62 u1) false])] 0, .cells [.mmap 2] 0, .mapS (mapK e74 s) (mapV e3 s) B c, .iter 2 x c]⟩) (ks := [4, 6]) (cc := [])
        trivial (by kernel_rfl)) (Weak.trans (Weak.forget (E := [(4, .ptr 0 0 1), (6, .ptr 1 0 1)]) (H := [.cells [.p (.ref [.int .i64 u0, .sl (List.map e62 u1) false])] 0, .cells [.mmap 2] 0, .mapS (mapK e74 s) (mapV e3 s) B c, .iter 2 x c]) (H' := [.cells [.p (.ref [.int .i64 u0, .sl (List.map e62 u1) false])] 0, .cells [.mmap 2] 0, .map (mapK e74 s) (mapV e3 s), .iter 2 x c]) (l := 2) (ks := mapK e74 s) (vs := mapV e3 s) (bs := B) (c := c) (by kernel_rfl) (by kernel_rfl)) (Weak.sel (E := [(4, .ptr 0 0 1), (6, .ptr 1 0 1)]) (E' := [(4, .ptr 0 0 1), (6, .ptr 1 0 1)]) (H := [.cells [.p (.ref [.int .i64 u0, .sl (List.map e62 u1) false])] 0, .cells [.mmap 2] 0, .map (mapK e74 s) (mapV e3 s), .iter 2 x c]) (H' := [.cells [.p (.ref [.int .i64 u0, .sl (List.map e62 u1) false])] 0, .cells [.mmap 2] 0, .map (mapK e74 s) (mapV e3 s)]) [0, 1, 2] (selH_cons (o := .cells [.p (.ref [.int .i64 u0, .sl (List.map e62 u1) false])] 0) (o' := .cells [.p (.ref [.int .i64 u0, .sl (List.map e62 u1) false])] 0) (by kernel_rfl) (sel_x (by kernel_rfl)) (selH_cons (o := .cells [.mmap 2] 0) (o' := .cells [.mmap 2] 0) (by kernel_rfl) (sel_x (by kernel_rfl)) (selH_cons (o := .map (mapK e74 s) (mapV e3 s)) (o' := .map (mapK e74 s) (mapV e3 s)) (by kernel_rfl) (by exact rfl) trivial))) (by kernel_rfl) (by kernel_rfl)))) (by simp)) (by kernel_rfl) (by kernel_rfl)
  · clear h hn
    generalize List.length s0 = c
    intro k v s x B j st s' hj hB h
    unfold B17_0 at h
    refine oif_elim h (fun h1 g1 => ?_) (fun _ h => nomatch h)
    refine oif_elim g1 (fun h2 g2 => ?_) (fun _ h => nomatch h)
    refine obind_elim g2 fun r1 h3 g3 => ?_
    let c36 : List CC := [.reg [] [] 1 [(0, none, .mp (Int.ofNat j) [.agg (rowP e2 k)] [] [] 0 (.int .i64 v)), (2, some 4, .a), (3, none, .ap (rowI e2 k) 0 0)] [4, 6, 8, 37]]
    have q37 := fun {P : Prop} (t : P) => ai (rl c) (ai (mapK_at e74 hj) (ai (mapV_at e3 hj) t))
    have q38 := fun {P : Prop} (t : P) => ai (row_wlen el2 (od h2) (rfl : 8 * 1 = 8)) (ai (row_scal el2 k) (ai (rl (List.length (rowI e2 (List.replicate 8 (0 : Int))))) (ai (row_wle el2 (od h1) (rfl : 8 * 1 = 8) (rl (List.length (rowI e2 (List.replicate 8 (0 : Int)))))) (ai (row_putall el2 (od h1) (od h2)) (ai ((row_same el2 (od h1) (od h2)).trans (rl (List.length (rowI e2 (List.replicate 8 (0 : Int)))))) (ai (row_wle el2 (od h2) (rfl : 8 * 1 = 8) ((row_same el2 (od h1) (od h2)).trans (rl (List.length (rowI e2 (List.replicate 8 (0 : Int))))))) (ai (row_wtake el2 (od h2) (rfl : 8 * 1 = 8)) (ai (F46_ok fuel (u0, u1) k _ h3) t))))))))
    refine oif_elim g3 (fun h4 g4 => ?_) (fun h4 g4 => ?_)
    · subst h4
      refine oif_elim g4 (fun h5 g5 => ?_) (fun _ h => nomatch h)
      let c39 : List CC := c36 ++ [.reg [] [] 0 [(2, none, .iv (.p (.agg (rowP e2 k)))), (3, none, .call (.bool true))] [4, 6, 8, 37, 45]]
      have q40 := fun {P : Prop} (t : P) => ai ((row_same el2 (od h1) (od h2)).trans (rl (List.length (rowI e2 (List.replicate 8 (0 : Int)))))) (ai (row_wle el2 (od h2) (rfl : 8 * 1 = 8) ((row_same el2 (od h1) (od h2)).trans (rl (List.length (rowI e2 (List.replicate 8 (0 : Int))))))) (ai (row_wtake el2 (od h2) (rfl : 8 * 1 = 8)) (ai (eqD_of (k := k) keq74 h2) t)))
      refine oif_elim g5 (fun h6 g6 => ?_) (fun h6 g6 => ?_)
      · cases g6; exact ⟨(List.eraseIdx B (midx s k)), SemC.cast (SemC.post (path hm (σ' := ⟨[(4, .ptr 0 0 1), (6, .ptr 1 0 1), (37, .iter 3)], [.cells [.p (.ref [.int .i64 u0, .sl (List.map e62 u1) false])] 0, .cells [.mmap 2] 0, .mapS (mapK e74 (mdel s k)) (mapV e3 (mdel s k)) (List.eraseIdx B (midx s k)) c, .iter 2 (x ++ [st]) c, .cells (rowI e2 k) 0]⟩) (ks := [4, 6, 37]) (cc := c39 ++ [.reg [] [] 0 [(1, none, .iv (.p (.agg (rowP e2 k)))), (2, none, .mp (Int.ofNat (midx s k)) (mapK e74 (mdel s k)) (mapV e3 (mdel s k)) (List.eraseIdx B (midx s k)) 0 .junk)] [4, 6, 37]])
        (q37 (ai (⟨st, hB, last_snoc⟩ : ∃ b, B[j]? = some b ∧ (x ++ [st]).getLast? = some b) (q38 (q40 (ai (find_yes (L := s) (k := k) keq74 h2 (fun p hp => List.all_eq_true.1 h5 p hp) h6) (ai (mapK_del e74 s k) (ai (mapV_del e3 s k) (ai (rl (List.eraseIdx B (midx s k))) trivial)))))))) (by kernel_rfl)) (Weak.sel (E := [(4, .ptr 0 0 1), (6, .ptr 1 0 1), (37, .iter 3)]) (E' := [(4, .ptr 0 0 1), (6, .ptr 1 0 1), (37, .iter 3)]) (H := [.cells [.p (.ref [.int .i64 u0, .sl (List.map e62 u1) false])] 0, .cells [.mmap 2] 0, .mapS (mapK e74 (mdel s k)) (mapV e3 (mdel s k)) (List.eraseIdx B (midx s k)) c, .iter 2 (x ++ [st]) c, .cells (rowI e2 k) 0]) (H' := [.cells [.p (.ref [.int .i64 u0, .sl (List.map e62 u1) false])] 0, .cells [.mmap 2] 0, .mapS (mapK e74 (mdel s k)) (mapV e3 (mdel s k)) (List.eraseIdx B (midx s k)) c, .iter 2 (x ++ [st]) c]) [0, 1, 2, 3] (selH_cons (o := .cells [.p (.ref [.int .i64 u0, .sl (List.map e62 u1) false])] 0) (o' := .cells [.p (.ref [.int .i64 u0, .sl (List.map e62 u1) false])] 0) (by kernel_rfl) (sel_x (by kernel_rfl)) (selH_cons (o := .cells [.mmap 2] 0) (o' := .cells [.mmap 2] 0) (by kernel_rfl) (sel_x (by kernel_rfl)) (selH_cons (o := .mapS (mapK e74 (mdel s k)) (mapV e3 (mdel s k)) (List.eraseIdx B (midx s k)) c) (o' := .mapS (mapK e74 (mdel s k)) (mapV e3 (mdel s k)) (List.eraseIdx B (midx s k)) c) (by kernel_rfl) (by exact rfl) (selH_cons (o := .iter 2 (x ++ [st]) c) (o' := .iter 2 (x ++ [st]) c) (by kernel_rfl) (sel_iter (by kernel_rfl)) trivial)))) (by kernel_rfl) (by kernel_rfl))) rfl (by kernel_rfl), .inr ⟨rfl, rfl⟩⟩
      · cases g6; exact ⟨B, SemC.cast (SemC.post (path hm (σ' := ⟨[(4, .ptr 0 0 1), (6, .ptr 1 0 1), (37, .iter 3)], [.cells [.p (.ref [.int .i64 u0, .sl (List.map e62 u1) false])] 0, .cells [.mmap 2] 0, .mapS (mapK e74 s) (mapV e3 s) B c, .iter 2 (x ++ [st]) c, .cells (rowI e2 k) 0]⟩) (ks := [4, 6, 37]) (cc := c39 ++ [.reg [] [] 0 [(1, none, .iv (.p (.agg (rowP e2 k)))), (2, none, .mp (Int.negSucc 0) [] [] [] 0 .junk)] [4, 6, 37]])
        (q37 (ai (⟨st, hB, last_snoc⟩ : ∃ b, B[j]? = some b ∧ (x ++ [st]).getLast? = some b) (q38 (q40 (ai (find_no (L := s) (k := k) keq74 h2 (fun p hp => List.all_eq_true.1 h5 p hp) h6) trivial))))) (by kernel_rfl)) (Weak.sel (E := [(4, .ptr 0 0 1), (6, .ptr 1 0 1), (37, .iter 3)]) (E' := [(4, .ptr 0 0 1), (6, .ptr 1 0 1), (37, .iter 3)]) (H := [.cells [.p (.ref [.int .i64 u0, .sl (List.map e62 u1) false])] 0, .cells [.mmap 2] 0, .mapS (mapK e74 s) (mapV e3 s) B c, .iter 2 (x ++ [st]) c, .cells (rowI e2 k) 0]) (H' := [.cells [.p (.ref [.int .i64 u0, .sl (List.map e62 u1) false])] 0, .cells [.mmap 2] 0, .mapS (mapK e74 s) (mapV e3 s) B c, .iter 2 (x ++ [st]) c]) [0, 1, 2, 3] (selH_cons (o := .cells [.p (.ref [.int .i64 u0, .sl (List.map e62 u1) false])] 0) (o' := .cells [.p (.ref [.int .i64 u0, .sl (List.map e62 u1) false])] 0) (by kernel_rfl) (sel_x (by kernel_rfl)) (selH_cons (o := .cells [.mmap 2] 0) (o' := .cells [.mmap 2] 0) (by kernel_rfl) (sel_x (by kernel_rfl)) (selH_cons (o := .mapS (mapK e74 s) (mapV e3 s) B c) (o' := .mapS (mapK e74 s) (mapV e3 s) B c) (by kernel_rfl) (by exact rfl) (selH_cons (o := .iter 2 (x ++ [st]) c) (o' := .iter 2 (x ++ [st]) c) (by kernel_rfl) (sel_iter (by kernel_rfl)) trivial)))) (by kernel_rfl) (by kernel_rfl))) rfl (by kernel_rfl), .inl ⟨rfl, rfl⟩⟩
    · subst h4
      cases g4; exact ⟨B, SemC.cast (SemC.post (path hm (σ' := ⟨[(4, .ptr 0 0 1), (6, .ptr 1 0 1), (37, .iter 3)], [.cells [.p (.ref [.int .i64 u0, .sl (List.map e62 u1) false])] 0, .cells [.mmap 2] 0, .mapS (mapK e74 s) (mapV e3 s) B c, .iter 2 (x ++ [st]) c, .cells (rowI e2 k) 0]⟩) (ks := [4, 6, 37]) (cc := c36 ++ [.reg [] [] 0 [(2, none, .iv (.p (.agg (rowP e2 k)))), (3, none, .call (.bool false))] [4, 6, 8, 37, 45]])
        (q37 (ai (⟨st, hB, last_snoc⟩ : ∃ b, B[j]? = some b ∧ (x ++ [st]).getLast? = some b) (q38 trivial))) (by kernel_rfl)) (Weak.sel (E := [(4, .ptr 0 0 1), (6, .ptr 1 0 1), (37, .iter 3)]) (E' := [(4, .ptr 0 0 1), (6, .ptr 1 0 1), (37, .iter 3)]) (H := [.cells [.p (.ref [.int .i64 u0, .sl (List.map e62 u1) false])] 0, .cells [.mmap 2] 0, .mapS (mapK e74 s) (mapV e3 s) B c, .iter 2 (x ++ [st]) c, .cells (rowI e2 k) 0]) (H' := [.cells [.p (.ref [.int .i64 u0, .sl (List.map e62 u1) false])] 0, .cells [.mmap 2] 0, .mapS (mapK e74 s) (mapV e3 s) B c, .iter 2 (x ++ [st]) c]) [0, 1, 2, 3] (selH_cons (o := .cells [.p (.ref [.int .i64 u0, .sl (List.map e62 u1) false])] 0) (o' := .cells [.p (.ref [.int .i64 u0, .sl (List.map e62 u1) false])] 0) (by kernel_rfl) (sel_x (by kernel_rfl)) (selH_cons (o := .cells [.mmap 2] 0) (o' := .cells [.mmap 2] 0) (by kernel_rfl) (sel_x (by kernel_rfl)) (selH_cons (o := .mapS (mapK e74 s) (mapV e3 s) B c) (o' := .mapS (mapK e74 s) (mapV e3 s) B c) (by kernel_rfl) (by exact rfl) (selH_cons (o := .iter 2 (x ++ [st]) c) (o' := .iter 2 (x ++ [st]) c) (by kernel_rfl) (sel_iter (by kernel_rfl)) trivial)))) (by kernel_rfl) (by kernel_rfl))) rfl (by kernel_rfl), .inl ⟨rfl, rfl⟩⟩
  · clear h hn
    generalize List.length s0 = c
    intro k v s x B j st r hj hB h
    unfold B17_0 at h
    refine oif_elim h (fun h1 g1 => ?_) (fun _ h => nomatch h)
    refine oif_elim g1 (fun h2 g2 => ?_) (fun _ h => nomatch h)
    refine obind_elim g2 fun r1 h3 g3 => ?_
    let c41 : List CC := [.reg [] [] 1 [(0, none, .mp (Int.ofNat j) [.agg (rowP e2 k)] [] [] 0 (.int .i64 v)), (2, some 4, .a), (3, none, .ap (rowI e2 k) 0 0)] [4, 6, 8, 37]]
    have q42 := fun {P : Prop} (t : P) => ai (rl c) (ai (mapK_at e74 hj) (ai (mapV_at e3 hj) t))
    have q43 := fun {P : Prop} (t : P) => ai (row_wlen el2 (od h2) (rfl : 8 * 1 = 8)) (ai (row_scal el2 k) (ai (rl (List.length (rowI e2 (List.replicate 8 (0 : Int))))) (ai (row_wle el2 (od h1) (rfl : 8 * 1 = 8) (rl (List.length (rowI e2 (List.replicate 8 (0 : Int)))))) (ai (row_putall el2 (od h1) (od h2)) (ai ((row_same el2 (od h1) (od h2)).trans (rl (List.length (rowI e2 (List.replicate 8 (0 : Int)))))) (ai (row_wle el2 (od h2) (rfl : 8 * 1 = 8) ((row_same el2 (od h1) (od h2)).trans (rl (List.length (rowI e2 (List.replicate 8 (0 : Int))))))) (ai (row_wtake el2 (od h2) (rfl : 8 * 1 = 8)) (ai (F46_ok fuel (u0, u1) k _ h3) t))))))))
    refine oif_elim g3 (fun h4 g4 => ?_) (fun h4 g4 => ?_)
    · subst h4
      refine oif_elim g4 (fun h5 g5 => ?_) (fun _ h => nomatch h)
      let c44 : List CC := c41 ++ [.reg [] [] 0 [(2, none, .iv (.p (.agg (rowP e2 k)))), (3, none, .call (.bool true))] [4, 6, 8, 37, 45]]
      have q45 := fun {P : Prop} (t : P) => ai ((row_same el2 (od h1) (od h2)).trans (rl (List.length (rowI e2 (List.replicate 8 (0 : Int)))))) (ai (row_wle el2 (od h2) (rfl : 8 * 1 = 8) ((row_same el2 (od h1) (od h2)).trans (rl (List.length (rowI e2 (List.replicate 8 (0 : Int))))))) (ai (row_wtake el2 (od h2) (rfl : 8 * 1 = 8)) (ai (eqD_of (k := k) keq74 h2) t)))
      refine oif_elim g5 (fun h6 g6 => ?_) (fun h6 g6 => ?_)
      · cases g6
      · cases g6
    · subst h4
      cases g4
def F17  (fuel : Nat) (p0 : (Int × (List (Int × Int)))) : Option (Int × Int) :=
  (obind (F39 fuel (p0.1, p0.2)) fun y1 => match y1 with
  | .inl y1 => oif ((y1 != 0))
    (some (0, y1))
    (none)
  | .inr (y1) => obind (F47 fuel ((p0.1, p0.2).1, (p0.1, p0.2).2)) fun y2 => obind (G64_1 fuel (((p0.1, p0.2).1, (p0.1, p0.2).2).1) (((p0.1, p0.2).1, (p0.1, p0.2).2).2) ((p0.1, p0.2).1) ((p0.1, p0.2).2) ([] : List ((List Int) × Int))) fun y3 => oif (decide (List.Nodup (List.map Prod.fst y3))) (obind (mfold (B17_0 fuel ((p0.1, p0.2).1) ((p0.1, p0.2).2)) (Z17_0 fuel ((p0.1, p0.2).1) ((p0.1, p0.2).2)) y3 y3) fun y4 => some ((IntKind.wrap .i64 ((IntKind.wrap .i64 ((y4.length : Int) + ((p0.1, p0.2).1))) + 1)), 0)) none)
theorem F17_ok  (fuel : Nat) (p0 : (Int × (List (Int × Int))))  (r : (Int × Int)) (h : F17 fuel p0 = some r) : CallP prog 17 [.agg [.int .i64 p0.1, .sl (List.map e62 p0.2) false]] (.tup [.int .i64 r.1, .int .i64 r.2]) := by
  unfold F17 at h
  refine obind_elim h fun y h1 g1 => ?_
  match y, h1, g1 with
  | .inl y1, h1, g1 =>
    refine oif_elim g1 (fun h2 g2 => ?_) (fun h2 g2 => ?_)
    · have hr := Option.some.inj g2
      subst hr
      exact callP_of is17 rfl (path hm (ks := [2, 3]) (σ' := ⟨[(2, .p (.int .i64 0)), (3, .p (.int .i64 y1))], [.cells [.p (.nilp)] 0]⟩) (cc := [.reg [] [] 0 [(0, none, .imm)] [1, 2, 3], .reg [] [] 1 [(1, none, .call (.tup [.nilp, .int .i64 y1])), (5, some 0, .a)] [2, 3, 4, 5], .reg [] [] 0 [(1, none, .b true)] [2, 3, 4, 5, 15], .reg [] [] 0 [] [2, 3]])
      (ai (F39_ok fuel (p0.1, p0.2) _ h1) (ai h2 trivial)) (by kernel_rfl)) (e := .ret) rfl (vs := [.p (.int .i64 0), .p (.int .i64 y1)]) trivial (by kernel_rfl) (.tup _ _ (.cons _ _ _ _ (.p _ _ (.refl _)) (.cons _ _ _ _ (.p _ _ (.refl _)) .nil)))
    · exact nomatch g2
  | .inr (y1), h1, g1 =>
    refine obind_elim g1 fun y2 h2 g2 => ?_
    refine obind_elim g2 fun y3 h3 g3 => ?_
    refine oif_elim g3 (fun h4 g4 => ?_) (fun _ h => nomatch h)
    refine obind_elim g4 fun y4 h5 g5 => ?_
    have hr := Option.some.inj g5
    subst hr
    exact callP_of is17 rfl (path hm (ks := [2, 3]) (σ' := ⟨[(2, .p (.int .i64 (IntKind.wrap .i64 ((IntKind.wrap .i64 ((y4.length : Int) + ((p0.1, p0.2).1))) + 1)))), (3, .p (.int .i64 0))], [.cells [.p (.ref [.int .i64 ((p0.1, p0.2).1), .sl (List.map e62 ((p0.1, p0.2).2)) false])] 0, .cells [.mmap 2] 0, .map (mapK e74 y4) (mapV e3 y4)]⟩) (cc := [.reg [] [] 0 [(0, none, .imm)] [1, 2, 3], .reg [] [] 1 [(1, none, .call (.tup [.ref [.int .i64 ((p0.1, p0.2).1), .sl (List.map e62 ((p0.1, p0.2).2)) false], .int .i64 0])), (5, some 0, .a)] [2, 3, 4, 5], .reg [] [] 0 [] [2, 3, 4, 5, 15], .reg [] [] 2 [(0, some 1, .a), (1, some 2, .a)] [2, 3, 4, 6], .reg [] [] 0 [(1, none, .call (.fn 64 [] [.ref [.ref [.int .i64 (((p0.1, p0.2).1, (p0.1, p0.2).2).1), .sl (List.map e62 (((p0.1, p0.2).1, (p0.1, p0.2).2).2)) false]]]))] [2, 3, 4, 6, 19], .leaf .normal ⟨[(2, .p (.int .i64 0)), (3, .p (.int .i64 0)), (4, .ptr 0 0 1), (6, .ptr 1 0 1), (19, .p (.fn 64 [] [.ref [.ref [.int .i64 (((p0.1, p0.2).1, (p0.1, p0.2).2).1), .sl (List.map e62 (((p0.1, p0.2).1, (p0.1, p0.2).2).2)) false]]]))], [.cells [.p (.ref [.int .i64 ((p0.1, p0.2).1), .sl (List.map e62 ((p0.1, p0.2).2)) false])] 0, .cells [.mmap 2] 0, .mapS (mapK e74 y3) (mapV e3 y3) (List.range (List.length y3)) (List.length y3), .dead]⟩, .reg [] [] 1 [(1, some 4, .a)] [4, 6, 37], .leaf (.exit 2) ⟨[(4, .ptr 0 0 1), (6, .ptr 1 0 1)], [.cells [.p (.ref [.int .i64 ((p0.1, p0.2).1), .sl (List.map e62 ((p0.1, p0.2).2)) false])] 0, .cells [.mmap 2] 0, .map (mapK e74 y4) (mapV e3 y4)]⟩, .reg [0, 1, 0, 4, 12, 28, 60, 127, 255, 511, 1023] [] 0 [(1, none, .n (y4.length : Int))] [2, 3]])
      (ai (F39_ok fuel (p0.1, p0.2) _ h1) (ai (F47_ok fuel ((p0.1, p0.2).1, (p0.1, p0.2).2) _ h2) (ai (SemC.pre (σ := ⟨[(2, .p (.int .i64 0)), (3, .p (.int .i64 0)), (4, .ptr 0 0 1), (6, .ptr 2 0 1), (19, .p (.fn 64 [] [.ref [.ref [.int .i64 (((p0.1, p0.2).1, (p0.1, p0.2).2).1), .sl (List.map e62 (((p0.1, p0.2).1, (p0.1, p0.2).2).2)) false]]]))], [.cells [.p (.ref [.int .i64 ((p0.1, p0.2).1), .sl (List.map e62 ((p0.1, p0.2).2)) false])] 0, .mapS (mapK e74 ([] : List ((List Int) × Int))) (mapV e3 ([] : List ((List Int) × Int))) (List.range (List.length ([] : List ((List Int) × Int)))) (List.length ([] : List ((List Int) × Int))), .cells [.mmap 1] 0]⟩) (range_of (P := prog) (nt := 57) (m := 0) (n := 3) (c := codeAt [1, 1, 1, 1, 0, 1, 0] (bodyOf f17)) (σ := ⟨[(2, .p (.int .i64 0)), (3, .p (.int .i64 0)), (4, .ptr 0 0 1), (6, .ptr 1 0 1), (19, .p (.fn 64 [] [.ref [.ref [.int .i64 (((p0.1, p0.2).1, (p0.1, p0.2).2).1), .sl (List.map e62 (((p0.1, p0.2).1, (p0.1, p0.2).2).2)) false]]]))], [.cells [.p (.ref [.int .i64 ((p0.1, p0.2).1), .sl (List.map e62 ((p0.1, p0.2).2)) false])] 0, .cells [.mmap 2] 0, .mapS (mapK e74 ([] : List ((List Int) × Int))) (mapV e3 ([] : List ((List Int) × Int))) (List.range (List.length ([] : List ((List Int) × Int)))) (List.length ([] : List ((List Int) × Int)))]⟩) (f := 64) (args := [.yld 3, .p (.ref [.ref [.int .i64 (((p0.1, p0.2).1, (p0.1, p0.2).2).1), .sl (List.map e62 (((p0.1, p0.2).1, (p0.1, p0.2).2).2)) false]])]) (H3 := [.cells [.p (.ref [.int .i64 ((p0.1, p0.2).1), .sl (List.map e62 ((p0.1, p0.2).2)) false])] 0, .cells [.mmap 2] 0, .mapS (mapK e74 y3) (mapV e3 y3) (List.range (List.length y3)) (List.length y3), .dead]) (e := .normal) (s := 0) (R := R17_1_1_1_1_0_1_0) (R' := R17_1_1_1_1_0_1_0) (env' := [(4, .ptr 0 0 1), (6, .ptr 1 0 1)]) [4, 6] (by kernel_rfl) (by kernel_rfl) (by kernel_rfl) (by kernel_rfl) (G64_1_ok fuel (((p0.1, p0.2).1, (p0.1, p0.2).2).1) (((p0.1, p0.2).1, (p0.1, p0.2).2).2) ((p0.1, p0.2).1) ((p0.1, p0.2).2) ([] : List ((List Int) × Int)) _ h3) (by kernel_rfl) rfl (by kernel_rfl)) (Weak.sel (E := [(2, .p (.int .i64 0)), (3, .p (.int .i64 0)), (4, .ptr 0 0 1), (6, .ptr 2 0 1), (19, .p (.fn 64 [] [.ref [.ref [.int .i64 (((p0.1, p0.2).1, (p0.1, p0.2).2).1), .sl (List.map e62 (((p0.1, p0.2).1, (p0.1, p0.2).2).2)) false]]]))]) (E' := [(2, .p (.int .i64 0)), (3, .p (.int .i64 0)), (4, .ptr 0 0 1), (6, .ptr 1 0 1), (19, .p (.fn 64 [] [.ref [.ref [.int .i64 (((p0.1, p0.2).1, (p0.1, p0.2).2).1), .sl (List.map e62 (((p0.1, p0.2).1, (p0.1, p0.2).2).2)) false]]]))]) (H := [.cells [.p (.ref [.int .i64 ((p0.1, p0.2).1), .sl (List.map e62 ((p0.1, p0.2).2)) false])] 0, .mapS (mapK e74 ([] : List ((List Int) × Int))) (mapV e3 ([] : List ((List Int) × Int))) (List.range (List.length ([] : List ((List Int) × Int)))) (List.length ([] : List ((List Int) × Int))), .cells [.mmap 1] 0]) (H' := [.cells [.p (.ref [.int .i64 ((p0.1, p0.2).1), .sl (List.map e62 ((p0.1, p0.2).2)) false])] 0, .cells [.mmap 2] 0, .mapS (mapK e74 ([] : List ((List Int) × Int))) (mapV e3 ([] : List ((List Int) × Int))) (List.range (List.length ([] : List ((List Int) × Int)))) (List.length ([] : List ((List Int) × Int)))]) [0, 2, 1] (selH_cons (o := .cells [.p (.ref [.int .i64 ((p0.1, p0.2).1), .sl (List.map e62 ((p0.1, p0.2).2)) false])] 0) (o' := .cells [.p (.ref [.int .i64 ((p0.1, p0.2).1), .sl (List.map e62 ((p0.1, p0.2).2)) false])] 0) (by kernel_rfl) (sel_x (by kernel_rfl)) (selH_cons (o := .cells [.mmap 1] 0) (o' := .cells [.mmap 2] 0) (by kernel_rfl) (sel_x (by kernel_rfl)) (selH_cons (o := .mapS (mapK e74 ([] : List ((List Int) × Int))) (mapV e3 ([] : List ((List Int) × Int))) (List.range (List.length ([] : List ((List Int) × Int)))) (List.length ([] : List ((List Int) × Int)))) (o' := .mapS (mapK e74 ([] : List ((List Int) × Int))) (mapV e3 ([] : List ((List Int) × Int))) (List.range (List.length ([] : List ((List Int) × Int)))) (List.length ([] : List ((List Int) × Int)))) (by kernel_rfl) (by exact rfl) trivial))) (by kernel_rfl) (by kernel_rfl))) (ai (SemC.pre (σ := ⟨[(4, .ptr 0 0 1), (6, .ptr 1 0 1), (37, .iter 4)], [.cells [.p (.ref [.int .i64 ((p0.1, p0.2).1), .sl (List.map e62 ((p0.1, p0.2).2)) false])] 0, .cells [.mmap 2] 0, .mapS (mapK e74 y3) (mapV e3 y3) (List.range (List.length y3)) (List.length y3), .dead, .iter 2 ([] : List Nat) (List.length y3)]⟩) (SemJ.loop (L17_0_ok fuel ((p0.1, p0.2).1) ((p0.1, p0.2).2) y3 _ (od h4) h5)) (Weak.sel (E := [(4, .ptr 0 0 1), (6, .ptr 1 0 1), (37, .iter 4)]) (E' := [(4, .ptr 0 0 1), (6, .ptr 1 0 1), (37, .iter 3)]) (H := [.cells [.p (.ref [.int .i64 ((p0.1, p0.2).1), .sl (List.map e62 ((p0.1, p0.2).2)) false])] 0, .cells [.mmap 2] 0, .mapS (mapK e74 y3) (mapV e3 y3) (List.range (List.length y3)) (List.length y3), .dead, .iter 2 ([] : List Nat) (List.length y3)]) (H' := [.cells [.p (.ref [.int .i64 ((p0.1, p0.2).1), .sl (List.map e62 ((p0.1, p0.2).2)) false])] 0, .cells [.mmap 2] 0, .mapS (mapK e74 y3) (mapV e3 y3) (List.range (List.length y3)) (List.length y3), .iter 2 ([] : List Nat) (List.length y3)]) [0, 1, 2, 4] (selH_cons (o := .cells [.p (.ref [.int .i64 ((p0.1, p0.2).1), .sl (List.map e62 ((p0.1, p0.2).2)) false])] 0) (o' := .cells [.p (.ref [.int .i64 ((p0.1, p0.2).1), .sl (List.map e62 ((p0.1, p0.2).2)) false])] 0) (by kernel_rfl) (sel_x (by kernel_rfl)) (selH_cons (o := .cells [.mmap 2] 0) (o' := .cells [.mmap 2] 0) (by kernel_rfl) (sel_x (by kernel_rfl)) (selH_cons (o := .mapS (mapK e74 y3) (mapV e3 y3) (List.range (List.length y3)) (List.length y3)) (o' := .mapS (mapK e74 y3) (mapV e3 y3) (List.range (List.length y3)) (List.length y3)) (by kernel_rfl) (by exact rfl) (selH_cons (o := .iter 2 ([] : List Nat) (List.length y3)) (o' := .iter 2 ([] : List Nat) (List.length y3)) (by kernel_rfl) (sel_iter (by kernel_rfl)) trivial)))) (by kernel_rfl) (by kernel_rfl))) (ai (congrArg (fun n : Nat => (n : Int)) (mapK_len e74 y4)) trivial))))) (by kernel_rfl)) (e := .ret) rfl (vs := [.p (.int .i64 (IntKind.wrap .i64 ((IntKind.wrap .i64 ((y4.length : Int) + ((p0.1, p0.2).1))) + 1))), .p (.int .i64 0)]) trivial (by kernel_rfl) (.tup _ _ (.cons _ _ _ _ (.p _ _ (.refl _)) (.cons _ _ _ _ (.p _ _ (.refl _)) .nil)))
def L64_2_1  (v1 : Int) (v1_1 : (List (Int × Int))) (w1 : Int) (w1_1 : (List (Int × Int))) (w1_2 : Int) : Nat → Int → (List Int) → Option (Int × (List Int))
  | 0, _, _ => none
  | fuel + 1, v4, w2 =>
    oif ((decide (v4 ≥ 0)))
    (oif (decide ((0:Int) ≤ v4)) (oif (decide ((v4 : Int) < ((8 : Nat) : Int))) (obind (sg w2 v4) fun x1 => oif ((x1 == 1))
      (obind (stL w2 v4 0) fun x2 => L64_2_1 v1 v1_1 w1 w1_1 w1_2 fuel (IntKind.wrap .i64 (v4 - 1)) x2)
      (some ((v4, w2)))) none) none)
    (some ((v4, w2)))
noncomputable def L64_2_1_post (v1 : Int) (v1_1 : (List (Int × Int))) (w1 : Int) (w1_1 : (List (Int × Int))) (w1_2 : Int)  : (Int × (List Int)) → Ex × St
  | y => ((.exit 2), ⟨[(0, .yld 1), (1, .p (.ref [.ref [.int .i64 v1, .sl (List.map e62 v1_1) false]])), (3, .ptr 2 0 (List.length (rowI e2 y.2))), (4, .p (.int .i64 y.1))], [.cells [.p (.bool true)] 0, .loop 0 R51_1_0_1_0 [(2, .p (.ref [.ref [.int .i64 w1, .sl (List.map e62 w1_1) false]])), (3, .p (.ref [.int .i64 w1_2])), (4, .ptr 0 0 1)] none, .cells (rowI e2 y.2) 0]⟩)
theorem L64_2_1_ok  (v1 : Int) (v1_1 : (List (Int × Int))) (w1 : Int) (w1_1 : (List (Int × Int))) (w1_2 : Int)  : ∀ (fuel : Nat) (v4 : Int) (w2 : (List Int)) (r : (Int × (List Int))), L64_2_1 v1 v1_1 w1 w1_1 w1_2 fuel v4 w2 = some r →
    SemJ prog ⟨31, 2, false⟩ (codeAt [1, 0, 0, 0, 1, 1, 0, 0, 0] (bodyOf f64)) ⟨[(0, .yld 1), (1, .p (.ref [.ref [.int .i64 v1, .sl (List.map e62 v1_1) false]])), (3, .ptr 2 0 (List.length (rowI e2 w2))), (4, .p (.int .i64 v4))], [.cells [.p (.bool true)] 0, .loop 0 R51_1_0_1_0 [(2, .p (.ref [.ref [.int .i64 w1, .sl (List.map e62 w1_1) false]])), (3, .p (.ref [.int .i64 w1_2])), (4, .ptr 0 0 1)] none, .cells (rowI e2 w2) 0]⟩ (L64_2_1_post v1 v1_1 w1 w1_1 w1_2 r).1 (L64_2_1_post v1 v1_1 w1 w1_1 w1_2 r).2
  | 0, _, _, _, h => nomatch h
  | fuel + 1, v4, w2, r, h => by
    unfold L64_2_1 at h
    refine oif_elim h (fun h1 g1 => ?_) (fun h1 g1 => ?_)
    · refine oif_elim g1 (fun h2 g2 => ?_) (fun _ h => nomatch h)
      refine oif_elim g2 (fun h3 g3 => ?_) (fun _ h => nomatch h)
      refine obind_elim g3 fun x1 h4 g4 => ?_
      have q46 := fun {P : Prop} (t : P) => ai h1 (ai (od h2) (ai (od h3) (ai (rl (List.length (rowI e2 w2))) (ai (row_get el2 h4 rfl) t))))
      refine oif_elim g4 (fun h5 g5 => ?_) (fun h5 g5 => ?_)
      · refine obind_elim g5 fun x2 h6 g6 => ?_
        exact SemJ.again (σ1 := ⟨[(0, .yld 1), (1, .p (.ref [.ref [.int .i64 v1, .sl (List.map e62 v1_1) false]])), (3, .ptr 2 0 (List.length (rowI e2 x2))), (4, .p (.int .i64 (IntKind.wrap .i64 (v4 - 1))))], [.cells [.p (.bool true)] 0, .loop 0 R51_1_0_1_0 [(2, .p (.ref [.ref [.int .i64 w1, .sl (List.map e62 w1_1) false]])), (3, .p (.ref [.int .i64 w1_2])), (4, .ptr 0 0 1)] none, .cells (rowI e2 x2) 0]⟩) (SemC.post (path hm (σ' := ⟨[(0, .yld 1), (1, .p (.ref [.ref [.int .i64 v1, .sl (List.map e62 v1_1) false]])), (3, .ptr 2 0 (List.length (rowI e2 w2))), (4, .p (.int .i64 (IntKind.wrap .i64 (v4 - 1))))], [.cells [.p (.bool true)] 0, .loop 0 R51_1_0_1_0 [(2, .p (.ref [.ref [.int .i64 w1, .sl (List.map e62 w1_1) false]])), (3, .p (.ref [.int .i64 w1_2])), (4, .ptr 0 0 1)] none, .cells (rowI e2 x2) 0]⟩) (ks := [0, 1, 3, 4]) (cc := [.reg [] [] 0 [(1, none, .b true), (5, none, .iv (.p (.int .i64 x1))), (6, none, .b true)] [0, 1, 3, 4, 22], .reg [] [] 0 [(2, none, .cs (rowI e2 x2))] [0, 1, 3, 4], .reg [] [] 0 [] [0, 1, 3, 4]])
        (q46 (ai h5 (ai (od h2) (ai (od h3) (ai (rl (List.length (rowI e2 w2))) (ai (Nat.le_trans (row_fit el2 (stL_0 h6) (stL_lt h6)) (Nat.le_of_eq (rl (List.length (rowI e2 w2))))) (ai (row_put el2 h6) trivial))))))) (by kernel_rfl)) (Weak.eq (congrArg (fun ZZ : Nat => (⟨[(0, .yld 1), (1, .p (.ref [.ref [.int .i64 v1, .sl (List.map e62 v1_1) false]])), (3, .ptr 2 0 ZZ), (4, .p (.int .i64 (IntKind.wrap .i64 (v4 - 1))))], [.cells [.p (.bool true)] 0, .loop 0 R51_1_0_1_0 [(2, .p (.ref [.ref [.int .i64 w1, .sl (List.map e62 w1_1) false]])), (3, .p (.ref [.int .i64 w1_2])), (4, .ptr 0 0 1)] none, .cells (rowI e2 x2) 0]⟩ : St)) (Eq.symm ((row_setlen el2 h6).trans (rl (List.length (rowI e2 w2)))))))) (L64_2_1_ok v1 v1_1 w1 w1_1 w1_2 fuel (IntKind.wrap .i64 (v4 - 1)) x2 _ g6)
      · have hr := Option.some.inj g5
        subst hr
        exact SemC.cast (SemJ.out (e := (.exit 2)) (path hm (σ' := ⟨[(0, .yld 1), (1, .p (.ref [.ref [.int .i64 v1, .sl (List.map e62 v1_1) false]])), (3, .ptr 2 0 (List.length (rowI e2 w2))), (4, .p (.int .i64 v4))], [.cells [.p (.bool true)] 0, .loop 0 R51_1_0_1_0 [(2, .p (.ref [.ref [.int .i64 w1, .sl (List.map e62 w1_1) false]])), (3, .p (.ref [.int .i64 w1_2])), (4, .ptr 0 0 1)] none, .cells (rowI e2 w2) 0]⟩) (ks := [0, 1, 3, 4]) (cc := [.reg [] [] 0 [(1, none, .b true), (5, none, .iv (.p (.int .i64 x1))), (6, none, .b false)] [0, 1, 3, 4, 22]])
        (q46 (ai h5 trivial)) (by kernel_rfl)) (by simp)) (by kernel_rfl) (by kernel_rfl)
    · have hr := Option.some.inj g1
      subst hr
      exact SemC.cast (SemJ.out (e := (.exit 2)) (path hm (σ' := ⟨[(0, .yld 1), (1, .p (.ref [.ref [.int .i64 v1, .sl (List.map e62 v1_1) false]])), (3, .ptr 2 0 (List.length (rowI e2 w2))), (4, .p (.int .i64 v4))], [.cells [.p (.bool true)] 0, .loop 0 R51_1_0_1_0 [(2, .p (.ref [.ref [.int .i64 w1, .sl (List.map e62 w1_1) false]])), (3, .p (.ref [.int .i64 w1_2])), (4, .ptr 0 0 1)] none, .cells (rowI e2 w2) 0]⟩) (ks := [0, 1, 3, 4]) (cc := [.reg [] [] 0 [(1, none, .b false)] [0, 1, 3, 4, 22]])
        (ai h1 trivial) (by kernel_rfl)) (by simp)) (by kernel_rfl) (by kernel_rfl)
def L64_2_0  (v1 : Int) (v1_1 : (List (Int × Int))) (w1 : Int) (w1_1 : (List (Int × Int))) (w1_2 : Int) : Nat → (List Int) → Option (Unit ⊕ Unit)
  | 0, _ => none
  | fuel + 1, w2 =>
    oif (decide (List.length w2 = 8)) (oif (decide (List.length (List.replicate 8 (0 : Int)) = 8)) (obind (F40 fuel (w1, w1_1) w2 w1_2) fun r1 => oif (decide (List.length r1 = 8)) (obind (F40 fuel (w1, w1_1) w2 (IntKind.wrap .i64 (w1_2 + 1))) fun r2 => oif (decide (List.length r2 = 8)) (oif ((r2 == r1))
    (obind (L64_2_1 v1 v1_1 w1 w1_1 w1_2 fuel (IntKind.wrap .i64 (v1 - 1)) w2) fun y3 => oif ((decide (y3.1 < 0)))
      (some (.inl ()))
      (oif (decide ((0:Int) ≤ y3.1)) (oif (decide ((y3.1 : Int) < ((8 : Nat) : Int))) (obind (stL y3.2 y3.1 1) fun x4 => L64_2_0 v1 v1_1 w1 w1_1 w1_2 fuel x4) none) none))
    (some (.inr (())))) none) none) none) none
noncomputable def L64_2_0_post (v1 : Int) (v1_1 : (List (Int × Int))) (w1 : Int) (w1_1 : (List (Int × Int))) (w1_2 : Int)  : (Unit ⊕ Unit) → Ex × St
  | .inl y => (.ret, ⟨[], [.cells [.p (.bool true)] 0, .loop 0 R51_1_0_1_0 [(2, .p (.ref [.ref [.int .i64 w1, .sl (List.map e62 w1_1) false]])), (3, .p (.ref [.int .i64 w1_2])), (4, .ptr 0 0 1)] none]⟩)
  | .inr (y) => (.ret, ⟨[], [.cells [.p (.bool false)] 0, .loop 2 R51_1_0_1_0 [(2, .p (.ref [.ref [.int .i64 w1, .sl (List.map e62 w1_1) false]])), (3, .p (.ref [.int .i64 w1_2])), (4, .ptr 0 0 1)] (some .ret)]⟩)
theorem L64_2_0_ok  (v1 : Int) (v1_1 : (List (Int × Int))) (w1 : Int) (w1_1 : (List (Int × Int))) (w1_2 : Int)  : ∀ (fuel : Nat) (w2 : (List Int)) (r : (Unit ⊕ Unit)), L64_2_0 v1 v1_1 w1 w1_1 w1_2 fuel w2 = some r →
    SemJ prog ⟨31, 2, false⟩ (codeAt [1, 0, 0] (bodyOf f64)) ⟨[(0, .yld 1), (1, .p (.ref [.ref [.int .i64 v1, .sl (List.map e62 v1_1) false]])), (3, .ptr 2 0 (List.length (rowI e2 w2)))], [.cells [.p (.bool true)] 0, .loop 0 R51_1_0_1_0 [(2, .p (.ref [.ref [.int .i64 w1, .sl (List.map e62 w1_1) false]])), (3, .p (.ref [.int .i64 w1_2])), (4, .ptr 0 0 1)] none, .cells (rowI e2 w2) 0]⟩ (L64_2_0_post v1 v1_1 w1 w1_1 w1_2 r).1 (L64_2_0_post v1 v1_1 w1 w1_1 w1_2 r).2
  | 0, _, _, h => nomatch h
  | fuel + 1, w2, r, h => by
    unfold L64_2_0 at h
    refine oif_elim h (fun h1 g1 => ?_) (fun _ h => nomatch h)
    refine oif_elim g1 (fun h2 g2 => ?_) (fun _ h => nomatch h)
    refine obind_elim g2 fun r1 h3 g3 => ?_
    refine oif_elim g3 (fun h4 g4 => ?_) (fun _ h => nomatch h)
    refine obind_elim g4 fun r2 h5 g5 => ?_
    refine oif_elim g5 (fun h6 g6 => ?_) (fun _ h => nomatch h)
    have q47 := fun {P : Prop} (t : P) => ai (rl (List.length (rowI e2 w2))) (ai (row_wle el2 (od h1) (rfl : 8 * 1 = 8) (rl (List.length (rowI e2 w2)))) (ai (row_wtake el2 (od h1) (rfl : 8 * 1 = 8)) t))
    refine oif_elim g6 (fun h7 g7 => ?_) (fun h7 g7 => ?_)
    · refine obind_elim g7 fun y3 h8 g8 => ?_
      let c48 : List CC := [.reg [] [] 0 [(1, none, .iv (.p (.agg (rowP e2 w2)))), (2, none, .ci (.p (.bool true)) [])] [0, 1, 3, 8], .reg [] [] 0 [] [0, 1, 3, 4], .leaf (.exit 2) ⟨[(0, .yld 1), (1, .p (.ref [.ref [.int .i64 v1, .sl (List.map e62 v1_1) false]])), (3, .ptr 2 0 (List.length (rowI e2 y3.2))), (4, .p (.int .i64 y3.1))], [.cells [.p (.bool true)] 0, .loop 0 R51_1_0_1_0 [(2, .p (.ref [.ref [.int .i64 w1, .sl (List.map e62 w1_1) false]])), (3, .p (.ref [.int .i64 w1_2])), (4, .ptr 0 0 1)] none, .cells (rowI e2 y3.2) 0]⟩]
      have q49 := fun {P : Prop} (t : P) => ai (roundI_of (P := prog) (l := 1) (args := [.p (.agg (rowP e2 w2))]) (H := [.cells [.p (.bool true)] 0, .loop 0 R51_1_0_1_0 [(2, .p (.ref [.ref [.int .i64 w1, .sl (List.map e62 w1_1) false]])), (3, .p (.ref [.int .i64 w1_2])), (4, .ptr 0 0 1)] none, .cells (rowI e2 w2) 0]) (R := R51_1_0_1_0) (env := [(2, .p (.ref [.ref [.int .i64 w1, .sl (List.map e62 w1_1) false]])), (3, .p (.ref [.int .i64 w1_2])), (4, .ptr 0 0 1)]) (env1 := [(2, .p (.ref [.ref [.int .i64 w1, .sl (List.map e62 w1_1) false]])), (3, .p (.ref [.int .i64 w1_2])), (4, .ptr 0 0 1)]) (env2 := [(2, .p (.ref [.ref [.int .i64 w1, .sl (List.map e62 w1_1) false]])), (3, .p (.ref [.int .i64 w1_2])), (4, .ptr 0 0 1)]) (m := 3) (e := .normal) (by kernel_rfl) (by kernel_rfl) (by kernel_rfl) (by kernel_rfl) (path hm (σ' := ⟨[(2, .p (.ref [.ref [.int .i64 w1, .sl (List.map e62 w1_1) false]])), (3, .p (.ref [.int .i64 w1_2])), (4, .ptr 0 0 1), (5, .ptr 3 0 (List.length (rowI e2 (List.replicate 8 (0 : Int)))))], [.cells [.p (.bool true)] 0, .loop 0 R51_1_0_1_0 [(2, .p (.ref [.ref [.int .i64 w1, .sl (List.map e62 w1_1) false]])), (3, .p (.ref [.int .i64 w1_2])), (4, .ptr 0 0 1)] none, .cells (rowI e2 w2) 0, .cells (rowI e2 w2) 0]⟩) (ks := [2, 3, 4, 5]) (cc := [.reg [] [] 1 [(0, some 3, .a), (1, none, .ap (rowI e2 w2) 0 0)] [2, 3, 4, 5]]) (ai (row_wlen el2 (od h1) (rfl : 8 * 1 = 8)) (ai (row_scal el2 w2) (ai (rl (List.length (rowI e2 (List.replicate 8 (0 : Int))))) (ai (row_wle el2 (od h2) (rfl : 8 * 1 = 8) (rl (List.length (rowI e2 (List.replicate 8 (0 : Int)))))) (ai (row_putall el2 (od h2) (od h1)) trivial))))) (by kernel_rfl)) (by kernel_rfl) (SemC.post (path hm (σ' := ⟨[], [.cells [.p (.bool true)] 0, .loop 1 R51_1_0_1_0 [(2, .p (.ref [.ref [.int .i64 w1, .sl (List.map e62 w1_1) false]])), (3, .p (.ref [.int .i64 w1_2])), (4, .ptr 0 0 1)] none, .cells (rowI e2 w2) 0, .cells (rowI e2 w2) 0, .cells (rowI e2 r1) 0]⟩) (ks := []) (cc := [.reg [] [] 1 [(1, none, .iv (.p (.agg (rowP e2 w2)))), (3, none, .call (.agg (rowP e2 r1))), (4, some 4, .a), (5, none, .ap (rowI e2 r1) 0 0)] [2, 3, 4, 5, 6], .reg [0, 0, 0, 4, 15, 0, 63] [] 0 [(1, none, .iv (.p (.agg (rowP e2 w2)))), (4, none, .call (.agg (rowP e2 r2))), (5, none, .iv (.p (.agg (rowP e2 r1)))), (6, none, .call (.bool true))] [4, 20]]) (ai ((row_same el2 (od h2) (od h1)).trans (rl (List.length (rowI e2 (List.replicate 8 (0 : Int)))))) (ai (row_wle el2 (od h1) (rfl : 8 * 1 = 8) ((row_same el2 (od h2) (od h1)).trans (rl (List.length (rowI e2 (List.replicate 8 (0 : Int))))))) (ai (row_wtake el2 (od h1) (rfl : 8 * 1 = 8)) (ai (F40_ok fuel (w1, w1_1) w2 w1_2 _ h3) (ai (row_wlen el2 (od h4) (rfl : 8 * 1 = 8)) (ai (row_scal el2 r1) (ai (rl (List.length (rowI e2 (List.replicate 8 (0 : Int))))) (ai (row_wle el2 (od h2) (rfl : 8 * 1 = 8) (rl (List.length (rowI e2 (List.replicate 8 (0 : Int)))))) (ai (row_putall el2 (od h2) (od h4)) (ai ((row_same el2 (od h2) (od h1)).trans (rl (List.length (rowI e2 (List.replicate 8 (0 : Int)))))) (ai (row_wle el2 (od h1) (rfl : 8 * 1 = 8) ((row_same el2 (od h2) (od h1)).trans (rl (List.length (rowI e2 (List.replicate 8 (0 : Int))))))) (ai (row_wtake el2 (od h1) (rfl : 8 * 1 = 8)) (ai (F40_ok fuel (w1, w1_1) w2 (IntKind.wrap .i64 (w1_2 + 1)) _ h5) (ai ((row_same el2 (od h2) (od h4)).trans (rl (List.length (rowI e2 (List.replicate 8 (0 : Int)))))) (ai (row_wle el2 (od h4) (rfl : 8 * 1 = 8) ((row_same el2 (od h2) (od h4)).trans (rl (List.length (rowI e2 (List.replicate 8 (0 : Int))))))) (ai (row_wtake el2 (od h4) (rfl : 8 * 1 = 8)) (ai ((eqPV_row (P := prog) (t := 58) (d := 9999) (L := r2) (M := r1) el2 eqr2 (by kernel_rfl : prog.underlying 58 = some (.array 8 2)) (by kernel_rfl : prog.info? 2 = some t2) (by kernel_rfl) (od h6) (od h4)).trans (congrArg some h7)) trivial))))))))))))))))) (by kernel_rfl)) (Weak.sel (E := []) (E' := []) (H := [.cells [.p (.bool true)] 0, .loop 1 R51_1_0_1_0 [(2, .p (.ref [.ref [.int .i64 w1, .sl (List.map e62 w1_1) false]])), (3, .p (.ref [.int .i64 w1_2])), (4, .ptr 0 0 1)] none, .cells (rowI e2 w2) 0, .cells (rowI e2 w2) 0, .cells (rowI e2 r1) 0]) (H' := [.cells [.p (.bool true)] 0, .loop 1 R51_1_0_1_0 [(2, .p (.ref [.ref [.int .i64 w1, .sl (List.map e62 w1_1) false]])), (3, .p (.ref [.int .i64 w1_2])), (4, .ptr 0 0 1)] none, .cells (rowI e2 w2) 0]) [0, 1, 2] (selH_cons (o := .cells [.p (.bool true)] 0) (o' := .cells [.p (.bool true)] 0) (by kernel_rfl) (sel_x (by kernel_rfl)) (selH_cons (o := .loop 1 R51_1_0_1_0 [(2, .p (.ref [.ref [.int .i64 w1, .sl (List.map e62 w1_1) false]])), (3, .p (.ref [.int .i64 w1_2])), (4, .ptr 0 0 1)] none) (o' := .loop 1 R51_1_0_1_0 [(2, .p (.ref [.ref [.int .i64 w1, .sl (List.map e62 w1_1) false]])), (3, .p (.ref [.int .i64 w1_2])), (4, .ptr 0 0 1)] none) (by kernel_rfl) (sel_loop (by kernel_rfl)) (selH_cons (o := .cells (rowI e2 w2) 0) (o' := .cells (rowI e2 w2) 0) (by kernel_rfl) sel_row trivial))) (by kernel_rfl) (by kernel_rfl))) (by kernel_rfl) (by kernel_rfl : _ = (.p (.bool true), [.cells [.p (.bool true)] 0, .loop 0 R51_1_0_1_0 [(2, .p (.ref [.ref [.int .i64 w1, .sl (List.map e62 w1_1) false]])), (3, .p (.ref [.int .i64 w1_2])), (4, .ptr 0 0 1)] none, .cells (rowI e2 w2) 0]))) (ai (SemJ.loop (L64_2_1_ok v1 v1_1 w1 w1_1 w1_2 fuel (IntKind.wrap .i64 (v1 - 1)) w2 _ h8)) t)
      refine oif_elim g8 (fun h9 g9 => ?_) (fun h9 g9 => ?_)
      · have hr := Option.some.inj g9
        subst hr
        exact SemC.cast (SemJ.out (e := .ret) (SemC.post (path hm (σ' := ⟨[], [.cells [.p (.bool true)] 0, .loop 0 R51_1_0_1_0 [(2, .p (.ref [.ref [.int .i64 w1, .sl (List.map e62 w1_1) false]])), (3, .p (.ref [.int .i64 w1_2])), (4, .ptr 0 0 1)] none, .cells (rowI e2 y3.2) 0]⟩) (ks := []) (cc := c48 ++ [.reg [] [] 0 [(1, none, .b true)] [0, 1, 3, 4, 28]])
        (q47 (q49 (ai h9 trivial))) (by kernel_rfl)) (Weak.sel (E := []) (E' := []) (H := [.cells [.p (.bool true)] 0, .loop 0 R51_1_0_1_0 [(2, .p (.ref [.ref [.int .i64 w1, .sl (List.map e62 w1_1) false]])), (3, .p (.ref [.int .i64 w1_2])), (4, .ptr 0 0 1)] none, .cells (rowI e2 y3.2) 0]) (H' := [.cells [.p (.bool true)] 0, .loop 0 R51_1_0_1_0 [(2, .p (.ref [.ref [.int .i64 w1, .sl (List.map e62 w1_1) false]])), (3, .p (.ref [.int .i64 w1_2])), (4, .ptr 0 0 1)] none]) [0, 1] (selH_cons (o := .cells [.p (.bool true)] 0) (o' := .cells [.p (.bool true)] 0) (by kernel_rfl) (sel_x (by kernel_rfl)) (selH_cons (o := .loop 0 R51_1_0_1_0 [(2, .p (.ref [.ref [.int .i64 w1, .sl (List.map e62 w1_1) false]])), (3, .p (.ref [.int .i64 w1_2])), (4, .ptr 0 0 1)] none) (o' := .loop 0 R51_1_0_1_0 [(2, .p (.ref [.ref [.int .i64 w1, .sl (List.map e62 w1_1) false]])), (3, .p (.ref [.int .i64 w1_2])), (4, .ptr 0 0 1)] none) (by kernel_rfl) (sel_loop (by kernel_rfl)) trivial)) (by kernel_rfl) (by kernel_rfl))) (by simp)) (by kernel_rfl) (by kernel_rfl)
      · refine oif_elim g9 (fun h10 g10 => ?_) (fun _ h => nomatch h)
        refine oif_elim g10 (fun h11 g11 => ?_) (fun _ h => nomatch h)
        refine obind_elim g11 fun x4 h12 g12 => ?_
        exact SemJ.again (σ1 := ⟨[(0, .yld 1), (1, .p (.ref [.ref [.int .i64 v1, .sl (List.map e62 v1_1) false]])), (3, .ptr 2 0 (List.length (rowI e2 x4)))], [.cells [.p (.bool true)] 0, .loop 0 R51_1_0_1_0 [(2, .p (.ref [.ref [.int .i64 w1, .sl (List.map e62 w1_1) false]])), (3, .p (.ref [.int .i64 w1_2])), (4, .ptr 0 0 1)] none, .cells (rowI e2 x4) 0]⟩) (SemC.post (path hm (σ' := ⟨[(0, .yld 1), (1, .p (.ref [.ref [.int .i64 v1, .sl (List.map e62 v1_1) false]])), (3, .ptr 2 0 (List.length (rowI e2 y3.2)))], [.cells [.p (.bool true)] 0, .loop 0 R51_1_0_1_0 [(2, .p (.ref [.ref [.int .i64 w1, .sl (List.map e62 w1_1) false]])), (3, .p (.ref [.int .i64 w1_2])), (4, .ptr 0 0 1)] none, .cells (rowI e2 x4) 0]⟩) (ks := [0, 1, 3]) (cc := c48 ++ [.reg [] [] 0 [(1, none, .b false)] [0, 1, 3, 4, 28], .reg [] [] 0 [(2, none, .cs (rowI e2 x4))] [0, 1, 3]])
        (q47 (q49 (ai h9 (ai (od h10) (ai (od h11) (ai (rl (List.length (rowI e2 y3.2))) (ai (Nat.le_trans (row_fit el2 (stL_0 h12) (stL_lt h12)) (Nat.le_of_eq (rl (List.length (rowI e2 y3.2))))) (ai (row_put el2 h12) trivial)))))))) (by kernel_rfl)) (Weak.eq (congrArg (fun ZZ : Nat => (⟨[(0, .yld 1), (1, .p (.ref [.ref [.int .i64 v1, .sl (List.map e62 v1_1) false]])), (3, .ptr 2 0 ZZ)], [.cells [.p (.bool true)] 0, .loop 0 R51_1_0_1_0 [(2, .p (.ref [.ref [.int .i64 w1, .sl (List.map e62 w1_1) false]])), (3, .p (.ref [.int .i64 w1_2])), (4, .ptr 0 0 1)] none, .cells (rowI e2 x4) 0]⟩ : St)) (Eq.symm ((row_setlen el2 h12).trans (rl (List.length (rowI e2 y3.2)))))))) (L64_2_0_ok v1 v1_1 w1 w1_1 w1_2 fuel x4 _ g12)
    · have hr := Option.some.inj g7
      subst hr
      exact SemC.cast (SemJ.out (e := .ret) (SemC.post (path hm (σ' := ⟨[], [.cells [.p (.bool false)] 0, .loop 2 R51_1_0_1_0 [(2, .p (.ref [.ref [.int .i64 w1, .sl (List.map e62 w1_1) false]])), (3, .p (.ref [.int .i64 w1_2])), (4, .ptr 0 0 1)] (some .ret), .cells (rowI e2 w2) 0]⟩) (ks := []) (cc := [.reg [] [] 0 [(1, none, .iv (.p (.agg (rowP e2 w2)))), (2, none, .ci (.p (.bool false)) [(0, .cells [.p (.bool false)] 0), (1, .loop 2 R51_1_0_1_0 [(2, .p (.ref [.ref [.int .i64 w1, .sl (List.map e62 w1_1) false]])), (3, .p (.ref [.int .i64 w1_2])), (4, .ptr 0 0 1)] (some .ret))])] [0, 1, 3, 8]])
        (q47 (ai (roundI_of (P := prog) (l := 1) (args := [.p (.agg (rowP e2 w2))]) (H := [.cells [.p (.bool true)] 0, .loop 0 R51_1_0_1_0 [(2, .p (.ref [.ref [.int .i64 w1, .sl (List.map e62 w1_1) false]])), (3, .p (.ref [.int .i64 w1_2])), (4, .ptr 0 0 1)] none, .cells (rowI e2 w2) 0]) (R := R51_1_0_1_0) (env := [(2, .p (.ref [.ref [.int .i64 w1, .sl (List.map e62 w1_1) false]])), (3, .p (.ref [.int .i64 w1_2])), (4, .ptr 0 0 1)]) (env1 := [(2, .p (.ref [.ref [.int .i64 w1, .sl (List.map e62 w1_1) false]])), (3, .p (.ref [.int .i64 w1_2])), (4, .ptr 0 0 1)]) (env2 := [(2, .p (.ref [.ref [.int .i64 w1, .sl (List.map e62 w1_1) false]])), (3, .p (.ref [.int .i64 w1_2])), (4, .ptr 0 0 1)]) (m := 3) (e := .ret) (by kernel_rfl) (by kernel_rfl) (by kernel_rfl) (by kernel_rfl) (path hm (σ' := ⟨[(2, .p (.ref [.ref [.int .i64 w1, .sl (List.map e62 w1_1) false]])), (3, .p (.ref [.int .i64 w1_2])), (4, .ptr 0 0 1), (5, .ptr 3 0 (List.length (rowI e2 (List.replicate 8 (0 : Int)))))], [.cells [.p (.bool true)] 0, .loop 0 R51_1_0_1_0 [(2, .p (.ref [.ref [.int .i64 w1, .sl (List.map e62 w1_1) false]])), (3, .p (.ref [.int .i64 w1_2])), (4, .ptr 0 0 1)] none, .cells (rowI e2 w2) 0, .cells (rowI e2 w2) 0]⟩) (ks := [2, 3, 4, 5]) (cc := [.reg [] [] 1 [(0, some 3, .a), (1, none, .ap (rowI e2 w2) 0 0)] [2, 3, 4, 5]]) (ai (row_wlen el2 (od h1) (rfl : 8 * 1 = 8)) (ai (row_scal el2 w2) (ai (rl (List.length (rowI e2 (List.replicate 8 (0 : Int))))) (ai (row_wle el2 (od h2) (rfl : 8 * 1 = 8) (rl (List.length (rowI e2 (List.replicate 8 (0 : Int)))))) (ai (row_putall el2 (od h2) (od h1)) trivial))))) (by kernel_rfl)) (by kernel_rfl) (SemC.post (path hm (σ' := ⟨[], [.cells [.p (.bool false)] 0, .loop 1 R51_1_0_1_0 [(2, .p (.ref [.ref [.int .i64 w1, .sl (List.map e62 w1_1) false]])), (3, .p (.ref [.int .i64 w1_2])), (4, .ptr 0 0 1)] none, .cells (rowI e2 w2) 0, .cells (rowI e2 w2) 0, .cells (rowI e2 r1) 0]⟩) (ks := []) (cc := [.reg [] [] 1 [(1, none, .iv (.p (.agg (rowP e2 w2)))), (3, none, .call (.agg (rowP e2 r1))), (4, some 4, .a), (5, none, .ap (rowI e2 r1) 0 0)] [2, 3, 4, 5, 6], .reg [0, 0, 0, 4, 15, 0, 63] [] 0 [(1, none, .iv (.p (.agg (rowP e2 w2)))), (4, none, .call (.agg (rowP e2 r2))), (5, none, .iv (.p (.agg (rowP e2 r1)))), (6, none, .call (.bool false))] [4, 20], .reg [] [] 0 [] [4]]) (ai ((row_same el2 (od h2) (od h1)).trans (rl (List.length (rowI e2 (List.replicate 8 (0 : Int)))))) (ai (row_wle el2 (od h1) (rfl : 8 * 1 = 8) ((row_same el2 (od h2) (od h1)).trans (rl (List.length (rowI e2 (List.replicate 8 (0 : Int))))))) (ai (row_wtake el2 (od h1) (rfl : 8 * 1 = 8)) (ai (F40_ok fuel (w1, w1_1) w2 w1_2 _ h3) (ai (row_wlen el2 (od h4) (rfl : 8 * 1 = 8)) (ai (row_scal el2 r1) (ai (rl (List.length (rowI e2 (List.replicate 8 (0 : Int))))) (ai (row_wle el2 (od h2) (rfl : 8 * 1 = 8) (rl (List.length (rowI e2 (List.replicate 8 (0 : Int)))))) (ai (row_putall el2 (od h2) (od h4)) (ai ((row_same el2 (od h2) (od h1)).trans (rl (List.length (rowI e2 (List.replicate 8 (0 : Int)))))) (ai (row_wle el2 (od h1) (rfl : 8 * 1 = 8) ((row_same el2 (od h2) (od h1)).trans (rl (List.length (rowI e2 (List.replicate 8 (0 : Int))))))) (ai (row_wtake el2 (od h1) (rfl : 8 * 1 = 8)) (ai (F40_ok fuel (w1, w1_1) w2 (IntKind.wrap .i64 (w1_2 + 1)) _ h5) (ai ((row_same el2 (od h2) (od h4)).trans (rl (List.length (rowI e2 (List.replicate 8 (0 : Int)))))) (ai (row_wle el2 (od h4) (rfl : 8 * 1 = 8) ((row_same el2 (od h2) (od h4)).trans (rl (List.length (rowI e2 (List.replicate 8 (0 : Int))))))) (ai (row_wtake el2 (od h4) (rfl : 8 * 1 = 8)) (ai ((eqPV_row (P := prog) (t := 58) (d := 9999) (L := r2) (M := r1) el2 eqr2 (by kernel_rfl : prog.underlying 58 = some (.array 8 2)) (by kernel_rfl : prog.info? 2 = some t2) (by kernel_rfl) (od h6) (od h4)).trans (congrArg some h7)) trivial))))))))))))))))) (by kernel_rfl)) (Weak.sel (E := []) (E' := []) (H := [.cells [.p (.bool false)] 0, .loop 1 R51_1_0_1_0 [(2, .p (.ref [.ref [.int .i64 w1, .sl (List.map e62 w1_1) false]])), (3, .p (.ref [.int .i64 w1_2])), (4, .ptr 0 0 1)] none, .cells (rowI e2 w2) 0, .cells (rowI e2 w2) 0, .cells (rowI e2 r1) 0]) (H' := [.cells [.p (.bool false)] 0, .loop 1 R51_1_0_1_0 [(2, .p (.ref [.ref [.int .i64 w1, .sl (List.map e62 w1_1) false]])), (3, .p (.ref [.int .i64 w1_2])), (4, .ptr 0 0 1)] none, .cells (rowI e2 w2) 0]) [0, 1, 2] (selH_cons (o := .cells [.p (.bool false)] 0) (o' := .cells [.p (.bool false)] 0) (by kernel_rfl) (sel_x (by kernel_rfl)) (selH_cons (o := .loop 1 R51_1_0_1_0 [(2, .p (.ref [.ref [.int .i64 w1, .sl (List.map e62 w1_1) false]])), (3, .p (.ref [.int .i64 w1_2])), (4, .ptr 0 0 1)] none) (o' := .loop 1 R51_1_0_1_0 [(2, .p (.ref [.ref [.int .i64 w1, .sl (List.map e62 w1_1) false]])), (3, .p (.ref [.int .i64 w1_2])), (4, .ptr 0 0 1)] none) (by kernel_rfl) (sel_loop (by kernel_rfl)) (selH_cons (o := .cells (rowI e2 w2) 0) (o' := .cells (rowI e2 w2) 0) (by kernel_rfl) sel_row trivial))) (by kernel_rfl) (by kernel_rfl))) (by kernel_rfl) (by kernel_rfl : _ = (.p (.bool false), [.cells [.p (.bool false)] 0, .loop 2 R51_1_0_1_0 [(2, .p (.ref [.ref [.int .i64 w1, .sl (List.map e62 w1_1) false]])), (3, .p (.ref [.int .i64 w1_2])), (4, .ptr 0 0 1)] (some .ret), .cells (rowI e2 w2) 0]))) trivial)) (by kernel_rfl)) (Weak.sel (E := []) (E' := []) (H := [.cells [.p (.bool false)] 0, .loop 2 R51_1_0_1_0 [(2, .p (.ref [.ref [.int .i64 w1, .sl (List.map e62 w1_1) false]])), (3, .p (.ref [.int .i64 w1_2])), (4, .ptr 0 0 1)] (some .ret), .cells (rowI e2 w2) 0]) (H' := [.cells [.p (.bool false)] 0, .loop 2 R51_1_0_1_0 [(2, .p (.ref [.ref [.int .i64 w1, .sl (List.map e62 w1_1) false]])), (3, .p (.ref [.int .i64 w1_2])), (4, .ptr 0 0 1)] (some .ret)]) [0, 1] (selH_cons (o := .cells [.p (.bool false)] 0) (o' := .cells [.p (.bool false)] 0) (by kernel_rfl) (sel_x (by kernel_rfl)) (selH_cons (o := .loop 2 R51_1_0_1_0 [(2, .p (.ref [.ref [.int .i64 w1, .sl (List.map e62 w1_1) false]])), (3, .p (.ref [.int .i64 w1_2])), (4, .ptr 0 0 1)] (some .ret)) (o' := .loop 2 R51_1_0_1_0 [(2, .p (.ref [.ref [.int .i64 w1, .sl (List.map e62 w1_1) false]])), (3, .p (.ref [.int .i64 w1_2])), (4, .ptr 0 0 1)] (some .ret)) (by kernel_rfl) (sel_loop (by kernel_rfl)) trivial)) (by kernel_rfl) (by kernel_rfl))) (by simp)) (by kernel_rfl) (by kernel_rfl)
def L64_2_3  (v1 : Int) (v1_1 : (List (Int × Int))) (w1 : Int) (w1_1 : (List (Int × Int))) (w1_2 : Int) : Nat → Int → (List Int) → Option (Int × (List Int))
  | 0, _, _ => none
  | fuel + 1, v4, w2 =>
    oif ((decide (v4 ≥ 0)))
    (oif (decide ((0:Int) ≤ v4)) (oif (decide ((v4 : Int) < ((8 : Nat) : Int))) (obind (sg w2 v4) fun x1 => oif ((x1 == 1))
      (obind (stL w2 v4 0) fun x2 => L64_2_3 v1 v1_1 w1 w1_1 w1_2 fuel (IntKind.wrap .i64 (v4 - 1)) x2)
      (some ((v4, w2)))) none) none)
    (some ((v4, w2)))
noncomputable def L64_2_3_post (v1 : Int) (v1_1 : (List (Int × Int))) (w1 : Int) (w1_1 : (List (Int × Int))) (w1_2 : Int)  : (Int × (List Int)) → Ex × St
  | y => ((.exit 2), ⟨[(0, .yld 1), (1, .p (.ref [.ref [.int .i64 v1, .sl (List.map e62 v1_1) false]])), (3, .ptr 2 0 (List.length (rowI e2 y.2))), (4, .p (.int .i64 y.1))], [.cells [.p (.bool false)] 0, .loop 0 R51_1_0_1_0 [(2, .p (.ref [.ref [.int .i64 w1, .sl (List.map e62 w1_1) false]])), (3, .p (.ref [.int .i64 w1_2])), (4, .ptr 0 0 1)] none, .cells (rowI e2 y.2) 0]⟩)
theorem L64_2_3_ok  (v1 : Int) (v1_1 : (List (Int × Int))) (w1 : Int) (w1_1 : (List (Int × Int))) (w1_2 : Int)  : ∀ (fuel : Nat) (v4 : Int) (w2 : (List Int)) (r : (Int × (List Int))), L64_2_3 v1 v1_1 w1 w1_1 w1_2 fuel v4 w2 = some r →
    SemJ prog ⟨31, 2, false⟩ (codeAt [1, 0, 0, 0, 1, 1, 0, 0, 0] (bodyOf f64)) ⟨[(0, .yld 1), (1, .p (.ref [.ref [.int .i64 v1, .sl (List.map e62 v1_1) false]])), (3, .ptr 2 0 (List.length (rowI e2 w2))), (4, .p (.int .i64 v4))], [.cells [.p (.bool false)] 0, .loop 0 R51_1_0_1_0 [(2, .p (.ref [.ref [.int .i64 w1, .sl (List.map e62 w1_1) false]])), (3, .p (.ref [.int .i64 w1_2])), (4, .ptr 0 0 1)] none, .cells (rowI e2 w2) 0]⟩ (L64_2_3_post v1 v1_1 w1 w1_1 w1_2 r).1 (L64_2_3_post v1 v1_1 w1 w1_1 w1_2 r).2
  | 0, _, _, _, h => nomatch h
  | fuel + 1, v4, w2, r, h => by
    unfold L64_2_3 at h
    refine oif_elim h (fun h1 g1 => ?_) (fun h1 g1 => ?_)
    · refine oif_elim g1 (fun h2 g2 => ?_) (fun _ h => nomatch h)
      refine oif_elim g2 (fun h3 g3 => ?_) (fun _ h => nomatch h)
      refine obind_elim g3 fun x1 h4 g4 => ?_
      have q50 := fun {P : Prop} (t : P) => ai h1 (ai (od h2) (ai (od h3) (ai (rl (List.length (rowI e2 w2))) (ai (row_get el2 h4 rfl) t))))
      refine oif_elim g4 (fun h5 g5 => ?_) (fun h5 g5 => ?_)
      · refine obind_elim g5 fun x2 h6 g6 => ?_
        exact SemJ.again (σ1 := ⟨[(0, .yld 1), (1, .p (.ref [.ref [.int .i64 v1, .sl (List.map e62 v1_1) false]])), (3, .ptr 2 0 (List.length (rowI e2 x2))), (4, .p (.int .i64 (IntKind.wrap .i64 (v4 - 1))))], [.cells [.p (.bool false)] 0, .loop 0 R51_1_0_1_0 [(2, .p (.ref [.ref [.int .i64 w1, .sl (List.map e62 w1_1) false]])), (3, .p (.ref [.int .i64 w1_2])), (4, .ptr 0 0 1)] none, .cells (rowI e2 x2) 0]⟩) (SemC.post (path hm (σ' := ⟨[(0, .yld 1), (1, .p (.ref [.ref [.int .i64 v1, .sl (List.map e62 v1_1) false]])), (3, .ptr 2 0 (List.length (rowI e2 w2))), (4, .p (.int .i64 (IntKind.wrap .i64 (v4 - 1))))], [.cells [.p (.bool false)] 0, .loop 0 R51_1_0_1_0 [(2, .p (.ref [.ref [.int .i64 w1, .sl (List.map e62 w1_1) false]])), (3, .p (.ref [.int .i64 w1_2])), (4, .ptr 0 0 1)] none, .cells (rowI e2 x2) 0]⟩) (ks := [0, 1, 3, 4]) (cc := [.reg [] [] 0 [(1, none, .b true), (5, none, .iv (.p (.int .i64 x1))), (6, none, .b true)] [0, 1, 3, 4, 22], .reg [] [] 0 [(2, none, .cs (rowI e2 x2))] [0, 1, 3, 4], .reg [] [] 0 [] [0, 1, 3, 4]])
        (q50 (ai h5 (ai (od h2) (ai (od h3) (ai (rl (List.length (rowI e2 w2))) (ai (Nat.le_trans (row_fit el2 (stL_0 h6) (stL_lt h6)) (Nat.le_of_eq (rl (List.length (rowI e2 w2))))) (ai (row_put el2 h6) trivial))))))) (by kernel_rfl)) (Weak.eq (congrArg (fun ZZ : Nat => (⟨[(0, .yld 1), (1, .p (.ref [.ref [.int .i64 v1, .sl (List.map e62 v1_1) false]])), (3, .ptr 2 0 ZZ), (4, .p (.int .i64 (IntKind.wrap .i64 (v4 - 1))))], [.cells [.p (.bool false)] 0, .loop 0 R51_1_0_1_0 [(2, .p (.ref [.ref [.int .i64 w1, .sl (List.map e62 w1_1) false]])), (3, .p (.ref [.int .i64 w1_2])), (4, .ptr 0 0 1)] none, .cells (rowI e2 x2) 0]⟩ : St)) (Eq.symm ((row_setlen el2 h6).trans (rl (List.length (rowI e2 w2)))))))) (L64_2_3_ok v1 v1_1 w1 w1_1 w1_2 fuel (IntKind.wrap .i64 (v4 - 1)) x2 _ g6)
      · have hr := Option.some.inj g5
        subst hr
        exact SemC.cast (SemJ.out (e := (.exit 2)) (path hm (σ' := ⟨[(0, .yld 1), (1, .p (.ref [.ref [.int .i64 v1, .sl (List.map e62 v1_1) false]])), (3, .ptr 2 0 (List.length (rowI e2 w2))), (4, .p (.int .i64 v4))], [.cells [.p (.bool false)] 0, .loop 0 R51_1_0_1_0 [(2, .p (.ref [.ref [.int .i64 w1, .sl (List.map e62 w1_1) false]])), (3, .p (.ref [.int .i64 w1_2])), (4, .ptr 0 0 1)] none, .cells (rowI e2 w2) 0]⟩) (ks := [0, 1, 3, 4]) (cc := [.reg [] [] 0 [(1, none, .b true), (5, none, .iv (.p (.int .i64 x1))), (6, none, .b false)] [0, 1, 3, 4, 22]])
        (q50 (ai h5 trivial)) (by kernel_rfl)) (by simp)) (by kernel_rfl) (by kernel_rfl)
    · have hr := Option.some.inj g1
      subst hr
      exact SemC.cast (SemJ.out (e := (.exit 2)) (path hm (σ' := ⟨[(0, .yld 1), (1, .p (.ref [.ref [.int .i64 v1, .sl (List.map e62 v1_1) false]])), (3, .ptr 2 0 (List.length (rowI e2 w2))), (4, .p (.int .i64 v4))], [.cells [.p (.bool false)] 0, .loop 0 R51_1_0_1_0 [(2, .p (.ref [.ref [.int .i64 w1, .sl (List.map e62 w1_1) false]])), (3, .p (.ref [.int .i64 w1_2])), (4, .ptr 0 0 1)] none, .cells (rowI e2 w2) 0]⟩) (ks := [0, 1, 3, 4]) (cc := [.reg [] [] 0 [(1, none, .b false)] [0, 1, 3, 4, 22]])
        (ai h1 trivial) (by kernel_rfl)) (by simp)) (by kernel_rfl) (by kernel_rfl)
def L64_2_2  (v1 : Int) (v1_1 : (List (Int × Int))) (w1 : Int) (w1_1 : (List (Int × Int))) (w1_2 : Int) : Nat → (List Int) → Option (Unit ⊕ Unit)
  | 0, _ => none
  | fuel + 1, w2 =>
    oif (decide (List.length w2 = 8)) (oif (decide (List.length (List.replicate 8 (0 : Int)) = 8)) (obind (F40 fuel (w1, w1_1) w2 w1_2) fun r1 => oif (decide (List.length r1 = 8)) (obind (F40 fuel (w1, w1_1) w2 (IntKind.wrap .i64 (w1_2 + 1))) fun r2 => oif (decide (List.length r2 = 8)) (oif ((r2 == r1))
    (obind (L64_2_3 v1 v1_1 w1 w1_1 w1_2 fuel (IntKind.wrap .i64 (v1 - 1)) w2) fun y3 => oif ((decide (y3.1 < 0)))
      (some (.inl ()))
      (oif (decide ((0:Int) ≤ y3.1)) (oif (decide ((y3.1 : Int) < ((8 : Nat) : Int))) (obind (stL y3.2 y3.1 1) fun x4 => L64_2_2 v1 v1_1 w1 w1_1 w1_2 fuel x4) none) none))
    (some (.inr (())))) none) none) none) none
noncomputable def L64_2_2_post (v1 : Int) (v1_1 : (List (Int × Int))) (w1 : Int) (w1_1 : (List (Int × Int))) (w1_2 : Int)  : (Unit ⊕ Unit) → Ex × St
  | .inl y => (.ret, ⟨[], [.cells [.p (.bool false)] 0, .loop 0 R51_1_0_1_0 [(2, .p (.ref [.ref [.int .i64 w1, .sl (List.map e62 w1_1) false]])), (3, .p (.ref [.int .i64 w1_2])), (4, .ptr 0 0 1)] none]⟩)
  | .inr (y) => (.ret, ⟨[], [.cells [.p (.bool false)] 0, .loop 2 R51_1_0_1_0 [(2, .p (.ref [.ref [.int .i64 w1, .sl (List.map e62 w1_1) false]])), (3, .p (.ref [.int .i64 w1_2])), (4, .ptr 0 0 1)] (some .ret)]⟩)
theorem L64_2_2_ok  (v1 : Int) (v1_1 : (List (Int × Int))) (w1 : Int) (w1_1 : (List (Int × Int))) (w1_2 : Int)  : ∀ (fuel : Nat) (w2 : (List Int)) (r : (Unit ⊕ Unit)), L64_2_2 v1 v1_1 w1 w1_1 w1_2 fuel w2 = some r →
    SemJ prog ⟨31, 2, false⟩ (codeAt [1, 0, 0] (bodyOf f64)) ⟨[(0, .yld 1), (1, .p (.ref [.ref [.int .i64 v1, .sl (List.map e62 v1_1) false]])), (3, .ptr 2 0 (List.length (rowI e2 w2)))], [.cells [.p (.bool false)] 0, .loop 0 R51_1_0_1_0 [(2, .p (.ref [.ref [.int .i64 w1, .sl (List.map e62 w1_1) false]])), (3, .p (.ref [.int .i64 w1_2])), (4, .ptr 0 0 1)] none, .cells (rowI e2 w2) 0]⟩ (L64_2_2_post v1 v1_1 w1 w1_1 w1_2 r).1 (L64_2_2_post v1 v1_1 w1 w1_1 w1_2 r).2
  | 0, _, _, h => nomatch h
  | fuel + 1, w2, r, h => by
    unfold L64_2_2 at h
    refine oif_elim h (fun h1 g1 => ?_) (fun _ h => nomatch h)
    refine oif_elim g1 (fun h2 g2 => ?_) (fun _ h => nomatch h)
    refine obind_elim g2 fun r1 h3 g3 => ?_
    refine oif_elim g3 (fun h4 g4 => ?_) (fun _ h => nomatch h)
    refine obind_elim g4 fun r2 h5 g5 => ?_
    refine oif_elim g5 (fun h6 g6 => ?_) (fun _ h => nomatch h)
    have q51 := fun {P : Prop} (t : P) => ai (rl (List.length (rowI e2 w2))) (ai (row_wle el2 (od h1) (rfl : 8 * 1 = 8) (rl (List.length (rowI e2 w2)))) (ai (row_wtake el2 (od h1) (rfl : 8 * 1 = 8)) t))
    refine oif_elim g6 (fun h7 g7 => ?_) (fun h7 g7 => ?_)
    · refine obind_elim g7 fun y3 h8 g8 => ?_
      let c52 : List CC := [.reg [] [] 0 [(1, none, .iv (.p (.agg (rowP e2 w2)))), (2, none, .ci (.p (.bool true)) [])] [0, 1, 3, 8], .reg [] [] 0 [] [0, 1, 3, 4], .leaf (.exit 2) ⟨[(0, .yld 1), (1, .p (.ref [.ref [.int .i64 v1, .sl (List.map e62 v1_1) false]])), (3, .ptr 2 0 (List.length (rowI e2 y3.2))), (4, .p (.int .i64 y3.1))], [.cells [.p (.bool false)] 0, .loop 0 R51_1_0_1_0 [(2, .p (.ref [.ref [.int .i64 w1, .sl (List.map e62 w1_1) false]])), (3, .p (.ref [.int .i64 w1_2])), (4, .ptr 0 0 1)] none, .cells (rowI e2 y3.2) 0]⟩]
      have q53 := fun {P : Prop} (t : P) => ai (roundI_of (P := prog) (l := 1) (args := [.p (.agg (rowP e2 w2))]) (H := [.cells [.p (.bool false)] 0, .loop 0 R51_1_0_1_0 [(2, .p (.ref [.ref [.int .i64 w1, .sl (List.map e62 w1_1) false]])), (3, .p (.ref [.int .i64 w1_2])), (4, .ptr 0 0 1)] none, .cells (rowI e2 w2) 0]) (R := R51_1_0_1_0) (env := [(2, .p (.ref [.ref [.int .i64 w1, .sl (List.map e62 w1_1) false]])), (3, .p (.ref [.int .i64 w1_2])), (4, .ptr 0 0 1)]) (env1 := [(2, .p (.ref [.ref [.int .i64 w1, .sl (List.map e62 w1_1) false]])), (3, .p (.ref [.int .i64 w1_2])), (4, .ptr 0 0 1)]) (env2 := [(2, .p (.ref [.ref [.int .i64 w1, .sl (List.map e62 w1_1) false]])), (3, .p (.ref [.int .i64 w1_2])), (4, .ptr 0 0 1)]) (m := 3) (e := .normal) (by kernel_rfl) (by kernel_rfl) (by kernel_rfl) (by kernel_rfl) (path hm (σ' := ⟨[(2, .p (.ref [.ref [.int .i64 w1, .sl (List.map e62 w1_1) false]])), (3, .p (.ref [.int .i64 w1_2])), (4, .ptr 0 0 1), (5, .ptr 3 0 (List.length (rowI e2 (List.replicate 8 (0 : Int)))))], [.cells [.p (.bool false)] 0, .loop 0 R51_1_0_1_0 [(2, .p (.ref [.ref [.int .i64 w1, .sl (List.map e62 w1_1) false]])), (3, .p (.ref [.int .i64 w1_2])), (4, .ptr 0 0 1)] none, .cells (rowI e2 w2) 0, .cells (rowI e2 w2) 0]⟩) (ks := [2, 3, 4, 5]) (cc := [.reg [] [] 1 [(0, some 3, .a), (1, none, .ap (rowI e2 w2) 0 0)] [2, 3, 4, 5]]) (ai (row_wlen el2 (od h1) (rfl : 8 * 1 = 8)) (ai (row_scal el2 w2) (ai (rl (List.length (rowI e2 (List.replicate 8 (0 : Int))))) (ai (row_wle el2 (od h2) (rfl : 8 * 1 = 8) (rl (List.length (rowI e2 (List.replicate 8 (0 : Int)))))) (ai (row_putall el2 (od h2) (od h1)) trivial))))) (by kernel_rfl)) (by kernel_rfl) (SemC.post (path hm (σ' := ⟨[], [.cells [.p (.bool false)] 0, .loop 1 R51_1_0_1_0 [(2, .p (.ref [.ref [.int .i64 w1, .sl (List.map e62 w1_1) false]])), (3, .p (.ref [.int .i64 w1_2])), (4, .ptr 0 0 1)] none, .cells (rowI e2 w2) 0, .cells (rowI e2 w2) 0, .cells (rowI e2 r1) 0]⟩) (ks := []) (cc := [.reg [] [] 1 [(1, none, .iv (.p (.agg (rowP e2 w2)))), (3, none, .call (.agg (rowP e2 r1))), (4, some 4, .a), (5, none, .ap (rowI e2 r1) 0 0)] [2, 3, 4, 5, 6], .reg [0, 0, 0, 4, 15, 0, 63] [] 0 [(1, none, .iv (.p (.agg (rowP e2 w2)))), (4, none, .call (.agg (rowP e2 r2))), (5, none, .iv (.p (.agg (rowP e2 r1)))), (6, none, .call (.bool true))] [4, 20]]) (ai ((row_same el2 (od h2) (od h1)).trans (rl (List.length (rowI e2 (List.replicate 8 (0 : Int)))))) (ai (row_wle el2 (od h1) (rfl : 8 * 1 = 8) ((row_same el2 (od h2) (od h1)).trans (rl (List.length (rowI e2 (List.replicate 8 (0 : Int))))))) (ai (row_wtake el2 (od h1) (rfl : 8 * 1 = 8)) (ai (F40_ok fuel (w1, w1_1) w2 w1_2 _ h3) (ai (row_wlen el2 (od h4) (rfl : 8 * 1 = 8)) (ai (row_scal el2 r1) (ai (rl (List.length (rowI e2 (List.replicate 8 (0 : Int))))) (ai (row_wle el2 (od h2) (rfl : 8 * 1 = 8) (rl (List.length (rowI e2 (List.replicate 8 (0 : Int)))))) (ai (row_putall el2 (od h2) (od h4)) (ai ((row_same el2 (od h2) (od h1)).trans (rl (List.length (rowI e2 (List.replicate 8 (0 : Int)))))) (ai (row_wle el2 (od h1) (rfl : 8 * 1 = 8) ((row_same el2 (od h2) (od h1)).trans (rl (List.length (rowI e2 (List.replicate 8 (0 : Int))))))) (ai (row_wtake el2 (od h1) (rfl : 8 * 1 = 8)) (ai (F40_ok fuel (w1, w1_1) w2 (IntKind.wrap .i64 (w1_2 + 1)) _ h5) (ai ((row_same el2 (od h2) (od h4)).trans (rl (List.length (rowI e2 (List.replicate 8 (0 : Int)))))) (ai (row_wle el2 (od h4) (rfl : 8 * 1 = 8) ((row_same el2 (od h2) (od h4)).trans (rl (List.length (rowI e2 (List.replicate 8 (0 : Int))))))) (ai (row_wtake el2 (od h4) (rfl : 8 * 1 = 8)) (ai ((eqPV_row (P := prog) (t := 58) (d := 9999) (L := r2) (M := r1) el2 eqr2 (by kernel_rfl : prog.underlying 58 = some (.array 8 2)) (by kernel_rfl : prog.info? 2 = some t2) (by kernel_rfl) (od h6) (od h4)).trans (congrArg some h7)) trivial))))))))))))))))) (by kernel_rfl)) (Weak.sel (E := []) (E' := []) (H := [.cells [.p (.bool false)] 0, .loop 1 R51_1_0_1_0 [(2, .p (.ref [.ref [.int .i64 w1, .sl (List.map e62 w1_1) false]])), (3, .p (.ref [.int .i64 w1_2])), (4, .ptr 0 0 1)] none, .cells (rowI e2 w2) 0, .cells (rowI e2 w2) 0, .cells (rowI e2 r1) 0]) (H' := [.cells [.p (.bool false)] 0, .loop 1 R51_1_0_1_0 [(2, .p (.ref [.ref [.int .i64 w1, .sl (List.map e62 w1_1) false]])), (3, .p (.ref [.int .i64 w1_2])), (4, .ptr 0 0 1)] none, .cells (rowI e2 w2) 0]) [0, 1, 2] (selH_cons (o := .cells [.p (.bool false)] 0) (o' := .cells [.p (.bool false)] 0) (by kernel_rfl) (sel_x (by kernel_rfl)) (selH_cons (o := .loop 1 R51_1_0_1_0 [(2, .p (.ref [.ref [.int .i64 w1, .sl (List.map e62 w1_1) false]])), (3, .p (.ref [.int .i64 w1_2])), (4, .ptr 0 0 1)] none) (o' := .loop 1 R51_1_0_1_0 [(2, .p (.ref [.ref [.int .i64 w1, .sl (List.map e62 w1_1) false]])), (3, .p (.ref [.int .i64 w1_2])), (4, .ptr 0 0 1)] none) (by kernel_rfl) (sel_loop (by kernel_rfl)) (selH_cons (o := .cells (rowI e2 w2) 0) (o' := .cells (rowI e2 w2) 0) (by kernel_rfl) sel_row trivial))) (by kernel_rfl) (by kernel_rfl))) (by kernel_rfl) (by kernel_rfl : _ = (.p (.bool true), [.cells [.p (.bool false)] 0, .loop 0 R51_1_0_1_0 [(2, .p (.ref [.ref [.int .i64 w1, .sl (List.map e62 w1_1) false]])), (3, .p (.ref [.int .i64 w1_2])), (4, .ptr 0 0 1)] none, .cells (rowI e2 w2) 0]))) (ai (SemJ.loop (L64_2_3_ok v1 v1_1 w1 w1_1 w1_2 fuel (IntKind.wrap .i64 (v1 - 1)) w2 _ h8)) t)
      refine oif_elim g8 (fun h9 g9 => ?_) (fun h9 g9 => ?_)
      · have hr := Option.some.inj g9
        subst hr
        exact SemC.cast (SemJ.out (e := .ret) (SemC.post (path hm (σ' := ⟨[], [.cells [.p (.bool false)] 0, .loop 0 R51_1_0_1_0 [(2, .p (.ref [.ref [.int .i64 w1, .sl (List.map e62 w1_1) false]])), (3, .p (.ref [.int .i64 w1_2])), (4, .ptr 0 0 1)] none, .cells (rowI e2 y3.2) 0]⟩) (ks := []) (cc := c52 ++ [.reg [] [] 0 [(1, none, .b true)] [0, 1, 3, 4, 28]])
        (q51 (q53 (ai h9 trivial))) (by kernel_rfl)) (Weak.sel (E := []) (E' := []) (H := [.cells [.p (.bool false)] 0, .loop 0 R51_1_0_1_0 [(2, .p (.ref [.ref [.int .i64 w1, .sl (List.map e62 w1_1) false]])), (3, .p (.ref [.int .i64 w1_2])), (4, .ptr 0 0 1)] none, .cells (rowI e2 y3.2) 0]) (H' := [.cells [.p (.bool false)] 0, .loop 0 R51_1_0_1_0 [(2, .p (.ref [.ref [.int .i64 w1, .sl (List.map e62 w1_1) false]])), (3, .p (.ref [.int .i64 w1_2])), (4, .ptr 0 0 1)] none]) [0, 1] (selH_cons (o := .cells [.p (.bool false)] 0) (o' := .cells [.p (.bool false)] 0) (by kernel_rfl) (sel_x (by kernel_rfl)) (selH_cons (o := .loop 0 R51_1_0_1_0 [(2, .p (.ref [.ref [.int .i64 w1, .sl (List.map e62 w1_1) false]])), (3, .p (.ref [.int .i64 w1_2])), (4, .ptr 0 0 1)] none) (o' := .loop 0 R51_1_0_1_0 [(2, .p (.ref [.ref [.int .i64 w1, .sl (List.map e62 w1_1) false]])), (3, .p (.ref [.int .i64 w1_2])), (4, .ptr 0 0 1)] none) (by kernel_rfl) (sel_loop (by kernel_rfl)) trivial)) (by kernel_rfl) (by kernel_rfl))) (by simp)) (by kernel_rfl) (by kernel_rfl)
      · refine oif_elim g9 (fun h10 g10 => ?_) (fun _ h => nomatch h)
        refine oif_elim g10 (fun h11 g11 => ?_) (fun _ h => nomatch h)
        refine obind_elim g11 fun x4 h12 g12 => ?_
        exact SemJ.again (σ1 := ⟨[(0, .yld 1), (1, .p (.ref [.ref [.int .i64 v1, .sl (List.map e62 v1_1) false]])), (3, .ptr 2 0 (List.length (rowI e2 x4)))], [.cells [.p (.bool false)] 0, .loop 0 R51_1_0_1_0 [(2, .p (.ref [.ref [.int .i64 w1, .sl (List.map e62 w1_1) false]])), (3, .p (.ref [.int .i64 w1_2])), (4, .ptr 0 0 1)] none, .cells (rowI e2 x4) 0]⟩) (SemC.post (path hm (σ' := ⟨[(0, .yld 1), (1, .p (.ref [.ref [.int .i64 v1, .sl (List.map e62 v1_1) false]])), (3, .ptr 2 0 (List.length (rowI e2 y3.2)))], [.cells [.p (.bool false)] 0, .loop 0 R51_1_0_1_0 [(2, .p (.ref [.ref [.int .i64 w1, .sl (List.map e62 w1_1) false]])), (3, .p (.ref [.int .i64 w1_2])), (4, .ptr 0 0 1)] none, .cells (rowI e2 x4) 0]⟩) (ks := [0, 1, 3]) (cc := c52 ++ [.reg [] [] 0 [(1, none, .b false)] [0, 1, 3, 4, 28], .reg [] [] 0 [(2, none, .cs (rowI e2 x4))] [0, 1, 3]])
        (q51 (q53 (ai h9 (ai (od h10) (ai (od h11) (ai (rl (List.length (rowI e2 y3.2))) (ai (Nat.le_trans (row_fit el2 (stL_0 h12) (stL_lt h12)) (Nat.le_of_eq (rl (List.length (rowI e2 y3.2))))) (ai (row_put el2 h12) trivial)))))))) (by kernel_rfl)) (Weak.eq (congrArg (fun ZZ : Nat => (⟨[(0, .yld 1), (1, .p (.ref [.ref [.int .i64 v1, .sl (List.map e62 v1_1) false]])), (3, .ptr 2 0 ZZ)], [.cells [.p (.bool false)] 0, .loop 0 R51_1_0_1_0 [(2, .p (.ref [.ref [.int .i64 w1, .sl (List.map e62 w1_1) false]])), (3, .p (.ref [.int .i64 w1_2])), (4, .ptr 0 0 1)] none, .cells (rowI e2 x4) 0]⟩ : St)) (Eq.symm ((row_setlen el2 h12).trans (rl (List.length (rowI e2 y3.2)))))))) (L64_2_2_ok v1 v1_1 w1 w1_1 w1_2 fuel x4 _ g12)
    · have hr := Option.some.inj g7
      subst hr
      exact SemC.cast (SemJ.out (e := .ret) (SemC.post (path hm (σ' := ⟨[], [.cells [.p (.bool false)] 0, .loop 2 R51_1_0_1_0 [(2, .p (.ref [.ref [.int .i64 w1, .sl (List.map e62 w1_1) false]])), (3, .p (.ref [.int .i64 w1_2])), (4, .ptr 0 0 1)] (some .ret), .cells (rowI e2 w2) 0]⟩) (ks := []) (cc := [.reg [] [] 0 [(1, none, .iv (.p (.agg (rowP e2 w2)))), (2, none, .ci (.p (.bool false)) [(1, .loop 2 R51_1_0_1_0 [(2, .p (.ref [.ref [.int .i64 w1, .sl (List.map e62 w1_1) false]])), (3, .p (.ref [.int .i64 w1_2])), (4, .ptr 0 0 1)] (some .ret))])] [0, 1, 3, 8]])
        (q51 (ai (roundI_of (P := prog) (l := 1) (args := [.p (.agg (rowP e2 w2))]) (H := [.cells [.p (.bool false)] 0, .loop 0 R51_1_0_1_0 [(2, .p (.ref [.ref [.int .i64 w1, .sl (List.map e62 w1_1) false]])), (3, .p (.ref [.int .i64 w1_2])), (4, .ptr 0 0 1)] none, .cells (rowI e2 w2) 0]) (R := R51_1_0_1_0) (env := [(2, .p (.ref [.ref [.int .i64 w1, .sl (List.map e62 w1_1) false]])), (3, .p (.ref [.int .i64 w1_2])), (4, .ptr 0 0 1)]) (env1 := [(2, .p (.ref [.ref [.int .i64 w1, .sl (List.map e62 w1_1) false]])), (3, .p (.ref [.int .i64 w1_2])), (4, .ptr 0 0 1)]) (env2 := [(2, .p (.ref [.ref [.int .i64 w1, .sl (List.map e62 w1_1) false]])), (3, .p (.ref [.int .i64 w1_2])), (4, .ptr 0 0 1)]) (m := 3) (e := .ret) (by kernel_rfl) (by kernel_rfl) (by kernel_rfl) (by kernel_rfl) (path hm (σ' := ⟨[(2, .p (.ref [.ref [.int .i64 w1, .sl (List.map e62 w1_1) false]])), (3, .p (.ref [.int .i64 w1_2])), (4, .ptr 0 0 1), (5, .ptr 3 0 (List.length (rowI e2 (List.replicate 8 (0 : Int)))))], [.cells [.p (.bool false)] 0, .loop 0 R51_1_0_1_0 [(2, .p (.ref [.ref [.int .i64 w1, .sl (List.map e62 w1_1) false]])), (3, .p (.ref [.int .i64 w1_2])), (4, .ptr 0 0 1)] none, .cells (rowI e2 w2) 0, .cells (rowI e2 w2) 0]⟩) (ks := [2, 3, 4, 5]) (cc := [.reg [] [] 1 [(0, some 3, .a), (1, none, .ap (rowI e2 w2) 0 0)] [2, 3, 4, 5]]) (ai (row_wlen el2 (od h1) (rfl : 8 * 1 = 8)) (ai (row_scal el2 w2) (ai (rl (List.length (rowI e2 (List.replicate 8 (0 : Int))))) (ai (row_wle el2 (od h2) (rfl : 8 * 1 = 8) (rl (List.length (rowI e2 (List.replicate 8 (0 : Int)))))) (ai (row_putall el2 (od h2) (od h1)) trivial))))) (by kernel_rfl)) (by kernel_rfl) (SemC.post (path hm (σ' := ⟨[], [.cells [.p (.bool false)] 0, .loop 1 R51_1_0_1_0 [(2, .p (.ref [.ref [.int .i64 w1, .sl (List.map e62 w1_1) false]])), (3, .p (.ref [.int .i64 w1_2])), (4, .ptr 0 0 1)] none, .cells (rowI e2 w2) 0, .cells (rowI e2 w2) 0, .cells (rowI e2 r1) 0]⟩) (ks := []) (cc := [.reg [] [] 1 [(1, none, .iv (.p (.agg (rowP e2 w2)))), (3, none, .call (.agg (rowP e2 r1))), (4, some 4, .a), (5, none, .ap (rowI e2 r1) 0 0)] [2, 3, 4, 5, 6], .reg [0, 0, 0, 4, 15, 0, 63] [] 0 [(1, none, .iv (.p (.agg (rowP e2 w2)))), (4, none, .call (.agg (rowP e2 r2))), (5, none, .iv (.p (.agg (rowP e2 r1)))), (6, none, .call (.bool false))] [4, 20], .reg [] [] 0 [] [4]]) (ai ((row_same el2 (od h2) (od h1)).trans (rl (List.length (rowI e2 (List.replicate 8 (0 : Int)))))) (ai (row_wle el2 (od h1) (rfl : 8 * 1 = 8) ((row_same el2 (od h2) (od h1)).trans (rl (List.length (rowI e2 (List.replicate 8 (0 : Int))))))) (ai (row_wtake el2 (od h1) (rfl : 8 * 1 = 8)) (ai (F40_ok fuel (w1, w1_1) w2 w1_2 _ h3) (ai (row_wlen el2 (od h4) (rfl : 8 * 1 = 8)) (ai (row_scal el2 r1) (ai (rl (List.length (rowI e2 (List.replicate 8 (0 : Int))))) (ai (row_wle el2 (od h2) (rfl : 8 * 1 = 8) (rl (List.length (rowI e2 (List.replicate 8 (0 : Int)))))) (ai (row_putall el2 (od h2) (od h4)) (ai ((row_same el2 (od h2) (od h1)).trans (rl (List.length (rowI e2 (List.replicate 8 (0 : Int)))))) (ai (row_wle el2 (od h1) (rfl : 8 * 1 = 8) ((row_same el2 (od h2) (od h1)).trans (rl (List.length (rowI e2 (List.replicate 8 (0 : Int))))))) (ai (row_wtake el2 (od h1) (rfl : 8 * 1 = 8)) (ai (F40_ok fuel (w1, w1_1) w2 (IntKind.wrap .i64 (w1_2 + 1)) _ h5) (ai ((row_same el2 (od h2) (od h4)).trans (rl (List.length (rowI e2 (List.replicate 8 (0 : Int)))))) (ai (row_wle el2 (od h4) (rfl : 8 * 1 = 8) ((row_same el2 (od h2) (od h4)).trans (rl (List.length (rowI e2 (List.replicate 8 (0 : Int))))))) (ai (row_wtake el2 (od h4) (rfl : 8 * 1 = 8)) (ai ((eqPV_row (P := prog) (t := 58) (d := 9999) (L := r2) (M := r1) el2 eqr2 (by kernel_rfl : prog.underlying 58 = some (.array 8 2)) (by kernel_rfl : prog.info? 2 = some t2) (by kernel_rfl) (od h6) (od h4)).trans (congrArg some h7)) trivial))))))))))))))))) (by kernel_rfl)) (Weak.sel (E := []) (E' := []) (H := [.cells [.p (.bool false)] 0, .loop 1 R51_1_0_1_0 [(2, .p (.ref [.ref [.int .i64 w1, .sl (List.map e62 w1_1) false]])), (3, .p (.ref [.int .i64 w1_2])), (4, .ptr 0 0 1)] none, .cells (rowI e2 w2) 0, .cells (rowI e2 w2) 0, .cells (rowI e2 r1) 0]) (H' := [.cells [.p (.bool false)] 0, .loop 1 R51_1_0_1_0 [(2, .p (.ref [.ref [.int .i64 w1, .sl (List.map e62 w1_1) false]])), (3, .p (.ref [.int .i64 w1_2])), (4, .ptr 0 0 1)] none, .cells (rowI e2 w2) 0]) [0, 1, 2] (selH_cons (o := .cells [.p (.bool false)] 0) (o' := .cells [.p (.bool false)] 0) (by kernel_rfl) (sel_x (by kernel_rfl)) (selH_cons (o := .loop 1 R51_1_0_1_0 [(2, .p (.ref [.ref [.int .i64 w1, .sl (List.map e62 w1_1) false]])), (3, .p (.ref [.int .i64 w1_2])), (4, .ptr 0 0 1)] none) (o' := .loop 1 R51_1_0_1_0 [(2, .p (.ref [.ref [.int .i64 w1, .sl (List.map e62 w1_1) false]])), (3, .p (.ref [.int .i64 w1_2])), (4, .ptr 0 0 1)] none) (by kernel_rfl) (sel_loop (by kernel_rfl)) (selH_cons (o := .cells (rowI e2 w2) 0) (o' := .cells (rowI e2 w2) 0) (by kernel_rfl) sel_row trivial))) (by kernel_rfl) (by kernel_rfl))) (by kernel_rfl) (by kernel_rfl : _ = (.p (.bool false), [.cells [.p (.bool false)] 0, .loop 2 R51_1_0_1_0 [(2, .p (.ref [.ref [.int .i64 w1, .sl (List.map e62 w1_1) false]])), (3, .p (.ref [.int .i64 w1_2])), (4, .ptr 0 0 1)] (some .ret), .cells (rowI e2 w2) 0]))) trivial)) (by kernel_rfl)) (Weak.sel (E := []) (E' := []) (H := [.cells [.p (.bool false)] 0, .loop 2 R51_1_0_1_0 [(2, .p (.ref [.ref [.int .i64 w1, .sl (List.map e62 w1_1) false]])), (3, .p (.ref [.int .i64 w1_2])), (4, .ptr 0 0 1)] (some .ret), .cells (rowI e2 w2) 0]) (H' := [.cells [.p (.bool false)] 0, .loop 2 R51_1_0_1_0 [(2, .p (.ref [.ref [.int .i64 w1, .sl (List.map e62 w1_1) false]])), (3, .p (.ref [.int .i64 w1_2])), (4, .ptr 0 0 1)] (some .ret)]) [0, 1] (selH_cons (o := .cells [.p (.bool false)] 0) (o' := .cells [.p (.bool false)] 0) (by kernel_rfl) (sel_x (by kernel_rfl)) (selH_cons (o := .loop 2 R51_1_0_1_0 [(2, .p (.ref [.ref [.int .i64 w1, .sl (List.map e62 w1_1) false]])), (3, .p (.ref [.int .i64 w1_2])), (4, .ptr 0 0 1)] (some .ret)) (o' := .loop 2 R51_1_0_1_0 [(2, .p (.ref [.ref [.int .i64 w1, .sl (List.map e62 w1_1) false]])), (3, .p (.ref [.int .i64 w1_2])), (4, .ptr 0 0 1)] (some .ret)) (by kernel_rfl) (sel_loop (by kernel_rfl)) trivial)) (by kernel_rfl) (by kernel_rfl))) (by simp)) (by kernel_rfl) (by kernel_rfl)
def G64_2  (fuel : Nat) (p1 : Int) (p1_1 : (List (Int × Int))) (w0 : Bool) (w1 : Int) (w1_1 : (List (Int × Int))) (w1_2 : Int) : Option (Bool ⊕ Unit) :=
  oif (w0)
  ((obind (L64_2_0 p1 p1_1 w1 w1_1 w1_2 fuel (List.replicate 8 (0 : Int))) fun y1 => match y1 with
    | .inl y1 => some (.inl true)
    | .inr (y1) => some (.inr (()))))
  ((obind (L64_2_2 p1 p1_1 w1 w1_1 w1_2 fuel (List.replicate 8 (0 : Int))) fun y1 => match y1 with
    | .inl y1 => some (.inl false)
    | .inr (y1) => some (.inr (()))))
noncomputable def G64_2_post (p1 : Int) (p1_1 : (List (Int × Int))) (w0 : Bool) (w1 : Int) (w1_1 : (List (Int × Int))) (w1_2 : Int)  : (Bool ⊕ Unit) → IV × List MObj
  | .inl y => (.tup [], [.cells [.p (.bool y)] 0, .loop 0 R51_1_0_1_0 [(2, .p (.ref [.ref [.int .i64 w1, .sl (List.map e62 w1_1) false]])), (3, .p (.ref [.int .i64 w1_2])), (4, .ptr 0 0 1)] none])
  | .inr (y) => (.tup [], [.cells [.p (.bool false)] 0, .loop 2 R51_1_0_1_0 [(2, .p (.ref [.ref [.int .i64 w1, .sl (List.map e62 w1_1) false]])), (3, .p (.ref [.int .i64 w1_2])), (4, .ptr 0 0 1)] (some .ret)])
theorem G64_2_ok  (fuel : Nat) (p1 : Int) (p1_1 : (List (Int × Int))) (w0 : Bool) (w1 : Int) (w1_1 : (List (Int × Int))) (w1_2 : Int)  (r : (Bool ⊕ Unit)) (h : G64_2 fuel p1 p1_1 w0 w1 w1_1 w1_2 = some r) : CallI prog 64 [.yld 1, .p (.ref [.ref [.int .i64 p1, .sl (List.map e62 p1_1) false]])] [.cells [.p (.bool w0)] 0, .loop 0 R51_1_0_1_0 [(2, .p (.ref [.ref [.int .i64 w1, .sl (List.map e62 w1_1) false]])), (3, .p (.ref [.int .i64 w1_2])), (4, .ptr 0 0 1)] none] (G64_2_post p1 p1_1 w0 w1 w1_1 w1_2 r).1 (G64_2_post p1 p1_1 w0 w1 w1_1 w1_2 r).2 := by
  unfold G64_2 at h
  let c54 : List CC := [.reg [] [] 1 [(0, some 2, .a)] [0, 1, 3]]
  refine oif_elim h (fun h1 g1 => ?_) (fun h1 g1 => ?_)
  · subst h1
    refine obind_elim g1 fun y h2 g2 => ?_
    match y, h2, g2 with
    | .inl y1, h2, g2 =>
      have hr := Option.some.inj g2
      subst hr
      exact CallI.cast (callI_of is64 (by kernel_rfl) (m := 2) (by kernel_rfl) (e := .ret) (vs := []) (path hm (ks := []) (σ' := ⟨[], [.cells [.p (.bool true)] 0, .loop 0 R51_1_0_1_0 [(2, .p (.ref [.ref [.int .i64 w1, .sl (List.map e62 w1_1) false]])), (3, .p (.ref [.int .i64 w1_2])), (4, .ptr 0 0 1)] none]⟩) (cc := c54 ++ [.leaf .ret ⟨[], [.cells [.p (.bool true)] 0, .loop 0 R51_1_0_1_0 [(2, .p (.ref [.ref [.int .i64 w1, .sl (List.map e62 w1_1) false]])), (3, .p (.ref [.int .i64 w1_2])), (4, .ptr 0 0 1)] none]⟩])
      (ai (SemJ.loop (L64_2_0_ok p1 p1_1 w1 w1_1 w1_2 fuel (List.replicate 8 (0 : Int)) _ h2)) trivial) (by kernel_rfl)) rfl (show True from trivial) (by kernel_rfl)) (by kernel_rfl)
    | .inr (y1), h2, g2 =>
      have hr := Option.some.inj g2
      subst hr
      exact CallI.cast (callI_of is64 (by kernel_rfl) (m := 2) (by kernel_rfl) (e := .ret) (vs := []) (path hm (ks := []) (σ' := ⟨[], [.cells [.p (.bool false)] 0, .loop 2 R51_1_0_1_0 [(2, .p (.ref [.ref [.int .i64 w1, .sl (List.map e62 w1_1) false]])), (3, .p (.ref [.int .i64 w1_2])), (4, .ptr 0 0 1)] (some .ret)]⟩) (cc := c54 ++ [.leaf .ret ⟨[], [.cells [.p (.bool false)] 0, .loop 2 R51_1_0_1_0 [(2, .p (.ref [.ref [.int .i64 w1, .sl (List.map e62 w1_1) false]])), (3, .p (.ref [.int .i64 w1_2])), (4, .ptr 0 0 1)] (some .ret)]⟩])
      (ai (SemJ.loop (L64_2_0_ok p1 p1_1 w1 w1_1 w1_2 fuel (List.replicate 8 (0 : Int)) _ h2)) trivial) (by kernel_rfl)) rfl (show True from trivial) (by kernel_rfl)) (by kernel_rfl)
  · subst h1
    refine obind_elim g1 fun y h2 g2 => ?_
    match y, h2, g2 with
    | .inl y1, h2, g2 =>
      have hr := Option.some.inj g2
      subst hr
      exact CallI.cast (callI_of is64 (by kernel_rfl) (m := 2) (by kernel_rfl) (e := .ret) (vs := []) (path hm (ks := []) (σ' := ⟨[], [.cells [.p (.bool false)] 0, .loop 0 R51_1_0_1_0 [(2, .p (.ref [.ref [.int .i64 w1, .sl (List.map e62 w1_1) false]])), (3, .p (.ref [.int .i64 w1_2])), (4, .ptr 0 0 1)] none]⟩) (cc := c54 ++ [.leaf .ret ⟨[], [.cells [.p (.bool false)] 0, .loop 0 R51_1_0_1_0 [(2, .p (.ref [.ref [.int .i64 w1, .sl (List.map e62 w1_1) false]])), (3, .p (.ref [.int .i64 w1_2])), (4, .ptr 0 0 1)] none]⟩])
      (ai (SemJ.loop (L64_2_2_ok p1 p1_1 w1 w1_1 w1_2 fuel (List.replicate 8 (0 : Int)) _ h2)) trivial) (by kernel_rfl)) rfl (show True from trivial) (by kernel_rfl)) (by kernel_rfl)
    | .inr (y1), h2, g2 =>
      have hr := Option.some.inj g2
      subst hr
      exact CallI.cast (callI_of is64 (by kernel_rfl) (m := 2) (by kernel_rfl) (e := .ret) (vs := []) (path hm (ks := []) (σ' := ⟨[], [.cells [.p (.bool false)] 0, .loop 2 R51_1_0_1_0 [(2, .p (.ref [.ref [.int .i64 w1, .sl (List.map e62 w1_1) false]])), (3, .p (.ref [.int .i64 w1_2])), (4, .ptr 0 0 1)] (some .ret)]⟩) (cc := c54 ++ [.leaf .ret ⟨[], [.cells [.p (.bool false)] 0, .loop 2 R51_1_0_1_0 [(2, .p (.ref [.ref [.int .i64 w1, .sl (List.map e62 w1_1) false]])), (3, .p (.ref [.int .i64 w1_2])), (4, .ptr 0 0 1)] (some .ret)]⟩])
      (ai (SemJ.loop (L64_2_2_ok p1 p1_1 w1 w1_1 w1_2 fuel (List.replicate 8 (0 : Int)) _ h2)) trivial) (by kernel_rfl)) rfl (show True from trivial) (by kernel_rfl)) (by kernel_rfl)
def F51  (fuel : Nat) (p0 : (Int × (List (Int × Int)))) (p1 : Int) : Option Bool :=
  obind (F47 fuel (p0.1, p0.2)) fun y1 => (obind (G64_2 fuel ((p0.1, p0.2).1) ((p0.1, p0.2).2) false p0.1 p0.2 p1) fun y2 => match y2 with
  | .inl y2 => oif (y2)
    (some true)
    (some true)
  | .inr (y2) => some false)
theorem F51_ok  (fuel : Nat) (p0 : (Int × (List (Int × Int)))) (p1 : Int)  (r : Bool) (h : F51 fuel p0 p1 = some r) : CallP prog 51 [.ref [.int .i64 p0.1, .sl (List.map e62 p0.2) false], .int .i64 p1] (.bool r) := by
  unfold F51 at h
  refine obind_elim h fun y1 h1 g1 => ?_
  let c55 : List CC := [.reg [] [] 1 [(0, none, .imm), (1, none, .imm), (2, some 0, .a)] [2, 3, 4], .reg [] [] 0 [(1, none, .call (.fn 64 [] [.ref [.ref [.int .i64 ((p0.1, p0.2).1), .sl (List.map e62 ((p0.1, p0.2).2)) false]]]))] [2, 3, 4, 8]]
  refine obind_elim g1 fun y h2 g2 => ?_
  match y, h2, g2 with
  | .inl y2, h2, g2 =>
    refine oif_elim g2 (fun h3 g3 => ?_) (fun h3 g3 => ?_)
    · subst h3
      have hr := Option.some.inj g3
      subst hr
      exact callP_of is51 rfl (path hm (ks := [4]) (σ' := ⟨[(4, .ptr 0 0 1)], [.cells [.p (.bool true)] 0, .dead]⟩) (cc := c55 ++ [.leaf .normal ⟨[(2, .p (.ref [.ref [.int .i64 p0.1, .sl (List.map e62 p0.2) false]])), (3, .p (.ref [.int .i64 p1])), (4, .ptr 0 0 1), (8, .p (.fn 64 [] [.ref [.ref [.int .i64 ((p0.1, p0.2).1), .sl (List.map e62 ((p0.1, p0.2).2)) false]]]))], [.cells [.p (.bool true)] 0, .dead]⟩, .reg [] [] 0 [] [4]])
      (ai (F47_ok fuel (p0.1, p0.2) _ h1) (ai (range_of (P := prog) (nt := 21) (m := 0) (n := 1) (c := codeAt [1, 0, 1, 0] (bodyOf f51)) (σ := ⟨[(2, .p (.ref [.ref [.int .i64 p0.1, .sl (List.map e62 p0.2) false]])), (3, .p (.ref [.int .i64 p1])), (4, .ptr 0 0 1), (8, .p (.fn 64 [] [.ref [.ref [.int .i64 ((p0.1, p0.2).1), .sl (List.map e62 ((p0.1, p0.2).2)) false]]]))], [.cells [.p (.bool false)] 0]⟩) (f := 64) (args := [.yld 1, .p (.ref [.ref [.int .i64 ((p0.1, p0.2).1), .sl (List.map e62 ((p0.1, p0.2).2)) false]])]) (H3 := [.cells [.p (.bool true)] 0, .dead]) (e := .normal) (s := 0) (R := R51_1_0_1_0) (R' := R51_1_0_1_0) (env' := [(2, .p (.ref [.ref [.int .i64 p0.1, .sl (List.map e62 p0.2) false]])), (3, .p (.ref [.int .i64 p1])), (4, .ptr 0 0 1)]) [2, 3, 4] (by kernel_rfl) (by kernel_rfl) (by kernel_rfl) (by kernel_rfl) (G64_2_ok fuel ((p0.1, p0.2).1) ((p0.1, p0.2).2) false p0.1 p0.2 p1 _ h2) (by kernel_rfl) rfl (by kernel_rfl)) trivial)) (by kernel_rfl)) (e := .ret) rfl (vs := [.p (.bool true)]) (ai (rfl : (1:Nat) = 1) trivial) (by kernel_rfl) (.p _ _ (.refl _))
    · subst h3
      have hr := Option.some.inj g3
      subst hr
      exact callP_of is51 rfl (path hm (ks := [4]) (σ' := ⟨[(4, .ptr 0 0 1)], [.cells [.p (.bool true)] 0, .dead]⟩) (cc := c55 ++ [.leaf .normal ⟨[(2, .p (.ref [.ref [.int .i64 p0.1, .sl (List.map e62 p0.2) false]])), (3, .p (.ref [.int .i64 p1])), (4, .ptr 0 0 1), (8, .p (.fn 64 [] [.ref [.ref [.int .i64 ((p0.1, p0.2).1), .sl (List.map e62 ((p0.1, p0.2).2)) false]]]))], [.cells [.p (.bool false)] 0, .dead]⟩, .reg [] [] 0 [] [4]])
      (ai (F47_ok fuel (p0.1, p0.2) _ h1) (ai (range_of (P := prog) (nt := 21) (m := 0) (n := 1) (c := codeAt [1, 0, 1, 0] (bodyOf f51)) (σ := ⟨[(2, .p (.ref [.ref [.int .i64 p0.1, .sl (List.map e62 p0.2) false]])), (3, .p (.ref [.int .i64 p1])), (4, .ptr 0 0 1), (8, .p (.fn 64 [] [.ref [.ref [.int .i64 ((p0.1, p0.2).1), .sl (List.map e62 ((p0.1, p0.2).2)) false]]]))], [.cells [.p (.bool false)] 0]⟩) (f := 64) (args := [.yld 1, .p (.ref [.ref [.int .i64 ((p0.1, p0.2).1), .sl (List.map e62 ((p0.1, p0.2).2)) false]])]) (H3 := [.cells [.p (.bool false)] 0, .dead]) (e := .normal) (s := 0) (R := R51_1_0_1_0) (R' := R51_1_0_1_0) (env' := [(2, .p (.ref [.ref [.int .i64 p0.1, .sl (List.map e62 p0.2) false]])), (3, .p (.ref [.int .i64 p1])), (4, .ptr 0 0 1)]) [2, 3, 4] (by kernel_rfl) (by kernel_rfl) (by kernel_rfl) (by kernel_rfl) (G64_2_ok fuel ((p0.1, p0.2).1) ((p0.1, p0.2).2) false p0.1 p0.2 p1 _ h2) (by kernel_rfl) rfl (by kernel_rfl)) trivial)) (by kernel_rfl)) (e := .ret) rfl (vs := [.p (.bool true)]) (ai (rfl : (1:Nat) = 1) trivial) (by kernel_rfl) (.p _ _ (.refl _))
  | .inr (y2), h2, g2 =>
    have hr := Option.some.inj g2
    subst hr
    exact callP_of is51 rfl (path hm (ks := [4]) (σ' := ⟨[(4, .ptr 0 0 1)], [.cells [.p (.bool false)] 0, .dead]⟩) (cc := c55 ++ [.leaf .ret ⟨[(2, .p (.ref [.ref [.int .i64 p0.1, .sl (List.map e62 p0.2) false]])), (3, .p (.ref [.int .i64 p1])), (4, .ptr 0 0 1), (8, .p (.fn 64 [] [.ref [.ref [.int .i64 ((p0.1, p0.2).1), .sl (List.map e62 ((p0.1, p0.2).2)) false]]]))], [.cells [.p (.bool false)] 0, .dead]⟩])
      (ai (F47_ok fuel (p0.1, p0.2) _ h1) (ai (range_of (P := prog) (nt := 21) (m := 0) (n := 1) (c := codeAt [1, 0, 1, 0] (bodyOf f51)) (σ := ⟨[(2, .p (.ref [.ref [.int .i64 p0.1, .sl (List.map e62 p0.2) false]])), (3, .p (.ref [.int .i64 p1])), (4, .ptr 0 0 1), (8, .p (.fn 64 [] [.ref [.ref [.int .i64 ((p0.1, p0.2).1), .sl (List.map e62 ((p0.1, p0.2).2)) false]]]))], [.cells [.p (.bool false)] 0]⟩) (f := 64) (args := [.yld 1, .p (.ref [.ref [.int .i64 ((p0.1, p0.2).1), .sl (List.map e62 ((p0.1, p0.2).2)) false]])]) (H3 := [.cells [.p (.bool false)] 0, .dead]) (e := .ret) (s := 2) (R := R51_1_0_1_0) (R' := R51_1_0_1_0) (env' := [(2, .p (.ref [.ref [.int .i64 p0.1, .sl (List.map e62 p0.2) false]])), (3, .p (.ref [.int .i64 p1])), (4, .ptr 0 0 1)]) [2, 3, 4] (by kernel_rfl) (by kernel_rfl) (by kernel_rfl) (by kernel_rfl) (G64_2_ok fuel ((p0.1, p0.2).1) ((p0.1, p0.2).2) false p0.1 p0.2 p1 _ h2) (by kernel_rfl) rfl (by kernel_rfl)) trivial)) (by kernel_rfl)) (e := .ret) rfl (vs := [.p (.bool false)]) (ai (rfl : (1:Nat) = 1) trivial) (by kernel_rfl) (.p _ _ (.refl _))
def L24_2  (v4 : Int) (v4_1 : (List (Int × Int))) (v21 : Int) : Nat → Int → (List Int) → Option (List Int)
  | 0, _, _ => none
  | fuel + 1, v22, w0 =>
    oif ((decide (v22 < v21)))
    (obind (F51 fuel (v4, v4_1) v22) fun r1 => oif (r1)
      (oif (decide ((0:Int) ≤ (((List.length w0) : Nat) : Int))) (oif (decide (((((List.length w0) : Nat) : Int) : Int) ≤ (((List.length w0) : Nat) : Int))) (oif (decide (((List.length w0) + 1) * 8 ≤ 140737488355328)) (L24_2 v4 v4_1 v21 fuel (IntKind.wrap .i64 (v22 + 1)) (w0 ++ [v22])) none) none) none)
      (L24_2 v4 v4_1 v21 fuel (IntKind.wrap .i64 (v22 + 1)) w0))
    (some (w0))
noncomputable def L24_2_post (v4 : Int) (v4_1 : (List (Int × Int))) (v21 : Int)  : (List Int) → Ex × St
  | y => ((.exit 0), ⟨[(6, .msl 0 0 (List.length y) (List.length (rowI e3 y)) false)], [.cells (rowI e3 y) 1]⟩)
theorem L24_2_ok  (v4 : Int) (v4_1 : (List (Int × Int))) (v21 : Int)  : ∀ (fuel : Nat) (v22 : Int) (w0 : (List Int)) (r : (List Int)), L24_2 v4 v4_1 v21 fuel v22 w0 = some r →
    SemJ prog ⟨39, 0, false⟩ (codeAt [1, 1, 1, 1, 0, 1, 0, 0] (bodyOf f24)) ⟨[(4, .p (.ref [.int .i64 v4, .sl (List.map e62 v4_1) false])), (6, .msl 0 0 (List.length w0) (List.length (rowI e3 w0)) false), (21, .p (.int .i64 v21)), (22, .p (.int .i64 v22))], [.cells (rowI e3 w0) 1]⟩ (L24_2_post v4 v4_1 v21 r).1 (L24_2_post v4 v4_1 v21 r).2
  | 0, _, _, _, h => nomatch h
  | fuel + 1, v22, w0, r, h => by
    unfold L24_2 at h
    refine oif_elim h (fun h1 g1 => ?_) (fun h1 g1 => ?_)
    · refine obind_elim g1 fun r1 h2 g2 => ?_
      let c57 : List CC := [.reg [] [] 0 [(0, none, .b true)] [4, 6, 21, 22, 23], .reg [] [] 0 [] [4, 6, 7, 21, 22]]
      refine oif_elim g2 (fun h3 g3 => ?_) (fun h3 g3 => ?_)
      · subst h3
        refine oif_elim g3 (fun h4 g4 => ?_) (fun _ h => nomatch h)
        refine oif_elim g4 (fun h5 g5 => ?_) (fun _ h => nomatch h)
        refine oif_elim g5 (fun h6 g6 => ?_) (fun _ h => nomatch h)
        exact SemJ.again (σ1 := ⟨[(4, .p (.ref [.int .i64 v4, .sl (List.map e62 v4_1) false])), (6, .msl 0 0 (List.length (w0 ++ [v22])) (List.length (rowI e3 (w0 ++ [v22]))) false), (21, .p (.int .i64 v21)), (22, .p (.int .i64 (IntKind.wrap .i64 (v22 + 1))))], [.cells (rowI e3 (w0 ++ [v22])) 1]⟩) (SemC.post (path hm (σ' := ⟨[(4, .p (.ref [.int .i64 v4, .sl (List.map e62 v4_1) false])), (6, .msl 1 0 (List.length (w0 ++ [v22])) (List.length (rowI e3 (w0 ++ [v22]))) false), (21, .p (.int .i64 v21)), (22, .p (.int .i64 (IntKind.wrap .i64 (v22 + 1))))], [.cells (rowI e3 w0) 1, .cells (rowI e3 (w0 ++ [v22])) 1]⟩) (ks := [4, 6, 21, 22]) (cc := c57 ++ [.reg [] [] 0 [(2, none, .call (.bool true))] [4, 6, 7, 21, 22, 27], .reg [] [] 1 [(5, none, .ap [] (List.length w0) 0), (8, some 1, .ap (rowI e3 (w0 ++ [v22])) (List.length (w0 ++ [v22])) (List.length (rowI e3 (w0 ++ [v22]))))] [4, 6, 21, 22], .reg [] [] 0 [] [4, 6, 21, 22]])
        (ai h1 (ai (F51_ok fuel (v4, v4_1) v22 _ h2) (ai (sl_lo0 (some (((List.length w0) : Nat) : Int)) (List.length w0) (List.length w0)) (ai (rl (List.length w0)) (ai (od h4) (ai (od h5) (ai (rfl : ((((List.length w0) : Nat) : Int) : Int) = (((List.length w0) : Nat) : Int)) (ai (by decide : 0 < 1) (ai (od h6) (ai (app_c2 (by decide) (od h6)) (ai (app_len e3 [v22] (rl (List.length w0))) (ai (rl (List.length (rowI e3 (w0 ++ [v22])))) (ai (row_app3 el3 [v22] (rl (List.length w0))) (ai (row_sc el3 [v22]) (ai (row_es el3 [v22]) (ai (rl (List.length (rowI e3 w0))) (ai (row_whole_le el3 (rl (List.length w0)) (rl (List.length (rowI e3 w0)))) trivial))))))))))))))))) (by kernel_rfl)) (Weak.sel (E := [(4, .p (.ref [.int .i64 v4, .sl (List.map e62 v4_1) false])), (6, .msl 1 0 (List.length (w0 ++ [v22])) (List.length (rowI e3 (w0 ++ [v22]))) false), (21, .p (.int .i64 v21)), (22, .p (.int .i64 (IntKind.wrap .i64 (v22 + 1))))]) (E' := [(4, .p (.ref [.int .i64 v4, .sl (List.map e62 v4_1) false])), (6, .msl 0 0 (List.length (w0 ++ [v22])) (List.length (rowI e3 (w0 ++ [v22]))) false), (21, .p (.int .i64 v21)), (22, .p (.int .i64 (IntKind.wrap .i64 (v22 + 1))))]) (H := [.cells (rowI e3 w0) 1, .cells (rowI e3 (w0 ++ [v22])) 1]) (H' := [.cells (rowI e3 (w0 ++ [v22])) 1]) [1] (selH_cons (o := .cells (rowI e3 (w0 ++ [v22])) 1) (o' := .cells (rowI e3 (w0 ++ [v22])) 1) (by kernel_rfl) sel_row trivial) (by kernel_rfl) (by kernel_rfl))) (L24_2_ok v4 v4_1 v21 fuel (IntKind.wrap .i64 (v22 + 1)) (w0 ++ [v22]) _ g6)
      · subst h3
        exact SemJ.again (σ1 := ⟨[(4, .p (.ref [.int .i64 v4, .sl (List.map e62 v4_1) false])), (6, .msl 0 0 (List.length w0) (List.length (rowI e3 w0)) false), (21, .p (.int .i64 v21)), (22, .p (.int .i64 (IntKind.wrap .i64 (v22 + 1))))], [.cells (rowI e3 w0) 1]⟩) (path hm (σ' := ⟨[(4, .p (.ref [.int .i64 v4, .sl (List.map e62 v4_1) false])), (6, .msl 0 0 (List.length w0) (List.length (rowI e3 w0)) false), (21, .p (.int .i64 v21)), (22, .p (.int .i64 (IntKind.wrap .i64 (v22 + 1))))], [.cells (rowI e3 w0) 1]⟩) (ks := [4, 6, 21, 22]) (cc := c57 ++ [.reg [] [] 0 [(2, none, .call (.bool false))] [4, 6, 7, 21, 22, 27], .reg [] [] 0 [] [4, 6, 21, 22]])
        (ai h1 (ai (F51_ok fuel (v4, v4_1) v22 _ h2) trivial)) (by kernel_rfl)) (L24_2_ok v4 v4_1 v21 fuel (IntKind.wrap .i64 (v22 + 1)) w0 _ g3)
    · have hr := Option.some.inj g1
      subst hr
      exact SemC.cast (SemJ.out (e := (.exit 0)) (path hm (σ' := ⟨[(6, .msl 0 0 (List.length w0) (List.length (rowI e3 w0)) false)], [.cells (rowI e3 w0) 1]⟩) (ks := [6]) (cc := [.reg [] [] 0 [(0, none, .b false)] [4, 6, 21, 22, 23]])
        (ai h1 trivial) (by kernel_rfl)) (by simp)) (by kernel_rfl) (by kernel_rfl)
def L24_0  (v4 : Int) (v4_1 : (List (Int × Int))) (v21 : Int) : Nat → Int → Option (List Int)
  | 0, _ => none
  | fuel + 1, v22 =>
    oif ((decide (v22 < v21)))
    (obind (F51 fuel (v4, v4_1) v22) fun r1 => oif (r1)
      (oif (decide (1 * 8 ≤ 140737488355328)) (obind (L24_2 v4 v4_1 v21 fuel (IntKind.wrap .i64 (v22 + 1)) [v22]) fun y2 => some (y2)) none)
      (L24_0 v4 v4_1 v21 fuel (IntKind.wrap .i64 (v22 + 1))))
    (some (([] : List Int)))
noncomputable def L24_0_post (v4 : Int) (v4_1 : (List (Int × Int))) (v21 : Int)  : (List Int) → Ex × St
  | y => ((.exit 0), ⟨[(6, .p (.sl (List.map e3 y) false))], []⟩)
theorem L24_0_ok  (v4 : Int) (v4_1 : (List (Int × Int))) (v21 : Int)  : ∀ (fuel : Nat) (v22 : Int) (r : (List Int)), L24_0 v4 v4_1 v21 fuel v22 = some r →
    SemJ prog ⟨39, 0, false⟩ (codeAt [1, 1, 1, 1, 0, 1, 0, 0] (bodyOf f24)) ⟨[(4, .p (.ref [.int .i64 v4, .sl (List.map e62 v4_1) false])), (6, .p (.nilsl)), (21, .p (.int .i64 v21)), (22, .p (.int .i64 v22))], []⟩ (L24_0_post v4 v4_1 v21 r).1 (L24_0_post v4 v4_1 v21 r).2
  | 0, _, _, h => nomatch h
  | fuel + 1, v22, r, h => by
    unfold L24_0 at h
    refine oif_elim h (fun h1 g1 => ?_) (fun h1 g1 => ?_)
    · refine obind_elim g1 fun r1 h2 g2 => ?_
      let c58 : List CC := [.reg [] [] 0 [(0, none, .b true)] [4, 6, 21, 22, 23], .reg [] [] 0 [] [4, 6, 7, 21, 22]]
      refine oif_elim g2 (fun h3 g3 => ?_) (fun h3 g3 => ?_)
      · subst h3
        refine oif_elim g3 (fun h4 g4 => ?_) (fun _ h => nomatch h)
        refine obind_elim g4 fun y2 h5 g5 => ?_
        have hr := Option.some.inj g5
        subst hr
        exact SemC.cast (SemJ.again (σ1 := ⟨[(4, .p (.ref [.int .i64 v4, .sl (List.map e62 v4_1) false])), (6, .msl 0 0 (List.length [v22]) (List.length (rowI e3 [v22])) false), (21, .p (.int .i64 v21)), (22, .p (.int .i64 (IntKind.wrap .i64 (v22 + 1))))], [.cells (rowI e3 [v22]) 1]⟩) (path hm (σ' := ⟨[(4, .p (.ref [.int .i64 v4, .sl (List.map e62 v4_1) false])), (6, .msl 0 0 (List.length [v22]) (List.length (rowI e3 [v22])) false), (21, .p (.int .i64 v21)), (22, .p (.int .i64 (IntKind.wrap .i64 (v22 + 1))))], [.cells (rowI e3 [v22]) 1]⟩) (ks := [4, 6, 21, 22]) (cc := c58 ++ [.reg [] [] 0 [(2, none, .call (.bool true))] [4, 6, 7, 21, 22, 27], .reg [] [] 1 [(8, some 0, .ap (rowI e3 [v22]) (List.length [v22]) (List.length (rowI e3 [v22])))] [4, 6, 21, 22], .reg [] [] 0 [] [4, 6, 21, 22]])
        (ai h1 (ai (F51_ok fuel (v4, v4_1) v22 _ h2) (ai (by decide : (0:Int) ≤ 0) (ai (by decide : (0 : Int) ≤ ((0 : Nat) : Int)) (ai (rfl : (0 : Int) = 0) (ai (by decide : 0 < 1) (ai (od h4) (ai (app_c0 (by decide) (od h4)) (ai (rl (List.length [v22])) (ai (rl (List.length (rowI e3 [v22]))) (ai (row_src e3 [v22]) (ai (row_sc el3 [v22]) (ai (row_es el3 [v22]) trivial))))))))))))) (by kernel_rfl)) (SemC.post (L24_2_ok v4 v4_1 v21 fuel (IntKind.wrap .i64 (v22 + 1)) [v22] _ h5) (Weak.trans (wcast (Weak.freeze (E := [(6, .msl 0 0 (List.length y2) (List.length (rowI e3 y2)) false)]) (E' := [(6, .p (.sl (List.map e3 y2) false))]) (H := [.cells (rowI e3 y2) 1]) [0] (by kernel_rfl) (.snap _ _ _ _ _ (snap_row (g := 1) (L := y2) el3 (by kernel_rfl) (rl (List.length (rowI e3 y2))) (rl (List.length y2))) .nil)) (by kernel_rfl : (⟨[(6, .p (.sl (List.map e3 y2) false))], puts (dieW [0]) [.cells (rowI e3 y2) 1]⟩ : St) = ⟨[(6, .p (.sl (List.map e3 y2) false))], [.dead]⟩)) (Weak.sel (E := [(6, .p (.sl (List.map e3 y2) false))]) (E' := [(6, .p (.sl (List.map e3 y2) false))]) (H := [.dead]) (H' := []) [] trivial (by kernel_rfl) (by kernel_rfl))))) (by kernel_rfl) (by kernel_rfl)
      · subst h3
        exact SemJ.again (σ1 := ⟨[(4, .p (.ref [.int .i64 v4, .sl (List.map e62 v4_1) false])), (6, .p (.nilsl)), (21, .p (.int .i64 v21)), (22, .p (.int .i64 (IntKind.wrap .i64 (v22 + 1))))], []⟩) (path hm (σ' := ⟨[(4, .p (.ref [.int .i64 v4, .sl (List.map e62 v4_1) false])), (6, .p (.nilsl)), (21, .p (.int .i64 v21)), (22, .p (.int .i64 (IntKind.wrap .i64 (v22 + 1))))], []⟩) (ks := [4, 6, 21, 22]) (cc := c58 ++ [.reg [] [] 0 [(2, none, .call (.bool false))] [4, 6, 7, 21, 22, 27], .reg [] [] 0 [] [4, 6, 21, 22]])
        (ai h1 (ai (F51_ok fuel (v4, v4_1) v22 _ h2) trivial)) (by kernel_rfl)) (L24_0_ok v4 v4_1 v21 fuel (IntKind.wrap .i64 (v22 + 1)) _ g3)
    · have hr := Option.some.inj g1
      subst hr
      exact SemC.cast (SemJ.out (e := (.exit 0)) (SemC.post (path hm (σ' := ⟨[(6, .p (.nilsl))], []⟩) (ks := [6]) (cc := [.reg [] [] 0 [(0, none, .b false)] [4, 6, 21, 22, 23]])
        (ai h1 trivial) (by kernel_rfl)) (wcast (Weak.freeze (E := [(6, .p (.nilsl))]) (E' := [(6, .p (.sl (List.map e3 ([] : List Int)) false))]) (H := []) [] (by kernel_rfl) (.snap _ _ _ _ _ (.p _ _ (.nil _)) .nil)) (by kernel_rfl : (⟨[(6, .p (.sl (List.map e3 ([] : List Int)) false))], puts (dieW []) []⟩ : St) = ⟨[(6, .p (.sl (List.map e3 ([] : List Int)) false))], []⟩))) (by simp)) (by kernel_rfl) (by kernel_rfl)
def F24  (fuel : Nat) (p0 : (Int × (List (Int × Int)))) : Option ((List Int) × Int) :=
  (obind (F39 fuel (p0.1, p0.2)) fun y1 => match y1 with
  | .inl y1 => oif ((y1 != 0))
    (some ([], y1))
    (none)
  | .inr (y1) => obind (L24_0 ((p0.1, p0.2).1) ((p0.1, p0.2).2) (((p0.1, p0.2).2).length : Int) fuel 0) fun y2 => some (y2, 0))
theorem F24_ok  (fuel : Nat) (p0 : (Int × (List (Int × Int))))  (r : ((List Int) × Int)) (h : F24 fuel p0 = some r) : CallP prog 24 [.agg [.int .i64 p0.1, .sl (List.map e62 p0.2) false]] (.tup [.sl (List.map e3 r.1) false, .int .i64 r.2]) := by
  unfold F24 at h
  refine obind_elim h fun y h1 g1 => ?_
  match y, h1, g1 with
  | .inl y1, h1, g1 =>
    refine oif_elim g1 (fun h2 g2 => ?_) (fun h2 g2 => ?_)
    · have hr := Option.some.inj g2
      subst hr
      exact callP_of is24 rfl (path hm (ks := [2, 3]) (σ' := ⟨[(2, .p (.nilsl)), (3, .p (.int .i64 y1))], []⟩) (cc := [.reg [] [] 0 [(0, none, .imm)] [1], .reg [] [] 0 [(1, none, .call (.tup [.nilp, .int .i64 y1]))] [4, 5], .reg [] [] 0 [(1, none, .b true)] [4, 5, 14], .reg [] [] 0 [] [2, 3]])
      (ai (F39_ok fuel (p0.1, p0.2) _ h1) (ai h2 trivial)) (by kernel_rfl)) (e := .ret) rfl (vs := [.p (.nilsl), .p (.int .i64 y1)]) trivial (by kernel_rfl) (.tup _ _ (.cons _ _ _ _ (.p _ _ (.nil _)) (.cons _ _ _ _ (.p _ _ (.refl _)) .nil)))
    · exact nomatch g2
  | .inr (y1), h1, g1 =>
    refine obind_elim g1 fun y2 h2 g2 => ?_
    have hr := Option.some.inj g2
    subst hr
    exact callP_of is24 rfl (path hm (ks := [2, 3]) (σ' := ⟨[(2, .p (.sl (List.map e3 y2) false)), (3, .p (.int .i64 0))], []⟩) (cc := [.reg [] [] 0 [(0, none, .imm)] [1], .reg [] [] 0 [(1, none, .call (.tup [.ref [.int .i64 ((p0.1, p0.2).1), .sl (List.map e62 ((p0.1, p0.2).2)) false], .int .i64 0]))] [4, 5], .reg [] [] 0 [] [4, 5, 14], .reg [] [] 0 [] [4, 6], .reg [] [] 0 [(5, none, .n (((p0.1, p0.2).2).length : Int))] [4, 6, 21, 22], .leaf (.exit 0) ⟨[(6, .p (.sl (List.map e3 y2) false))], []⟩, .reg [] [] 0 [] [2, 3]])
      (ai (F39_ok fuel (p0.1, p0.2) _ h1) (ai (len_map e62 ((p0.1, p0.2).2)) (ai (SemJ.loop (L24_0_ok ((p0.1, p0.2).1) ((p0.1, p0.2).2) (((p0.1, p0.2).2).length : Int) fuel 0 _ h2)) trivial))) (by kernel_rfl)) (e := .ret) rfl (vs := [.p (.sl (List.map e3 y2) false), .p (.int .i64 0)]) trivial (by kernel_rfl) (.tup _ _ (.cons _ _ _ _ (.p _ _ (.refl _)) (.cons _ _ _ _ (.p _ _ (.refl _)) .nil)))
def L67_0  (v0 : (List Int)) (v1 : Int) (v7 : Int) : Nat → Int → Option (Int ⊕ Unit)
  | 0, _ => none
  | fuel + 1, v8 =>
    oif ((decide (v8 < v7)))
    (obind (sg v0 v8) fun x1 => oif ((v1 == x1))
      (some (.inl v8))
      (L67_0 v0 v1 v7 fuel (IntKind.wrap .i64 (v8 + 1))))
    (some (.inr (())))
noncomputable def L67_0_post (v0 : (List Int)) (v1 : Int) (v7 : Int) (fp0 : Bool) : (Int ⊕ Unit) → Ex × St
  | .inl y => (.ret, ⟨[(4, .p (.int .i64 y))], []⟩)
  | .inr (y) => ((.exit 0), ⟨[], []⟩)
theorem L67_0_ok  (v0 : (List Int)) (v1 : Int) (v7 : Int) (fp0 : Bool) : ∀ (fuel : Nat) (v8 : Int) (r : (Int ⊕ Unit)), L67_0 v0 v1 v7 fuel v8 = some r →
    SemJ prog ⟨19, 0, false⟩ (codeAt [1, 0, 1, 0, 0] (bodyOf f67)) ⟨[(0, .p (.sl (List.map e3 v0) fp0)), (1, .p (.int .i64 v1)), (7, .p (.int .i64 v7)), (8, .p (.int .i64 v8))], []⟩ (L67_0_post v0 v1 v7 fp0 r).1 (L67_0_post v0 v1 v7 fp0 r).2
  | 0, _, _, h => nomatch h
  | fuel + 1, v8, r, h => by
    unfold L67_0 at h
    refine oif_elim h (fun h1 g1 => ?_) (fun h1 g1 => ?_)
    · refine obind_elim g1 fun x1 h2 g2 => ?_
      let c59 : List CC := [.reg [] [] 0 [(0, none, .b true)] [0, 1, 7, 8, 9], .reg [] [] 0 [] [0, 1, 5, 7, 8]]
      refine oif_elim g2 (fun h3 g3 => ?_) (fun h3 g3 => ?_)
      · have hr := Option.some.inj g3
        subst hr
        exact SemC.cast (SemJ.out (e := .ret) (path hm (σ' := ⟨[(4, .p (.int .i64 v8))], []⟩) (ks := [4]) (cc := c59 ++ [.reg [] [] 0 [(3, none, .iv (.p (.int .i64 x1))), (5, none, .b true)] [0, 1, 5, 7, 8, 16], .reg [] [] 0 [] [4]])
        (ai h1 (ai (sg_map (f := e3) h2) (ai h3 trivial))) (by kernel_rfl)) (by simp)) (by kernel_rfl) (by kernel_rfl)
      · exact SemJ.again (σ1 := ⟨[(0, .p (.sl (List.map e3 v0) fp0)), (1, .p (.int .i64 v1)), (7, .p (.int .i64 v7)), (8, .p (.int .i64 (IntKind.wrap .i64 (v8 + 1))))], []⟩) (path hm (σ' := ⟨[(0, .p (.sl (List.map e3 v0) fp0)), (1, .p (.int .i64 v1)), (7, .p (.int .i64 v7)), (8, .p (.int .i64 (IntKind.wrap .i64 (v8 + 1))))], []⟩) (ks := [0, 1, 7, 8]) (cc := c59 ++ [.reg [] [] 0 [(3, none, .iv (.p (.int .i64 x1))), (5, none, .b false)] [0, 1, 5, 7, 8, 16], .reg [] [] 0 [] [0, 1, 7, 8]])
        (ai h1 (ai (sg_map (f := e3) h2) (ai h3 trivial))) (by kernel_rfl)) (L67_0_ok v0 v1 v7 fp0 fuel (IntKind.wrap .i64 (v8 + 1)) _ g3)
    · have hr := Option.some.inj g1
      subst hr
      exact SemC.cast (SemJ.out (e := (.exit 0)) (path hm (σ' := ⟨[], []⟩) (ks := []) (cc := [.reg [] [] 0 [(0, none, .b false)] [0, 1, 7, 8, 9]])
        (ai h1 trivial) (by kernel_rfl)) (by simp)) (by kernel_rfl) (by kernel_rfl)
def F67  (fuel : Nat) (p0 : (List Int)) (p1 : Int) : Option Int :=
  (obind (L67_0 p0 p1 (p0.length : Int) fuel 0) fun y1 => match y1 with
  | .inl y1 => some y1
  | .inr (y1) => some (-1))
theorem F67_ok  (fuel : Nat) (p0 : (List Int)) (p1 : Int) (fp0 : Bool) (r : Int) (h : F67 fuel p0 p1 = some r) : CallP prog 67 [.sl (List.map e3 p0) fp0, .int .i64 p1] (.int .i64 r) := by
  unfold F67 at h
  let c60 : List CC := [.reg [] [] 0 [] [0, 1], .reg [] [] 0 [(1, none, .n (p0.length : Int))] [0, 1, 7, 8]]
  refine obind_elim h fun y h1 g1 => ?_
  match y, h1, g1 with
  | .inl y1, h1, g1 =>
    have hr := Option.some.inj g1
    subst hr
    exact callP_of is67 rfl (path hm (ks := [4]) (σ' := ⟨[(4, .p (.int .i64 y1))], []⟩) (cc := c60 ++ [.leaf .ret ⟨[(4, .p (.int .i64 y1))], []⟩])
      (ai (len_map e3 p0) (ai (SemJ.loop (L67_0_ok p0 p1 (p0.length : Int) fp0 fuel 0 _ h1)) trivial)) (by kernel_rfl)) (e := .ret) rfl (vs := [.p (.int .i64 y1)]) trivial (by kernel_rfl) (.p _ _ (.refl _))
  | .inr (y1), h1, g1 =>
    have hr := Option.some.inj g1
    subst hr
    exact callP_of is67 rfl (path hm (ks := [4]) (σ' := ⟨[(4, .p (.int .i64 (-1)))], []⟩) (cc := c60 ++ [.leaf (.exit 0) ⟨[], []⟩, .reg [] [] 0 [] [4]])
      (ai (len_map e3 p0) (ai (SemJ.loop (L67_0_ok p0 p1 (p0.length : Int) fp0 fuel 0 _ h1)) trivial)) (by kernel_rfl)) (e := .ret) rfl (vs := [.p (.int .i64 (-1))]) trivial (by kernel_rfl) (.p _ _ (.refl _))
def F53  (fuel : Nat) (p0 : (List Int)) (p1 : Int) : Option Bool :=
  obind (F67 fuel p0 p1) fun r1 => oif ((decide (r1 ≥ 0)))
  (some true)
  (some false)
theorem F53_ok  (fuel : Nat) (p0 : (List Int)) (p1 : Int) (fp0 : Bool) (r : Bool) (h : F53 fuel p0 p1 = some r) : CallP prog 53 [.sl (List.map e3 p0) fp0, .int .i64 p1] (.bool r) := by
  unfold F53 at h
  refine obind_elim h fun r1 h1 g1 => ?_
  refine oif_elim g1 (fun h2 g2 => ?_) (fun h2 g2 => ?_)
  · have hr := Option.some.inj g2
    subst hr
    exact callP_of is53 rfl (path hm (ks := [4]) (σ' := ⟨[(4, .p (.bool true))], []⟩) (cc := [.reg [] [] 0 [] [0, 1], .reg [] [] 0 [(2, none, .call (.int .i64 r1)), (3, none, .b true)] [4]])
      (ai (F67_ok fuel p0 p1 fp0 _ h1) (ai h2 trivial)) (by kernel_rfl)) (e := .ret) rfl (vs := [.p (.bool true)]) trivial (by kernel_rfl) (.p _ _ (.refl _))
  · have hr := Option.some.inj g2
    subst hr
    exact callP_of is53 rfl (path hm (ks := [4]) (σ' := ⟨[(4, .p (.bool false))], []⟩) (cc := [.reg [] [] 0 [] [0, 1], .reg [] [] 0 [(2, none, .call (.int .i64 r1)), (3, none, .b false)] [4]])
      (ai (F67_ok fuel p0 p1 fp0 _ h1) (ai h2 trivial)) (by kernel_rfl)) (e := .ret) rfl (vs := [.p (.bool false)]) trivial (by kernel_rfl) (.p _ _ (.refl _))
def L26_2  (v4 : (List Int)) (v22 : (List (Int × Int))) (v23 : Int) (w1 : Int) : Nat → Int → (List (Int × Int)) → Option (List (Int × Int))
  | 0, _, _ => none
  | fuel + 1, v24, w2 =>
    oif ((decide (v24 < v23)))
    (obind (sg v22 v24) fun x1 => obind (F53 fuel v4 v24) fun r2 => oif (r2)
      (L26_2 v4 v22 v23 w1 fuel (IntKind.wrap .i64 (v24 + 1)) w2)
      (oif (decide (((List.length w2) + 1) * 16 ≤ 140737488355328)) (L26_2 v4 v22 v23 w1 fuel (IntKind.wrap .i64 (v24 + 1)) (w2 ++ [(x1.1, x1.2)])) none))
    (some (w2))
noncomputable def L26_2_post (v4 : (List Int)) (v22 : (List (Int × Int))) (v23 : Int) (w1 : Int)  : (List (Int × Int)) → Ex × St
  | y => ((.exit 0), ⟨[(2, .ptr 0 0 2), (6, .ptr 1 0 2)], [.cells [.p (.int .i64 0), .p (.nilsl)] 0, .cells [.p (.int .i64 w1), .msl 2 0 (List.length y) (List.length (rowI e62 y)) false] 0, .cells (rowI e62 y) 2]⟩)
end Go.Idl.N
