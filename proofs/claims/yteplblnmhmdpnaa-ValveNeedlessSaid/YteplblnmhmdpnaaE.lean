/-
  Part E of a proof: natives of the functions that are reached, and their contracts.
-/
import Derived.Test.YteplblnmhmdpnaaD
import Derived.Test.YteplblnmhmdpnaaProg
set_option maxRecDepth 100000
set_option linter.unusedVariables false
set_option linter.unusedSimpArgs false
namespace Go.Idl.N
open Go Go.Idl Go.Proofs.Try
theorem L26_2_ok  (v4 : (List Int)) (v22 : (List (Int × Int))) (v23 : Int) (w1 : Int)  : ∀ (fuel : Nat) (v24 : Int) (w2 : (List (Int × Int))) (r : (List (Int × Int))), L26_2 v4 v22 v23 w1 fuel v24 w2 = some r →
    SemJ prog ⟨41, 0, false⟩ (codeAt [1, 1, 1, 1, 0, 1, 0, 0] (bodyOf f26)) ⟨[(2, .ptr 0 0 2), (4, .p (.sl (List.map e3 v4) false)), (6, .ptr 1 0 2), (22, .p (.sl (List.map e62 v22) false)), (23, .p (.int .i64 v23)), (24, .p (.int .i64 v24))], [.cells [.p (.int .i64 0), .p (.nilsl)] 0, .cells [.p (.int .i64 w1), .msl 2 0 (List.length w2) (List.length (rowI e62 w2)) false] 0, .cells (rowI e62 w2) 2]⟩ (L26_2_post v4 v22 v23 w1 r).1 (L26_2_post v4 v22 v23 w1 r).2
  | 0, _, _, _, h => nomatch h
  | fuel + 1, v24, w2, r, h => by
    unfold L26_2 at h
    refine oif_elim h (fun h1 g1 => ?_) (fun h1 g1 => ?_)
    · refine obind_elim g1 fun x1 h2 g2 => ?_
      refine obind_elim g2 fun r2 h3 g3 => ?_
      let c62 : List CC := [.reg [] [] 0 [(0, none, .b true)] [2, 4, 6, 22, 23, 24, 25], .reg [] [] 1 [(1, none, .iv (.p (.agg [.int .i64 x1.1, .int .i64 x1.2]))), (3, some 3, .a)] [2, 4, 6, 7, 8, 22, 23, 24]]
      refine oif_elim g3 (fun h4 g4 => ?_) (fun h4 g4 => ?_)
      · subst h4
        exact SemJ.again (σ1 := ⟨[(2, .ptr 0 0 2), (4, .p (.sl (List.map e3 v4) false)), (6, .ptr 1 0 2), (22, .p (.sl (List.map e62 v22) false)), (23, .p (.int .i64 v23)), (24, .p (.int .i64 (IntKind.wrap .i64 (v24 + 1))))], [.cells [.p (.int .i64 0), .p (.nilsl)] 0, .cells [.p (.int .i64 w1), .msl 2 0 (List.length w2) (List.length (rowI e62 w2)) false] 0, .cells (rowI e62 w2) 2]⟩) (SemC.post (path hm (σ' := ⟨[(2, .ptr 0 0 2), (4, .p (.sl (List.map e3 v4) false)), (6, .ptr 1 0 2), (22, .p (.sl (List.map e62 v22) false)), (23, .p (.int .i64 v23)), (24, .p (.int .i64 (IntKind.wrap .i64 (v24 + 1))))], [.cells [.p (.int .i64 0), .p (.nilsl)] 0, .cells [.p (.int .i64 w1), .msl 2 0 (List.length w2) (List.length (rowI e62 w2)) false] 0, .cells (rowI e62 w2) 2, .cells [.p (.int .i64 x1.1), .p (.int .i64 x1.2)] 0]⟩) (ks := [2, 4, 6, 22, 23, 24]) (cc := c62 ++ [.reg [] [] 0 [(2, none, .call (.bool true))] [2, 4, 6, 8, 22, 23, 24, 32], .reg [] [] 0 [] [2, 4, 6, 22, 23, 24]])
        (ai h1 (ai (sg_map (f := e62) h2) (ai (F53_ok fuel v4 v24 false _ h3) trivial))) (by kernel_rfl)) (Weak.sel (E := [(2, .ptr 0 0 2), (4, .p (.sl (List.map e3 v4) false)), (6, .ptr 1 0 2), (22, .p (.sl (List.map e62 v22) false)), (23, .p (.int .i64 v23)), (24, .p (.int .i64 (IntKind.wrap .i64 (v24 + 1))))]) (E' := [(2, .ptr 0 0 2), (4, .p (.sl (List.map e3 v4) false)), (6, .ptr 1 0 2), (22, .p (.sl (List.map e62 v22) false)), (23, .p (.int .i64 v23)), (24, .p (.int .i64 (IntKind.wrap .i64 (v24 + 1))))]) (H := [.cells [.p (.int .i64 0), .p (.nilsl)] 0, .cells [.p (.int .i64 w1), .msl 2 0 (List.length w2) (List.length (rowI e62 w2)) false] 0, .cells (rowI e62 w2) 2, .cells [.p (.int .i64 x1.1), .p (.int .i64 x1.2)] 0]) (H' := [.cells [.p (.int .i64 0), .p (.nilsl)] 0, .cells [.p (.int .i64 w1), .msl 2 0 (List.length w2) (List.length (rowI e62 w2)) false] 0, .cells (rowI e62 w2) 2]) [0, 1, 2] (selH_cons (o := .cells [.p (.int .i64 0), .p (.nilsl)] 0) (o' := .cells [.p (.int .i64 0), .p (.nilsl)] 0) (by kernel_rfl) (sel_x (by kernel_rfl)) (selH_cons (o := .cells [.p (.int .i64 w1), .msl 2 0 (List.length w2) (List.length (rowI e62 w2)) false] 0) (o' := .cells [.p (.int .i64 w1), .msl 2 0 (List.length w2) (List.length (rowI e62 w2)) false] 0) (by kernel_rfl) (sel_x (by kernel_rfl)) (selH_cons (o := .cells (rowI e62 w2) 2) (o' := .cells (rowI e62 w2) 2) (by kernel_rfl) sel_row trivial))) (by kernel_rfl) (by kernel_rfl))) (L26_2_ok v4 v22 v23 w1 fuel (IntKind.wrap .i64 (v24 + 1)) w2 _ g4)
      · subst h4
        refine oif_elim g4 (fun h5 g5 => ?_) (fun _ h => nomatch h)
        exact SemJ.again (σ1 := ⟨[(2, .ptr 0 0 2), (4, .p (.sl (List.map e3 v4) false)), (6, .ptr 1 0 2), (22, .p (.sl (List.map e62 v22) false)), (23, .p (.int .i64 v23)), (24, .p (.int .i64 (IntKind.wrap .i64 (v24 + 1))))], [.cells [.p (.int .i64 0), .p (.nilsl)] 0, .cells [.p (.int .i64 w1), .msl 2 0 (List.length (w2 ++ [(x1.1, x1.2)])) (List.length (rowI e62 (w2 ++ [(x1.1, x1.2)]))) false] 0, .cells (rowI e62 (w2 ++ [(x1.1, x1.2)])) 2]⟩) (SemC.post (path hm (σ' := ⟨[(2, .ptr 0 0 2), (4, .p (.sl (List.map e3 v4) false)), (6, .ptr 1 0 2), (22, .p (.sl (List.map e62 v22) false)), (23, .p (.int .i64 v23)), (24, .p (.int .i64 (IntKind.wrap .i64 (v24 + 1))))], [.cells [.p (.int .i64 0), .p (.nilsl)] 0, .cells [.p (.int .i64 w1), .msl 2 0 (List.length (w2 ++ [(x1.1, x1.2)])) (List.length (rowI e62 (w2 ++ [(x1.1, x1.2)]))) false] 0, .cells (rowI e62 (w2 ++ [(x1.1, x1.2)])) 2, .cells [.p (.int .i64 x1.1), .p (.int .i64 x1.2)] 0]⟩) (ks := [2, 4, 6, 22, 23, 24]) (cc := c62 ++ [.reg [] [] 0 [(2, none, .call (.bool false))] [2, 4, 6, 8, 22, 23, 24, 32], .reg [] [] 0 [(4, none, .ap (rowI e62 (w2 ++ [(x1.1, x1.2)])) (List.length (w2 ++ [(x1.1, x1.2)])) (List.length (rowI e62 (w2 ++ [(x1.1, x1.2)]))))] [2, 4, 6, 22, 23, 24], .reg [] [] 0 [] [2, 4, 6, 22, 23, 24]])
        (ai h1 (ai (sg_map (f := e62) h2) (ai (F53_ok fuel v4 v24 false _ h3) (ai (by decide : 0 < 1) (ai (od h5) (ai (app_c2 (by decide) (od h5)) (ai (app_len e62 [(x1.1, x1.2)] (rl (List.length w2))) (ai (rl (List.length (rowI e62 (w2 ++ [(x1.1, x1.2)])))) (ai (row_app e62 w2 [(x1.1, x1.2)]) (ai (rl (List.length (rowI e62 w2))) (ai (row_sz el62 (rl (List.length (rowI e62 w2))) (rl (List.length w2))) (ai (row_sc el62 [(x1.1, x1.2)]) (ai (row_es el62 [(x1.1, x1.2)]) trivial))))))))))))) (by kernel_rfl)) (Weak.sel (E := [(2, .ptr 0 0 2), (4, .p (.sl (List.map e3 v4) false)), (6, .ptr 1 0 2), (22, .p (.sl (List.map e62 v22) false)), (23, .p (.int .i64 v23)), (24, .p (.int .i64 (IntKind.wrap .i64 (v24 + 1))))]) (E' := [(2, .ptr 0 0 2), (4, .p (.sl (List.map e3 v4) false)), (6, .ptr 1 0 2), (22, .p (.sl (List.map e62 v22) false)), (23, .p (.int .i64 v23)), (24, .p (.int .i64 (IntKind.wrap .i64 (v24 + 1))))]) (H := [.cells [.p (.int .i64 0), .p (.nilsl)] 0, .cells [.p (.int .i64 w1), .msl 2 0 (List.length (w2 ++ [(x1.1, x1.2)])) (List.length (rowI e62 (w2 ++ [(x1.1, x1.2)]))) false] 0, .cells (rowI e62 (w2 ++ [(x1.1, x1.2)])) 2, .cells [.p (.int .i64 x1.1), .p (.int .i64 x1.2)] 0]) (H' := [.cells [.p (.int .i64 0), .p (.nilsl)] 0, .cells [.p (.int .i64 w1), .msl 2 0 (List.length (w2 ++ [(x1.1, x1.2)])) (List.length (rowI e62 (w2 ++ [(x1.1, x1.2)]))) false] 0, .cells (rowI e62 (w2 ++ [(x1.1, x1.2)])) 2]) [0, 1, 2] (selH_cons (o := .cells [.p (.int .i64 0), .p (.nilsl)] 0) (o' := .cells [.p (.int .i64 0), .p (.nilsl)] 0) (by kernel_rfl) (sel_x (by kernel_rfl)) (selH_cons (o := .cells [.p (.int .i64 w1), .msl 2 0 (List.length (w2 ++ [(x1.1, x1.2)])) (List.length (rowI e62 (w2 ++ [(x1.1, x1.2)]))) false] 0) (o' := .cells [.p (.int .i64 w1), .msl 2 0 (List.length (w2 ++ [(x1.1, x1.2)])) (List.length (rowI e62 (w2 ++ [(x1.1, x1.2)]))) false] 0) (by kernel_rfl) (sel_x (by kernel_rfl)) (selH_cons (o := .cells (rowI e62 (w2 ++ [(x1.1, x1.2)])) 2) (o' := .cells (rowI e62 (w2 ++ [(x1.1, x1.2)])) 2) (by kernel_rfl) sel_row trivial))) (by kernel_rfl) (by kernel_rfl))) (L26_2_ok v4 v22 v23 w1 fuel (IntKind.wrap .i64 (v24 + 1)) (w2 ++ [(x1.1, x1.2)]) _ g5)
    · have hr := Option.some.inj g1
      subst hr
      exact SemC.cast (SemJ.out (e := (.exit 0)) (path hm (σ' := ⟨[(2, .ptr 0 0 2), (6, .ptr 1 0 2)], [.cells [.p (.int .i64 0), .p (.nilsl)] 0, .cells [.p (.int .i64 w1), .msl 2 0 (List.length w2) (List.length (rowI e62 w2)) false] 0, .cells (rowI e62 w2) 2]⟩) (ks := [2, 6]) (cc := [.reg [] [] 0 [(0, none, .b false)] [2, 4, 6, 22, 23, 24, 25]])
        (ai h1 trivial) (by kernel_rfl)) (by simp)) (by kernel_rfl) (by kernel_rfl)
def L26_0  (v4 : (List Int)) (v22 : (List (Int × Int))) (v23 : Int) (w1 : Int) : Nat → Int → Option ((List (Int × Int)) ⊕ Unit)
  | 0, _ => none
  | fuel + 1, v24 =>
    oif ((decide (v24 < v23)))
    (obind (sg v22 v24) fun x1 => obind (F53 fuel v4 v24) fun r2 => oif (r2)
      (L26_0 v4 v22 v23 w1 fuel (IntKind.wrap .i64 (v24 + 1)))
      (oif (decide (1 * 16 ≤ 140737488355328)) (obind (L26_2 v4 v22 v23 w1 fuel (IntKind.wrap .i64 (v24 + 1)) [(x1.1, x1.2)]) fun y3 => some (.inl y3)) none))
    (some (.inr (())))
noncomputable def L26_0_post (v4 : (List Int)) (v22 : (List (Int × Int))) (v23 : Int) (w1 : Int)  : ((List (Int × Int)) ⊕ Unit) → Ex × St
  | .inl y => ((.exit 0), ⟨[(2, .ptr 0 0 2), (6, .ptr 1 0 2)], [.cells [.p (.int .i64 0), .p (.nilsl)] 0, .cells [.p (.int .i64 w1), .msl 2 0 (List.length y) (List.length (rowI e62 y)) false] 0, .cells (rowI e62 y) 2]⟩)
  | .inr (y) => ((.exit 0), ⟨[(2, .ptr 0 0 2), (6, .ptr 1 0 2)], [.cells [.p (.int .i64 0), .p (.nilsl)] 0, .cells [.p (.int .i64 w1), .p (.nilsl)] 0]⟩)
theorem L26_0_ok  (v4 : (List Int)) (v22 : (List (Int × Int))) (v23 : Int) (w1 : Int)  : ∀ (fuel : Nat) (v24 : Int) (r : ((List (Int × Int)) ⊕ Unit)), L26_0 v4 v22 v23 w1 fuel v24 = some r →
    SemJ prog ⟨41, 0, false⟩ (codeAt [1, 1, 1, 1, 0, 1, 0, 0] (bodyOf f26)) ⟨[(2, .ptr 0 0 2), (4, .p (.sl (List.map e3 v4) false)), (6, .ptr 1 0 2), (22, .p (.sl (List.map e62 v22) false)), (23, .p (.int .i64 v23)), (24, .p (.int .i64 v24))], [.cells [.p (.int .i64 0), .p (.nilsl)] 0, .cells [.p (.int .i64 w1), .p (.nilsl)] 0]⟩ (L26_0_post v4 v22 v23 w1 r).1 (L26_0_post v4 v22 v23 w1 r).2
  | 0, _, _, h => nomatch h
  | fuel + 1, v24, r, h => by
    unfold L26_0 at h
    refine oif_elim h (fun h1 g1 => ?_) (fun h1 g1 => ?_)
    · refine obind_elim g1 fun x1 h2 g2 => ?_
      refine obind_elim g2 fun r2 h3 g3 => ?_
      let c63 : List CC := [.reg [] [] 0 [(0, none, .b true)] [2, 4, 6, 22, 23, 24, 25], .reg [] [] 1 [(1, none, .iv (.p (.agg [.int .i64 x1.1, .int .i64 x1.2]))), (3, some 2, .a)] [2, 4, 6, 7, 8, 22, 23, 24]]
      refine oif_elim g3 (fun h4 g4 => ?_) (fun h4 g4 => ?_)
      · subst h4
        exact SemJ.again (σ1 := ⟨[(2, .ptr 0 0 2), (4, .p (.sl (List.map e3 v4) false)), (6, .ptr 1 0 2), (22, .p (.sl (List.map e62 v22) false)), (23, .p (.int .i64 v23)), (24, .p (.int .i64 (IntKind.wrap .i64 (v24 + 1))))], [.cells [.p (.int .i64 0), .p (.nilsl)] 0, .cells [.p (.int .i64 w1), .p (.nilsl)] 0]⟩) (SemC.post (path hm (σ' := ⟨[(2, .ptr 0 0 2), (4, .p (.sl (List.map e3 v4) false)), (6, .ptr 1 0 2), (22, .p (.sl (List.map e62 v22) false)), (23, .p (.int .i64 v23)), (24, .p (.int .i64 (IntKind.wrap .i64 (v24 + 1))))], [.cells [.p (.int .i64 0), .p (.nilsl)] 0, .cells [.p (.int .i64 w1), .p (.nilsl)] 0, .cells [.p (.int .i64 x1.1), .p (.int .i64 x1.2)] 0]⟩) (ks := [2, 4, 6, 22, 23, 24]) (cc := c63 ++ [.reg [] [] 0 [(2, none, .call (.bool true))] [2, 4, 6, 8, 22, 23, 24, 32], .reg [] [] 0 [] [2, 4, 6, 22, 23, 24]])
        (ai h1 (ai (sg_map (f := e62) h2) (ai (F53_ok fuel v4 v24 false _ h3) trivial))) (by kernel_rfl)) (Weak.sel (E := [(2, .ptr 0 0 2), (4, .p (.sl (List.map e3 v4) false)), (6, .ptr 1 0 2), (22, .p (.sl (List.map e62 v22) false)), (23, .p (.int .i64 v23)), (24, .p (.int .i64 (IntKind.wrap .i64 (v24 + 1))))]) (E' := [(2, .ptr 0 0 2), (4, .p (.sl (List.map e3 v4) false)), (6, .ptr 1 0 2), (22, .p (.sl (List.map e62 v22) false)), (23, .p (.int .i64 v23)), (24, .p (.int .i64 (IntKind.wrap .i64 (v24 + 1))))]) (H := [.cells [.p (.int .i64 0), .p (.nilsl)] 0, .cells [.p (.int .i64 w1), .p (.nilsl)] 0, .cells [.p (.int .i64 x1.1), .p (.int .i64 x1.2)] 0]) (H' := [.cells [.p (.int .i64 0), .p (.nilsl)] 0, .cells [.p (.int .i64 w1), .p (.nilsl)] 0]) [0, 1] (selH_cons (o := .cells [.p (.int .i64 0), .p (.nilsl)] 0) (o' := .cells [.p (.int .i64 0), .p (.nilsl)] 0) (by kernel_rfl) (sel_x (by kernel_rfl)) (selH_cons (o := .cells [.p (.int .i64 w1), .p (.nilsl)] 0) (o' := .cells [.p (.int .i64 w1), .p (.nilsl)] 0) (by kernel_rfl) (sel_x (by kernel_rfl)) trivial)) (by kernel_rfl) (by kernel_rfl))) (L26_0_ok v4 v22 v23 w1 fuel (IntKind.wrap .i64 (v24 + 1)) _ g4)
      · subst h4
        refine oif_elim g4 (fun h5 g5 => ?_) (fun _ h => nomatch h)
        refine obind_elim g5 fun y3 h6 g6 => ?_
        have hr := Option.some.inj g6
        subst hr
        exact SemC.cast (SemJ.again (σ1 := ⟨[(2, .ptr 0 0 2), (4, .p (.sl (List.map e3 v4) false)), (6, .ptr 1 0 2), (22, .p (.sl (List.map e62 v22) false)), (23, .p (.int .i64 v23)), (24, .p (.int .i64 (IntKind.wrap .i64 (v24 + 1))))], [.cells [.p (.int .i64 0), .p (.nilsl)] 0, .cells [.p (.int .i64 w1), .msl 2 0 (List.length [(x1.1, x1.2)]) (List.length (rowI e62 [(x1.1, x1.2)])) false] 0, .cells (rowI e62 [(x1.1, x1.2)]) 2]⟩) (SemC.post (path hm (σ' := ⟨[(2, .ptr 0 0 2), (4, .p (.sl (List.map e3 v4) false)), (6, .ptr 1 0 2), (22, .p (.sl (List.map e62 v22) false)), (23, .p (.int .i64 v23)), (24, .p (.int .i64 (IntKind.wrap .i64 (v24 + 1))))], [.cells [.p (.int .i64 0), .p (.nilsl)] 0, .cells [.p (.int .i64 w1), .msl 3 0 (List.length [(x1.1, x1.2)]) (List.length (rowI e62 [(x1.1, x1.2)])) false] 0, .cells [.p (.int .i64 x1.1), .p (.int .i64 x1.2)] 0, .cells (rowI e62 [(x1.1, x1.2)]) 2]⟩) (ks := [2, 4, 6, 22, 23, 24]) (cc := c63 ++ [.reg [] [] 0 [(2, none, .call (.bool false))] [2, 4, 6, 8, 22, 23, 24, 32], .reg [] [] 1 [(4, some 3, .ap (rowI e62 [(x1.1, x1.2)]) (List.length [(x1.1, x1.2)]) (List.length (rowI e62 [(x1.1, x1.2)])))] [2, 4, 6, 22, 23, 24], .reg [] [] 0 [] [2, 4, 6, 22, 23, 24]])
        (ai h1 (ai (sg_map (f := e62) h2) (ai (F53_ok fuel v4 v24 false _ h3) (ai (by decide : 0 < 1) (ai (od h5) (ai (app_c0 (by decide) (od h5)) (ai (rl (List.length [(x1.1, x1.2)])) (ai (rl (List.length (rowI e62 [(x1.1, x1.2)]))) (ai (row_src e62 [(x1.1, x1.2)]) (ai (row_sc el62 [(x1.1, x1.2)]) (ai (row_es el62 [(x1.1, x1.2)]) trivial))))))))))) (by kernel_rfl)) (Weak.sel (E := [(2, .ptr 0 0 2), (4, .p (.sl (List.map e3 v4) false)), (6, .ptr 1 0 2), (22, .p (.sl (List.map e62 v22) false)), (23, .p (.int .i64 v23)), (24, .p (.int .i64 (IntKind.wrap .i64 (v24 + 1))))]) (E' := [(2, .ptr 0 0 2), (4, .p (.sl (List.map e3 v4) false)), (6, .ptr 1 0 2), (22, .p (.sl (List.map e62 v22) false)), (23, .p (.int .i64 v23)), (24, .p (.int .i64 (IntKind.wrap .i64 (v24 + 1))))]) (H := [.cells [.p (.int .i64 0), .p (.nilsl)] 0, .cells [.p (.int .i64 w1), .msl 3 0 (List.length [(x1.1, x1.2)]) (List.length (rowI e62 [(x1.1, x1.2)])) false] 0, .cells [.p (.int .i64 x1.1), .p (.int .i64 x1.2)] 0, .cells (rowI e62 [(x1.1, x1.2)]) 2]) (H' := [.cells [.p (.int .i64 0), .p (.nilsl)] 0, .cells [.p (.int .i64 w1), .msl 2 0 (List.length [(x1.1, x1.2)]) (List.length (rowI e62 [(x1.1, x1.2)])) false] 0, .cells (rowI e62 [(x1.1, x1.2)]) 2]) [0, 1, 3] (selH_cons (o := .cells [.p (.int .i64 0), .p (.nilsl)] 0) (o' := .cells [.p (.int .i64 0), .p (.nilsl)] 0) (by kernel_rfl) (sel_x (by kernel_rfl)) (selH_cons (o := .cells [.p (.int .i64 w1), .msl 3 0 (List.length [(x1.1, x1.2)]) (List.length (rowI e62 [(x1.1, x1.2)])) false] 0) (o' := .cells [.p (.int .i64 w1), .msl 2 0 (List.length [(x1.1, x1.2)]) (List.length (rowI e62 [(x1.1, x1.2)])) false] 0) (by kernel_rfl) (sel_x (by kernel_rfl)) (selH_cons (o := .cells (rowI e62 [(x1.1, x1.2)]) 2) (o' := .cells (rowI e62 [(x1.1, x1.2)]) 2) (by kernel_rfl) sel_row trivial))) (by kernel_rfl) (by kernel_rfl))) (L26_2_ok v4 v22 v23 w1 fuel (IntKind.wrap .i64 (v24 + 1)) [(x1.1, x1.2)] _ h6)) (by kernel_rfl) (by kernel_rfl)
    · have hr := Option.some.inj g1
      subst hr
      exact SemC.cast (SemJ.out (e := (.exit 0)) (path hm (σ' := ⟨[(2, .ptr 0 0 2), (6, .ptr 1 0 2)], [.cells [.p (.int .i64 0), .p (.nilsl)] 0, .cells [.p (.int .i64 w1), .p (.nilsl)] 0]⟩) (ks := [2, 6]) (cc := [.reg [] [] 0 [(0, none, .b false)] [2, 4, 6, 22, 23, 24, 25]])
        (ai h1 trivial) (by kernel_rfl)) (by simp)) (by kernel_rfl) (by kernel_rfl)
def F26  (fuel : Nat) (p0 : (Int × (List (Int × Int)))) : Option ((Int × (List (Int × Int))) × Int) :=
  obind (F24 fuel (p0.1, p0.2)) fun r1 => oif ((r1.2 != 0))
  (some ((0, []), r1.2))
  ((obind (L26_0 r1.1 p0.2 (p0.2.length : Int) p0.1 fuel 0) fun y2 => match y2 with
    | .inl y2 => some ((p0.1, y2), 0)
    | .inr (y2) => some ((p0.1, []), 0)))
theorem F26_ok  (fuel : Nat) (p0 : (Int × (List (Int × Int))))  (r : ((Int × (List (Int × Int))) × Int)) (h : F26 fuel p0 = some r) : CallP prog 26 [.agg [.int .i64 p0.1, .sl (List.map e62 p0.2) false]] (.tup [.agg [.int .i64 r.1.1, .sl (List.map e62 r.1.2) false], .int .i64 r.2]) := by
  unfold F26 at h
  refine obind_elim h fun r1 h1 g1 => ?_
  let c64 : List CC := [.reg [] [] 1 [(0, none, .imm), (1, some 0, .a)] [1, 2], .reg [] [] 0 [(1, none, .call (.tup [.sl (List.map e3 r1.1) false, .int .i64 r1.2]))] [1, 2, 4, 5]]
  refine oif_elim g1 (fun h2 g2 => ?_) (fun h2 g2 => ?_)
  · have hr := Option.some.inj g2
    subst hr
    exact callP_of is26 rfl (path hm (ks := [2, 3]) (σ' := ⟨[(2, .ptr 0 0 2), (3, .p (.int .i64 r1.2))], [.cells [.p (.int .i64 0), .p (.nilsl)] 0]⟩) (cc := c64 ++ [.reg [] [] 0 [(1, none, .b true)] [1, 2, 4, 5, 15], .reg [] [] 0 [] [2, 3]])
      (ai (F24_ok fuel (p0.1, p0.2) _ h1) (ai h2 trivial)) (by kernel_rfl)) (e := .ret) rfl (vs := [.agg [.p (.int .i64 0), .p (.nilsl)], .p (.int .i64 r1.2)]) (ai (rfl : (2:Nat) = 2) (ai (by decide : (2:Nat) ≤ 2) trivial)) (by kernel_rfl) (.tup _ _ (.cons _ _ _ _ (.agg _ _ (.cons _ _ _ _ (.p _ _ (.refl _)) (.cons _ _ _ _ (.p _ _ (.nil _)) .nil))) (.cons _ _ _ _ (.p _ _ (.refl _)) .nil)))
  · let c65 : List CC := c64 ++ [.reg [] [] 0 [(1, none, .b false)] [1, 2, 4, 5, 15], .reg [] [] 1 [(3, some 1, .a)] [1, 2, 4, 6], .reg [] [] 0 [(2, none, .n (p0.2.length : Int))] [2, 4, 6, 22, 23, 24]]
    refine obind_elim g2 fun y h3 g3 => ?_
    match y, h3, g3 with
    | .inl y2, h3, g3 =>
      have hr := Option.some.inj g3
      subst hr
      exact callP_of is26 rfl (path hm (ks := [2, 3]) (σ' := ⟨[(2, .ptr 0 0 2), (3, .p (.int .i64 0))], [.cells [.p (.int .i64 p0.1), .msl 2 0 (List.length y2) (List.length (rowI e62 y2)) false] 0, .cells [.p (.int .i64 p0.1), .msl 2 0 (List.length y2) (List.length (rowI e62 y2)) false] 0, .cells (rowI e62 y2) 2]⟩) (cc := c65 ++ [.leaf (.exit 0) ⟨[(2, .ptr 0 0 2), (6, .ptr 1 0 2)], [.cells [.p (.int .i64 0), .p (.nilsl)] 0, .cells [.p (.int .i64 p0.1), .msl 2 0 (List.length y2) (List.length (rowI e62 y2)) false] 0, .cells (rowI e62 y2) 2]⟩, .reg [] [] 0 [] [2, 3]])
      (ai (F24_ok fuel (p0.1, p0.2) _ h1) (ai h2 (ai (len_map e62 p0.2) (ai (SemJ.loop (L26_0_ok r1.1 p0.2 (p0.2.length : Int) p0.1 fuel 0 _ h3)) trivial)))) (by kernel_rfl)) (e := .ret) rfl (vs := [.agg [.p (.int .i64 p0.1), .msl 2 0 (List.length y2) (List.length (rowI e62 y2)) false], .p (.int .i64 0)]) (ai (rfl : (2:Nat) = 2) (ai (by decide : (2:Nat) ≤ 2) trivial)) (by kernel_rfl) (.tup _ _ (.cons _ _ _ _ (.agg _ _ (.cons _ _ _ _ (.p _ _ (.refl _)) (.cons _ _ _ _ (snap_row (g := 2) (L := y2) el62 (by kernel_rfl) (rl (List.length (rowI e62 y2))) (rl (List.length y2))) .nil))) (.cons _ _ _ _ (.p _ _ (.refl _)) .nil)))
    | .inr (y2), h3, g3 =>
      have hr := Option.some.inj g3
      subst hr
      exact callP_of is26 rfl (path hm (ks := [2, 3]) (σ' := ⟨[(2, .ptr 0 0 2), (3, .p (.int .i64 0))], [.cells [.p (.int .i64 p0.1), .p (.nilsl)] 0, .cells [.p (.int .i64 p0.1), .p (.nilsl)] 0]⟩) (cc := c65 ++ [.leaf (.exit 0) ⟨[(2, .ptr 0 0 2), (6, .ptr 1 0 2)], [.cells [.p (.int .i64 0), .p (.nilsl)] 0, .cells [.p (.int .i64 p0.1), .p (.nilsl)] 0]⟩, .reg [] [] 0 [] [2, 3]])
      (ai (F24_ok fuel (p0.1, p0.2) _ h1) (ai h2 (ai (len_map e62 p0.2) (ai (SemJ.loop (L26_0_ok r1.1 p0.2 (p0.2.length : Int) p0.1 fuel 0 _ h3)) trivial)))) (by kernel_rfl)) (e := .ret) rfl (vs := [.agg [.p (.int .i64 p0.1), .p (.nilsl)], .p (.int .i64 0)]) (ai (rfl : (2:Nat) = 2) (ai (by decide : (2:Nat) ≤ 2) trivial)) (by kernel_rfl) (.tup _ _ (.cons _ _ _ _ (.agg _ _ (.cons _ _ _ _ (.p _ _ (.refl _)) (.cons _ _ _ _ (.p _ _ (.nil _)) .nil))) (.cons _ _ _ _ (.p _ _ (.refl _)) .nil)))
def F55  (fuel : Nat) (p0 : Int) (p1 : Int) : Option Bool :=
  oif ((decide (p0 > p1)))
  (some true)
  (some false)
theorem F55_ok  (fuel : Nat) (p0 : Int) (p1 : Int)  (r : Bool) (h : F55 fuel p0 p1 = some r) : CallP prog 55 [.int .i64 p0, .int .i64 p1] (.bool r) := by
  unfold F55 at h
  refine oif_elim h (fun h1 g1 => ?_) (fun h1 g1 => ?_)
  · have hr := Option.some.inj g1
    subst hr
    exact callP_of is55 rfl (path hm (ks := [4]) (σ' := ⟨[(4, .p (.bool true))], []⟩) (cc := [.reg [] [] 0 [] [0, 1], .reg [] [] 0 [(2, none, .b true)] [4]])
      (ai h1 trivial) (by kernel_rfl)) (e := .ret) rfl (vs := [.p (.bool true)]) trivial (by kernel_rfl) (.p _ _ (.refl _))
  · have hr := Option.some.inj g1
    subst hr
    exact callP_of is55 rfl (path hm (ks := [4]) (σ' := ⟨[(4, .p (.bool false))], []⟩) (cc := [.reg [] [] 0 [] [0, 1], .reg [] [] 0 [(2, none, .b false)] [4]])
      (ai h1 trivial) (by kernel_rfl)) (e := .ret) rfl (vs := [.p (.bool false)]) trivial (by kernel_rfl) (.p _ _ (.refl _))
def F54  (fuel : Nat) (p0 : Int) (p1 : Int) : Option Int :=
  obind (F55 fuel p1 p0) fun r1 => oif (r1)
  (some p1)
  (some p0)
theorem F54_ok  (fuel : Nat) (p0 : Int) (p1 : Int)  (r : Int) (h : F54 fuel p0 p1 = some r) : CallP prog 54 [.int .i64 p0, .int .i64 p1, .fn 55 [] []] (.int .i64 r) := by
  unfold F54 at h
  refine obind_elim h fun r1 h1 g1 => ?_
  refine oif_elim g1 (fun h2 g2 => ?_) (fun h2 g2 => ?_)
  · subst h2
    have hr := Option.some.inj g2
    subst hr
    exact callP_of is54 rfl (path hm (ks := [6]) (σ' := ⟨[(6, .p (.int .i64 p1))], []⟩) (cc := [.reg [] [] 0 [] [0, 1, 2], .reg [] [] 0 [(3, none, .call (.bool true))] [0, 1, 10], .reg [] [] 0 [] [6]])
      (ai (F55_ok fuel p1 p0 _ h1) trivial) (by kernel_rfl)) (e := .ret) rfl (vs := [.p (.int .i64 p1)]) trivial (by kernel_rfl) (.p _ _ (.refl _))
  · subst h2
    have hr := Option.some.inj g2
    subst hr
    exact callP_of is54 rfl (path hm (ks := [6]) (σ' := ⟨[(6, .p (.int .i64 p0))], []⟩) (cc := [.reg [] [] 0 [] [0, 1, 2], .reg [] [] 0 [(3, none, .call (.bool false))] [0, 1, 10], .reg [] [] 0 [] [6]])
      (ai (F55_ok fuel p1 p0 _ h1) trivial) (by kernel_rfl)) (e := .ret) rfl (vs := [.p (.int .i64 p0)]) trivial (by kernel_rfl) (.p _ _ (.refl _))
def L28_1  (v23 : (List (Int × Int))) (v24 : Int) : Nat → Int → (List Int) → (List Int) → Option (List Int)
  | 0, _, _, _ => none
  | fuel + 1, v25, w0, w1 =>
    oif ((decide (v25 < v24)))
    (obind (sg v23 v25) fun x1 => oif (decide ((0:Int) ≤ x1.1)) (oif (decide ((x1.1 : Int) < ((8 : Nat) : Int))) (obind (sg w0 x1.1) fun x2 => oif (decide ((0:Int) ≤ x1.2)) (oif (decide ((x1.2 : Int) < ((8 : Nat) : Int))) (obind (sg w0 x1.2) fun x3 => obind (F54 fuel x2 x3) fun r4 => obind (stL w0 x1.1 (IntKind.wrap .i64 (1 + r4))) fun x5 => obind (stL x5 x1.2 (IntKind.wrap .i64 (1 + r4))) fun x6 => oif (decide (((List.length w1) + 1) * 8 ≤ 140737488355328)) (L28_1 v23 v24 fuel (IntKind.wrap .i64 (v25 + 1)) x6 (w1 ++ [(IntKind.wrap .i64 (1 + r4))])) none) none) none) none) none)
    (some (w1))
noncomputable def L28_1_post (v23 : (List (Int × Int))) (v24 : Int)  : (List Int) → Ex × St
  | y => ((.exit 0), ⟨[(7, .msl 0 0 (List.length y) (List.length (rowI e3 y)) false)], [.cells (rowI e3 y) 1]⟩)
theorem L28_1_ok  (v23 : (List (Int × Int))) (v24 : Int)  : ∀ (fuel : Nat) (v25 : Int) (w0 : (List Int)) (w1 : (List Int)) (r : (List Int)), L28_1 v23 v24 fuel v25 w0 w1 = some r →
    SemJ prog ⟨53, 0, false⟩ (codeAt [1, 1, 1, 1, 1, 0, 1, 0, 0] (bodyOf f28)) ⟨[(6, .ptr 0 0 (List.length (rowI e3 w0))), (7, .msl 1 0 (List.length w1) (List.length (rowI e3 w1)) false), (23, .p (.sl (List.map e62 v23) false)), (24, .p (.int .i64 v24)), (25, .p (.int .i64 v25))], [.cells (rowI e3 w0) 0, .cells (rowI e3 w1) 1]⟩ (L28_1_post v23 v24 r).1 (L28_1_post v23 v24 r).2
  | 0, _, _, _, _, h => nomatch h
  | fuel + 1, v25, w0, w1, r, h => by
    unfold L28_1 at h
    refine oif_elim h (fun h1 g1 => ?_) (fun h1 g1 => ?_)
    · refine obind_elim g1 fun x1 h2 g2 => ?_
      refine oif_elim g2 (fun h3 g3 => ?_) (fun _ h => nomatch h)
      refine oif_elim g3 (fun h4 g4 => ?_) (fun _ h => nomatch h)
      refine obind_elim g4 fun x2 h5 g5 => ?_
      refine oif_elim g5 (fun h6 g6 => ?_) (fun _ h => nomatch h)
      refine oif_elim g6 (fun h7 g7 => ?_) (fun _ h => nomatch h)
      refine obind_elim g7 fun x3 h8 g8 => ?_
      refine obind_elim g8 fun r4 h9 g9 => ?_
      refine obind_elim g9 fun x5 h10 g10 => ?_
      refine obind_elim g10 fun x6 h11 g11 => ?_
      refine oif_elim g11 (fun h12 g12 => ?_) (fun _ h => nomatch h)
      exact SemJ.again (σ1 := ⟨[(6, .ptr 0 0 (List.length (rowI e3 x6))), (7, .msl 1 0 (List.length (w1 ++ [(IntKind.wrap .i64 (1 + r4))])) (List.length (rowI e3 (w1 ++ [(IntKind.wrap .i64 (1 + r4))]))) false), (23, .p (.sl (List.map e62 v23) false)), (24, .p (.int .i64 v24)), (25, .p (.int .i64 (IntKind.wrap .i64 (v25 + 1))))], [.cells (rowI e3 x6) 0, .cells (rowI e3 (w1 ++ [(IntKind.wrap .i64 (1 + r4))])) 1]⟩) (SemC.post (path hm (σ' := ⟨[(6, .ptr 0 0 (List.length (rowI e3 w0))), (7, .msl 1 0 (List.length (w1 ++ [(IntKind.wrap .i64 (1 + r4))])) (List.length (rowI e3 (w1 ++ [(IntKind.wrap .i64 (1 + r4))]))) false), (23, .p (.sl (List.map e62 v23) false)), (24, .p (.int .i64 v24)), (25, .p (.int .i64 (IntKind.wrap .i64 (v25 + 1))))], [.cells (rowI e3 x6) 0, .cells (rowI e3 (w1 ++ [(IntKind.wrap .i64 (1 + r4))])) 1, .cells [.p (.int .i64 x1.1), .p (.int .i64 x1.2)] 0]⟩) (ks := [6, 7, 23, 24, 25]) (cc := [.reg [] [] 0 [(0, none, .b true)] [6, 7, 23, 24, 25, 26], .reg [] [] 1 [(0, none, .iv (.p (.agg [.int .i64 x1.1, .int .i64 x1.2]))), (2, some 2, .a)] [6, 7, 9, 23, 24, 25], .reg [0, 1, 3, 7, 0, 16, 48, 112, 255, 511, 1023] [] 0 [(3, none, .iv (.p (.int .i64 x2))), (7, none, .iv (.p (.int .i64 x3))), (8, none, .call (.int .i64 r4))] [6, 7, 9, 10, 23, 24, 25], .reg [0, 1, 0, 4, 0, 0, 19, 83, 255, 511] [(0, 7), (0, 9)] 0 [(7, none, .cs (rowI e3 x5)), (9, none, .cs (rowI e3 x6))] [6, 7, 10, 23, 24, 25], .reg [] [] 0 [(3, none, .ap (rowI e3 (w1 ++ [(IntKind.wrap .i64 (1 + r4))])) (List.length (w1 ++ [(IntKind.wrap .i64 (1 + r4))])) (List.length (rowI e3 (w1 ++ [(IntKind.wrap .i64 (1 + r4))]))))] [6, 7, 23, 24, 25], .reg [] [] 0 [] [6, 7, 23, 24, 25]])
        (ai h1 (ai (sg_map (f := e62) h2) (ai (by decide : (0:Int) ≤ 0) (ai (by decide : (0:Int) < ((2:Nat):Int)) (ai (od h3) (ai (od h4) (ai (rl (List.length (rowI e3 w0))) (ai (row_get el3 h5 rfl) (ai (by decide : (0:Int) ≤ 1) (ai (by decide : (1:Int) < ((2:Nat):Int)) (ai (od h6) (ai (od h7) (ai (rl (List.length (rowI e3 w0))) (ai (row_get el3 h8 rfl) (ai (F54_ok fuel x2 x3 _ h9) (ai (by decide : (0:Int) ≤ 0) (ai (by decide : (0:Int) < ((2:Nat):Int)) (ai (by decide : (0:Int) ≤ 1) (ai (by decide : (1:Int) < ((2:Nat):Int)) (ai (od h3) (ai (od h4) (ai (rl (List.length (rowI e3 w0))) (ai (Nat.le_trans (row_fit el3 (stL_0 h10) (stL_lt h10)) (Nat.le_of_eq (rl (List.length (rowI e3 w0))))) (ai (row_put el3 h10) (ai (od h6) (ai (od h7) (ai ((row_setlen el3 h10).trans (rl (List.length (rowI e3 w0)))) (ai (Nat.le_trans (row_fit el3 (stL_0 h11) (stL_lt h11)) (Nat.le_of_eq ((row_setlen el3 h10).trans (rl (List.length (rowI e3 w0)))))) (ai (row_put el3 h11) (ai (by decide : 0 < 1) (ai (od h12) (ai (app_c2 (by decide) (od h12)) (ai (app_len e3 [(IntKind.wrap .i64 (1 + r4))] (rl (List.length w1))) (ai (rl (List.length (rowI e3 (w1 ++ [(IntKind.wrap .i64 (1 + r4))])))) (ai (row_app e3 w1 [(IntKind.wrap .i64 (1 + r4))]) (ai (rl (List.length (rowI e3 w1))) (ai (row_sz el3 (rl (List.length (rowI e3 w1))) (rl (List.length w1))) (ai (row_sc el3 [(IntKind.wrap .i64 (1 + r4))]) (ai (row_es el3 [(IntKind.wrap .i64 (1 + r4))]) trivial))))))))))))))))))))))))))))))))))))))) (by kernel_rfl)) (Weak.trans (Weak.sel (E := [(6, .ptr 0 0 (List.length (rowI e3 w0))), (7, .msl 1 0 (List.length (w1 ++ [(IntKind.wrap .i64 (1 + r4))])) (List.length (rowI e3 (w1 ++ [(IntKind.wrap .i64 (1 + r4))]))) false), (23, .p (.sl (List.map e62 v23) false)), (24, .p (.int .i64 v24)), (25, .p (.int .i64 (IntKind.wrap .i64 (v25 + 1))))]) (E' := [(6, .ptr 0 0 (List.length (rowI e3 w0))), (7, .msl 1 0 (List.length (w1 ++ [(IntKind.wrap .i64 (1 + r4))])) (List.length (rowI e3 (w1 ++ [(IntKind.wrap .i64 (1 + r4))]))) false), (23, .p (.sl (List.map e62 v23) false)), (24, .p (.int .i64 v24)), (25, .p (.int .i64 (IntKind.wrap .i64 (v25 + 1))))]) (H := [.cells (rowI e3 x6) 0, .cells (rowI e3 (w1 ++ [(IntKind.wrap .i64 (1 + r4))])) 1, .cells [.p (.int .i64 x1.1), .p (.int .i64 x1.2)] 0]) (H' := [.cells (rowI e3 x6) 0, .cells (rowI e3 (w1 ++ [(IntKind.wrap .i64 (1 + r4))])) 1]) [0, 1] (selH_cons (o := .cells (rowI e3 x6) 0) (o' := .cells (rowI e3 x6) 0) (by kernel_rfl) sel_row (selH_cons (o := .cells (rowI e3 (w1 ++ [(IntKind.wrap .i64 (1 + r4))])) 1) (o' := .cells (rowI e3 (w1 ++ [(IntKind.wrap .i64 (1 + r4))])) 1) (by kernel_rfl) sel_row trivial)) (by kernel_rfl) (by kernel_rfl)) (Weak.eq (congrArg (fun ZZ : Nat => (⟨[(6, .ptr 0 0 ZZ), (7, .msl 1 0 (List.length (w1 ++ [(IntKind.wrap .i64 (1 + r4))])) (List.length (rowI e3 (w1 ++ [(IntKind.wrap .i64 (1 + r4))]))) false), (23, .p (.sl (List.map e62 v23) false)), (24, .p (.int .i64 v24)), (25, .p (.int .i64 (IntKind.wrap .i64 (v25 + 1))))], [.cells (rowI e3 x6) 0, .cells (rowI e3 (w1 ++ [(IntKind.wrap .i64 (1 + r4))])) 1]⟩ : St)) (Eq.symm ((row_setlen el3 h11).trans ((row_setlen el3 h10).trans (rl (List.length (rowI e3 w0)))))))))) (L28_1_ok v23 v24 fuel (IntKind.wrap .i64 (v25 + 1)) x6 (w1 ++ [(IntKind.wrap .i64 (1 + r4))]) _ g12)
    · have hr := Option.some.inj g1
      subst hr
      exact SemC.cast (SemJ.out (e := (.exit 0)) (SemC.post (path hm (σ' := ⟨[(7, .msl 1 0 (List.length w1) (List.length (rowI e3 w1)) false)], [.cells (rowI e3 w0) 0, .cells (rowI e3 w1) 1]⟩) (ks := [7]) (cc := [.reg [] [] 0 [(0, none, .b false)] [6, 7, 23, 24, 25, 26]])
        (ai h1 trivial) (by kernel_rfl)) (Weak.sel (E := [(7, .msl 1 0 (List.length w1) (List.length (rowI e3 w1)) false)]) (E' := [(7, .msl 0 0 (List.length w1) (List.length (rowI e3 w1)) false)]) (H := [.cells (rowI e3 w0) 0, .cells (rowI e3 w1) 1]) (H' := [.cells (rowI e3 w1) 1]) [1] (selH_cons (o := .cells (rowI e3 w1) 1) (o' := .cells (rowI e3 w1) 1) (by kernel_rfl) sel_row trivial) (by kernel_rfl) (by kernel_rfl))) (by simp)) (by kernel_rfl) (by kernel_rfl)
def L28_0  (v23 : (List (Int × Int))) (v24 : Int) (w0 : (List Int)) : Nat → Option (List Int)
  | 0 => none
  | fuel + 1 =>
    oif ((decide (0 < v24)))
    (obind (sg v23 0) fun x1 => oif (decide ((0:Int) ≤ x1.1)) (oif (decide ((x1.1 : Int) < ((8 : Nat) : Int))) (obind (sg w0 x1.1) fun x2 => oif (decide ((0:Int) ≤ x1.2)) (oif (decide ((x1.2 : Int) < ((8 : Nat) : Int))) (obind (sg w0 x1.2) fun x3 => obind (F54 fuel x2 x3) fun r4 => obind (stL w0 x1.1 (IntKind.wrap .i64 (1 + r4))) fun x5 => obind (stL x5 x1.2 (IntKind.wrap .i64 (1 + r4))) fun x6 => oif (decide (1 * 8 ≤ 140737488355328)) (obind (L28_1 v23 v24 fuel 1 x6 [(IntKind.wrap .i64 (1 + r4))]) fun y7 => some (y7)) none) none) none) none) none)
    (some (([] : List Int)))
noncomputable def L28_0_post (v23 : (List (Int × Int))) (v24 : Int) (w0 : (List Int))  : (List Int) → Ex × St
  | y => ((.exit 0), ⟨[(7, .p (.sl (List.map e3 y) false))], []⟩)
theorem L28_0_ok  (v23 : (List (Int × Int))) (v24 : Int) (w0 : (List Int))  : ∀ (fuel : Nat)  (r : (List Int)), L28_0 v23 v24 w0 fuel  = some r →
    SemJ prog ⟨53, 0, false⟩ (codeAt [1, 1, 1, 1, 1, 0, 1, 0, 0] (bodyOf f28)) ⟨[(6, .ptr 0 0 (List.length (rowI e3 w0))), (7, .p (.nilsl)), (23, .p (.sl (List.map e62 v23) false)), (24, .p (.int .i64 v24)), (25, .p (.int .i64 0))], [.cells (rowI e3 w0) 0]⟩ (L28_0_post v23 v24 w0 r).1 (L28_0_post v23 v24 w0 r).2
  | 0, _, h => nomatch h
  | fuel + 1, r, h => by
    unfold L28_0 at h
    refine oif_elim h (fun h1 g1 => ?_) (fun h1 g1 => ?_)
    · refine obind_elim g1 fun x1 h2 g2 => ?_
      refine oif_elim g2 (fun h3 g3 => ?_) (fun _ h => nomatch h)
      refine oif_elim g3 (fun h4 g4 => ?_) (fun _ h => nomatch h)
      refine obind_elim g4 fun x2 h5 g5 => ?_
      refine oif_elim g5 (fun h6 g6 => ?_) (fun _ h => nomatch h)
      refine oif_elim g6 (fun h7 g7 => ?_) (fun _ h => nomatch h)
      refine obind_elim g7 fun x3 h8 g8 => ?_
      refine obind_elim g8 fun r4 h9 g9 => ?_
      refine obind_elim g9 fun x5 h10 g10 => ?_
      refine obind_elim g10 fun x6 h11 g11 => ?_
      refine oif_elim g11 (fun h12 g12 => ?_) (fun _ h => nomatch h)
      refine obind_elim g12 fun y7 h13 g13 => ?_
      have hr := Option.some.inj g13
      subst hr
      exact SemC.cast (SemJ.again (σ1 := ⟨[(6, .ptr 0 0 (List.length (rowI e3 x6))), (7, .msl 1 0 (List.length [(IntKind.wrap .i64 (1 + r4))]) (List.length (rowI e3 [(IntKind.wrap .i64 (1 + r4))])) false), (23, .p (.sl (List.map e62 v23) false)), (24, .p (.int .i64 v24)), (25, .p (.int .i64 1))], [.cells (rowI e3 x6) 0, .cells (rowI e3 [(IntKind.wrap .i64 (1 + r4))]) 1]⟩) (SemC.post (path hm (σ' := ⟨[(6, .ptr 0 0 (List.length (rowI e3 w0))), (7, .msl 2 0 (List.length [(IntKind.wrap .i64 (1 + r4))]) (List.length (rowI e3 [(IntKind.wrap .i64 (1 + r4))])) false), (23, .p (.sl (List.map e62 v23) false)), (24, .p (.int .i64 v24)), (25, .p (.int .i64 1))], [.cells (rowI e3 x6) 0, .cells [.p (.int .i64 x1.1), .p (.int .i64 x1.2)] 0, .cells (rowI e3 [(IntKind.wrap .i64 (1 + r4))]) 1]⟩) (ks := [6, 7, 23, 24, 25]) (cc := [.reg [] [] 0 [(0, none, .b true)] [6, 7, 23, 24, 25, 26], .reg [] [] 1 [(0, none, .iv (.p (.agg [.int .i64 x1.1, .int .i64 x1.2]))), (2, some 1, .a)] [6, 7, 9, 23, 24, 25], .reg [0, 1, 3, 7, 0, 16, 48, 112, 255, 511, 1023] [] 0 [(3, none, .iv (.p (.int .i64 x2))), (7, none, .iv (.p (.int .i64 x3))), (8, none, .call (.int .i64 r4))] [6, 7, 9, 10, 23, 24, 25], .reg [0, 1, 0, 4, 0, 0, 19, 83, 255, 511] [(0, 7), (0, 9)] 0 [(7, none, .cs (rowI e3 x5)), (9, none, .cs (rowI e3 x6))] [6, 7, 10, 23, 24, 25], .reg [] [] 1 [(3, some 2, .ap (rowI e3 [(IntKind.wrap .i64 (1 + r4))]) (List.length [(IntKind.wrap .i64 (1 + r4))]) (List.length (rowI e3 [(IntKind.wrap .i64 (1 + r4))])))] [6, 7, 23, 24, 25], .reg [] [] 0 [] [6, 7, 23, 24, 25]])
        (ai h1 (ai (sg_map (f := e62) h2) (ai (by decide : (0:Int) ≤ 0) (ai (by decide : (0:Int) < ((2:Nat):Int)) (ai (od h3) (ai (od h4) (ai (rl (List.length (rowI e3 w0))) (ai (row_get el3 h5 rfl) (ai (by decide : (0:Int) ≤ 1) (ai (by decide : (1:Int) < ((2:Nat):Int)) (ai (od h6) (ai (od h7) (ai (rl (List.length (rowI e3 w0))) (ai (row_get el3 h8 rfl) (ai (F54_ok fuel x2 x3 _ h9) (ai (by decide : (0:Int) ≤ 0) (ai (by decide : (0:Int) < ((2:Nat):Int)) (ai (by decide : (0:Int) ≤ 1) (ai (by decide : (1:Int) < ((2:Nat):Int)) (ai (od h3) (ai (od h4) (ai (rl (List.length (rowI e3 w0))) (ai (Nat.le_trans (row_fit el3 (stL_0 h10) (stL_lt h10)) (Nat.le_of_eq (rl (List.length (rowI e3 w0))))) (ai (row_put el3 h10) (ai (od h6) (ai (od h7) (ai ((row_setlen el3 h10).trans (rl (List.length (rowI e3 w0)))) (ai (Nat.le_trans (row_fit el3 (stL_0 h11) (stL_lt h11)) (Nat.le_of_eq ((row_setlen el3 h10).trans (rl (List.length (rowI e3 w0)))))) (ai (row_put el3 h11) (ai (by decide : 0 < 1) (ai (od h12) (ai (app_c0 (by decide) (od h12)) (ai (rl (List.length [(IntKind.wrap .i64 (1 + r4))])) (ai (rl (List.length (rowI e3 [(IntKind.wrap .i64 (1 + r4))]))) (ai (row_src e3 [(IntKind.wrap .i64 (1 + r4))]) (ai (row_sc el3 [(IntKind.wrap .i64 (1 + r4))]) (ai (row_es el3 [(IntKind.wrap .i64 (1 + r4))]) trivial))))))))))))))))))))))))))))))))))))) (by kernel_rfl)) (Weak.trans (Weak.sel (E := [(6, .ptr 0 0 (List.length (rowI e3 w0))), (7, .msl 2 0 (List.length [(IntKind.wrap .i64 (1 + r4))]) (List.length (rowI e3 [(IntKind.wrap .i64 (1 + r4))])) false), (23, .p (.sl (List.map e62 v23) false)), (24, .p (.int .i64 v24)), (25, .p (.int .i64 1))]) (E' := [(6, .ptr 0 0 (List.length (rowI e3 w0))), (7, .msl 1 0 (List.length [(IntKind.wrap .i64 (1 + r4))]) (List.length (rowI e3 [(IntKind.wrap .i64 (1 + r4))])) false), (23, .p (.sl (List.map e62 v23) false)), (24, .p (.int .i64 v24)), (25, .p (.int .i64 1))]) (H := [.cells (rowI e3 x6) 0, .cells [.p (.int .i64 x1.1), .p (.int .i64 x1.2)] 0, .cells (rowI e3 [(IntKind.wrap .i64 (1 + r4))]) 1]) (H' := [.cells (rowI e3 x6) 0, .cells (rowI e3 [(IntKind.wrap .i64 (1 + r4))]) 1]) [0, 2] (selH_cons (o := .cells (rowI e3 x6) 0) (o' := .cells (rowI e3 x6) 0) (by kernel_rfl) sel_row (selH_cons (o := .cells (rowI e3 [(IntKind.wrap .i64 (1 + r4))]) 1) (o' := .cells (rowI e3 [(IntKind.wrap .i64 (1 + r4))]) 1) (by kernel_rfl) sel_row trivial)) (by kernel_rfl) (by kernel_rfl)) (Weak.eq (congrArg (fun ZZ : Nat => (⟨[(6, .ptr 0 0 ZZ), (7, .msl 1 0 (List.length [(IntKind.wrap .i64 (1 + r4))]) (List.length (rowI e3 [(IntKind.wrap .i64 (1 + r4))])) false), (23, .p (.sl (List.map e62 v23) false)), (24, .p (.int .i64 v24)), (25, .p (.int .i64 1))], [.cells (rowI e3 x6) 0, .cells (rowI e3 [(IntKind.wrap .i64 (1 + r4))]) 1]⟩ : St)) (Eq.symm ((row_setlen el3 h11).trans ((row_setlen el3 h10).trans (rl (List.length (rowI e3 w0)))))))))) (SemC.post (L28_1_ok v23 v24 fuel 1 x6 [(IntKind.wrap .i64 (1 + r4))] _ h13) (Weak.trans (wcast (Weak.freeze (E := [(7, .msl 0 0 (List.length y7) (List.length (rowI e3 y7)) false)]) (E' := [(7, .p (.sl (List.map e3 y7) false))]) (H := [.cells (rowI e3 y7) 1]) [0] (by kernel_rfl) (.snap _ _ _ _ _ (snap_row (g := 1) (L := y7) el3 (by kernel_rfl) (rl (List.length (rowI e3 y7))) (rl (List.length y7))) .nil)) (by kernel_rfl : (⟨[(7, .p (.sl (List.map e3 y7) false))], puts (dieW [0]) [.cells (rowI e3 y7) 1]⟩ : St) = ⟨[(7, .p (.sl (List.map e3 y7) false))], [.dead]⟩)) (Weak.sel (E := [(7, .p (.sl (List.map e3 y7) false))]) (E' := [(7, .p (.sl (List.map e3 y7) false))]) (H := [.dead]) (H' := []) [] trivial (by kernel_rfl) (by kernel_rfl))))) (by kernel_rfl) (by kernel_rfl)
    · have hr := Option.some.inj g1
      subst hr
      exact SemC.cast (SemJ.out (e := (.exit 0)) (SemC.post (path hm (σ' := ⟨[(7, .p (.nilsl))], [.cells (rowI e3 w0) 0]⟩) (ks := [7]) (cc := [.reg [] [] 0 [(0, none, .b false)] [6, 7, 23, 24, 25, 26]])
        (ai h1 trivial) (by kernel_rfl)) (Weak.trans (wcast (Weak.freeze (E := [(7, .p (.nilsl))]) (E' := [(7, .p (.sl (List.map e3 ([] : List Int)) false))]) (H := [.cells (rowI e3 w0) 0]) [] (by kernel_rfl) (.snap _ _ _ _ _ (.p _ _ (.nil _)) .nil)) (by kernel_rfl : (⟨[(7, .p (.sl (List.map e3 ([] : List Int)) false))], puts (dieW []) [.cells (rowI e3 w0) 0]⟩ : St) = ⟨[(7, .p (.sl (List.map e3 ([] : List Int)) false))], [.cells (rowI e3 w0) 0]⟩)) (Weak.sel (E := [(7, .p (.sl (List.map e3 ([] : List Int)) false))]) (E' := [(7, .p (.sl (List.map e3 ([] : List Int)) false))]) (H := [.cells (rowI e3 w0) 0]) (H' := []) [] trivial (by kernel_rfl) (by kernel_rfl)))) (by simp)) (by kernel_rfl) (by kernel_rfl)
def F28  (fuel : Nat) (p0 : (Int × (List (Int × Int)))) : Option ((List Int) × Int) :=
  (obind (F39 fuel (p0.1, p0.2)) fun y1 => match y1 with
  | .inl y1 => oif ((y1 != 0))
    (some ([], y1))
    (none)
  | .inr (y1) => obind (L28_0 ((p0.1, p0.2).2) (((p0.1, p0.2).2).length : Int) (List.replicate 8 (0 : Int)) fuel ) fun y2 => some (y2, 0))
theorem F28_ok  (fuel : Nat) (p0 : (Int × (List (Int × Int))))  (r : ((List Int) × Int)) (h : F28 fuel p0 = some r) : CallP prog 28 [.agg [.int .i64 p0.1, .sl (List.map e62 p0.2) false]] (.tup [.sl (List.map e3 r.1) false, .int .i64 r.2]) := by
  unfold F28 at h
  refine obind_elim h fun y h1 g1 => ?_
  match y, h1, g1 with
  | .inl y1, h1, g1 =>
    refine oif_elim g1 (fun h2 g2 => ?_) (fun h2 g2 => ?_)
    · have hr := Option.some.inj g2
      subst hr
      exact callP_of is28 rfl (path hm (ks := [2, 3]) (σ' := ⟨[(2, .p (.nilsl)), (3, .p (.int .i64 y1))], []⟩) (cc := [.reg [] [] 0 [(0, none, .imm)] [1], .reg [] [] 0 [(1, none, .call (.tup [.nilp, .int .i64 y1]))] [4, 5], .reg [] [] 0 [(1, none, .b true)] [4, 5, 17], .reg [] [] 0 [] [2, 3]])
      (ai (F39_ok fuel (p0.1, p0.2) _ h1) (ai h2 trivial)) (by kernel_rfl)) (e := .ret) rfl (vs := [.p (.nilsl), .p (.int .i64 y1)]) trivial (by kernel_rfl) (.tup _ _ (.cons _ _ _ _ (.p _ _ (.nil _)) (.cons _ _ _ _ (.p _ _ (.refl _)) .nil)))
    · exact nomatch g2
  | .inr (y1), h1, g1 =>
    refine obind_elim g1 fun y2 h2 g2 => ?_
    have hr := Option.some.inj g2
    subst hr
    exact callP_of is28 rfl (path hm (ks := [2, 3]) (σ' := ⟨[(2, .p (.sl (List.map e3 y2) false)), (3, .p (.int .i64 0))], []⟩) (cc := [.reg [] [] 0 [(0, none, .imm)] [1], .reg [] [] 0 [(1, none, .call (.tup [.ref [.int .i64 ((p0.1, p0.2).1), .sl (List.map e62 ((p0.1, p0.2).2)) false], .int .i64 0]))] [4, 5], .reg [] [] 0 [] [4, 5, 17], .reg [] [] 1 [(0, some 0, .a)] [4, 6], .reg [] [] 0 [] [4, 6, 7], .reg [] [] 0 [(5, none, .n (((p0.1, p0.2).2).length : Int))] [6, 7, 23, 24, 25], .leaf (.exit 0) ⟨[(7, .p (.sl (List.map e3 y2) false))], []⟩, .reg [] [] 0 [] [2, 3]])
      (ai (F39_ok fuel (p0.1, p0.2) _ h1) (ai (len_map e62 ((p0.1, p0.2).2)) (ai (SemJ.loop (L28_0_ok ((p0.1, p0.2).2) (((p0.1, p0.2).2).length : Int) (List.replicate 8 (0 : Int)) fuel  _ h2)) trivial))) (by kernel_rfl)) (e := .ret) rfl (vs := [.p (.sl (List.map e3 y2) false), .p (.int .i64 0)]) trivial (by kernel_rfl) (.tup _ _ (.cons _ _ _ _ (.p _ _ (.refl _)) (.cons _ _ _ _ (.p _ _ (.refl _)) .nil)))
def L64_3_1  (v3 : Int) (v3_1 : (List (Int × Int))) (v4 : Int) (v5 : Int) (v16 : Int) (w1 : Int) (w1_1 : (List (Int × Int))) (w1_2 : Int) (w1_3 : Int) (w2 : (List Int)) : Nat → Int → (List Int) → Option (List Int)
  | 0, _, _ => none
  | fuel + 1, v17, w3 =>
    oif ((decide (v17 < v16)))
    (oif (decide ((0:Int) ≤ v17)) (oif (decide ((v17 : Int) < ((8 : Nat) : Int))) (obind (sg w3 v17) fun x1 => obind (stL w3 v17 (IntKind.wrap .i64 (1 + (IntKind.wrap .i64 (2 * x1))))) fun x2 => L64_3_1 v3 v3_1 v4 v5 v16 w1 w1_1 w1_2 w1_3 w2 fuel (IntKind.wrap .i64 (v17 + 1)) x2) none) none)
    (some (w3))
noncomputable def L64_3_1_post (v3 : Int) (v3_1 : (List (Int × Int))) (v4 : Int) (v5 : Int) (v16 : Int) (w1 : Int) (w1_1 : (List (Int × Int))) (w1_2 : Int) (w1_3 : Int) (w2 : (List Int))  : (List Int) → Ex × St
  | y => ((.exit 2), ⟨[(3, .p (.ref [.ref [.int .i64 v3, .sl (List.map e62 v3_1) false]])), (4, .p (.ref [.int .i64 v4])), (5, .p (.ref [.int .i64 v5])), (6, .ptr 0 0 1), (7, .ptr 3 0 (List.length (rowI e2 y)))], [.cells [.p (.bool true)] 0, .loop 1 R57_1_0_1_0 [(3, .p (.ref [.ref [.int .i64 w1, .sl (List.map e62 w1_1) false]])), (4, .p (.ref [.int .i64 w1_2])), (5, .p (.ref [.int .i64 w1_3])), (6, .ptr 0 0 1)] none, .cells (rowI e2 w2) 0, .cells (rowI e2 y) 0]⟩)
theorem L64_3_1_ok  (v3 : Int) (v3_1 : (List (Int × Int))) (v4 : Int) (v5 : Int) (v16 : Int) (w1 : Int) (w1_1 : (List (Int × Int))) (w1_2 : Int) (w1_3 : Int) (w2 : (List Int))  : ∀ (fuel : Nat) (v17 : Int) (w3 : (List Int)) (r : (List Int)), L64_3_1 v3 v3_1 v4 v5 v16 w1 w1_1 w1_2 w1_3 w2 fuel v17 w3 = some r →
    SemJ prog ⟨42, 3, true⟩ (codeAt [1, 0, 1, 0, 1, 0, 0, 1, 0, 0] (bodyOf f57)) ⟨[(3, .p (.ref [.ref [.int .i64 v3, .sl (List.map e62 v3_1) false]])), (4, .p (.ref [.int .i64 v4])), (5, .p (.ref [.int .i64 v5])), (6, .ptr 0 0 1), (7, .ptr 3 0 (List.length (rowI e2 w3))), (16, .p (.int .i64 v16)), (17, .p (.int .i64 v17))], [.cells [.p (.bool true)] 0, .loop 1 R57_1_0_1_0 [(3, .p (.ref [.ref [.int .i64 w1, .sl (List.map e62 w1_1) false]])), (4, .p (.ref [.int .i64 w1_2])), (5, .p (.ref [.int .i64 w1_3])), (6, .ptr 0 0 1)] none, .cells (rowI e2 w2) 0, .cells (rowI e2 w3) 0]⟩ (L64_3_1_post v3 v3_1 v4 v5 v16 w1 w1_1 w1_2 w1_3 w2 r).1 (L64_3_1_post v3 v3_1 v4 v5 v16 w1 w1_1 w1_2 w1_3 w2 r).2
  | 0, _, _, _, h => nomatch h
  | fuel + 1, v17, w3, r, h => by
    unfold L64_3_1 at h
    refine oif_elim h (fun h1 g1 => ?_) (fun h1 g1 => ?_)
    · refine oif_elim g1 (fun h2 g2 => ?_) (fun _ h => nomatch h)
      refine oif_elim g2 (fun h3 g3 => ?_) (fun _ h => nomatch h)
      refine obind_elim g3 fun x1 h4 g4 => ?_
      refine obind_elim g4 fun x2 h5 g5 => ?_
      exact SemJ.again (σ1 := ⟨[(3, .p (.ref [.ref [.int .i64 v3, .sl (List.map e62 v3_1) false]])), (4, .p (.ref [.int .i64 v4])), (5, .p (.ref [.int .i64 v5])), (6, .ptr 0 0 1), (7, .ptr 3 0 (List.length (rowI e2 x2))), (16, .p (.int .i64 v16)), (17, .p (.int .i64 (IntKind.wrap .i64 (v17 + 1))))], [.cells [.p (.bool true)] 0, .loop 1 R57_1_0_1_0 [(3, .p (.ref [.ref [.int .i64 w1, .sl (List.map e62 w1_1) false]])), (4, .p (.ref [.int .i64 w1_2])), (5, .p (.ref [.int .i64 w1_3])), (6, .ptr 0 0 1)] none, .cells (rowI e2 w2) 0, .cells (rowI e2 x2) 0]⟩) (SemC.post (path hm (σ' := ⟨[(3, .p (.ref [.ref [.int .i64 v3, .sl (List.map e62 v3_1) false]])), (4, .p (.ref [.int .i64 v4])), (5, .p (.ref [.int .i64 v5])), (6, .ptr 0 0 1), (7, .ptr 3 0 (List.length (rowI e2 w3))), (16, .p (.int .i64 v16)), (17, .p (.int .i64 (IntKind.wrap .i64 (v17 + 1))))], [.cells [.p (.bool true)] 0, .loop 1 R57_1_0_1_0 [(3, .p (.ref [.ref [.int .i64 w1, .sl (List.map e62 w1_1) false]])), (4, .p (.ref [.int .i64 w1_2])), (5, .p (.ref [.int .i64 w1_3])), (6, .ptr 0 0 1)] none, .cells (rowI e2 w2) 0, .cells (rowI e2 x2) 0]⟩) (ks := [3, 4, 5, 6, 7, 16, 17]) (cc := [.reg [] [] 0 [(0, none, .b true)] [3, 4, 5, 6, 7, 16, 17, 18], .reg [] [] 0 [] [3, 4, 5, 6, 7, 8, 16, 17], .reg [] [] 0 [(3, none, .iv (.p (.int .i64 x1))), (7, none, .cs (rowI e2 x2))] [3, 4, 5, 6, 7, 16, 17], .reg [] [] 0 [] [3, 4, 5, 6, 7, 16, 17]])
        (ai h1 (ai (od h2) (ai (od h3) (ai (rl (List.length (rowI e2 w3))) (ai (row_get el2 h4 rfl) (ai (od h2) (ai (od h3) (ai (rl (List.length (rowI e2 w3))) (ai (Nat.le_trans (row_fit el2 (stL_0 h5) (stL_lt h5)) (Nat.le_of_eq (rl (List.length (rowI e2 w3))))) (ai (row_put el2 h5) trivial)))))))))) (by kernel_rfl)) (Weak.eq (congrArg (fun ZZ : Nat => (⟨[(3, .p (.ref [.ref [.int .i64 v3, .sl (List.map e62 v3_1) false]])), (4, .p (.ref [.int .i64 v4])), (5, .p (.ref [.int .i64 v5])), (6, .ptr 0 0 1), (7, .ptr 3 0 ZZ), (16, .p (.int .i64 v16)), (17, .p (.int .i64 (IntKind.wrap .i64 (v17 + 1))))], [.cells [.p (.bool true)] 0, .loop 1 R57_1_0_1_0 [(3, .p (.ref [.ref [.int .i64 w1, .sl (List.map e62 w1_1) false]])), (4, .p (.ref [.int .i64 w1_2])), (5, .p (.ref [.int .i64 w1_3])), (6, .ptr 0 0 1)] none, .cells (rowI e2 w2) 0, .cells (rowI e2 x2) 0]⟩ : St)) (Eq.symm ((row_setlen el2 h5).trans (rl (List.length (rowI e2 w3)))))))) (L64_3_1_ok v3 v3_1 v4 v5 v16 w1 w1_1 w1_2 w1_3 w2 fuel (IntKind.wrap .i64 (v17 + 1)) x2 _ g5)
    · have hr := Option.some.inj g1
      subst hr
      exact SemC.cast (SemJ.out (e := (.exit 2)) (path hm (σ' := ⟨[(3, .p (.ref [.ref [.int .i64 v3, .sl (List.map e62 v3_1) false]])), (4, .p (.ref [.int .i64 v4])), (5, .p (.ref [.int .i64 v5])), (6, .ptr 0 0 1), (7, .ptr 3 0 (List.length (rowI e2 w3)))], [.cells [.p (.bool true)] 0, .loop 1 R57_1_0_1_0 [(3, .p (.ref [.ref [.int .i64 w1, .sl (List.map e62 w1_1) false]])), (4, .p (.ref [.int .i64 w1_2])), (5, .p (.ref [.int .i64 w1_3])), (6, .ptr 0 0 1)] none, .cells (rowI e2 w2) 0, .cells (rowI e2 w3) 0]⟩) (ks := [3, 4, 5, 6, 7]) (cc := [.reg [] [] 0 [(0, none, .b false)] [3, 4, 5, 6, 7, 16, 17, 18]])
        (ai h1 trivial) (by kernel_rfl)) (by simp)) (by kernel_rfl) (by kernel_rfl)
def L64_3_2  (v1 : Int) (v1_1 : (List (Int × Int))) (w1 : Int) (w1_1 : (List (Int × Int))) (w1_2 : Int) (w1_3 : Int) : Nat → Int → (List Int) → Option (Int × (List Int))
  | 0, _, _ => none
  | fuel + 1, v4, w2 =>
    oif ((decide (v4 ≥ 0)))
    (oif (decide ((0:Int) ≤ v4)) (oif (decide ((v4 : Int) < ((8 : Nat) : Int))) (obind (sg w2 v4) fun x1 => oif ((x1 == 1))
      (obind (stL w2 v4 0) fun x2 => L64_3_2 v1 v1_1 w1 w1_1 w1_2 w1_3 fuel (IntKind.wrap .i64 (v4 - 1)) x2)
      (some ((v4, w2)))) none) none)
    (some ((v4, w2)))
noncomputable def L64_3_2_post (v1 : Int) (v1_1 : (List (Int × Int))) (w1 : Int) (w1_1 : (List (Int × Int))) (w1_2 : Int) (w1_3 : Int)  : (Int × (List Int)) → Ex × St
  | y => ((.exit 2), ⟨[(0, .yld 1), (1, .p (.ref [.ref [.int .i64 v1, .sl (List.map e62 v1_1) false]])), (3, .ptr 2 0 (List.length (rowI e2 y.2))), (4, .p (.int .i64 y.1))], [.cells [.p (.bool true)] 0, .loop 0 R57_1_0_1_0 [(3, .p (.ref [.ref [.int .i64 w1, .sl (List.map e62 w1_1) false]])), (4, .p (.ref [.int .i64 w1_2])), (5, .p (.ref [.int .i64 w1_3])), (6, .ptr 0 0 1)] none, .cells (rowI e2 y.2) 0]⟩)
theorem L64_3_2_ok  (v1 : Int) (v1_1 : (List (Int × Int))) (w1 : Int) (w1_1 : (List (Int × Int))) (w1_2 : Int) (w1_3 : Int)  : ∀ (fuel : Nat) (v4 : Int) (w2 : (List Int)) (r : (Int × (List Int))), L64_3_2 v1 v1_1 w1 w1_1 w1_2 w1_3 fuel v4 w2 = some r →
    SemJ prog ⟨31, 2, false⟩ (codeAt [1, 0, 0, 0, 1, 1, 0, 0, 0] (bodyOf f64)) ⟨[(0, .yld 1), (1, .p (.ref [.ref [.int .i64 v1, .sl (List.map e62 v1_1) false]])), (3, .ptr 2 0 (List.length (rowI e2 w2))), (4, .p (.int .i64 v4))], [.cells [.p (.bool true)] 0, .loop 0 R57_1_0_1_0 [(3, .p (.ref [.ref [.int .i64 w1, .sl (List.map e62 w1_1) false]])), (4, .p (.ref [.int .i64 w1_2])), (5, .p (.ref [.int .i64 w1_3])), (6, .ptr 0 0 1)] none, .cells (rowI e2 w2) 0]⟩ (L64_3_2_post v1 v1_1 w1 w1_1 w1_2 w1_3 r).1 (L64_3_2_post v1 v1_1 w1 w1_1 w1_2 w1_3 r).2
  | 0, _, _, _, h => nomatch h
  | fuel + 1, v4, w2, r, h => by
    unfold L64_3_2 at h
    refine oif_elim h (fun h1 g1 => ?_) (fun h1 g1 => ?_)
    · refine oif_elim g1 (fun h2 g2 => ?_) (fun _ h => nomatch h)
      refine oif_elim g2 (fun h3 g3 => ?_) (fun _ h => nomatch h)
      refine obind_elim g3 fun x1 h4 g4 => ?_
      have q66 := fun {P : Prop} (t : P) => ai h1 (ai (od h2) (ai (od h3) (ai (rl (List.length (rowI e2 w2))) (ai (row_get el2 h4 rfl) t))))
      refine oif_elim g4 (fun h5 g5 => ?_) (fun h5 g5 => ?_)
      · refine obind_elim g5 fun x2 h6 g6 => ?_
        exact SemJ.again (σ1 := ⟨[(0, .yld 1), (1, .p (.ref [.ref [.int .i64 v1, .sl (List.map e62 v1_1) false]])), (3, .ptr 2 0 (List.length (rowI e2 x2))), (4, .p (.int .i64 (IntKind.wrap .i64 (v4 - 1))))], [.cells [.p (.bool true)] 0, .loop 0 R57_1_0_1_0 [(3, .p (.ref [.ref [.int .i64 w1, .sl (List.map e62 w1_1) false]])), (4, .p (.ref [.int .i64 w1_2])), (5, .p (.ref [.int .i64 w1_3])), (6, .ptr 0 0 1)] none, .cells (rowI e2 x2) 0]⟩) (SemC.post (path hm (σ' := ⟨[(0, .yld 1), (1, .p (.ref [.ref [.int .i64 v1, .sl (List.map e62 v1_1) false]])), (3, .ptr 2 0 (List.length (rowI e2 w2))), (4, .p (.int .i64 (IntKind.wrap .i64 (v4 - 1))))], [.cells [.p (.bool true)] 0, .loop 0 R57_1_0_1_0 [(3, .p (.ref [.ref [.int .i64 w1, .sl (List.map e62 w1_1) false]])), (4, .p (.ref [.int .i64 w1_2])), (5, .p (.ref [.int .i64 w1_3])), (6, .ptr 0 0 1)] none, .cells (rowI e2 x2) 0]⟩) (ks := [0, 1, 3, 4]) (cc := [.reg [] [] 0 [(1, none, .b true), (5, none, .iv (.p (.int .i64 x1))), (6, none, .b true)] [0, 1, 3, 4, 22], .reg [] [] 0 [(2, none, .cs (rowI e2 x2))] [0, 1, 3, 4], .reg [] [] 0 [] [0, 1, 3, 4]])
        (q66 (ai h5 (ai (od h2) (ai (od h3) (ai (rl (List.length (rowI e2 w2))) (ai (Nat.le_trans (row_fit el2 (stL_0 h6) (stL_lt h6)) (Nat.le_of_eq (rl (List.length (rowI e2 w2))))) (ai (row_put el2 h6) trivial))))))) (by kernel_rfl)) (Weak.eq (congrArg (fun ZZ : Nat => (⟨[(0, .yld 1), (1, .p (.ref [.ref [.int .i64 v1, .sl (List.map e62 v1_1) false]])), (3, .ptr 2 0 ZZ), (4, .p (.int .i64 (IntKind.wrap .i64 (v4 - 1))))], [.cells [.p (.bool true)] 0, .loop 0 R57_1_0_1_0 [(3, .p (.ref [.ref [.int .i64 w1, .sl (List.map e62 w1_1) false]])), (4, .p (.ref [.int .i64 w1_2])), (5, .p (.ref [.int .i64 w1_3])), (6, .ptr 0 0 1)] none, .cells (rowI e2 x2) 0]⟩ : St)) (Eq.symm ((row_setlen el2 h6).trans (rl (List.length (rowI e2 w2)))))))) (L64_3_2_ok v1 v1_1 w1 w1_1 w1_2 w1_3 fuel (IntKind.wrap .i64 (v4 - 1)) x2 _ g6)
      · have hr := Option.some.inj g5
        subst hr
        exact SemC.cast (SemJ.out (e := (.exit 2)) (path hm (σ' := ⟨[(0, .yld 1), (1, .p (.ref [.ref [.int .i64 v1, .sl (List.map e62 v1_1) false]])), (3, .ptr 2 0 (List.length (rowI e2 w2))), (4, .p (.int .i64 v4))], [.cells [.p (.bool true)] 0, .loop 0 R57_1_0_1_0 [(3, .p (.ref [.ref [.int .i64 w1, .sl (List.map e62 w1_1) false]])), (4, .p (.ref [.int .i64 w1_2])), (5, .p (.ref [.int .i64 w1_3])), (6, .ptr 0 0 1)] none, .cells (rowI e2 w2) 0]⟩) (ks := [0, 1, 3, 4]) (cc := [.reg [] [] 0 [(1, none, .b true), (5, none, .iv (.p (.int .i64 x1))), (6, none, .b false)] [0, 1, 3, 4, 22]])
        (q66 (ai h5 trivial)) (by kernel_rfl)) (by simp)) (by kernel_rfl) (by kernel_rfl)
    · have hr := Option.some.inj g1
      subst hr
      exact SemC.cast (SemJ.out (e := (.exit 2)) (path hm (σ' := ⟨[(0, .yld 1), (1, .p (.ref [.ref [.int .i64 v1, .sl (List.map e62 v1_1) false]])), (3, .ptr 2 0 (List.length (rowI e2 w2))), (4, .p (.int .i64 v4))], [.cells [.p (.bool true)] 0, .loop 0 R57_1_0_1_0 [(3, .p (.ref [.ref [.int .i64 w1, .sl (List.map e62 w1_1) false]])), (4, .p (.ref [.int .i64 w1_2])), (5, .p (.ref [.int .i64 w1_3])), (6, .ptr 0 0 1)] none, .cells (rowI e2 w2) 0]⟩) (ks := [0, 1, 3, 4]) (cc := [.reg [] [] 0 [(1, none, .b false)] [0, 1, 3, 4, 22]])
        (ai h1 trivial) (by kernel_rfl)) (by simp)) (by kernel_rfl) (by kernel_rfl)
def L64_3_0  (v1 : Int) (v1_1 : (List (Int × Int))) (w1 : Int) (w1_1 : (List (Int × Int))) (w1_2 : Int) (w1_3 : Int) : Nat → (List Int) → Option (Unit ⊕ Unit)
  | 0, _ => none
  | fuel + 1, w2 =>
    oif (decide (List.length w2 = 8)) (oif (decide (List.length (List.replicate 8 (0 : Int)) = 8)) (obind (L64_3_1 w1 w1_1 w1_2 w1_3 w1 w1 w1_1 w1_2 w1_3 w2 fuel 0 w2) fun y1 => oif (decide ((0:Int) ≤ w1_2)) (oif (decide ((w1_2 : Int) < ((8 : Nat) : Int))) (obind (stL y1 w1_2 2) fun x2 => oif (decide (List.length x2 = 8)) (obind (F40 fuel (w1, w1_1) x2 (w1_1.length : Int)) fun r3 => obind (sg r3 w1_3) fun x4 => oif (decide ((w1_3 : Int) < ((8 : Nat) : Int))) (oif ((x4 == 2))
    (some (.inl ()))
    (obind (L64_3_2 v1 v1_1 w1 w1_1 w1_2 w1_3 fuel (IntKind.wrap .i64 (v1 - 1)) w2) fun y5 => oif ((decide (y5.1 < 0)))
      (some (.inr (())))
      (oif (decide ((0:Int) ≤ y5.1)) (oif (decide ((y5.1 : Int) < ((8 : Nat) : Int))) (obind (stL y5.2 y5.1 1) fun x6 => L64_3_0 v1 v1_1 w1 w1_1 w1_2 w1_3 fuel x6) none) none))) none) none) none) none) none) none
noncomputable def L64_3_0_post (v1 : Int) (v1_1 : (List (Int × Int))) (w1 : Int) (w1_1 : (List (Int × Int))) (w1_2 : Int) (w1_3 : Int)  : (Unit ⊕ Unit) → Ex × St
  | .inl y => (.ret, ⟨[], [.cells [.p (.bool true)] 0, .loop 2 R57_1_0_1_0 [(3, .p (.ref [.ref [.int .i64 w1, .sl (List.map e62 w1_1) false]])), (4, .p (.ref [.int .i64 w1_2])), (5, .p (.ref [.int .i64 w1_3])), (6, .ptr 0 0 1)] (some .ret)]⟩)
  | .inr (y) => (.ret, ⟨[], [.cells [.p (.bool true)] 0, .loop 0 R57_1_0_1_0 [(3, .p (.ref [.ref [.int .i64 w1, .sl (List.map e62 w1_1) false]])), (4, .p (.ref [.int .i64 w1_2])), (5, .p (.ref [.int .i64 w1_3])), (6, .ptr 0 0 1)] none]⟩)
theorem L64_3_0_ok  (v1 : Int) (v1_1 : (List (Int × Int))) (w1 : Int) (w1_1 : (List (Int × Int))) (w1_2 : Int) (w1_3 : Int)  : ∀ (fuel : Nat) (w2 : (List Int)) (r : (Unit ⊕ Unit)), L64_3_0 v1 v1_1 w1 w1_1 w1_2 w1_3 fuel w2 = some r →
    SemJ prog ⟨31, 2, false⟩ (codeAt [1, 0, 0] (bodyOf f64)) ⟨[(0, .yld 1), (1, .p (.ref [.ref [.int .i64 v1, .sl (List.map e62 v1_1) false]])), (3, .ptr 2 0 (List.length (rowI e2 w2)))], [.cells [.p (.bool true)] 0, .loop 0 R57_1_0_1_0 [(3, .p (.ref [.ref [.int .i64 w1, .sl (List.map e62 w1_1) false]])), (4, .p (.ref [.int .i64 w1_2])), (5, .p (.ref [.int .i64 w1_3])), (6, .ptr 0 0 1)] none, .cells (rowI e2 w2) 0]⟩ (L64_3_0_post v1 v1_1 w1 w1_1 w1_2 w1_3 r).1 (L64_3_0_post v1 v1_1 w1 w1_1 w1_2 w1_3 r).2
  | 0, _, _, h => nomatch h
  | fuel + 1, w2, r, h => by
    unfold L64_3_0 at h
    refine oif_elim h (fun h1 g1 => ?_) (fun _ h => nomatch h)
    refine oif_elim g1 (fun h2 g2 => ?_) (fun _ h => nomatch h)
    refine obind_elim g2 fun y1 h3 g3 => ?_
    refine oif_elim g3 (fun h4 g4 => ?_) (fun _ h => nomatch h)
    refine oif_elim g4 (fun h5 g5 => ?_) (fun _ h => nomatch h)
    refine obind_elim g5 fun x2 h6 g6 => ?_
    refine oif_elim g6 (fun h7 g7 => ?_) (fun _ h => nomatch h)
    refine obind_elim g7 fun r3 h8 g8 => ?_
    refine obind_elim g8 fun x4 h9 g9 => ?_
    refine oif_elim g9 (fun h10 g10 => ?_) (fun _ h => nomatch h)
    have q67 := fun {P : Prop} (t : P) => ai (rl (List.length (rowI e2 w2))) (ai (row_wle el2 (od h1) (rfl : 8 * 1 = 8) (rl (List.length (rowI e2 w2)))) (ai (row_wtake el2 (od h1) (rfl : 8 * 1 = 8)) t))
    refine oif_elim g10 (fun h11 g11 => ?_) (fun h11 g11 => ?_)
    · have hr := Option.some.inj g11
      subst hr
      exact SemC.cast (SemJ.out (e := .ret) (SemC.post (path hm (σ' := ⟨[], [.cells [.p (.bool true)] 0, .loop 2 R57_1_0_1_0 [(3, .p (.ref [.ref [.int .i64 w1, .sl (List.map e62 w1_1) false]])), (4, .p (.ref [.int .i64 w1_2])), (5, .p (.ref [.int .i64 w1_3])), (6, .ptr 0 0 1)] (some .ret), .cells (rowI e2 w2) 0]⟩) (ks := []) (cc := [.reg [] [] 0 [(1, none, .iv (.p (.agg (rowP e2 w2)))), (2, none, .ci (.p (.bool false)) [(1, .loop 2 R57_1_0_1_0 [(3, .p (.ref [.ref [.int .i64 w1, .sl (List.map e62 w1_1) false]])), (4, .p (.ref [.int .i64 w1_2])), (5, .p (.ref [.int .i64 w1_3])), (6, .ptr 0 0 1)] (some .ret))])] [0, 1, 3, 8]])
        (q67 (ai (roundI_of (P := prog) (l := 1) (args := [.p (.agg (rowP e2 w2))]) (H := [.cells [.p (.bool true)] 0, .loop 0 R57_1_0_1_0 [(3, .p (.ref [.ref [.int .i64 w1, .sl (List.map e62 w1_1) false]])), (4, .p (.ref [.int .i64 w1_2])), (5, .p (.ref [.int .i64 w1_3])), (6, .ptr 0 0 1)] none, .cells (rowI e2 w2) 0]) (R := R57_1_0_1_0) (env := [(3, .p (.ref [.ref [.int .i64 w1, .sl (List.map e62 w1_1) false]])), (4, .p (.ref [.int .i64 w1_2])), (5, .p (.ref [.int .i64 w1_3])), (6, .ptr 0 0 1)]) (env1 := [(3, .p (.ref [.ref [.int .i64 w1, .sl (List.map e62 w1_1) false]])), (4, .p (.ref [.int .i64 w1_2])), (5, .p (.ref [.int .i64 w1_3])), (6, .ptr 0 0 1)]) (env2 := [(3, .p (.ref [.ref [.int .i64 w1, .sl (List.map e62 w1_1) false]])), (4, .p (.ref [.int .i64 w1_2])), (5, .p (.ref [.int .i64 w1_3])), (6, .ptr 0 0 1)]) (m := 3) (e := .ret) (by kernel_rfl) (by kernel_rfl) (by kernel_rfl) (by kernel_rfl) (path hm (σ' := ⟨[(3, .p (.ref [.ref [.int .i64 w1, .sl (List.map e62 w1_1) false]])), (4, .p (.ref [.int .i64 w1_2])), (5, .p (.ref [.int .i64 w1_3])), (6, .ptr 0 0 1), (7, .ptr 3 0 (List.length (rowI e2 (List.replicate 8 (0 : Int)))))], [.cells [.p (.bool true)] 0, .loop 0 R57_1_0_1_0 [(3, .p (.ref [.ref [.int .i64 w1, .sl (List.map e62 w1_1) false]])), (4, .p (.ref [.int .i64 w1_2])), (5, .p (.ref [.int .i64 w1_3])), (6, .ptr 0 0 1)] none, .cells (rowI e2 w2) 0, .cells (rowI e2 w2) 0]⟩) (ks := [3, 4, 5, 6, 7]) (cc := [.reg [] [] 1 [(0, some 3, .a), (1, none, .ap (rowI e2 w2) 0 0)] [3, 4, 5, 6, 7]]) (ai (row_wlen el2 (od h1) (rfl : 8 * 1 = 8)) (ai (row_scal el2 w2) (ai (rl (List.length (rowI e2 (List.replicate 8 (0 : Int))))) (ai (row_wle el2 (od h2) (rfl : 8 * 1 = 8) (rl (List.length (rowI e2 (List.replicate 8 (0 : Int)))))) (ai (row_putall el2 (od h2) (od h1)) trivial))))) (by kernel_rfl)) (by kernel_rfl) (SemC.post (path hm (σ' := ⟨[], [.cells [.p (.bool true)] 0, .loop 1 R57_1_0_1_0 [(3, .p (.ref [.ref [.int .i64 w1, .sl (List.map e62 w1_1) false]])), (4, .p (.ref [.int .i64 w1_2])), (5, .p (.ref [.int .i64 w1_3])), (6, .ptr 0 0 1)] none, .cells (rowI e2 w2) 0, .cells (rowI e2 x2) 0]⟩) (ks := []) (cc := [.reg [] [] 0 [] [3, 4, 5, 6, 7, 16, 17], .leaf (.exit 2) ⟨[(3, .p (.ref [.ref [.int .i64 w1, .sl (List.map e62 w1_1) false]])), (4, .p (.ref [.int .i64 w1_2])), (5, .p (.ref [.int .i64 w1_3])), (6, .ptr 0 0 1), (7, .ptr 3 0 (List.length (rowI e2 y1)))], [.cells [.p (.bool true)] 0, .loop 1 R57_1_0_1_0 [(3, .p (.ref [.ref [.int .i64 w1, .sl (List.map e62 w1_1) false]])), (4, .p (.ref [.int .i64 w1_2])), (5, .p (.ref [.int .i64 w1_3])), (6, .ptr 0 0 1)] none, .cells (rowI e2 w2) 0, .cells (rowI e2 y1) 0]⟩, .reg [] [] 0 [(2, none, .cs (rowI e2 x2))] [3, 5, 6, 7], .reg [0, 0, 0, 4, 12, 28, 60, 124, 255, 0, 1023, 2047] [] 0 [(1, none, .iv (.p (.agg (rowP e2 x2)))), (7, none, .n (w1_1.length : Int)), (8, none, .call (.agg (rowP e2 r3))), (10, none, .iv (.p (.int .i64 x4))), (11, none, .b true)] [6, 41], .reg [] [] 0 [] [6]]) (ai (SemC.pre (σ := ⟨[(3, .p (.ref [.ref [.int .i64 w1, .sl (List.map e62 w1_1) false]])), (4, .p (.ref [.int .i64 w1_2])), (5, .p (.ref [.int .i64 w1_3])), (6, .ptr 0 0 1), (7, .ptr 3 0 (List.length (rowI e2 (List.replicate 8 (0 : Int))))), (16, .p (.int .i64 w1)), (17, .p (.int .i64 0))], [.cells [.p (.bool true)] 0, .loop 1 R57_1_0_1_0 [(3, .p (.ref [.ref [.int .i64 w1, .sl (List.map e62 w1_1) false]])), (4, .p (.ref [.int .i64 w1_2])), (5, .p (.ref [.int .i64 w1_3])), (6, .ptr 0 0 1)] none, .cells (rowI e2 w2) 0, .cells (rowI e2 w2) 0]⟩) (SemJ.loop (L64_3_1_ok w1 w1_1 w1_2 w1_3 w1 w1 w1_1 w1_2 w1_3 w2 fuel 0 w2 _ h3)) (Weak.eq (congrArg (fun ZZ : Nat => (⟨[(3, .p (.ref [.ref [.int .i64 w1, .sl (List.map e62 w1_1) false]])), (4, .p (.ref [.int .i64 w1_2])), (5, .p (.ref [.int .i64 w1_3])), (6, .ptr 0 0 1), (7, .ptr 3 0 ZZ), (16, .p (.int .i64 w1)), (17, .p (.int .i64 0))], [.cells [.p (.bool true)] 0, .loop 1 R57_1_0_1_0 [(3, .p (.ref [.ref [.int .i64 w1, .sl (List.map e62 w1_1) false]])), (4, .p (.ref [.int .i64 w1_2])), (5, .p (.ref [.int .i64 w1_3])), (6, .ptr 0 0 1)] none, .cells (rowI e2 w2) 0, .cells (rowI e2 w2) 0]⟩ : St)) (Eq.symm ((row_same el2 (od h2) (od h1)).trans (rl (List.length (rowI e2 (List.replicate 8 (0 : Int)))))))))) (ai (od h4) (ai (od h5) (ai (rl (List.length (rowI e2 y1))) (ai (Nat.le_trans (row_fit el2 (stL_0 h6) (stL_lt h6)) (Nat.le_of_eq (rl (List.length (rowI e2 y1))))) (ai (row_put el2 h6) (ai ((row_setlen el2 h6).trans (rl (List.length (rowI e2 y1)))) (ai (row_wle el2 (od h7) (rfl : 8 * 1 = 8) ((row_setlen el2 h6).trans (rl (List.length (rowI e2 y1))))) (ai (row_wtake el2 (od h7) (rfl : 8 * 1 = 8)) (ai (len_map e62 w1_1) (ai (F40_ok fuel (w1, w1_1) x2 (w1_1.length : Int) _ h8) (ai (sg_0 h9) (ai (od h10) (ai (idx_list (f := e2) el2 rfl h9) (ai h11 trivial))))))))))))))) (by kernel_rfl)) (Weak.sel (E := []) (E' := []) (H := [.cells [.p (.bool true)] 0, .loop 1 R57_1_0_1_0 [(3, .p (.ref [.ref [.int .i64 w1, .sl (List.map e62 w1_1) false]])), (4, .p (.ref [.int .i64 w1_2])), (5, .p (.ref [.int .i64 w1_3])), (6, .ptr 0 0 1)] none, .cells (rowI e2 w2) 0, .cells (rowI e2 x2) 0]) (H' := [.cells [.p (.bool true)] 0, .loop 1 R57_1_0_1_0 [(3, .p (.ref [.ref [.int .i64 w1, .sl (List.map e62 w1_1) false]])), (4, .p (.ref [.int .i64 w1_2])), (5, .p (.ref [.int .i64 w1_3])), (6, .ptr 0 0 1)] none, .cells (rowI e2 w2) 0]) [0, 1, 2] (selH_cons (o := .cells [.p (.bool true)] 0) (o' := .cells [.p (.bool true)] 0) (by kernel_rfl) (sel_x (by kernel_rfl)) (selH_cons (o := .loop 1 R57_1_0_1_0 [(3, .p (.ref [.ref [.int .i64 w1, .sl (List.map e62 w1_1) false]])), (4, .p (.ref [.int .i64 w1_2])), (5, .p (.ref [.int .i64 w1_3])), (6, .ptr 0 0 1)] none) (o' := .loop 1 R57_1_0_1_0 [(3, .p (.ref [.ref [.int .i64 w1, .sl (List.map e62 w1_1) false]])), (4, .p (.ref [.int .i64 w1_2])), (5, .p (.ref [.int .i64 w1_3])), (6, .ptr 0 0 1)] none) (by kernel_rfl) (sel_loop (by kernel_rfl)) (selH_cons (o := .cells (rowI e2 w2) 0) (o' := .cells (rowI e2 w2) 0) (by kernel_rfl) sel_row trivial))) (by kernel_rfl) (by kernel_rfl))) (by kernel_rfl) (by kernel_rfl : _ = (.p (.bool false), [.cells [.p (.bool true)] 0, .loop 2 R57_1_0_1_0 [(3, .p (.ref [.ref [.int .i64 w1, .sl (List.map e62 w1_1) false]])), (4, .p (.ref [.int .i64 w1_2])), (5, .p (.ref [.int .i64 w1_3])), (6, .ptr 0 0 1)] (some .ret), .cells (rowI e2 w2) 0]))) trivial)) (by kernel_rfl)) (Weak.sel (E := []) (E' := []) (H := [.cells [.p (.bool true)] 0, .loop 2 R57_1_0_1_0 [(3, .p (.ref [.ref [.int .i64 w1, .sl (List.map e62 w1_1) false]])), (4, .p (.ref [.int .i64 w1_2])), (5, .p (.ref [.int .i64 w1_3])), (6, .ptr 0 0 1)] (some .ret), .cells (rowI e2 w2) 0]) (H' := [.cells [.p (.bool true)] 0, .loop 2 R57_1_0_1_0 [(3, .p (.ref [.ref [.int .i64 w1, .sl (List.map e62 w1_1) false]])), (4, .p (.ref [.int .i64 w1_2])), (5, .p (.ref [.int .i64 w1_3])), (6, .ptr 0 0 1)] (some .ret)]) [0, 1] (selH_cons (o := .cells [.p (.bool true)] 0) (o' := .cells [.p (.bool true)] 0) (by kernel_rfl) (sel_x (by kernel_rfl)) (selH_cons (o := .loop 2 R57_1_0_1_0 [(3, .p (.ref [.ref [.int .i64 w1, .sl (List.map e62 w1_1) false]])), (4, .p (.ref [.int .i64 w1_2])), (5, .p (.ref [.int .i64 w1_3])), (6, .ptr 0 0 1)] (some .ret)) (o' := .loop 2 R57_1_0_1_0 [(3, .p (.ref [.ref [.int .i64 w1, .sl (List.map e62 w1_1) false]])), (4, .p (.ref [.int .i64 w1_2])), (5, .p (.ref [.int .i64 w1_3])), (6, .ptr 0 0 1)] (some .ret)) (by kernel_rfl) (sel_loop (by kernel_rfl)) trivial)) (by kernel_rfl) (by kernel_rfl))) (by simp)) (by kernel_rfl) (by kernel_rfl)
    · refine obind_elim g11 fun y5 h12 g12 => ?_
      let c68 : List CC := [.reg [] [] 0 [(1, none, .iv (.p (.agg (rowP e2 w2)))), (2, none, .ci (.p (.bool true)) [])] [0, 1, 3, 8], .reg [] [] 0 [] [0, 1, 3, 4], .leaf (.exit 2) ⟨[(0, .yld 1), (1, .p (.ref [.ref [.int .i64 v1, .sl (List.map e62 v1_1) false]])), (3, .ptr 2 0 (List.length (rowI e2 y5.2))), (4, .p (.int .i64 y5.1))], [.cells [.p (.bool true)] 0, .loop 0 R57_1_0_1_0 [(3, .p (.ref [.ref [.int .i64 w1, .sl (List.map e62 w1_1) false]])), (4, .p (.ref [.int .i64 w1_2])), (5, .p (.ref [.int .i64 w1_3])), (6, .ptr 0 0 1)] none, .cells (rowI e2 y5.2) 0]⟩]
      have q69 := fun {P : Prop} (t : P) => ai (roundI_of (P := prog) (l := 1) (args := [.p (.agg (rowP e2 w2))]) (H := [.cells [.p (.bool true)] 0, .loop 0 R57_1_0_1_0 [(3, .p (.ref [.ref [.int .i64 w1, .sl (List.map e62 w1_1) false]])), (4, .p (.ref [.int .i64 w1_2])), (5, .p (.ref [.int .i64 w1_3])), (6, .ptr 0 0 1)] none, .cells (rowI e2 w2) 0]) (R := R57_1_0_1_0) (env := [(3, .p (.ref [.ref [.int .i64 w1, .sl (List.map e62 w1_1) false]])), (4, .p (.ref [.int .i64 w1_2])), (5, .p (.ref [.int .i64 w1_3])), (6, .ptr 0 0 1)]) (env1 := [(3, .p (.ref [.ref [.int .i64 w1, .sl (List.map e62 w1_1) false]])), (4, .p (.ref [.int .i64 w1_2])), (5, .p (.ref [.int .i64 w1_3])), (6, .ptr 0 0 1)]) (env2 := [(3, .p (.ref [.ref [.int .i64 w1, .sl (List.map e62 w1_1) false]])), (4, .p (.ref [.int .i64 w1_2])), (5, .p (.ref [.int .i64 w1_3])), (6, .ptr 0 0 1)]) (m := 3) (e := .normal) (by kernel_rfl) (by kernel_rfl) (by kernel_rfl) (by kernel_rfl) (path hm (σ' := ⟨[(3, .p (.ref [.ref [.int .i64 w1, .sl (List.map e62 w1_1) false]])), (4, .p (.ref [.int .i64 w1_2])), (5, .p (.ref [.int .i64 w1_3])), (6, .ptr 0 0 1), (7, .ptr 3 0 (List.length (rowI e2 (List.replicate 8 (0 : Int)))))], [.cells [.p (.bool true)] 0, .loop 0 R57_1_0_1_0 [(3, .p (.ref [.ref [.int .i64 w1, .sl (List.map e62 w1_1) false]])), (4, .p (.ref [.int .i64 w1_2])), (5, .p (.ref [.int .i64 w1_3])), (6, .ptr 0 0 1)] none, .cells (rowI e2 w2) 0, .cells (rowI e2 w2) 0]⟩) (ks := [3, 4, 5, 6, 7]) (cc := [.reg [] [] 1 [(0, some 3, .a), (1, none, .ap (rowI e2 w2) 0 0)] [3, 4, 5, 6, 7]]) (ai (row_wlen el2 (od h1) (rfl : 8 * 1 = 8)) (ai (row_scal el2 w2) (ai (rl (List.length (rowI e2 (List.replicate 8 (0 : Int))))) (ai (row_wle el2 (od h2) (rfl : 8 * 1 = 8) (rl (List.length (rowI e2 (List.replicate 8 (0 : Int)))))) (ai (row_putall el2 (od h2) (od h1)) trivial))))) (by kernel_rfl)) (by kernel_rfl) (SemC.post (path hm (σ' := ⟨[], [.cells [.p (.bool true)] 0, .loop 1 R57_1_0_1_0 [(3, .p (.ref [.ref [.int .i64 w1, .sl (List.map e62 w1_1) false]])), (4, .p (.ref [.int .i64 w1_2])), (5, .p (.ref [.int .i64 w1_3])), (6, .ptr 0 0 1)] none, .cells (rowI e2 w2) 0, .cells (rowI e2 x2) 0]⟩) (ks := []) (cc := [.reg [] [] 0 [] [3, 4, 5, 6, 7, 16, 17], .leaf (.exit 2) ⟨[(3, .p (.ref [.ref [.int .i64 w1, .sl (List.map e62 w1_1) false]])), (4, .p (.ref [.int .i64 w1_2])), (5, .p (.ref [.int .i64 w1_3])), (6, .ptr 0 0 1), (7, .ptr 3 0 (List.length (rowI e2 y1)))], [.cells [.p (.bool true)] 0, .loop 1 R57_1_0_1_0 [(3, .p (.ref [.ref [.int .i64 w1, .sl (List.map e62 w1_1) false]])), (4, .p (.ref [.int .i64 w1_2])), (5, .p (.ref [.int .i64 w1_3])), (6, .ptr 0 0 1)] none, .cells (rowI e2 w2) 0, .cells (rowI e2 y1) 0]⟩, .reg [] [] 0 [(2, none, .cs (rowI e2 x2))] [3, 5, 6, 7], .reg [0, 0, 0, 4, 12, 28, 60, 124, 255, 0, 1023, 2047] [] 0 [(1, none, .iv (.p (.agg (rowP e2 x2)))), (7, none, .n (w1_1.length : Int)), (8, none, .call (.agg (rowP e2 r3))), (10, none, .iv (.p (.int .i64 x4))), (11, none, .b false)] [6, 41]]) (ai (SemC.pre (σ := ⟨[(3, .p (.ref [.ref [.int .i64 w1, .sl (List.map e62 w1_1) false]])), (4, .p (.ref [.int .i64 w1_2])), (5, .p (.ref [.int .i64 w1_3])), (6, .ptr 0 0 1), (7, .ptr 3 0 (List.length (rowI e2 (List.replicate 8 (0 : Int))))), (16, .p (.int .i64 w1)), (17, .p (.int .i64 0))], [.cells [.p (.bool true)] 0, .loop 1 R57_1_0_1_0 [(3, .p (.ref [.ref [.int .i64 w1, .sl (List.map e62 w1_1) false]])), (4, .p (.ref [.int .i64 w1_2])), (5, .p (.ref [.int .i64 w1_3])), (6, .ptr 0 0 1)] none, .cells (rowI e2 w2) 0, .cells (rowI e2 w2) 0]⟩) (SemJ.loop (L64_3_1_ok w1 w1_1 w1_2 w1_3 w1 w1 w1_1 w1_2 w1_3 w2 fuel 0 w2 _ h3)) (Weak.eq (congrArg (fun ZZ : Nat => (⟨[(3, .p (.ref [.ref [.int .i64 w1, .sl (List.map e62 w1_1) false]])), (4, .p (.ref [.int .i64 w1_2])), (5, .p (.ref [.int .i64 w1_3])), (6, .ptr 0 0 1), (7, .ptr 3 0 ZZ), (16, .p (.int .i64 w1)), (17, .p (.int .i64 0))], [.cells [.p (.bool true)] 0, .loop 1 R57_1_0_1_0 [(3, .p (.ref [.ref [.int .i64 w1, .sl (List.map e62 w1_1) false]])), (4, .p (.ref [.int .i64 w1_2])), (5, .p (.ref [.int .i64 w1_3])), (6, .ptr 0 0 1)] none, .cells (rowI e2 w2) 0, .cells (rowI e2 w2) 0]⟩ : St)) (Eq.symm ((row_same el2 (od h2) (od h1)).trans (rl (List.length (rowI e2 (List.replicate 8 (0 : Int)))))))))) (ai (od h4) (ai (od h5) (ai (rl (List.length (rowI e2 y1))) (ai (Nat.le_trans (row_fit el2 (stL_0 h6) (stL_lt h6)) (Nat.le_of_eq (rl (List.length (rowI e2 y1))))) (ai (row_put el2 h6) (ai ((row_setlen el2 h6).trans (rl (List.length (rowI e2 y1)))) (ai (row_wle el2 (od h7) (rfl : 8 * 1 = 8) ((row_setlen el2 h6).trans (rl (List.length (rowI e2 y1))))) (ai (row_wtake el2 (od h7) (rfl : 8 * 1 = 8)) (ai (len_map e62 w1_1) (ai (F40_ok fuel (w1, w1_1) x2 (w1_1.length : Int) _ h8) (ai (sg_0 h9) (ai (od h10) (ai (idx_list (f := e2) el2 rfl h9) (ai h11 trivial))))))))))))))) (by kernel_rfl)) (Weak.sel (E := []) (E' := []) (H := [.cells [.p (.bool true)] 0, .loop 1 R57_1_0_1_0 [(3, .p (.ref [.ref [.int .i64 w1, .sl (List.map e62 w1_1) false]])), (4, .p (.ref [.int .i64 w1_2])), (5, .p (.ref [.int .i64 w1_3])), (6, .ptr 0 0 1)] none, .cells (rowI e2 w2) 0, .cells (rowI e2 x2) 0]) (H' := [.cells [.p (.bool true)] 0, .loop 1 R57_1_0_1_0 [(3, .p (.ref [.ref [.int .i64 w1, .sl (List.map e62 w1_1) false]])), (4, .p (.ref [.int .i64 w1_2])), (5, .p (.ref [.int .i64 w1_3])), (6, .ptr 0 0 1)] none, .cells (rowI e2 w2) 0]) [0, 1, 2] (selH_cons (o := .cells [.p (.bool true)] 0) (o' := .cells [.p (.bool true)] 0) (by kernel_rfl) (sel_x (by kernel_rfl)) (selH_cons (o := .loop 1 R57_1_0_1_0 [(3, .p (.ref [.ref [.int .i64 w1, .sl (List.map e62 w1_1) false]])), (4, .p (.ref [.int .i64 w1_2])), (5, .p (.ref [.int .i64 w1_3])), (6, .ptr 0 0 1)] none) (o' := .loop 1 R57_1_0_1_0 [(3, .p (.ref [.ref [.int .i64 w1, .sl (List.map e62 w1_1) false]])), (4, .p (.ref [.int .i64 w1_2])), (5, .p (.ref [.int .i64 w1_3])), (6, .ptr 0 0 1)] none) (by kernel_rfl) (sel_loop (by kernel_rfl)) (selH_cons (o := .cells (rowI e2 w2) 0) (o' := .cells (rowI e2 w2) 0) (by kernel_rfl) sel_row trivial))) (by kernel_rfl) (by kernel_rfl))) (by kernel_rfl) (by kernel_rfl : _ = (.p (.bool true), [.cells [.p (.bool true)] 0, .loop 0 R57_1_0_1_0 [(3, .p (.ref [.ref [.int .i64 w1, .sl (List.map e62 w1_1) false]])), (4, .p (.ref [.int .i64 w1_2])), (5, .p (.ref [.int .i64 w1_3])), (6, .ptr 0 0 1)] none, .cells (rowI e2 w2) 0]))) (ai (SemJ.loop (L64_3_2_ok v1 v1_1 w1 w1_1 w1_2 w1_3 fuel (IntKind.wrap .i64 (v1 - 1)) w2 _ h12)) t)
      refine oif_elim g12 (fun h13 g13 => ?_) (fun h13 g13 => ?_)
      · have hr := Option.some.inj g13
        subst hr
        exact SemC.cast (SemJ.out (e := .ret) (SemC.post (path hm (σ' := ⟨[], [.cells [.p (.bool true)] 0, .loop 0 R57_1_0_1_0 [(3, .p (.ref [.ref [.int .i64 w1, .sl (List.map e62 w1_1) false]])), (4, .p (.ref [.int .i64 w1_2])), (5, .p (.ref [.int .i64 w1_3])), (6, .ptr 0 0 1)] none, .cells (rowI e2 y5.2) 0]⟩) (ks := []) (cc := c68 ++ [.reg [] [] 0 [(1, none, .b true)] [0, 1, 3, 4, 28]])
        (q67 (q69 (ai h13 trivial))) (by kernel_rfl)) (Weak.sel (E := []) (E' := []) (H := [.cells [.p (.bool true)] 0, .loop 0 R57_1_0_1_0 [(3, .p (.ref [.ref [.int .i64 w1, .sl (List.map e62 w1_1) false]])), (4, .p (.ref [.int .i64 w1_2])), (5, .p (.ref [.int .i64 w1_3])), (6, .ptr 0 0 1)] none, .cells (rowI e2 y5.2) 0]) (H' := [.cells [.p (.bool true)] 0, .loop 0 R57_1_0_1_0 [(3, .p (.ref [.ref [.int .i64 w1, .sl (List.map e62 w1_1) false]])), (4, .p (.ref [.int .i64 w1_2])), (5, .p (.ref [.int .i64 w1_3])), (6, .ptr 0 0 1)] none]) [0, 1] (selH_cons (o := .cells [.p (.bool true)] 0) (o' := .cells [.p (.bool true)] 0) (by kernel_rfl) (sel_x (by kernel_rfl)) (selH_cons (o := .loop 0 R57_1_0_1_0 [(3, .p (.ref [.ref [.int .i64 w1, .sl (List.map e62 w1_1) false]])), (4, .p (.ref [.int .i64 w1_2])), (5, .p (.ref [.int .i64 w1_3])), (6, .ptr 0 0 1)] none) (o' := .loop 0 R57_1_0_1_0 [(3, .p (.ref [.ref [.int .i64 w1, .sl (List.map e62 w1_1) false]])), (4, .p (.ref [.int .i64 w1_2])), (5, .p (.ref [.int .i64 w1_3])), (6, .ptr 0 0 1)] none) (by kernel_rfl) (sel_loop (by kernel_rfl)) trivial)) (by kernel_rfl) (by kernel_rfl))) (by simp)) (by kernel_rfl) (by kernel_rfl)
      · refine oif_elim g13 (fun h14 g14 => ?_) (fun _ h => nomatch h)
        refine oif_elim g14 (fun h15 g15 => ?_) (fun _ h => nomatch h)
        refine obind_elim g15 fun x6 h16 g16 => ?_
        exact SemJ.again (σ1 := ⟨[(0, .yld 1), (1, .p (.ref [.ref [.int .i64 v1, .sl (List.map e62 v1_1) false]])), (3, .ptr 2 0 (List.length (rowI e2 x6)))], [.cells [.p (.bool true)] 0, .loop 0 R57_1_0_1_0 [(3, .p (.ref [.ref [.int .i64 w1, .sl (List.map e62 w1_1) false]])), (4, .p (.ref [.int .i64 w1_2])), (5, .p (.ref [.int .i64 w1_3])), (6, .ptr 0 0 1)] none, .cells (rowI e2 x6) 0]⟩) (SemC.post (path hm (σ' := ⟨[(0, .yld 1), (1, .p (.ref [.ref [.int .i64 v1, .sl (List.map e62 v1_1) false]])), (3, .ptr 2 0 (List.length (rowI e2 y5.2)))], [.cells [.p (.bool true)] 0, .loop 0 R57_1_0_1_0 [(3, .p (.ref [.ref [.int .i64 w1, .sl (List.map e62 w1_1) false]])), (4, .p (.ref [.int .i64 w1_2])), (5, .p (.ref [.int .i64 w1_3])), (6, .ptr 0 0 1)] none, .cells (rowI e2 x6) 0]⟩) (ks := [0, 1, 3]) (cc := c68 ++ [.reg [] [] 0 [(1, none, .b false)] [0, 1, 3, 4, 28], .reg [] [] 0 [(2, none, .cs (rowI e2 x6))] [0, 1, 3]])
        (q67 (q69 (ai h13 (ai (od h14) (ai (od h15) (ai (rl (List.length (rowI e2 y5.2))) (ai (Nat.le_trans (row_fit el2 (stL_0 h16) (stL_lt h16)) (Nat.le_of_eq (rl (List.length (rowI e2 y5.2))))) (ai (row_put el2 h16) trivial)))))))) (by kernel_rfl)) (Weak.eq (congrArg (fun ZZ : Nat => (⟨[(0, .yld 1), (1, .p (.ref [.ref [.int .i64 v1, .sl (List.map e62 v1_1) false]])), (3, .ptr 2 0 ZZ)], [.cells [.p (.bool true)] 0, .loop 0 R57_1_0_1_0 [(3, .p (.ref [.ref [.int .i64 w1, .sl (List.map e62 w1_1) false]])), (4, .p (.ref [.int .i64 w1_2])), (5, .p (.ref [.int .i64 w1_3])), (6, .ptr 0 0 1)] none, .cells (rowI e2 x6) 0]⟩ : St)) (Eq.symm ((row_setlen el2 h16).trans (rl (List.length (rowI e2 y5.2)))))))) (L64_3_0_ok v1 v1_1 w1 w1_1 w1_2 w1_3 fuel x6 _ g16)
def L64_3_4  (v3 : Int) (v3_1 : (List (Int × Int))) (v4 : Int) (v5 : Int) (v16 : Int) (w1 : Int) (w1_1 : (List (Int × Int))) (w1_2 : Int) (w1_3 : Int) (w2 : (List Int)) : Nat → Int → (List Int) → Option (List Int)
  | 0, _, _ => none
  | fuel + 1, v17, w3 =>
    oif ((decide (v17 < v16)))
    (oif (decide ((0:Int) ≤ v17)) (oif (decide ((v17 : Int) < ((8 : Nat) : Int))) (obind (sg w3 v17) fun x1 => obind (stL w3 v17 (IntKind.wrap .i64 (1 + (IntKind.wrap .i64 (2 * x1))))) fun x2 => L64_3_4 v3 v3_1 v4 v5 v16 w1 w1_1 w1_2 w1_3 w2 fuel (IntKind.wrap .i64 (v17 + 1)) x2) none) none)
    (some (w3))
noncomputable def L64_3_4_post (v3 : Int) (v3_1 : (List (Int × Int))) (v4 : Int) (v5 : Int) (v16 : Int) (w1 : Int) (w1_1 : (List (Int × Int))) (w1_2 : Int) (w1_3 : Int) (w2 : (List Int))  : (List Int) → Ex × St
  | y => ((.exit 2), ⟨[(3, .p (.ref [.ref [.int .i64 v3, .sl (List.map e62 v3_1) false]])), (4, .p (.ref [.int .i64 v4])), (5, .p (.ref [.int .i64 v5])), (6, .ptr 0 0 1), (7, .ptr 3 0 (List.length (rowI e2 y)))], [.cells [.p (.bool false)] 0, .loop 1 R57_1_0_1_0 [(3, .p (.ref [.ref [.int .i64 w1, .sl (List.map e62 w1_1) false]])), (4, .p (.ref [.int .i64 w1_2])), (5, .p (.ref [.int .i64 w1_3])), (6, .ptr 0 0 1)] none, .cells (rowI e2 w2) 0, .cells (rowI e2 y) 0]⟩)
theorem L64_3_4_ok  (v3 : Int) (v3_1 : (List (Int × Int))) (v4 : Int) (v5 : Int) (v16 : Int) (w1 : Int) (w1_1 : (List (Int × Int))) (w1_2 : Int) (w1_3 : Int) (w2 : (List Int))  : ∀ (fuel : Nat) (v17 : Int) (w3 : (List Int)) (r : (List Int)), L64_3_4 v3 v3_1 v4 v5 v16 w1 w1_1 w1_2 w1_3 w2 fuel v17 w3 = some r →
    SemJ prog ⟨42, 3, true⟩ (codeAt [1, 0, 1, 0, 1, 0, 0, 1, 0, 0] (bodyOf f57)) ⟨[(3, .p (.ref [.ref [.int .i64 v3, .sl (List.map e62 v3_1) false]])), (4, .p (.ref [.int .i64 v4])), (5, .p (.ref [.int .i64 v5])), (6, .ptr 0 0 1), (7, .ptr 3 0 (List.length (rowI e2 w3))), (16, .p (.int .i64 v16)), (17, .p (.int .i64 v17))], [.cells [.p (.bool false)] 0, .loop 1 R57_1_0_1_0 [(3, .p (.ref [.ref [.int .i64 w1, .sl (List.map e62 w1_1) false]])), (4, .p (.ref [.int .i64 w1_2])), (5, .p (.ref [.int .i64 w1_3])), (6, .ptr 0 0 1)] none, .cells (rowI e2 w2) 0, .cells (rowI e2 w3) 0]⟩ (L64_3_4_post v3 v3_1 v4 v5 v16 w1 w1_1 w1_2 w1_3 w2 r).1 (L64_3_4_post v3 v3_1 v4 v5 v16 w1 w1_1 w1_2 w1_3 w2 r).2
  | 0, _, _, _, h => nomatch h
  | fuel + 1, v17, w3, r, h => by
    unfold L64_3_4 at h
    refine oif_elim h (fun h1 g1 => ?_) (fun h1 g1 => ?_)
    · refine oif_elim g1 (fun h2 g2 => ?_) (fun _ h => nomatch h)
      refine oif_elim g2 (fun h3 g3 => ?_) (fun _ h => nomatch h)
      refine obind_elim g3 fun x1 h4 g4 => ?_
      refine obind_elim g4 fun x2 h5 g5 => ?_
      exact SemJ.again (σ1 := ⟨[(3, .p (.ref [.ref [.int .i64 v3, .sl (List.map e62 v3_1) false]])), (4, .p (.ref [.int .i64 v4])), (5, .p (.ref [.int .i64 v5])), (6, .ptr 0 0 1), (7, .ptr 3 0 (List.length (rowI e2 x2))), (16, .p (.int .i64 v16)), (17, .p (.int .i64 (IntKind.wrap .i64 (v17 + 1))))], [.cells [.p (.bool false)] 0, .loop 1 R57_1_0_1_0 [(3, .p (.ref [.ref [.int .i64 w1, .sl (List.map e62 w1_1) false]])), (4, .p (.ref [.int .i64 w1_2])), (5, .p (.ref [.int .i64 w1_3])), (6, .ptr 0 0 1)] none, .cells (rowI e2 w2) 0, .cells (rowI e2 x2) 0]⟩) (SemC.post (path hm (σ' := ⟨[(3, .p (.ref [.ref [.int .i64 v3, .sl (List.map e62 v3_1) false]])), (4, .p (.ref [.int .i64 v4])), (5, .p (.ref [.int .i64 v5])), (6, .ptr 0 0 1), (7, .ptr 3 0 (List.length (rowI e2 w3))), (16, .p (.int .i64 v16)), (17, .p (.int .i64 (IntKind.wrap .i64 (v17 + 1))))], [.cells [.p (.bool false)] 0, .loop 1 R57_1_0_1_0 [(3, .p (.ref [.ref [.int .i64 w1, .sl (List.map e62 w1_1) false]])), (4, .p (.ref [.int .i64 w1_2])), (5, .p (.ref [.int .i64 w1_3])), (6, .ptr 0 0 1)] none, .cells (rowI e2 w2) 0, .cells (rowI e2 x2) 0]⟩) (ks := [3, 4, 5, 6, 7, 16, 17]) (cc := [.reg [] [] 0 [(0, none, .b true)] [3, 4, 5, 6, 7, 16, 17, 18], .reg [] [] 0 [] [3, 4, 5, 6, 7, 8, 16, 17], .reg [] [] 0 [(3, none, .iv (.p (.int .i64 x1))), (7, none, .cs (rowI e2 x2))] [3, 4, 5, 6, 7, 16, 17], .reg [] [] 0 [] [3, 4, 5, 6, 7, 16, 17]])
        (ai h1 (ai (od h2) (ai (od h3) (ai (rl (List.length (rowI e2 w3))) (ai (row_get el2 h4 rfl) (ai (od h2) (ai (od h3) (ai (rl (List.length (rowI e2 w3))) (ai (Nat.le_trans (row_fit el2 (stL_0 h5) (stL_lt h5)) (Nat.le_of_eq (rl (List.length (rowI e2 w3))))) (ai (row_put el2 h5) trivial)))))))))) (by kernel_rfl)) (Weak.eq (congrArg (fun ZZ : Nat => (⟨[(3, .p (.ref [.ref [.int .i64 v3, .sl (List.map e62 v3_1) false]])), (4, .p (.ref [.int .i64 v4])), (5, .p (.ref [.int .i64 v5])), (6, .ptr 0 0 1), (7, .ptr 3 0 ZZ), (16, .p (.int .i64 v16)), (17, .p (.int .i64 (IntKind.wrap .i64 (v17 + 1))))], [.cells [.p (.bool false)] 0, .loop 1 R57_1_0_1_0 [(3, .p (.ref [.ref [.int .i64 w1, .sl (List.map e62 w1_1) false]])), (4, .p (.ref [.int .i64 w1_2])), (5, .p (.ref [.int .i64 w1_3])), (6, .ptr 0 0 1)] none, .cells (rowI e2 w2) 0, .cells (rowI e2 x2) 0]⟩ : St)) (Eq.symm ((row_setlen el2 h5).trans (rl (List.length (rowI e2 w3)))))))) (L64_3_4_ok v3 v3_1 v4 v5 v16 w1 w1_1 w1_2 w1_3 w2 fuel (IntKind.wrap .i64 (v17 + 1)) x2 _ g5)
    · have hr := Option.some.inj g1
      subst hr
      exact SemC.cast (SemJ.out (e := (.exit 2)) (path hm (σ' := ⟨[(3, .p (.ref [.ref [.int .i64 v3, .sl (List.map e62 v3_1) false]])), (4, .p (.ref [.int .i64 v4])), (5, .p (.ref [.int .i64 v5])), (6, .ptr 0 0 1), (7, .ptr 3 0 (List.length (rowI e2 w3)))], [.cells [.p (.bool false)] 0, .loop 1 R57_1_0_1_0 [(3, .p (.ref [.ref [.int .i64 w1, .sl (List.map e62 w1_1) false]])), (4, .p (.ref [.int .i64 w1_2])), (5, .p (.ref [.int .i64 w1_3])), (6, .ptr 0 0 1)] none, .cells (rowI e2 w2) 0, .cells (rowI e2 w3) 0]⟩) (ks := [3, 4, 5, 6, 7]) (cc := [.reg [] [] 0 [(0, none, .b false)] [3, 4, 5, 6, 7, 16, 17, 18]])
        (ai h1 trivial) (by kernel_rfl)) (by simp)) (by kernel_rfl) (by kernel_rfl)
def L64_3_5  (v1 : Int) (v1_1 : (List (Int × Int))) (w1 : Int) (w1_1 : (List (Int × Int))) (w1_2 : Int) (w1_3 : Int) : Nat → Int → (List Int) → Option (Int × (List Int))
  | 0, _, _ => none
  | fuel + 1, v4, w2 =>
    oif ((decide (v4 ≥ 0)))
    (oif (decide ((0:Int) ≤ v4)) (oif (decide ((v4 : Int) < ((8 : Nat) : Int))) (obind (sg w2 v4) fun x1 => oif ((x1 == 1))
      (obind (stL w2 v4 0) fun x2 => L64_3_5 v1 v1_1 w1 w1_1 w1_2 w1_3 fuel (IntKind.wrap .i64 (v4 - 1)) x2)
      (some ((v4, w2)))) none) none)
    (some ((v4, w2)))
noncomputable def L64_3_5_post (v1 : Int) (v1_1 : (List (Int × Int))) (w1 : Int) (w1_1 : (List (Int × Int))) (w1_2 : Int) (w1_3 : Int)  : (Int × (List Int)) → Ex × St
  | y => ((.exit 2), ⟨[(0, .yld 1), (1, .p (.ref [.ref [.int .i64 v1, .sl (List.map e62 v1_1) false]])), (3, .ptr 2 0 (List.length (rowI e2 y.2))), (4, .p (.int .i64 y.1))], [.cells [.p (.bool false)] 0, .loop 0 R57_1_0_1_0 [(3, .p (.ref [.ref [.int .i64 w1, .sl (List.map e62 w1_1) false]])), (4, .p (.ref [.int .i64 w1_2])), (5, .p (.ref [.int .i64 w1_3])), (6, .ptr 0 0 1)] none, .cells (rowI e2 y.2) 0]⟩)
theorem L64_3_5_ok  (v1 : Int) (v1_1 : (List (Int × Int))) (w1 : Int) (w1_1 : (List (Int × Int))) (w1_2 : Int) (w1_3 : Int)  : ∀ (fuel : Nat) (v4 : Int) (w2 : (List Int)) (r : (Int × (List Int))), L64_3_5 v1 v1_1 w1 w1_1 w1_2 w1_3 fuel v4 w2 = some r →
    SemJ prog ⟨31, 2, false⟩ (codeAt [1, 0, 0, 0, 1, 1, 0, 0, 0] (bodyOf f64)) ⟨[(0, .yld 1), (1, .p (.ref [.ref [.int .i64 v1, .sl (List.map e62 v1_1) false]])), (3, .ptr 2 0 (List.length (rowI e2 w2))), (4, .p (.int .i64 v4))], [.cells [.p (.bool false)] 0, .loop 0 R57_1_0_1_0 [(3, .p (.ref [.ref [.int .i64 w1, .sl (List.map e62 w1_1) false]])), (4, .p (.ref [.int .i64 w1_2])), (5, .p (.ref [.int .i64 w1_3])), (6, .ptr 0 0 1)] none, .cells (rowI e2 w2) 0]⟩ (L64_3_5_post v1 v1_1 w1 w1_1 w1_2 w1_3 r).1 (L64_3_5_post v1 v1_1 w1 w1_1 w1_2 w1_3 r).2
  | 0, _, _, _, h => nomatch h
  | fuel + 1, v4, w2, r, h => by
    unfold L64_3_5 at h
    refine oif_elim h (fun h1 g1 => ?_) (fun h1 g1 => ?_)
    · refine oif_elim g1 (fun h2 g2 => ?_) (fun _ h => nomatch h)
      refine oif_elim g2 (fun h3 g3 => ?_) (fun _ h => nomatch h)
      refine obind_elim g3 fun x1 h4 g4 => ?_
      have q70 := fun {P : Prop} (t : P) => ai h1 (ai (od h2) (ai (od h3) (ai (rl (List.length (rowI e2 w2))) (ai (row_get el2 h4 rfl) t))))
      refine oif_elim g4 (fun h5 g5 => ?_) (fun h5 g5 => ?_)
      · refine obind_elim g5 fun x2 h6 g6 => ?_
        exact SemJ.again (σ1 := ⟨[(0, .yld 1), (1, .p (.ref [.ref [.int .i64 v1, .sl (List.map e62 v1_1) false]])), (3, .ptr 2 0 (List.length (rowI e2 x2))), (4, .p (.int .i64 (IntKind.wrap .i64 (v4 - 1))))], [.cells [.p (.bool false)] 0, .loop 0 R57_1_0_1_0 [(3, .p (.ref [.ref [.int .i64 w1, .sl (List.map e62 w1_1) false]])), (4, .p (.ref [.int .i64 w1_2])), (5, .p (.ref [.int .i64 w1_3])), (6, .ptr 0 0 1)] none, .cells (rowI e2 x2) 0]⟩) (SemC.post (path hm (σ' := ⟨[(0, .yld 1), (1, .p (.ref [.ref [.int .i64 v1, .sl (List.map e62 v1_1) false]])), (3, .ptr 2 0 (List.length (rowI e2 w2))), (4, .p (.int .i64 (IntKind.wrap .i64 (v4 - 1))))], [.cells [.p (.bool false)] 0, .loop 0 R57_1_0_1_0 [(3, .p (.ref [.ref [.int .i64 w1, .sl (List.map e62 w1_1) false]])), (4, .p (.ref [.int .i64 w1_2])), (5, .p (.ref [.int .i64 w1_3])), (6, .ptr 0 0 1)] none, .cells (rowI e2 x2) 0]⟩) (ks := [0, 1, 3, 4]) (cc := [.reg [] [] 0 [(1, none, .b true), (5, none, .iv (.p (.int .i64 x1))), (6, none, .b true)] [0, 1, 3, 4, 22], .reg [] [] 0 [(2, none, .cs (rowI e2 x2))] [0, 1, 3, 4], .reg [] [] 0 [] [0, 1, 3, 4]])
        (q70 (ai h5 (ai (od h2) (ai (od h3) (ai (rl (List.length (rowI e2 w2))) (ai (Nat.le_trans (row_fit el2 (stL_0 h6) (stL_lt h6)) (Nat.le_of_eq (rl (List.length (rowI e2 w2))))) (ai (row_put el2 h6) trivial))))))) (by kernel_rfl)) (Weak.eq (congrArg (fun ZZ : Nat => (⟨[(0, .yld 1), (1, .p (.ref [.ref [.int .i64 v1, .sl (List.map e62 v1_1) false]])), (3, .ptr 2 0 ZZ), (4, .p (.int .i64 (IntKind.wrap .i64 (v4 - 1))))], [.cells [.p (.bool false)] 0, .loop 0 R57_1_0_1_0 [(3, .p (.ref [.ref [.int .i64 w1, .sl (List.map e62 w1_1) false]])), (4, .p (.ref [.int .i64 w1_2])), (5, .p (.ref [.int .i64 w1_3])), (6, .ptr 0 0 1)] none, .cells (rowI e2 x2) 0]⟩ : St)) (Eq.symm ((row_setlen el2 h6).trans (rl (List.length (rowI e2 w2)))))))) (L64_3_5_ok v1 v1_1 w1 w1_1 w1_2 w1_3 fuel (IntKind.wrap .i64 (v4 - 1)) x2 _ g6)
      · have hr := Option.some.inj g5
        subst hr
        exact SemC.cast (SemJ.out (e := (.exit 2)) (path hm (σ' := ⟨[(0, .yld 1), (1, .p (.ref [.ref [.int .i64 v1, .sl (List.map e62 v1_1) false]])), (3, .ptr 2 0 (List.length (rowI e2 w2))), (4, .p (.int .i64 v4))], [.cells [.p (.bool false)] 0, .loop 0 R57_1_0_1_0 [(3, .p (.ref [.ref [.int .i64 w1, .sl (List.map e62 w1_1) false]])), (4, .p (.ref [.int .i64 w1_2])), (5, .p (.ref [.int .i64 w1_3])), (6, .ptr 0 0 1)] none, .cells (rowI e2 w2) 0]⟩) (ks := [0, 1, 3, 4]) (cc := [.reg [] [] 0 [(1, none, .b true), (5, none, .iv (.p (.int .i64 x1))), (6, none, .b false)] [0, 1, 3, 4, 22]])
        (q70 (ai h5 trivial)) (by kernel_rfl)) (by simp)) (by kernel_rfl) (by kernel_rfl)
    · have hr := Option.some.inj g1
      subst hr
      exact SemC.cast (SemJ.out (e := (.exit 2)) (path hm (σ' := ⟨[(0, .yld 1), (1, .p (.ref [.ref [.int .i64 v1, .sl (List.map e62 v1_1) false]])), (3, .ptr 2 0 (List.length (rowI e2 w2))), (4, .p (.int .i64 v4))], [.cells [.p (.bool false)] 0, .loop 0 R57_1_0_1_0 [(3, .p (.ref [.ref [.int .i64 w1, .sl (List.map e62 w1_1) false]])), (4, .p (.ref [.int .i64 w1_2])), (5, .p (.ref [.int .i64 w1_3])), (6, .ptr 0 0 1)] none, .cells (rowI e2 w2) 0]⟩) (ks := [0, 1, 3, 4]) (cc := [.reg [] [] 0 [(1, none, .b false)] [0, 1, 3, 4, 22]])
        (ai h1 trivial) (by kernel_rfl)) (by simp)) (by kernel_rfl) (by kernel_rfl)
def L64_3_3  (v1 : Int) (v1_1 : (List (Int × Int))) (w1 : Int) (w1_1 : (List (Int × Int))) (w1_2 : Int) (w1_3 : Int) : Nat → (List Int) → Option (Unit ⊕ Unit)
  | 0, _ => none
  | fuel + 1, w2 =>
    oif (decide (List.length w2 = 8)) (oif (decide (List.length (List.replicate 8 (0 : Int)) = 8)) (obind (L64_3_4 w1 w1_1 w1_2 w1_3 w1 w1 w1_1 w1_2 w1_3 w2 fuel 0 w2) fun y1 => oif (decide ((0:Int) ≤ w1_2)) (oif (decide ((w1_2 : Int) < ((8 : Nat) : Int))) (obind (stL y1 w1_2 2) fun x2 => oif (decide (List.length x2 = 8)) (obind (F40 fuel (w1, w1_1) x2 (w1_1.length : Int)) fun r3 => obind (sg r3 w1_3) fun x4 => oif (decide ((w1_3 : Int) < ((8 : Nat) : Int))) (oif ((x4 == 2))
    (some (.inl ()))
    (obind (L64_3_5 v1 v1_1 w1 w1_1 w1_2 w1_3 fuel (IntKind.wrap .i64 (v1 - 1)) w2) fun y5 => oif ((decide (y5.1 < 0)))
      (some (.inr (())))
      (oif (decide ((0:Int) ≤ y5.1)) (oif (decide ((y5.1 : Int) < ((8 : Nat) : Int))) (obind (stL y5.2 y5.1 1) fun x6 => L64_3_3 v1 v1_1 w1 w1_1 w1_2 w1_3 fuel x6) none) none))) none) none) none) none) none) none
noncomputable def L64_3_3_post (v1 : Int) (v1_1 : (List (Int × Int))) (w1 : Int) (w1_1 : (List (Int × Int))) (w1_2 : Int) (w1_3 : Int)  : (Unit ⊕ Unit) → Ex × St
  | .inl y => (.ret, ⟨[], [.cells [.p (.bool true)] 0, .loop 2 R57_1_0_1_0 [(3, .p (.ref [.ref [.int .i64 w1, .sl (List.map e62 w1_1) false]])), (4, .p (.ref [.int .i64 w1_2])), (5, .p (.ref [.int .i64 w1_3])), (6, .ptr 0 0 1)] (some .ret)]⟩)
  | .inr (y) => (.ret, ⟨[], [.cells [.p (.bool false)] 0, .loop 0 R57_1_0_1_0 [(3, .p (.ref [.ref [.int .i64 w1, .sl (List.map e62 w1_1) false]])), (4, .p (.ref [.int .i64 w1_2])), (5, .p (.ref [.int .i64 w1_3])), (6, .ptr 0 0 1)] none]⟩)
theorem L64_3_3_ok  (v1 : Int) (v1_1 : (List (Int × Int))) (w1 : Int) (w1_1 : (List (Int × Int))) (w1_2 : Int) (w1_3 : Int)  : ∀ (fuel : Nat) (w2 : (List Int)) (r : (Unit ⊕ Unit)), L64_3_3 v1 v1_1 w1 w1_1 w1_2 w1_3 fuel w2 = some r →
    SemJ prog ⟨31, 2, false⟩ (codeAt [1, 0, 0] (bodyOf f64)) ⟨[(0, .yld 1), (1, .p (.ref [.ref [.int .i64 v1, .sl (List.map e62 v1_1) false]])), (3, .ptr 2 0 (List.length (rowI e2 w2)))], [.cells [.p (.bool false)] 0, .loop 0 R57_1_0_1_0 [(3, .p (.ref [.ref [.int .i64 w1, .sl (List.map e62 w1_1) false]])), (4, .p (.ref [.int .i64 w1_2])), (5, .p (.ref [.int .i64 w1_3])), (6, .ptr 0 0 1)] none, .cells (rowI e2 w2) 0]⟩ (L64_3_3_post v1 v1_1 w1 w1_1 w1_2 w1_3 r).1 (L64_3_3_post v1 v1_1 w1 w1_1 w1_2 w1_3 r).2
  | 0, _, _, h => nomatch h
  | fuel + 1, w2, r, h => by
    unfold L64_3_3 at h
    refine oif_elim h (fun h1 g1 => ?_) (fun _ h => nomatch h)
    refine oif_elim g1 (fun h2 g2 => ?_) (fun _ h => nomatch h)
    refine obind_elim g2 fun y1 h3 g3 => ?_
    refine oif_elim g3 (fun h4 g4 => ?_) (fun _ h => nomatch h)
    refine oif_elim g4 (fun h5 g5 => ?_) (fun _ h => nomatch h)
    refine obind_elim g5 fun x2 h6 g6 => ?_
    refine oif_elim g6 (fun h7 g7 => ?_) (fun _ h => nomatch h)
    refine obind_elim g7 fun r3 h8 g8 => ?_
    refine obind_elim g8 fun x4 h9 g9 => ?_
    refine oif_elim g9 (fun h10 g10 => ?_) (fun _ h => nomatch h)
    have q71 := fun {P : Prop} (t : P) => ai (rl (List.length (rowI e2 w2))) (ai (row_wle el2 (od h1) (rfl : 8 * 1 = 8) (rl (List.length (rowI e2 w2)))) (ai (row_wtake el2 (od h1) (rfl : 8 * 1 = 8)) t))
    refine oif_elim g10 (fun h11 g11 => ?_) (fun h11 g11 => ?_)
    · have hr := Option.some.inj g11
      subst hr
      exact SemC.cast (SemJ.out (e := .ret) (SemC.post (path hm (σ' := ⟨[], [.cells [.p (.bool true)] 0, .loop 2 R57_1_0_1_0 [(3, .p (.ref [.ref [.int .i64 w1, .sl (List.map e62 w1_1) false]])), (4, .p (.ref [.int .i64 w1_2])), (5, .p (.ref [.int .i64 w1_3])), (6, .ptr 0 0 1)] (some .ret), .cells (rowI e2 w2) 0]⟩) (ks := []) (cc := [.reg [] [] 0 [(1, none, .iv (.p (.agg (rowP e2 w2)))), (2, none, .ci (.p (.bool false)) [(0, .cells [.p (.bool true)] 0), (1, .loop 2 R57_1_0_1_0 [(3, .p (.ref [.ref [.int .i64 w1, .sl (List.map e62 w1_1) false]])), (4, .p (.ref [.int .i64 w1_2])), (5, .p (.ref [.int .i64 w1_3])), (6, .ptr 0 0 1)] (some .ret))])] [0, 1, 3, 8]])
        (q71 (ai (roundI_of (P := prog) (l := 1) (args := [.p (.agg (rowP e2 w2))]) (H := [.cells [.p (.bool false)] 0, .loop 0 R57_1_0_1_0 [(3, .p (.ref [.ref [.int .i64 w1, .sl (List.map e62 w1_1) false]])), (4, .p (.ref [.int .i64 w1_2])), (5, .p (.ref [.int .i64 w1_3])), (6, .ptr 0 0 1)] none, .cells (rowI e2 w2) 0]) (R := R57_1_0_1_0) (env := [(3, .p (.ref [.ref [.int .i64 w1, .sl (List.map e62 w1_1) false]])), (4, .p (.ref [.int .i64 w1_2])), (5, .p (.ref [.int .i64 w1_3])), (6, .ptr 0 0 1)]) (env1 := [(3, .p (.ref [.ref [.int .i64 w1, .sl (List.map e62 w1_1) false]])), (4, .p (.ref [.int .i64 w1_2])), (5, .p (.ref [.int .i64 w1_3])), (6, .ptr 0 0 1)]) (env2 := [(3, .p (.ref [.ref [.int .i64 w1, .sl (List.map e62 w1_1) false]])), (4, .p (.ref [.int .i64 w1_2])), (5, .p (.ref [.int .i64 w1_3])), (6, .ptr 0 0 1)]) (m := 3) (e := .ret) (by kernel_rfl) (by kernel_rfl) (by kernel_rfl) (by kernel_rfl) (path hm (σ' := ⟨[(3, .p (.ref [.ref [.int .i64 w1, .sl (List.map e62 w1_1) false]])), (4, .p (.ref [.int .i64 w1_2])), (5, .p (.ref [.int .i64 w1_3])), (6, .ptr 0 0 1), (7, .ptr 3 0 (List.length (rowI e2 (List.replicate 8 (0 : Int)))))], [.cells [.p (.bool false)] 0, .loop 0 R57_1_0_1_0 [(3, .p (.ref [.ref [.int .i64 w1, .sl (List.map e62 w1_1) false]])), (4, .p (.ref [.int .i64 w1_2])), (5, .p (.ref [.int .i64 w1_3])), (6, .ptr 0 0 1)] none, .cells (rowI e2 w2) 0, .cells (rowI e2 w2) 0]⟩) (ks := [3, 4, 5, 6, 7]) (cc := [.reg [] [] 1 [(0, some 3, .a), (1, none, .ap (rowI e2 w2) 0 0)] [3, 4, 5, 6, 7]]) (ai (row_wlen el2 (od h1) (rfl : 8 * 1 = 8)) (ai (row_scal el2 w2) (ai (rl (List.length (rowI e2 (List.replicate 8 (0 : Int))))) (ai (row_wle el2 (od h2) (rfl : 8 * 1 = 8) (rl (List.length (rowI e2 (List.replicate 8 (0 : Int)))))) (ai (row_putall el2 (od h2) (od h1)) trivial))))) (by kernel_rfl)) (by kernel_rfl) (SemC.post (path hm (σ' := ⟨[], [.cells [.p (.bool true)] 0, .loop 1 R57_1_0_1_0 [(3, .p (.ref [.ref [.int .i64 w1, .sl (List.map e62 w1_1) false]])), (4, .p (.ref [.int .i64 w1_2])), (5, .p (.ref [.int .i64 w1_3])), (6, .ptr 0 0 1)] none, .cells (rowI e2 w2) 0, .cells (rowI e2 x2) 0]⟩) (ks := []) (cc := [.reg [] [] 0 [] [3, 4, 5, 6, 7, 16, 17], .leaf (.exit 2) ⟨[(3, .p (.ref [.ref [.int .i64 w1, .sl (List.map e62 w1_1) false]])), (4, .p (.ref [.int .i64 w1_2])), (5, .p (.ref [.int .i64 w1_3])), (6, .ptr 0 0 1), (7, .ptr 3 0 (List.length (rowI e2 y1)))], [.cells [.p (.bool false)] 0, .loop 1 R57_1_0_1_0 [(3, .p (.ref [.ref [.int .i64 w1, .sl (List.map e62 w1_1) false]])), (4, .p (.ref [.int .i64 w1_2])), (5, .p (.ref [.int .i64 w1_3])), (6, .ptr 0 0 1)] none, .cells (rowI e2 w2) 0, .cells (rowI e2 y1) 0]⟩, .reg [] [] 0 [(2, none, .cs (rowI e2 x2))] [3, 5, 6, 7], .reg [0, 0, 0, 4, 12, 28, 60, 124, 255, 0, 1023, 2047] [] 0 [(1, none, .iv (.p (.agg (rowP e2 x2)))), (7, none, .n (w1_1.length : Int)), (8, none, .call (.agg (rowP e2 r3))), (10, none, .iv (.p (.int .i64 x4))), (11, none, .b true)] [6, 41], .reg [] [] 0 [] [6]]) (ai (SemC.pre (σ := ⟨[(3, .p (.ref [.ref [.int .i64 w1, .sl (List.map e62 w1_1) false]])), (4, .p (.ref [.int .i64 w1_2])), (5, .p (.ref [.int .i64 w1_3])), (6, .ptr 0 0 1), (7, .ptr 3 0 (List.length (rowI e2 (List.replicate 8 (0 : Int))))), (16, .p (.int .i64 w1)), (17, .p (.int .i64 0))], [.cells [.p (.bool false)] 0, .loop 1 R57_1_0_1_0 [(3, .p (.ref [.ref [.int .i64 w1, .sl (List.map e62 w1_1) false]])), (4, .p (.ref [.int .i64 w1_2])), (5, .p (.ref [.int .i64 w1_3])), (6, .ptr 0 0 1)] none, .cells (rowI e2 w2) 0, .cells (rowI e2 w2) 0]⟩) (SemJ.loop (L64_3_4_ok w1 w1_1 w1_2 w1_3 w1 w1 w1_1 w1_2 w1_3 w2 fuel 0 w2 _ h3)) (Weak.eq (congrArg (fun ZZ : Nat => (⟨[(3, .p (.ref [.ref [.int .i64 w1, .sl (List.map e62 w1_1) false]])), (4, .p (.ref [.int .i64 w1_2])), (5, .p (.ref [.int .i64 w1_3])), (6, .ptr 0 0 1), (7, .ptr 3 0 ZZ), (16, .p (.int .i64 w1)), (17, .p (.int .i64 0))], [.cells [.p (.bool false)] 0, .loop 1 R57_1_0_1_0 [(3, .p (.ref [.ref [.int .i64 w1, .sl (List.map e62 w1_1) false]])), (4, .p (.ref [.int .i64 w1_2])), (5, .p (.ref [.int .i64 w1_3])), (6, .ptr 0 0 1)] none, .cells (rowI e2 w2) 0, .cells (rowI e2 w2) 0]⟩ : St)) (Eq.symm ((row_same el2 (od h2) (od h1)).trans (rl (List.length (rowI e2 (List.replicate 8 (0 : Int)))))))))) (ai (od h4) (ai (od h5) (ai (rl (List.length (rowI e2 y1))) (ai (Nat.le_trans (row_fit el2 (stL_0 h6) (stL_lt h6)) (Nat.le_of_eq (rl (List.length (rowI e2 y1))))) (ai (row_put el2 h6) (ai ((row_setlen el2 h6).trans (rl (List.length (rowI e2 y1)))) (ai (row_wle el2 (od h7) (rfl : 8 * 1 = 8) ((row_setlen el2 h6).trans (rl (List.length (rowI e2 y1))))) (ai (row_wtake el2 (od h7) (rfl : 8 * 1 = 8)) (ai (len_map e62 w1_1) (ai (F40_ok fuel (w1, w1_1) x2 (w1_1.length : Int) _ h8) (ai (sg_0 h9) (ai (od h10) (ai (idx_list (f := e2) el2 rfl h9) (ai h11 trivial))))))))))))))) (by kernel_rfl)) (Weak.sel (E := []) (E' := []) (H := [.cells [.p (.bool true)] 0, .loop 1 R57_1_0_1_0 [(3, .p (.ref [.ref [.int .i64 w1, .sl (List.map e62 w1_1) false]])), (4, .p (.ref [.int .i64 w1_2])), (5, .p (.ref [.int .i64 w1_3])), (6, .ptr 0 0 1)] none, .cells (rowI e2 w2) 0, .cells (rowI e2 x2) 0]) (H' := [.cells [.p (.bool true)] 0, .loop 1 R57_1_0_1_0 [(3, .p (.ref [.ref [.int .i64 w1, .sl (List.map e62 w1_1) false]])), (4, .p (.ref [.int .i64 w1_2])), (5, .p (.ref [.int .i64 w1_3])), (6, .ptr 0 0 1)] none, .cells (rowI e2 w2) 0]) [0, 1, 2] (selH_cons (o := .cells [.p (.bool true)] 0) (o' := .cells [.p (.bool true)] 0) (by kernel_rfl) (sel_x (by kernel_rfl)) (selH_cons (o := .loop 1 R57_1_0_1_0 [(3, .p (.ref [.ref [.int .i64 w1, .sl (List.map e62 w1_1) false]])), (4, .p (.ref [.int .i64 w1_2])), (5, .p (.ref [.int .i64 w1_3])), (6, .ptr 0 0 1)] none) (o' := .loop 1 R57_1_0_1_0 [(3, .p (.ref [.ref [.int .i64 w1, .sl (List.map e62 w1_1) false]])), (4, .p (.ref [.int .i64 w1_2])), (5, .p (.ref [.int .i64 w1_3])), (6, .ptr 0 0 1)] none) (by kernel_rfl) (sel_loop (by kernel_rfl)) (selH_cons (o := .cells (rowI e2 w2) 0) (o' := .cells (rowI e2 w2) 0) (by kernel_rfl) sel_row trivial))) (by kernel_rfl) (by kernel_rfl))) (by kernel_rfl) (by kernel_rfl : _ = (.p (.bool false), [.cells [.p (.bool true)] 0, .loop 2 R57_1_0_1_0 [(3, .p (.ref [.ref [.int .i64 w1, .sl (List.map e62 w1_1) false]])), (4, .p (.ref [.int .i64 w1_2])), (5, .p (.ref [.int .i64 w1_3])), (6, .ptr 0 0 1)] (some .ret), .cells (rowI e2 w2) 0]))) trivial)) (by kernel_rfl)) (Weak.sel (E := []) (E' := []) (H := [.cells [.p (.bool true)] 0, .loop 2 R57_1_0_1_0 [(3, .p (.ref [.ref [.int .i64 w1, .sl (List.map e62 w1_1) false]])), (4, .p (.ref [.int .i64 w1_2])), (5, .p (.ref [.int .i64 w1_3])), (6, .ptr 0 0 1)] (some .ret), .cells (rowI e2 w2) 0]) (H' := [.cells [.p (.bool true)] 0, .loop 2 R57_1_0_1_0 [(3, .p (.ref [.ref [.int .i64 w1, .sl (List.map e62 w1_1) false]])), (4, .p (.ref [.int .i64 w1_2])), (5, .p (.ref [.int .i64 w1_3])), (6, .ptr 0 0 1)] (some .ret)]) [0, 1] (selH_cons (o := .cells [.p (.bool true)] 0) (o' := .cells [.p (.bool true)] 0) (by kernel_rfl) (sel_x (by kernel_rfl)) (selH_cons (o := .loop 2 R57_1_0_1_0 [(3, .p (.ref [.ref [.int .i64 w1, .sl (List.map e62 w1_1) false]])), (4, .p (.ref [.int .i64 w1_2])), (5, .p (.ref [.int .i64 w1_3])), (6, .ptr 0 0 1)] (some .ret)) (o' := .loop 2 R57_1_0_1_0 [(3, .p (.ref [.ref [.int .i64 w1, .sl (List.map e62 w1_1) false]])), (4, .p (.ref [.int .i64 w1_2])), (5, .p (.ref [.int .i64 w1_3])), (6, .ptr 0 0 1)] (some .ret)) (by kernel_rfl) (sel_loop (by kernel_rfl)) trivial)) (by kernel_rfl) (by kernel_rfl))) (by simp)) (by kernel_rfl) (by kernel_rfl)
    · refine obind_elim g11 fun y5 h12 g12 => ?_
      let c72 : List CC := [.reg [] [] 0 [(1, none, .iv (.p (.agg (rowP e2 w2)))), (2, none, .ci (.p (.bool true)) [])] [0, 1, 3, 8], .reg [] [] 0 [] [0, 1, 3, 4], .leaf (.exit 2) ⟨[(0, .yld 1), (1, .p (.ref [.ref [.int .i64 v1, .sl (List.map e62 v1_1) false]])), (3, .ptr 2 0 (List.length (rowI e2 y5.2))), (4, .p (.int .i64 y5.1))], [.cells [.p (.bool false)] 0, .loop 0 R57_1_0_1_0 [(3, .p (.ref [.ref [.int .i64 w1, .sl (List.map e62 w1_1) false]])), (4, .p (.ref [.int .i64 w1_2])), (5, .p (.ref [.int .i64 w1_3])), (6, .ptr 0 0 1)] none, .cells (rowI e2 y5.2) 0]⟩]
      have q73 := fun {P : Prop} (t : P) => ai (roundI_of (P := prog) (l := 1) (args := [.p (.agg (rowP e2 w2))]) (H := [.cells [.p (.bool false)] 0, .loop 0 R57_1_0_1_0 [(3, .p (.ref [.ref [.int .i64 w1, .sl (List.map e62 w1_1) false]])), (4, .p (.ref [.int .i64 w1_2])), (5, .p (.ref [.int .i64 w1_3])), (6, .ptr 0 0 1)] none, .cells (rowI e2 w2) 0]) (R := R57_1_0_1_0) (env := [(3, .p (.ref [.ref [.int .i64 w1, .sl (List.map e62 w1_1) false]])), (4, .p (.ref [.int .i64 w1_2])), (5, .p (.ref [.int .i64 w1_3])), (6, .ptr 0 0 1)]) (env1 := [(3, .p (.ref [.ref [.int .i64 w1, .sl (List.map e62 w1_1) false]])), (4, .p (.ref [.int .i64 w1_2])), (5, .p (.ref [.int .i64 w1_3])), (6, .ptr 0 0 1)]) (env2 := [(3, .p (.ref [.ref [.int .i64 w1, .sl (List.map e62 w1_1) false]])), (4, .p (.ref [.int .i64 w1_2])), (5, .p (.ref [.int .i64 w1_3])), (6, .ptr 0 0 1)]) (m := 3) (e := .normal) (by kernel_rfl) (by kernel_rfl) (by kernel_rfl) (by kernel_rfl) (path hm (σ' := ⟨[(3, .p (.ref [.ref [.int .i64 w1, .sl (List.map e62 w1_1) false]])), (4, .p (.ref [.int .i64 w1_2])), (5, .p (.ref [.int .i64 w1_3])), (6, .ptr 0 0 1), (7, .ptr 3 0 (List.length (rowI e2 (List.replicate 8 (0 : Int)))))], [.cells [.p (.bool false)] 0, .loop 0 R57_1_0_1_0 [(3, .p (.ref [.ref [.int .i64 w1, .sl (List.map e62 w1_1) false]])), (4, .p (.ref [.int .i64 w1_2])), (5, .p (.ref [.int .i64 w1_3])), (6, .ptr 0 0 1)] none, .cells (rowI e2 w2) 0, .cells (rowI e2 w2) 0]⟩) (ks := [3, 4, 5, 6, 7]) (cc := [.reg [] [] 1 [(0, some 3, .a), (1, none, .ap (rowI e2 w2) 0 0)] [3, 4, 5, 6, 7]]) (ai (row_wlen el2 (od h1) (rfl : 8 * 1 = 8)) (ai (row_scal el2 w2) (ai (rl (List.length (rowI e2 (List.replicate 8 (0 : Int))))) (ai (row_wle el2 (od h2) (rfl : 8 * 1 = 8) (rl (List.length (rowI e2 (List.replicate 8 (0 : Int)))))) (ai (row_putall el2 (od h2) (od h1)) trivial))))) (by kernel_rfl)) (by kernel_rfl) (SemC.post (path hm (σ' := ⟨[], [.cells [.p (.bool false)] 0, .loop 1 R57_1_0_1_0 [(3, .p (.ref [.ref [.int .i64 w1, .sl (List.map e62 w1_1) false]])), (4, .p (.ref [.int .i64 w1_2])), (5, .p (.ref [.int .i64 w1_3])), (6, .ptr 0 0 1)] none, .cells (rowI e2 w2) 0, .cells (rowI e2 x2) 0]⟩) (ks := []) (cc := [.reg [] [] 0 [] [3, 4, 5, 6, 7, 16, 17], .leaf (.exit 2) ⟨[(3, .p (.ref [.ref [.int .i64 w1, .sl (List.map e62 w1_1) false]])), (4, .p (.ref [.int .i64 w1_2])), (5, .p (.ref [.int .i64 w1_3])), (6, .ptr 0 0 1), (7, .ptr 3 0 (List.length (rowI e2 y1)))], [.cells [.p (.bool false)] 0, .loop 1 R57_1_0_1_0 [(3, .p (.ref [.ref [.int .i64 w1, .sl (List.map e62 w1_1) false]])), (4, .p (.ref [.int .i64 w1_2])), (5, .p (.ref [.int .i64 w1_3])), (6, .ptr 0 0 1)] none, .cells (rowI e2 w2) 0, .cells (rowI e2 y1) 0]⟩, .reg [] [] 0 [(2, none, .cs (rowI e2 x2))] [3, 5, 6, 7], .reg [0, 0, 0, 4, 12, 28, 60, 124, 255, 0, 1023, 2047] [] 0 [(1, none, .iv (.p (.agg (rowP e2 x2)))), (7, none, .n (w1_1.length : Int)), (8, none, .call (.agg (rowP e2 r3))), (10, none, .iv (.p (.int .i64 x4))), (11, none, .b false)] [6, 41]]) (ai (SemC.pre (σ := ⟨[(3, .p (.ref [.ref [.int .i64 w1, .sl (List.map e62 w1_1) false]])), (4, .p (.ref [.int .i64 w1_2])), (5, .p (.ref [.int .i64 w1_3])), (6, .ptr 0 0 1), (7, .ptr 3 0 (List.length (rowI e2 (List.replicate 8 (0 : Int))))), (16, .p (.int .i64 w1)), (17, .p (.int .i64 0))], [.cells [.p (.bool false)] 0, .loop 1 R57_1_0_1_0 [(3, .p (.ref [.ref [.int .i64 w1, .sl (List.map e62 w1_1) false]])), (4, .p (.ref [.int .i64 w1_2])), (5, .p (.ref [.int .i64 w1_3])), (6, .ptr 0 0 1)] none, .cells (rowI e2 w2) 0, .cells (rowI e2 w2) 0]⟩) (SemJ.loop (L64_3_4_ok w1 w1_1 w1_2 w1_3 w1 w1 w1_1 w1_2 w1_3 w2 fuel 0 w2 _ h3)) (Weak.eq (congrArg (fun ZZ : Nat => (⟨[(3, .p (.ref [.ref [.int .i64 w1, .sl (List.map e62 w1_1) false]])), (4, .p (.ref [.int .i64 w1_2])), (5, .p (.ref [.int .i64 w1_3])), (6, .ptr 0 0 1), (7, .ptr 3 0 ZZ), (16, .p (.int .i64 w1)), (17, .p (.int .i64 0))], [.cells [.p (.bool false)] 0, .loop 1 R57_1_0_1_0 [(3, .p (.ref [.ref [.int .i64 w1, .sl (List.map e62 w1_1) false]])), (4, .p (.ref [.int .i64 w1_2])), (5, .p (.ref [.int .i64 w1_3])), (6, .ptr 0 0 1)] none, .cells (rowI e2 w2) 0, .cells (rowI e2 w2) 0]⟩ : St)) (Eq.symm ((row_same el2 (od h2) (od h1)).trans (rl (List.length (rowI e2 (List.replicate 8 (0 : Int)))))))))) (ai (od h4) (ai (od h5) (ai (rl (List.length (rowI e2 y1))) (ai (Nat.le_trans (row_fit el2 (stL_0 h6) (stL_lt h6)) (Nat.le_of_eq (rl (List.length (rowI e2 y1))))) (ai (row_put el2 h6) (ai ((row_setlen el2 h6).trans (rl (List.length (rowI e2 y1)))) (ai (row_wle el2 (od h7) (rfl : 8 * 1 = 8) ((row_setlen el2 h6).trans (rl (List.length (rowI e2 y1))))) (ai (row_wtake el2 (od h7) (rfl : 8 * 1 = 8)) (ai (len_map e62 w1_1) (ai (F40_ok fuel (w1, w1_1) x2 (w1_1.length : Int) _ h8) (ai (sg_0 h9) (ai (od h10) (ai (idx_list (f := e2) el2 rfl h9) (ai h11 trivial))))))))))))))) (by kernel_rfl)) (Weak.sel (E := []) (E' := []) (H := [.cells [.p (.bool false)] 0, .loop 1 R57_1_0_1_0 [(3, .p (.ref [.ref [.int .i64 w1, .sl (List.map e62 w1_1) false]])), (4, .p (.ref [.int .i64 w1_2])), (5, .p (.ref [.int .i64 w1_3])), (6, .ptr 0 0 1)] none, .cells (rowI e2 w2) 0, .cells (rowI e2 x2) 0]) (H' := [.cells [.p (.bool false)] 0, .loop 1 R57_1_0_1_0 [(3, .p (.ref [.ref [.int .i64 w1, .sl (List.map e62 w1_1) false]])), (4, .p (.ref [.int .i64 w1_2])), (5, .p (.ref [.int .i64 w1_3])), (6, .ptr 0 0 1)] none, .cells (rowI e2 w2) 0]) [0, 1, 2] (selH_cons (o := .cells [.p (.bool false)] 0) (o' := .cells [.p (.bool false)] 0) (by kernel_rfl) (sel_x (by kernel_rfl)) (selH_cons (o := .loop 1 R57_1_0_1_0 [(3, .p (.ref [.ref [.int .i64 w1, .sl (List.map e62 w1_1) false]])), (4, .p (.ref [.int .i64 w1_2])), (5, .p (.ref [.int .i64 w1_3])), (6, .ptr 0 0 1)] none) (o' := .loop 1 R57_1_0_1_0 [(3, .p (.ref [.ref [.int .i64 w1, .sl (List.map e62 w1_1) false]])), (4, .p (.ref [.int .i64 w1_2])), (5, .p (.ref [.int .i64 w1_3])), (6, .ptr 0 0 1)] none) (by kernel_rfl) (sel_loop (by kernel_rfl)) (selH_cons (o := .cells (rowI e2 w2) 0) (o' := .cells (rowI e2 w2) 0) (by kernel_rfl) sel_row trivial))) (by kernel_rfl) (by kernel_rfl))) (by kernel_rfl) (by kernel_rfl : _ = (.p (.bool true), [.cells [.p (.bool false)] 0, .loop 0 R57_1_0_1_0 [(3, .p (.ref [.ref [.int .i64 w1, .sl (List.map e62 w1_1) false]])), (4, .p (.ref [.int .i64 w1_2])), (5, .p (.ref [.int .i64 w1_3])), (6, .ptr 0 0 1)] none, .cells (rowI e2 w2) 0]))) (ai (SemJ.loop (L64_3_5_ok v1 v1_1 w1 w1_1 w1_2 w1_3 fuel (IntKind.wrap .i64 (v1 - 1)) w2 _ h12)) t)
      refine oif_elim g12 (fun h13 g13 => ?_) (fun h13 g13 => ?_)
      · have hr := Option.some.inj g13
        subst hr
        exact SemC.cast (SemJ.out (e := .ret) (SemC.post (path hm (σ' := ⟨[], [.cells [.p (.bool false)] 0, .loop 0 R57_1_0_1_0 [(3, .p (.ref [.ref [.int .i64 w1, .sl (List.map e62 w1_1) false]])), (4, .p (.ref [.int .i64 w1_2])), (5, .p (.ref [.int .i64 w1_3])), (6, .ptr 0 0 1)] none, .cells (rowI e2 y5.2) 0]⟩) (ks := []) (cc := c72 ++ [.reg [] [] 0 [(1, none, .b true)] [0, 1, 3, 4, 28]])
        (q71 (q73 (ai h13 trivial))) (by kernel_rfl)) (Weak.sel (E := []) (E' := []) (H := [.cells [.p (.bool false)] 0, .loop 0 R57_1_0_1_0 [(3, .p (.ref [.ref [.int .i64 w1, .sl (List.map e62 w1_1) false]])), (4, .p (.ref [.int .i64 w1_2])), (5, .p (.ref [.int .i64 w1_3])), (6, .ptr 0 0 1)] none, .cells (rowI e2 y5.2) 0]) (H' := [.cells [.p (.bool false)] 0, .loop 0 R57_1_0_1_0 [(3, .p (.ref [.ref [.int .i64 w1, .sl (List.map e62 w1_1) false]])), (4, .p (.ref [.int .i64 w1_2])), (5, .p (.ref [.int .i64 w1_3])), (6, .ptr 0 0 1)] none]) [0, 1] (selH_cons (o := .cells [.p (.bool false)] 0) (o' := .cells [.p (.bool false)] 0) (by kernel_rfl) (sel_x (by kernel_rfl)) (selH_cons (o := .loop 0 R57_1_0_1_0 [(3, .p (.ref [.ref [.int .i64 w1, .sl (List.map e62 w1_1) false]])), (4, .p (.ref [.int .i64 w1_2])), (5, .p (.ref [.int .i64 w1_3])), (6, .ptr 0 0 1)] none) (o' := .loop 0 R57_1_0_1_0 [(3, .p (.ref [.ref [.int .i64 w1, .sl (List.map e62 w1_1) false]])), (4, .p (.ref [.int .i64 w1_2])), (5, .p (.ref [.int .i64 w1_3])), (6, .ptr 0 0 1)] none) (by kernel_rfl) (sel_loop (by kernel_rfl)) trivial)) (by kernel_rfl) (by kernel_rfl))) (by simp)) (by kernel_rfl) (by kernel_rfl)
      · refine oif_elim g13 (fun h14 g14 => ?_) (fun _ h => nomatch h)
        refine oif_elim g14 (fun h15 g15 => ?_) (fun _ h => nomatch h)
        refine obind_elim g15 fun x6 h16 g16 => ?_
        exact SemJ.again (σ1 := ⟨[(0, .yld 1), (1, .p (.ref [.ref [.int .i64 v1, .sl (List.map e62 v1_1) false]])), (3, .ptr 2 0 (List.length (rowI e2 x6)))], [.cells [.p (.bool false)] 0, .loop 0 R57_1_0_1_0 [(3, .p (.ref [.ref [.int .i64 w1, .sl (List.map e62 w1_1) false]])), (4, .p (.ref [.int .i64 w1_2])), (5, .p (.ref [.int .i64 w1_3])), (6, .ptr 0 0 1)] none, .cells (rowI e2 x6) 0]⟩) (SemC.post (path hm (σ' := ⟨[(0, .yld 1), (1, .p (.ref [.ref [.int .i64 v1, .sl (List.map e62 v1_1) false]])), (3, .ptr 2 0 (List.length (rowI e2 y5.2)))], [.cells [.p (.bool false)] 0, .loop 0 R57_1_0_1_0 [(3, .p (.ref [.ref [.int .i64 w1, .sl (List.map e62 w1_1) false]])), (4, .p (.ref [.int .i64 w1_2])), (5, .p (.ref [.int .i64 w1_3])), (6, .ptr 0 0 1)] none, .cells (rowI e2 x6) 0]⟩) (ks := [0, 1, 3]) (cc := c72 ++ [.reg [] [] 0 [(1, none, .b false)] [0, 1, 3, 4, 28], .reg [] [] 0 [(2, none, .cs (rowI e2 x6))] [0, 1, 3]])
        (q71 (q73 (ai h13 (ai (od h14) (ai (od h15) (ai (rl (List.length (rowI e2 y5.2))) (ai (Nat.le_trans (row_fit el2 (stL_0 h16) (stL_lt h16)) (Nat.le_of_eq (rl (List.length (rowI e2 y5.2))))) (ai (row_put el2 h16) trivial)))))))) (by kernel_rfl)) (Weak.eq (congrArg (fun ZZ : Nat => (⟨[(0, .yld 1), (1, .p (.ref [.ref [.int .i64 v1, .sl (List.map e62 v1_1) false]])), (3, .ptr 2 0 ZZ)], [.cells [.p (.bool false)] 0, .loop 0 R57_1_0_1_0 [(3, .p (.ref [.ref [.int .i64 w1, .sl (List.map e62 w1_1) false]])), (4, .p (.ref [.int .i64 w1_2])), (5, .p (.ref [.int .i64 w1_3])), (6, .ptr 0 0 1)] none, .cells (rowI e2 x6) 0]⟩ : St)) (Eq.symm ((row_setlen el2 h16).trans (rl (List.length (rowI e2 y5.2)))))))) (L64_3_3_ok v1 v1_1 w1 w1_1 w1_2 w1_3 fuel x6 _ g16)
def G64_3  (fuel : Nat) (p1 : Int) (p1_1 : (List (Int × Int))) (w0 : Bool) (w1 : Int) (w1_1 : (List (Int × Int))) (w1_2 : Int) (w1_3 : Int) : Option (Unit ⊕ Bool) :=
  oif (w0)
  ((obind (L64_3_0 p1 p1_1 w1 w1_1 w1_2 w1_3 fuel (List.replicate 8 (0 : Int))) fun y1 => match y1 with
    | .inl y1 => some (.inl ())
    | .inr (y1) => some (.inr (true))))
  ((obind (L64_3_3 p1 p1_1 w1 w1_1 w1_2 w1_3 fuel (List.replicate 8 (0 : Int))) fun y1 => match y1 with
    | .inl y1 => some (.inl ())
    | .inr (y1) => some (.inr (false))))
noncomputable def G64_3_post (p1 : Int) (p1_1 : (List (Int × Int))) (w0 : Bool) (w1 : Int) (w1_1 : (List (Int × Int))) (w1_2 : Int) (w1_3 : Int)  : (Unit ⊕ Bool) → IV × List MObj
  | .inl y => (.tup [], [.cells [.p (.bool true)] 0, .loop 2 R57_1_0_1_0 [(3, .p (.ref [.ref [.int .i64 w1, .sl (List.map e62 w1_1) false]])), (4, .p (.ref [.int .i64 w1_2])), (5, .p (.ref [.int .i64 w1_3])), (6, .ptr 0 0 1)] (some .ret)])
  | .inr (y) => (.tup [], [.cells [.p (.bool y)] 0, .loop 0 R57_1_0_1_0 [(3, .p (.ref [.ref [.int .i64 w1, .sl (List.map e62 w1_1) false]])), (4, .p (.ref [.int .i64 w1_2])), (5, .p (.ref [.int .i64 w1_3])), (6, .ptr 0 0 1)] none])
theorem G64_3_ok  (fuel : Nat) (p1 : Int) (p1_1 : (List (Int × Int))) (w0 : Bool) (w1 : Int) (w1_1 : (List (Int × Int))) (w1_2 : Int) (w1_3 : Int)  (r : (Unit ⊕ Bool)) (h : G64_3 fuel p1 p1_1 w0 w1 w1_1 w1_2 w1_3 = some r) : CallI prog 64 [.yld 1, .p (.ref [.ref [.int .i64 p1, .sl (List.map e62 p1_1) false]])] [.cells [.p (.bool w0)] 0, .loop 0 R57_1_0_1_0 [(3, .p (.ref [.ref [.int .i64 w1, .sl (List.map e62 w1_1) false]])), (4, .p (.ref [.int .i64 w1_2])), (5, .p (.ref [.int .i64 w1_3])), (6, .ptr 0 0 1)] none] (G64_3_post p1 p1_1 w0 w1 w1_1 w1_2 w1_3 r).1 (G64_3_post p1 p1_1 w0 w1 w1_1 w1_2 w1_3 r).2 := by
  unfold G64_3 at h
  let c74 : List CC := [.reg [] [] 1 [(0, some 2, .a)] [0, 1, 3]]
  refine oif_elim h (fun h1 g1 => ?_) (fun h1 g1 => ?_)
  · subst h1
    refine obind_elim g1 fun y h2 g2 => ?_
    match y, h2, g2 with
    | .inl y1, h2, g2 =>
      have hr := Option.some.inj g2
      subst hr
      exact CallI.cast (callI_of is64 (by kernel_rfl) (m := 2) (by kernel_rfl) (e := .ret) (vs := []) (path hm (ks := []) (σ' := ⟨[], [.cells [.p (.bool true)] 0, .loop 2 R57_1_0_1_0 [(3, .p (.ref [.ref [.int .i64 w1, .sl (List.map e62 w1_1) false]])), (4, .p (.ref [.int .i64 w1_2])), (5, .p (.ref [.int .i64 w1_3])), (6, .ptr 0 0 1)] (some .ret)]⟩) (cc := c74 ++ [.leaf .ret ⟨[], [.cells [.p (.bool true)] 0, .loop 2 R57_1_0_1_0 [(3, .p (.ref [.ref [.int .i64 w1, .sl (List.map e62 w1_1) false]])), (4, .p (.ref [.int .i64 w1_2])), (5, .p (.ref [.int .i64 w1_3])), (6, .ptr 0 0 1)] (some .ret)]⟩])
      (ai (SemJ.loop (L64_3_0_ok p1 p1_1 w1 w1_1 w1_2 w1_3 fuel (List.replicate 8 (0 : Int)) _ h2)) trivial) (by kernel_rfl)) rfl (show True from trivial) (by kernel_rfl)) (by kernel_rfl)
    | .inr (y1), h2, g2 =>
      have hr := Option.some.inj g2
      subst hr
      exact CallI.cast (callI_of is64 (by kernel_rfl) (m := 2) (by kernel_rfl) (e := .ret) (vs := []) (path hm (ks := []) (σ' := ⟨[], [.cells [.p (.bool true)] 0, .loop 0 R57_1_0_1_0 [(3, .p (.ref [.ref [.int .i64 w1, .sl (List.map e62 w1_1) false]])), (4, .p (.ref [.int .i64 w1_2])), (5, .p (.ref [.int .i64 w1_3])), (6, .ptr 0 0 1)] none]⟩) (cc := c74 ++ [.leaf .ret ⟨[], [.cells [.p (.bool true)] 0, .loop 0 R57_1_0_1_0 [(3, .p (.ref [.ref [.int .i64 w1, .sl (List.map e62 w1_1) false]])), (4, .p (.ref [.int .i64 w1_2])), (5, .p (.ref [.int .i64 w1_3])), (6, .ptr 0 0 1)] none]⟩])
      (ai (SemJ.loop (L64_3_0_ok p1 p1_1 w1 w1_1 w1_2 w1_3 fuel (List.replicate 8 (0 : Int)) _ h2)) trivial) (by kernel_rfl)) rfl (show True from trivial) (by kernel_rfl)) (by kernel_rfl)
  · subst h1
    refine obind_elim g1 fun y h2 g2 => ?_
    match y, h2, g2 with
    | .inl y1, h2, g2 =>
      have hr := Option.some.inj g2
      subst hr
      exact CallI.cast (callI_of is64 (by kernel_rfl) (m := 2) (by kernel_rfl) (e := .ret) (vs := []) (path hm (ks := []) (σ' := ⟨[], [.cells [.p (.bool true)] 0, .loop 2 R57_1_0_1_0 [(3, .p (.ref [.ref [.int .i64 w1, .sl (List.map e62 w1_1) false]])), (4, .p (.ref [.int .i64 w1_2])), (5, .p (.ref [.int .i64 w1_3])), (6, .ptr 0 0 1)] (some .ret)]⟩) (cc := c74 ++ [.leaf .ret ⟨[], [.cells [.p (.bool true)] 0, .loop 2 R57_1_0_1_0 [(3, .p (.ref [.ref [.int .i64 w1, .sl (List.map e62 w1_1) false]])), (4, .p (.ref [.int .i64 w1_2])), (5, .p (.ref [.int .i64 w1_3])), (6, .ptr 0 0 1)] (some .ret)]⟩])
      (ai (SemJ.loop (L64_3_3_ok p1 p1_1 w1 w1_1 w1_2 w1_3 fuel (List.replicate 8 (0 : Int)) _ h2)) trivial) (by kernel_rfl)) rfl (show True from trivial) (by kernel_rfl)) (by kernel_rfl)
    | .inr (y1), h2, g2 =>
      have hr := Option.some.inj g2
      subst hr
      exact CallI.cast (callI_of is64 (by kernel_rfl) (m := 2) (by kernel_rfl) (e := .ret) (vs := []) (path hm (ks := []) (σ' := ⟨[], [.cells [.p (.bool false)] 0, .loop 0 R57_1_0_1_0 [(3, .p (.ref [.ref [.int .i64 w1, .sl (List.map e62 w1_1) false]])), (4, .p (.ref [.int .i64 w1_2])), (5, .p (.ref [.int .i64 w1_3])), (6, .ptr 0 0 1)] none]⟩) (cc := c74 ++ [.leaf .ret ⟨[], [.cells [.p (.bool false)] 0, .loop 0 R57_1_0_1_0 [(3, .p (.ref [.ref [.int .i64 w1, .sl (List.map e62 w1_1) false]])), (4, .p (.ref [.int .i64 w1_2])), (5, .p (.ref [.int .i64 w1_3])), (6, .ptr 0 0 1)] none]⟩])
      (ai (SemJ.loop (L64_3_3_ok p1 p1_1 w1 w1_1 w1_2 w1_3 fuel (List.replicate 8 (0 : Int)) _ h2)) trivial) (by kernel_rfl)) rfl (show True from trivial) (by kernel_rfl)) (by kernel_rfl)
def F57  (fuel : Nat) (p0 : (Int × (List (Int × Int)))) (p1 : Int) (p2 : Int) : Option Bool :=
  obind (F47 fuel (p0.1, p0.2)) fun y1 => (obind (G64_3 fuel ((p0.1, p0.2).1) ((p0.1, p0.2).2) false p0.1 p0.2 p1 p2) fun y2 => match y2 with
  | .inl y2 => some true
  | .inr (y2) => oif (y2)
    (some false)
    (some false))
theorem F57_ok  (fuel : Nat) (p0 : (Int × (List (Int × Int)))) (p1 : Int) (p2 : Int)  (r : Bool) (h : F57 fuel p0 p1 p2 = some r) : CallP prog 57 [.ref [.int .i64 p0.1, .sl (List.map e62 p0.2) false], .int .i64 p1, .int .i64 p2] (.bool r) := by
  unfold F57 at h
  refine obind_elim h fun y1 h1 g1 => ?_
  let c75 : List CC := [.reg [] [] 1 [(0, none, .imm), (1, none, .imm), (2, none, .imm), (3, some 0, .a)] [3, 4, 5, 6], .reg [] [] 0 [(1, none, .call (.fn 64 [] [.ref [.ref [.int .i64 ((p0.1, p0.2).1), .sl (List.map e62 ((p0.1, p0.2).2)) false]]]))] [3, 4, 5, 6, 10]]
  refine obind_elim g1 fun y h2 g2 => ?_
  match y, h2, g2 with
  | .inl y2, h2, g2 =>
    have hr := Option.some.inj g2
    subst hr
    exact callP_of is57 rfl (path hm (ks := [6]) (σ' := ⟨[(6, .ptr 0 0 1)], [.cells [.p (.bool true)] 0, .dead]⟩) (cc := c75 ++ [.leaf .ret ⟨[(3, .p (.ref [.ref [.int .i64 p0.1, .sl (List.map e62 p0.2) false]])), (4, .p (.ref [.int .i64 p1])), (5, .p (.ref [.int .i64 p2])), (6, .ptr 0 0 1), (10, .p (.fn 64 [] [.ref [.ref [.int .i64 ((p0.1, p0.2).1), .sl (List.map e62 ((p0.1, p0.2).2)) false]]]))], [.cells [.p (.bool true)] 0, .dead]⟩])
      (ai (F47_ok fuel (p0.1, p0.2) _ h1) (ai (range_of (P := prog) (nt := 42) (m := 0) (n := 1) (c := codeAt [1, 0, 1, 0] (bodyOf f57)) (σ := ⟨[(3, .p (.ref [.ref [.int .i64 p0.1, .sl (List.map e62 p0.2) false]])), (4, .p (.ref [.int .i64 p1])), (5, .p (.ref [.int .i64 p2])), (6, .ptr 0 0 1), (10, .p (.fn 64 [] [.ref [.ref [.int .i64 ((p0.1, p0.2).1), .sl (List.map e62 ((p0.1, p0.2).2)) false]]]))], [.cells [.p (.bool false)] 0]⟩) (f := 64) (args := [.yld 1, .p (.ref [.ref [.int .i64 ((p0.1, p0.2).1), .sl (List.map e62 ((p0.1, p0.2).2)) false]])]) (H3 := [.cells [.p (.bool true)] 0, .dead]) (e := .ret) (s := 2) (R := R57_1_0_1_0) (R' := R57_1_0_1_0) (env' := [(3, .p (.ref [.ref [.int .i64 p0.1, .sl (List.map e62 p0.2) false]])), (4, .p (.ref [.int .i64 p1])), (5, .p (.ref [.int .i64 p2])), (6, .ptr 0 0 1)]) [3, 4, 5, 6] (by kernel_rfl) (by kernel_rfl) (by kernel_rfl) (by kernel_rfl) (G64_3_ok fuel ((p0.1, p0.2).1) ((p0.1, p0.2).2) false p0.1 p0.2 p1 p2 _ h2) (by kernel_rfl) rfl (by kernel_rfl)) trivial)) (by kernel_rfl)) (e := .ret) rfl (vs := [.p (.bool true)]) (ai (rfl : (1:Nat) = 1) trivial) (by kernel_rfl) (.p _ _ (.refl _))
  | .inr (y2), h2, g2 =>
    refine oif_elim g2 (fun h3 g3 => ?_) (fun h3 g3 => ?_)
    · subst h3
      have hr := Option.some.inj g3
      subst hr
      exact callP_of is57 rfl (path hm (ks := [6]) (σ' := ⟨[(6, .ptr 0 0 1)], [.cells [.p (.bool false)] 0, .dead]⟩) (cc := c75 ++ [.leaf .normal ⟨[(3, .p (.ref [.ref [.int .i64 p0.1, .sl (List.map e62 p0.2) false]])), (4, .p (.ref [.int .i64 p1])), (5, .p (.ref [.int .i64 p2])), (6, .ptr 0 0 1), (10, .p (.fn 64 [] [.ref [.ref [.int .i64 ((p0.1, p0.2).1), .sl (List.map e62 ((p0.1, p0.2).2)) false]]]))], [.cells [.p (.bool true)] 0, .dead]⟩, .reg [] [] 0 [] [6]])
      (ai (F47_ok fuel (p0.1, p0.2) _ h1) (ai (range_of (P := prog) (nt := 42) (m := 0) (n := 1) (c := codeAt [1, 0, 1, 0] (bodyOf f57)) (σ := ⟨[(3, .p (.ref [.ref [.int .i64 p0.1, .sl (List.map e62 p0.2) false]])), (4, .p (.ref [.int .i64 p1])), (5, .p (.ref [.int .i64 p2])), (6, .ptr 0 0 1), (10, .p (.fn 64 [] [.ref [.ref [.int .i64 ((p0.1, p0.2).1), .sl (List.map e62 ((p0.1, p0.2).2)) false]]]))], [.cells [.p (.bool false)] 0]⟩) (f := 64) (args := [.yld 1, .p (.ref [.ref [.int .i64 ((p0.1, p0.2).1), .sl (List.map e62 ((p0.1, p0.2).2)) false]])]) (H3 := [.cells [.p (.bool true)] 0, .dead]) (e := .normal) (s := 0) (R := R57_1_0_1_0) (R' := R57_1_0_1_0) (env' := [(3, .p (.ref [.ref [.int .i64 p0.1, .sl (List.map e62 p0.2) false]])), (4, .p (.ref [.int .i64 p1])), (5, .p (.ref [.int .i64 p2])), (6, .ptr 0 0 1)]) [3, 4, 5, 6] (by kernel_rfl) (by kernel_rfl) (by kernel_rfl) (by kernel_rfl) (G64_3_ok fuel ((p0.1, p0.2).1) ((p0.1, p0.2).2) false p0.1 p0.2 p1 p2 _ h2) (by kernel_rfl) rfl (by kernel_rfl)) trivial)) (by kernel_rfl)) (e := .ret) rfl (vs := [.p (.bool false)]) (ai (rfl : (1:Nat) = 1) trivial) (by kernel_rfl) (.p _ _ (.refl _))
    · subst h3
      have hr := Option.some.inj g3
      subst hr
      exact callP_of is57 rfl (path hm (ks := [6]) (σ' := ⟨[(6, .ptr 0 0 1)], [.cells [.p (.bool false)] 0, .dead]⟩) (cc := c75 ++ [.leaf .normal ⟨[(3, .p (.ref [.ref [.int .i64 p0.1, .sl (List.map e62 p0.2) false]])), (4, .p (.ref [.int .i64 p1])), (5, .p (.ref [.int .i64 p2])), (6, .ptr 0 0 1), (10, .p (.fn 64 [] [.ref [.ref [.int .i64 ((p0.1, p0.2).1), .sl (List.map e62 ((p0.1, p0.2).2)) false]]]))], [.cells [.p (.bool false)] 0, .dead]⟩, .reg [] [] 0 [] [6]])
      (ai (F47_ok fuel (p0.1, p0.2) _ h1) (ai (range_of (P := prog) (nt := 42) (m := 0) (n := 1) (c := codeAt [1, 0, 1, 0] (bodyOf f57)) (σ := ⟨[(3, .p (.ref [.ref [.int .i64 p0.1, .sl (List.map e62 p0.2) false]])), (4, .p (.ref [.int .i64 p1])), (5, .p (.ref [.int .i64 p2])), (6, .ptr 0 0 1), (10, .p (.fn 64 [] [.ref [.ref [.int .i64 ((p0.1, p0.2).1), .sl (List.map e62 ((p0.1, p0.2).2)) false]]]))], [.cells [.p (.bool false)] 0]⟩) (f := 64) (args := [.yld 1, .p (.ref [.ref [.int .i64 ((p0.1, p0.2).1), .sl (List.map e62 ((p0.1, p0.2).2)) false]])]) (H3 := [.cells [.p (.bool false)] 0, .dead]) (e := .normal) (s := 0) (R := R57_1_0_1_0) (R' := R57_1_0_1_0) (env' := [(3, .p (.ref [.ref [.int .i64 p0.1, .sl (List.map e62 p0.2) false]])), (4, .p (.ref [.int .i64 p1])), (5, .p (.ref [.int .i64 p2])), (6, .ptr 0 0 1)]) [3, 4, 5, 6] (by kernel_rfl) (by kernel_rfl) (by kernel_rfl) (by kernel_rfl) (G64_3_ok fuel ((p0.1, p0.2).1) ((p0.1, p0.2).2) false p0.1 p0.2 p1 p2 _ h2) (by kernel_rfl) rfl (by kernel_rfl)) trivial)) (by kernel_rfl)) (e := .ret) rfl (vs := [.p (.bool false)]) (ai (rfl : (1:Nat) = 1) trivial) (by kernel_rfl) (.p _ _ (.refl _))
def L30_2  (v1 : Int) (v6 : Int) (v6_1 : (List (Int × Int))) (v34 : Int) : Nat → Int → (List Int) → Option (List Int)
  | 0, _, _ => none
  | fuel + 1, v35, w0 =>
    oif ((decide (v35 < v34)))
    (obind (F57 fuel (v6, v6_1) v1 v35) fun r1 => oif (r1)
      (oif (decide (((List.length w0) + 1) * 8 ≤ 140737488355328)) (L30_2 v1 v6 v6_1 v34 fuel (IntKind.wrap .i64 (v35 + 1)) (w0 ++ [v35])) none)
      (L30_2 v1 v6 v6_1 v34 fuel (IntKind.wrap .i64 (v35 + 1)) w0))
    (some (w0))
noncomputable def L30_2_post (v1 : Int) (v6 : Int) (v6_1 : (List (Int × Int))) (v34 : Int)  : (List Int) → Ex × St
  | y => ((.exit 1), ⟨[(8, .msl 0 0 (List.length y) (List.length (rowI e3 y)) false)], [.cells (rowI e3 y) 1]⟩)
theorem L30_2_ok  (v1 : Int) (v6 : Int) (v6_1 : (List (Int × Int))) (v34 : Int)  : ∀ (fuel : Nat) (v35 : Int) (w0 : (List Int)) (r : (List Int)), L30_2 v1 v6 v6_1 v34 fuel v35 w0 = some r →
    SemJ prog ⟨48, 0, false⟩ (codeAt [1, 1, 1, 1, 0, 1, 0, 0] (bodyOf f30)) ⟨[(1, .p (.int .i64 v1)), (6, .p (.ref [.int .i64 v6, .sl (List.map e62 v6_1) false])), (8, .msl 0 0 (List.length w0) (List.length (rowI e3 w0)) false), (34, .p (.int .i64 v34)), (35, .p (.int .i64 v35))], [.cells (rowI e3 w0) 1]⟩ (L30_2_post v1 v6 v6_1 v34 r).1 (L30_2_post v1 v6 v6_1 v34 r).2
  | 0, _, _, _, h => nomatch h
  | fuel + 1, v35, w0, r, h => by
    unfold L30_2 at h
    refine oif_elim h (fun h1 g1 => ?_) (fun h1 g1 => ?_)
    · refine obind_elim g1 fun r1 h2 g2 => ?_
      let c77 : List CC := [.reg [] [] 0 [(0, none, .b true)] [1, 6, 8, 34, 35, 36], .reg [] [] 0 [] [1, 6, 8, 9, 34, 35]]
      refine oif_elim g2 (fun h3 g3 => ?_) (fun h3 g3 => ?_)
      · subst h3
        refine oif_elim g3 (fun h4 g4 => ?_) (fun _ h => nomatch h)
        exact SemJ.again (σ1 := ⟨[(1, .p (.int .i64 v1)), (6, .p (.ref [.int .i64 v6, .sl (List.map e62 v6_1) false])), (8, .msl 0 0 (List.length (w0 ++ [v35])) (List.length (rowI e3 (w0 ++ [v35]))) false), (34, .p (.int .i64 v34)), (35, .p (.int .i64 (IntKind.wrap .i64 (v35 + 1))))], [.cells (rowI e3 (w0 ++ [v35])) 1]⟩) (path hm (σ' := ⟨[(1, .p (.int .i64 v1)), (6, .p (.ref [.int .i64 v6, .sl (List.map e62 v6_1) false])), (8, .msl 0 0 (List.length (w0 ++ [v35])) (List.length (rowI e3 (w0 ++ [v35]))) false), (34, .p (.int .i64 v34)), (35, .p (.int .i64 (IntKind.wrap .i64 (v35 + 1))))], [.cells (rowI e3 (w0 ++ [v35])) 1]⟩) (ks := [1, 6, 8, 34, 35]) (cc := c77 ++ [.reg [] [] 0 [(3, none, .call (.bool true))] [1, 6, 8, 9, 34, 35, 41], .reg [] [] 0 [(3, none, .ap (rowI e3 (w0 ++ [v35])) (List.length (w0 ++ [v35])) (List.length (rowI e3 (w0 ++ [v35]))))] [1, 6, 8, 34, 35], .reg [] [] 0 [] [1, 6, 8, 34, 35]])
        (ai h1 (ai (F57_ok fuel (v6, v6_1) v1 v35 _ h2) (ai (by decide : 0 < 1) (ai (od h4) (ai (app_c2 (by decide) (od h4)) (ai (app_len e3 [v35] (rl (List.length w0))) (ai (rl (List.length (rowI e3 (w0 ++ [v35])))) (ai (row_app e3 w0 [v35]) (ai (rl (List.length (rowI e3 w0))) (ai (row_sz el3 (rl (List.length (rowI e3 w0))) (rl (List.length w0))) (ai (row_sc el3 [v35]) (ai (row_es el3 [v35]) trivial)))))))))))) (by kernel_rfl)) (L30_2_ok v1 v6 v6_1 v34 fuel (IntKind.wrap .i64 (v35 + 1)) (w0 ++ [v35]) _ g4)
      · subst h3
        exact SemJ.again (σ1 := ⟨[(1, .p (.int .i64 v1)), (6, .p (.ref [.int .i64 v6, .sl (List.map e62 v6_1) false])), (8, .msl 0 0 (List.length w0) (List.length (rowI e3 w0)) false), (34, .p (.int .i64 v34)), (35, .p (.int .i64 (IntKind.wrap .i64 (v35 + 1))))], [.cells (rowI e3 w0) 1]⟩) (path hm (σ' := ⟨[(1, .p (.int .i64 v1)), (6, .p (.ref [.int .i64 v6, .sl (List.map e62 v6_1) false])), (8, .msl 0 0 (List.length w0) (List.length (rowI e3 w0)) false), (34, .p (.int .i64 v34)), (35, .p (.int .i64 (IntKind.wrap .i64 (v35 + 1))))], [.cells (rowI e3 w0) 1]⟩) (ks := [1, 6, 8, 34, 35]) (cc := c77 ++ [.reg [] [] 0 [(3, none, .call (.bool false))] [1, 6, 8, 9, 34, 35, 41], .reg [] [] 0 [] [1, 6, 8, 34, 35]])
        (ai h1 (ai (F57_ok fuel (v6, v6_1) v1 v35 _ h2) trivial)) (by kernel_rfl)) (L30_2_ok v1 v6 v6_1 v34 fuel (IntKind.wrap .i64 (v35 + 1)) w0 _ g3)
    · have hr := Option.some.inj g1
      subst hr
      exact SemC.cast (SemJ.out (e := (.exit 1)) (path hm (σ' := ⟨[(8, .msl 0 0 (List.length w0) (List.length (rowI e3 w0)) false)], [.cells (rowI e3 w0) 1]⟩) (ks := [8]) (cc := [.reg [] [] 0 [(0, none, .b false)] [1, 6, 8, 34, 35, 36]])
        (ai h1 trivial) (by kernel_rfl)) (by simp)) (by kernel_rfl) (by kernel_rfl)
def L30_0  (v1 : Int) (v6 : Int) (v6_1 : (List (Int × Int))) (v34 : Int) : Nat → Int → Option (List Int)
  | 0, _ => none
  | fuel + 1, v35 =>
    oif ((decide (v35 < v34)))
    (obind (F57 fuel (v6, v6_1) v1 v35) fun r1 => oif (r1)
      (oif (decide (1 * 8 ≤ 140737488355328)) (obind (L30_2 v1 v6 v6_1 v34 fuel (IntKind.wrap .i64 (v35 + 1)) [v35]) fun y2 => some (y2)) none)
      (L30_0 v1 v6 v6_1 v34 fuel (IntKind.wrap .i64 (v35 + 1))))
    (some (([] : List Int)))
noncomputable def L30_0_post (v1 : Int) (v6 : Int) (v6_1 : (List (Int × Int))) (v34 : Int)  : (List Int) → Ex × St
  | y => ((.exit 1), ⟨[(8, .p (.sl (List.map e3 y) false))], []⟩)
theorem L30_0_ok  (v1 : Int) (v6 : Int) (v6_1 : (List (Int × Int))) (v34 : Int)  : ∀ (fuel : Nat) (v35 : Int) (r : (List Int)), L30_0 v1 v6 v6_1 v34 fuel v35 = some r →
    SemJ prog ⟨48, 0, false⟩ (codeAt [1, 1, 1, 1, 0, 1, 0, 0] (bodyOf f30)) ⟨[(1, .p (.int .i64 v1)), (6, .p (.ref [.int .i64 v6, .sl (List.map e62 v6_1) false])), (8, .p (.nilsl)), (34, .p (.int .i64 v34)), (35, .p (.int .i64 v35))], []⟩ (L30_0_post v1 v6 v6_1 v34 r).1 (L30_0_post v1 v6 v6_1 v34 r).2
  | 0, _, _, h => nomatch h
  | fuel + 1, v35, r, h => by
    unfold L30_0 at h
    refine oif_elim h (fun h1 g1 => ?_) (fun h1 g1 => ?_)
    · refine obind_elim g1 fun r1 h2 g2 => ?_
      let c78 : List CC := [.reg [] [] 0 [(0, none, .b true)] [1, 6, 8, 34, 35, 36], .reg [] [] 0 [] [1, 6, 8, 9, 34, 35]]
      refine oif_elim g2 (fun h3 g3 => ?_) (fun h3 g3 => ?_)
      · subst h3
        refine oif_elim g3 (fun h4 g4 => ?_) (fun _ h => nomatch h)
        refine obind_elim g4 fun y2 h5 g5 => ?_
        have hr := Option.some.inj g5
        subst hr
        exact SemC.cast (SemJ.again (σ1 := ⟨[(1, .p (.int .i64 v1)), (6, .p (.ref [.int .i64 v6, .sl (List.map e62 v6_1) false])), (8, .msl 0 0 (List.length [v35]) (List.length (rowI e3 [v35])) false), (34, .p (.int .i64 v34)), (35, .p (.int .i64 (IntKind.wrap .i64 (v35 + 1))))], [.cells (rowI e3 [v35]) 1]⟩) (path hm (σ' := ⟨[(1, .p (.int .i64 v1)), (6, .p (.ref [.int .i64 v6, .sl (List.map e62 v6_1) false])), (8, .msl 0 0 (List.length [v35]) (List.length (rowI e3 [v35])) false), (34, .p (.int .i64 v34)), (35, .p (.int .i64 (IntKind.wrap .i64 (v35 + 1))))], [.cells (rowI e3 [v35]) 1]⟩) (ks := [1, 6, 8, 34, 35]) (cc := c78 ++ [.reg [] [] 0 [(3, none, .call (.bool true))] [1, 6, 8, 9, 34, 35, 41], .reg [] [] 1 [(3, some 0, .ap (rowI e3 [v35]) (List.length [v35]) (List.length (rowI e3 [v35])))] [1, 6, 8, 34, 35], .reg [] [] 0 [] [1, 6, 8, 34, 35]])
        (ai h1 (ai (F57_ok fuel (v6, v6_1) v1 v35 _ h2) (ai (by decide : 0 < 1) (ai (od h4) (ai (app_c0 (by decide) (od h4)) (ai (rl (List.length [v35])) (ai (rl (List.length (rowI e3 [v35]))) (ai (row_src e3 [v35]) (ai (row_sc el3 [v35]) (ai (row_es el3 [v35]) trivial)))))))))) (by kernel_rfl)) (SemC.post (L30_2_ok v1 v6 v6_1 v34 fuel (IntKind.wrap .i64 (v35 + 1)) [v35] _ h5) (Weak.trans (wcast (Weak.freeze (E := [(8, .msl 0 0 (List.length y2) (List.length (rowI e3 y2)) false)]) (E' := [(8, .p (.sl (List.map e3 y2) false))]) (H := [.cells (rowI e3 y2) 1]) [0] (by kernel_rfl) (.snap _ _ _ _ _ (snap_row (g := 1) (L := y2) el3 (by kernel_rfl) (rl (List.length (rowI e3 y2))) (rl (List.length y2))) .nil)) (by kernel_rfl : (⟨[(8, .p (.sl (List.map e3 y2) false))], puts (dieW [0]) [.cells (rowI e3 y2) 1]⟩ : St) = ⟨[(8, .p (.sl (List.map e3 y2) false))], [.dead]⟩)) (Weak.sel (E := [(8, .p (.sl (List.map e3 y2) false))]) (E' := [(8, .p (.sl (List.map e3 y2) false))]) (H := [.dead]) (H' := []) [] trivial (by kernel_rfl) (by kernel_rfl))))) (by kernel_rfl) (by kernel_rfl)
      · subst h3
        exact SemJ.again (σ1 := ⟨[(1, .p (.int .i64 v1)), (6, .p (.ref [.int .i64 v6, .sl (List.map e62 v6_1) false])), (8, .p (.nilsl)), (34, .p (.int .i64 v34)), (35, .p (.int .i64 (IntKind.wrap .i64 (v35 + 1))))], []⟩) (path hm (σ' := ⟨[(1, .p (.int .i64 v1)), (6, .p (.ref [.int .i64 v6, .sl (List.map e62 v6_1) false])), (8, .p (.nilsl)), (34, .p (.int .i64 v34)), (35, .p (.int .i64 (IntKind.wrap .i64 (v35 + 1))))], []⟩) (ks := [1, 6, 8, 34, 35]) (cc := c78 ++ [.reg [] [] 0 [(3, none, .call (.bool false))] [1, 6, 8, 9, 34, 35, 41], .reg [] [] 0 [] [1, 6, 8, 34, 35]])
        (ai h1 (ai (F57_ok fuel (v6, v6_1) v1 v35 _ h2) trivial)) (by kernel_rfl)) (L30_0_ok v1 v6 v6_1 v34 fuel (IntKind.wrap .i64 (v35 + 1)) _ g3)
    · have hr := Option.some.inj g1
      subst hr
      exact SemC.cast (SemJ.out (e := (.exit 1)) (SemC.post (path hm (σ' := ⟨[(8, .p (.nilsl))], []⟩) (ks := [8]) (cc := [.reg [] [] 0 [(0, none, .b false)] [1, 6, 8, 34, 35, 36]])
        (ai h1 trivial) (by kernel_rfl)) (wcast (Weak.freeze (E := [(8, .p (.nilsl))]) (E' := [(8, .p (.sl (List.map e3 ([] : List Int)) false))]) (H := []) [] (by kernel_rfl) (.snap _ _ _ _ _ (.p _ _ (.nil _)) .nil)) (by kernel_rfl : (⟨[(8, .p (.sl (List.map e3 ([] : List Int)) false))], puts (dieW []) []⟩ : St) = ⟨[(8, .p (.sl (List.map e3 ([] : List Int)) false))], []⟩))) (by simp)) (by kernel_rfl) (by kernel_rfl)
def F30  (fuel : Nat) (p0 : (Int × (List (Int × Int)))) (p1 : Int) : Option ((List Int) × Int) :=
  (obind (F39 fuel (p0.1, p0.2)) fun y1 => match y1 with
  | .inl y1 => oif ((y1 != 0))
    (some ([], y1))
    (none)
  | .inr (y1) => obind (F44 fuel 0 (IntKind.wrap .i64 ((p0.1, p0.2).1 - 1)) [p1]) fun r2 => oif (r2)
    (obind (L30_0 p1 ((p0.1, p0.2).1) ((p0.1, p0.2).2) ((p0.1, p0.2).1) fuel 0) fun y3 => some (y3, 0))
    (some ([], 2)))
theorem F30_ok  (fuel : Nat) (p0 : (Int × (List (Int × Int)))) (p1 : Int)  (r : ((List Int) × Int)) (h : F30 fuel p0 p1 = some r) : CallP prog 30 [.agg [.int .i64 p0.1, .sl (List.map e62 p0.2) false], .int .i64 p1] (.tup [.sl (List.map e3 r.1) false, .int .i64 r.2]) := by
  unfold F30 at h
  refine obind_elim h fun y h1 g1 => ?_
  match y, h1, g1 with
  | .inl y1, h1, g1 =>
    refine oif_elim g1 (fun h2 g2 => ?_) (fun h2 g2 => ?_)
    · have hr := Option.some.inj g2
      subst hr
      exact callP_of is30 rfl (path hm (ks := [4, 5]) (σ' := ⟨[(4, .p (.nilsl)), (5, .p (.int .i64 y1))], []⟩) (cc := [.reg [] [] 0 [(0, none, .imm)] [1, 2], .reg [] [] 0 [(1, none, .call (.tup [.nilp, .int .i64 y1]))] [1, 6, 7], .reg [] [] 0 [(1, none, .b true)] [1, 6, 7, 15], .reg [] [] 0 [] [4, 5]])
      (ai (F39_ok fuel (p0.1, p0.2) _ h1) (ai h2 trivial)) (by kernel_rfl)) (e := .ret) rfl (vs := [.p (.nilsl), .p (.int .i64 y1)]) trivial (by kernel_rfl) (.tup _ _ (.cons _ _ _ _ (.p _ _ (.nil _)) (.cons _ _ _ _ (.p _ _ (.refl _)) .nil)))
    · exact nomatch g2
  | .inr (y1), h1, g1 =>
    refine obind_elim g1 fun r2 h2 g2 => ?_
    let c79 : List CC := [.reg [] [] 0 [(0, none, .imm)] [1, 2], .reg [] [] 0 [(1, none, .call (.tup [.ref [.int .i64 ((p0.1, p0.2).1), .sl (List.map e62 ((p0.1, p0.2).2)) false], .int .i64 0]))] [1, 6, 7], .reg [] [] 0 [] [1, 6, 7, 15]]
    have q80 := fun {P : Prop} (t : P) => ai (F39_ok fuel (p0.1, p0.2) _ h1) (ai (F44_ok fuel 0 (IntKind.wrap .i64 ((p0.1, p0.2).1 - 1)) [p1] true _ h2) t)
    refine oif_elim g2 (fun h3 g3 => ?_) (fun h3 g3 => ?_)
    · subst h3
      refine obind_elim g3 fun y3 h4 g4 => ?_
      have hr := Option.some.inj g4
      subst hr
      exact callP_of is30 rfl (path hm (ks := [4, 5]) (σ' := ⟨[(4, .p (.sl (List.map e3 y3) false)), (5, .p (.int .i64 0))], []⟩) (cc := c79 ++ [.reg [] [] 0 [(8, none, .call (.bool true))] [1, 6, 19], .reg [] [] 0 [] [1, 6, 8], .reg [] [] 0 [] [1, 6, 8, 34, 35], .leaf (.exit 1) ⟨[(8, .p (.sl (List.map e3 y3) false))], []⟩, .reg [] [] 0 [] [4, 5]])
      (q80 (ai (SemJ.loop (L30_0_ok p1 ((p0.1, p0.2).1) ((p0.1, p0.2).2) ((p0.1, p0.2).1) fuel 0 _ h4)) trivial)) (by kernel_rfl)) (e := .ret) rfl (vs := [.p (.sl (List.map e3 y3) false), .p (.int .i64 0)]) trivial (by kernel_rfl) (.tup _ _ (.cons _ _ _ _ (.p _ _ (.refl _)) (.cons _ _ _ _ (.p _ _ (.refl _)) .nil)))
    · subst h3
      have hr := Option.some.inj g3
      subst hr
      exact callP_of is30 rfl (path hm (ks := [4, 5]) (σ' := ⟨[(4, .p (.nilsl)), (5, .p (.int .i64 2))], []⟩) (cc := c79 ++ [.reg [] [] 0 [(8, none, .call (.bool false))] [1, 6, 19], .reg [] [] 0 [] [4, 5]])
      (q80 trivial) (by kernel_rfl)) (e := .ret) rfl (vs := [.p (.nilsl), .p (.int .i64 2)]) trivial (by kernel_rfl) (.tup _ _ (.cons _ _ _ _ (.p _ _ (.nil _)) (.cons _ _ _ _ (.p _ _ (.refl _)) .nil)))
def L32_0  (v4 : Int) (v4_1 : (List (Int × Int))) (v35 : (List (Int × Int))) (v36 : Int) (w1 : Int) : Nat → Int → (List (Int × Int)) → Option (List (Int × Int))
  | 0, _, _ => none
  | fuel + 1, v37, w2 =>
    oif ((decide (v37 < v36)))
    (obind (sg v35 v37) fun x1 => oif (decide ((0:Int) ≤ v37)) (oif (decide ((v37 : Int) < (((List.length w2) : Nat) : Int))) (obind (stL w2 v37 ((IntKind.wrap .i64 ((IntKind.wrap .i64 (v4 - 1)) - x1.2)), (IntKind.wrap .i64 ((IntKind.wrap .i64 (v4 - 1)) - x1.1)))) fun x2 => L32_0 v4 v4_1 v35 v36 w1 fuel (IntKind.wrap .i64 (v37 + 1)) x2) none) none)
    (some (w2))
noncomputable def L32_0_post (v4 : Int) (v4_1 : (List (Int × Int))) (v35 : (List (Int × Int))) (v36 : Int) (w1 : Int)  : (List (Int × Int)) → Ex × St
  | y => ((.exit 0), ⟨[(2, .ptr 0 0 2), (6, .ptr 1 0 2)], [.cells [.p (.int .i64 0), .p (.nilsl)] 0, .cells [.p (.int .i64 w1), .msl 2 0 (List.length y) (List.length (rowI e62 y)) true] 0, .cells (rowI e62 y) 2]⟩)
theorem L32_0_ok  (v4 : Int) (v4_1 : (List (Int × Int))) (v35 : (List (Int × Int))) (v36 : Int) (w1 : Int)  : ∀ (fuel : Nat) (v37 : Int) (w2 : (List (Int × Int))) (r : (List (Int × Int))), L32_0 v4 v4_1 v35 v36 w1 fuel v37 w2 = some r →
    SemJ prog ⟨67, 0, false⟩ (codeAt [1, 1, 1, 1, 0, 1, 0, 0] (bodyOf f32)) ⟨[(2, .ptr 0 0 2), (4, .p (.ref [.int .i64 v4, .sl (List.map e62 v4_1) false])), (6, .ptr 1 0 2), (35, .p (.sl (List.map e62 v35) false)), (36, .p (.int .i64 v36)), (37, .p (.int .i64 v37))], [.cells [.p (.int .i64 0), .p (.nilsl)] 0, .cells [.p (.int .i64 w1), .msl 2 0 (List.length w2) (List.length (rowI e62 w2)) true] 0, .cells (rowI e62 w2) 2]⟩ (L32_0_post v4 v4_1 v35 v36 w1 r).1 (L32_0_post v4 v4_1 v35 v36 w1 r).2
  | 0, _, _, _, h => nomatch h
  | fuel + 1, v37, w2, r, h => by
    unfold L32_0 at h
    refine oif_elim h (fun h1 g1 => ?_) (fun h1 g1 => ?_)
    · refine obind_elim g1 fun x1 h2 g2 => ?_
      refine oif_elim g2 (fun h3 g3 => ?_) (fun _ h => nomatch h)
      refine oif_elim g3 (fun h4 g4 => ?_) (fun _ h => nomatch h)
      refine obind_elim g4 fun x2 h5 g5 => ?_
      exact SemJ.again (σ1 := ⟨[(2, .ptr 0 0 2), (4, .p (.ref [.int .i64 v4, .sl (List.map e62 v4_1) false])), (6, .ptr 1 0 2), (35, .p (.sl (List.map e62 v35) false)), (36, .p (.int .i64 v36)), (37, .p (.int .i64 (IntKind.wrap .i64 (v37 + 1))))], [.cells [.p (.int .i64 0), .p (.nilsl)] 0, .cells [.p (.int .i64 w1), .msl 2 0 (List.length x2) (List.length (rowI e62 x2)) true] 0, .cells (rowI e62 x2) 2]⟩) (SemC.post (path hm (σ' := ⟨[(2, .ptr 0 0 2), (4, .p (.ref [.int .i64 v4, .sl (List.map e62 v4_1) false])), (6, .ptr 1 0 2), (35, .p (.sl (List.map e62 v35) false)), (36, .p (.int .i64 v36)), (37, .p (.int .i64 (IntKind.wrap .i64 (v37 + 1))))], [.cells [.p (.int .i64 0), .p (.nilsl)] 0, .cells [.p (.int .i64 w1), .msl 2 0 (List.length w2) (List.length (rowI e62 w2)) true] 0, .cells (rowI e62 x2) 2, .cells [.p (.int .i64 x1.1), .p (.int .i64 x1.2)] 0]⟩) (ks := [2, 4, 6, 35, 36, 37]) (cc := [.reg [] [] 0 [(0, none, .b true)] [2, 4, 6, 35, 36, 37, 38], .reg [] [] 1 [(1, none, .iv (.p (.agg [.int .i64 x1.1, .int .i64 x1.2]))), (3, some 3, .a)] [2, 4, 6, 7, 8, 35, 36, 37], .reg [0, 1, 0, 0, 8, 24, 56, 120, 248, 0, 512, 2040, 0, 4096, 12288, 28672, 61440, 126976, 0, 262144, 1044480, 2097144, 4194303, 8388607] [(2, 23)] 0 [(23, none, .cs (rowI e62 x2))] [2, 4, 6, 35, 36, 37], .reg [] [] 0 [] [2, 4, 6, 35, 36, 37]])
        (ai h1 (ai (sg_map (f := e62) h2) (ai (by decide : (0:Int) ≤ 1) (ai (by decide : (1:Int) < ((2:Nat):Int)) (ai (by decide : (0:Int) ≤ 0) (ai (by decide : (0:Int) < ((2:Nat):Int)) (ai (od h3) (ai (od h4) (ai (rl (List.length (rowI e62 w2))) (ai (Nat.le_trans (row_fit el62 (stL_0 h5) (stL_lt h5)) (Nat.le_of_eq (rl (List.length (rowI e62 w2))))) (ai (row_put el62 h5) trivial))))))))))) (by kernel_rfl)) (Weak.trans (Weak.trans (Weak.sel (E := [(2, .ptr 0 0 2), (4, .p (.ref [.int .i64 v4, .sl (List.map e62 v4_1) false])), (6, .ptr 1 0 2), (35, .p (.sl (List.map e62 v35) false)), (36, .p (.int .i64 v36)), (37, .p (.int .i64 (IntKind.wrap .i64 (v37 + 1))))]) (E' := [(2, .ptr 0 0 2), (4, .p (.ref [.int .i64 v4, .sl (List.map e62 v4_1) false])), (6, .ptr 1 0 2), (35, .p (.sl (List.map e62 v35) false)), (36, .p (.int .i64 v36)), (37, .p (.int .i64 (IntKind.wrap .i64 (v37 + 1))))]) (H := [.cells [.p (.int .i64 0), .p (.nilsl)] 0, .cells [.p (.int .i64 w1), .msl 2 0 (List.length w2) (List.length (rowI e62 w2)) true] 0, .cells (rowI e62 x2) 2, .cells [.p (.int .i64 x1.1), .p (.int .i64 x1.2)] 0]) (H' := [.cells [.p (.int .i64 0), .p (.nilsl)] 0, .cells [.p (.int .i64 w1), .msl 2 0 (List.length w2) (List.length (rowI e62 w2)) true] 0, .cells (rowI e62 x2) 2]) [0, 1, 2] (selH_cons (o := .cells [.p (.int .i64 0), .p (.nilsl)] 0) (o' := .cells [.p (.int .i64 0), .p (.nilsl)] 0) (by kernel_rfl) (sel_x (by kernel_rfl)) (selH_cons (o := .cells [.p (.int .i64 w1), .msl 2 0 (List.length w2) (List.length (rowI e62 w2)) true] 0) (o' := .cells [.p (.int .i64 w1), .msl 2 0 (List.length w2) (List.length (rowI e62 w2)) true] 0) (by kernel_rfl) (sel_x (by kernel_rfl)) (selH_cons (o := .cells (rowI e62 x2) 2) (o' := .cells (rowI e62 x2) 2) (by kernel_rfl) sel_row trivial))) (by kernel_rfl) (by kernel_rfl)) (Weak.eq (congrArg (fun ZZ : Nat => (⟨[(2, .ptr 0 0 2), (4, .p (.ref [.int .i64 v4, .sl (List.map e62 v4_1) false])), (6, .ptr 1 0 2), (35, .p (.sl (List.map e62 v35) false)), (36, .p (.int .i64 v36)), (37, .p (.int .i64 (IntKind.wrap .i64 (v37 + 1))))], [.cells [.p (.int .i64 0), .p (.nilsl)] 0, .cells [.p (.int .i64 w1), .msl 2 0 ZZ (List.length (rowI e62 w2)) true] 0, .cells (rowI e62 x2) 2]⟩ : St)) (Eq.symm ((stL_len h5).trans (rl (List.length w2))))))) (Weak.eq (congrArg (fun ZZ : Nat => (⟨[(2, .ptr 0 0 2), (4, .p (.ref [.int .i64 v4, .sl (List.map e62 v4_1) false])), (6, .ptr 1 0 2), (35, .p (.sl (List.map e62 v35) false)), (36, .p (.int .i64 v36)), (37, .p (.int .i64 (IntKind.wrap .i64 (v37 + 1))))], [.cells [.p (.int .i64 0), .p (.nilsl)] 0, .cells [.p (.int .i64 w1), .msl 2 0 (List.length x2) ZZ true] 0, .cells (rowI e62 x2) 2]⟩ : St)) (Eq.symm ((row_setlen el62 h5).trans (rl (List.length (rowI e62 w2))))))))) (L32_0_ok v4 v4_1 v35 v36 w1 fuel (IntKind.wrap .i64 (v37 + 1)) x2 _ g5)
    · have hr := Option.some.inj g1
      subst hr
      exact SemC.cast (SemJ.out (e := (.exit 0)) (path hm (σ' := ⟨[(2, .ptr 0 0 2), (6, .ptr 1 0 2)], [.cells [.p (.int .i64 0), .p (.nilsl)] 0, .cells [.p (.int .i64 w1), .msl 2 0 (List.length w2) (List.length (rowI e62 w2)) true] 0, .cells (rowI e62 w2) 2]⟩) (ks := [2, 6]) (cc := [.reg [] [] 0 [(0, none, .b false)] [2, 4, 6, 35, 36, 37, 38]])
        (ai h1 trivial) (by kernel_rfl)) (by simp)) (by kernel_rfl) (by kernel_rfl)
def F32  (fuel : Nat) (p0 : (Int × (List (Int × Int)))) : Option ((Int × (List (Int × Int))) × Int) :=
  (obind (F39 fuel (p0.1, p0.2)) fun y1 => match y1 with
  | .inl y1 => oif ((y1 != 0))
    (some ((0, []), y1))
    (none)
  | .inr (y1) => oif (decide ((0:Int) ≤ (((p0.1, p0.2).2).length : Int))) (oif (decide (((16 : Nat) : Int) * (((p0.1, p0.2).2).length : Int) ≤ 281474976710656)) (oif (decide (((((p0.1, p0.2).2).length : Int) : Int) ≤ 9223372036854775807)) (obind (L32_0 ((p0.1, p0.2).1) ((p0.1, p0.2).2) ((p0.1, p0.2).2) (((p0.1, p0.2).2).length : Int) ((p0.1, p0.2).1) fuel 0 (List.replicate (Int.toNat (((p0.1, p0.2).2).length : Int)) ((0, 0) : (Int × Int)))) fun y2 => some ((((p0.1, p0.2).1), y2), 0)) none) none) none)
theorem F32_ok  (fuel : Nat) (p0 : (Int × (List (Int × Int))))  (r : ((Int × (List (Int × Int))) × Int)) (h : F32 fuel p0 = some r) : CallP prog 32 [.agg [.int .i64 p0.1, .sl (List.map e62 p0.2) false]] (.tup [.agg [.int .i64 r.1.1, .sl (List.map e62 r.1.2) false], .int .i64 r.2]) := by
  unfold F32 at h
  refine obind_elim h fun y h1 g1 => ?_
  match y, h1, g1 with
  | .inl y1, h1, g1 =>
    refine oif_elim g1 (fun h2 g2 => ?_) (fun h2 g2 => ?_)
    · have hr := Option.some.inj g2
      subst hr
      exact callP_of is32 rfl (path hm (ks := [2, 3]) (σ' := ⟨[(2, .ptr 0 0 2), (3, .p (.int .i64 y1))], [.cells [.p (.int .i64 0), .p (.nilsl)] 0]⟩) (cc := [.reg [] [] 1 [(0, none, .imm), (1, some 0, .a)] [1, 2], .reg [] [] 0 [(1, none, .call (.tup [.nilp, .int .i64 y1]))] [2, 4, 5], .reg [] [] 0 [(1, none, .b true)] [2, 4, 5, 15], .reg [] [] 0 [] [2, 3]])
      (ai (F39_ok fuel (p0.1, p0.2) _ h1) (ai h2 trivial)) (by kernel_rfl)) (e := .ret) rfl (vs := [.agg [.p (.int .i64 0), .p (.nilsl)], .p (.int .i64 y1)]) (ai (rfl : (2:Nat) = 2) (ai (by decide : (2:Nat) ≤ 2) trivial)) (by kernel_rfl) (.tup _ _ (.cons _ _ _ _ (.agg _ _ (.cons _ _ _ _ (.p _ _ (.refl _)) (.cons _ _ _ _ (.p _ _ (.nil _)) .nil))) (.cons _ _ _ _ (.p _ _ (.refl _)) .nil)))
    · exact nomatch g2
  | .inr (y1), h1, g1 =>
    refine oif_elim g1 (fun h2 g2 => ?_) (fun _ h => nomatch h)
    refine oif_elim g2 (fun h3 g3 => ?_) (fun _ h => nomatch h)
    refine oif_elim g3 (fun h4 g4 => ?_) (fun _ h => nomatch h)
    refine obind_elim g4 fun y2 h5 g5 => ?_
    have hr := Option.some.inj g5
    subst hr
    exact callP_of is32 rfl (path hm (ks := [2, 3]) (σ' := ⟨[(2, .ptr 0 0 2), (3, .p (.int .i64 0))], [.cells [.p (.int .i64 ((p0.1, p0.2).1)), .msl 2 0 (List.length y2) (List.length (rowI e62 y2)) true] 0, .cells [.p (.int .i64 ((p0.1, p0.2).1)), .msl 2 0 (List.length y2) (List.length (rowI e62 y2)) true] 0, .cells (rowI e62 y2) 2]⟩) (cc := [.reg [] [] 1 [(0, none, .imm), (1, some 0, .a)] [1, 2], .reg [] [] 0 [(1, none, .call (.tup [.ref [.int .i64 ((p0.1, p0.2).1), .sl (List.map e62 ((p0.1, p0.2).2)) false], .int .i64 0]))] [2, 4, 5], .reg [] [] 0 [] [2, 4, 5, 15], .reg [0, 1, 3, 7, 15, 0, 32, 96, 224, 480, 992, 2016, 4095, 0, 16383] [(1, 11), (2, 13), (2, 14)] 2 [(10, none, .n (((p0.1, p0.2).2).length : Int)), (11, some 1, .ap (rowI e62 (List.replicate (Int.toNat (((p0.1, p0.2).2).length : Int)) ((0, 0) : (Int × Int)))) (Int.toNat (((p0.1, p0.2).2).length : Int)) (List.length (rowI e62 (List.replicate (Int.toNat (((p0.1, p0.2).2).length : Int)) ((0, 0) : (Int × Int)))))), (13, some 2, .a)] [2, 4, 6], .reg [] [] 0 [(5, none, .n (((p0.1, p0.2).2).length : Int))] [2, 4, 6, 35, 36, 37], .leaf (.exit 0) ⟨[(2, .ptr 0 0 2), (6, .ptr 1 0 2)], [.cells [.p (.int .i64 0), .p (.nilsl)] 0, .cells [.p (.int .i64 ((p0.1, p0.2).1)), .msl 2 0 (List.length y2) (List.length (rowI e62 y2)) true] 0, .cells (rowI e62 y2) 2]⟩, .reg [] [] 0 [] [2, 3]])
      (ai (F39_ok fuel (p0.1, p0.2) _ h1) (ai (len_map e62 ((p0.1, p0.2).2)) (ai (od h2) (ai (rfl : ((((p0.1, p0.2).2).length : Int) : Int) = (((p0.1, p0.2).2).length : Int)) (ai (od h3) (ai (od h4) (ai (rl (Int.toNat (((p0.1, p0.2).2).length : Int))) (ai (rl (List.length (rowI e62 (List.replicate (Int.toNat (((p0.1, p0.2).2).length : Int)) ((0, 0) : (Int × Int)))))) (ai (zeros_row el62 ((0, 0) : (Int × Int)) (Int.toNat (((p0.1, p0.2).2).length : Int))) (ai (len_map e62 ((p0.1, p0.2).2)) (ai (SemC.pre (σ := ⟨[(2, .ptr 0 0 2), (4, .p (.ref [.int .i64 ((p0.1, p0.2).1), .sl (List.map e62 ((p0.1, p0.2).2)) false])), (6, .ptr 2 0 2), (35, .p (.sl (List.map e62 ((p0.1, p0.2).2)) false)), (36, .p (.int .i64 (((p0.1, p0.2).2).length : Int))), (37, .p (.int .i64 0))], [.cells [.p (.int .i64 0), .p (.nilsl)] 0, .cells (rowI e62 (List.replicate (Int.toNat (((p0.1, p0.2).2).length : Int)) ((0, 0) : (Int × Int)))) 2, .cells [.p (.int .i64 ((p0.1, p0.2).1)), .msl 1 0 (Int.toNat (((p0.1, p0.2).2).length : Int)) (List.length (rowI e62 (List.replicate (Int.toNat (((p0.1, p0.2).2).length : Int)) ((0, 0) : (Int × Int))))) true] 0]⟩) (SemJ.loop (L32_0_ok ((p0.1, p0.2).1) ((p0.1, p0.2).2) ((p0.1, p0.2).2) (((p0.1, p0.2).2).length : Int) ((p0.1, p0.2).1) fuel 0 (List.replicate (Int.toNat (((p0.1, p0.2).2).length : Int)) ((0, 0) : (Int × Int))) _ h5)) (Weak.trans (Weak.sel (E := [(2, .ptr 0 0 2), (4, .p (.ref [.int .i64 ((p0.1, p0.2).1), .sl (List.map e62 ((p0.1, p0.2).2)) false])), (6, .ptr 2 0 2), (35, .p (.sl (List.map e62 ((p0.1, p0.2).2)) false)), (36, .p (.int .i64 (((p0.1, p0.2).2).length : Int))), (37, .p (.int .i64 0))]) (E' := [(2, .ptr 0 0 2), (4, .p (.ref [.int .i64 ((p0.1, p0.2).1), .sl (List.map e62 ((p0.1, p0.2).2)) false])), (6, .ptr 1 0 2), (35, .p (.sl (List.map e62 ((p0.1, p0.2).2)) false)), (36, .p (.int .i64 (((p0.1, p0.2).2).length : Int))), (37, .p (.int .i64 0))]) (H := [.cells [.p (.int .i64 0), .p (.nilsl)] 0, .cells (rowI e62 (List.replicate (Int.toNat (((p0.1, p0.2).2).length : Int)) ((0, 0) : (Int × Int)))) 2, .cells [.p (.int .i64 ((p0.1, p0.2).1)), .msl 1 0 (Int.toNat (((p0.1, p0.2).2).length : Int)) (List.length (rowI e62 (List.replicate (Int.toNat (((p0.1, p0.2).2).length : Int)) ((0, 0) : (Int × Int))))) true] 0]) (H' := [.cells [.p (.int .i64 0), .p (.nilsl)] 0, .cells [.p (.int .i64 ((p0.1, p0.2).1)), .msl 2 0 (Int.toNat (((p0.1, p0.2).2).length : Int)) (List.length (rowI e62 (List.replicate (Int.toNat (((p0.1, p0.2).2).length : Int)) ((0, 0) : (Int × Int))))) true] 0, .cells (rowI e62 (List.replicate (Int.toNat (((p0.1, p0.2).2).length : Int)) ((0, 0) : (Int × Int)))) 2]) [0, 2, 1] (selH_cons (o := .cells [.p (.int .i64 0), .p (.nilsl)] 0) (o' := .cells [.p (.int .i64 0), .p (.nilsl)] 0) (by kernel_rfl) (sel_x (by kernel_rfl)) (selH_cons (o := .cells [.p (.int .i64 ((p0.1, p0.2).1)), .msl 1 0 (Int.toNat (((p0.1, p0.2).2).length : Int)) (List.length (rowI e62 (List.replicate (Int.toNat (((p0.1, p0.2).2).length : Int)) ((0, 0) : (Int × Int))))) true] 0) (o' := .cells [.p (.int .i64 ((p0.1, p0.2).1)), .msl 2 0 (Int.toNat (((p0.1, p0.2).2).length : Int)) (List.length (rowI e62 (List.replicate (Int.toNat (((p0.1, p0.2).2).length : Int)) ((0, 0) : (Int × Int))))) true] 0) (by kernel_rfl) (sel_x (by kernel_rfl)) (selH_cons (o := .cells (rowI e62 (List.replicate (Int.toNat (((p0.1, p0.2).2).length : Int)) ((0, 0) : (Int × Int)))) 2) (o' := .cells (rowI e62 (List.replicate (Int.toNat (((p0.1, p0.2).2).length : Int)) ((0, 0) : (Int × Int)))) 2) (by kernel_rfl) sel_row trivial))) (by kernel_rfl) (by kernel_rfl)) (Weak.eq (congrArg (fun ZZ : Nat => (⟨[(2, .ptr 0 0 2), (4, .p (.ref [.int .i64 ((p0.1, p0.2).1), .sl (List.map e62 ((p0.1, p0.2).2)) false])), (6, .ptr 1 0 2), (35, .p (.sl (List.map e62 ((p0.1, p0.2).2)) false)), (36, .p (.int .i64 (((p0.1, p0.2).2).length : Int))), (37, .p (.int .i64 0))], [.cells [.p (.int .i64 0), .p (.nilsl)] 0, .cells [.p (.int .i64 ((p0.1, p0.2).1)), .msl 2 0 ZZ (List.length (rowI e62 (List.replicate (Int.toNat (((p0.1, p0.2).2).length : Int)) ((0, 0) : (Int × Int))))) true] 0, .cells (rowI e62 (List.replicate (Int.toNat (((p0.1, p0.2).2).length : Int)) ((0, 0) : (Int × Int)))) 2]⟩ : St)) (Eq.symm (List.length_replicate : List.length (List.replicate (Int.toNat (((p0.1, p0.2).2).length : Int)) ((0, 0) : (Int × Int))) = (Int.toNat (((p0.1, p0.2).2).length : Int)))))))) trivial))))))))))) (by kernel_rfl)) (e := .ret) rfl (vs := [.agg [.p (.int .i64 ((p0.1, p0.2).1)), .msl 2 0 (List.length y2) (List.length (rowI e62 y2)) true], .p (.int .i64 0)]) (ai (rfl : (2:Nat) = 2) (ai (by decide : (2:Nat) ≤ 2) trivial)) (by kernel_rfl) (.tup _ _ (.cons _ _ _ _ (.agg _ _ (.cons _ _ _ _ (.p _ _ (.refl _)) (.cons _ _ _ _ (snap_row (g := 2) (L := y2) el62 (by kernel_rfl) (rl (List.length (rowI e62 y2))) (rl (List.length y2))) .nil))) (.cons _ _ _ _ (.p _ _ (.refl _)) .nil)))
def L37_5  (v0 : Int) (v5 : Int) (v14 : Int) (v15 : Int) (v19 : Int) (w1 : Int) : Nat → Int → (List (Int × Int)) → Option (List (Int × Int))
  | 0, _, _ => none
  | fuel + 1, v20, w2 =>
    oif ((decide (v20 < v19)))
    (oif (((Int.tmod v20 2) == (Int.tmod v5 2)))
      (oif (decide (((List.length w2) + 1) * 16 ≤ 140737488355328)) (L37_5 v0 v5 v14 v15 v19 w1 fuel (IntKind.wrap .i64 (v20 + 1)) (w2 ++ [(v20, (IntKind.wrap .i64 (v20 + 1)))])) none)
      (L37_5 v0 v5 v14 v15 v19 w1 fuel (IntKind.wrap .i64 (v20 + 1)) w2))
    (some (w2))
noncomputable def L37_5_post (v0 : Int) (v5 : Int) (v14 : Int) (v15 : Int) (v19 : Int) (w1 : Int)  : (List (Int × Int)) → Ex × St
  | y => ((.exit 2), ⟨[(0, .p (.int .i64 v0)), (2, .ptr 0 0 2), (4, .ptr 1 0 2), (14, .p (.int .i64 v14)), (15, .p (.int .i64 v15))], [.cells [.p (.int .i64 0), .p (.nilsl)] 0, .cells [.p (.int .i64 w1), .msl 2 0 (List.length y) (List.length (rowI e62 y)) false] 0, .cells (rowI e62 y) 2]⟩)
theorem L37_5_ok  (v0 : Int) (v5 : Int) (v14 : Int) (v15 : Int) (v19 : Int) (w1 : Int)  : ∀ (fuel : Nat) (v20 : Int) (w2 : (List (Int × Int))) (r : (List (Int × Int))), L37_5 v0 v5 v14 v15 v19 w1 fuel v20 w2 = some r →
    SemJ prog ⟨40, 0, false⟩ (codeAt [1, 1, 1, 0, 1, 0, 0, 1, 1, 0, 0, 1, 1, 0, 0] (bodyOf f37)) ⟨[(0, .p (.int .i64 v0)), (2, .ptr 0 0 2), (4, .ptr 1 0 2), (5, .p (.int .i64 v5)), (14, .p (.int .i64 v14)), (15, .p (.int .i64 v15)), (19, .p (.int .i64 v19)), (20, .p (.int .i64 v20))], [.cells [.p (.int .i64 0), .p (.nilsl)] 0, .cells [.p (.int .i64 w1), .msl 2 0 (List.length w2) (List.length (rowI e62 w2)) false] 0, .cells (rowI e62 w2) 2]⟩ (L37_5_post v0 v5 v14 v15 v19 w1 r).1 (L37_5_post v0 v5 v14 v15 v19 w1 r).2
  | 0, _, _, _, h => nomatch h
  | fuel + 1, v20, w2, r, h => by
    unfold L37_5 at h
    refine oif_elim h (fun h1 g1 => ?_) (fun h1 g1 => ?_)
    · let c83 : List CC := [.reg [] [] 0 [(0, none, .b true)] [0, 2, 4, 5, 14, 15, 19, 20, 21], .reg [] [] 0 [] [0, 2, 4, 5, 6, 14, 15, 19, 20]]
      refine oif_elim g1 (fun h2 g2 => ?_) (fun h2 g2 => ?_)
      · refine oif_elim g2 (fun h3 g3 => ?_) (fun _ h => nomatch h)
        exact SemJ.again (σ1 := ⟨[(0, .p (.int .i64 v0)), (2, .ptr 0 0 2), (4, .ptr 1 0 2), (5, .p (.int .i64 v5)), (14, .p (.int .i64 v14)), (15, .p (.int .i64 v15)), (19, .p (.int .i64 v19)), (20, .p (.int .i64 (IntKind.wrap .i64 (v20 + 1))))], [.cells [.p (.int .i64 0), .p (.nilsl)] 0, .cells [.p (.int .i64 w1), .msl 2 0 (List.length (w2 ++ [(v20, (IntKind.wrap .i64 (v20 + 1)))])) (List.length (rowI e62 (w2 ++ [(v20, (IntKind.wrap .i64 (v20 + 1)))]))) false] 0, .cells (rowI e62 (w2 ++ [(v20, (IntKind.wrap .i64 (v20 + 1)))])) 2]⟩) (path hm (σ' := ⟨[(0, .p (.int .i64 v0)), (2, .ptr 0 0 2), (4, .ptr 1 0 2), (5, .p (.int .i64 v5)), (14, .p (.int .i64 v14)), (15, .p (.int .i64 v15)), (19, .p (.int .i64 v19)), (20, .p (.int .i64 (IntKind.wrap .i64 (v20 + 1))))], [.cells [.p (.int .i64 0), .p (.nilsl)] 0, .cells [.p (.int .i64 w1), .msl 2 0 (List.length (w2 ++ [(v20, (IntKind.wrap .i64 (v20 + 1)))])) (List.length (rowI e62 (w2 ++ [(v20, (IntKind.wrap .i64 (v20 + 1)))]))) false] 0, .cells (rowI e62 (w2 ++ [(v20, (IntKind.wrap .i64 (v20 + 1)))])) 2]⟩) (ks := [0, 2, 4, 5, 14, 15, 19, 20]) (cc := c83 ++ [.reg [] [] 0 [(4, none, .b true)] [0, 2, 4, 5, 6, 14, 15, 19, 20, 27], .reg [] [] 0 [(7, none, .ap (rowI e62 (w2 ++ [(v20, (IntKind.wrap .i64 (v20 + 1)))])) (List.length (w2 ++ [(v20, (IntKind.wrap .i64 (v20 + 1)))])) (List.length (rowI e62 (w2 ++ [(v20, (IntKind.wrap .i64 (v20 + 1)))]))))] [0, 2, 4, 5, 14, 15, 19, 20], .reg [] [] 0 [] [0, 2, 4, 5, 14, 15, 19, 20]])
        (ai h1 (ai (by decide : (2 : Int) ≠ 0) (ai (by decide : (2 : Int) ≠ 0) (ai h2 (ai (by decide : 0 < 1) (ai (od h3) (ai (app_c2 (by decide) (od h3)) (ai (app_len e62 [(v20, (IntKind.wrap .i64 (v20 + 1)))] (rl (List.length w2))) (ai (rl (List.length (rowI e62 (w2 ++ [(v20, (IntKind.wrap .i64 (v20 + 1)))])))) (ai (row_app e62 w2 [(v20, (IntKind.wrap .i64 (v20 + 1)))]) (ai (rl (List.length (rowI e62 w2))) (ai (row_sz el62 (rl (List.length (rowI e62 w2))) (rl (List.length w2))) (ai (row_sc el62 [(v20, (IntKind.wrap .i64 (v20 + 1)))]) (ai (row_es el62 [(v20, (IntKind.wrap .i64 (v20 + 1)))]) trivial)))))))))))))) (by kernel_rfl)) (L37_5_ok v0 v5 v14 v15 v19 w1 fuel (IntKind.wrap .i64 (v20 + 1)) (w2 ++ [(v20, (IntKind.wrap .i64 (v20 + 1)))]) _ g3)
      · exact SemJ.again (σ1 := ⟨[(0, .p (.int .i64 v0)), (2, .ptr 0 0 2), (4, .ptr 1 0 2), (5, .p (.int .i64 v5)), (14, .p (.int .i64 v14)), (15, .p (.int .i64 v15)), (19, .p (.int .i64 v19)), (20, .p (.int .i64 (IntKind.wrap .i64 (v20 + 1))))], [.cells [.p (.int .i64 0), .p (.nilsl)] 0, .cells [.p (.int .i64 w1), .msl 2 0 (List.length w2) (List.length (rowI e62 w2)) false] 0, .cells (rowI e62 w2) 2]⟩) (path hm (σ' := ⟨[(0, .p (.int .i64 v0)), (2, .ptr 0 0 2), (4, .ptr 1 0 2), (5, .p (.int .i64 v5)), (14, .p (.int .i64 v14)), (15, .p (.int .i64 v15)), (19, .p (.int .i64 v19)), (20, .p (.int .i64 (IntKind.wrap .i64 (v20 + 1))))], [.cells [.p (.int .i64 0), .p (.nilsl)] 0, .cells [.p (.int .i64 w1), .msl 2 0 (List.length w2) (List.length (rowI e62 w2)) false] 0, .cells (rowI e62 w2) 2]⟩) (ks := [0, 2, 4, 5, 14, 15, 19, 20]) (cc := c83 ++ [.reg [] [] 0 [(4, none, .b false)] [0, 2, 4, 5, 6, 14, 15, 19, 20, 27], .reg [] [] 0 [] [0, 2, 4, 5, 14, 15, 19, 20]])
        (ai h1 (ai (by decide : (2 : Int) ≠ 0) (ai (by decide : (2 : Int) ≠ 0) (ai h2 trivial)))) (by kernel_rfl)) (L37_5_ok v0 v5 v14 v15 v19 w1 fuel (IntKind.wrap .i64 (v20 + 1)) w2 _ g2)
    · have hr := Option.some.inj g1
      subst hr
      exact SemC.cast (SemJ.out (e := (.exit 2)) (path hm (σ' := ⟨[(0, .p (.int .i64 v0)), (2, .ptr 0 0 2), (4, .ptr 1 0 2), (14, .p (.int .i64 v14)), (15, .p (.int .i64 v15))], [.cells [.p (.int .i64 0), .p (.nilsl)] 0, .cells [.p (.int .i64 w1), .msl 2 0 (List.length w2) (List.length (rowI e62 w2)) false] 0, .cells (rowI e62 w2) 2]⟩) (ks := [0, 2, 4, 14, 15]) (cc := [.reg [] [] 0 [(0, none, .b false)] [0, 2, 4, 5, 14, 15, 19, 20, 21]])
        (ai h1 trivial) (by kernel_rfl)) (by simp)) (by kernel_rfl) (by kernel_rfl)
def L37_8  (v0 : Int) (v5 : Int) (v14 : Int) (v15 : Int) (v19 : Int) (w1 : Int) : Nat → Int → (List (Int × Int)) → Option (List (Int × Int))
  | 0, _, _ => none
  | fuel + 1, v20, w2 =>
    oif ((decide (v20 < v19)))
    (oif (((Int.tmod v20 2) == (Int.tmod v5 2)))
      (oif (decide (((List.length w2) + 1) * 16 ≤ 140737488355328)) (L37_8 v0 v5 v14 v15 v19 w1 fuel (IntKind.wrap .i64 (v20 + 1)) (w2 ++ [(v20, (IntKind.wrap .i64 (v20 + 1)))])) none)
      (L37_8 v0 v5 v14 v15 v19 w1 fuel (IntKind.wrap .i64 (v20 + 1)) w2))
    (some (w2))
noncomputable def L37_8_post (v0 : Int) (v5 : Int) (v14 : Int) (v15 : Int) (v19 : Int) (w1 : Int)  : (List (Int × Int)) → Ex × St
  | y => ((.exit 2), ⟨[(0, .p (.int .i64 v0)), (2, .ptr 0 0 2), (4, .ptr 1 0 2), (14, .p (.int .i64 v14)), (15, .p (.int .i64 v15))], [.cells [.p (.int .i64 0), .p (.nilsl)] 0, .cells [.p (.int .i64 w1), .msl 2 0 (List.length y) (List.length (rowI e62 y)) false] 0, .cells (rowI e62 y) 2]⟩)
theorem L37_8_ok  (v0 : Int) (v5 : Int) (v14 : Int) (v15 : Int) (v19 : Int) (w1 : Int)  : ∀ (fuel : Nat) (v20 : Int) (w2 : (List (Int × Int))) (r : (List (Int × Int))), L37_8 v0 v5 v14 v15 v19 w1 fuel v20 w2 = some r →
    SemJ prog ⟨40, 0, false⟩ (codeAt [1, 1, 1, 0, 1, 0, 0, 1, 1, 0, 0, 1, 1, 0, 0] (bodyOf f37)) ⟨[(0, .p (.int .i64 v0)), (2, .ptr 0 0 2), (4, .ptr 1 0 2), (5, .p (.int .i64 v5)), (14, .p (.int .i64 v14)), (15, .p (.int .i64 v15)), (19, .p (.int .i64 v19)), (20, .p (.int .i64 v20))], [.cells [.p (.int .i64 0), .p (.nilsl)] 0, .cells [.p (.int .i64 w1), .msl 2 0 (List.length w2) (List.length (rowI e62 w2)) false] 0, .cells (rowI e62 w2) 2]⟩ (L37_8_post v0 v5 v14 v15 v19 w1 r).1 (L37_8_post v0 v5 v14 v15 v19 w1 r).2
  | 0, _, _, _, h => nomatch h
  | fuel + 1, v20, w2, r, h => by
    unfold L37_8 at h
    refine oif_elim h (fun h1 g1 => ?_) (fun h1 g1 => ?_)
    · let c85 : List CC := [.reg [] [] 0 [(0, none, .b true)] [0, 2, 4, 5, 14, 15, 19, 20, 21], .reg [] [] 0 [] [0, 2, 4, 5, 6, 14, 15, 19, 20]]
      refine oif_elim g1 (fun h2 g2 => ?_) (fun h2 g2 => ?_)
      · refine oif_elim g2 (fun h3 g3 => ?_) (fun _ h => nomatch h)
        exact SemJ.again (σ1 := ⟨[(0, .p (.int .i64 v0)), (2, .ptr 0 0 2), (4, .ptr 1 0 2), (5, .p (.int .i64 v5)), (14, .p (.int .i64 v14)), (15, .p (.int .i64 v15)), (19, .p (.int .i64 v19)), (20, .p (.int .i64 (IntKind.wrap .i64 (v20 + 1))))], [.cells [.p (.int .i64 0), .p (.nilsl)] 0, .cells [.p (.int .i64 w1), .msl 2 0 (List.length (w2 ++ [(v20, (IntKind.wrap .i64 (v20 + 1)))])) (List.length (rowI e62 (w2 ++ [(v20, (IntKind.wrap .i64 (v20 + 1)))]))) false] 0, .cells (rowI e62 (w2 ++ [(v20, (IntKind.wrap .i64 (v20 + 1)))])) 2]⟩) (path hm (σ' := ⟨[(0, .p (.int .i64 v0)), (2, .ptr 0 0 2), (4, .ptr 1 0 2), (5, .p (.int .i64 v5)), (14, .p (.int .i64 v14)), (15, .p (.int .i64 v15)), (19, .p (.int .i64 v19)), (20, .p (.int .i64 (IntKind.wrap .i64 (v20 + 1))))], [.cells [.p (.int .i64 0), .p (.nilsl)] 0, .cells [.p (.int .i64 w1), .msl 2 0 (List.length (w2 ++ [(v20, (IntKind.wrap .i64 (v20 + 1)))])) (List.length (rowI e62 (w2 ++ [(v20, (IntKind.wrap .i64 (v20 + 1)))]))) false] 0, .cells (rowI e62 (w2 ++ [(v20, (IntKind.wrap .i64 (v20 + 1)))])) 2]⟩) (ks := [0, 2, 4, 5, 14, 15, 19, 20]) (cc := c85 ++ [.reg [] [] 0 [(4, none, .b true)] [0, 2, 4, 5, 6, 14, 15, 19, 20, 27], .reg [] [] 0 [(7, none, .ap (rowI e62 (w2 ++ [(v20, (IntKind.wrap .i64 (v20 + 1)))])) (List.length (w2 ++ [(v20, (IntKind.wrap .i64 (v20 + 1)))])) (List.length (rowI e62 (w2 ++ [(v20, (IntKind.wrap .i64 (v20 + 1)))]))))] [0, 2, 4, 5, 14, 15, 19, 20], .reg [] [] 0 [] [0, 2, 4, 5, 14, 15, 19, 20]])
        (ai h1 (ai (by decide : (2 : Int) ≠ 0) (ai (by decide : (2 : Int) ≠ 0) (ai h2 (ai (by decide : 0 < 1) (ai (od h3) (ai (app_c2 (by decide) (od h3)) (ai (app_len e62 [(v20, (IntKind.wrap .i64 (v20 + 1)))] (rl (List.length w2))) (ai (rl (List.length (rowI e62 (w2 ++ [(v20, (IntKind.wrap .i64 (v20 + 1)))])))) (ai (row_app e62 w2 [(v20, (IntKind.wrap .i64 (v20 + 1)))]) (ai (rl (List.length (rowI e62 w2))) (ai (row_sz el62 (rl (List.length (rowI e62 w2))) (rl (List.length w2))) (ai (row_sc el62 [(v20, (IntKind.wrap .i64 (v20 + 1)))]) (ai (row_es el62 [(v20, (IntKind.wrap .i64 (v20 + 1)))]) trivial)))))))))))))) (by kernel_rfl)) (L37_8_ok v0 v5 v14 v15 v19 w1 fuel (IntKind.wrap .i64 (v20 + 1)) (w2 ++ [(v20, (IntKind.wrap .i64 (v20 + 1)))]) _ g3)
      · exact SemJ.again (σ1 := ⟨[(0, .p (.int .i64 v0)), (2, .ptr 0 0 2), (4, .ptr 1 0 2), (5, .p (.int .i64 v5)), (14, .p (.int .i64 v14)), (15, .p (.int .i64 v15)), (19, .p (.int .i64 v19)), (20, .p (.int .i64 (IntKind.wrap .i64 (v20 + 1))))], [.cells [.p (.int .i64 0), .p (.nilsl)] 0, .cells [.p (.int .i64 w1), .msl 2 0 (List.length w2) (List.length (rowI e62 w2)) false] 0, .cells (rowI e62 w2) 2]⟩) (path hm (σ' := ⟨[(0, .p (.int .i64 v0)), (2, .ptr 0 0 2), (4, .ptr 1 0 2), (5, .p (.int .i64 v5)), (14, .p (.int .i64 v14)), (15, .p (.int .i64 v15)), (19, .p (.int .i64 v19)), (20, .p (.int .i64 (IntKind.wrap .i64 (v20 + 1))))], [.cells [.p (.int .i64 0), .p (.nilsl)] 0, .cells [.p (.int .i64 w1), .msl 2 0 (List.length w2) (List.length (rowI e62 w2)) false] 0, .cells (rowI e62 w2) 2]⟩) (ks := [0, 2, 4, 5, 14, 15, 19, 20]) (cc := c85 ++ [.reg [] [] 0 [(4, none, .b false)] [0, 2, 4, 5, 6, 14, 15, 19, 20, 27], .reg [] [] 0 [] [0, 2, 4, 5, 14, 15, 19, 20]])
        (ai h1 (ai (by decide : (2 : Int) ≠ 0) (ai (by decide : (2 : Int) ≠ 0) (ai h2 trivial)))) (by kernel_rfl)) (L37_8_ok v0 v5 v14 v15 v19 w1 fuel (IntKind.wrap .i64 (v20 + 1)) w2 _ g2)
    · have hr := Option.some.inj g1
      subst hr
      exact SemC.cast (SemJ.out (e := (.exit 2)) (path hm (σ' := ⟨[(0, .p (.int .i64 v0)), (2, .ptr 0 0 2), (4, .ptr 1 0 2), (14, .p (.int .i64 v14)), (15, .p (.int .i64 v15))], [.cells [.p (.int .i64 0), .p (.nilsl)] 0, .cells [.p (.int .i64 w1), .msl 2 0 (List.length w2) (List.length (rowI e62 w2)) false] 0, .cells (rowI e62 w2) 2]⟩) (ks := [0, 2, 4, 14, 15]) (cc := [.reg [] [] 0 [(0, none, .b false)] [0, 2, 4, 5, 14, 15, 19, 20, 21]])
        (ai h1 trivial) (by kernel_rfl)) (by simp)) (by kernel_rfl) (by kernel_rfl)
def L37_6  (v0 : Int) (v5 : Int) (v14 : Int) (v15 : Int) (v19 : Int) (w1 : Int) : Nat → Int → Option ((List (Int × Int)) ⊕ Unit)
  | 0, _ => none
  | fuel + 1, v20 =>
    oif ((decide (v20 < v19)))
    (oif (((Int.tmod v20 2) == (Int.tmod v5 2)))
      (oif (decide (1 * 16 ≤ 140737488355328)) (obind (L37_8 v0 v5 v14 v15 v19 w1 fuel (IntKind.wrap .i64 (v20 + 1)) [(v20, (IntKind.wrap .i64 (v20 + 1)))]) fun y1 => some (.inl y1)) none)
      (L37_6 v0 v5 v14 v15 v19 w1 fuel (IntKind.wrap .i64 (v20 + 1))))
    (some (.inr (())))
noncomputable def L37_6_post (v0 : Int) (v5 : Int) (v14 : Int) (v15 : Int) (v19 : Int) (w1 : Int)  : ((List (Int × Int)) ⊕ Unit) → Ex × St
  | .inl y => ((.exit 2), ⟨[(0, .p (.int .i64 v0)), (2, .ptr 0 0 2), (4, .ptr 1 0 2), (14, .p (.int .i64 v14)), (15, .p (.int .i64 v15))], [.cells [.p (.int .i64 0), .p (.nilsl)] 0, .cells [.p (.int .i64 w1), .msl 2 0 (List.length y) (List.length (rowI e62 y)) false] 0, .cells (rowI e62 y) 2]⟩)
  | .inr (y) => ((.exit 2), ⟨[(0, .p (.int .i64 v0)), (2, .ptr 0 0 2), (4, .ptr 1 0 2), (14, .p (.int .i64 v14)), (15, .p (.int .i64 v15))], [.cells [.p (.int .i64 0), .p (.nilsl)] 0, .cells [.p (.int .i64 w1), .p (.nilsl)] 0]⟩)
theorem L37_6_ok  (v0 : Int) (v5 : Int) (v14 : Int) (v15 : Int) (v19 : Int) (w1 : Int)  : ∀ (fuel : Nat) (v20 : Int) (r : ((List (Int × Int)) ⊕ Unit)), L37_6 v0 v5 v14 v15 v19 w1 fuel v20 = some r →
    SemJ prog ⟨40, 0, false⟩ (codeAt [1, 1, 1, 0, 1, 0, 0, 1, 1, 0, 0, 1, 1, 0, 0] (bodyOf f37)) ⟨[(0, .p (.int .i64 v0)), (2, .ptr 0 0 2), (4, .ptr 1 0 2), (5, .p (.int .i64 v5)), (14, .p (.int .i64 v14)), (15, .p (.int .i64 v15)), (19, .p (.int .i64 v19)), (20, .p (.int .i64 v20))], [.cells [.p (.int .i64 0), .p (.nilsl)] 0, .cells [.p (.int .i64 w1), .p (.nilsl)] 0]⟩ (L37_6_post v0 v5 v14 v15 v19 w1 r).1 (L37_6_post v0 v5 v14 v15 v19 w1 r).2
  | 0, _, _, h => nomatch h
  | fuel + 1, v20, r, h => by
    unfold L37_6 at h
    refine oif_elim h (fun h1 g1 => ?_) (fun h1 g1 => ?_)
    · let c86 : List CC := [.reg [] [] 0 [(0, none, .b true)] [0, 2, 4, 5, 14, 15, 19, 20, 21], .reg [] [] 0 [] [0, 2, 4, 5, 6, 14, 15, 19, 20]]
      refine oif_elim g1 (fun h2 g2 => ?_) (fun h2 g2 => ?_)
      · refine oif_elim g2 (fun h3 g3 => ?_) (fun _ h => nomatch h)
        refine obind_elim g3 fun y1 h4 g4 => ?_
        have hr := Option.some.inj g4
        subst hr
        exact SemC.cast (SemJ.again (σ1 := ⟨[(0, .p (.int .i64 v0)), (2, .ptr 0 0 2), (4, .ptr 1 0 2), (5, .p (.int .i64 v5)), (14, .p (.int .i64 v14)), (15, .p (.int .i64 v15)), (19, .p (.int .i64 v19)), (20, .p (.int .i64 (IntKind.wrap .i64 (v20 + 1))))], [.cells [.p (.int .i64 0), .p (.nilsl)] 0, .cells [.p (.int .i64 w1), .msl 2 0 (List.length [(v20, (IntKind.wrap .i64 (v20 + 1)))]) (List.length (rowI e62 [(v20, (IntKind.wrap .i64 (v20 + 1)))])) false] 0, .cells (rowI e62 [(v20, (IntKind.wrap .i64 (v20 + 1)))]) 2]⟩) (path hm (σ' := ⟨[(0, .p (.int .i64 v0)), (2, .ptr 0 0 2), (4, .ptr 1 0 2), (5, .p (.int .i64 v5)), (14, .p (.int .i64 v14)), (15, .p (.int .i64 v15)), (19, .p (.int .i64 v19)), (20, .p (.int .i64 (IntKind.wrap .i64 (v20 + 1))))], [.cells [.p (.int .i64 0), .p (.nilsl)] 0, .cells [.p (.int .i64 w1), .msl 2 0 (List.length [(v20, (IntKind.wrap .i64 (v20 + 1)))]) (List.length (rowI e62 [(v20, (IntKind.wrap .i64 (v20 + 1)))])) false] 0, .cells (rowI e62 [(v20, (IntKind.wrap .i64 (v20 + 1)))]) 2]⟩) (ks := [0, 2, 4, 5, 14, 15, 19, 20]) (cc := c86 ++ [.reg [] [] 0 [(4, none, .b true)] [0, 2, 4, 5, 6, 14, 15, 19, 20, 27], .reg [] [] 1 [(7, some 2, .ap (rowI e62 [(v20, (IntKind.wrap .i64 (v20 + 1)))]) (List.length [(v20, (IntKind.wrap .i64 (v20 + 1)))]) (List.length (rowI e62 [(v20, (IntKind.wrap .i64 (v20 + 1)))])))] [0, 2, 4, 5, 14, 15, 19, 20], .reg [] [] 0 [] [0, 2, 4, 5, 14, 15, 19, 20]])
        (ai h1 (ai (by decide : (2 : Int) ≠ 0) (ai (by decide : (2 : Int) ≠ 0) (ai h2 (ai (by decide : 0 < 1) (ai (od h3) (ai (app_c0 (by decide) (od h3)) (ai (rl (List.length [(v20, (IntKind.wrap .i64 (v20 + 1)))])) (ai (rl (List.length (rowI e62 [(v20, (IntKind.wrap .i64 (v20 + 1)))]))) (ai (row_src e62 [(v20, (IntKind.wrap .i64 (v20 + 1)))]) (ai (row_sc el62 [(v20, (IntKind.wrap .i64 (v20 + 1)))]) (ai (row_es el62 [(v20, (IntKind.wrap .i64 (v20 + 1)))]) trivial)))))))))))) (by kernel_rfl)) (L37_8_ok v0 v5 v14 v15 v19 w1 fuel (IntKind.wrap .i64 (v20 + 1)) [(v20, (IntKind.wrap .i64 (v20 + 1)))] _ h4)) (by kernel_rfl) (by kernel_rfl)
      · exact SemJ.again (σ1 := ⟨[(0, .p (.int .i64 v0)), (2, .ptr 0 0 2), (4, .ptr 1 0 2), (5, .p (.int .i64 v5)), (14, .p (.int .i64 v14)), (15, .p (.int .i64 v15)), (19, .p (.int .i64 v19)), (20, .p (.int .i64 (IntKind.wrap .i64 (v20 + 1))))], [.cells [.p (.int .i64 0), .p (.nilsl)] 0, .cells [.p (.int .i64 w1), .p (.nilsl)] 0]⟩) (path hm (σ' := ⟨[(0, .p (.int .i64 v0)), (2, .ptr 0 0 2), (4, .ptr 1 0 2), (5, .p (.int .i64 v5)), (14, .p (.int .i64 v14)), (15, .p (.int .i64 v15)), (19, .p (.int .i64 v19)), (20, .p (.int .i64 (IntKind.wrap .i64 (v20 + 1))))], [.cells [.p (.int .i64 0), .p (.nilsl)] 0, .cells [.p (.int .i64 w1), .p (.nilsl)] 0]⟩) (ks := [0, 2, 4, 5, 14, 15, 19, 20]) (cc := c86 ++ [.reg [] [] 0 [(4, none, .b false)] [0, 2, 4, 5, 6, 14, 15, 19, 20, 27], .reg [] [] 0 [] [0, 2, 4, 5, 14, 15, 19, 20]])
        (ai h1 (ai (by decide : (2 : Int) ≠ 0) (ai (by decide : (2 : Int) ≠ 0) (ai h2 trivial)))) (by kernel_rfl)) (L37_6_ok v0 v5 v14 v15 v19 w1 fuel (IntKind.wrap .i64 (v20 + 1)) _ g2)
    · have hr := Option.some.inj g1
      subst hr
      exact SemC.cast (SemJ.out (e := (.exit 2)) (path hm (σ' := ⟨[(0, .p (.int .i64 v0)), (2, .ptr 0 0 2), (4, .ptr 1 0 2), (14, .p (.int .i64 v14)), (15, .p (.int .i64 v15))], [.cells [.p (.int .i64 0), .p (.nilsl)] 0, .cells [.p (.int .i64 w1), .p (.nilsl)] 0]⟩) (ks := [0, 2, 4, 14, 15]) (cc := [.reg [] [] 0 [(0, none, .b false)] [0, 2, 4, 5, 14, 15, 19, 20, 21]])
        (ai h1 trivial) (by kernel_rfl)) (by simp)) (by kernel_rfl) (by kernel_rfl)
def L37_9  (v0 : Int) (v14 : Int) (w1 : Int) : Nat → Int → (List (Int × Int)) → Option (List (Int × Int))
  | 0, _, _ => none
  | fuel + 1, v15, w2 =>
    oif ((decide (v15 < v14)))
    (obind (L37_5 v0 v15 v14 v15 (IntKind.wrap .i64 (v0 - 1)) w1 fuel 0 w2) fun y1 => L37_9 v0 v14 w1 fuel (IntKind.wrap .i64 (v15 + 1)) y1)
    (some (w2))
noncomputable def L37_9_post (v0 : Int) (v14 : Int) (w1 : Int)  : (List (Int × Int)) → Ex × St
  | y => ((.exit 0), ⟨[(2, .ptr 0 0 2), (4, .ptr 1 0 2)], [.cells [.p (.int .i64 0), .p (.nilsl)] 0, .cells [.p (.int .i64 w1), .msl 2 0 (List.length y) (List.length (rowI e62 y)) false] 0, .cells (rowI e62 y) 2]⟩)
theorem L37_9_ok  (v0 : Int) (v14 : Int) (w1 : Int)  : ∀ (fuel : Nat) (v15 : Int) (w2 : (List (Int × Int))) (r : (List (Int × Int))), L37_9 v0 v14 w1 fuel v15 w2 = some r →
    SemJ prog ⟨40, 0, false⟩ (codeAt [1, 1, 1, 0, 1, 0, 0] (bodyOf f37)) ⟨[(0, .p (.int .i64 v0)), (2, .ptr 0 0 2), (4, .ptr 1 0 2), (14, .p (.int .i64 v14)), (15, .p (.int .i64 v15))], [.cells [.p (.int .i64 0), .p (.nilsl)] 0, .cells [.p (.int .i64 w1), .msl 2 0 (List.length w2) (List.length (rowI e62 w2)) false] 0, .cells (rowI e62 w2) 2]⟩ (L37_9_post v0 v14 w1 r).1 (L37_9_post v0 v14 w1 r).2
  | 0, _, _, _, h => nomatch h
  | fuel + 1, v15, w2, r, h => by
    unfold L37_9 at h
    refine oif_elim h (fun h1 g1 => ?_) (fun h1 g1 => ?_)
    · refine obind_elim g1 fun y1 h2 g2 => ?_
      exact SemJ.again (σ1 := ⟨[(0, .p (.int .i64 v0)), (2, .ptr 0 0 2), (4, .ptr 1 0 2), (14, .p (.int .i64 v14)), (15, .p (.int .i64 (IntKind.wrap .i64 (v15 + 1))))], [.cells [.p (.int .i64 0), .p (.nilsl)] 0, .cells [.p (.int .i64 w1), .msl 2 0 (List.length y1) (List.length (rowI e62 y1)) false] 0, .cells (rowI e62 y1) 2]⟩) (path hm (σ' := ⟨[(0, .p (.int .i64 v0)), (2, .ptr 0 0 2), (4, .ptr 1 0 2), (14, .p (.int .i64 v14)), (15, .p (.int .i64 (IntKind.wrap .i64 (v15 + 1))))], [.cells [.p (.int .i64 0), .p (.nilsl)] 0, .cells [.p (.int .i64 w1), .msl 2 0 (List.length y1) (List.length (rowI e62 y1)) false] 0, .cells (rowI e62 y1) 2]⟩) (ks := [0, 2, 4, 14, 15]) (cc := [.reg [] [] 0 [(0, none, .b true)] [0, 2, 4, 14, 15, 16], .reg [] [] 0 [] [0, 2, 4, 5, 14, 15], .reg [] [] 0 [] [0, 2, 4, 5, 14, 15, 19, 20], .leaf (.exit 2) ⟨[(0, .p (.int .i64 v0)), (2, .ptr 0 0 2), (4, .ptr 1 0 2), (14, .p (.int .i64 v14)), (15, .p (.int .i64 v15))], [.cells [.p (.int .i64 0), .p (.nilsl)] 0, .cells [.p (.int .i64 w1), .msl 2 0 (List.length y1) (List.length (rowI e62 y1)) false] 0, .cells (rowI e62 y1) 2]⟩, .reg [] [] 0 [] [0, 2, 4, 14, 15]])
        (ai h1 (ai (SemJ.loop (L37_5_ok v0 v15 v14 v15 (IntKind.wrap .i64 (v0 - 1)) w1 fuel 0 w2 _ h2)) trivial)) (by kernel_rfl)) (L37_9_ok v0 v14 w1 fuel (IntKind.wrap .i64 (v15 + 1)) y1 _ g2)
    · have hr := Option.some.inj g1
      subst hr
      exact SemC.cast (SemJ.out (e := (.exit 0)) (path hm (σ' := ⟨[(2, .ptr 0 0 2), (4, .ptr 1 0 2)], [.cells [.p (.int .i64 0), .p (.nilsl)] 0, .cells [.p (.int .i64 w1), .msl 2 0 (List.length w2) (List.length (rowI e62 w2)) false] 0, .cells (rowI e62 w2) 2]⟩) (ks := [2, 4]) (cc := [.reg [] [] 0 [(0, none, .b false)] [0, 2, 4, 14, 15, 16]])
        (ai h1 trivial) (by kernel_rfl)) (by simp)) (by kernel_rfl) (by kernel_rfl)
def L37_0  (v0 : Int) (v14 : Int) (w1 : Int) : Nat → Int → Option ((List (Int × Int)) ⊕ Unit)
  | 0, _ => none
  | fuel + 1, v15 =>
    oif ((decide (v15 < v14)))
    ((obind (L37_6 v0 v15 v14 v15 (IntKind.wrap .i64 (v0 - 1)) w1 fuel 0) fun y1 => match y1 with
      | .inl y1 => obind (L37_9 v0 v14 w1 fuel (IntKind.wrap .i64 (v15 + 1)) y1) fun y2 => some (.inl y2)
      | .inr (y1) => L37_0 v0 v14 w1 fuel (IntKind.wrap .i64 (v15 + 1))))
    (some (.inr (())))
noncomputable def L37_0_post (v0 : Int) (v14 : Int) (w1 : Int)  : ((List (Int × Int)) ⊕ Unit) → Ex × St
  | .inl y => ((.exit 0), ⟨[(2, .ptr 0 0 2), (4, .ptr 1 0 2)], [.cells [.p (.int .i64 0), .p (.nilsl)] 0, .cells [.p (.int .i64 w1), .msl 2 0 (List.length y) (List.length (rowI e62 y)) false] 0, .cells (rowI e62 y) 2]⟩)
  | .inr (y) => ((.exit 0), ⟨[(2, .ptr 0 0 2), (4, .ptr 1 0 2)], [.cells [.p (.int .i64 0), .p (.nilsl)] 0, .cells [.p (.int .i64 w1), .p (.nilsl)] 0]⟩)
theorem L37_0_ok  (v0 : Int) (v14 : Int) (w1 : Int)  : ∀ (fuel : Nat) (v15 : Int) (r : ((List (Int × Int)) ⊕ Unit)), L37_0 v0 v14 w1 fuel v15 = some r →
    SemJ prog ⟨40, 0, false⟩ (codeAt [1, 1, 1, 0, 1, 0, 0] (bodyOf f37)) ⟨[(0, .p (.int .i64 v0)), (2, .ptr 0 0 2), (4, .ptr 1 0 2), (14, .p (.int .i64 v14)), (15, .p (.int .i64 v15))], [.cells [.p (.int .i64 0), .p (.nilsl)] 0, .cells [.p (.int .i64 w1), .p (.nilsl)] 0]⟩ (L37_0_post v0 v14 w1 r).1 (L37_0_post v0 v14 w1 r).2
  | 0, _, _, h => nomatch h
  | fuel + 1, v15, r, h => by
    unfold L37_0 at h
    refine oif_elim h (fun h1 g1 => ?_) (fun h1 g1 => ?_)
    · let c87 : List CC := [.reg [] [] 0 [(0, none, .b true)] [0, 2, 4, 14, 15, 16], .reg [] [] 0 [] [0, 2, 4, 5, 14, 15], .reg [] [] 0 [] [0, 2, 4, 5, 14, 15, 19, 20]]
      refine obind_elim g1 fun y h2 g2 => ?_
      match y, h2, g2 with
      | .inl y1, h2, g2 =>
        refine obind_elim g2 fun y2 h3 g3 => ?_
        have hr := Option.some.inj g3
        subst hr
        exact SemC.cast (SemJ.again (σ1 := ⟨[(0, .p (.int .i64 v0)), (2, .ptr 0 0 2), (4, .ptr 1 0 2), (14, .p (.int .i64 v14)), (15, .p (.int .i64 (IntKind.wrap .i64 (v15 + 1))))], [.cells [.p (.int .i64 0), .p (.nilsl)] 0, .cells [.p (.int .i64 w1), .msl 2 0 (List.length y1) (List.length (rowI e62 y1)) false] 0, .cells (rowI e62 y1) 2]⟩) (path hm (σ' := ⟨[(0, .p (.int .i64 v0)), (2, .ptr 0 0 2), (4, .ptr 1 0 2), (14, .p (.int .i64 v14)), (15, .p (.int .i64 (IntKind.wrap .i64 (v15 + 1))))], [.cells [.p (.int .i64 0), .p (.nilsl)] 0, .cells [.p (.int .i64 w1), .msl 2 0 (List.length y1) (List.length (rowI e62 y1)) false] 0, .cells (rowI e62 y1) 2]⟩) (ks := [0, 2, 4, 14, 15]) (cc := c87 ++ [.leaf (.exit 2) ⟨[(0, .p (.int .i64 v0)), (2, .ptr 0 0 2), (4, .ptr 1 0 2), (14, .p (.int .i64 v14)), (15, .p (.int .i64 v15))], [.cells [.p (.int .i64 0), .p (.nilsl)] 0, .cells [.p (.int .i64 w1), .msl 2 0 (List.length y1) (List.length (rowI e62 y1)) false] 0, .cells (rowI e62 y1) 2]⟩, .reg [] [] 0 [] [0, 2, 4, 14, 15]])
        (ai h1 (ai (SemJ.loop (L37_6_ok v0 v15 v14 v15 (IntKind.wrap .i64 (v0 - 1)) w1 fuel 0 _ h2)) trivial)) (by kernel_rfl)) (L37_9_ok v0 v14 w1 fuel (IntKind.wrap .i64 (v15 + 1)) y1 _ h3)) (by kernel_rfl) (by kernel_rfl)
      | .inr (y1), h2, g2 =>
        exact SemJ.again (σ1 := ⟨[(0, .p (.int .i64 v0)), (2, .ptr 0 0 2), (4, .ptr 1 0 2), (14, .p (.int .i64 v14)), (15, .p (.int .i64 (IntKind.wrap .i64 (v15 + 1))))], [.cells [.p (.int .i64 0), .p (.nilsl)] 0, .cells [.p (.int .i64 w1), .p (.nilsl)] 0]⟩) (path hm (σ' := ⟨[(0, .p (.int .i64 v0)), (2, .ptr 0 0 2), (4, .ptr 1 0 2), (14, .p (.int .i64 v14)), (15, .p (.int .i64 (IntKind.wrap .i64 (v15 + 1))))], [.cells [.p (.int .i64 0), .p (.nilsl)] 0, .cells [.p (.int .i64 w1), .p (.nilsl)] 0]⟩) (ks := [0, 2, 4, 14, 15]) (cc := c87 ++ [.leaf (.exit 2) ⟨[(0, .p (.int .i64 v0)), (2, .ptr 0 0 2), (4, .ptr 1 0 2), (14, .p (.int .i64 v14)), (15, .p (.int .i64 v15))], [.cells [.p (.int .i64 0), .p (.nilsl)] 0, .cells [.p (.int .i64 w1), .p (.nilsl)] 0]⟩, .reg [] [] 0 [] [0, 2, 4, 14, 15]])
        (ai h1 (ai (SemJ.loop (L37_6_ok v0 v15 v14 v15 (IntKind.wrap .i64 (v0 - 1)) w1 fuel 0 _ h2)) trivial)) (by kernel_rfl)) (L37_0_ok v0 v14 w1 fuel (IntKind.wrap .i64 (v15 + 1)) _ g2)
    · have hr := Option.some.inj g1
      subst hr
      exact SemC.cast (SemJ.out (e := (.exit 0)) (path hm (σ' := ⟨[(2, .ptr 0 0 2), (4, .ptr 1 0 2)], [.cells [.p (.int .i64 0), .p (.nilsl)] 0, .cells [.p (.int .i64 w1), .p (.nilsl)] 0]⟩) (ks := [2, 4]) (cc := [.reg [] [] 0 [(0, none, .b false)] [0, 2, 4, 14, 15, 16]])
        (ai h1 trivial) (by kernel_rfl)) (by simp)) (by kernel_rfl) (by kernel_rfl)
def F37  (fuel : Nat) (p0 : Int) : Option ((Int × (List (Int × Int))) × Int) :=
  obind (F44 fuel 1 8 [p0]) fun r1 => oif (r1)
  ((obind (L37_0 p0 p0 p0 fuel 0) fun y2 => match y2 with
    | .inl y2 => some ((p0, y2), 0)
    | .inr (y2) => some ((p0, []), 0)))
  (some ((0, []), 6))
theorem F37_ok  (fuel : Nat) (p0 : Int)  (r : ((Int × (List (Int × Int))) × Int)) (h : F37 fuel p0 = some r) : CallP prog 37 [.int .i64 p0] (.tup [.agg [.int .i64 r.1.1, .sl (List.map e62 r.1.2) false], .int .i64 r.2]) := by
  unfold F37 at h
  refine obind_elim h fun r1 h1 g1 => ?_
  refine oif_elim g1 (fun h2 g2 => ?_) (fun h2 g2 => ?_)
  · subst h2
    let c88 : List CC := [.reg [] [] 1 [(0, some 0, .a)] [0, 2], .reg [] [] 0 [(2, none, .call (.bool true))] [0, 2, 10], .reg [] [] 1 [(2, some 1, .a)] [0, 2, 4], .reg [] [] 0 [] [0, 2, 4, 14, 15]]
    refine obind_elim g2 fun y h3 g3 => ?_
    match y, h3, g3 with
    | .inl y2, h3, g3 =>
      have hr := Option.some.inj g3
      subst hr
      exact callP_of is37 rfl (path hm (ks := [2, 3]) (σ' := ⟨[(2, .ptr 0 0 2), (3, .p (.int .i64 0))], [.cells [.p (.int .i64 p0), .msl 2 0 (List.length y2) (List.length (rowI e62 y2)) false] 0, .cells [.p (.int .i64 p0), .msl 2 0 (List.length y2) (List.length (rowI e62 y2)) false] 0, .cells (rowI e62 y2) 2]⟩) (cc := c88 ++ [.leaf (.exit 0) ⟨[(2, .ptr 0 0 2), (4, .ptr 1 0 2)], [.cells [.p (.int .i64 0), .p (.nilsl)] 0, .cells [.p (.int .i64 p0), .msl 2 0 (List.length y2) (List.length (rowI e62 y2)) false] 0, .cells (rowI e62 y2) 2]⟩, .reg [] [] 0 [] [2, 3]])
      (ai (F44_ok fuel 1 8 [p0] true _ h1) (ai (SemJ.loop (L37_0_ok p0 p0 p0 fuel 0 _ h3)) trivial)) (by kernel_rfl)) (e := .ret) rfl (vs := [.agg [.p (.int .i64 p0), .msl 2 0 (List.length y2) (List.length (rowI e62 y2)) false], .p (.int .i64 0)]) (ai (rfl : (2:Nat) = 2) (ai (by decide : (2:Nat) ≤ 2) trivial)) (by kernel_rfl) (.tup _ _ (.cons _ _ _ _ (.agg _ _ (.cons _ _ _ _ (.p _ _ (.refl _)) (.cons _ _ _ _ (snap_row (g := 2) (L := y2) el62 (by kernel_rfl) (rl (List.length (rowI e62 y2))) (rl (List.length y2))) .nil))) (.cons _ _ _ _ (.p _ _ (.refl _)) .nil)))
    | .inr (y2), h3, g3 =>
      have hr := Option.some.inj g3
      subst hr
      exact callP_of is37 rfl (path hm (ks := [2, 3]) (σ' := ⟨[(2, .ptr 0 0 2), (3, .p (.int .i64 0))], [.cells [.p (.int .i64 p0), .p (.nilsl)] 0, .cells [.p (.int .i64 p0), .p (.nilsl)] 0]⟩) (cc := c88 ++ [.leaf (.exit 0) ⟨[(2, .ptr 0 0 2), (4, .ptr 1 0 2)], [.cells [.p (.int .i64 0), .p (.nilsl)] 0, .cells [.p (.int .i64 p0), .p (.nilsl)] 0]⟩, .reg [] [] 0 [] [2, 3]])
      (ai (F44_ok fuel 1 8 [p0] true _ h1) (ai (SemJ.loop (L37_0_ok p0 p0 p0 fuel 0 _ h3)) trivial)) (by kernel_rfl)) (e := .ret) rfl (vs := [.agg [.p (.int .i64 p0), .p (.nilsl)], .p (.int .i64 0)]) (ai (rfl : (2:Nat) = 2) (ai (by decide : (2:Nat) ≤ 2) trivial)) (by kernel_rfl) (.tup _ _ (.cons _ _ _ _ (.agg _ _ (.cons _ _ _ _ (.p _ _ (.refl _)) (.cons _ _ _ _ (.p _ _ (.nil _)) .nil))) (.cons _ _ _ _ (.p _ _ (.refl _)) .nil)))
  · subst h2
    have hr := Option.some.inj g2
    subst hr
    exact callP_of is37 rfl (path hm (ks := [2, 3]) (σ' := ⟨[(2, .ptr 0 0 2), (3, .p (.int .i64 6))], [.cells [.p (.int .i64 0), .p (.nilsl)] 0]⟩) (cc := [.reg [] [] 1 [(0, some 0, .a)] [0, 2], .reg [] [] 0 [(2, none, .call (.bool false))] [0, 2, 10], .reg [] [] 0 [] [2, 3]])
      (ai (F44_ok fuel 1 8 [p0] true _ h1) trivial) (by kernel_rfl)) (e := .ret) rfl (vs := [.agg [.p (.int .i64 0), .p (.nilsl)], .p (.int .i64 6)]) (ai (rfl : (2:Nat) = 2) (ai (by decide : (2:Nat) ≤ 2) trivial)) (by kernel_rfl) (.tup _ _ (.cons _ _ _ _ (.agg _ _ (.cons _ _ _ _ (.p _ _ (.refl _)) (.cons _ _ _ _ (.p _ _ (.nil _)) .nil))) (.cons _ _ _ _ (.p _ _ (.refl _)) .nil)))
def L38_0  (v0 : Int) : Nat → Int → Option Int
  | 0, _ => none
  | fuel + 1, v4 =>
    oif ((decide (v4 < v0)))
    (L38_0 v0 fuel (IntKind.wrap .i64 (v4 * 2)))
    (some (v4))
noncomputable def L38_0_post (v0 : Int)  : Int → Ex × St
  | y => ((.exit 0), ⟨[(0, .p (.int .i64 v0)), (2, .ptr 0 0 2), (4, .p (.int .i64 y))], [.cells [.p (.int .i64 0), .p (.nilsl)] 0]⟩)
theorem L38_0_ok  (v0 : Int)  : ∀ (fuel : Nat) (v4 : Int) (r : Int), L38_0 v0 fuel v4 = some r →
    SemJ prog ⟨49, 0, false⟩ (codeAt [1, 1, 1, 0, 0, 0] (bodyOf f38)) ⟨[(0, .p (.int .i64 v0)), (2, .ptr 0 0 2), (4, .p (.int .i64 v4))], [.cells [.p (.int .i64 0), .p (.nilsl)] 0]⟩ (L38_0_post v0 r).1 (L38_0_post v0 r).2
  | 0, _, _, h => nomatch h
  | fuel + 1, v4, r, h => by
    unfold L38_0 at h
    refine oif_elim h (fun h1 g1 => ?_) (fun h1 g1 => ?_)
    · exact SemJ.again (σ1 := ⟨[(0, .p (.int .i64 v0)), (2, .ptr 0 0 2), (4, .p (.int .i64 (IntKind.wrap .i64 (v4 * 2))))], [.cells [.p (.int .i64 0), .p (.nilsl)] 0]⟩) (path hm (σ' := ⟨[(0, .p (.int .i64 v0)), (2, .ptr 0 0 2), (4, .p (.int .i64 (IntKind.wrap .i64 (v4 * 2))))], [.cells [.p (.int .i64 0), .p (.nilsl)] 0]⟩) (ks := [0, 2, 4]) (cc := [.reg [] [] 0 [(2, none, .b true)] [0, 2, 4, 15], .reg [] [] 0 [] [0, 2, 4]])
        (ai h1 trivial) (by kernel_rfl)) (L38_0_ok v0 fuel (IntKind.wrap .i64 (v4 * 2)) _ g1)
    · have hr := Option.some.inj g1
      subst hr
      exact SemC.cast (SemJ.out (e := (.exit 0)) (path hm (σ' := ⟨[(0, .p (.int .i64 v0)), (2, .ptr 0 0 2), (4, .p (.int .i64 v4))], [.cells [.p (.int .i64 0), .p (.nilsl)] 0]⟩) (ks := [0, 2, 4]) (cc := [.reg [] [] 0 [(2, none, .b false)] [0, 2, 4, 15]])
        (ai h1 trivial) (by kernel_rfl)) (by simp)) (by kernel_rfl) (by kernel_rfl)
def L60_1_2  (v1 : Int) (v2 : Int) (v3 : Int) (v15 : Int) (w0 : Int) (w1 : Int) : Nat → Int → (List (Int × Int)) → Option (List (Int × Int))
  | 0, _, _ => none
  | fuel + 1, v16, w3 =>
    oif ((decide (v16 < v15)))
    (oif (decide (v1 ≠ 0)) (oif (((Int.tmod (IntKind.wrap .i64 (Int.tdiv v16 v1)) 2) == v3))
      (oif (decide (((List.length w3) + 1) * 16 ≤ 140737488355328)) (L60_1_2 v1 v2 v3 v15 w0 w1 fuel (IntKind.wrap .i64 (v16 + 1)) (w3 ++ [(v16, (IntKind.wrap .i64 (v16 + v2)))])) none)
      (L60_1_2 v1 v2 v3 v15 w0 w1 fuel (IntKind.wrap .i64 (v16 + 1)) w3)) none)
    (some (w3))
noncomputable def L60_1_2_post (v1 : Int) (v2 : Int) (v3 : Int) (v15 : Int) (w0 : Int) (w1 : Int)  : (List (Int × Int)) → Ex × St
  | y => ((.exit 0), ⟨[], [.cells [.p (.int .i64 w0), .p (.nilsl)] 0, .cells [.p (.int .i64 w1), .msl 3 0 (List.length y) (List.length (rowI e62 y)) false] 0, .hole, .cells (rowI e62 y) 2]⟩)
theorem L60_1_2_ok  (v1 : Int) (v2 : Int) (v3 : Int) (v15 : Int) (w0 : Int) (w1 : Int)  : ∀ (fuel : Nat) (v16 : Int) (w3 : (List (Int × Int))) (r : (List (Int × Int))), L60_1_2 v1 v2 v3 v15 w0 w1 fuel v16 w3 = some r →
    SemJ prog ⟨42, 3, false⟩ (codeAt [1, 0, 0] (bodyOf f60)) ⟨[(0, .ptr 1 0 2), (1, .p (.int .i64 v1)), (2, .p (.int .i64 v2)), (3, .p (.int .i64 v3)), (15, .p (.int .i64 v15)), (16, .p (.int .i64 v16))], [.cells [.p (.int .i64 w0), .p (.nilsl)] 0, .cells [.p (.int .i64 w1), .msl 3 0 (List.length w3) (List.length (rowI e62 w3)) false] 0, .hole, .cells (rowI e62 w3) 2]⟩ (L60_1_2_post v1 v2 v3 v15 w0 w1 r).1 (L60_1_2_post v1 v2 v3 v15 w0 w1 r).2
  | 0, _, _, _, h => nomatch h
  | fuel + 1, v16, w3, r, h => by
    unfold L60_1_2 at h
    refine oif_elim h (fun h1 g1 => ?_) (fun h1 g1 => ?_)
    · refine oif_elim g1 (fun h2 g2 => ?_) (fun _ h => nomatch h)
      let c93 : List CC := [.reg [] [] 0 [(0, none, .b true)] [0, 1, 2, 3, 15, 16, 17], .reg [] [] 0 [] [0, 1, 2, 3, 8, 15, 16]]
      refine oif_elim g2 (fun h3 g3 => ?_) (fun h3 g3 => ?_)
      · refine oif_elim g3 (fun h4 g4 => ?_) (fun _ h => nomatch h)
        exact SemJ.again (σ1 := ⟨[(0, .ptr 1 0 2), (1, .p (.int .i64 v1)), (2, .p (.int .i64 v2)), (3, .p (.int .i64 v3)), (15, .p (.int .i64 v15)), (16, .p (.int .i64 (IntKind.wrap .i64 (v16 + 1))))], [.cells [.p (.int .i64 w0), .p (.nilsl)] 0, .cells [.p (.int .i64 w1), .msl 3 0 (List.length (w3 ++ [(v16, (IntKind.wrap .i64 (v16 + v2)))])) (List.length (rowI e62 (w3 ++ [(v16, (IntKind.wrap .i64 (v16 + v2)))]))) false] 0, .hole, .cells (rowI e62 (w3 ++ [(v16, (IntKind.wrap .i64 (v16 + v2)))])) 2]⟩) (path hm (σ' := ⟨[(0, .ptr 1 0 2), (1, .p (.int .i64 v1)), (2, .p (.int .i64 v2)), (3, .p (.int .i64 v3)), (15, .p (.int .i64 v15)), (16, .p (.int .i64 (IntKind.wrap .i64 (v16 + 1))))], [.cells [.p (.int .i64 w0), .p (.nilsl)] 0, .cells [.p (.int .i64 w1), .msl 3 0 (List.length (w3 ++ [(v16, (IntKind.wrap .i64 (v16 + v2)))])) (List.length (rowI e62 (w3 ++ [(v16, (IntKind.wrap .i64 (v16 + v2)))]))) false] 0, .hole, .cells (rowI e62 (w3 ++ [(v16, (IntKind.wrap .i64 (v16 + v2)))])) 2]⟩) (ks := [0, 1, 2, 3, 15, 16]) (cc := c93 ++ [.reg [] [] 0 [(5, none, .b true)] [0, 1, 2, 3, 8, 15, 16, 24], .reg [] [] 0 [(12, none, .ap (rowI e62 (w3 ++ [(v16, (IntKind.wrap .i64 (v16 + v2)))])) (List.length (w3 ++ [(v16, (IntKind.wrap .i64 (v16 + v2)))])) (List.length (rowI e62 (w3 ++ [(v16, (IntKind.wrap .i64 (v16 + v2)))]))))] [0, 1, 2, 3, 15, 16], .reg [] [] 0 [] [0, 1, 2, 3, 15, 16]])
        (ai h1 (ai (od h2) (ai (by decide : (2 : Int) ≠ 0) (ai h3 (ai (by decide : 0 < 1) (ai (od h4) (ai (app_c2 (by decide) (od h4)) (ai (app_len e62 [(v16, (IntKind.wrap .i64 (v16 + v2)))] (rl (List.length w3))) (ai (rl (List.length (rowI e62 (w3 ++ [(v16, (IntKind.wrap .i64 (v16 + v2)))])))) (ai (row_app e62 w3 [(v16, (IntKind.wrap .i64 (v16 + v2)))]) (ai (rl (List.length (rowI e62 w3))) (ai (row_sz el62 (rl (List.length (rowI e62 w3))) (rl (List.length w3))) (ai (row_sc el62 [(v16, (IntKind.wrap .i64 (v16 + v2)))]) (ai (row_es el62 [(v16, (IntKind.wrap .i64 (v16 + v2)))]) trivial)))))))))))))) (by kernel_rfl)) (L60_1_2_ok v1 v2 v3 v15 w0 w1 fuel (IntKind.wrap .i64 (v16 + 1)) (w3 ++ [(v16, (IntKind.wrap .i64 (v16 + v2)))]) _ g4)
      · exact SemJ.again (σ1 := ⟨[(0, .ptr 1 0 2), (1, .p (.int .i64 v1)), (2, .p (.int .i64 v2)), (3, .p (.int .i64 v3)), (15, .p (.int .i64 v15)), (16, .p (.int .i64 (IntKind.wrap .i64 (v16 + 1))))], [.cells [.p (.int .i64 w0), .p (.nilsl)] 0, .cells [.p (.int .i64 w1), .msl 3 0 (List.length w3) (List.length (rowI e62 w3)) false] 0, .hole, .cells (rowI e62 w3) 2]⟩) (path hm (σ' := ⟨[(0, .ptr 1 0 2), (1, .p (.int .i64 v1)), (2, .p (.int .i64 v2)), (3, .p (.int .i64 v3)), (15, .p (.int .i64 v15)), (16, .p (.int .i64 (IntKind.wrap .i64 (v16 + 1))))], [.cells [.p (.int .i64 w0), .p (.nilsl)] 0, .cells [.p (.int .i64 w1), .msl 3 0 (List.length w3) (List.length (rowI e62 w3)) false] 0, .hole, .cells (rowI e62 w3) 2]⟩) (ks := [0, 1, 2, 3, 15, 16]) (cc := c93 ++ [.reg [] [] 0 [(5, none, .b false)] [0, 1, 2, 3, 8, 15, 16, 24], .reg [] [] 0 [] [0, 1, 2, 3, 15, 16]])
        (ai h1 (ai (od h2) (ai (by decide : (2 : Int) ≠ 0) (ai h3 trivial)))) (by kernel_rfl)) (L60_1_2_ok v1 v2 v3 v15 w0 w1 fuel (IntKind.wrap .i64 (v16 + 1)) w3 _ g3)
    · have hr := Option.some.inj g1
      subst hr
      exact SemC.cast (SemJ.out (e := (.exit 0)) (path hm (σ' := ⟨[], [.cells [.p (.int .i64 w0), .p (.nilsl)] 0, .cells [.p (.int .i64 w1), .msl 3 0 (List.length w3) (List.length (rowI e62 w3)) false] 0, .hole, .cells (rowI e62 w3) 2]⟩) (ks := []) (cc := [.reg [] [] 0 [(0, none, .b false)] [0, 1, 2, 3, 15, 16, 17]])
        (ai h1 trivial) (by kernel_rfl)) (by simp)) (by kernel_rfl) (by kernel_rfl)
def L60_1_0  (v1 : Int) (v2 : Int) (v3 : Int) (v15 : Int) (w0 : Int) (w1 : Int) : Nat → Int → Option ((List (Int × Int)) ⊕ Unit)
  | 0, _ => none
  | fuel + 1, v16 =>
    oif ((decide (v16 < v15)))
    (oif (decide (v1 ≠ 0)) (oif (((Int.tmod (IntKind.wrap .i64 (Int.tdiv v16 v1)) 2) == v3))
      (oif (decide (1 * 16 ≤ 140737488355328)) (obind (L60_1_2 v1 v2 v3 v15 w0 w1 fuel (IntKind.wrap .i64 (v16 + 1)) [(v16, (IntKind.wrap .i64 (v16 + v2)))]) fun y1 => some (.inl y1)) none)
      (L60_1_0 v1 v2 v3 v15 w0 w1 fuel (IntKind.wrap .i64 (v16 + 1)))) none)
    (some (.inr (())))
noncomputable def L60_1_0_post (v1 : Int) (v2 : Int) (v3 : Int) (v15 : Int) (w0 : Int) (w1 : Int)  : ((List (Int × Int)) ⊕ Unit) → Ex × St
  | .inl y => ((.exit 0), ⟨[], [.cells [.p (.int .i64 w0), .p (.nilsl)] 0, .cells [.p (.int .i64 w1), .msl 3 0 (List.length y) (List.length (rowI e62 y)) false] 0, .hole, .cells (rowI e62 y) 2]⟩)
  | .inr (y) => ((.exit 0), ⟨[], [.cells [.p (.int .i64 w0), .p (.nilsl)] 0, .cells [.p (.int .i64 w1), .p (.nilsl)] 0, .hole]⟩)
theorem L60_1_0_ok  (v1 : Int) (v2 : Int) (v3 : Int) (v15 : Int) (w0 : Int) (w1 : Int)  : ∀ (fuel : Nat) (v16 : Int) (r : ((List (Int × Int)) ⊕ Unit)), L60_1_0 v1 v2 v3 v15 w0 w1 fuel v16 = some r →
    SemJ prog ⟨42, 3, false⟩ (codeAt [1, 0, 0] (bodyOf f60)) ⟨[(0, .ptr 1 0 2), (1, .p (.int .i64 v1)), (2, .p (.int .i64 v2)), (3, .p (.int .i64 v3)), (15, .p (.int .i64 v15)), (16, .p (.int .i64 v16))], [.cells [.p (.int .i64 w0), .p (.nilsl)] 0, .cells [.p (.int .i64 w1), .p (.nilsl)] 0, .hole]⟩ (L60_1_0_post v1 v2 v3 v15 w0 w1 r).1 (L60_1_0_post v1 v2 v3 v15 w0 w1 r).2
  | 0, _, _, h => nomatch h
  | fuel + 1, v16, r, h => by
    unfold L60_1_0 at h
    refine oif_elim h (fun h1 g1 => ?_) (fun h1 g1 => ?_)
    · refine oif_elim g1 (fun h2 g2 => ?_) (fun _ h => nomatch h)
      let c94 : List CC := [.reg [] [] 0 [(0, none, .b true)] [0, 1, 2, 3, 15, 16, 17], .reg [] [] 0 [] [0, 1, 2, 3, 8, 15, 16]]
      refine oif_elim g2 (fun h3 g3 => ?_) (fun h3 g3 => ?_)
      · refine oif_elim g3 (fun h4 g4 => ?_) (fun _ h => nomatch h)
        refine obind_elim g4 fun y1 h5 g5 => ?_
        have hr := Option.some.inj g5
        subst hr
        exact SemC.cast (SemJ.again (σ1 := ⟨[(0, .ptr 1 0 2), (1, .p (.int .i64 v1)), (2, .p (.int .i64 v2)), (3, .p (.int .i64 v3)), (15, .p (.int .i64 v15)), (16, .p (.int .i64 (IntKind.wrap .i64 (v16 + 1))))], [.cells [.p (.int .i64 w0), .p (.nilsl)] 0, .cells [.p (.int .i64 w1), .msl 3 0 (List.length [(v16, (IntKind.wrap .i64 (v16 + v2)))]) (List.length (rowI e62 [(v16, (IntKind.wrap .i64 (v16 + v2)))])) false] 0, .hole, .cells (rowI e62 [(v16, (IntKind.wrap .i64 (v16 + v2)))]) 2]⟩) (path hm (σ' := ⟨[(0, .ptr 1 0 2), (1, .p (.int .i64 v1)), (2, .p (.int .i64 v2)), (3, .p (.int .i64 v3)), (15, .p (.int .i64 v15)), (16, .p (.int .i64 (IntKind.wrap .i64 (v16 + 1))))], [.cells [.p (.int .i64 w0), .p (.nilsl)] 0, .cells [.p (.int .i64 w1), .msl 3 0 (List.length [(v16, (IntKind.wrap .i64 (v16 + v2)))]) (List.length (rowI e62 [(v16, (IntKind.wrap .i64 (v16 + v2)))])) false] 0, .hole, .cells (rowI e62 [(v16, (IntKind.wrap .i64 (v16 + v2)))]) 2]⟩) (ks := [0, 1, 2, 3, 15, 16]) (cc := c94 ++ [.reg [] [] 0 [(5, none, .b true)] [0, 1, 2, 3, 8, 15, 16, 24], .reg [] [] 1 [(12, some 3, .ap (rowI e62 [(v16, (IntKind.wrap .i64 (v16 + v2)))]) (List.length [(v16, (IntKind.wrap .i64 (v16 + v2)))]) (List.length (rowI e62 [(v16, (IntKind.wrap .i64 (v16 + v2)))])))] [0, 1, 2, 3, 15, 16], .reg [] [] 0 [] [0, 1, 2, 3, 15, 16]])
        (ai h1 (ai (od h2) (ai (by decide : (2 : Int) ≠ 0) (ai h3 (ai (by decide : 0 < 1) (ai (od h4) (ai (app_c0 (by decide) (od h4)) (ai (rl (List.length [(v16, (IntKind.wrap .i64 (v16 + v2)))])) (ai (rl (List.length (rowI e62 [(v16, (IntKind.wrap .i64 (v16 + v2)))]))) (ai (row_src e62 [(v16, (IntKind.wrap .i64 (v16 + v2)))]) (ai (row_sc el62 [(v16, (IntKind.wrap .i64 (v16 + v2)))]) (ai (row_es el62 [(v16, (IntKind.wrap .i64 (v16 + v2)))]) trivial)))))))))))) (by kernel_rfl)) (L60_1_2_ok v1 v2 v3 v15 w0 w1 fuel (IntKind.wrap .i64 (v16 + 1)) [(v16, (IntKind.wrap .i64 (v16 + v2)))] _ h5)) (by kernel_rfl) (by kernel_rfl)
      · exact SemJ.again (σ1 := ⟨[(0, .ptr 1 0 2), (1, .p (.int .i64 v1)), (2, .p (.int .i64 v2)), (3, .p (.int .i64 v3)), (15, .p (.int .i64 v15)), (16, .p (.int .i64 (IntKind.wrap .i64 (v16 + 1))))], [.cells [.p (.int .i64 w0), .p (.nilsl)] 0, .cells [.p (.int .i64 w1), .p (.nilsl)] 0, .hole]⟩) (path hm (σ' := ⟨[(0, .ptr 1 0 2), (1, .p (.int .i64 v1)), (2, .p (.int .i64 v2)), (3, .p (.int .i64 v3)), (15, .p (.int .i64 v15)), (16, .p (.int .i64 (IntKind.wrap .i64 (v16 + 1))))], [.cells [.p (.int .i64 w0), .p (.nilsl)] 0, .cells [.p (.int .i64 w1), .p (.nilsl)] 0, .hole]⟩) (ks := [0, 1, 2, 3, 15, 16]) (cc := c94 ++ [.reg [] [] 0 [(5, none, .b false)] [0, 1, 2, 3, 8, 15, 16, 24], .reg [] [] 0 [] [0, 1, 2, 3, 15, 16]])
        (ai h1 (ai (od h2) (ai (by decide : (2 : Int) ≠ 0) (ai h3 trivial)))) (by kernel_rfl)) (L60_1_0_ok v1 v2 v3 v15 w0 w1 fuel (IntKind.wrap .i64 (v16 + 1)) _ g3)
    · have hr := Option.some.inj g1
      subst hr
      exact SemC.cast (SemJ.out (e := (.exit 0)) (path hm (σ' := ⟨[], [.cells [.p (.int .i64 w0), .p (.nilsl)] 0, .cells [.p (.int .i64 w1), .p (.nilsl)] 0, .hole]⟩) (ks := []) (cc := [.reg [] [] 0 [(0, none, .b false)] [0, 1, 2, 3, 15, 16, 17]])
        (ai h1 trivial) (by kernel_rfl)) (by simp)) (by kernel_rfl) (by kernel_rfl)
def G60_1  (fuel : Nat) (p1 : Int) (p2 : Int) (p3 : Int) (w0 : Int) (w1 : Int) : Option ((List (Int × Int)) ⊕ Unit) :=
  (obind (L60_1_0 p1 p2 p3 (IntKind.wrap .i64 (w1 - p2)) w0 w1 fuel 0) fun y1 => match y1 with
  | .inl y1 => some (.inl y1)
  | .inr (y1) => some (.inr (())))
noncomputable def G60_1_post (p1 : Int) (p2 : Int) (p3 : Int) (w0 : Int) (w1 : Int)  : ((List (Int × Int)) ⊕ Unit) → IV × List MObj
  | .inl y => (.tup [], [.cells [.p (.int .i64 w0), .p (.nilsl)] 0, .cells [.p (.int .i64 w1), .msl 2 0 (List.length y) (List.length (rowI e62 y)) false] 0, .cells (rowI e62 y) 2])
  | .inr (y) => (.tup [], [.cells [.p (.int .i64 w0), .p (.nilsl)] 0, .cells [.p (.int .i64 w1), .p (.nilsl)] 0, .hole])
theorem G60_1_ok  (fuel : Nat) (p1 : Int) (p2 : Int) (p3 : Int) (w0 : Int) (w1 : Int)  (r : ((List (Int × Int)) ⊕ Unit)) (h : G60_1 fuel p1 p2 p3 w0 w1 = some r) : CallI prog 60 [.ptr 1 0 2, .p (.int .i64 p1), .p (.int .i64 p2), .p (.int .i64 p3)] [.cells [.p (.int .i64 w0), .p (.nilsl)] 0, .cells [.p (.int .i64 w1), .p (.nilsl)] 0, .hole] (G60_1_post p1 p2 p3 w0 w1 r).1 (G60_1_post p1 p2 p3 w0 w1 r).2 := by
  unfold G60_1 at h
  refine obind_elim h fun y h1 g1 => ?_
  match y, h1, g1 with
  | .inl y1, h1, g1 =>
    have hr := Option.some.inj g1
    subst hr
    exact CallI.cast (callI_of is60 (by kernel_rfl) (m := 3) (by kernel_rfl) (e := .normal) (vs := []) (SemC.post (path hm (ks := []) (σ' := ⟨[], [.cells [.p (.int .i64 w0), .p (.nilsl)] 0, .cells [.p (.int .i64 w1), .msl 3 0 (List.length y1) (List.length (rowI e62 y1)) false] 0, .hole, .cells (rowI e62 y1) 2]⟩) (cc := [.reg [] [] 0 [] [0, 1, 2, 3, 15, 16], .leaf (.exit 0) ⟨[], [.cells [.p (.int .i64 w0), .p (.nilsl)] 0, .cells [.p (.int .i64 w1), .msl 3 0 (List.length y1) (List.length (rowI e62 y1)) false] 0, .hole, .cells (rowI e62 y1) 2]⟩])
      (ai (SemJ.loop (L60_1_0_ok p1 p2 p3 (IntKind.wrap .i64 (w1 - p2)) w0 w1 fuel 0 _ h1)) trivial) (by kernel_rfl)) (Weak.sel (E := []) (E' := []) (H := [.cells [.p (.int .i64 w0), .p (.nilsl)] 0, .cells [.p (.int .i64 w1), .msl 3 0 (List.length y1) (List.length (rowI e62 y1)) false] 0, .hole, .cells (rowI e62 y1) 2]) (H' := [.cells [.p (.int .i64 w0), .p (.nilsl)] 0, .cells [.p (.int .i64 w1), .msl 2 0 (List.length y1) (List.length (rowI e62 y1)) false] 0, .cells (rowI e62 y1) 2]) [0, 1, 3] (selH_cons (o := .cells [.p (.int .i64 w0), .p (.nilsl)] 0) (o' := .cells [.p (.int .i64 w0), .p (.nilsl)] 0) (by kernel_rfl) (sel_x (by kernel_rfl)) (selH_cons (o := .cells [.p (.int .i64 w1), .msl 3 0 (List.length y1) (List.length (rowI e62 y1)) false] 0) (o' := .cells [.p (.int .i64 w1), .msl 2 0 (List.length y1) (List.length (rowI e62 y1)) false] 0) (by kernel_rfl) (sel_x (by kernel_rfl)) (selH_cons (o := .cells (rowI e62 y1) 2) (o' := .cells (rowI e62 y1) 2) (by kernel_rfl) sel_row trivial))) (by kernel_rfl) (by kernel_rfl))) rfl (show True from trivial) (by kernel_rfl)) (by kernel_rfl)
  | .inr (y1), h1, g1 =>
    have hr := Option.some.inj g1
    subst hr
    exact CallI.cast (callI_of is60 (by kernel_rfl) (m := 3) (by kernel_rfl) (e := .normal) (vs := []) (path hm (ks := []) (σ' := ⟨[], [.cells [.p (.int .i64 w0), .p (.nilsl)] 0, .cells [.p (.int .i64 w1), .p (.nilsl)] 0, .hole]⟩) (cc := [.reg [] [] 0 [] [0, 1, 2, 3, 15, 16], .leaf (.exit 0) ⟨[], [.cells [.p (.int .i64 w0), .p (.nilsl)] 0, .cells [.p (.int .i64 w1), .p (.nilsl)] 0, .hole]⟩])
      (ai (SemJ.loop (L60_1_0_ok p1 p2 p3 (IntKind.wrap .i64 (w1 - p2)) w0 w1 fuel 0 _ h1)) trivial) (by kernel_rfl)) rfl (show True from trivial) (by kernel_rfl)) (by kernel_rfl)
def L60_3_0  (v1 : Int) (v2 : Int) (v3 : Int) (v15 : Int) (w0 : Int) (w1 : Int) : Nat → Int → (List (Int × Int)) → Option (List (Int × Int))
  | 0, _, _ => none
  | fuel + 1, v16, w2 =>
    oif ((decide (v16 < v15)))
    (oif (decide (v1 ≠ 0)) (oif (((Int.tmod (IntKind.wrap .i64 (Int.tdiv v16 v1)) 2) == v3))
      (oif (decide (((List.length w2) + 1) * 16 ≤ 140737488355328)) (L60_3_0 v1 v2 v3 v15 w0 w1 fuel (IntKind.wrap .i64 (v16 + 1)) (w2 ++ [(v16, (IntKind.wrap .i64 (v16 + v2)))])) none)
      (L60_3_0 v1 v2 v3 v15 w0 w1 fuel (IntKind.wrap .i64 (v16 + 1)) w2)) none)
    (some (w2))
noncomputable def L60_3_0_post (v1 : Int) (v2 : Int) (v3 : Int) (v15 : Int) (w0 : Int) (w1 : Int)  : (List (Int × Int)) → Ex × St
  | y => ((.exit 0), ⟨[], [.cells [.p (.int .i64 w0), .p (.nilsl)] 0, .cells [.p (.int .i64 w1), .msl 2 0 (List.length y) (List.length (rowI e62 y)) false] 0, .cells (rowI e62 y) 2]⟩)
theorem L60_3_0_ok  (v1 : Int) (v2 : Int) (v3 : Int) (v15 : Int) (w0 : Int) (w1 : Int)  : ∀ (fuel : Nat) (v16 : Int) (w2 : (List (Int × Int))) (r : (List (Int × Int))), L60_3_0 v1 v2 v3 v15 w0 w1 fuel v16 w2 = some r →
    SemJ prog ⟨42, 3, false⟩ (codeAt [1, 0, 0] (bodyOf f60)) ⟨[(0, .ptr 1 0 2), (1, .p (.int .i64 v1)), (2, .p (.int .i64 v2)), (3, .p (.int .i64 v3)), (15, .p (.int .i64 v15)), (16, .p (.int .i64 v16))], [.cells [.p (.int .i64 w0), .p (.nilsl)] 0, .cells [.p (.int .i64 w1), .msl 2 0 (List.length w2) (List.length (rowI e62 w2)) false] 0, .cells (rowI e62 w2) 2]⟩ (L60_3_0_post v1 v2 v3 v15 w0 w1 r).1 (L60_3_0_post v1 v2 v3 v15 w0 w1 r).2
  | 0, _, _, _, h => nomatch h
  | fuel + 1, v16, w2, r, h => by
    unfold L60_3_0 at h
    refine oif_elim h (fun h1 g1 => ?_) (fun h1 g1 => ?_)
    · refine oif_elim g1 (fun h2 g2 => ?_) (fun _ h => nomatch h)
      let c98 : List CC := [.reg [] [] 0 [(0, none, .b true)] [0, 1, 2, 3, 15, 16, 17], .reg [] [] 0 [] [0, 1, 2, 3, 8, 15, 16]]
      refine oif_elim g2 (fun h3 g3 => ?_) (fun h3 g3 => ?_)
      · refine oif_elim g3 (fun h4 g4 => ?_) (fun _ h => nomatch h)
        exact SemJ.again (σ1 := ⟨[(0, .ptr 1 0 2), (1, .p (.int .i64 v1)), (2, .p (.int .i64 v2)), (3, .p (.int .i64 v3)), (15, .p (.int .i64 v15)), (16, .p (.int .i64 (IntKind.wrap .i64 (v16 + 1))))], [.cells [.p (.int .i64 w0), .p (.nilsl)] 0, .cells [.p (.int .i64 w1), .msl 2 0 (List.length (w2 ++ [(v16, (IntKind.wrap .i64 (v16 + v2)))])) (List.length (rowI e62 (w2 ++ [(v16, (IntKind.wrap .i64 (v16 + v2)))]))) false] 0, .cells (rowI e62 (w2 ++ [(v16, (IntKind.wrap .i64 (v16 + v2)))])) 2]⟩) (path hm (σ' := ⟨[(0, .ptr 1 0 2), (1, .p (.int .i64 v1)), (2, .p (.int .i64 v2)), (3, .p (.int .i64 v3)), (15, .p (.int .i64 v15)), (16, .p (.int .i64 (IntKind.wrap .i64 (v16 + 1))))], [.cells [.p (.int .i64 w0), .p (.nilsl)] 0, .cells [.p (.int .i64 w1), .msl 2 0 (List.length (w2 ++ [(v16, (IntKind.wrap .i64 (v16 + v2)))])) (List.length (rowI e62 (w2 ++ [(v16, (IntKind.wrap .i64 (v16 + v2)))]))) false] 0, .cells (rowI e62 (w2 ++ [(v16, (IntKind.wrap .i64 (v16 + v2)))])) 2]⟩) (ks := [0, 1, 2, 3, 15, 16]) (cc := c98 ++ [.reg [] [] 0 [(5, none, .b true)] [0, 1, 2, 3, 8, 15, 16, 24], .reg [] [] 0 [(12, none, .ap (rowI e62 (w2 ++ [(v16, (IntKind.wrap .i64 (v16 + v2)))])) (List.length (w2 ++ [(v16, (IntKind.wrap .i64 (v16 + v2)))])) (List.length (rowI e62 (w2 ++ [(v16, (IntKind.wrap .i64 (v16 + v2)))]))))] [0, 1, 2, 3, 15, 16], .reg [] [] 0 [] [0, 1, 2, 3, 15, 16]])
        (ai h1 (ai (od h2) (ai (by decide : (2 : Int) ≠ 0) (ai h3 (ai (by decide : 0 < 1) (ai (od h4) (ai (app_c2 (by decide) (od h4)) (ai (app_len e62 [(v16, (IntKind.wrap .i64 (v16 + v2)))] (rl (List.length w2))) (ai (rl (List.length (rowI e62 (w2 ++ [(v16, (IntKind.wrap .i64 (v16 + v2)))])))) (ai (row_app e62 w2 [(v16, (IntKind.wrap .i64 (v16 + v2)))]) (ai (rl (List.length (rowI e62 w2))) (ai (row_sz el62 (rl (List.length (rowI e62 w2))) (rl (List.length w2))) (ai (row_sc el62 [(v16, (IntKind.wrap .i64 (v16 + v2)))]) (ai (row_es el62 [(v16, (IntKind.wrap .i64 (v16 + v2)))]) trivial)))))))))))))) (by kernel_rfl)) (L60_3_0_ok v1 v2 v3 v15 w0 w1 fuel (IntKind.wrap .i64 (v16 + 1)) (w2 ++ [(v16, (IntKind.wrap .i64 (v16 + v2)))]) _ g4)
      · exact SemJ.again (σ1 := ⟨[(0, .ptr 1 0 2), (1, .p (.int .i64 v1)), (2, .p (.int .i64 v2)), (3, .p (.int .i64 v3)), (15, .p (.int .i64 v15)), (16, .p (.int .i64 (IntKind.wrap .i64 (v16 + 1))))], [.cells [.p (.int .i64 w0), .p (.nilsl)] 0, .cells [.p (.int .i64 w1), .msl 2 0 (List.length w2) (List.length (rowI e62 w2)) false] 0, .cells (rowI e62 w2) 2]⟩) (path hm (σ' := ⟨[(0, .ptr 1 0 2), (1, .p (.int .i64 v1)), (2, .p (.int .i64 v2)), (3, .p (.int .i64 v3)), (15, .p (.int .i64 v15)), (16, .p (.int .i64 (IntKind.wrap .i64 (v16 + 1))))], [.cells [.p (.int .i64 w0), .p (.nilsl)] 0, .cells [.p (.int .i64 w1), .msl 2 0 (List.length w2) (List.length (rowI e62 w2)) false] 0, .cells (rowI e62 w2) 2]⟩) (ks := [0, 1, 2, 3, 15, 16]) (cc := c98 ++ [.reg [] [] 0 [(5, none, .b false)] [0, 1, 2, 3, 8, 15, 16, 24], .reg [] [] 0 [] [0, 1, 2, 3, 15, 16]])
        (ai h1 (ai (od h2) (ai (by decide : (2 : Int) ≠ 0) (ai h3 trivial)))) (by kernel_rfl)) (L60_3_0_ok v1 v2 v3 v15 w0 w1 fuel (IntKind.wrap .i64 (v16 + 1)) w2 _ g3)
    · have hr := Option.some.inj g1
      subst hr
      exact SemC.cast (SemJ.out (e := (.exit 0)) (path hm (σ' := ⟨[], [.cells [.p (.int .i64 w0), .p (.nilsl)] 0, .cells [.p (.int .i64 w1), .msl 2 0 (List.length w2) (List.length (rowI e62 w2)) false] 0, .cells (rowI e62 w2) 2]⟩) (ks := []) (cc := [.reg [] [] 0 [(0, none, .b false)] [0, 1, 2, 3, 15, 16, 17]])
        (ai h1 trivial) (by kernel_rfl)) (by simp)) (by kernel_rfl) (by kernel_rfl)
def G60_3  (fuel : Nat) (p1 : Int) (p2 : Int) (p3 : Int) (w0 : Int) (w1 : Int) (w2 : (List (Int × Int))) : Option (List (Int × Int)) :=
  obind (L60_3_0 p1 p2 p3 (IntKind.wrap .i64 (w1 - p2)) w0 w1 fuel 0 w2) fun y1 => some y1
noncomputable def G60_3_post (p1 : Int) (p2 : Int) (p3 : Int) (w0 : Int) (w1 : Int) (w2 : (List (Int × Int)))  : (List (Int × Int)) → IV × List MObj
  | y => (.tup [], [.cells [.p (.int .i64 w0), .p (.nilsl)] 0, .cells [.p (.int .i64 w1), .msl 2 0 (List.length y) (List.length (rowI e62 y)) false] 0, .cells (rowI e62 y) 2])
theorem G60_3_ok  (fuel : Nat) (p1 : Int) (p2 : Int) (p3 : Int) (w0 : Int) (w1 : Int) (w2 : (List (Int × Int)))  (r : (List (Int × Int))) (h : G60_3 fuel p1 p2 p3 w0 w1 w2 = some r) : CallI prog 60 [.ptr 1 0 2, .p (.int .i64 p1), .p (.int .i64 p2), .p (.int .i64 p3)] [.cells [.p (.int .i64 w0), .p (.nilsl)] 0, .cells [.p (.int .i64 w1), .msl 2 0 (List.length w2) (List.length (rowI e62 w2)) false] 0, .cells (rowI e62 w2) 2] (G60_3_post p1 p2 p3 w0 w1 w2 r).1 (G60_3_post p1 p2 p3 w0 w1 w2 r).2 := by
  unfold G60_3 at h
  refine obind_elim h fun y1 h1 g1 => ?_
  have hr := Option.some.inj g1
  subst hr
  exact CallI.cast (callI_of is60 (by kernel_rfl) (m := 3) (by kernel_rfl) (e := .normal) (vs := []) (path hm (ks := []) (σ' := ⟨[], [.cells [.p (.int .i64 w0), .p (.nilsl)] 0, .cells [.p (.int .i64 w1), .msl 2 0 (List.length y1) (List.length (rowI e62 y1)) false] 0, .cells (rowI e62 y1) 2]⟩) (cc := [.reg [] [] 0 [] [0, 1, 2, 3, 15, 16], .leaf (.exit 0) ⟨[], [.cells [.p (.int .i64 w0), .p (.nilsl)] 0, .cells [.p (.int .i64 w1), .msl 2 0 (List.length y1) (List.length (rowI e62 y1)) false] 0, .cells (rowI e62 y1) 2]⟩])
      (ai (SemJ.loop (L60_3_0_ok p1 p2 p3 (IntKind.wrap .i64 (w1 - p2)) w0 w1 fuel 0 w2 _ h1)) trivial) (by kernel_rfl)) rfl (show True from trivial) (by kernel_rfl)) (by kernel_rfl)
def L38_2  (v4 : Int) (v6 : Int) (w1 : Int) : Nat → Int → (List (Int × Int)) → Option (List (Int × Int))
  | 0, _, _ => none
  | fuel + 1, v7, w2 =>
    oif ((decide (v7 > v6)))
    (obind (G60_3 fuel v6 (IntKind.wrap .i64 (v7 - v6)) 1 0 w1 w2) fun y1 => L38_2 v4 v6 w1 fuel (IntKind.wrap .i64 (Int.tdiv v7 2)) y1)
    (some (w2))
noncomputable def L38_2_post (v4 : Int) (v6 : Int) (w1 : Int)  : (List (Int × Int)) → Ex × St
  | y => ((.exit 4), ⟨[(2, .ptr 0 0 2), (4, .p (.int .i64 v4)), (5, .ptr 1 0 2), (6, .p (.int .i64 v6))], [.cells [.p (.int .i64 0), .p (.nilsl)] 0, .cells [.p (.int .i64 w1), .msl 2 0 (List.length y) (List.length (rowI e62 y)) false] 0, .cells (rowI e62 y) 2]⟩)
theorem L38_2_ok  (v4 : Int) (v6 : Int) (w1 : Int)  : ∀ (fuel : Nat) (v7 : Int) (w2 : (List (Int × Int))) (r : (List (Int × Int))), L38_2 v4 v6 w1 fuel v7 w2 = some r →
    SemJ prog ⟨49, 0, false⟩ (codeAt [1, 1, 1, 1, 1, 0, 1, 0, 0, 1, 0, 0, 1, 1, 0, 0] (bodyOf f38)) ⟨[(2, .ptr 0 0 2), (4, .p (.int .i64 v4)), (5, .ptr 1 0 2), (6, .p (.int .i64 v6)), (7, .p (.int .i64 v7))], [.cells [.p (.int .i64 0), .p (.nilsl)] 0, .cells [.p (.int .i64 w1), .msl 2 0 (List.length w2) (List.length (rowI e62 w2)) false] 0, .cells (rowI e62 w2) 2]⟩ (L38_2_post v4 v6 w1 r).1 (L38_2_post v4 v6 w1 r).2
  | 0, _, _, _, h => nomatch h
  | fuel + 1, v7, w2, r, h => by
    unfold L38_2 at h
    refine oif_elim h (fun h1 g1 => ?_) (fun h1 g1 => ?_)
    · refine obind_elim g1 fun y1 h2 g2 => ?_
      exact SemJ.again (σ1 := ⟨[(2, .ptr 0 0 2), (4, .p (.int .i64 v4)), (5, .ptr 1 0 2), (6, .p (.int .i64 v6)), (7, .p (.int .i64 (IntKind.wrap .i64 (Int.tdiv v7 2))))], [.cells [.p (.int .i64 0), .p (.nilsl)] 0, .cells [.p (.int .i64 w1), .msl 2 0 (List.length y1) (List.length (rowI e62 y1)) false] 0, .cells (rowI e62 y1) 2]⟩) (path hm (σ' := ⟨[(2, .ptr 0 0 2), (4, .p (.int .i64 v4)), (5, .ptr 1 0 2), (6, .p (.int .i64 v6)), (7, .p (.int .i64 (IntKind.wrap .i64 (Int.tdiv v7 2))))], [.cells [.p (.int .i64 0), .p (.nilsl)] 0, .cells [.p (.int .i64 w1), .msl 2 0 (List.length y1) (List.length (rowI e62 y1)) false] 0, .cells (rowI e62 y1) 2]⟩) (ks := [2, 4, 5, 6, 7]) (cc := [.reg [] [] 0 [(2, none, .b true)] [2, 4, 5, 6, 7, 36], .reg [] [] 0 [(5, none, .ci (.tup []) [(1, .cells [.p (.int .i64 w1), .msl 2 0 (List.length y1) (List.length (rowI e62 y1)) false] 0), (2, .cells (rowI e62 y1) 2)])] [2, 4, 5, 6, 7], .reg [] [] 0 [] [2, 4, 5, 6, 7]])
        (ai h1 (ai (G60_3_ok fuel v6 (IntKind.wrap .i64 (v7 - v6)) 1 0 w1 w2 _ h2) (ai (by decide : (2 : Int) ≠ 0) trivial))) (by kernel_rfl)) (L38_2_ok v4 v6 w1 fuel (IntKind.wrap .i64 (Int.tdiv v7 2)) y1 _ g2)
    · have hr := Option.some.inj g1
      subst hr
      exact SemC.cast (SemJ.out (e := (.exit 4)) (path hm (σ' := ⟨[(2, .ptr 0 0 2), (4, .p (.int .i64 v4)), (5, .ptr 1 0 2), (6, .p (.int .i64 v6))], [.cells [.p (.int .i64 0), .p (.nilsl)] 0, .cells [.p (.int .i64 w1), .msl 2 0 (List.length w2) (List.length (rowI e62 w2)) false] 0, .cells (rowI e62 w2) 2]⟩) (ks := [2, 4, 5, 6]) (cc := [.reg [] [] 0 [(2, none, .b false)] [2, 4, 5, 6, 7, 36]])
        (ai h1 trivial) (by kernel_rfl)) (by simp)) (by kernel_rfl) (by kernel_rfl)
def L38_3  (v4 : Int) (w1 : Int) : Nat → Int → (List (Int × Int)) → Option (List (Int × Int))
  | 0, _, _ => none
  | fuel + 1, v6, w2 =>
    oif ((decide (v6 > 0)))
    (obind (G60_3 fuel v6 v6 0 0 w1 w2) fun y1 => obind (L38_2 v4 v6 w1 fuel (IntKind.wrap .i64 (Int.tdiv v4 2)) y1) fun y2 => L38_3 v4 w1 fuel (IntKind.wrap .i64 (Int.tdiv v6 2)) y2)
    (some (w2))
noncomputable def L38_3_post (v4 : Int) (w1 : Int)  : (List (Int × Int)) → Ex × St
  | y => ((.exit 2), ⟨[(2, .ptr 0 0 2), (5, .ptr 1 0 2)], [.cells [.p (.int .i64 0), .p (.nilsl)] 0, .cells [.p (.int .i64 w1), .msl 2 0 (List.length y) (List.length (rowI e62 y)) false] 0, .cells (rowI e62 y) 2]⟩)
theorem L38_3_ok  (v4 : Int) (w1 : Int)  : ∀ (fuel : Nat) (v6 : Int) (w2 : (List (Int × Int))) (r : (List (Int × Int))), L38_3 v4 w1 fuel v6 w2 = some r →
    SemJ prog ⟨49, 0, false⟩ (codeAt [1, 1, 1, 1, 1, 0, 1, 0, 0] (bodyOf f38)) ⟨[(2, .ptr 0 0 2), (4, .p (.int .i64 v4)), (5, .ptr 1 0 2), (6, .p (.int .i64 v6))], [.cells [.p (.int .i64 0), .p (.nilsl)] 0, .cells [.p (.int .i64 w1), .msl 2 0 (List.length w2) (List.length (rowI e62 w2)) false] 0, .cells (rowI e62 w2) 2]⟩ (L38_3_post v4 w1 r).1 (L38_3_post v4 w1 r).2
  | 0, _, _, _, h => nomatch h
  | fuel + 1, v6, w2, r, h => by
    unfold L38_3 at h
    refine oif_elim h (fun h1 g1 => ?_) (fun h1 g1 => ?_)
    · refine obind_elim g1 fun y1 h2 g2 => ?_
      refine obind_elim g2 fun y2 h3 g3 => ?_
      exact SemJ.again (σ1 := ⟨[(2, .ptr 0 0 2), (4, .p (.int .i64 v4)), (5, .ptr 1 0 2), (6, .p (.int .i64 (IntKind.wrap .i64 (Int.tdiv v6 2))))], [.cells [.p (.int .i64 0), .p (.nilsl)] 0, .cells [.p (.int .i64 w1), .msl 2 0 (List.length y2) (List.length (rowI e62 y2)) false] 0, .cells (rowI e62 y2) 2]⟩) (path hm (σ' := ⟨[(2, .ptr 0 0 2), (4, .p (.int .i64 v4)), (5, .ptr 1 0 2), (6, .p (.int .i64 (IntKind.wrap .i64 (Int.tdiv v6 2))))], [.cells [.p (.int .i64 0), .p (.nilsl)] 0, .cells [.p (.int .i64 w1), .msl 2 0 (List.length y2) (List.length (rowI e62 y2)) false] 0, .cells (rowI e62 y2) 2]⟩) (ks := [2, 4, 5, 6]) (cc := [.reg [] [] 0 [(1, none, .b true)] [2, 4, 5, 6, 25], .reg [] [] 0 [(3, none, .ci (.tup []) [(1, .cells [.p (.int .i64 w1), .msl 2 0 (List.length y1) (List.length (rowI e62 y1)) false] 0), (2, .cells (rowI e62 y1) 2)])] [2, 4, 5, 6], .reg [] [] 0 [] [2, 4, 5, 6, 7], .leaf (.exit 4) ⟨[(2, .ptr 0 0 2), (4, .p (.int .i64 v4)), (5, .ptr 1 0 2), (6, .p (.int .i64 v6))], [.cells [.p (.int .i64 0), .p (.nilsl)] 0, .cells [.p (.int .i64 w1), .msl 2 0 (List.length y2) (List.length (rowI e62 y2)) false] 0, .cells (rowI e62 y2) 2]⟩, .reg [] [] 0 [] [2, 4, 5, 6]])
        (ai h1 (ai (G60_3_ok fuel v6 v6 0 0 w1 w2 _ h2) (ai (by decide : (2 : Int) ≠ 0) (ai (SemJ.loop (L38_2_ok v4 v6 w1 fuel (IntKind.wrap .i64 (Int.tdiv v4 2)) y1 _ h3)) (ai (by decide : (2 : Int) ≠ 0) trivial))))) (by kernel_rfl)) (L38_3_ok v4 w1 fuel (IntKind.wrap .i64 (Int.tdiv v6 2)) y2 _ g3)
    · have hr := Option.some.inj g1
      subst hr
      exact SemC.cast (SemJ.out (e := (.exit 2)) (path hm (σ' := ⟨[(2, .ptr 0 0 2), (5, .ptr 1 0 2)], [.cells [.p (.int .i64 0), .p (.nilsl)] 0, .cells [.p (.int .i64 w1), .msl 2 0 (List.length w2) (List.length (rowI e62 w2)) false] 0, .cells (rowI e62 w2) 2]⟩) (ks := [2, 5]) (cc := [.reg [] [] 0 [(1, none, .b false)] [2, 4, 5, 6, 25]])
        (ai h1 trivial) (by kernel_rfl)) (by simp)) (by kernel_rfl) (by kernel_rfl)
def L38_4  (v4 : Int) (v6 : Int) (w1 : Int) : Nat → Int → Option ((List (Int × Int)) ⊕ Unit)
  | 0, _ => none
  | fuel + 1, v7 =>
    oif ((decide (v7 > v6)))
    ((obind (G60_1 fuel v6 (IntKind.wrap .i64 (v7 - v6)) 1 0 w1) fun y1 => match y1 with
      | .inl y1 => obind (L38_2 v4 v6 w1 fuel (IntKind.wrap .i64 (Int.tdiv v7 2)) y1) fun y2 => some (.inl y2)
      | .inr (y1) => L38_4 v4 v6 w1 fuel (IntKind.wrap .i64 (Int.tdiv v7 2))))
    (some (.inr (())))
noncomputable def L38_4_post (v4 : Int) (v6 : Int) (w1 : Int)  : ((List (Int × Int)) ⊕ Unit) → Ex × St
  | .inl y => ((.exit 4), ⟨[(2, .ptr 0 0 2), (4, .p (.int .i64 v4)), (5, .ptr 1 0 2), (6, .p (.int .i64 v6))], [.cells [.p (.int .i64 0), .p (.nilsl)] 0, .cells [.p (.int .i64 w1), .msl 2 0 (List.length y) (List.length (rowI e62 y)) false] 0, .cells (rowI e62 y) 2]⟩)
  | .inr (y) => ((.exit 4), ⟨[(2, .ptr 0 0 2), (4, .p (.int .i64 v4)), (5, .ptr 1 0 2), (6, .p (.int .i64 v6))], [.cells [.p (.int .i64 0), .p (.nilsl)] 0, .cells [.p (.int .i64 w1), .p (.nilsl)] 0]⟩)
theorem L38_4_ok  (v4 : Int) (v6 : Int) (w1 : Int)  : ∀ (fuel : Nat) (v7 : Int) (r : ((List (Int × Int)) ⊕ Unit)), L38_4 v4 v6 w1 fuel v7 = some r →
    SemJ prog ⟨49, 0, false⟩ (codeAt [1, 1, 1, 1, 1, 0, 1, 0, 0, 1, 0, 0, 1, 1, 0, 0] (bodyOf f38)) ⟨[(2, .ptr 0 0 2), (4, .p (.int .i64 v4)), (5, .ptr 1 0 2), (6, .p (.int .i64 v6)), (7, .p (.int .i64 v7))], [.cells [.p (.int .i64 0), .p (.nilsl)] 0, .cells [.p (.int .i64 w1), .p (.nilsl)] 0]⟩ (L38_4_post v4 v6 w1 r).1 (L38_4_post v4 v6 w1 r).2
  | 0, _, _, h => nomatch h
  | fuel + 1, v7, r, h => by
    unfold L38_4 at h
    refine oif_elim h (fun h1 g1 => ?_) (fun h1 g1 => ?_)
    · refine obind_elim g1 fun y h2 g2 => ?_
      match y, h2, g2 with
      | .inl y1, h2, g2 =>
        refine obind_elim g2 fun y2 h3 g3 => ?_
        have hr := Option.some.inj g3
        subst hr
        exact SemC.cast (SemJ.again (σ1 := ⟨[(2, .ptr 0 0 2), (4, .p (.int .i64 v4)), (5, .ptr 1 0 2), (6, .p (.int .i64 v6)), (7, .p (.int .i64 (IntKind.wrap .i64 (Int.tdiv v7 2))))], [.cells [.p (.int .i64 0), .p (.nilsl)] 0, .cells [.p (.int .i64 w1), .msl 2 0 (List.length y1) (List.length (rowI e62 y1)) false] 0, .cells (rowI e62 y1) 2]⟩) (path hm (σ' := ⟨[(2, .ptr 0 0 2), (4, .p (.int .i64 v4)), (5, .ptr 1 0 2), (6, .p (.int .i64 v6)), (7, .p (.int .i64 (IntKind.wrap .i64 (Int.tdiv v7 2))))], [.cells [.p (.int .i64 0), .p (.nilsl)] 0, .cells [.p (.int .i64 w1), .msl 2 0 (List.length y1) (List.length (rowI e62 y1)) false] 0, .cells (rowI e62 y1) 2]⟩) (ks := [2, 4, 5, 6, 7]) (cc := [.reg [] [] 0 [(2, none, .b true)] [2, 4, 5, 6, 7, 36], .reg [] [] 1 [(5, none, .ci (.tup []) [(1, .cells [.p (.int .i64 w1), .msl 2 0 (List.length y1) (List.length (rowI e62 y1)) false] 0), (2, .cells (rowI e62 y1) 2)])] [2, 4, 5, 6, 7], .reg [] [] 0 [] [2, 4, 5, 6, 7]])
        (ai h1 (ai (G60_1_ok fuel v6 (IntKind.wrap .i64 (v7 - v6)) 1 0 w1 _ h2) (ai (by decide : (2 : Int) ≠ 0) trivial))) (by kernel_rfl)) (L38_2_ok v4 v6 w1 fuel (IntKind.wrap .i64 (Int.tdiv v7 2)) y1 _ h3)) (by kernel_rfl) (by kernel_rfl)
      | .inr (y1), h2, g2 =>
        exact SemJ.again (σ1 := ⟨[(2, .ptr 0 0 2), (4, .p (.int .i64 v4)), (5, .ptr 1 0 2), (6, .p (.int .i64 v6)), (7, .p (.int .i64 (IntKind.wrap .i64 (Int.tdiv v7 2))))], [.cells [.p (.int .i64 0), .p (.nilsl)] 0, .cells [.p (.int .i64 w1), .p (.nilsl)] 0]⟩) (SemC.post (path hm (σ' := ⟨[(2, .ptr 0 0 2), (4, .p (.int .i64 v4)), (5, .ptr 1 0 2), (6, .p (.int .i64 v6)), (7, .p (.int .i64 (IntKind.wrap .i64 (Int.tdiv v7 2))))], [.cells [.p (.int .i64 0), .p (.nilsl)] 0, .cells [.p (.int .i64 w1), .p (.nilsl)] 0, .hole]⟩) (ks := [2, 4, 5, 6, 7]) (cc := [.reg [] [] 0 [(2, none, .b true)] [2, 4, 5, 6, 7, 36], .reg [] [] 1 [(5, none, .ci (.tup []) [])] [2, 4, 5, 6, 7], .reg [] [] 0 [] [2, 4, 5, 6, 7]])
        (ai h1 (ai (G60_1_ok fuel v6 (IntKind.wrap .i64 (v7 - v6)) 1 0 w1 _ h2) (ai (by decide : (2 : Int) ≠ 0) trivial))) (by kernel_rfl)) (Weak.sel (E := [(2, .ptr 0 0 2), (4, .p (.int .i64 v4)), (5, .ptr 1 0 2), (6, .p (.int .i64 v6)), (7, .p (.int .i64 (IntKind.wrap .i64 (Int.tdiv v7 2))))]) (E' := [(2, .ptr 0 0 2), (4, .p (.int .i64 v4)), (5, .ptr 1 0 2), (6, .p (.int .i64 v6)), (7, .p (.int .i64 (IntKind.wrap .i64 (Int.tdiv v7 2))))]) (H := [.cells [.p (.int .i64 0), .p (.nilsl)] 0, .cells [.p (.int .i64 w1), .p (.nilsl)] 0, .hole]) (H' := [.cells [.p (.int .i64 0), .p (.nilsl)] 0, .cells [.p (.int .i64 w1), .p (.nilsl)] 0]) [0, 1] (selH_cons (o := .cells [.p (.int .i64 0), .p (.nilsl)] 0) (o' := .cells [.p (.int .i64 0), .p (.nilsl)] 0) (by kernel_rfl) (sel_x (by kernel_rfl)) (selH_cons (o := .cells [.p (.int .i64 w1), .p (.nilsl)] 0) (o' := .cells [.p (.int .i64 w1), .p (.nilsl)] 0) (by kernel_rfl) (sel_x (by kernel_rfl)) trivial)) (by kernel_rfl) (by kernel_rfl))) (L38_4_ok v4 v6 w1 fuel (IntKind.wrap .i64 (Int.tdiv v7 2)) _ g2)
    · have hr := Option.some.inj g1
      subst hr
      exact SemC.cast (SemJ.out (e := (.exit 4)) (path hm (σ' := ⟨[(2, .ptr 0 0 2), (4, .p (.int .i64 v4)), (5, .ptr 1 0 2), (6, .p (.int .i64 v6))], [.cells [.p (.int .i64 0), .p (.nilsl)] 0, .cells [.p (.int .i64 w1), .p (.nilsl)] 0]⟩) (ks := [2, 4, 5, 6]) (cc := [.reg [] [] 0 [(2, none, .b false)] [2, 4, 5, 6, 7, 36]])
        (ai h1 trivial) (by kernel_rfl)) (by simp)) (by kernel_rfl) (by kernel_rfl)
def L38_1  (v4 : Int) (w1 : Int) : Nat → Int → Option ((List (Int × Int)) ⊕ Unit)
  | 0, _ => none
  | fuel + 1, v6 =>
    oif ((decide (v6 > 0)))
    ((obind (G60_1 fuel v6 v6 0 0 w1) fun y1 => match y1 with
      | .inl y1 => obind (L38_2 v4 v6 w1 fuel (IntKind.wrap .i64 (Int.tdiv v4 2)) y1) fun y2 => obind (L38_3 v4 w1 fuel (IntKind.wrap .i64 (Int.tdiv v6 2)) y2) fun y3 => some (.inl y3)
      | .inr (y1) => (obind (L38_4 v4 v6 w1 fuel (IntKind.wrap .i64 (Int.tdiv v4 2))) fun y2 => match y2 with
        | .inl y2 => obind (L38_3 v4 w1 fuel (IntKind.wrap .i64 (Int.tdiv v6 2)) y2) fun y3 => some (.inl y3)
        | .inr (y2) => L38_1 v4 w1 fuel (IntKind.wrap .i64 (Int.tdiv v6 2)))))
    (some (.inr (())))
noncomputable def L38_1_post (v4 : Int) (w1 : Int)  : ((List (Int × Int)) ⊕ Unit) → Ex × St
  | .inl y => ((.exit 2), ⟨[(2, .ptr 0 0 2), (5, .ptr 1 0 2)], [.cells [.p (.int .i64 0), .p (.nilsl)] 0, .cells [.p (.int .i64 w1), .msl 2 0 (List.length y) (List.length (rowI e62 y)) false] 0, .cells (rowI e62 y) 2]⟩)
  | .inr (y) => ((.exit 2), ⟨[(2, .ptr 0 0 2), (5, .ptr 1 0 2)], [.cells [.p (.int .i64 0), .p (.nilsl)] 0, .cells [.p (.int .i64 w1), .p (.nilsl)] 0]⟩)
theorem L38_1_ok  (v4 : Int) (w1 : Int)  : ∀ (fuel : Nat) (v6 : Int) (r : ((List (Int × Int)) ⊕ Unit)), L38_1 v4 w1 fuel v6 = some r →
    SemJ prog ⟨49, 0, false⟩ (codeAt [1, 1, 1, 1, 1, 0, 1, 0, 0] (bodyOf f38)) ⟨[(2, .ptr 0 0 2), (4, .p (.int .i64 v4)), (5, .ptr 1 0 2), (6, .p (.int .i64 v6))], [.cells [.p (.int .i64 0), .p (.nilsl)] 0, .cells [.p (.int .i64 w1), .p (.nilsl)] 0]⟩ (L38_1_post v4 w1 r).1 (L38_1_post v4 w1 r).2
  | 0, _, _, h => nomatch h
  | fuel + 1, v6, r, h => by
    unfold L38_1 at h
    refine oif_elim h (fun h1 g1 => ?_) (fun h1 g1 => ?_)
    · let c141 : List CC := [.reg [] [] 0 [(1, none, .b true)] [2, 4, 5, 6, 25]]
      refine obind_elim g1 fun y h2 g2 => ?_
      match y, h2, g2 with
      | .inl y1, h2, g2 =>
        refine obind_elim g2 fun y2 h3 g3 => ?_
        refine obind_elim g3 fun y3 h4 g4 => ?_
        have hr := Option.some.inj g4
        subst hr
        exact SemC.cast (SemJ.again (σ1 := ⟨[(2, .ptr 0 0 2), (4, .p (.int .i64 v4)), (5, .ptr 1 0 2), (6, .p (.int .i64 (IntKind.wrap .i64 (Int.tdiv v6 2))))], [.cells [.p (.int .i64 0), .p (.nilsl)] 0, .cells [.p (.int .i64 w1), .msl 2 0 (List.length y2) (List.length (rowI e62 y2)) false] 0, .cells (rowI e62 y2) 2]⟩) (path hm (σ' := ⟨[(2, .ptr 0 0 2), (4, .p (.int .i64 v4)), (5, .ptr 1 0 2), (6, .p (.int .i64 (IntKind.wrap .i64 (Int.tdiv v6 2))))], [.cells [.p (.int .i64 0), .p (.nilsl)] 0, .cells [.p (.int .i64 w1), .msl 2 0 (List.length y2) (List.length (rowI e62 y2)) false] 0, .cells (rowI e62 y2) 2]⟩) (ks := [2, 4, 5, 6]) (cc := c141 ++ [.reg [] [] 1 [(3, none, .ci (.tup []) [(1, .cells [.p (.int .i64 w1), .msl 2 0 (List.length y1) (List.length (rowI e62 y1)) false] 0), (2, .cells (rowI e62 y1) 2)])] [2, 4, 5, 6], .reg [] [] 0 [] [2, 4, 5, 6, 7], .leaf (.exit 4) ⟨[(2, .ptr 0 0 2), (4, .p (.int .i64 v4)), (5, .ptr 1 0 2), (6, .p (.int .i64 v6))], [.cells [.p (.int .i64 0), .p (.nilsl)] 0, .cells [.p (.int .i64 w1), .msl 2 0 (List.length y2) (List.length (rowI e62 y2)) false] 0, .cells (rowI e62 y2) 2]⟩, .reg [] [] 0 [] [2, 4, 5, 6]])
        (ai h1 (ai (G60_1_ok fuel v6 v6 0 0 w1 _ h2) (ai (by decide : (2 : Int) ≠ 0) (ai (SemJ.loop (L38_2_ok v4 v6 w1 fuel (IntKind.wrap .i64 (Int.tdiv v4 2)) y1 _ h3)) (ai (by decide : (2 : Int) ≠ 0) trivial))))) (by kernel_rfl)) (L38_3_ok v4 w1 fuel (IntKind.wrap .i64 (Int.tdiv v6 2)) y2 _ h4)) (by kernel_rfl) (by kernel_rfl)
      | .inr (y1), h2, g2 =>
        let c142 : List CC := c141 ++ [.reg [] [] 1 [(3, none, .ci (.tup []) [])] [2, 4, 5, 6], .reg [] [] 0 [] [2, 4, 5, 6, 7]]
        refine obind_elim g2 fun y h3 g3 => ?_
        match y, h3, g3 with
        | .inl y2, h3, g3 =>
          refine obind_elim g3 fun y3 h4 g4 => ?_
          have hr := Option.some.inj g4
          subst hr
          exact SemC.cast (SemJ.again (σ1 := ⟨[(2, .ptr 0 0 2), (4, .p (.int .i64 v4)), (5, .ptr 1 0 2), (6, .p (.int .i64 (IntKind.wrap .i64 (Int.tdiv v6 2))))], [.cells [.p (.int .i64 0), .p (.nilsl)] 0, .cells [.p (.int .i64 w1), .msl 2 0 (List.length y2) (List.length (rowI e62 y2)) false] 0, .cells (rowI e62 y2) 2]⟩) (path hm (σ' := ⟨[(2, .ptr 0 0 2), (4, .p (.int .i64 v4)), (5, .ptr 1 0 2), (6, .p (.int .i64 (IntKind.wrap .i64 (Int.tdiv v6 2))))], [.cells [.p (.int .i64 0), .p (.nilsl)] 0, .cells [.p (.int .i64 w1), .msl 2 0 (List.length y2) (List.length (rowI e62 y2)) false] 0, .cells (rowI e62 y2) 2]⟩) (ks := [2, 4, 5, 6]) (cc := c142 ++ [.leaf (.exit 4) ⟨[(2, .ptr 0 0 2), (4, .p (.int .i64 v4)), (5, .ptr 1 0 2), (6, .p (.int .i64 v6))], [.cells [.p (.int .i64 0), .p (.nilsl)] 0, .cells [.p (.int .i64 w1), .msl 2 0 (List.length y2) (List.length (rowI e62 y2)) false] 0, .cells (rowI e62 y2) 2]⟩, .reg [] [] 0 [] [2, 4, 5, 6]])
        (ai h1 (ai (G60_1_ok fuel v6 v6 0 0 w1 _ h2) (ai (by decide : (2 : Int) ≠ 0) (ai (SemC.pre (σ := ⟨[(2, .ptr 0 0 2), (4, .p (.int .i64 v4)), (5, .ptr 1 0 2), (6, .p (.int .i64 v6)), (7, .p (.int .i64 (IntKind.wrap .i64 (Int.tdiv v4 2))))], [.cells [.p (.int .i64 0), .p (.nilsl)] 0, .cells [.p (.int .i64 w1), .p (.nilsl)] 0, .hole]⟩) (SemJ.loop (L38_4_ok v4 v6 w1 fuel (IntKind.wrap .i64 (Int.tdiv v4 2)) _ h3)) (Weak.sel (E := [(2, .ptr 0 0 2), (4, .p (.int .i64 v4)), (5, .ptr 1 0 2), (6, .p (.int .i64 v6)), (7, .p (.int .i64 (IntKind.wrap .i64 (Int.tdiv v4 2))))]) (E' := [(2, .ptr 0 0 2), (4, .p (.int .i64 v4)), (5, .ptr 1 0 2), (6, .p (.int .i64 v6)), (7, .p (.int .i64 (IntKind.wrap .i64 (Int.tdiv v4 2))))]) (H := [.cells [.p (.int .i64 0), .p (.nilsl)] 0, .cells [.p (.int .i64 w1), .p (.nilsl)] 0, .hole]) (H' := [.cells [.p (.int .i64 0), .p (.nilsl)] 0, .cells [.p (.int .i64 w1), .p (.nilsl)] 0]) [0, 1] (selH_cons (o := .cells [.p (.int .i64 0), .p (.nilsl)] 0) (o' := .cells [.p (.int .i64 0), .p (.nilsl)] 0) (by kernel_rfl) (sel_x (by kernel_rfl)) (selH_cons (o := .cells [.p (.int .i64 w1), .p (.nilsl)] 0) (o' := .cells [.p (.int .i64 w1), .p (.nilsl)] 0) (by kernel_rfl) (sel_x (by kernel_rfl)) trivial)) (by kernel_rfl) (by kernel_rfl))) (ai (by decide : (2 : Int) ≠ 0) trivial))))) (by kernel_rfl)) (L38_3_ok v4 w1 fuel (IntKind.wrap .i64 (Int.tdiv v6 2)) y2 _ h4)) (by kernel_rfl) (by kernel_rfl)
        | .inr (y2), h3, g3 =>
          exact SemJ.again (σ1 := ⟨[(2, .ptr 0 0 2), (4, .p (.int .i64 v4)), (5, .ptr 1 0 2), (6, .p (.int .i64 (IntKind.wrap .i64 (Int.tdiv v6 2))))], [.cells [.p (.int .i64 0), .p (.nilsl)] 0, .cells [.p (.int .i64 w1), .p (.nilsl)] 0]⟩) (path hm (σ' := ⟨[(2, .ptr 0 0 2), (4, .p (.int .i64 v4)), (5, .ptr 1 0 2), (6, .p (.int .i64 (IntKind.wrap .i64 (Int.tdiv v6 2))))], [.cells [.p (.int .i64 0), .p (.nilsl)] 0, .cells [.p (.int .i64 w1), .p (.nilsl)] 0]⟩) (ks := [2, 4, 5, 6]) (cc := c142 ++ [.leaf (.exit 4) ⟨[(2, .ptr 0 0 2), (4, .p (.int .i64 v4)), (5, .ptr 1 0 2), (6, .p (.int .i64 v6))], [.cells [.p (.int .i64 0), .p (.nilsl)] 0, .cells [.p (.int .i64 w1), .p (.nilsl)] 0]⟩, .reg [] [] 0 [] [2, 4, 5, 6]])
        (ai h1 (ai (G60_1_ok fuel v6 v6 0 0 w1 _ h2) (ai (by decide : (2 : Int) ≠ 0) (ai (SemC.pre (σ := ⟨[(2, .ptr 0 0 2), (4, .p (.int .i64 v4)), (5, .ptr 1 0 2), (6, .p (.int .i64 v6)), (7, .p (.int .i64 (IntKind.wrap .i64 (Int.tdiv v4 2))))], [.cells [.p (.int .i64 0), .p (.nilsl)] 0, .cells [.p (.int .i64 w1), .p (.nilsl)] 0, .hole]⟩) (SemJ.loop (L38_4_ok v4 v6 w1 fuel (IntKind.wrap .i64 (Int.tdiv v4 2)) _ h3)) (Weak.sel (E := [(2, .ptr 0 0 2), (4, .p (.int .i64 v4)), (5, .ptr 1 0 2), (6, .p (.int .i64 v6)), (7, .p (.int .i64 (IntKind.wrap .i64 (Int.tdiv v4 2))))]) (E' := [(2, .ptr 0 0 2), (4, .p (.int .i64 v4)), (5, .ptr 1 0 2), (6, .p (.int .i64 v6)), (7, .p (.int .i64 (IntKind.wrap .i64 (Int.tdiv v4 2))))]) (H := [.cells [.p (.int .i64 0), .p (.nilsl)] 0, .cells [.p (.int .i64 w1), .p (.nilsl)] 0, .hole]) (H' := [.cells [.p (.int .i64 0), .p (.nilsl)] 0, .cells [.p (.int .i64 w1), .p (.nilsl)] 0]) [0, 1] (selH_cons (o := .cells [.p (.int .i64 0), .p (.nilsl)] 0) (o' := .cells [.p (.int .i64 0), .p (.nilsl)] 0) (by kernel_rfl) (sel_x (by kernel_rfl)) (selH_cons (o := .cells [.p (.int .i64 w1), .p (.nilsl)] 0) (o' := .cells [.p (.int .i64 w1), .p (.nilsl)] 0) (by kernel_rfl) (sel_x (by kernel_rfl)) trivial)) (by kernel_rfl) (by kernel_rfl))) (ai (by decide : (2 : Int) ≠ 0) trivial))))) (by kernel_rfl)) (L38_1_ok v4 w1 fuel (IntKind.wrap .i64 (Int.tdiv v6 2)) _ g3)
    · have hr := Option.some.inj g1
      subst hr
      exact SemC.cast (SemJ.out (e := (.exit 2)) (path hm (σ' := ⟨[(2, .ptr 0 0 2), (5, .ptr 1 0 2)], [.cells [.p (.int .i64 0), .p (.nilsl)] 0, .cells [.p (.int .i64 w1), .p (.nilsl)] 0]⟩) (ks := [2, 5]) (cc := [.reg [] [] 0 [(1, none, .b false)] [2, 4, 5, 6, 25]])
        (ai h1 trivial) (by kernel_rfl)) (by simp)) (by kernel_rfl) (by kernel_rfl)
def F38  (fuel : Nat) (p0 : Int) : Option ((Int × (List (Int × Int))) × Int) :=
  obind (F44 fuel 1 8 [p0]) fun r1 => oif (r1)
  (obind (L38_0 p0 fuel 1) fun y2 => (obind (L38_1 y2 p0 fuel (IntKind.wrap .i64 (Int.tdiv y2 2))) fun y3 => match y3 with
    | .inl y3 => some ((p0, y3), 0)
    | .inr (y3) => some ((p0, []), 0)))
  (some ((0, []), 6))
theorem F38_ok  (fuel : Nat) (p0 : Int)  (r : ((Int × (List (Int × Int))) × Int)) (h : F38 fuel p0 = some r) : CallP prog 38 [.int .i64 p0] (.tup [.agg [.int .i64 r.1.1, .sl (List.map e62 r.1.2) false], .int .i64 r.2]) := by
  unfold F38 at h
  refine obind_elim h fun r1 h1 g1 => ?_
  refine oif_elim g1 (fun h2 g2 => ?_) (fun h2 g2 => ?_)
  · subst h2
    refine obind_elim g2 fun y2 h3 g3 => ?_
    let c143 : List CC := [.reg [] [] 1 [(0, some 0, .a)] [0, 2], .reg [] [] 0 [(2, none, .call (.bool true))] [0, 2, 11], .reg [] [] 0 [] [0, 2, 4], .leaf (.exit 0) ⟨[(0, .p (.int .i64 p0)), (2, .ptr 0 0 2), (4, .p (.int .i64 y2))], [.cells [.p (.int .i64 0), .p (.nilsl)] 0]⟩, .reg [] [] 1 [(3, some 1, .a)] [2, 4, 5], .reg [] [] 0 [] [2, 4, 5, 6]]
    refine obind_elim g3 fun y h4 g4 => ?_
    match y, h4, g4 with
    | .inl y3, h4, g4 =>
      have hr := Option.some.inj g4
      subst hr
      exact callP_of is38 rfl (path hm (ks := [2, 3]) (σ' := ⟨[(2, .ptr 0 0 2), (3, .p (.int .i64 0))], [.cells [.p (.int .i64 p0), .msl 2 0 (List.length y3) (List.length (rowI e62 y3)) false] 0, .cells [.p (.int .i64 p0), .msl 2 0 (List.length y3) (List.length (rowI e62 y3)) false] 0, .cells (rowI e62 y3) 2]⟩) (cc := c143 ++ [.leaf (.exit 2) ⟨[(2, .ptr 0 0 2), (5, .ptr 1 0 2)], [.cells [.p (.int .i64 0), .p (.nilsl)] 0, .cells [.p (.int .i64 p0), .msl 2 0 (List.length y3) (List.length (rowI e62 y3)) false] 0, .cells (rowI e62 y3) 2]⟩, .reg [] [] 0 [] [2, 3]])
      (ai (F44_ok fuel 1 8 [p0] true _ h1) (ai (SemJ.loop (L38_0_ok p0 fuel 1 _ h3)) (ai (by decide : (2 : Int) ≠ 0) (ai (SemJ.loop (L38_1_ok y2 p0 fuel (IntKind.wrap .i64 (Int.tdiv y2 2)) _ h4)) trivial)))) (by kernel_rfl)) (e := .ret) rfl (vs := [.agg [.p (.int .i64 p0), .msl 2 0 (List.length y3) (List.length (rowI e62 y3)) false], .p (.int .i64 0)]) (ai (rfl : (2:Nat) = 2) (ai (by decide : (2:Nat) ≤ 2) trivial)) (by kernel_rfl) (.tup _ _ (.cons _ _ _ _ (.agg _ _ (.cons _ _ _ _ (.p _ _ (.refl _)) (.cons _ _ _ _ (snap_row (g := 2) (L := y3) el62 (by kernel_rfl) (rl (List.length (rowI e62 y3))) (rl (List.length y3))) .nil))) (.cons _ _ _ _ (.p _ _ (.refl _)) .nil)))
    | .inr (y3), h4, g4 =>
      have hr := Option.some.inj g4
      subst hr
      exact callP_of is38 rfl (path hm (ks := [2, 3]) (σ' := ⟨[(2, .ptr 0 0 2), (3, .p (.int .i64 0))], [.cells [.p (.int .i64 p0), .p (.nilsl)] 0, .cells [.p (.int .i64 p0), .p (.nilsl)] 0]⟩) (cc := c143 ++ [.leaf (.exit 2) ⟨[(2, .ptr 0 0 2), (5, .ptr 1 0 2)], [.cells [.p (.int .i64 0), .p (.nilsl)] 0, .cells [.p (.int .i64 p0), .p (.nilsl)] 0]⟩, .reg [] [] 0 [] [2, 3]])
      (ai (F44_ok fuel 1 8 [p0] true _ h1) (ai (SemJ.loop (L38_0_ok p0 fuel 1 _ h3)) (ai (by decide : (2 : Int) ≠ 0) (ai (SemJ.loop (L38_1_ok y2 p0 fuel (IntKind.wrap .i64 (Int.tdiv y2 2)) _ h4)) trivial)))) (by kernel_rfl)) (e := .ret) rfl (vs := [.agg [.p (.int .i64 p0), .p (.nilsl)], .p (.int .i64 0)]) (ai (rfl : (2:Nat) = 2) (ai (by decide : (2:Nat) ≤ 2) trivial)) (by kernel_rfl) (.tup _ _ (.cons _ _ _ _ (.agg _ _ (.cons _ _ _ _ (.p _ _ (.refl _)) (.cons _ _ _ _ (.p _ _ (.nil _)) .nil))) (.cons _ _ _ _ (.p _ _ (.refl _)) .nil)))
  · subst h2
    have hr := Option.some.inj g2
    subst hr
    exact callP_of is38 rfl (path hm (ks := [2, 3]) (σ' := ⟨[(2, .ptr 0 0 2), (3, .p (.int .i64 6))], [.cells [.p (.int .i64 0), .p (.nilsl)] 0]⟩) (cc := [.reg [] [] 1 [(0, some 0, .a)] [0, 2], .reg [] [] 0 [(2, none, .call (.bool false))] [0, 2, 11], .reg [] [] 0 [] [2, 3]])
      (ai (F44_ok fuel 1 8 [p0] true _ h1) trivial) (by kernel_rfl)) (e := .ret) rfl (vs := [.agg [.p (.int .i64 0), .p (.nilsl)], .p (.int .i64 6)]) (ai (rfl : (2:Nat) = 2) (ai (by decide : (2:Nat) ≤ 2) trivial)) (by kernel_rfl) (.tup _ _ (.cons _ _ _ _ (.agg _ _ (.cons _ _ _ _ (.p _ _ (.refl _)) (.cons _ _ _ _ (.p _ _ (.nil _)) .nil))) (.cons _ _ _ _ (.p _ _ (.refl _)) .nil)))
def L13_0  (v0 : (List Int)) (v1 : (List Int)) : Nat → Int → Option (Unit ⊕ Unit)
  | 0, _ => none
  | fuel + 1, v5 =>
    oif ((decide (v5 < (v0.length : Int))))
    (obind (sg v0 v5) fun x1 => obind (sg v1 v5) fun x2 => oif ((x1 != x2))
      (some (.inl ()))
      (L13_0 v0 v1 fuel (IntKind.wrap .i64 (v5 + 1))))
    (some (.inr (())))
noncomputable def L13_0_post (v0 : (List Int)) (v1 : (List Int)) (fp0 : Bool) (fp1 : Bool) : (Unit ⊕ Unit) → Ex × St
  | .inl y => (.ret, ⟨[(4, .p (.bool false))], []⟩)
  | .inr (y) => ((.exit 0), ⟨[], []⟩)
theorem L13_0_ok  (v0 : (List Int)) (v1 : (List Int)) (fp0 : Bool) (fp1 : Bool) : ∀ (fuel : Nat) (v5 : Int) (r : (Unit ⊕ Unit)), L13_0 v0 v1 fuel v5 = some r →
    SemJ prog ⟨26, 0, false⟩ (codeAt [1, 1, 0, 1, 0, 0] (bodyOf f13)) ⟨[(0, .p (.sl (List.map e2 v0) fp0)), (1, .p (.sl (List.map e2 v1) fp1)), (5, .p (.int .i64 v5))], []⟩ (L13_0_post v0 v1 fp0 fp1 r).1 (L13_0_post v0 v1 fp0 fp1 r).2
  | 0, _, _, h => nomatch h
  | fuel + 1, v5, r, h => by
    unfold L13_0 at h
    refine oif_elim h (fun h1 g1 => ?_) (fun h1 g1 => ?_)
    · refine obind_elim g1 fun x1 h2 g2 => ?_
      refine obind_elim g2 fun x2 h3 g3 => ?_
      refine oif_elim g3 (fun h4 g4 => ?_) (fun h4 g4 => ?_)
      · have hr := Option.some.inj g4
        subst hr
        exact SemC.cast (SemJ.out (e := .ret) (path hm (σ' := ⟨[(4, .p (.bool false))], []⟩) (ks := [4]) (cc := [.reg [] [] 0 [(2, none, .n (v0.length : Int)), (3, none, .b true)] [0, 1, 5, 14], .reg [0, 0, 3, 7, 0, 0, 48, 112, 255] [] 0 [(2, none, .iv (.p (.int .i64 x1))), (6, none, .iv (.p (.int .i64 x2))), (8, none, .b true)] [0, 1, 5, 25], .reg [] [] 0 [] [4]])
        (ai (len_map e2 v0) (ai h1 (ai (sg_map (f := e2) h2) (ai (sg_map (f := e2) h3) (ai h4 trivial))))) (by kernel_rfl)) (by simp)) (by kernel_rfl) (by kernel_rfl)
      · exact SemJ.again (σ1 := ⟨[(0, .p (.sl (List.map e2 v0) fp0)), (1, .p (.sl (List.map e2 v1) fp1)), (5, .p (.int .i64 (IntKind.wrap .i64 (v5 + 1))))], []⟩) (path hm (σ' := ⟨[(0, .p (.sl (List.map e2 v0) fp0)), (1, .p (.sl (List.map e2 v1) fp1)), (5, .p (.int .i64 (IntKind.wrap .i64 (v5 + 1))))], []⟩) (ks := [0, 1, 5]) (cc := [.reg [] [] 0 [(2, none, .n (v0.length : Int)), (3, none, .b true)] [0, 1, 5, 14], .reg [0, 0, 3, 7, 0, 0, 48, 112, 255] [] 0 [(2, none, .iv (.p (.int .i64 x1))), (6, none, .iv (.p (.int .i64 x2))), (8, none, .b false)] [0, 1, 5, 25], .reg [] [] 0 [] [0, 1, 5]])
        (ai (len_map e2 v0) (ai h1 (ai (sg_map (f := e2) h2) (ai (sg_map (f := e2) h3) (ai h4 trivial))))) (by kernel_rfl)) (L13_0_ok v0 v1 fp0 fp1 fuel (IntKind.wrap .i64 (v5 + 1)) _ g4)
    · have hr := Option.some.inj g1
      subst hr
      exact SemC.cast (SemJ.out (e := (.exit 0)) (path hm (σ' := ⟨[], []⟩) (ks := []) (cc := [.reg [] [] 0 [(2, none, .n (v0.length : Int)), (3, none, .b false)] [0, 1, 5, 14]])
        (ai (len_map e2 v0) (ai h1 trivial)) (by kernel_rfl)) (by simp)) (by kernel_rfl) (by kernel_rfl)
def F13  (fuel : Nat) (p0 : (List Int)) (p1 : (List Int)) : Option Bool :=
  oif (((p0.length : Int) != (p1.length : Int)))
  (some false)
  ((obind (L13_0 p0 p1 fuel 0) fun y1 => match y1 with
    | .inl y1 => some false
    | .inr (y1) => some true))
theorem F13_ok  (fuel : Nat) (p0 : (List Int)) (p1 : (List Int)) (fp0 : Bool) (fp1 : Bool) (r : Bool) (h : F13 fuel p0 p1 = some r) : CallP prog 13 [.sl (List.map e2 p0) fp0, .sl (List.map e2 p1) fp1] (.bool r) := by
  unfold F13 at h
  refine oif_elim h (fun h1 g1 => ?_) (fun h1 g1 => ?_)
  · have hr := Option.some.inj g1
    subst hr
    exact callP_of is13 rfl (path hm (ks := [4]) (σ' := ⟨[(4, .p (.bool false))], []⟩) (cc := [.reg [] [] 0 [] [0, 1], .reg [] [] 0 [(1, none, .n (p0.length : Int)), (3, none, .n (p1.length : Int)), (4, none, .b true)] [0, 1, 10], .reg [] [] 0 [] [4]])
      (ai (len_map e2 p0) (ai (len_map e2 p1) (ai h1 trivial))) (by kernel_rfl)) (e := .ret) rfl (vs := [.p (.bool false)]) trivial (by kernel_rfl) (.p _ _ (.refl _))
  · let c144 : List CC := [.reg [] [] 0 [] [0, 1], .reg [] [] 0 [(1, none, .n (p0.length : Int)), (3, none, .n (p1.length : Int)), (4, none, .b false)] [0, 1, 10], .reg [] [] 0 [] [0, 1, 5]]
    refine obind_elim g1 fun y h2 g2 => ?_
    match y, h2, g2 with
    | .inl y1, h2, g2 =>
      have hr := Option.some.inj g2
      subst hr
      exact callP_of is13 rfl (path hm (ks := [4]) (σ' := ⟨[(4, .p (.bool false))], []⟩) (cc := c144 ++ [.leaf .ret ⟨[(4, .p (.bool false))], []⟩])
      (ai (len_map e2 p0) (ai (len_map e2 p1) (ai h1 (ai (SemJ.loop (L13_0_ok p0 p1 fp0 fp1 fuel 0 _ h2)) trivial)))) (by kernel_rfl)) (e := .ret) rfl (vs := [.p (.bool false)]) trivial (by kernel_rfl) (.p _ _ (.refl _))
    | .inr (y1), h2, g2 =>
      have hr := Option.some.inj g2
      subst hr
      exact callP_of is13 rfl (path hm (ks := [4]) (σ' := ⟨[(4, .p (.bool true))], []⟩) (cc := c144 ++ [.leaf (.exit 0) ⟨[], []⟩, .reg [] [] 0 [] [4]])
      (ai (len_map e2 p0) (ai (len_map e2 p1) (ai h1 (ai (SemJ.loop (L13_0_ok p0 p1 fp0 fp1 fuel 0 _ h2)) trivial)))) (by kernel_rfl)) (e := .ret) rfl (vs := [.p (.bool true)]) trivial (by kernel_rfl) (.p _ _ (.refl _))
def L23_0  (v0 : (List Int)) (v1 : (List Int)) : Nat → Int → Option (Unit ⊕ Unit)
  | 0, _ => none
  | fuel + 1, v5 =>
    oif ((decide (v5 < (v0.length : Int))))
    (obind (sg v0 v5) fun x1 => obind (sg v1 v5) fun x2 => oif ((x1 != x2))
      (some (.inl ()))
      (L23_0 v0 v1 fuel (IntKind.wrap .i64 (v5 + 1))))
    (some (.inr (())))
noncomputable def L23_0_post (v0 : (List Int)) (v1 : (List Int)) (fp0 : Bool) (fp1 : Bool) : (Unit ⊕ Unit) → Ex × St
  | .inl y => (.ret, ⟨[(4, .p (.bool false))], []⟩)
  | .inr (y) => ((.exit 0), ⟨[], []⟩)
theorem L23_0_ok  (v0 : (List Int)) (v1 : (List Int)) (fp0 : Bool) (fp1 : Bool) : ∀ (fuel : Nat) (v5 : Int) (r : (Unit ⊕ Unit)), L23_0 v0 v1 fuel v5 = some r →
    SemJ prog ⟨26, 0, false⟩ (codeAt [1, 1, 0, 1, 0, 0] (bodyOf f23)) ⟨[(0, .p (.sl (List.map e3 v0) fp0)), (1, .p (.sl (List.map e3 v1) fp1)), (5, .p (.int .i64 v5))], []⟩ (L23_0_post v0 v1 fp0 fp1 r).1 (L23_0_post v0 v1 fp0 fp1 r).2
  | 0, _, _, h => nomatch h
  | fuel + 1, v5, r, h => by
    unfold L23_0 at h
    refine oif_elim h (fun h1 g1 => ?_) (fun h1 g1 => ?_)
    · refine obind_elim g1 fun x1 h2 g2 => ?_
      refine obind_elim g2 fun x2 h3 g3 => ?_
      refine oif_elim g3 (fun h4 g4 => ?_) (fun h4 g4 => ?_)
      · have hr := Option.some.inj g4
        subst hr
        exact SemC.cast (SemJ.out (e := .ret) (path hm (σ' := ⟨[(4, .p (.bool false))], []⟩) (ks := [4]) (cc := [.reg [] [] 0 [(2, none, .n (v0.length : Int)), (3, none, .b true)] [0, 1, 5, 14], .reg [0, 0, 3, 7, 0, 0, 48, 112, 255] [] 0 [(2, none, .iv (.p (.int .i64 x1))), (6, none, .iv (.p (.int .i64 x2))), (8, none, .b true)] [0, 1, 5, 25], .reg [] [] 0 [] [4]])
        (ai (len_map e3 v0) (ai h1 (ai (sg_map (f := e3) h2) (ai (sg_map (f := e3) h3) (ai h4 trivial))))) (by kernel_rfl)) (by simp)) (by kernel_rfl) (by kernel_rfl)
      · exact SemJ.again (σ1 := ⟨[(0, .p (.sl (List.map e3 v0) fp0)), (1, .p (.sl (List.map e3 v1) fp1)), (5, .p (.int .i64 (IntKind.wrap .i64 (v5 + 1))))], []⟩) (path hm (σ' := ⟨[(0, .p (.sl (List.map e3 v0) fp0)), (1, .p (.sl (List.map e3 v1) fp1)), (5, .p (.int .i64 (IntKind.wrap .i64 (v5 + 1))))], []⟩) (ks := [0, 1, 5]) (cc := [.reg [] [] 0 [(2, none, .n (v0.length : Int)), (3, none, .b true)] [0, 1, 5, 14], .reg [0, 0, 3, 7, 0, 0, 48, 112, 255] [] 0 [(2, none, .iv (.p (.int .i64 x1))), (6, none, .iv (.p (.int .i64 x2))), (8, none, .b false)] [0, 1, 5, 25], .reg [] [] 0 [] [0, 1, 5]])
        (ai (len_map e3 v0) (ai h1 (ai (sg_map (f := e3) h2) (ai (sg_map (f := e3) h3) (ai h4 trivial))))) (by kernel_rfl)) (L23_0_ok v0 v1 fp0 fp1 fuel (IntKind.wrap .i64 (v5 + 1)) _ g4)
    · have hr := Option.some.inj g1
      subst hr
      exact SemC.cast (SemJ.out (e := (.exit 0)) (path hm (σ' := ⟨[], []⟩) (ks := []) (cc := [.reg [] [] 0 [(2, none, .n (v0.length : Int)), (3, none, .b false)] [0, 1, 5, 14]])
        (ai (len_map e3 v0) (ai h1 trivial)) (by kernel_rfl)) (by simp)) (by kernel_rfl) (by kernel_rfl)
def F23  (fuel : Nat) (p0 : (List Int)) (p1 : (List Int)) : Option Bool :=
  oif (((p0.length : Int) != (p1.length : Int)))
  (some false)
  ((obind (L23_0 p0 p1 fuel 0) fun y1 => match y1 with
    | .inl y1 => some false
    | .inr (y1) => some true))
theorem F23_ok  (fuel : Nat) (p0 : (List Int)) (p1 : (List Int)) (fp0 : Bool) (fp1 : Bool) (r : Bool) (h : F23 fuel p0 p1 = some r) : CallP prog 23 [.sl (List.map e3 p0) fp0, .sl (List.map e3 p1) fp1] (.bool r) := by
  unfold F23 at h
  refine oif_elim h (fun h1 g1 => ?_) (fun h1 g1 => ?_)
  · have hr := Option.some.inj g1
    subst hr
    exact callP_of is23 rfl (path hm (ks := [4]) (σ' := ⟨[(4, .p (.bool false))], []⟩) (cc := [.reg [] [] 0 [] [0, 1], .reg [] [] 0 [(1, none, .n (p0.length : Int)), (3, none, .n (p1.length : Int)), (4, none, .b true)] [0, 1, 10], .reg [] [] 0 [] [4]])
      (ai (len_map e3 p0) (ai (len_map e3 p1) (ai h1 trivial))) (by kernel_rfl)) (e := .ret) rfl (vs := [.p (.bool false)]) trivial (by kernel_rfl) (.p _ _ (.refl _))
  · let c145 : List CC := [.reg [] [] 0 [] [0, 1], .reg [] [] 0 [(1, none, .n (p0.length : Int)), (3, none, .n (p1.length : Int)), (4, none, .b false)] [0, 1, 10], .reg [] [] 0 [] [0, 1, 5]]
    refine obind_elim g1 fun y h2 g2 => ?_
    match y, h2, g2 with
    | .inl y1, h2, g2 =>
      have hr := Option.some.inj g2
      subst hr
      exact callP_of is23 rfl (path hm (ks := [4]) (σ' := ⟨[(4, .p (.bool false))], []⟩) (cc := c145 ++ [.leaf .ret ⟨[(4, .p (.bool false))], []⟩])
      (ai (len_map e3 p0) (ai (len_map e3 p1) (ai h1 (ai (SemJ.loop (L23_0_ok p0 p1 fp0 fp1 fuel 0 _ h2)) trivial)))) (by kernel_rfl)) (e := .ret) rfl (vs := [.p (.bool false)]) trivial (by kernel_rfl) (.p _ _ (.refl _))
    | .inr (y1), h2, g2 =>
      have hr := Option.some.inj g2
      subst hr
      exact callP_of is23 rfl (path hm (ks := [4]) (σ' := ⟨[(4, .p (.bool true))], []⟩) (cc := c145 ++ [.leaf (.exit 0) ⟨[], []⟩, .reg [] [] 0 [] [4]])
      (ai (len_map e3 p0) (ai (len_map e3 p1) (ai h1 (ai (SemJ.loop (L23_0_ok p0 p1 fp0 fp1 fuel 0 _ h2)) trivial)))) (by kernel_rfl)) (e := .ret) rfl (vs := [.p (.bool true)]) trivial (by kernel_rfl) (.p _ _ (.refl _))
def L14_0  (v2 : Int) (v2_1 : (List (Int × Int))) (v3 : Int) (v3_1 : (List (Int × Int))) : Nat → Int → Option (Unit ⊕ Unit)
  | 0, _ => none
  | fuel + 1, v5 =>
    oif ((decide (v5 < (v2_1.length : Int))))
    (obind (sg v2_1 v5) fun x1 => obind (sg v3_1 v5) fun x2 => oif ((!((x1.1 == x2.1) && ((x1.2 == x2.2) && true))))
      (some (.inl ()))
      (L14_0 v2 v2_1 v3 v3_1 fuel (IntKind.wrap .i64 (v5 + 1))))
    (some (.inr (())))
noncomputable def L14_0_post (v2 : Int) (v2_1 : (List (Int × Int))) (v3 : Int) (v3_1 : (List (Int × Int)))  : (Unit ⊕ Unit) → Ex × St
  | .inl y => (.ret, ⟨[(4, .p (.bool false))], []⟩)
  | .inr (y) => ((.exit 0), ⟨[], []⟩)
theorem L14_0_ok  (v2 : Int) (v2_1 : (List (Int × Int))) (v3 : Int) (v3_1 : (List (Int × Int)))  : ∀ (fuel : Nat) (v5 : Int) (r : (Unit ⊕ Unit)), L14_0 v2 v2_1 v3 v3_1 fuel v5 = some r →
    SemJ prog ⟨38, 0, false⟩ (codeAt [1, 1, 0, 1, 0, 0] (bodyOf f14)) ⟨[(2, .p (.ref [.int .i64 v2, .sl (List.map e62 v2_1) false])), (3, .p (.ref [.int .i64 v3, .sl (List.map e62 v3_1) false])), (5, .p (.int .i64 v5))], []⟩ (L14_0_post v2 v2_1 v3 v3_1 r).1 (L14_0_post v2 v2_1 v3 v3_1 r).2
  | 0, _, _, h => nomatch h
  | fuel + 1, v5, r, h => by
    unfold L14_0 at h
    refine oif_elim h (fun h1 g1 => ?_) (fun h1 g1 => ?_)
    · refine obind_elim g1 fun x1 h2 g2 => ?_
      refine obind_elim g2 fun x2 h3 g3 => ?_
      let c146 : List CC := [.reg [] [] 0 [(3, none, .n (v2_1.length : Int)), (4, none, .b true)] [2, 3, 5, 24]]
      refine oif_elim g3 (fun h4 g4 => ?_) (fun h4 g4 => ?_)
      · have hr := Option.some.inj g4
        subst hr
        exact SemC.cast (SemJ.out (e := .ret) (path hm (σ' := ⟨[(4, .p (.bool false))], []⟩) (ks := [4]) (cc := c146 ++ [.reg [0, 1, 0, 7, 15, 0, 32, 0, 224, 480, 1023] [] 0 [(3, none, .iv (.p (.agg [.int .i64 x1.1, .int .i64 x1.2]))), (8, none, .iv (.p (.agg [.int .i64 x2.1, .int .i64 x2.2]))), (10, none, .b true)] [2, 3, 5, 37], .reg [] [] 0 [] [4]])
        (ai (len_map e62 v2_1) (ai h1 (ai (sg_map (f := e62) h2) (ai (sg_map (f := e62) h3) (ai h4 trivial))))) (by kernel_rfl)) (by simp)) (by kernel_rfl) (by kernel_rfl)
      · exact SemJ.again (σ1 := ⟨[(2, .p (.ref [.int .i64 v2, .sl (List.map e62 v2_1) false])), (3, .p (.ref [.int .i64 v3, .sl (List.map e62 v3_1) false])), (5, .p (.int .i64 (IntKind.wrap .i64 (v5 + 1))))], []⟩) (path hm (σ' := ⟨[(2, .p (.ref [.int .i64 v2, .sl (List.map e62 v2_1) false])), (3, .p (.ref [.int .i64 v3, .sl (List.map e62 v3_1) false])), (5, .p (.int .i64 (IntKind.wrap .i64 (v5 + 1))))], []⟩) (ks := [2, 3, 5]) (cc := c146 ++ [.reg [0, 1, 0, 7, 15, 0, 32, 0, 224, 480, 1023] [] 0 [(3, none, .iv (.p (.agg [.int .i64 x1.1, .int .i64 x1.2]))), (8, none, .iv (.p (.agg [.int .i64 x2.1, .int .i64 x2.2]))), (10, none, .b false)] [2, 3, 5, 37], .reg [] [] 0 [] [2, 3, 5]])
        (ai (len_map e62 v2_1) (ai h1 (ai (sg_map (f := e62) h2) (ai (sg_map (f := e62) h3) (ai h4 trivial))))) (by kernel_rfl)) (L14_0_ok v2 v2_1 v3 v3_1 fuel (IntKind.wrap .i64 (v5 + 1)) _ g4)
    · have hr := Option.some.inj g1
      subst hr
      exact SemC.cast (SemJ.out (e := (.exit 0)) (path hm (σ' := ⟨[], []⟩) (ks := []) (cc := [.reg [] [] 0 [(3, none, .n (v2_1.length : Int)), (4, none, .b false)] [2, 3, 5, 24]])
        (ai (len_map e62 v2_1) (ai h1 trivial)) (by kernel_rfl)) (by simp)) (by kernel_rfl) (by kernel_rfl)
def F14  (fuel : Nat) (p0 : (Int × (List (Int × Int)))) (p1 : (Int × (List (Int × Int)))) : Option Bool :=
  oif ((p0.1 != p1.1))
  (some false)
  (oif (((p0.2.length : Int) != (p1.2.length : Int)))
    (some false)
    ((obind (L14_0 p0.1 p0.2 p1.1 p1.2 fuel 0) fun y1 => match y1 with
      | .inl y1 => some false
      | .inr (y1) => some true)))
theorem F14_ok  (fuel : Nat) (p0 : (Int × (List (Int × Int)))) (p1 : (Int × (List (Int × Int))))  (r : Bool) (h : F14 fuel p0 p1 = some r) : CallP prog 14 [.agg [.int .i64 p0.1, .sl (List.map e62 p0.2) false], .agg [.int .i64 p1.1, .sl (List.map e62 p1.2) false]] (.bool r) := by
  unfold F14 at h
  let c147 : List CC := [.reg [] [] 0 [(0, none, .imm), (1, none, .imm)] [2, 3]]
  refine oif_elim h (fun h1 g1 => ?_) (fun h1 g1 => ?_)
  · have hr := Option.some.inj g1
    subst hr
    exact callP_of is14 rfl (path hm (ks := [4]) (σ' := ⟨[(4, .p (.bool false))], []⟩) (cc := c147 ++ [.reg [] [] 0 [(4, none, .b true)] [2, 3, 19], .reg [] [] 0 [] [4]])
      (ai h1 trivial) (by kernel_rfl)) (e := .ret) rfl (vs := [.p (.bool false)]) trivial (by kernel_rfl) (.p _ _ (.refl _))
  · refine oif_elim g1 (fun h2 g2 => ?_) (fun h2 g2 => ?_)
    · have hr := Option.some.inj g2
      subst hr
      exact callP_of is14 rfl (path hm (ks := [4]) (σ' := ⟨[(4, .p (.bool false))], []⟩) (cc := c147 ++ [.reg [] [] 0 [(4, none, .b false), (8, none, .n (p0.2.length : Int)), (11, none, .n (p1.2.length : Int)), (12, none, .b true)] [2, 3, 19], .reg [] [] 0 [] [4]])
      (ai h1 (ai (len_map e62 p0.2) (ai (len_map e62 p1.2) (ai h2 trivial)))) (by kernel_rfl)) (e := .ret) rfl (vs := [.p (.bool false)]) trivial (by kernel_rfl) (.p _ _ (.refl _))
    · let c148 : List CC := c147 ++ [.reg [] [] 0 [(4, none, .b false), (8, none, .n (p0.2.length : Int)), (11, none, .n (p1.2.length : Int)), (12, none, .b false)] [2, 3, 19], .reg [] [] 0 [] [2, 3, 5]]
      refine obind_elim g2 fun y h3 g3 => ?_
      match y, h3, g3 with
      | .inl y1, h3, g3 =>
        have hr := Option.some.inj g3
        subst hr
        exact callP_of is14 rfl (path hm (ks := [4]) (σ' := ⟨[(4, .p (.bool false))], []⟩) (cc := c148 ++ [.leaf .ret ⟨[(4, .p (.bool false))], []⟩])
      (ai h1 (ai (len_map e62 p0.2) (ai (len_map e62 p1.2) (ai h2 (ai (SemJ.loop (L14_0_ok p0.1 p0.2 p1.1 p1.2 fuel 0 _ h3)) trivial))))) (by kernel_rfl)) (e := .ret) rfl (vs := [.p (.bool false)]) trivial (by kernel_rfl) (.p _ _ (.refl _))
      | .inr (y1), h3, g3 =>
        have hr := Option.some.inj g3
        subst hr
        exact callP_of is14 rfl (path hm (ks := [4]) (σ' := ⟨[(4, .p (.bool true))], []⟩) (cc := c148 ++ [.leaf (.exit 0) ⟨[], []⟩, .reg [] [] 0 [] [4]])
      (ai h1 (ai (len_map e62 p0.2) (ai (len_map e62 p1.2) (ai h2 (ai (SemJ.loop (L14_0_ok p0.1 p0.2 p1.1 p1.2 fuel 0 _ h3)) trivial))))) (by kernel_rfl)) (e := .ret) rfl (vs := [.p (.bool true)]) trivial (by kernel_rfl) (.p _ _ (.refl _))
def F7  (fuel : Nat)  : Option Bool :=
  obind (F34 fuel 4 [0, 1, 2, 3, 0, 2, 1, 3, 1, 2]) fun r1 => obind (F34 fuel 4 [0, 1, 2, 3, 0, 2, 1, 3]) fun r2 => obind (F34 fuel 3 [0, 1, 0, 1, 1, 2]) fun r3 => obind (F35 fuel [3, 1, 2, 0]) fun r4 => obind (F9 fuel (r1.1, r1.2) r4) fun r5 => obind (F35 fuel [5, 5]) fun r6 => obind (F9 fuel (r3.1, r3.2) r6) fun r7 => obind (F19 fuel (r1.1, r1.2)) fun r8 => obind (F19 fuel (r2.1, r2.2)) fun r9 => obind (F15 fuel (r2.1, r2.2)) fun r10 => obind (F15 fuel (r1.1, r1.2)) fun r11 => obind (F36 fuel [0, 1, 0, 1]) fun r12 => obind (F21 fuel (r2.1, r2.2) r12) fun r13 => obind (F36 fuel [0, 0, 1, 1]) fun r14 => obind (F21 fuel (r2.1, r2.2) r14) fun r15 => obind (F17 fuel (r2.1, r2.2)) fun r16 => obind (F24 fuel (r3.1, r3.2)) fun r17 => obind (F26 fuel (r3.1, r3.2)) fun r18 => obind (F28 fuel (r1.1, r1.2)) fun r19 => obind (F30 fuel (r3.1, r3.2) 2) fun r20 => obind (F32 fuel (r3.1, r3.2)) fun r21 => obind (F37 fuel 3) fun r22 => obind (F38 fuel 4) fun r23 => obind (F38 fuel 9) fun r24 => oif ((r5.2 != 0))
  (some false)
  (oif ((r7.2 != 15))
    (some false)
    (oif ((r8 != 0))
      (some false)
      (oif ((r9 != 23))
        (some false)
        (oif ((r10.2 != 0))
          (some false)
          (oif ((r11.2 != 5))
            (some false)
            (oif ((r13 != 0))
              (some false)
              (oif ((r15 != 5))
                (some false)
                (oif ((r16.2 != 0))
                  (some false)
                  (oif ((r17.2 != 0))
                    (some false)
                    (oif ((r18.2 != 0))
                      (some false)
                      (oif ((r19.2 != 0))
                        (some false)
                        (oif ((r20.2 != 0))
                          (some false)
                          (oif ((r21.2 != 0))
                            (some false)
                            (oif ((r22.2 != 0))
                              (some false)
                              (oif ((r23.2 != 0))
                                (some false)
                                (oif ((r24.2 != 6))
                                  (some false)
                                  (obind (F35 fuel [0, 1, 2, 3]) fun r25 => obind (F13 fuel r5.1 r25) fun r26 => oif (r26)
                                    (obind (F23 fuel r10.1 r12) fun r27 => oif (r27)
                                      (oif ((r16.1 == 6))
                                        (obind (F36 fuel [1]) fun r28 => obind (F23 fuel r17.1 r28) fun r29 => oif (r29)
                                          (obind (F34 fuel 3 [0, 1, 1, 2]) fun r30 => obind (F14 fuel (r18.1.1, r18.1.2) (r30.1, r30.2)) fun r31 => oif (r31)
                                            (obind (F36 fuel [1, 1, 2, 2, 3]) fun r32 => obind (F23 fuel r19.1 r32) fun r33 => oif (r33)
                                              (obind (F36 fuel [1, 2]) fun r34 => obind (F23 fuel r20.1 r34) fun r35 => oif (r35)
                                                (obind (F34 fuel 3 [1, 2, 1, 2, 0, 1]) fun r36 => obind (F14 fuel (r21.1.1, r21.1.2) (r36.1, r36.2)) fun r37 => oif (r37)
                                                  (obind (F34 fuel 3 [0, 1, 1, 2, 0, 1]) fun r38 => obind (F14 fuel (r22.1.1, r22.1.2) (r38.1, r38.2)) fun r39 => oif (r39)
                                                    (obind (F34 fuel 4 [0, 2, 1, 3, 0, 1, 2, 3, 1, 2]) fun r40 => obind (F14 fuel (r23.1.1, r23.1.2) (r40.1, r40.2)) fun r41 => oif (r41)
                                                      (some true)
                                                      (some false))
                                                    (some false))
                                                  (some false))
                                                (some false))
                                              (some false))
                                            (some false))
                                          (some false))
                                        (some false))
                                      (some false))
                                    (some false))))))))))))))))))
end Go.Idl.N
