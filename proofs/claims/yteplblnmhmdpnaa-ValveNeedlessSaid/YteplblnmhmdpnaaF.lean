/-
  Part F of a proof: natives of the functions that are reached, and their contracts.
-/
import Derived.Test.YteplblnmhmdpnaaE
import Derived.Test.YteplblnmhmdpnaaProg
set_option maxRecDepth 100000
set_option linter.unusedVariables false
set_option linter.unusedSimpArgs false
namespace Go.Idl.N
open Go Go.Idl Go.Proofs.Try
theorem F7_ok  (fuel : Nat)   (r : Bool) (h : F7 fuel  = some r) : CallP prog 7 [] (.bool r) := by
  unfold F7 at h
  refine obind_elim h fun r1 h1 g1 => ?_
  refine obind_elim g1 fun r2 h2 g2 => ?_
  refine obind_elim g2 fun r3 h3 g3 => ?_
  refine obind_elim g3 fun r4 h4 g4 => ?_
  refine obind_elim g4 fun r5 h5 g5 => ?_
  refine obind_elim g5 fun r6 h6 g6 => ?_
  refine obind_elim g6 fun r7 h7 g7 => ?_
  refine obind_elim g7 fun r8 h8 g8 => ?_
  refine obind_elim g8 fun r9 h9 g9 => ?_
  refine obind_elim g9 fun r10 h10 g10 => ?_
  refine obind_elim g10 fun r11 h11 g11 => ?_
  refine obind_elim g11 fun r12 h12 g12 => ?_
  refine obind_elim g12 fun r13 h13 g13 => ?_
  refine obind_elim g13 fun r14 h14 g14 => ?_
  refine obind_elim g14 fun r15 h15 g15 => ?_
  refine obind_elim g15 fun r16 h16 g16 => ?_
  refine obind_elim g16 fun r17 h17 g17 => ?_
  refine obind_elim g17 fun r18 h18 g18 => ?_
  refine obind_elim g18 fun r19 h19 g19 => ?_
  refine obind_elim g19 fun r20 h20 g20 => ?_
  refine obind_elim g20 fun r21 h21 g21 => ?_
  refine obind_elim g21 fun r22 h22 g22 => ?_
  refine obind_elim g22 fun r23 h23 g23 => ?_
  refine obind_elim g23 fun r24 h24 g24 => ?_
  let c149 : List CC := [.reg [] [] 0 [] [], .reg [] [] 3 [(1, none, .call (.agg [.int .i64 r1.1, .sl (List.map e62 r1.2) false])), (3, none, .call (.agg [.int .i64 r2.1, .sl (List.map e62 r2.2) false])), (5, none, .call (.agg [.int .i64 r3.1, .sl (List.map e62 r3.2) false])), (6, some 0, .a), (7, some 1, .a), (8, some 2, .a)] [1, 2, 3], .reg [0, 0, 2, 7, 15, 31, 31, 63, 255] [] 0 [(2, none, .call (.sl (List.map e2 r4) false)), (3, none, .call (.tup [.sl (List.map e2 r5.1) false, .int .i64 r5.2]))] [1, 2, 3, 4, 5], .reg [0, 0, 2, 7, 15, 31, 31, 63, 255] [] 0 [(2, none, .call (.sl (List.map e2 r6) false)), (3, none, .call (.tup [.sl (List.map e2 r7.1) false, .int .i64 r7.2]))] [1, 2, 3, 4, 5, 7], .reg [0, 1, 0, 7, 15, 31] [] 0 [(1, none, .call (.int .i64 r8)), (3, none, .call (.int .i64 r9))] [1, 2, 3, 4, 5, 7, 8, 9], .reg [] [] 0 [(1, none, .call (.tup [.sl (List.map e3 r10.1) false, .int .i64 r10.2]))] [1, 2, 3, 4, 5, 7, 8, 9, 10, 11], .reg [] [] 0 [(1, none, .call (.tup [.sl (List.map e3 r11.1) false, .int .i64 r11.2]))] [1, 2, 3, 4, 5, 7, 8, 9, 10, 11, 13], .reg [0, 0, 2, 7, 0, 0, 47, 127, 255, 511] [] 0 [(2, none, .call (.sl (List.map e3 r12) false)), (3, none, .call (.int .i64 r13)), (6, none, .call (.sl (List.map e3 r14) false)), (7, none, .call (.int .i64 r15))] [1, 2, 3, 4, 5, 7, 8, 9, 10, 11, 13, 14, 15], .reg [] [] 0 [(1, none, .call (.tup [.int .i64 r16.1, .int .i64 r16.2]))] [1, 3, 4, 5, 7, 8, 9, 10, 11, 13, 14, 15, 16, 17], .reg [] [] 0 [(1, none, .call (.tup [.sl (List.map e3 r17.1) false, .int .i64 r17.2]))] [1, 3, 4, 5, 7, 8, 9, 10, 11, 13, 14, 15, 16, 17, 18, 19], .reg [] [] 1 [(1, none, .call (.tup [.agg [.int .i64 r18.1.1, .sl (List.map e62 r18.1.2) false], .int .i64 r18.2])), (5, some 3, .a)] [1, 3, 4, 5, 7, 8, 9, 10, 11, 13, 14, 15, 16, 17, 18, 19, 20, 21], .reg [] [] 0 [(1, none, .call (.tup [.sl (List.map e3 r19.1) false, .int .i64 r19.2]))] [3, 4, 5, 7, 8, 9, 10, 11, 13, 14, 15, 16, 17, 18, 19, 20, 21, 22, 23], .reg [] [] 0 [(1, none, .call (.tup [.sl (List.map e3 r20.1) false, .int .i64 r20.2]))] [3, 4, 5, 7, 8, 9, 10, 11, 13, 14, 15, 16, 17, 18, 19, 20, 21, 22, 23, 24, 25], .reg [] [] 1 [(1, none, .call (.tup [.agg [.int .i64 r21.1.1, .sl (List.map e62 r21.1.2) false], .int .i64 r21.2])), (5, some 4, .a)] [4, 5, 7, 8, 9, 10, 11, 13, 14, 15, 16, 17, 18, 19, 20, 21, 22, 23, 24, 25, 26, 27], .reg [] [] 1 [(0, none, .call (.tup [.agg [.int .i64 r22.1.1, .sl (List.map e62 r22.1.2) false], .int .i64 r22.2])), (4, some 5, .a)] [4, 5, 7, 8, 9, 10, 11, 13, 14, 15, 16, 17, 18, 19, 20, 21, 22, 23, 24, 25, 26, 27, 28, 29], .reg [] [] 1 [(0, none, .call (.tup [.agg [.int .i64 r23.1.1, .sl (List.map e62 r23.1.2) false], .int .i64 r23.2])), (4, some 6, .a)] [4, 5, 7, 8, 9, 10, 11, 13, 14, 15, 16, 17, 18, 19, 20, 21, 22, 23, 24, 25, 26, 27, 28, 29, 30, 31], .reg [] [] 1 [(0, none, .call (.tup [.agg [.int .i64 r24.1.1, .sl (List.map e62 r24.1.2) false], .int .i64 r24.2])), (4, some 7, .a)] [4, 5, 7, 8, 9, 10, 11, 13, 14, 15, 16, 17, 18, 19, 20, 21, 22, 23, 24, 25, 26, 27, 28, 29, 30, 31, 33]]
  have q150 := fun {P : Prop} (t : P) => ai (F34_ok fuel 4 [0, 1, 2, 3, 0, 2, 1, 3, 1, 2] true _ h1) (ai (F34_ok fuel 4 [0, 1, 2, 3, 0, 2, 1, 3] true _ h2) (ai (F34_ok fuel 3 [0, 1, 0, 1, 1, 2] true _ h3) (ai (F35_ok fuel [3, 1, 2, 0] true _ h4) (ai (F9_ok fuel (r1.1, r1.2) r4 false _ h5) (ai (F35_ok fuel [5, 5] true _ h6) (ai (F9_ok fuel (r3.1, r3.2) r6 false _ h7) (ai (F19_ok fuel (r1.1, r1.2) _ h8) (ai (F19_ok fuel (r2.1, r2.2) _ h9) (ai (F15_ok fuel (r2.1, r2.2) _ h10) (ai (F15_ok fuel (r1.1, r1.2) _ h11) (ai (F36_ok fuel [0, 1, 0, 1] true _ h12) (ai (F21_ok fuel (r2.1, r2.2) r12 false _ h13) (ai (F36_ok fuel [0, 0, 1, 1] true _ h14) (ai (F21_ok fuel (r2.1, r2.2) r14 false _ h15) (ai (F17_ok fuel (r2.1, r2.2) _ h16) (ai (F24_ok fuel (r3.1, r3.2) _ h17) (ai (F26_ok fuel (r3.1, r3.2) _ h18) (ai (F28_ok fuel (r1.1, r1.2) _ h19) (ai (F30_ok fuel (r3.1, r3.2) 2 _ h20) (ai (F32_ok fuel (r3.1, r3.2) _ h21) (ai (F37_ok fuel 3 _ h22) (ai (F38_ok fuel 4 _ h23) (ai (F38_ok fuel 9 _ h24) t)))))))))))))))))))))))
  refine oif_elim g24 (fun h25 g25 => ?_) (fun h25 g25 => ?_)
  · have hr := Option.some.inj g25
    subst hr
    exact callP_of is7 rfl (path hm (ks := [0]) (σ' := ⟨[(0, .p (.bool false))], [.cells [.p (.int .i64 r1.1), .p (.sl (List.map e62 r1.2) false)] 0, .cells [.p (.int .i64 r2.1), .p (.sl (List.map e62 r2.2) false)] 0, .cells [.p (.int .i64 r3.1), .p (.sl (List.map e62 r3.2) false)] 0, .cells [.p (.int .i64 r18.1.1), .p (.sl (List.map e62 r18.1.2) false)] 0, .cells [.p (.int .i64 r21.1.1), .p (.sl (List.map e62 r21.1.2) false)] 0, .cells [.p (.int .i64 r22.1.1), .p (.sl (List.map e62 r22.1.2) false)] 0, .cells [.p (.int .i64 r23.1.1), .p (.sl (List.map e62 r23.1.2) false)] 0, .cells [.p (.int .i64 r24.1.1), .p (.sl (List.map e62 r24.1.2) false)] 0]⟩) (cc := c149 ++ [.reg [] [] 0 [(1, none, .b true)] [4, 10, 16, 18, 20, 22, 24, 26, 28, 30, 183], .reg [] [] 0 [] [0]])
      (q150 (ai h25 trivial)) (by kernel_rfl)) (e := .ret) rfl (vs := [.p (.bool false)]) trivial (by kernel_rfl) (.p _ _ (.refl _))
  · refine oif_elim g25 (fun h26 g26 => ?_) (fun h26 g26 => ?_)
    · have hr := Option.some.inj g26
      subst hr
      exact callP_of is7 rfl (path hm (ks := [0]) (σ' := ⟨[(0, .p (.bool false))], [.cells [.p (.int .i64 r1.1), .p (.sl (List.map e62 r1.2) false)] 0, .cells [.p (.int .i64 r2.1), .p (.sl (List.map e62 r2.2) false)] 0, .cells [.p (.int .i64 r3.1), .p (.sl (List.map e62 r3.2) false)] 0, .cells [.p (.int .i64 r18.1.1), .p (.sl (List.map e62 r18.1.2) false)] 0, .cells [.p (.int .i64 r21.1.1), .p (.sl (List.map e62 r21.1.2) false)] 0, .cells [.p (.int .i64 r22.1.1), .p (.sl (List.map e62 r22.1.2) false)] 0, .cells [.p (.int .i64 r23.1.1), .p (.sl (List.map e62 r23.1.2) false)] 0, .cells [.p (.int .i64 r24.1.1), .p (.sl (List.map e62 r24.1.2) false)] 0]⟩) (cc := c149 ++ [.reg [] [] 0 [(1, none, .b false), (4, none, .b true)] [4, 10, 16, 18, 20, 22, 24, 26, 28, 30, 183], .reg [] [] 0 [] [0]])
      (q150 (ai h25 (ai h26 trivial))) (by kernel_rfl)) (e := .ret) rfl (vs := [.p (.bool false)]) trivial (by kernel_rfl) (.p _ _ (.refl _))
    · have q151 := fun {P : Prop} (t : P) => ai h25 (ai h26 t)
      refine oif_elim g26 (fun h27 g27 => ?_) (fun h27 g27 => ?_)
      · have hr := Option.some.inj g27
        subst hr
        exact callP_of is7 rfl (path hm (ks := [0]) (σ' := ⟨[(0, .p (.bool false))], [.cells [.p (.int .i64 r1.1), .p (.sl (List.map e62 r1.2) false)] 0, .cells [.p (.int .i64 r2.1), .p (.sl (List.map e62 r2.2) false)] 0, .cells [.p (.int .i64 r3.1), .p (.sl (List.map e62 r3.2) false)] 0, .cells [.p (.int .i64 r18.1.1), .p (.sl (List.map e62 r18.1.2) false)] 0, .cells [.p (.int .i64 r21.1.1), .p (.sl (List.map e62 r21.1.2) false)] 0, .cells [.p (.int .i64 r22.1.1), .p (.sl (List.map e62 r22.1.2) false)] 0, .cells [.p (.int .i64 r23.1.1), .p (.sl (List.map e62 r23.1.2) false)] 0, .cells [.p (.int .i64 r24.1.1), .p (.sl (List.map e62 r24.1.2) false)] 0]⟩) (cc := c149 ++ [.reg [] [] 0 [(1, none, .b false), (4, none, .b false), (8, none, .b true)] [4, 10, 16, 18, 20, 22, 24, 26, 28, 30, 183], .reg [] [] 0 [] [0]])
      (q150 (q151 (ai h27 trivial))) (by kernel_rfl)) (e := .ret) rfl (vs := [.p (.bool false)]) trivial (by kernel_rfl) (.p _ _ (.refl _))
      · refine oif_elim g27 (fun h28 g28 => ?_) (fun h28 g28 => ?_)
        · have hr := Option.some.inj g28
          subst hr
          exact callP_of is7 rfl (path hm (ks := [0]) (σ' := ⟨[(0, .p (.bool false))], [.cells [.p (.int .i64 r1.1), .p (.sl (List.map e62 r1.2) false)] 0, .cells [.p (.int .i64 r2.1), .p (.sl (List.map e62 r2.2) false)] 0, .cells [.p (.int .i64 r3.1), .p (.sl (List.map e62 r3.2) false)] 0, .cells [.p (.int .i64 r18.1.1), .p (.sl (List.map e62 r18.1.2) false)] 0, .cells [.p (.int .i64 r21.1.1), .p (.sl (List.map e62 r21.1.2) false)] 0, .cells [.p (.int .i64 r22.1.1), .p (.sl (List.map e62 r22.1.2) false)] 0, .cells [.p (.int .i64 r23.1.1), .p (.sl (List.map e62 r23.1.2) false)] 0, .cells [.p (.int .i64 r24.1.1), .p (.sl (List.map e62 r24.1.2) false)] 0]⟩) (cc := c149 ++ [.reg [] [] 0 [(1, none, .b false), (4, none, .b false), (8, none, .b false), (12, none, .b true)] [4, 10, 16, 18, 20, 22, 24, 26, 28, 30, 183], .reg [] [] 0 [] [0]])
      (q150 (q151 (ai h27 (ai h28 trivial)))) (by kernel_rfl)) (e := .ret) rfl (vs := [.p (.bool false)]) trivial (by kernel_rfl) (.p _ _ (.refl _))
        · have q152 := fun {P : Prop} (t : P) => ai h27 (ai h28 t)
          refine oif_elim g28 (fun h29 g29 => ?_) (fun h29 g29 => ?_)
          · have hr := Option.some.inj g29
            subst hr
            exact callP_of is7 rfl (path hm (ks := [0]) (σ' := ⟨[(0, .p (.bool false))], [.cells [.p (.int .i64 r1.1), .p (.sl (List.map e62 r1.2) false)] 0, .cells [.p (.int .i64 r2.1), .p (.sl (List.map e62 r2.2) false)] 0, .cells [.p (.int .i64 r3.1), .p (.sl (List.map e62 r3.2) false)] 0, .cells [.p (.int .i64 r18.1.1), .p (.sl (List.map e62 r18.1.2) false)] 0, .cells [.p (.int .i64 r21.1.1), .p (.sl (List.map e62 r21.1.2) false)] 0, .cells [.p (.int .i64 r22.1.1), .p (.sl (List.map e62 r22.1.2) false)] 0, .cells [.p (.int .i64 r23.1.1), .p (.sl (List.map e62 r23.1.2) false)] 0, .cells [.p (.int .i64 r24.1.1), .p (.sl (List.map e62 r24.1.2) false)] 0]⟩) (cc := c149 ++ [.reg [] [] 0 [(1, none, .b false), (4, none, .b false), (8, none, .b false), (12, none, .b false), (16, none, .b true)] [4, 10, 16, 18, 20, 22, 24, 26, 28, 30, 183], .reg [] [] 0 [] [0]])
      (q150 (q151 (q152 (ai h29 trivial)))) (by kernel_rfl)) (e := .ret) rfl (vs := [.p (.bool false)]) trivial (by kernel_rfl) (.p _ _ (.refl _))
          · refine oif_elim g29 (fun h30 g30 => ?_) (fun h30 g30 => ?_)
            · have hr := Option.some.inj g30
              subst hr
              exact callP_of is7 rfl (path hm (ks := [0]) (σ' := ⟨[(0, .p (.bool false))], [.cells [.p (.int .i64 r1.1), .p (.sl (List.map e62 r1.2) false)] 0, .cells [.p (.int .i64 r2.1), .p (.sl (List.map e62 r2.2) false)] 0, .cells [.p (.int .i64 r3.1), .p (.sl (List.map e62 r3.2) false)] 0, .cells [.p (.int .i64 r18.1.1), .p (.sl (List.map e62 r18.1.2) false)] 0, .cells [.p (.int .i64 r21.1.1), .p (.sl (List.map e62 r21.1.2) false)] 0, .cells [.p (.int .i64 r22.1.1), .p (.sl (List.map e62 r22.1.2) false)] 0, .cells [.p (.int .i64 r23.1.1), .p (.sl (List.map e62 r23.1.2) false)] 0, .cells [.p (.int .i64 r24.1.1), .p (.sl (List.map e62 r24.1.2) false)] 0]⟩) (cc := c149 ++ [.reg [] [] 0 [(1, none, .b false), (4, none, .b false), (8, none, .b false), (12, none, .b false), (16, none, .b false), (20, none, .b true)] [4, 10, 16, 18, 20, 22, 24, 26, 28, 30, 183], .reg [] [] 0 [] [0]])
      (q150 (q151 (q152 (ai h29 (ai h30 trivial))))) (by kernel_rfl)) (e := .ret) rfl (vs := [.p (.bool false)]) trivial (by kernel_rfl) (.p _ _ (.refl _))
            · have q153 := fun {P : Prop} (t : P) => ai h29 (ai h30 t)
              refine oif_elim g30 (fun h31 g31 => ?_) (fun h31 g31 => ?_)
              · have hr := Option.some.inj g31
                subst hr
                exact callP_of is7 rfl (path hm (ks := [0]) (σ' := ⟨[(0, .p (.bool false))], [.cells [.p (.int .i64 r1.1), .p (.sl (List.map e62 r1.2) false)] 0, .cells [.p (.int .i64 r2.1), .p (.sl (List.map e62 r2.2) false)] 0, .cells [.p (.int .i64 r3.1), .p (.sl (List.map e62 r3.2) false)] 0, .cells [.p (.int .i64 r18.1.1), .p (.sl (List.map e62 r18.1.2) false)] 0, .cells [.p (.int .i64 r21.1.1), .p (.sl (List.map e62 r21.1.2) false)] 0, .cells [.p (.int .i64 r22.1.1), .p (.sl (List.map e62 r22.1.2) false)] 0, .cells [.p (.int .i64 r23.1.1), .p (.sl (List.map e62 r23.1.2) false)] 0, .cells [.p (.int .i64 r24.1.1), .p (.sl (List.map e62 r24.1.2) false)] 0]⟩) (cc := c149 ++ [.reg [] [] 0 [(1, none, .b false), (4, none, .b false), (8, none, .b false), (12, none, .b false), (16, none, .b false), (20, none, .b false), (24, none, .b true)] [4, 10, 16, 18, 20, 22, 24, 26, 28, 30, 183], .reg [] [] 0 [] [0]])
      (q150 (q151 (q152 (q153 (ai h31 trivial))))) (by kernel_rfl)) (e := .ret) rfl (vs := [.p (.bool false)]) trivial (by kernel_rfl) (.p _ _ (.refl _))
              · refine oif_elim g31 (fun h32 g32 => ?_) (fun h32 g32 => ?_)
                · have hr := Option.some.inj g32
                  subst hr
                  exact callP_of is7 rfl (path hm (ks := [0]) (σ' := ⟨[(0, .p (.bool false))], [.cells [.p (.int .i64 r1.1), .p (.sl (List.map e62 r1.2) false)] 0, .cells [.p (.int .i64 r2.1), .p (.sl (List.map e62 r2.2) false)] 0, .cells [.p (.int .i64 r3.1), .p (.sl (List.map e62 r3.2) false)] 0, .cells [.p (.int .i64 r18.1.1), .p (.sl (List.map e62 r18.1.2) false)] 0, .cells [.p (.int .i64 r21.1.1), .p (.sl (List.map e62 r21.1.2) false)] 0, .cells [.p (.int .i64 r22.1.1), .p (.sl (List.map e62 r22.1.2) false)] 0, .cells [.p (.int .i64 r23.1.1), .p (.sl (List.map e62 r23.1.2) false)] 0, .cells [.p (.int .i64 r24.1.1), .p (.sl (List.map e62 r24.1.2) false)] 0]⟩) (cc := c149 ++ [.reg [] [] 0 [(1, none, .b false), (4, none, .b false), (8, none, .b false), (12, none, .b false), (16, none, .b false), (20, none, .b false), (24, none, .b false), (28, none, .b true)] [4, 10, 16, 18, 20, 22, 24, 26, 28, 30, 183], .reg [] [] 0 [] [0]])
      (q150 (q151 (q152 (q153 (ai h31 (ai h32 trivial)))))) (by kernel_rfl)) (e := .ret) rfl (vs := [.p (.bool false)]) trivial (by kernel_rfl) (.p _ _ (.refl _))
                · have q154 := fun {P : Prop} (t : P) => ai h31 (ai h32 t)
                  refine oif_elim g32 (fun h33 g33 => ?_) (fun h33 g33 => ?_)
                  · have hr := Option.some.inj g33
                    subst hr
                    exact callP_of is7 rfl (path hm (ks := [0]) (σ' := ⟨[(0, .p (.bool false))], [.cells [.p (.int .i64 r1.1), .p (.sl (List.map e62 r1.2) false)] 0, .cells [.p (.int .i64 r2.1), .p (.sl (List.map e62 r2.2) false)] 0, .cells [.p (.int .i64 r3.1), .p (.sl (List.map e62 r3.2) false)] 0, .cells [.p (.int .i64 r18.1.1), .p (.sl (List.map e62 r18.1.2) false)] 0, .cells [.p (.int .i64 r21.1.1), .p (.sl (List.map e62 r21.1.2) false)] 0, .cells [.p (.int .i64 r22.1.1), .p (.sl (List.map e62 r22.1.2) false)] 0, .cells [.p (.int .i64 r23.1.1), .p (.sl (List.map e62 r23.1.2) false)] 0, .cells [.p (.int .i64 r24.1.1), .p (.sl (List.map e62 r24.1.2) false)] 0]⟩) (cc := c149 ++ [.reg [] [] 0 [(1, none, .b false), (4, none, .b false), (8, none, .b false), (12, none, .b false), (16, none, .b false), (20, none, .b false), (24, none, .b false), (28, none, .b false), (32, none, .b true)] [4, 10, 16, 18, 20, 22, 24, 26, 28, 30, 183], .reg [] [] 0 [] [0]])
      (q150 (q151 (q152 (q153 (q154 (ai h33 trivial)))))) (by kernel_rfl)) (e := .ret) rfl (vs := [.p (.bool false)]) trivial (by kernel_rfl) (.p _ _ (.refl _))
                  · refine oif_elim g33 (fun h34 g34 => ?_) (fun h34 g34 => ?_)
                    · have hr := Option.some.inj g34
                      subst hr
                      exact callP_of is7 rfl (path hm (ks := [0]) (σ' := ⟨[(0, .p (.bool false))], [.cells [.p (.int .i64 r1.1), .p (.sl (List.map e62 r1.2) false)] 0, .cells [.p (.int .i64 r2.1), .p (.sl (List.map e62 r2.2) false)] 0, .cells [.p (.int .i64 r3.1), .p (.sl (List.map e62 r3.2) false)] 0, .cells [.p (.int .i64 r18.1.1), .p (.sl (List.map e62 r18.1.2) false)] 0, .cells [.p (.int .i64 r21.1.1), .p (.sl (List.map e62 r21.1.2) false)] 0, .cells [.p (.int .i64 r22.1.1), .p (.sl (List.map e62 r22.1.2) false)] 0, .cells [.p (.int .i64 r23.1.1), .p (.sl (List.map e62 r23.1.2) false)] 0, .cells [.p (.int .i64 r24.1.1), .p (.sl (List.map e62 r24.1.2) false)] 0]⟩) (cc := c149 ++ [.reg [] [] 0 [(1, none, .b false), (4, none, .b false), (8, none, .b false), (12, none, .b false), (16, none, .b false), (20, none, .b false), (24, none, .b false), (28, none, .b false), (32, none, .b false), (36, none, .b true)] [4, 10, 16, 18, 20, 22, 24, 26, 28, 30, 183], .reg [] [] 0 [] [0]])
      (q150 (q151 (q152 (q153 (q154 (ai h33 (ai h34 trivial))))))) (by kernel_rfl)) (e := .ret) rfl (vs := [.p (.bool false)]) trivial (by kernel_rfl) (.p _ _ (.refl _))
                    · have q155 := fun {P : Prop} (t : P) => ai h33 (ai h34 t)
                      refine oif_elim g34 (fun h35 g35 => ?_) (fun h35 g35 => ?_)
                      · have hr := Option.some.inj g35
                        subst hr
                        exact callP_of is7 rfl (path hm (ks := [0]) (σ' := ⟨[(0, .p (.bool false))], [.cells [.p (.int .i64 r1.1), .p (.sl (List.map e62 r1.2) false)] 0, .cells [.p (.int .i64 r2.1), .p (.sl (List.map e62 r2.2) false)] 0, .cells [.p (.int .i64 r3.1), .p (.sl (List.map e62 r3.2) false)] 0, .cells [.p (.int .i64 r18.1.1), .p (.sl (List.map e62 r18.1.2) false)] 0, .cells [.p (.int .i64 r21.1.1), .p (.sl (List.map e62 r21.1.2) false)] 0, .cells [.p (.int .i64 r22.1.1), .p (.sl (List.map e62 r22.1.2) false)] 0, .cells [.p (.int .i64 r23.1.1), .p (.sl (List.map e62 r23.1.2) false)] 0, .cells [.p (.int .i64 r24.1.1), .p (.sl (List.map e62 r24.1.2) false)] 0]⟩) (cc := c149 ++ [.reg [] [] 0 [(1, none, .b false), (4, none, .b false), (8, none, .b false), (12, none, .b false), (16, none, .b false), (20, none, .b false), (24, none, .b false), (28, none, .b false), (32, none, .b false), (36, none, .b false), (40, none, .b true)] [4, 10, 16, 18, 20, 22, 24, 26, 28, 30, 183], .reg [] [] 0 [] [0]])
      (q150 (q151 (q152 (q153 (q154 (q155 (ai h35 trivial))))))) (by kernel_rfl)) (e := .ret) rfl (vs := [.p (.bool false)]) trivial (by kernel_rfl) (.p _ _ (.refl _))
                      · refine oif_elim g35 (fun h36 g36 => ?_) (fun h36 g36 => ?_)
                        · have hr := Option.some.inj g36
                          subst hr
                          exact callP_of is7 rfl (path hm (ks := [0]) (σ' := ⟨[(0, .p (.bool false))], [.cells [.p (.int .i64 r1.1), .p (.sl (List.map e62 r1.2) false)] 0, .cells [.p (.int .i64 r2.1), .p (.sl (List.map e62 r2.2) false)] 0, .cells [.p (.int .i64 r3.1), .p (.sl (List.map e62 r3.2) false)] 0, .cells [.p (.int .i64 r18.1.1), .p (.sl (List.map e62 r18.1.2) false)] 0, .cells [.p (.int .i64 r21.1.1), .p (.sl (List.map e62 r21.1.2) false)] 0, .cells [.p (.int .i64 r22.1.1), .p (.sl (List.map e62 r22.1.2) false)] 0, .cells [.p (.int .i64 r23.1.1), .p (.sl (List.map e62 r23.1.2) false)] 0, .cells [.p (.int .i64 r24.1.1), .p (.sl (List.map e62 r24.1.2) false)] 0]⟩) (cc := c149 ++ [.reg [] [] 0 [(1, none, .b false), (4, none, .b false), (8, none, .b false), (12, none, .b false), (16, none, .b false), (20, none, .b false), (24, none, .b false), (28, none, .b false), (32, none, .b false), (36, none, .b false), (40, none, .b false), (44, none, .b true)] [4, 10, 16, 18, 20, 22, 24, 26, 28, 30, 183], .reg [] [] 0 [] [0]])
      (q150 (q151 (q152 (q153 (q154 (q155 (ai h35 (ai h36 trivial)))))))) (by kernel_rfl)) (e := .ret) rfl (vs := [.p (.bool false)]) trivial (by kernel_rfl) (.p _ _ (.refl _))
                        · refine oif_elim g36 (fun h37 g37 => ?_) (fun h37 g37 => ?_)
                          · have hr := Option.some.inj g37
                            subst hr
                            exact callP_of is7 rfl (path hm (ks := [0]) (σ' := ⟨[(0, .p (.bool false))], [.cells [.p (.int .i64 r1.1), .p (.sl (List.map e62 r1.2) false)] 0, .cells [.p (.int .i64 r2.1), .p (.sl (List.map e62 r2.2) false)] 0, .cells [.p (.int .i64 r3.1), .p (.sl (List.map e62 r3.2) false)] 0, .cells [.p (.int .i64 r18.1.1), .p (.sl (List.map e62 r18.1.2) false)] 0, .cells [.p (.int .i64 r21.1.1), .p (.sl (List.map e62 r21.1.2) false)] 0, .cells [.p (.int .i64 r22.1.1), .p (.sl (List.map e62 r22.1.2) false)] 0, .cells [.p (.int .i64 r23.1.1), .p (.sl (List.map e62 r23.1.2) false)] 0, .cells [.p (.int .i64 r24.1.1), .p (.sl (List.map e62 r24.1.2) false)] 0]⟩) (cc := c149 ++ [.reg [] [] 0 [(1, none, .b false), (4, none, .b false), (8, none, .b false), (12, none, .b false), (16, none, .b false), (20, none, .b false), (24, none, .b false), (28, none, .b false), (32, none, .b false), (36, none, .b false), (40, none, .b false), (44, none, .b false), (48, none, .b true)] [4, 10, 16, 18, 20, 22, 24, 26, 28, 30, 183], .reg [] [] 0 [] [0]])
      (q150 (q151 (q152 (q153 (q154 (q155 (ai h35 (ai h36 (ai h37 trivial))))))))) (by kernel_rfl)) (e := .ret) rfl (vs := [.p (.bool false)]) trivial (by kernel_rfl) (.p _ _ (.refl _))
                          · have q156 := fun {P : Prop} (t : P) => ai h35 (ai h36 (ai h37 t))
                            refine oif_elim g37 (fun h38 g38 => ?_) (fun h38 g38 => ?_)
                            · have hr := Option.some.inj g38
                              subst hr
                              exact callP_of is7 rfl (path hm (ks := [0]) (σ' := ⟨[(0, .p (.bool false))], [.cells [.p (.int .i64 r1.1), .p (.sl (List.map e62 r1.2) false)] 0, .cells [.p (.int .i64 r2.1), .p (.sl (List.map e62 r2.2) false)] 0, .cells [.p (.int .i64 r3.1), .p (.sl (List.map e62 r3.2) false)] 0, .cells [.p (.int .i64 r18.1.1), .p (.sl (List.map e62 r18.1.2) false)] 0, .cells [.p (.int .i64 r21.1.1), .p (.sl (List.map e62 r21.1.2) false)] 0, .cells [.p (.int .i64 r22.1.1), .p (.sl (List.map e62 r22.1.2) false)] 0, .cells [.p (.int .i64 r23.1.1), .p (.sl (List.map e62 r23.1.2) false)] 0, .cells [.p (.int .i64 r24.1.1), .p (.sl (List.map e62 r24.1.2) false)] 0]⟩) (cc := c149 ++ [.reg [] [] 0 [(1, none, .b false), (4, none, .b false), (8, none, .b false), (12, none, .b false), (16, none, .b false), (20, none, .b false), (24, none, .b false), (28, none, .b false), (32, none, .b false), (36, none, .b false), (40, none, .b false), (44, none, .b false), (48, none, .b false), (52, none, .b true)] [4, 10, 16, 18, 20, 22, 24, 26, 28, 30, 183], .reg [] [] 0 [] [0]])
      (q150 (q151 (q152 (q153 (q154 (q155 (q156 (ai h38 trivial)))))))) (by kernel_rfl)) (e := .ret) rfl (vs := [.p (.bool false)]) trivial (by kernel_rfl) (.p _ _ (.refl _))
                            · refine oif_elim g38 (fun h39 g39 => ?_) (fun h39 g39 => ?_)
                              · have hr := Option.some.inj g39
                                subst hr
                                exact callP_of is7 rfl (path hm (ks := [0]) (σ' := ⟨[(0, .p (.bool false))], [.cells [.p (.int .i64 r1.1), .p (.sl (List.map e62 r1.2) false)] 0, .cells [.p (.int .i64 r2.1), .p (.sl (List.map e62 r2.2) false)] 0, .cells [.p (.int .i64 r3.1), .p (.sl (List.map e62 r3.2) false)] 0, .cells [.p (.int .i64 r18.1.1), .p (.sl (List.map e62 r18.1.2) false)] 0, .cells [.p (.int .i64 r21.1.1), .p (.sl (List.map e62 r21.1.2) false)] 0, .cells [.p (.int .i64 r22.1.1), .p (.sl (List.map e62 r22.1.2) false)] 0, .cells [.p (.int .i64 r23.1.1), .p (.sl (List.map e62 r23.1.2) false)] 0, .cells [.p (.int .i64 r24.1.1), .p (.sl (List.map e62 r24.1.2) false)] 0]⟩) (cc := c149 ++ [.reg [] [] 0 [(1, none, .b false), (4, none, .b false), (8, none, .b false), (12, none, .b false), (16, none, .b false), (20, none, .b false), (24, none, .b false), (28, none, .b false), (32, none, .b false), (36, none, .b false), (40, none, .b false), (44, none, .b false), (48, none, .b false), (52, none, .b false), (56, none, .b true)] [4, 10, 16, 18, 20, 22, 24, 26, 28, 30, 183], .reg [] [] 0 [] [0]])
      (q150 (q151 (q152 (q153 (q154 (q155 (q156 (ai h38 (ai h39 trivial))))))))) (by kernel_rfl)) (e := .ret) rfl (vs := [.p (.bool false)]) trivial (by kernel_rfl) (.p _ _ (.refl _))
                              · refine oif_elim g39 (fun h40 g40 => ?_) (fun h40 g40 => ?_)
                                · have hr := Option.some.inj g40
                                  subst hr
                                  exact callP_of is7 rfl (path hm (ks := [0]) (σ' := ⟨[(0, .p (.bool false))], [.cells [.p (.int .i64 r1.1), .p (.sl (List.map e62 r1.2) false)] 0, .cells [.p (.int .i64 r2.1), .p (.sl (List.map e62 r2.2) false)] 0, .cells [.p (.int .i64 r3.1), .p (.sl (List.map e62 r3.2) false)] 0, .cells [.p (.int .i64 r18.1.1), .p (.sl (List.map e62 r18.1.2) false)] 0, .cells [.p (.int .i64 r21.1.1), .p (.sl (List.map e62 r21.1.2) false)] 0, .cells [.p (.int .i64 r22.1.1), .p (.sl (List.map e62 r22.1.2) false)] 0, .cells [.p (.int .i64 r23.1.1), .p (.sl (List.map e62 r23.1.2) false)] 0, .cells [.p (.int .i64 r24.1.1), .p (.sl (List.map e62 r24.1.2) false)] 0]⟩) (cc := c149 ++ [.reg [] [] 0 [(1, none, .b false), (4, none, .b false), (8, none, .b false), (12, none, .b false), (16, none, .b false), (20, none, .b false), (24, none, .b false), (28, none, .b false), (32, none, .b false), (36, none, .b false), (40, none, .b false), (44, none, .b false), (48, none, .b false), (52, none, .b false), (56, none, .b false), (60, none, .b true)] [4, 10, 16, 18, 20, 22, 24, 26, 28, 30, 183], .reg [] [] 0 [] [0]])
      (q150 (q151 (q152 (q153 (q154 (q155 (q156 (ai h38 (ai h39 (ai h40 trivial)))))))))) (by kernel_rfl)) (e := .ret) rfl (vs := [.p (.bool false)]) trivial (by kernel_rfl) (.p _ _ (.refl _))
                                · refine oif_elim g40 (fun h41 g41 => ?_) (fun h41 g41 => ?_)
                                  · have hr := Option.some.inj g41
                                    subst hr
                                    exact callP_of is7 rfl (path hm (ks := [0]) (σ' := ⟨[(0, .p (.bool false))], [.cells [.p (.int .i64 r1.1), .p (.sl (List.map e62 r1.2) false)] 0, .cells [.p (.int .i64 r2.1), .p (.sl (List.map e62 r2.2) false)] 0, .cells [.p (.int .i64 r3.1), .p (.sl (List.map e62 r3.2) false)] 0, .cells [.p (.int .i64 r18.1.1), .p (.sl (List.map e62 r18.1.2) false)] 0, .cells [.p (.int .i64 r21.1.1), .p (.sl (List.map e62 r21.1.2) false)] 0, .cells [.p (.int .i64 r22.1.1), .p (.sl (List.map e62 r22.1.2) false)] 0, .cells [.p (.int .i64 r23.1.1), .p (.sl (List.map e62 r23.1.2) false)] 0, .cells [.p (.int .i64 r24.1.1), .p (.sl (List.map e62 r24.1.2) false)] 0]⟩) (cc := c149 ++ [.reg [] [] 0 [(1, none, .b false), (4, none, .b false), (8, none, .b false), (12, none, .b false), (16, none, .b false), (20, none, .b false), (24, none, .b false), (28, none, .b false), (32, none, .b false), (36, none, .b false), (40, none, .b false), (44, none, .b false), (48, none, .b false), (52, none, .b false), (56, none, .b false), (60, none, .b false), (64, none, .b true)] [4, 10, 16, 18, 20, 22, 24, 26, 28, 30, 183], .reg [] [] 0 [] [0]])
      (q150 (q151 (q152 (q153 (q154 (q155 (q156 (ai h38 (ai h39 (ai h40 (ai h41 trivial))))))))))) (by kernel_rfl)) (e := .ret) rfl (vs := [.p (.bool false)]) trivial (by kernel_rfl) (.p _ _ (.refl _))
                                  · refine obind_elim g41 fun r25 h42 g42 => ?_
                                    refine obind_elim g42 fun r26 h43 g43 => ?_
                                    let c157 : List CC := c149 ++ [.reg [] [] 0 [(1, none, .b false), (4, none, .b false), (8, none, .b false), (12, none, .b false), (16, none, .b false), (20, none, .b false), (24, none, .b false), (28, none, .b false), (32, none, .b false), (36, none, .b false), (40, none, .b false), (44, none, .b false), (48, none, .b false), (52, none, .b false), (56, none, .b false), (60, none, .b false), (64, none, .b false)] [4, 10, 16, 18, 20, 22, 24, 26, 28, 30, 183]]
                                    have q158 := fun {P : Prop} (t : P) => ai h38 (ai h39 (ai h40 (ai h41 (ai (F35_ok fuel [0, 1, 2, 3] true _ h42) (ai (F13_ok fuel r5.1 r25 false false _ h43) t)))))
                                    refine oif_elim g43 (fun h44 g44 => ?_) (fun h44 g44 => ?_)
                                    · subst h44
                                      refine obind_elim g44 fun r27 h45 g45 => ?_
                                      have q159 := fun {P : Prop} (t : P) => ai (F36_ok fuel [0, 1, 0, 1] true _ h12) (ai (F23_ok fuel r10.1 r12 false false _ h45) t)
                                      refine oif_elim g45 (fun h46 g46 => ?_) (fun h46 g46 => ?_)
                                      · subst h46
                                        refine oif_elim g46 (fun h47 g47 => ?_) (fun h47 g47 => ?_)
                                        · refine obind_elim g47 fun r28 h48 g48 => ?_
                                          refine obind_elim g48 fun r29 h49 g49 => ?_
                                          have q160 := fun {P : Prop} (t : P) => ai h47 (ai (F36_ok fuel [1] true _ h48) (ai (F23_ok fuel r17.1 r28 false false _ h49) t))
                                          refine oif_elim g49 (fun h50 g50 => ?_) (fun h50 g50 => ?_)
                                          · subst h50
                                            refine obind_elim g50 fun r30 h51 g51 => ?_
                                            refine obind_elim g51 fun r31 h52 g52 => ?_
                                            have q161 := fun {P : Prop} (t : P) => ai (F34_ok fuel 3 [0, 1, 1, 2] true _ h51) (ai (F14_ok fuel (r18.1.1, r18.1.2) (r30.1, r30.2) _ h52) t)
                                            refine oif_elim g52 (fun h53 g53 => ?_) (fun h53 g53 => ?_)
                                            · subst h53
                                              refine obind_elim g53 fun r32 h54 g54 => ?_
                                              refine obind_elim g54 fun r33 h55 g55 => ?_
                                              have q162 := fun {P : Prop} (t : P) => ai (F36_ok fuel [1, 1, 2, 2, 3] true _ h54) (ai (F23_ok fuel r19.1 r32 false false _ h55) t)
                                              refine oif_elim g55 (fun h56 g56 => ?_) (fun h56 g56 => ?_)
                                              · subst h56
                                                refine obind_elim g56 fun r34 h57 g57 => ?_
                                                refine obind_elim g57 fun r35 h58 g58 => ?_
                                                have q163 := fun {P : Prop} (t : P) => ai (F36_ok fuel [1, 2] true _ h57) (ai (F23_ok fuel r20.1 r34 false false _ h58) t)
                                                refine oif_elim g58 (fun h59 g59 => ?_) (fun h59 g59 => ?_)
                                                · subst h59
                                                  refine obind_elim g59 fun r36 h60 g60 => ?_
                                                  refine obind_elim g60 fun r37 h61 g61 => ?_
                                                  have q164 := fun {P : Prop} (t : P) => ai (F34_ok fuel 3 [1, 2, 1, 2, 0, 1] true _ h60) (ai (F14_ok fuel (r21.1.1, r21.1.2) (r36.1, r36.2) _ h61) t)
                                                  refine oif_elim g61 (fun h62 g62 => ?_) (fun h62 g62 => ?_)
                                                  · subst h62
                                                    refine obind_elim g62 fun r38 h63 g63 => ?_
                                                    refine obind_elim g63 fun r39 h64 g64 => ?_
                                                    have q165 := fun {P : Prop} (t : P) => ai (F34_ok fuel 3 [0, 1, 1, 2, 0, 1] true _ h63) (ai (F14_ok fuel (r22.1.1, r22.1.2) (r38.1, r38.2) _ h64) t)
                                                    refine oif_elim g64 (fun h65 g65 => ?_) (fun h65 g65 => ?_)
                                                    · subst h65
                                                      refine obind_elim g65 fun r40 h66 g66 => ?_
                                                      refine obind_elim g66 fun r41 h67 g67 => ?_
                                                      have q166 := fun {P : Prop} (t : P) => ai (F34_ok fuel 4 [0, 2, 1, 3, 0, 1, 2, 3, 1, 2] true _ h66) (ai (F14_ok fuel (r23.1.1, r23.1.2) (r40.1, r40.2) _ h67) t)
                                                      refine oif_elim g67 (fun h68 g68 => ?_) (fun h68 g68 => ?_)
                                                      · subst h68
                                                        have hr := Option.some.inj g68
                                                        subst hr
                                                        exact callP_of is7 rfl (path hm (ks := [0]) (σ' := ⟨[(0, .p (.bool true))], [.cells [.p (.int .i64 r1.1), .p (.sl (List.map e62 r1.2) false)] 0, .cells [.p (.int .i64 r2.1), .p (.sl (List.map e62 r2.2) false)] 0, .cells [.p (.int .i64 r3.1), .p (.sl (List.map e62 r3.2) false)] 0, .cells [.p (.int .i64 r18.1.1), .p (.sl (List.map e62 r18.1.2) false)] 0, .cells [.p (.int .i64 r21.1.1), .p (.sl (List.map e62 r21.1.2) false)] 0, .cells [.p (.int .i64 r22.1.1), .p (.sl (List.map e62 r22.1.2) false)] 0, .cells [.p (.int .i64 r23.1.1), .p (.sl (List.map e62 r23.1.2) false)] 0, .cells [.p (.int .i64 r24.1.1), .p (.sl (List.map e62 r24.1.2) false)] 0]⟩) (cc := c157 ++ [.reg [0, 0, 2, 7, 15, 31, 31, 95, 255, 511, 1023, 2047, 4095, 8191, 16383, 32767, 32767, 98303, 262143, 524287, 1048575, 2097151, 2097151, 6291455, 16777215, 33554431, 67108863, 134217727, 134217727, 402653183, 1073741823, 2147483647, 4294967295, 8589934591, 8589934591, 25769803775, 68719476735, 137438953471, 274877906943, 549755813887, 549755813887, 1649267441663, 4398046511103, 8796093022207, 17592186044415, 35184372088831, 35184372088831, 105553116266495, 281474976710655, 562949953421311, 1125899906842623, 2251799813685247, 2251799813685247, 6755399441055743, 18014398509481983, 36028797018963967, 72057594037927935] [] 0 [(2, none, .call (.sl (List.map e2 r25) false)), (3, none, .call (.bool true)), (7, none, .call (.sl (List.map e3 r12) false)), (8, none, .call (.bool true)), (12, none, .b true), (17, none, .call (.sl (List.map e3 r28) false)), (18, none, .call (.bool true)), (23, none, .call (.agg [.int .i64 r30.1, .sl (List.map e62 r30.2) false])), (24, none, .call (.bool true)), (29, none, .call (.sl (List.map e3 r32) false)), (30, none, .call (.bool true)), (35, none, .call (.sl (List.map e3 r34) false)), (36, none, .call (.bool true)), (41, none, .call (.agg [.int .i64 r36.1, .sl (List.map e62 r36.2) false])), (42, none, .call (.bool true)), (47, none, .call (.agg [.int .i64 r38.1, .sl (List.map e62 r38.2) false])), (48, none, .call (.bool true)), (53, none, .call (.agg [.int .i64 r40.1, .sl (List.map e62 r40.2) false])), (54, none, .call (.bool true))] [0]])
      (q150 (q151 (q152 (q153 (q154 (q155 (q156 (q158 (q159 (q160 (q161 (q162 (q163 (q164 (q165 (q166 trivial)))))))))))))))) (by kernel_rfl)) (e := .ret) rfl (vs := [.p (.bool true)]) trivial (by kernel_rfl) (.p _ _ (.refl _))
                                                      · subst h68
                                                        have hr := Option.some.inj g68
                                                        subst hr
                                                        exact callP_of is7 rfl (path hm (ks := [0]) (σ' := ⟨[(0, .p (.bool false))], [.cells [.p (.int .i64 r1.1), .p (.sl (List.map e62 r1.2) false)] 0, .cells [.p (.int .i64 r2.1), .p (.sl (List.map e62 r2.2) false)] 0, .cells [.p (.int .i64 r3.1), .p (.sl (List.map e62 r3.2) false)] 0, .cells [.p (.int .i64 r18.1.1), .p (.sl (List.map e62 r18.1.2) false)] 0, .cells [.p (.int .i64 r21.1.1), .p (.sl (List.map e62 r21.1.2) false)] 0, .cells [.p (.int .i64 r22.1.1), .p (.sl (List.map e62 r22.1.2) false)] 0, .cells [.p (.int .i64 r23.1.1), .p (.sl (List.map e62 r23.1.2) false)] 0, .cells [.p (.int .i64 r24.1.1), .p (.sl (List.map e62 r24.1.2) false)] 0]⟩) (cc := c157 ++ [.reg [0, 0, 2, 7, 15, 31, 31, 95, 255, 511, 1023, 2047, 4095, 8191, 16383, 32767, 32767, 98303, 262143, 524287, 1048575, 2097151, 2097151, 6291455, 16777215, 33554431, 67108863, 134217727, 134217727, 402653183, 1073741823, 2147483647, 4294967295, 8589934591, 8589934591, 25769803775, 68719476735, 137438953471, 274877906943, 549755813887, 549755813887, 1649267441663, 4398046511103, 8796093022207, 17592186044415, 35184372088831, 35184372088831, 105553116266495, 281474976710655, 562949953421311, 1125899906842623, 2251799813685247, 2251799813685247, 6755399441055743, 18014398509481983, 36028797018963967, 72057594037927935] [] 0 [(2, none, .call (.sl (List.map e2 r25) false)), (3, none, .call (.bool true)), (7, none, .call (.sl (List.map e3 r12) false)), (8, none, .call (.bool true)), (12, none, .b true), (17, none, .call (.sl (List.map e3 r28) false)), (18, none, .call (.bool true)), (23, none, .call (.agg [.int .i64 r30.1, .sl (List.map e62 r30.2) false])), (24, none, .call (.bool true)), (29, none, .call (.sl (List.map e3 r32) false)), (30, none, .call (.bool true)), (35, none, .call (.sl (List.map e3 r34) false)), (36, none, .call (.bool true)), (41, none, .call (.agg [.int .i64 r36.1, .sl (List.map e62 r36.2) false])), (42, none, .call (.bool true)), (47, none, .call (.agg [.int .i64 r38.1, .sl (List.map e62 r38.2) false])), (48, none, .call (.bool true)), (53, none, .call (.agg [.int .i64 r40.1, .sl (List.map e62 r40.2) false])), (54, none, .call (.bool false))] [0]])
      (q150 (q151 (q152 (q153 (q154 (q155 (q156 (q158 (q159 (q160 (q161 (q162 (q163 (q164 (q165 (q166 trivial)))))))))))))))) (by kernel_rfl)) (e := .ret) rfl (vs := [.p (.bool false)]) trivial (by kernel_rfl) (.p _ _ (.refl _))
                                                    · subst h65
                                                      have hr := Option.some.inj g65
                                                      subst hr
                                                      exact callP_of is7 rfl (path hm (ks := [0]) (σ' := ⟨[(0, .p (.bool false))], [.cells [.p (.int .i64 r1.1), .p (.sl (List.map e62 r1.2) false)] 0, .cells [.p (.int .i64 r2.1), .p (.sl (List.map e62 r2.2) false)] 0, .cells [.p (.int .i64 r3.1), .p (.sl (List.map e62 r3.2) false)] 0, .cells [.p (.int .i64 r18.1.1), .p (.sl (List.map e62 r18.1.2) false)] 0, .cells [.p (.int .i64 r21.1.1), .p (.sl (List.map e62 r21.1.2) false)] 0, .cells [.p (.int .i64 r22.1.1), .p (.sl (List.map e62 r22.1.2) false)] 0, .cells [.p (.int .i64 r23.1.1), .p (.sl (List.map e62 r23.1.2) false)] 0, .cells [.p (.int .i64 r24.1.1), .p (.sl (List.map e62 r24.1.2) false)] 0]⟩) (cc := c157 ++ [.reg [0, 0, 2, 7, 15, 31, 31, 95, 255, 511, 1023, 2047, 4095, 8191, 16383, 32767, 32767, 98303, 262143, 524287, 1048575, 2097151, 2097151, 6291455, 16777215, 33554431, 67108863, 134217727, 134217727, 402653183, 1073741823, 2147483647, 4294967295, 8589934591, 8589934591, 25769803775, 68719476735, 137438953471, 274877906943, 549755813887, 549755813887, 1649267441663, 4398046511103, 8796093022207, 17592186044415, 35184372088831, 35184372088831, 105553116266495, 281474976710655, 562949953421311, 1125899906842623, 2251799813685247, 2251799813685247, 6755399441055743, 18014398509481983, 36028797018963967, 72057594037927935] [] 0 [(2, none, .call (.sl (List.map e2 r25) false)), (3, none, .call (.bool true)), (7, none, .call (.sl (List.map e3 r12) false)), (8, none, .call (.bool true)), (12, none, .b true), (17, none, .call (.sl (List.map e3 r28) false)), (18, none, .call (.bool true)), (23, none, .call (.agg [.int .i64 r30.1, .sl (List.map e62 r30.2) false])), (24, none, .call (.bool true)), (29, none, .call (.sl (List.map e3 r32) false)), (30, none, .call (.bool true)), (35, none, .call (.sl (List.map e3 r34) false)), (36, none, .call (.bool true)), (41, none, .call (.agg [.int .i64 r36.1, .sl (List.map e62 r36.2) false])), (42, none, .call (.bool true)), (47, none, .call (.agg [.int .i64 r38.1, .sl (List.map e62 r38.2) false])), (48, none, .call (.bool false))] [0]])
      (q150 (q151 (q152 (q153 (q154 (q155 (q156 (q158 (q159 (q160 (q161 (q162 (q163 (q164 (q165 trivial))))))))))))))) (by kernel_rfl)) (e := .ret) rfl (vs := [.p (.bool false)]) trivial (by kernel_rfl) (.p _ _ (.refl _))
                                                  · subst h62
                                                    have hr := Option.some.inj g62
                                                    subst hr
                                                    exact callP_of is7 rfl (path hm (ks := [0]) (σ' := ⟨[(0, .p (.bool false))], [.cells [.p (.int .i64 r1.1), .p (.sl (List.map e62 r1.2) false)] 0, .cells [.p (.int .i64 r2.1), .p (.sl (List.map e62 r2.2) false)] 0, .cells [.p (.int .i64 r3.1), .p (.sl (List.map e62 r3.2) false)] 0, .cells [.p (.int .i64 r18.1.1), .p (.sl (List.map e62 r18.1.2) false)] 0, .cells [.p (.int .i64 r21.1.1), .p (.sl (List.map e62 r21.1.2) false)] 0, .cells [.p (.int .i64 r22.1.1), .p (.sl (List.map e62 r22.1.2) false)] 0, .cells [.p (.int .i64 r23.1.1), .p (.sl (List.map e62 r23.1.2) false)] 0, .cells [.p (.int .i64 r24.1.1), .p (.sl (List.map e62 r24.1.2) false)] 0]⟩) (cc := c157 ++ [.reg [0, 0, 2, 7, 15, 31, 31, 95, 255, 511, 1023, 2047, 4095, 8191, 16383, 32767, 32767, 98303, 262143, 524287, 1048575, 2097151, 2097151, 6291455, 16777215, 33554431, 67108863, 134217727, 134217727, 402653183, 1073741823, 2147483647, 4294967295, 8589934591, 8589934591, 25769803775, 68719476735, 137438953471, 274877906943, 549755813887, 549755813887, 1649267441663, 4398046511103, 8796093022207, 17592186044415, 35184372088831, 35184372088831, 105553116266495, 281474976710655, 562949953421311, 1125899906842623, 2251799813685247, 2251799813685247, 6755399441055743, 18014398509481983, 36028797018963967, 72057594037927935] [] 0 [(2, none, .call (.sl (List.map e2 r25) false)), (3, none, .call (.bool true)), (7, none, .call (.sl (List.map e3 r12) false)), (8, none, .call (.bool true)), (12, none, .b true), (17, none, .call (.sl (List.map e3 r28) false)), (18, none, .call (.bool true)), (23, none, .call (.agg [.int .i64 r30.1, .sl (List.map e62 r30.2) false])), (24, none, .call (.bool true)), (29, none, .call (.sl (List.map e3 r32) false)), (30, none, .call (.bool true)), (35, none, .call (.sl (List.map e3 r34) false)), (36, none, .call (.bool true)), (41, none, .call (.agg [.int .i64 r36.1, .sl (List.map e62 r36.2) false])), (42, none, .call (.bool false))] [0]])
      (q150 (q151 (q152 (q153 (q154 (q155 (q156 (q158 (q159 (q160 (q161 (q162 (q163 (q164 trivial)))))))))))))) (by kernel_rfl)) (e := .ret) rfl (vs := [.p (.bool false)]) trivial (by kernel_rfl) (.p _ _ (.refl _))
                                                · subst h59
                                                  have hr := Option.some.inj g59
                                                  subst hr
                                                  exact callP_of is7 rfl (path hm (ks := [0]) (σ' := ⟨[(0, .p (.bool false))], [.cells [.p (.int .i64 r1.1), .p (.sl (List.map e62 r1.2) false)] 0, .cells [.p (.int .i64 r2.1), .p (.sl (List.map e62 r2.2) false)] 0, .cells [.p (.int .i64 r3.1), .p (.sl (List.map e62 r3.2) false)] 0, .cells [.p (.int .i64 r18.1.1), .p (.sl (List.map e62 r18.1.2) false)] 0, .cells [.p (.int .i64 r21.1.1), .p (.sl (List.map e62 r21.1.2) false)] 0, .cells [.p (.int .i64 r22.1.1), .p (.sl (List.map e62 r22.1.2) false)] 0, .cells [.p (.int .i64 r23.1.1), .p (.sl (List.map e62 r23.1.2) false)] 0, .cells [.p (.int .i64 r24.1.1), .p (.sl (List.map e62 r24.1.2) false)] 0]⟩) (cc := c157 ++ [.reg [0, 0, 2, 7, 15, 31, 31, 95, 255, 511, 1023, 2047, 4095, 8191, 16383, 32767, 32767, 98303, 262143, 524287, 1048575, 2097151, 2097151, 6291455, 16777215, 33554431, 67108863, 134217727, 134217727, 402653183, 1073741823, 2147483647, 4294967295, 8589934591, 8589934591, 25769803775, 68719476735, 137438953471, 274877906943, 549755813887, 549755813887, 1649267441663, 4398046511103, 8796093022207, 17592186044415, 35184372088831, 35184372088831, 105553116266495, 281474976710655, 562949953421311, 1125899906842623, 2251799813685247, 2251799813685247, 6755399441055743, 18014398509481983, 36028797018963967, 72057594037927935] [] 0 [(2, none, .call (.sl (List.map e2 r25) false)), (3, none, .call (.bool true)), (7, none, .call (.sl (List.map e3 r12) false)), (8, none, .call (.bool true)), (12, none, .b true), (17, none, .call (.sl (List.map e3 r28) false)), (18, none, .call (.bool true)), (23, none, .call (.agg [.int .i64 r30.1, .sl (List.map e62 r30.2) false])), (24, none, .call (.bool true)), (29, none, .call (.sl (List.map e3 r32) false)), (30, none, .call (.bool true)), (35, none, .call (.sl (List.map e3 r34) false)), (36, none, .call (.bool false))] [0]])
      (q150 (q151 (q152 (q153 (q154 (q155 (q156 (q158 (q159 (q160 (q161 (q162 (q163 trivial))))))))))))) (by kernel_rfl)) (e := .ret) rfl (vs := [.p (.bool false)]) trivial (by kernel_rfl) (.p _ _ (.refl _))
                                              · subst h56
                                                have hr := Option.some.inj g56
                                                subst hr
                                                exact callP_of is7 rfl (path hm (ks := [0]) (σ' := ⟨[(0, .p (.bool false))], [.cells [.p (.int .i64 r1.1), .p (.sl (List.map e62 r1.2) false)] 0, .cells [.p (.int .i64 r2.1), .p (.sl (List.map e62 r2.2) false)] 0, .cells [.p (.int .i64 r3.1), .p (.sl (List.map e62 r3.2) false)] 0, .cells [.p (.int .i64 r18.1.1), .p (.sl (List.map e62 r18.1.2) false)] 0, .cells [.p (.int .i64 r21.1.1), .p (.sl (List.map e62 r21.1.2) false)] 0, .cells [.p (.int .i64 r22.1.1), .p (.sl (List.map e62 r22.1.2) false)] 0, .cells [.p (.int .i64 r23.1.1), .p (.sl (List.map e62 r23.1.2) false)] 0, .cells [.p (.int .i64 r24.1.1), .p (.sl (List.map e62 r24.1.2) false)] 0]⟩) (cc := c157 ++ [.reg [0, 0, 2, 7, 15, 31, 31, 95, 255, 511, 1023, 2047, 4095, 8191, 16383, 32767, 32767, 98303, 262143, 524287, 1048575, 2097151, 2097151, 6291455, 16777215, 33554431, 67108863, 134217727, 134217727, 402653183, 1073741823, 2147483647, 4294967295, 8589934591, 8589934591, 25769803775, 68719476735, 137438953471, 274877906943, 549755813887, 549755813887, 1649267441663, 4398046511103, 8796093022207, 17592186044415, 35184372088831, 35184372088831, 105553116266495, 281474976710655, 562949953421311, 1125899906842623, 2251799813685247, 2251799813685247, 6755399441055743, 18014398509481983, 36028797018963967, 72057594037927935] [] 0 [(2, none, .call (.sl (List.map e2 r25) false)), (3, none, .call (.bool true)), (7, none, .call (.sl (List.map e3 r12) false)), (8, none, .call (.bool true)), (12, none, .b true), (17, none, .call (.sl (List.map e3 r28) false)), (18, none, .call (.bool true)), (23, none, .call (.agg [.int .i64 r30.1, .sl (List.map e62 r30.2) false])), (24, none, .call (.bool true)), (29, none, .call (.sl (List.map e3 r32) false)), (30, none, .call (.bool false))] [0]])
      (q150 (q151 (q152 (q153 (q154 (q155 (q156 (q158 (q159 (q160 (q161 (q162 trivial)))))))))))) (by kernel_rfl)) (e := .ret) rfl (vs := [.p (.bool false)]) trivial (by kernel_rfl) (.p _ _ (.refl _))
                                            · subst h53
                                              have hr := Option.some.inj g53
                                              subst hr
                                              exact callP_of is7 rfl (path hm (ks := [0]) (σ' := ⟨[(0, .p (.bool false))], [.cells [.p (.int .i64 r1.1), .p (.sl (List.map e62 r1.2) false)] 0, .cells [.p (.int .i64 r2.1), .p (.sl (List.map e62 r2.2) false)] 0, .cells [.p (.int .i64 r3.1), .p (.sl (List.map e62 r3.2) false)] 0, .cells [.p (.int .i64 r18.1.1), .p (.sl (List.map e62 r18.1.2) false)] 0, .cells [.p (.int .i64 r21.1.1), .p (.sl (List.map e62 r21.1.2) false)] 0, .cells [.p (.int .i64 r22.1.1), .p (.sl (List.map e62 r22.1.2) false)] 0, .cells [.p (.int .i64 r23.1.1), .p (.sl (List.map e62 r23.1.2) false)] 0, .cells [.p (.int .i64 r24.1.1), .p (.sl (List.map e62 r24.1.2) false)] 0]⟩) (cc := c157 ++ [.reg [0, 0, 2, 7, 15, 31, 31, 95, 255, 511, 1023, 2047, 4095, 8191, 16383, 32767, 32767, 98303, 262143, 524287, 1048575, 2097151, 2097151, 6291455, 16777215, 33554431, 67108863, 134217727, 134217727, 402653183, 1073741823, 2147483647, 4294967295, 8589934591, 8589934591, 25769803775, 68719476735, 137438953471, 274877906943, 549755813887, 549755813887, 1649267441663, 4398046511103, 8796093022207, 17592186044415, 35184372088831, 35184372088831, 105553116266495, 281474976710655, 562949953421311, 1125899906842623, 2251799813685247, 2251799813685247, 6755399441055743, 18014398509481983, 36028797018963967, 72057594037927935] [] 0 [(2, none, .call (.sl (List.map e2 r25) false)), (3, none, .call (.bool true)), (7, none, .call (.sl (List.map e3 r12) false)), (8, none, .call (.bool true)), (12, none, .b true), (17, none, .call (.sl (List.map e3 r28) false)), (18, none, .call (.bool true)), (23, none, .call (.agg [.int .i64 r30.1, .sl (List.map e62 r30.2) false])), (24, none, .call (.bool false))] [0]])
      (q150 (q151 (q152 (q153 (q154 (q155 (q156 (q158 (q159 (q160 (q161 trivial))))))))))) (by kernel_rfl)) (e := .ret) rfl (vs := [.p (.bool false)]) trivial (by kernel_rfl) (.p _ _ (.refl _))
                                          · subst h50
                                            have hr := Option.some.inj g50
                                            subst hr
                                            exact callP_of is7 rfl (path hm (ks := [0]) (σ' := ⟨[(0, .p (.bool false))], [.cells [.p (.int .i64 r1.1), .p (.sl (List.map e62 r1.2) false)] 0, .cells [.p (.int .i64 r2.1), .p (.sl (List.map e62 r2.2) false)] 0, .cells [.p (.int .i64 r3.1), .p (.sl (List.map e62 r3.2) false)] 0, .cells [.p (.int .i64 r18.1.1), .p (.sl (List.map e62 r18.1.2) false)] 0, .cells [.p (.int .i64 r21.1.1), .p (.sl (List.map e62 r21.1.2) false)] 0, .cells [.p (.int .i64 r22.1.1), .p (.sl (List.map e62 r22.1.2) false)] 0, .cells [.p (.int .i64 r23.1.1), .p (.sl (List.map e62 r23.1.2) false)] 0, .cells [.p (.int .i64 r24.1.1), .p (.sl (List.map e62 r24.1.2) false)] 0]⟩) (cc := c157 ++ [.reg [0, 0, 2, 7, 15, 31, 31, 95, 255, 511, 1023, 2047, 4095, 8191, 16383, 32767, 32767, 98303, 262143, 524287, 1048575, 2097151, 2097151, 6291455, 16777215, 33554431, 67108863, 134217727, 134217727, 402653183, 1073741823, 2147483647, 4294967295, 8589934591, 8589934591, 25769803775, 68719476735, 137438953471, 274877906943, 549755813887, 549755813887, 1649267441663, 4398046511103, 8796093022207, 17592186044415, 35184372088831, 35184372088831, 105553116266495, 281474976710655, 562949953421311, 1125899906842623, 2251799813685247, 2251799813685247, 6755399441055743, 18014398509481983, 36028797018963967, 72057594037927935] [] 0 [(2, none, .call (.sl (List.map e2 r25) false)), (3, none, .call (.bool true)), (7, none, .call (.sl (List.map e3 r12) false)), (8, none, .call (.bool true)), (12, none, .b true), (17, none, .call (.sl (List.map e3 r28) false)), (18, none, .call (.bool false))] [0]])
      (q150 (q151 (q152 (q153 (q154 (q155 (q156 (q158 (q159 (q160 trivial)))))))))) (by kernel_rfl)) (e := .ret) rfl (vs := [.p (.bool false)]) trivial (by kernel_rfl) (.p _ _ (.refl _))
                                        · have hr := Option.some.inj g47
                                          subst hr
                                          exact callP_of is7 rfl (path hm (ks := [0]) (σ' := ⟨[(0, .p (.bool false))], [.cells [.p (.int .i64 r1.1), .p (.sl (List.map e62 r1.2) false)] 0, .cells [.p (.int .i64 r2.1), .p (.sl (List.map e62 r2.2) false)] 0, .cells [.p (.int .i64 r3.1), .p (.sl (List.map e62 r3.2) false)] 0, .cells [.p (.int .i64 r18.1.1), .p (.sl (List.map e62 r18.1.2) false)] 0, .cells [.p (.int .i64 r21.1.1), .p (.sl (List.map e62 r21.1.2) false)] 0, .cells [.p (.int .i64 r22.1.1), .p (.sl (List.map e62 r22.1.2) false)] 0, .cells [.p (.int .i64 r23.1.1), .p (.sl (List.map e62 r23.1.2) false)] 0, .cells [.p (.int .i64 r24.1.1), .p (.sl (List.map e62 r24.1.2) false)] 0]⟩) (cc := c157 ++ [.reg [0, 0, 2, 7, 15, 31, 31, 95, 255, 511, 1023, 2047, 4095, 8191, 16383, 32767, 32767, 98303, 262143, 524287, 1048575, 2097151, 2097151, 6291455, 16777215, 33554431, 67108863, 134217727, 134217727, 402653183, 1073741823, 2147483647, 4294967295, 8589934591, 8589934591, 25769803775, 68719476735, 137438953471, 274877906943, 549755813887, 549755813887, 1649267441663, 4398046511103, 8796093022207, 17592186044415, 35184372088831, 35184372088831, 105553116266495, 281474976710655, 562949953421311, 1125899906842623, 2251799813685247, 2251799813685247, 6755399441055743, 18014398509481983, 36028797018963967, 72057594037927935] [] 0 [(2, none, .call (.sl (List.map e2 r25) false)), (3, none, .call (.bool true)), (7, none, .call (.sl (List.map e3 r12) false)), (8, none, .call (.bool true)), (12, none, .b false)] [0]])
      (q150 (q151 (q152 (q153 (q154 (q155 (q156 (q158 (q159 (ai h47 trivial)))))))))) (by kernel_rfl)) (e := .ret) rfl (vs := [.p (.bool false)]) trivial (by kernel_rfl) (.p _ _ (.refl _))
                                      · subst h46
                                        have hr := Option.some.inj g46
                                        subst hr
                                        exact callP_of is7 rfl (path hm (ks := [0]) (σ' := ⟨[(0, .p (.bool false))], [.cells [.p (.int .i64 r1.1), .p (.sl (List.map e62 r1.2) false)] 0, .cells [.p (.int .i64 r2.1), .p (.sl (List.map e62 r2.2) false)] 0, .cells [.p (.int .i64 r3.1), .p (.sl (List.map e62 r3.2) false)] 0, .cells [.p (.int .i64 r18.1.1), .p (.sl (List.map e62 r18.1.2) false)] 0, .cells [.p (.int .i64 r21.1.1), .p (.sl (List.map e62 r21.1.2) false)] 0, .cells [.p (.int .i64 r22.1.1), .p (.sl (List.map e62 r22.1.2) false)] 0, .cells [.p (.int .i64 r23.1.1), .p (.sl (List.map e62 r23.1.2) false)] 0, .cells [.p (.int .i64 r24.1.1), .p (.sl (List.map e62 r24.1.2) false)] 0]⟩) (cc := c157 ++ [.reg [0, 0, 2, 7, 15, 31, 31, 95, 255, 511, 1023, 2047, 4095, 8191, 16383, 32767, 32767, 98303, 262143, 524287, 1048575, 2097151, 2097151, 6291455, 16777215, 33554431, 67108863, 134217727, 134217727, 402653183, 1073741823, 2147483647, 4294967295, 8589934591, 8589934591, 25769803775, 68719476735, 137438953471, 274877906943, 549755813887, 549755813887, 1649267441663, 4398046511103, 8796093022207, 17592186044415, 35184372088831, 35184372088831, 105553116266495, 281474976710655, 562949953421311, 1125899906842623, 2251799813685247, 2251799813685247, 6755399441055743, 18014398509481983, 36028797018963967, 72057594037927935] [] 0 [(2, none, .call (.sl (List.map e2 r25) false)), (3, none, .call (.bool true)), (7, none, .call (.sl (List.map e3 r12) false)), (8, none, .call (.bool false))] [0]])
      (q150 (q151 (q152 (q153 (q154 (q155 (q156 (q158 (q159 trivial))))))))) (by kernel_rfl)) (e := .ret) rfl (vs := [.p (.bool false)]) trivial (by kernel_rfl) (.p _ _ (.refl _))
                                    · subst h44
                                      have hr := Option.some.inj g44
                                      subst hr
                                      exact callP_of is7 rfl (path hm (ks := [0]) (σ' := ⟨[(0, .p (.bool false))], [.cells [.p (.int .i64 r1.1), .p (.sl (List.map e62 r1.2) false)] 0, .cells [.p (.int .i64 r2.1), .p (.sl (List.map e62 r2.2) false)] 0, .cells [.p (.int .i64 r3.1), .p (.sl (List.map e62 r3.2) false)] 0, .cells [.p (.int .i64 r18.1.1), .p (.sl (List.map e62 r18.1.2) false)] 0, .cells [.p (.int .i64 r21.1.1), .p (.sl (List.map e62 r21.1.2) false)] 0, .cells [.p (.int .i64 r22.1.1), .p (.sl (List.map e62 r22.1.2) false)] 0, .cells [.p (.int .i64 r23.1.1), .p (.sl (List.map e62 r23.1.2) false)] 0, .cells [.p (.int .i64 r24.1.1), .p (.sl (List.map e62 r24.1.2) false)] 0]⟩) (cc := c157 ++ [.reg [0, 0, 2, 7, 15, 31, 31, 95, 255, 511, 1023, 2047, 4095, 8191, 16383, 32767, 32767, 98303, 262143, 524287, 1048575, 2097151, 2097151, 6291455, 16777215, 33554431, 67108863, 134217727, 134217727, 402653183, 1073741823, 2147483647, 4294967295, 8589934591, 8589934591, 25769803775, 68719476735, 137438953471, 274877906943, 549755813887, 549755813887, 1649267441663, 4398046511103, 8796093022207, 17592186044415, 35184372088831, 35184372088831, 105553116266495, 281474976710655, 562949953421311, 1125899906842623, 2251799813685247, 2251799813685247, 6755399441055743, 18014398509481983, 36028797018963967, 72057594037927935] [] 0 [(2, none, .call (.sl (List.map e2 r25) false)), (3, none, .call (.bool false))] [0]])
      (q150 (q151 (q152 (q153 (q154 (q155 (q156 (q158 trivial)))))))) (by kernel_rfl)) (e := .ret) rfl (vs := [.p (.bool false)]) trivial (by kernel_rfl) (.p _ _ (.refl _))
def F8  (fuel : Nat) (p0 : (Int × (List (Int × Int)))) : Option (Int × (List (Int × Int))) :=
  oif (List.isEmpty p0.2)
  (some (p0.1, []))
  (oif (decide ((List.length (List.map e62 p0.2)) * 16 ≤ 140737488355328)) (some (p0.1, p0.2)) none)
theorem F8_ok  (fuel : Nat) (p0 : (Int × (List (Int × Int))))  (r : (Int × (List (Int × Int)))) (h : F8 fuel p0 = some r) : CallP prog 8 [.agg [.int .i64 p0.1, .sl (List.map e62 p0.2) false]] (.agg [.int .i64 r.1, .sl (List.map e62 r.2) false]) := by
  unfold F8 at h
  refine oif_elim h (fun h1 g1 => ?_) (fun h1 g1 => ?_)
  · have hr := Option.some.inj g1
    subst hr
    exact callP_of is8 rfl (path hm (ks := [2]) (σ' := ⟨[(2, .ptr 0 0 2)], [.cells [.p (.int .i64 p0.1), .p (.nilsl)] 0]⟩) (cc := [.reg [] [] 1 [(0, none, .imm), (1, some 0, .a)] [1, 2], .reg [0, 1, 0, 4, 12, 31, 63] [(0, 6)] 0 [(4, none, .b true)] [2]])
      (ai (isEmpty_len e62 h1) (ai (row_sc el62 p0.2) (ai (row_es el62 p0.2) trivial))) (by kernel_rfl)) (e := .ret) rfl (vs := [.agg [.p (.int .i64 p0.1), .p (.nilsl)]]) (ai (rfl : (2:Nat) = 2) (ai (by decide : (2:Nat) ≤ 2) trivial)) (by kernel_rfl) (.agg _ _ (.cons _ _ _ _ (.p _ _ (.refl _)) (.cons _ _ _ _ (.p _ _ (.nil _)) .nil)))
  · refine oif_elim g1 (fun h2 g2 => ?_) (fun _ h => nomatch h)
    have hr := Option.some.inj g2
    subst hr
    exact callP_of is8 rfl (path hm (ks := [2]) (σ' := ⟨[(2, .ptr 0 0 2)], [.cells [.p (.int .i64 p0.1), .msl 1 0 (List.length p0.2) (List.length (rowI e62 p0.2)) false] 0, .cells (rowI e62 p0.2) 2]⟩) (cc := [.reg [] [] 1 [(0, none, .imm), (1, some 0, .a)] [1, 2], .reg [0, 1, 0, 4, 12, 31, 63] [(1, 4), (0, 6)] 1 [(4, some 1, .ap (rowI e62 p0.2) (List.length p0.2) (List.length (rowI e62 p0.2)))] [2]])
      (ai (notEmpty_len e62 h1) (ai (od h2) (ai (app_c0 (by decide) (od h2)) (ai (len_map2 e62 p0.2) (ai (rl (List.length (rowI e62 p0.2))) (ai (row_src e62 p0.2) (ai (row_sc el62 p0.2) (ai (row_es el62 p0.2) trivial)))))))) (by kernel_rfl)) (e := .ret) rfl (vs := [.agg [.p (.int .i64 p0.1), .msl 1 0 (List.length p0.2) (List.length (rowI e62 p0.2)) false]]) (ai (rfl : (2:Nat) = 2) (ai (by decide : (2:Nat) ≤ 2) trivial)) (by kernel_rfl) (.agg _ _ (.cons _ _ _ _ (.p _ _ (.refl _)) (.cons _ _ _ _ (snap_row (g := 2) (L := p0.2) el62 (by kernel_rfl) (rl (List.length (rowI e62 p0.2))) (rl (List.length p0.2))) .nil)))
def L12_0  (v1 : Int) (v1_1 : (List (Int × Int))) : Nat → Int → Option (Unit ⊕ Unit)
  | 0, _ => none
  | fuel + 1, v3 =>
    oif ((decide (v3 < (v1_1.length : Int))))
    (obind (sg v1_1 v3) fun x1 => oif ((decide (x1.1 < 0)))
      (some (.inl ()))
      (oif ((decide (x1.1 ≥ x1.2)))
        (some (.inl ()))
        (oif ((decide (x1.2 ≥ v1)))
          (some (.inl ()))
          (L12_0 v1 v1_1 fuel (IntKind.wrap .i64 (v3 + 1))))))
    (some (.inr (())))
noncomputable def L12_0_post (v1 : Int) (v1_1 : (List (Int × Int)))  : (Unit ⊕ Unit) → Ex × St
  | .inl y => (.ret, ⟨[(2, .p (.int .i64 2))], []⟩)
  | .inr (y) => ((.exit 0), ⟨[], []⟩)
theorem L12_0_ok  (v1 : Int) (v1_1 : (List (Int × Int)))  : ∀ (fuel : Nat) (v3 : Int) (r : (Unit ⊕ Unit)), L12_0 v1 v1_1 fuel v3 = some r →
    SemJ prog ⟨48, 0, false⟩ (codeAt [1, 1, 0, 1, 0, 0] (bodyOf f12)) ⟨[(1, .p (.ref [.int .i64 v1, .sl (List.map e62 v1_1) false])), (3, .p (.int .i64 v3))], []⟩ (L12_0_post v1 v1_1 r).1 (L12_0_post v1 v1_1 r).2
  | 0, _, _, h => nomatch h
  | fuel + 1, v3, r, h => by
    unfold L12_0 at h
    refine oif_elim h (fun h1 g1 => ?_) (fun h1 g1 => ?_)
    · refine obind_elim g1 fun x1 h2 g2 => ?_
      let c167 : List CC := [.reg [] [] 0 [(3, none, .n (v1_1.length : Int)), (4, none, .b true)] [1, 3, 23], .reg [] [] 1 [(3, none, .iv (.p (.agg [.int .i64 x1.1, .int .i64 x1.2]))), (5, some 0, .a)] [1, 3, 4]]
      have q168 := fun {P : Prop} (t : P) => ai (len_map e62 v1_1) (ai h1 (ai (sg_map (f := e62) h2) t))
      refine oif_elim g2 (fun h3 g3 => ?_) (fun h3 g3 => ?_)
      · have hr := Option.some.inj g3
        subst hr
        exact SemC.cast (SemJ.out (e := .ret) (SemC.post (path hm (σ' := ⟨[(2, .p (.int .i64 2))], [.cells [.p (.int .i64 x1.1), .p (.int .i64 x1.2)] 0]⟩) (ks := [2]) (cc := c167 ++ [.reg [] [] 0 [(2, none, .b true)] [1, 3, 47], .reg [] [] 0 [] [2]])
        (q168 (ai (by decide : (0:Int) ≤ 0) (ai (by decide : (0:Int) < ((2:Nat):Int)) (ai h3 trivial)))) (by kernel_rfl)) (Weak.sel (E := [(2, .p (.int .i64 2))]) (E' := [(2, .p (.int .i64 2))]) (H := [.cells [.p (.int .i64 x1.1), .p (.int .i64 x1.2)] 0]) (H' := []) [] trivial (by kernel_rfl) (by kernel_rfl))) (by simp)) (by kernel_rfl) (by kernel_rfl)
      · refine oif_elim g3 (fun h4 g4 => ?_) (fun h4 g4 => ?_)
        · have hr := Option.some.inj g4
          subst hr
          exact SemC.cast (SemJ.out (e := .ret) (SemC.post (path hm (σ' := ⟨[(2, .p (.int .i64 2))], [.cells [.p (.int .i64 x1.1), .p (.int .i64 x1.2)] 0]⟩) (ks := [2]) (cc := c167 ++ [.reg [] [] 0 [(2, none, .b false), (8, none, .b true)] [1, 3, 47], .reg [] [] 0 [] [2]])
        (q168 (ai (by decide : (0:Int) ≤ 0) (ai (by decide : (0:Int) < ((2:Nat):Int)) (ai h3 (ai (by decide : (0:Int) ≤ 0) (ai (by decide : (0:Int) < ((2:Nat):Int)) (ai (by decide : (0:Int) ≤ 1) (ai (by decide : (1:Int) < ((2:Nat):Int)) (ai h4 trivial))))))))) (by kernel_rfl)) (Weak.sel (E := [(2, .p (.int .i64 2))]) (E' := [(2, .p (.int .i64 2))]) (H := [.cells [.p (.int .i64 x1.1), .p (.int .i64 x1.2)] 0]) (H' := []) [] trivial (by kernel_rfl) (by kernel_rfl))) (by simp)) (by kernel_rfl) (by kernel_rfl)
        · refine oif_elim g4 (fun h5 g5 => ?_) (fun h5 g5 => ?_)
          · have hr := Option.some.inj g5
            subst hr
            exact SemC.cast (SemJ.out (e := .ret) (SemC.post (path hm (σ' := ⟨[(2, .p (.int .i64 2))], [.cells [.p (.int .i64 x1.1), .p (.int .i64 x1.2)] 0]⟩) (ks := [2]) (cc := c167 ++ [.reg [] [] 0 [(2, none, .b false), (8, none, .b false), (15, none, .b true)] [1, 3, 47], .reg [] [] 0 [] [2]])
        (q168 (ai (by decide : (0:Int) ≤ 0) (ai (by decide : (0:Int) < ((2:Nat):Int)) (ai h3 (ai (by decide : (0:Int) ≤ 0) (ai (by decide : (0:Int) < ((2:Nat):Int)) (ai (by decide : (0:Int) ≤ 1) (ai (by decide : (1:Int) < ((2:Nat):Int)) (ai h4 (ai (by decide : (0:Int) ≤ 1) (ai (by decide : (1:Int) < ((2:Nat):Int)) (ai h5 trivial)))))))))))) (by kernel_rfl)) (Weak.sel (E := [(2, .p (.int .i64 2))]) (E' := [(2, .p (.int .i64 2))]) (H := [.cells [.p (.int .i64 x1.1), .p (.int .i64 x1.2)] 0]) (H' := []) [] trivial (by kernel_rfl) (by kernel_rfl))) (by simp)) (by kernel_rfl) (by kernel_rfl)
          · exact SemJ.again (σ1 := ⟨[(1, .p (.ref [.int .i64 v1, .sl (List.map e62 v1_1) false])), (3, .p (.int .i64 (IntKind.wrap .i64 (v3 + 1))))], []⟩) (SemC.post (path hm (σ' := ⟨[(1, .p (.ref [.int .i64 v1, .sl (List.map e62 v1_1) false])), (3, .p (.int .i64 (IntKind.wrap .i64 (v3 + 1))))], [.cells [.p (.int .i64 x1.1), .p (.int .i64 x1.2)] 0]⟩) (ks := [1, 3]) (cc := c167 ++ [.reg [] [] 0 [(2, none, .b false), (8, none, .b false), (15, none, .b false)] [1, 3, 47], .reg [] [] 0 [] [1, 3]])
        (q168 (ai (by decide : (0:Int) ≤ 0) (ai (by decide : (0:Int) < ((2:Nat):Int)) (ai h3 (ai (by decide : (0:Int) ≤ 0) (ai (by decide : (0:Int) < ((2:Nat):Int)) (ai (by decide : (0:Int) ≤ 1) (ai (by decide : (1:Int) < ((2:Nat):Int)) (ai h4 (ai (by decide : (0:Int) ≤ 1) (ai (by decide : (1:Int) < ((2:Nat):Int)) (ai h5 trivial)))))))))))) (by kernel_rfl)) (Weak.sel (E := [(1, .p (.ref [.int .i64 v1, .sl (List.map e62 v1_1) false])), (3, .p (.int .i64 (IntKind.wrap .i64 (v3 + 1))))]) (E' := [(1, .p (.ref [.int .i64 v1, .sl (List.map e62 v1_1) false])), (3, .p (.int .i64 (IntKind.wrap .i64 (v3 + 1))))]) (H := [.cells [.p (.int .i64 x1.1), .p (.int .i64 x1.2)] 0]) (H' := []) [] trivial (by kernel_rfl) (by kernel_rfl))) (L12_0_ok v1 v1_1 fuel (IntKind.wrap .i64 (v3 + 1)) _ g5)
    · have hr := Option.some.inj g1
      subst hr
      exact SemC.cast (SemJ.out (e := (.exit 0)) (path hm (σ' := ⟨[], []⟩) (ks := []) (cc := [.reg [] [] 0 [(3, none, .n (v1_1.length : Int)), (4, none, .b false)] [1, 3, 23]])
        (ai (len_map e62 v1_1) (ai h1 trivial)) (by kernel_rfl)) (by simp)) (by kernel_rfl) (by kernel_rfl)
def F12  (fuel : Nat) (p0 : (Int × (List (Int × Int)))) : Option Int :=
  oif ((decide (p0.1 < 1)))
  (some 6)
  (oif ((decide (p0.1 > 8)))
    (some 6)
    (oif ((decide ((p0.2.length : Int) > 40)))
      (some 6)
      ((obind (L12_0 p0.1 p0.2 fuel 0) fun y1 => match y1 with
        | .inl y1 => some 2
        | .inr (y1) => some 0))))
theorem F12_ok  (fuel : Nat) (p0 : (Int × (List (Int × Int))))  (r : Int) (h : F12 fuel p0 = some r) : CallP prog 12 [.agg [.int .i64 p0.1, .sl (List.map e62 p0.2) false]] (.int .i64 r) := by
  unfold F12 at h
  let c169 : List CC := [.reg [] [] 0 [(0, none, .imm)] [1]]
  refine oif_elim h (fun h1 g1 => ?_) (fun h1 g1 => ?_)
  · have hr := Option.some.inj g1
    subst hr
    exact callP_of is12 rfl (path hm (ks := [2]) (σ' := ⟨[(2, .p (.int .i64 6))], []⟩) (cc := c169 ++ [.reg [] [] 0 [(2, none, .b true)] [1, 18], .reg [] [] 0 [] [2]])
      (ai h1 trivial) (by kernel_rfl)) (e := .ret) rfl (vs := [.p (.int .i64 6)]) trivial (by kernel_rfl) (.p _ _ (.refl _))
  · refine oif_elim g1 (fun h2 g2 => ?_) (fun h2 g2 => ?_)
    · have hr := Option.some.inj g2
      subst hr
      exact callP_of is12 rfl (path hm (ks := [2]) (σ' := ⟨[(2, .p (.int .i64 6))], []⟩) (cc := c169 ++ [.reg [] [] 0 [(2, none, .b false), (6, none, .b true)] [1, 18], .reg [] [] 0 [] [2]])
      (ai h1 (ai h2 trivial)) (by kernel_rfl)) (e := .ret) rfl (vs := [.p (.int .i64 6)]) trivial (by kernel_rfl) (.p _ _ (.refl _))
    · refine oif_elim g2 (fun h3 g3 => ?_) (fun h3 g3 => ?_)
      · have hr := Option.some.inj g3
        subst hr
        exact callP_of is12 rfl (path hm (ks := [2]) (σ' := ⟨[(2, .p (.int .i64 6))], []⟩) (cc := c169 ++ [.reg [] [] 0 [(2, none, .b false), (6, none, .b false), (11, none, .n (p0.2.length : Int)), (12, none, .b true)] [1, 18], .reg [] [] 0 [] [2]])
      (ai h1 (ai h2 (ai (len_map e62 p0.2) (ai h3 trivial)))) (by kernel_rfl)) (e := .ret) rfl (vs := [.p (.int .i64 6)]) trivial (by kernel_rfl) (.p _ _ (.refl _))
      · let c170 : List CC := c169 ++ [.reg [] [] 0 [(2, none, .b false), (6, none, .b false), (11, none, .n (p0.2.length : Int)), (12, none, .b false)] [1, 18], .reg [] [] 0 [] [1, 3]]
        refine obind_elim g3 fun y h4 g4 => ?_
        match y, h4, g4 with
        | .inl y1, h4, g4 =>
          have hr := Option.some.inj g4
          subst hr
          exact callP_of is12 rfl (path hm (ks := [2]) (σ' := ⟨[(2, .p (.int .i64 2))], []⟩) (cc := c170 ++ [.leaf .ret ⟨[(2, .p (.int .i64 2))], []⟩])
      (ai h1 (ai h2 (ai (len_map e62 p0.2) (ai h3 (ai (SemJ.loop (L12_0_ok p0.1 p0.2 fuel 0 _ h4)) trivial))))) (by kernel_rfl)) (e := .ret) rfl (vs := [.p (.int .i64 2)]) trivial (by kernel_rfl) (.p _ _ (.refl _))
        | .inr (y1), h4, g4 =>
          have hr := Option.some.inj g4
          subst hr
          exact callP_of is12 rfl (path hm (ks := [2]) (σ' := ⟨[(2, .p (.int .i64 0))], []⟩) (cc := c170 ++ [.leaf (.exit 0) ⟨[], []⟩, .reg [] [] 0 [] [2]])
      (ai h1 (ai h2 (ai (len_map e62 p0.2) (ai h3 (ai (SemJ.loop (L12_0_ok p0.1 p0.2 fuel 0 _ h4)) trivial))))) (by kernel_rfl)) (e := .ret) rfl (vs := [.p (.int .i64 0)]) trivial (by kernel_rfl) (.p _ _ (.refl _))
def L58_0  (v0 : Int) (v1 : Int) : Nat → Int → (List Int) → Option (List Int)
  | 0, _, _ => none
  | fuel + 1, v6, w0 =>
    oif ((decide (v6 < v0)))
    (oif (decide ((0:Int) ≤ v6)) (oif (decide ((0:Int) ≤ (IntKind.wrap .i64 ((IntKind.wrap .i64 (v0 - 1)) - v6)))) (oif (decide (((IntKind.wrap .i64 ((IntKind.wrap .i64 (v0 - 1)) - v6)) : Int) < (((List.length w0) : Nat) : Int))) (obind (stL w0 (IntKind.wrap .i64 ((IntKind.wrap .i64 (v0 - 1)) - v6)) (ibits .and .i64 (Int.fdiv v1 (2 ^ (min (Int.toNat v6) (IntKind.bits .i64)))) 1)) fun x1 => L58_0 v0 v1 fuel (IntKind.wrap .i64 (v6 + 1)) x1) none) none) none)
    (some (w0))
noncomputable def L58_0_post (v0 : Int) (v1 : Int)  : (List Int) → Ex × St
  | y => ((.exit 0), ⟨[(5, .msl 0 0 (List.length y) (List.length (rowI e2 y)) true)], [.cells (rowI e2 y) 1]⟩)
theorem L58_0_ok  (v0 : Int) (v1 : Int)  : ∀ (fuel : Nat) (v6 : Int) (w0 : (List Int)) (r : (List Int)), L58_0 v0 v1 fuel v6 w0 = some r →
    SemJ prog ⟨25, 0, false⟩ (codeAt [1, 1, 0, 1, 0, 0] (bodyOf f58)) ⟨[(0, .p (.int .i64 v0)), (1, .p (.int .i64 v1)), (5, .msl 0 0 (List.length w0) (List.length (rowI e2 w0)) true), (6, .p (.int .i64 v6))], [.cells (rowI e2 w0) 1]⟩ (L58_0_post v0 v1 r).1 (L58_0_post v0 v1 r).2
  | 0, _, _, _, h => nomatch h
  | fuel + 1, v6, w0, r, h => by
    unfold L58_0 at h
    refine oif_elim h (fun h1 g1 => ?_) (fun h1 g1 => ?_)
    · refine oif_elim g1 (fun h2 g2 => ?_) (fun _ h => nomatch h)
      refine oif_elim g2 (fun h3 g3 => ?_) (fun _ h => nomatch h)
      refine oif_elim g3 (fun h4 g4 => ?_) (fun _ h => nomatch h)
      refine obind_elim g4 fun x1 h5 g5 => ?_
      exact SemJ.again (σ1 := ⟨[(0, .p (.int .i64 v0)), (1, .p (.int .i64 v1)), (5, .msl 0 0 (List.length x1) (List.length (rowI e2 x1)) true), (6, .p (.int .i64 (IntKind.wrap .i64 (v6 + 1))))], [.cells (rowI e2 x1) 1]⟩) (SemC.post (path hm (σ' := ⟨[(0, .p (.int .i64 v0)), (1, .p (.int .i64 v1)), (5, .msl 0 0 (List.length w0) (List.length (rowI e2 w0)) true), (6, .p (.int .i64 (IntKind.wrap .i64 (v6 + 1))))], [.cells (rowI e2 x1) 1]⟩) (ks := [0, 1, 5, 6]) (cc := [.reg [] [] 0 [(2, none, .b true)] [0, 1, 5, 6, 11], .reg [] [] 0 [(10, none, .cs (rowI e2 x1))] [0, 1, 5, 6], .reg [] [] 0 [] [0, 1, 5, 6]])
        (ai h1 (ai (od h2) (ai (od h3) (ai (od h4) (ai (rl (List.length (rowI e2 w0))) (ai (Nat.le_trans (row_fit el2 (stL_0 h5) (stL_lt h5)) (Nat.le_of_eq (rl (List.length (rowI e2 w0))))) (ai (row_put el2 h5) trivial))))))) (by kernel_rfl)) (Weak.trans (Weak.eq (congrArg (fun ZZ : Nat => (⟨[(0, .p (.int .i64 v0)), (1, .p (.int .i64 v1)), (5, .msl 0 0 ZZ (List.length (rowI e2 w0)) true), (6, .p (.int .i64 (IntKind.wrap .i64 (v6 + 1))))], [.cells (rowI e2 x1) 1]⟩ : St)) (Eq.symm ((stL_len h5).trans (rl (List.length w0)))))) (Weak.eq (congrArg (fun ZZ : Nat => (⟨[(0, .p (.int .i64 v0)), (1, .p (.int .i64 v1)), (5, .msl 0 0 (List.length x1) ZZ true), (6, .p (.int .i64 (IntKind.wrap .i64 (v6 + 1))))], [.cells (rowI e2 x1) 1]⟩ : St)) (Eq.symm ((row_setlen el2 h5).trans (rl (List.length (rowI e2 w0))))))))) (L58_0_ok v0 v1 fuel (IntKind.wrap .i64 (v6 + 1)) x1 _ g5)
    · have hr := Option.some.inj g1
      subst hr
      exact SemC.cast (SemJ.out (e := (.exit 0)) (path hm (σ' := ⟨[(5, .msl 0 0 (List.length w0) (List.length (rowI e2 w0)) true)], [.cells (rowI e2 w0) 1]⟩) (ks := [5]) (cc := [.reg [] [] 0 [(2, none, .b false)] [0, 1, 5, 6, 11]])
        (ai h1 trivial) (by kernel_rfl)) (by simp)) (by kernel_rfl) (by kernel_rfl)
def F58  (fuel : Nat) (p0 : Int) (p1 : Int) : Option (List Int) :=
  oif (decide ((0:Int) ≤ p0)) (oif (decide (((8 : Nat) : Int) * p0 ≤ 281474976710656)) (oif (decide ((p0 : Int) ≤ 9223372036854775807)) (obind (L58_0 p0 p1 fuel 0 (List.replicate (Int.toNat p0) (0 : Int))) fun y1 => some y1) none) none) none
theorem F58_ok  (fuel : Nat) (p0 : Int) (p1 : Int)  (r : (List Int)) (h : F58 fuel p0 p1 = some r) : CallP prog 58 [.int .i64 p0, .int .i64 p1] (.sl (List.map e2 r) false) := by
  unfold F58 at h
  refine oif_elim h (fun h1 g1 => ?_) (fun _ h => nomatch h)
  refine oif_elim g1 (fun h2 g2 => ?_) (fun _ h => nomatch h)
  refine oif_elim g2 (fun h3 g3 => ?_) (fun _ h => nomatch h)
  refine obind_elim g3 fun y1 h4 g4 => ?_
  have hr := Option.some.inj g4
  subst hr
  exact callP_of is58 rfl (path hm (ks := [4]) (σ' := ⟨[(4, .msl 0 0 (List.length y1) (List.length (rowI e2 y1)) true)], [.cells (rowI e2 y1) 1]⟩) (cc := [.reg [] [] 0 [] [0, 1], .reg [] [] 1 [(1, some 0, .ap (rowI e2 (List.replicate (Int.toNat p0) (0 : Int))) (Int.toNat p0) (List.length (rowI e2 (List.replicate (Int.toNat p0) (0 : Int)))))] [0, 1, 5], .reg [] [] 0 [] [0, 1, 5, 6], .leaf (.exit 0) ⟨[(5, .msl 0 0 (List.length y1) (List.length (rowI e2 y1)) true)], [.cells (rowI e2 y1) 1]⟩, .reg [] [] 0 [] [4]])
      (ai (od h1) (ai (rfl : (p0 : Int) = p0) (ai (od h2) (ai (od h3) (ai (rl (Int.toNat p0)) (ai (rl (List.length (rowI e2 (List.replicate (Int.toNat p0) (0 : Int))))) (ai (zeros_row el2 (0 : Int) (Int.toNat p0)) (ai (SemC.pre (σ := ⟨[(0, .p (.int .i64 p0)), (1, .p (.int .i64 p1)), (5, .msl 0 0 (Int.toNat p0) (List.length (rowI e2 (List.replicate (Int.toNat p0) (0 : Int)))) true), (6, .p (.int .i64 0))], [.cells (rowI e2 (List.replicate (Int.toNat p0) (0 : Int))) 1]⟩) (SemJ.loop (L58_0_ok p0 p1 fuel 0 (List.replicate (Int.toNat p0) (0 : Int)) _ h4)) (Weak.eq (congrArg (fun ZZ : Nat => (⟨[(0, .p (.int .i64 p0)), (1, .p (.int .i64 p1)), (5, .msl 0 0 ZZ (List.length (rowI e2 (List.replicate (Int.toNat p0) (0 : Int)))) true), (6, .p (.int .i64 0))], [.cells (rowI e2 (List.replicate (Int.toNat p0) (0 : Int))) 1]⟩ : St)) (Eq.symm (List.length_replicate : List.length (List.replicate (Int.toNat p0) (0 : Int)) = (Int.toNat p0)))))) trivial)))))))) (by kernel_rfl)) (e := .ret) rfl (vs := [.msl 0 0 (List.length y1) (List.length (rowI e2 y1)) true]) trivial (by kernel_rfl) (snap_row (g := 1) (L := y1) el2 (by kernel_rfl) (rl (List.length (rowI e2 y1))) (rl (List.length y1)))
theorem F58_own  (fuel : Nat) (p0 : Int) (p1 : Int)  (r : (List Int)) (h : F58 fuel p0 p1 = some r) (hne : List.isEmpty r = false) : CallO prog 58 [.int .i64 p0, .int .i64 p1] (rowI e2 r) (List.length r) 1 := by
  unfold F58 at h
  refine oif_elim h (fun h1 g1 => ?_) (fun _ h => nomatch h)
  refine oif_elim g1 (fun h2 g2 => ?_) (fun _ h => nomatch h)
  refine oif_elim g2 (fun h3 g3 => ?_) (fun _ h => nomatch h)
  refine obind_elim g3 fun y1 h4 g4 => ?_
  have hr := Option.some.inj g4
  subst hr
  exact callO_of (l := 0) (x := true) (L := y1) el2 is58 rfl (path hm (ks := [4]) (σ' := ⟨[(4, .msl 0 0 (List.length y1) (List.length (rowI e2 y1)) true)], [.cells (rowI e2 y1) 1]⟩) (cc := [.reg [] [] 0 [] [0, 1], .reg [] [] 1 [(1, some 0, .ap (rowI e2 (List.replicate (Int.toNat p0) (0 : Int))) (Int.toNat p0) (List.length (rowI e2 (List.replicate (Int.toNat p0) (0 : Int)))))] [0, 1, 5], .reg [] [] 0 [] [0, 1, 5, 6], .leaf (.exit 0) ⟨[(5, .msl 0 0 (List.length y1) (List.length (rowI e2 y1)) true)], [.cells (rowI e2 y1) 1]⟩, .reg [] [] 0 [] [4]])
      (ai (od h1) (ai (rfl : (p0 : Int) = p0) (ai (od h2) (ai (od h3) (ai (rl (Int.toNat p0)) (ai (rl (List.length (rowI e2 (List.replicate (Int.toNat p0) (0 : Int))))) (ai (zeros_row el2 (0 : Int) (Int.toNat p0)) (ai (SemC.pre (σ := ⟨[(0, .p (.int .i64 p0)), (1, .p (.int .i64 p1)), (5, .msl 0 0 (Int.toNat p0) (List.length (rowI e2 (List.replicate (Int.toNat p0) (0 : Int)))) true), (6, .p (.int .i64 0))], [.cells (rowI e2 (List.replicate (Int.toNat p0) (0 : Int))) 1]⟩) (SemJ.loop (L58_0_ok p0 p1 fuel 0 (List.replicate (Int.toNat p0) (0 : Int)) _ h4)) (Weak.eq (congrArg (fun ZZ : Nat => (⟨[(0, .p (.int .i64 p0)), (1, .p (.int .i64 p1)), (5, .msl 0 0 ZZ (List.length (rowI e2 (List.replicate (Int.toNat p0) (0 : Int)))) true), (6, .p (.int .i64 0))], [.cells (rowI e2 (List.replicate (Int.toNat p0) (0 : Int))) 1]⟩ : St)) (Eq.symm (List.length_replicate : List.length (List.replicate (Int.toNat p0) (0 : Int)) = (Int.toNat p0)))))) trivial)))))))) (by kernel_rfl)) (e := .ret) rfl trivial (by kernel_rfl) (by kernel_rfl) (rl (List.length (rowI e2 y1))) (rl (List.length y1))
def L42_0  (v0 : (List (Int × Int))) : Nat → Option Unit
  | 0 => none
  | fuel + 1 =>
    oif ((decide (0 < (v0.length : Int))))
    (obind (sg v0 0) fun x1 => none)
    (some (()))
noncomputable def L42_0_post (v0 : (List (Int × Int))) (fp0 : Bool) (fp1 : Bool) : Unit → Ex × St
  | y => ((.exit 0), ⟨[(5, .p (.sl (List.map e2 []) true))], []⟩)
theorem L42_0_ok  (v0 : (List (Int × Int))) (fp0 : Bool) (fp1 : Bool) : ∀ (fuel : Nat)  (r : Unit), L42_0 v0 fuel  = some r →
    SemJ prog ⟨53, 0, false⟩ (codeAt [1, 1, 0, 1, 0, 0] (bodyOf f42)) ⟨[(0, .p (.sl (List.map e62 v0) fp0)), (5, .p (.sl (List.map e2 []) true)), (6, .p (.int .i64 0))], []⟩ (L42_0_post v0 fp0 fp1 r).1 (L42_0_post v0 fp0 fp1 r).2
  | 0, _, h => nomatch h
  | fuel + 1, r, h => by
    unfold L42_0 at h
    refine oif_elim h (fun h1 g1 => ?_) (fun h1 g1 => ?_)
    · refine obind_elim g1 fun x1 h2 g2 => ?_
      exact nomatch g2
    · have hr := Option.some.inj g1
      subst hr
      exact SemC.cast (SemJ.out (e := (.exit 0)) (path hm (σ' := ⟨[(5, .p (.sl (List.map e2 []) true))], []⟩) (ks := [5]) (cc := [.reg [] [] 0 [(2, none, .n (v0.length : Int)), (3, none, .b false)] [0, 5, 6, 15]])
        (ai (len_map e62 v0) (ai h1 trivial)) (by kernel_rfl)) (by simp)) (by kernel_rfl) (by kernel_rfl)
def L42_1  (v0 : (List (Int × Int))) : Nat → Int → (List Int) → Option (List Int)
  | 0, _, _ => none
  | fuel + 1, v6, w0 =>
    oif ((decide (v6 < (v0.length : Int))))
    (obind (sg v0 v6) fun x1 => oif (decide ((0:Int) ≤ x1.1)) (oif (decide ((x1.1 : Int) < (((List.length w0) : Nat) : Int))) (obind (sg w0 x1.1) fun x2 => oif (decide ((0:Int) ≤ x1.2)) (oif (decide ((x1.2 : Int) < (((List.length w0) : Nat) : Int))) (obind (sg w0 x1.2) fun x3 => obind (stL w0 x1.1 (minL x2 [x3])) fun x4 => obind (stL x4 x1.2 (maxL x2 [x3])) fun x5 => L42_1 v0 fuel (IntKind.wrap .i64 (v6 + 1)) x5) none) none) none) none)
    (some (w0))
noncomputable def L42_1_post (v0 : (List (Int × Int))) (fp0 : Bool) (fp1 : Bool) : (List Int) → Ex × St
  | y => ((.exit 0), ⟨[(5, .msl 0 0 (List.length y) (List.length (rowI e2 y)) false)], [.cells (rowI e2 y) 1]⟩)
theorem L42_1_ok  (v0 : (List (Int × Int))) (fp0 : Bool) (fp1 : Bool) : ∀ (fuel : Nat) (v6 : Int) (w0 : (List Int)) (r : (List Int)), L42_1 v0 fuel v6 w0 = some r →
    SemJ prog ⟨53, 0, false⟩ (codeAt [1, 1, 0, 1, 0, 0] (bodyOf f42)) ⟨[(0, .p (.sl (List.map e62 v0) fp0)), (5, .msl 0 0 (List.length w0) (List.length (rowI e2 w0)) false), (6, .p (.int .i64 v6))], [.cells (rowI e2 w0) 1]⟩ (L42_1_post v0 fp0 fp1 r).1 (L42_1_post v0 fp0 fp1 r).2
  | 0, _, _, _, h => nomatch h
  | fuel + 1, v6, w0, r, h => by
    unfold L42_1 at h
    refine oif_elim h (fun h1 g1 => ?_) (fun h1 g1 => ?_)
    · refine obind_elim g1 fun x1 h2 g2 => ?_
      refine oif_elim g2 (fun h3 g3 => ?_) (fun _ h => nomatch h)
      refine oif_elim g3 (fun h4 g4 => ?_) (fun _ h => nomatch h)
      refine obind_elim g4 fun x2 h5 g5 => ?_
      refine oif_elim g5 (fun h6 g6 => ?_) (fun _ h => nomatch h)
      refine oif_elim g6 (fun h7 g7 => ?_) (fun _ h => nomatch h)
      refine obind_elim g7 fun x3 h8 g8 => ?_
      refine obind_elim g8 fun x4 h9 g9 => ?_
      refine obind_elim g9 fun x5 h10 g10 => ?_
      exact SemJ.again (σ1 := ⟨[(0, .p (.sl (List.map e62 v0) fp0)), (5, .msl 0 0 (List.length x5) (List.length (rowI e2 x5)) false), (6, .p (.int .i64 (IntKind.wrap .i64 (v6 + 1))))], [.cells (rowI e2 x5) 1]⟩) (SemC.post (path hm (σ' := ⟨[(0, .p (.sl (List.map e62 v0) fp0)), (5, .msl 0 0 (List.length w0) (List.length (rowI e2 w0)) false), (6, .p (.int .i64 (IntKind.wrap .i64 (v6 + 1))))], [.cells (rowI e2 x5) 1]⟩) (ks := [0, 5, 6]) (cc := [.reg [] [] 0 [(2, none, .n (v0.length : Int)), (3, none, .b true)] [0, 5, 6, 15], .reg [0, 0, 3, 7, 15, 0, 0, 96, 224, 480, 31, 2047] [] 0 [(2, none, .iv (.p (.agg [.int .i64 x1.1, .int .i64 x1.2]))), (7, none, .iv (.p (.agg [.int .i64 x1.1, .int .i64 x1.2])))] [0, 5, 6, 7, 8], .reg [0, 0, 0, 0, 0, 0, 48, 112, 0, 0, 768, 1792, 4080, 0, 0, 24576, 57344, 0, 0, 393216, 917504, 2088960, 2097139, 6291443, 16777215, 33554431] [(0, 23), (0, 25)] 0 [(7, none, .iv (.p (.int .i64 x2))), (11, none, .iv (.p (.int .i64 x3))), (16, none, .iv (.p (.int .i64 x2))), (20, none, .iv (.p (.int .i64 x3))), (23, none, .cs (rowI e2 x4)), (25, none, .cs (rowI e2 x5))] [0, 5, 6], .reg [] [] 0 [] [0, 5, 6]])
        (ai (len_map e62 v0) (ai h1 (ai (sg_map (f := e62) h2) (ai (by decide : (0:Int) ≤ 0) (ai (by decide : (0:Int) < ((2:Nat):Int)) (ai (sg_map (f := e62) h2) (ai (by decide : (0:Int) ≤ 1) (ai (by decide : (1:Int) < ((2:Nat):Int)) (ai (od h3) (ai (od h4) (ai (rl (List.length (rowI e2 w0))) (ai (row_get el2 h5 rfl) (ai (od h6) (ai (od h7) (ai (rl (List.length (rowI e2 w0))) (ai (row_get el2 h8 rfl) (ai (od h3) (ai (od h4) (ai (rl (List.length (rowI e2 w0))) (ai (row_get el2 h5 rfl) (ai (od h6) (ai (od h7) (ai (rl (List.length (rowI e2 w0))) (ai (row_get el2 h8 rfl) (ai (od h3) (ai (od h4) (ai (rl (List.length (rowI e2 w0))) (ai (Nat.le_trans (row_fit el2 (stL_0 h9) (stL_lt h9)) (Nat.le_of_eq (rl (List.length (rowI e2 w0))))) (ai (row_put el2 h9) (ai (od h6) (ai (od h7) (ai ((row_setlen el2 h9).trans (rl (List.length (rowI e2 w0)))) (ai (Nat.le_trans (row_fit el2 (stL_0 h10) (stL_lt h10)) (Nat.le_of_eq ((row_setlen el2 h9).trans (rl (List.length (rowI e2 w0)))))) (ai (row_put el2 h10) trivial)))))))))))))))))))))))))))))))))) (by kernel_rfl)) (Weak.trans (Weak.eq (congrArg (fun ZZ : Nat => (⟨[(0, .p (.sl (List.map e62 v0) fp0)), (5, .msl 0 0 ZZ (List.length (rowI e2 w0)) false), (6, .p (.int .i64 (IntKind.wrap .i64 (v6 + 1))))], [.cells (rowI e2 x5) 1]⟩ : St)) (Eq.symm ((stL_len h10).trans ((stL_len h9).trans (rl (List.length w0))))))) (Weak.eq (congrArg (fun ZZ : Nat => (⟨[(0, .p (.sl (List.map e62 v0) fp0)), (5, .msl 0 0 (List.length x5) ZZ false), (6, .p (.int .i64 (IntKind.wrap .i64 (v6 + 1))))], [.cells (rowI e2 x5) 1]⟩ : St)) (Eq.symm ((row_setlen el2 h10).trans ((row_setlen el2 h9).trans (rl (List.length (rowI e2 w0)))))))))) (L42_1_ok v0 fp0 fp1 fuel (IntKind.wrap .i64 (v6 + 1)) x5 _ g10)
    · have hr := Option.some.inj g1
      subst hr
      exact SemC.cast (SemJ.out (e := (.exit 0)) (path hm (σ' := ⟨[(5, .msl 0 0 (List.length w0) (List.length (rowI e2 w0)) false)], [.cells (rowI e2 w0) 1]⟩) (ks := [5]) (cc := [.reg [] [] 0 [(2, none, .n (v0.length : Int)), (3, none, .b false)] [0, 5, 6, 15]])
        (ai (len_map e62 v0) (ai h1 trivial)) (by kernel_rfl)) (by simp)) (by kernel_rfl) (by kernel_rfl)
def F42  (fuel : Nat) (p0 : (List (Int × Int))) (p1 : (List Int)) : Option (List Int) :=
  oif (List.isEmpty p1)
  (obind (L42_0 p0 fuel ) fun y1 => some [])
  (oif (decide ((List.length (List.map e2 p1)) * 8 ≤ 140737488355328)) (obind (L42_1 p0 fuel 0 p1) fun y1 => some y1) none)
theorem F42_ok  (fuel : Nat) (p0 : (List (Int × Int))) (p1 : (List Int)) (fp0 : Bool) (fp1 : Bool) (r : (List Int)) (h : F42 fuel p0 p1 = some r) : CallP prog 42 [.sl (List.map e62 p0) fp0, .sl (List.map e2 p1) fp1] (.sl (List.map e2 r) false) := by
  unfold F42 at h
  refine oif_elim h (fun h1 g1 => ?_) (fun h1 g1 => ?_)
  · refine obind_elim g1 fun y1 h2 g2 => ?_
    have hr := Option.some.inj g2
    subst hr
    exact callP_of is42 rfl (path hm (ks := [4]) (σ' := ⟨[(4, .p (.sl (List.map e2 []) true))], []⟩) (cc := [.reg [] [] 0 [] [0, 1], .reg [] [] 0 [(2, none, .b true)] [0, 5], .reg [] [] 0 [] [0, 5, 6], .leaf (.exit 0) ⟨[(5, .p (.sl (List.map e2 []) true))], []⟩, .reg [] [] 0 [] [4]])
      (ai (isEmpty_len e2 h1) (ai (row_sc el2 p1) (ai (row_es el2 p1) (ai (SemJ.loop (L42_0_ok p0 fp0 fp1 fuel  _ h2)) trivial)))) (by kernel_rfl)) (e := .ret) rfl (vs := [.p (.sl (List.map e2 []) true)]) trivial (by kernel_rfl) (.p _ _ (.flag _ _ _ (fun h => nomatch h)))
  · refine oif_elim g1 (fun h2 g2 => ?_) (fun _ h => nomatch h)
    refine obind_elim g2 fun y1 h3 g3 => ?_
    have hr := Option.some.inj g3
    subst hr
    exact callP_of is42 rfl (path hm (ks := [4]) (σ' := ⟨[(4, .msl 0 0 (List.length y1) (List.length (rowI e2 y1)) false)], [.cells (rowI e2 y1) 1]⟩) (cc := [.reg [] [] 0 [] [0, 1], .reg [] [] 1 [(2, some 0, .ap (rowI e2 p1) (List.length p1) (List.length (rowI e2 p1)))] [0, 5], .reg [] [] 0 [] [0, 5, 6], .leaf (.exit 0) ⟨[(5, .msl 0 0 (List.length y1) (List.length (rowI e2 y1)) false)], [.cells (rowI e2 y1) 1]⟩, .reg [] [] 0 [] [4]])
      (ai (notEmpty_len e2 h1) (ai (app_e1 (m := (List.length (List.map e2 p1))) (od h2)) (ai (app_e2 (m := (List.length (List.map e2 p1))) (by decide) (od h2)) (ai (app_e3 e2 p1) (ai (rl (List.length (rowI e2 p1))) (ai (row_src e2 p1) (ai (row_sc el2 p1) (ai (row_es el2 p1) (ai (fun _ h => nomatch h : ∀ y ∈ ([] : List PV), y.cells.length = 1) (ai (SemJ.loop (L42_1_ok p0 fp0 fp1 fuel 0 p1 _ h3)) trivial)))))))))) (by kernel_rfl)) (e := .ret) rfl (vs := [.msl 0 0 (List.length y1) (List.length (rowI e2 y1)) false]) trivial (by kernel_rfl) (snap_row (g := 1) (L := y1) el2 (by kernel_rfl) (rl (List.length (rowI e2 y1))) (rl (List.length y1)))
def L52_0  (v1 : Int) (v2 : Int) (v2_1 : (List (Int × Int))) : Nat → Int → Option (Unit ⊕ Unit)
  | 0, _ => none
  | fuel + 1, v5 =>
    oif (decide ((0:Int) ≤ v2)) (oif ((decide (v5 < (IntKind.wrap .i64 (1 * 2 ^ (min (Int.toNat v2) (IntKind.bits .i64)))))))
    (obind (subL v2_1 none (some v1)) fun x1 => obind (F58 fuel v2 v5) fun r2 => obind (F42 fuel x1 r2) fun r3 => obind (sg v2_1 v1) fun x4 => obind (sg r3 x4.1) fun x5 => obind (sg r3 x4.2) fun x6 => oif ((decide (x5 > x6)))
      (some (.inl ()))
      (L52_0 v1 v2 v2_1 fuel (IntKind.wrap .i64 (v5 + 1))))
    (some (.inr (())))) none
noncomputable def L52_0_post (v1 : Int) (v2 : Int) (v2_1 : (List (Int × Int)))  : (Unit ⊕ Unit) → Ex × St
  | .inl y => (.ret, ⟨[(4, .p (.bool false))], []⟩)
  | .inr (y) => ((.exit 0), ⟨[], []⟩)
theorem L52_0_ok  (v1 : Int) (v2 : Int) (v2_1 : (List (Int × Int)))  : ∀ (fuel : Nat) (v5 : Int) (r : (Unit ⊕ Unit)), L52_0 v1 v2 v2_1 fuel v5 = some r →
    SemJ prog ⟨42, 0, false⟩ (codeAt [1, 0, 1, 0, 0] (bodyOf f52)) ⟨[(1, .p (.int .i64 v1)), (2, .p (.ref [.int .i64 v2, .sl (List.map e62 v2_1) false])), (5, .p (.int .i64 v5))], []⟩ (L52_0_post v1 v2 v2_1 r).1 (L52_0_post v1 v2 v2_1 r).2
  | 0, _, _, h => nomatch h
  | fuel + 1, v5, r, h => by
    unfold L52_0 at h
    refine oif_elim h (fun h1 g1 => ?_) (fun _ h => nomatch h)
    refine oif_elim g1 (fun h2 g2 => ?_) (fun h2 g2 => ?_)
    · refine obind_elim g2 fun x1 h3 g3 => ?_
      refine obind_elim g3 fun r2 h4 g4 => ?_
      refine obind_elim g4 fun r3 h5 g5 => ?_
      refine obind_elim g5 fun x4 h6 g6 => ?_
      refine obind_elim g6 fun x5 h7 g7 => ?_
      refine obind_elim g7 fun x6 h8 g8 => ?_
      let c171 : List CC := [.reg [] [] 0 [(4, none, .b true)] [1, 2, 5, 11], .reg [0, 1, 0, 7, 0, 16, 0, 112, 255, 511] [] 0 [(3, none, .pvs (List.map e62 x1)), (7, none, .call (.sl (List.map e2 r2) false)), (8, none, .call (.sl (List.map e2 r3) false))] [1, 2, 5, 6]]
      have q172 := fun {P : Prop} (t : P) => ai (od h1) (ai h2 (ai (sub_eq e62 h3) (ai (row_es el62 v2_1) (ai (sub_hi0 h3) (ai (sub_hi1 e62 h3) (ai (F58_ok fuel v2 v5 _ h4) (ai (F42_ok fuel x1 r2 false false _ h5) (ai (sg_map (f := e62) h6) t))))))))
      have q173 := fun {P : Prop} (t : P) => ai (sg_map (f := e2) h7) (ai (sg_map (f := e62) h6) t)
      have q174 := fun {P : Prop} (t : P) => ai (sg_map (f := e2) h8) t
      refine oif_elim g8 (fun h9 g9 => ?_) (fun h9 g9 => ?_)
      · have hr := Option.some.inj g9
        subst hr
        exact SemC.cast (SemJ.out (e := .ret) (path hm (σ' := ⟨[(4, .p (.bool false))], []⟩) (ks := [4]) (cc := c171 ++ [.reg [0, 0, 2, 0, 14, 30, 62, 127, 255, 0, 0, 1024, 0, 7168, 15360, 31744, 65024, 130560, 262143] [] 0 [(4, none, .iv (.p (.agg [.int .i64 x4.1, .int .i64 x4.2]))), (7, none, .iv (.p (.int .i64 x5))), (13, none, .iv (.p (.agg [.int .i64 x4.1, .int .i64 x4.2]))), (16, none, .iv (.p (.int .i64 x6))), (18, none, .b true)] [1, 2, 5, 41], .reg [] [] 0 [] [4]])
        (q172 (ai (by decide : (0:Int) ≤ 0) (ai (by decide : (0:Int) < ((2:Nat):Int)) (q173 (ai (by decide : (0:Int) ≤ 1) (ai (by decide : (1:Int) < ((2:Nat):Int)) (q174 (ai h9 trivial)))))))) (by kernel_rfl)) (by simp)) (by kernel_rfl) (by kernel_rfl)
      · exact SemJ.again (σ1 := ⟨[(1, .p (.int .i64 v1)), (2, .p (.ref [.int .i64 v2, .sl (List.map e62 v2_1) false])), (5, .p (.int .i64 (IntKind.wrap .i64 (v5 + 1))))], []⟩) (path hm (σ' := ⟨[(1, .p (.int .i64 v1)), (2, .p (.ref [.int .i64 v2, .sl (List.map e62 v2_1) false])), (5, .p (.int .i64 (IntKind.wrap .i64 (v5 + 1))))], []⟩) (ks := [1, 2, 5]) (cc := c171 ++ [.reg [0, 0, 2, 0, 14, 30, 62, 127, 255, 0, 0, 1024, 0, 7168, 15360, 31744, 65024, 130560, 262143] [] 0 [(4, none, .iv (.p (.agg [.int .i64 x4.1, .int .i64 x4.2]))), (7, none, .iv (.p (.int .i64 x5))), (13, none, .iv (.p (.agg [.int .i64 x4.1, .int .i64 x4.2]))), (16, none, .iv (.p (.int .i64 x6))), (18, none, .b false)] [1, 2, 5, 41], .reg [] [] 0 [] [1, 2, 5]])
        (q172 (ai (by decide : (0:Int) ≤ 0) (ai (by decide : (0:Int) < ((2:Nat):Int)) (q173 (ai (by decide : (0:Int) ≤ 1) (ai (by decide : (1:Int) < ((2:Nat):Int)) (q174 (ai h9 trivial)))))))) (by kernel_rfl)) (L52_0_ok v1 v2 v2_1 fuel (IntKind.wrap .i64 (v5 + 1)) _ g9)
    · have hr := Option.some.inj g2
      subst hr
      exact SemC.cast (SemJ.out (e := (.exit 0)) (path hm (σ' := ⟨[], []⟩) (ks := []) (cc := [.reg [] [] 0 [(4, none, .b false)] [1, 2, 5, 11]])
        (ai (od h1) (ai h2 trivial)) (by kernel_rfl)) (by simp)) (by kernel_rfl) (by kernel_rfl)
def F52  (fuel : Nat) (p0 : (Int × (List (Int × Int)))) (p1 : Int) : Option Bool :=
  (obind (L52_0 p1 p0.1 p0.2 fuel 0) fun y1 => match y1 with
  | .inl y1 => some false
  | .inr (y1) => some true)
theorem F52_ok  (fuel : Nat) (p0 : (Int × (List (Int × Int)))) (p1 : Int)  (r : Bool) (h : F52 fuel p0 p1 = some r) : CallP prog 52 [.agg [.int .i64 p0.1, .sl (List.map e62 p0.2) false], .int .i64 p1] (.bool r) := by
  unfold F52 at h
  refine obind_elim h fun y h1 g1 => ?_
  match y, h1, g1 with
  | .inl y1, h1, g1 =>
    have hr := Option.some.inj g1
    subst hr
    exact callP_of is52 rfl (path hm (ks := [4]) (σ' := ⟨[(4, .p (.bool false))], []⟩) (cc := [.reg [] [] 0 [(0, none, .imm)] [1, 2], .reg [] [] 0 [] [1, 2, 5], .leaf .ret ⟨[(4, .p (.bool false))], []⟩])
      (ai (SemJ.loop (L52_0_ok p1 p0.1 p0.2 fuel 0 _ h1)) trivial) (by kernel_rfl)) (e := .ret) rfl (vs := [.p (.bool false)]) trivial (by kernel_rfl) (.p _ _ (.refl _))
  | .inr (y1), h1, g1 =>
    have hr := Option.some.inj g1
    subst hr
    exact callP_of is52 rfl (path hm (ks := [4]) (σ' := ⟨[(4, .p (.bool true))], []⟩) (cc := [.reg [] [] 0 [(0, none, .imm)] [1, 2], .reg [] [] 0 [] [1, 2, 5], .leaf (.exit 0) ⟨[], []⟩, .reg [] [] 0 [] [4]])
      (ai (SemJ.loop (L52_0_ok p1 p0.1 p0.2 fuel 0 _ h1)) trivial) (by kernel_rfl)) (e := .ret) rfl (vs := [.p (.bool true)]) trivial (by kernel_rfl) (.p _ _ (.refl _))
def L25_2  (v1 : Int) (v1_1 : (List (Int × Int))) : Nat → Int → (List Int) → Option (List Int)
  | 0, _, _ => none
  | fuel + 1, v5, w0 =>
    oif ((decide (v5 < (v1_1.length : Int))))
    (obind (F52 fuel (v1, v1_1) v5) fun r1 => oif (r1)
      (oif (decide (((List.length w0) + 1) * 8 ≤ 140737488355328)) (L25_2 v1 v1_1 fuel (IntKind.wrap .i64 (v5 + 1)) (w0 ++ [v5])) none)
      (L25_2 v1 v1_1 fuel (IntKind.wrap .i64 (v5 + 1)) w0))
    (some (w0))
noncomputable def L25_2_post (v1 : Int) (v1_1 : (List (Int × Int)))  : (List Int) → Ex × St
  | y => ((.exit 0), ⟨[(4, .msl 0 0 (List.length y) (List.length (rowI e3 y)) false)], [.cells (rowI e3 y) 1]⟩)
theorem L25_2_ok  (v1 : Int) (v1_1 : (List (Int × Int)))  : ∀ (fuel : Nat) (v5 : Int) (w0 : (List Int)) (r : (List Int)), L25_2 v1 v1_1 fuel v5 w0 = some r →
    SemJ prog ⟨26, 0, false⟩ (codeAt [1, 1, 1, 0, 1, 0, 0] (bodyOf f25)) ⟨[(1, .p (.ref [.int .i64 v1, .sl (List.map e62 v1_1) false])), (4, .msl 0 0 (List.length w0) (List.length (rowI e3 w0)) false), (5, .p (.int .i64 v5))], [.cells (rowI e3 w0) 1]⟩ (L25_2_post v1 v1_1 r).1 (L25_2_post v1 v1_1 r).2
  | 0, _, _, _, h => nomatch h
  | fuel + 1, v5, w0, r, h => by
    unfold L25_2 at h
    refine oif_elim h (fun h1 g1 => ?_) (fun h1 g1 => ?_)
    · refine obind_elim g1 fun r1 h2 g2 => ?_
      let c176 : List CC := [.reg [] [] 0 [(3, none, .n (v1_1.length : Int)), (4, none, .b true)] [1, 4, 5, 15]]
      refine oif_elim g2 (fun h3 g3 => ?_) (fun h3 g3 => ?_)
      · subst h3
        refine oif_elim g3 (fun h4 g4 => ?_) (fun _ h => nomatch h)
        exact SemJ.again (σ1 := ⟨[(1, .p (.ref [.int .i64 v1, .sl (List.map e62 v1_1) false])), (4, .msl 0 0 (List.length (w0 ++ [v5])) (List.length (rowI e3 (w0 ++ [v5]))) false), (5, .p (.int .i64 (IntKind.wrap .i64 (v5 + 1))))], [.cells (rowI e3 (w0 ++ [v5])) 1]⟩) (path hm (σ' := ⟨[(1, .p (.ref [.int .i64 v1, .sl (List.map e62 v1_1) false])), (4, .msl 0 0 (List.length (w0 ++ [v5])) (List.length (rowI e3 (w0 ++ [v5]))) false), (5, .p (.int .i64 (IntKind.wrap .i64 (v5 + 1))))], [.cells (rowI e3 (w0 ++ [v5])) 1]⟩) (ks := [1, 4, 5]) (cc := c176 ++ [.reg [] [] 0 [(2, none, .call (.bool true))] [1, 4, 5, 20], .reg [] [] 0 [(3, none, .ap (rowI e3 (w0 ++ [v5])) (List.length (w0 ++ [v5])) (List.length (rowI e3 (w0 ++ [v5]))))] [1, 4, 5], .reg [] [] 0 [] [1, 4, 5]])
        (ai (len_map e62 v1_1) (ai h1 (ai (F52_ok fuel (v1, v1_1) v5 _ h2) (ai (by decide : 0 < 1) (ai (od h4) (ai (app_c2 (by decide) (od h4)) (ai (app_len e3 [v5] (rl (List.length w0))) (ai (rl (List.length (rowI e3 (w0 ++ [v5])))) (ai (row_app e3 w0 [v5]) (ai (rl (List.length (rowI e3 w0))) (ai (row_sz el3 (rl (List.length (rowI e3 w0))) (rl (List.length w0))) (ai (row_sc el3 [v5]) (ai (row_es el3 [v5]) trivial))))))))))))) (by kernel_rfl)) (L25_2_ok v1 v1_1 fuel (IntKind.wrap .i64 (v5 + 1)) (w0 ++ [v5]) _ g4)
      · subst h3
        exact SemJ.again (σ1 := ⟨[(1, .p (.ref [.int .i64 v1, .sl (List.map e62 v1_1) false])), (4, .msl 0 0 (List.length w0) (List.length (rowI e3 w0)) false), (5, .p (.int .i64 (IntKind.wrap .i64 (v5 + 1))))], [.cells (rowI e3 w0) 1]⟩) (path hm (σ' := ⟨[(1, .p (.ref [.int .i64 v1, .sl (List.map e62 v1_1) false])), (4, .msl 0 0 (List.length w0) (List.length (rowI e3 w0)) false), (5, .p (.int .i64 (IntKind.wrap .i64 (v5 + 1))))], [.cells (rowI e3 w0) 1]⟩) (ks := [1, 4, 5]) (cc := c176 ++ [.reg [] [] 0 [(2, none, .call (.bool false))] [1, 4, 5, 20], .reg [] [] 0 [] [1, 4, 5]])
        (ai (len_map e62 v1_1) (ai h1 (ai (F52_ok fuel (v1, v1_1) v5 _ h2) trivial))) (by kernel_rfl)) (L25_2_ok v1 v1_1 fuel (IntKind.wrap .i64 (v5 + 1)) w0 _ g3)
    · have hr := Option.some.inj g1
      subst hr
      exact SemC.cast (SemJ.out (e := (.exit 0)) (path hm (σ' := ⟨[(4, .msl 0 0 (List.length w0) (List.length (rowI e3 w0)) false)], [.cells (rowI e3 w0) 1]⟩) (ks := [4]) (cc := [.reg [] [] 0 [(3, none, .n (v1_1.length : Int)), (4, none, .b false)] [1, 4, 5, 15]])
        (ai (len_map e62 v1_1) (ai h1 trivial)) (by kernel_rfl)) (by simp)) (by kernel_rfl) (by kernel_rfl)
def L25_0  (v1 : Int) (v1_1 : (List (Int × Int))) : Nat → Int → Option (List Int)
  | 0, _ => none
  | fuel + 1, v5 =>
    oif ((decide (v5 < (v1_1.length : Int))))
    (obind (F52 fuel (v1, v1_1) v5) fun r1 => oif (r1)
      (oif (decide (1 * 8 ≤ 140737488355328)) (obind (L25_2 v1 v1_1 fuel (IntKind.wrap .i64 (v5 + 1)) [v5]) fun y2 => some (y2)) none)
      (L25_0 v1 v1_1 fuel (IntKind.wrap .i64 (v5 + 1))))
    (some (([] : List Int)))
noncomputable def L25_0_post (v1 : Int) (v1_1 : (List (Int × Int)))  : (List Int) → Ex × St
  | y => ((.exit 0), ⟨[(4, .p (.sl (List.map e3 y) false))], []⟩)
theorem L25_0_ok  (v1 : Int) (v1_1 : (List (Int × Int)))  : ∀ (fuel : Nat) (v5 : Int) (r : (List Int)), L25_0 v1 v1_1 fuel v5 = some r →
    SemJ prog ⟨26, 0, false⟩ (codeAt [1, 1, 1, 0, 1, 0, 0] (bodyOf f25)) ⟨[(1, .p (.ref [.int .i64 v1, .sl (List.map e62 v1_1) false])), (4, .p (.nilsl)), (5, .p (.int .i64 v5))], []⟩ (L25_0_post v1 v1_1 r).1 (L25_0_post v1 v1_1 r).2
  | 0, _, _, h => nomatch h
  | fuel + 1, v5, r, h => by
    unfold L25_0 at h
    refine oif_elim h (fun h1 g1 => ?_) (fun h1 g1 => ?_)
    · refine obind_elim g1 fun r1 h2 g2 => ?_
      let c177 : List CC := [.reg [] [] 0 [(3, none, .n (v1_1.length : Int)), (4, none, .b true)] [1, 4, 5, 15]]
      refine oif_elim g2 (fun h3 g3 => ?_) (fun h3 g3 => ?_)
      · subst h3
        refine oif_elim g3 (fun h4 g4 => ?_) (fun _ h => nomatch h)
        refine obind_elim g4 fun y2 h5 g5 => ?_
        have hr := Option.some.inj g5
        subst hr
        exact SemC.cast (SemJ.again (σ1 := ⟨[(1, .p (.ref [.int .i64 v1, .sl (List.map e62 v1_1) false])), (4, .msl 0 0 (List.length [v5]) (List.length (rowI e3 [v5])) false), (5, .p (.int .i64 (IntKind.wrap .i64 (v5 + 1))))], [.cells (rowI e3 [v5]) 1]⟩) (path hm (σ' := ⟨[(1, .p (.ref [.int .i64 v1, .sl (List.map e62 v1_1) false])), (4, .msl 0 0 (List.length [v5]) (List.length (rowI e3 [v5])) false), (5, .p (.int .i64 (IntKind.wrap .i64 (v5 + 1))))], [.cells (rowI e3 [v5]) 1]⟩) (ks := [1, 4, 5]) (cc := c177 ++ [.reg [] [] 0 [(2, none, .call (.bool true))] [1, 4, 5, 20], .reg [] [] 1 [(3, some 0, .ap (rowI e3 [v5]) (List.length [v5]) (List.length (rowI e3 [v5])))] [1, 4, 5], .reg [] [] 0 [] [1, 4, 5]])
        (ai (len_map e62 v1_1) (ai h1 (ai (F52_ok fuel (v1, v1_1) v5 _ h2) (ai (by decide : 0 < 1) (ai (od h4) (ai (app_c0 (by decide) (od h4)) (ai (rl (List.length [v5])) (ai (rl (List.length (rowI e3 [v5]))) (ai (row_src e3 [v5]) (ai (row_sc el3 [v5]) (ai (row_es el3 [v5]) trivial))))))))))) (by kernel_rfl)) (SemC.post (L25_2_ok v1 v1_1 fuel (IntKind.wrap .i64 (v5 + 1)) [v5] _ h5) (Weak.trans (wcast (Weak.freeze (E := [(4, .msl 0 0 (List.length y2) (List.length (rowI e3 y2)) false)]) (E' := [(4, .p (.sl (List.map e3 y2) false))]) (H := [.cells (rowI e3 y2) 1]) [0] (by kernel_rfl) (.snap _ _ _ _ _ (snap_row (g := 1) (L := y2) el3 (by kernel_rfl) (rl (List.length (rowI e3 y2))) (rl (List.length y2))) .nil)) (by kernel_rfl : (⟨[(4, .p (.sl (List.map e3 y2) false))], puts (dieW [0]) [.cells (rowI e3 y2) 1]⟩ : St) = ⟨[(4, .p (.sl (List.map e3 y2) false))], [.dead]⟩)) (Weak.sel (E := [(4, .p (.sl (List.map e3 y2) false))]) (E' := [(4, .p (.sl (List.map e3 y2) false))]) (H := [.dead]) (H' := []) [] trivial (by kernel_rfl) (by kernel_rfl))))) (by kernel_rfl) (by kernel_rfl)
      · subst h3
        exact SemJ.again (σ1 := ⟨[(1, .p (.ref [.int .i64 v1, .sl (List.map e62 v1_1) false])), (4, .p (.nilsl)), (5, .p (.int .i64 (IntKind.wrap .i64 (v5 + 1))))], []⟩) (path hm (σ' := ⟨[(1, .p (.ref [.int .i64 v1, .sl (List.map e62 v1_1) false])), (4, .p (.nilsl)), (5, .p (.int .i64 (IntKind.wrap .i64 (v5 + 1))))], []⟩) (ks := [1, 4, 5]) (cc := c177 ++ [.reg [] [] 0 [(2, none, .call (.bool false))] [1, 4, 5, 20], .reg [] [] 0 [] [1, 4, 5]])
        (ai (len_map e62 v1_1) (ai h1 (ai (F52_ok fuel (v1, v1_1) v5 _ h2) trivial))) (by kernel_rfl)) (L25_0_ok v1 v1_1 fuel (IntKind.wrap .i64 (v5 + 1)) _ g3)
    · have hr := Option.some.inj g1
      subst hr
      exact SemC.cast (SemJ.out (e := (.exit 0)) (SemC.post (path hm (σ' := ⟨[(4, .p (.nilsl))], []⟩) (ks := [4]) (cc := [.reg [] [] 0 [(3, none, .n (v1_1.length : Int)), (4, none, .b false)] [1, 4, 5, 15]])
        (ai (len_map e62 v1_1) (ai h1 trivial)) (by kernel_rfl)) (wcast (Weak.freeze (E := [(4, .p (.nilsl))]) (E' := [(4, .p (.sl (List.map e3 ([] : List Int)) false))]) (H := []) [] (by kernel_rfl) (.snap _ _ _ _ _ (.p _ _ (.nil _)) .nil)) (by kernel_rfl : (⟨[(4, .p (.sl (List.map e3 ([] : List Int)) false))], puts (dieW []) []⟩ : St) = ⟨[(4, .p (.sl (List.map e3 ([] : List Int)) false))], []⟩))) (by simp)) (by kernel_rfl) (by kernel_rfl)
def F25  (fuel : Nat) (p0 : (Int × (List (Int × Int)))) : Option ((List Int) × Int) :=
  obind (F12 fuel (p0.1, p0.2)) fun r1 => oif ((r1 != 0))
  (some ([], r1))
  (obind (L25_0 p0.1 p0.2 fuel 0) fun y2 => some (y2, 0))
theorem F25_ok  (fuel : Nat) (p0 : (Int × (List (Int × Int))))  (r : ((List Int) × Int)) (h : F25 fuel p0 = some r) : CallP prog 25 [.agg [.int .i64 p0.1, .sl (List.map e62 p0.2) false]] (.tup [.sl (List.map e3 r.1) false, .int .i64 r.2]) := by
  unfold F25 at h
  refine obind_elim h fun r1 h1 g1 => ?_
  refine oif_elim g1 (fun h2 g2 => ?_) (fun h2 g2 => ?_)
  · have hr := Option.some.inj g2
    subst hr
    exact callP_of is25 rfl (path hm (ks := [2, 3]) (σ' := ⟨[(2, .p (.nilsl)), (3, .p (.int .i64 r1))], []⟩) (cc := [.reg [] [] 0 [(0, none, .imm)] [1], .reg [] [] 0 [(1, none, .call (.int .i64 r1)), (2, none, .b true)] [1, 8], .reg [] [] 0 [(1, none, .call (.int .i64 r1))] [2, 3]])
      (ai (F12_ok fuel (p0.1, p0.2) _ h1) (ai h2 (ai (F12_ok fuel (p0.1, p0.2) _ h1) trivial))) (by kernel_rfl)) (e := .ret) rfl (vs := [.p (.nilsl), .p (.int .i64 r1)]) trivial (by kernel_rfl) (.tup _ _ (.cons _ _ _ _ (.p _ _ (.nil _)) (.cons _ _ _ _ (.p _ _ (.refl _)) .nil)))
  · refine obind_elim g2 fun y2 h3 g3 => ?_
    have hr := Option.some.inj g3
    subst hr
    exact callP_of is25 rfl (path hm (ks := [2, 3]) (σ' := ⟨[(2, .p (.sl (List.map e3 y2) false)), (3, .p (.int .i64 0))], []⟩) (cc := [.reg [] [] 0 [(0, none, .imm)] [1], .reg [] [] 0 [(1, none, .call (.int .i64 r1)), (2, none, .b false)] [1, 8], .reg [] [] 0 [] [1, 4], .reg [] [] 0 [] [1, 4, 5], .leaf (.exit 0) ⟨[(4, .p (.sl (List.map e3 y2) false))], []⟩, .reg [] [] 0 [] [2, 3]])
      (ai (F12_ok fuel (p0.1, p0.2) _ h1) (ai h2 (ai (SemJ.loop (L25_0_ok p0.1 p0.2 fuel 0 _ h3)) trivial))) (by kernel_rfl)) (e := .ret) rfl (vs := [.p (.sl (List.map e3 y2) false), .p (.int .i64 0)]) trivial (by kernel_rfl) (.tup _ _ (.cons _ _ _ _ (.p _ _ (.refl _)) (.cons _ _ _ _ (.p _ _ (.refl _)) .nil)))
def L27_2  (v1 : Int) (v1_1 : (List (Int × Int))) (w1 : Int) : Nat → Int → (List (Int × Int)) → Option (List (Int × Int))
  | 0, _, _ => none
  | fuel + 1, v5, w2 =>
    oif ((decide (v5 < (v1_1.length : Int))))
    (obind (F52 fuel (v1, v1_1) v5) fun r1 => oif (r1)
      (L27_2 v1 v1_1 w1 fuel (IntKind.wrap .i64 (v5 + 1)) w2)
      (obind (sg v1_1 v5) fun x2 => oif (decide (((List.length w2) + 1) * 16 ≤ 140737488355328)) (L27_2 v1 v1_1 w1 fuel (IntKind.wrap .i64 (v5 + 1)) (w2 ++ [(x2.1, x2.2)])) none))
    (some (w2))
noncomputable def L27_2_post (v1 : Int) (v1_1 : (List (Int × Int))) (w1 : Int)  : (List (Int × Int)) → Ex × St
  | y => ((.exit 0), ⟨[(2, .ptr 0 0 2), (4, .ptr 1 0 2)], [.cells [.p (.int .i64 0), .p (.nilsl)] 0, .cells [.p (.int .i64 w1), .msl 2 0 (List.length y) (List.length (rowI e62 y)) false] 0, .cells (rowI e62 y) 2]⟩)
theorem L27_2_ok  (v1 : Int) (v1_1 : (List (Int × Int))) (w1 : Int)  : ∀ (fuel : Nat) (v5 : Int) (w2 : (List (Int × Int))) (r : (List (Int × Int))), L27_2 v1 v1_1 w1 fuel v5 w2 = some r →
    SemJ prog ⟨37, 0, false⟩ (codeAt [1, 1, 1, 0, 1, 0, 0] (bodyOf f27)) ⟨[(1, .p (.ref [.int .i64 v1, .sl (List.map e62 v1_1) false])), (2, .ptr 0 0 2), (4, .ptr 1 0 2), (5, .p (.int .i64 v5))], [.cells [.p (.int .i64 0), .p (.nilsl)] 0, .cells [.p (.int .i64 w1), .msl 2 0 (List.length w2) (List.length (rowI e62 w2)) false] 0, .cells (rowI e62 w2) 2]⟩ (L27_2_post v1 v1_1 w1 r).1 (L27_2_post v1 v1_1 w1 r).2
  | 0, _, _, _, h => nomatch h
  | fuel + 1, v5, w2, r, h => by
    unfold L27_2 at h
    refine oif_elim h (fun h1 g1 => ?_) (fun h1 g1 => ?_)
    · refine obind_elim g1 fun r1 h2 g2 => ?_
      let c179 : List CC := [.reg [] [] 0 [(3, none, .n (v1_1.length : Int)), (4, none, .b true)] [1, 2, 4, 5, 19]]
      refine oif_elim g2 (fun h3 g3 => ?_) (fun h3 g3 => ?_)
      · subst h3
        exact SemJ.again (σ1 := ⟨[(1, .p (.ref [.int .i64 v1, .sl (List.map e62 v1_1) false])), (2, .ptr 0 0 2), (4, .ptr 1 0 2), (5, .p (.int .i64 (IntKind.wrap .i64 (v5 + 1))))], [.cells [.p (.int .i64 0), .p (.nilsl)] 0, .cells [.p (.int .i64 w1), .msl 2 0 (List.length w2) (List.length (rowI e62 w2)) false] 0, .cells (rowI e62 w2) 2]⟩) (path hm (σ' := ⟨[(1, .p (.ref [.int .i64 v1, .sl (List.map e62 v1_1) false])), (2, .ptr 0 0 2), (4, .ptr 1 0 2), (5, .p (.int .i64 (IntKind.wrap .i64 (v5 + 1))))], [.cells [.p (.int .i64 0), .p (.nilsl)] 0, .cells [.p (.int .i64 w1), .msl 2 0 (List.length w2) (List.length (rowI e62 w2)) false] 0, .cells (rowI e62 w2) 2]⟩) (ks := [1, 2, 4, 5]) (cc := c179 ++ [.reg [] [] 0 [(2, none, .call (.bool true))] [1, 2, 4, 5, 25], .reg [] [] 0 [] [1, 2, 4, 5]])
        (ai (len_map e62 v1_1) (ai h1 (ai (F52_ok fuel (v1, v1_1) v5 _ h2) trivial))) (by kernel_rfl)) (L27_2_ok v1 v1_1 w1 fuel (IntKind.wrap .i64 (v5 + 1)) w2 _ g3)
      · subst h3
        refine obind_elim g3 fun x2 h4 g4 => ?_
        refine oif_elim g4 (fun h5 g5 => ?_) (fun _ h => nomatch h)
        exact SemJ.again (σ1 := ⟨[(1, .p (.ref [.int .i64 v1, .sl (List.map e62 v1_1) false])), (2, .ptr 0 0 2), (4, .ptr 1 0 2), (5, .p (.int .i64 (IntKind.wrap .i64 (v5 + 1))))], [.cells [.p (.int .i64 0), .p (.nilsl)] 0, .cells [.p (.int .i64 w1), .msl 2 0 (List.length (w2 ++ [(x2.1, x2.2)])) (List.length (rowI e62 (w2 ++ [(x2.1, x2.2)]))) false] 0, .cells (rowI e62 (w2 ++ [(x2.1, x2.2)])) 2]⟩) (path hm (σ' := ⟨[(1, .p (.ref [.int .i64 v1, .sl (List.map e62 v1_1) false])), (2, .ptr 0 0 2), (4, .ptr 1 0 2), (5, .p (.int .i64 (IntKind.wrap .i64 (v5 + 1))))], [.cells [.p (.int .i64 0), .p (.nilsl)] 0, .cells [.p (.int .i64 w1), .msl 2 0 (List.length (w2 ++ [(x2.1, x2.2)])) (List.length (rowI e62 (w2 ++ [(x2.1, x2.2)]))) false] 0, .cells (rowI e62 (w2 ++ [(x2.1, x2.2)])) 2]⟩) (ks := [1, 2, 4, 5]) (cc := c179 ++ [.reg [] [] 0 [(2, none, .call (.bool false))] [1, 2, 4, 5, 25], .reg [0, 1, 0, 4, 0, 28, 60, 124, 255, 511, 1023] [(2, 8), (1, 10)] 0 [(5, none, .iv (.p (.agg [.int .i64 x2.1, .int .i64 x2.2]))), (8, none, .ap (rowI e62 (w2 ++ [(x2.1, x2.2)])) (List.length (w2 ++ [(x2.1, x2.2)])) (List.length (rowI e62 (w2 ++ [(x2.1, x2.2)]))))] [1, 2, 4, 5], .reg [] [] 0 [] [1, 2, 4, 5]])
        (ai (len_map e62 v1_1) (ai h1 (ai (F52_ok fuel (v1, v1_1) v5 _ h2) (ai (sg_map (f := e62) h4) (ai (by decide : 0 < 1) (ai (od h5) (ai (app_c2 (by decide) (od h5)) (ai (app_len e62 [(x2.1, x2.2)] (rl (List.length w2))) (ai (rl (List.length (rowI e62 (w2 ++ [(x2.1, x2.2)])))) (ai (row_app e62 w2 [(x2.1, x2.2)]) (ai (rl (List.length (rowI e62 w2))) (ai (row_sz el62 (rl (List.length (rowI e62 w2))) (rl (List.length w2))) (ai (row_sc el62 [(x2.1, x2.2)]) (ai (row_es el62 [(x2.1, x2.2)]) trivial)))))))))))))) (by kernel_rfl)) (L27_2_ok v1 v1_1 w1 fuel (IntKind.wrap .i64 (v5 + 1)) (w2 ++ [(x2.1, x2.2)]) _ g5)
    · have hr := Option.some.inj g1
      subst hr
      exact SemC.cast (SemJ.out (e := (.exit 0)) (path hm (σ' := ⟨[(2, .ptr 0 0 2), (4, .ptr 1 0 2)], [.cells [.p (.int .i64 0), .p (.nilsl)] 0, .cells [.p (.int .i64 w1), .msl 2 0 (List.length w2) (List.length (rowI e62 w2)) false] 0, .cells (rowI e62 w2) 2]⟩) (ks := [2, 4]) (cc := [.reg [] [] 0 [(3, none, .n (v1_1.length : Int)), (4, none, .b false)] [1, 2, 4, 5, 19]])
        (ai (len_map e62 v1_1) (ai h1 trivial)) (by kernel_rfl)) (by simp)) (by kernel_rfl) (by kernel_rfl)
def L27_0  (v1 : Int) (v1_1 : (List (Int × Int))) (w1 : Int) : Nat → Int → Option ((List (Int × Int)) ⊕ Unit)
  | 0, _ => none
  | fuel + 1, v5 =>
    oif ((decide (v5 < (v1_1.length : Int))))
    (obind (F52 fuel (v1, v1_1) v5) fun r1 => oif (r1)
      (L27_0 v1 v1_1 w1 fuel (IntKind.wrap .i64 (v5 + 1)))
      (obind (sg v1_1 v5) fun x2 => oif (decide (1 * 16 ≤ 140737488355328)) (obind (L27_2 v1 v1_1 w1 fuel (IntKind.wrap .i64 (v5 + 1)) [(x2.1, x2.2)]) fun y3 => some (.inl y3)) none))
    (some (.inr (())))
noncomputable def L27_0_post (v1 : Int) (v1_1 : (List (Int × Int))) (w1 : Int)  : ((List (Int × Int)) ⊕ Unit) → Ex × St
  | .inl y => ((.exit 0), ⟨[(2, .ptr 0 0 2), (4, .ptr 1 0 2)], [.cells [.p (.int .i64 0), .p (.nilsl)] 0, .cells [.p (.int .i64 w1), .msl 2 0 (List.length y) (List.length (rowI e62 y)) false] 0, .cells (rowI e62 y) 2]⟩)
  | .inr (y) => ((.exit 0), ⟨[(2, .ptr 0 0 2), (4, .ptr 1 0 2)], [.cells [.p (.int .i64 0), .p (.nilsl)] 0, .cells [.p (.int .i64 w1), .p (.nilsl)] 0]⟩)
theorem L27_0_ok  (v1 : Int) (v1_1 : (List (Int × Int))) (w1 : Int)  : ∀ (fuel : Nat) (v5 : Int) (r : ((List (Int × Int)) ⊕ Unit)), L27_0 v1 v1_1 w1 fuel v5 = some r →
    SemJ prog ⟨37, 0, false⟩ (codeAt [1, 1, 1, 0, 1, 0, 0] (bodyOf f27)) ⟨[(1, .p (.ref [.int .i64 v1, .sl (List.map e62 v1_1) false])), (2, .ptr 0 0 2), (4, .ptr 1 0 2), (5, .p (.int .i64 v5))], [.cells [.p (.int .i64 0), .p (.nilsl)] 0, .cells [.p (.int .i64 w1), .p (.nilsl)] 0]⟩ (L27_0_post v1 v1_1 w1 r).1 (L27_0_post v1 v1_1 w1 r).2
  | 0, _, _, h => nomatch h
  | fuel + 1, v5, r, h => by
    unfold L27_0 at h
    refine oif_elim h (fun h1 g1 => ?_) (fun h1 g1 => ?_)
    · refine obind_elim g1 fun r1 h2 g2 => ?_
      let c180 : List CC := [.reg [] [] 0 [(3, none, .n (v1_1.length : Int)), (4, none, .b true)] [1, 2, 4, 5, 19]]
      refine oif_elim g2 (fun h3 g3 => ?_) (fun h3 g3 => ?_)
      · subst h3
        exact SemJ.again (σ1 := ⟨[(1, .p (.ref [.int .i64 v1, .sl (List.map e62 v1_1) false])), (2, .ptr 0 0 2), (4, .ptr 1 0 2), (5, .p (.int .i64 (IntKind.wrap .i64 (v5 + 1))))], [.cells [.p (.int .i64 0), .p (.nilsl)] 0, .cells [.p (.int .i64 w1), .p (.nilsl)] 0]⟩) (path hm (σ' := ⟨[(1, .p (.ref [.int .i64 v1, .sl (List.map e62 v1_1) false])), (2, .ptr 0 0 2), (4, .ptr 1 0 2), (5, .p (.int .i64 (IntKind.wrap .i64 (v5 + 1))))], [.cells [.p (.int .i64 0), .p (.nilsl)] 0, .cells [.p (.int .i64 w1), .p (.nilsl)] 0]⟩) (ks := [1, 2, 4, 5]) (cc := c180 ++ [.reg [] [] 0 [(2, none, .call (.bool true))] [1, 2, 4, 5, 25], .reg [] [] 0 [] [1, 2, 4, 5]])
        (ai (len_map e62 v1_1) (ai h1 (ai (F52_ok fuel (v1, v1_1) v5 _ h2) trivial))) (by kernel_rfl)) (L27_0_ok v1 v1_1 w1 fuel (IntKind.wrap .i64 (v5 + 1)) _ g3)
      · subst h3
        refine obind_elim g3 fun x2 h4 g4 => ?_
        refine oif_elim g4 (fun h5 g5 => ?_) (fun _ h => nomatch h)
        refine obind_elim g5 fun y3 h6 g6 => ?_
        have hr := Option.some.inj g6
        subst hr
        exact SemC.cast (SemJ.again (σ1 := ⟨[(1, .p (.ref [.int .i64 v1, .sl (List.map e62 v1_1) false])), (2, .ptr 0 0 2), (4, .ptr 1 0 2), (5, .p (.int .i64 (IntKind.wrap .i64 (v5 + 1))))], [.cells [.p (.int .i64 0), .p (.nilsl)] 0, .cells [.p (.int .i64 w1), .msl 2 0 (List.length [(x2.1, x2.2)]) (List.length (rowI e62 [(x2.1, x2.2)])) false] 0, .cells (rowI e62 [(x2.1, x2.2)]) 2]⟩) (path hm (σ' := ⟨[(1, .p (.ref [.int .i64 v1, .sl (List.map e62 v1_1) false])), (2, .ptr 0 0 2), (4, .ptr 1 0 2), (5, .p (.int .i64 (IntKind.wrap .i64 (v5 + 1))))], [.cells [.p (.int .i64 0), .p (.nilsl)] 0, .cells [.p (.int .i64 w1), .msl 2 0 (List.length [(x2.1, x2.2)]) (List.length (rowI e62 [(x2.1, x2.2)])) false] 0, .cells (rowI e62 [(x2.1, x2.2)]) 2]⟩) (ks := [1, 2, 4, 5]) (cc := c180 ++ [.reg [] [] 0 [(2, none, .call (.bool false))] [1, 2, 4, 5, 25], .reg [0, 1, 0, 4, 0, 28, 60, 124, 255, 511, 1023] [(2, 8), (1, 10)] 1 [(5, none, .iv (.p (.agg [.int .i64 x2.1, .int .i64 x2.2]))), (8, some 2, .ap (rowI e62 [(x2.1, x2.2)]) (List.length [(x2.1, x2.2)]) (List.length (rowI e62 [(x2.1, x2.2)])))] [1, 2, 4, 5], .reg [] [] 0 [] [1, 2, 4, 5]])
        (ai (len_map e62 v1_1) (ai h1 (ai (F52_ok fuel (v1, v1_1) v5 _ h2) (ai (sg_map (f := e62) h4) (ai (by decide : 0 < 1) (ai (od h5) (ai (app_c0 (by decide) (od h5)) (ai (rl (List.length [(x2.1, x2.2)])) (ai (rl (List.length (rowI e62 [(x2.1, x2.2)]))) (ai (row_src e62 [(x2.1, x2.2)]) (ai (row_sc el62 [(x2.1, x2.2)]) (ai (row_es el62 [(x2.1, x2.2)]) trivial)))))))))))) (by kernel_rfl)) (L27_2_ok v1 v1_1 w1 fuel (IntKind.wrap .i64 (v5 + 1)) [(x2.1, x2.2)] _ h6)) (by kernel_rfl) (by kernel_rfl)
    · have hr := Option.some.inj g1
      subst hr
      exact SemC.cast (SemJ.out (e := (.exit 0)) (path hm (σ' := ⟨[(2, .ptr 0 0 2), (4, .ptr 1 0 2)], [.cells [.p (.int .i64 0), .p (.nilsl)] 0, .cells [.p (.int .i64 w1), .p (.nilsl)] 0]⟩) (ks := [2, 4]) (cc := [.reg [] [] 0 [(3, none, .n (v1_1.length : Int)), (4, none, .b false)] [1, 2, 4, 5, 19]])
        (ai (len_map e62 v1_1) (ai h1 trivial)) (by kernel_rfl)) (by simp)) (by kernel_rfl) (by kernel_rfl)
def F27  (fuel : Nat) (p0 : (Int × (List (Int × Int)))) : Option ((Int × (List (Int × Int))) × Int) :=
  obind (F12 fuel (p0.1, p0.2)) fun r1 => oif ((r1 != 0))
  (some ((0, []), r1))
  ((obind (L27_0 p0.1 p0.2 p0.1 fuel 0) fun y2 => match y2 with
    | .inl y2 => some ((p0.1, y2), 0)
    | .inr (y2) => some ((p0.1, []), 0)))
theorem F27_ok  (fuel : Nat) (p0 : (Int × (List (Int × Int))))  (r : ((Int × (List (Int × Int))) × Int)) (h : F27 fuel p0 = some r) : CallP prog 27 [.agg [.int .i64 p0.1, .sl (List.map e62 p0.2) false]] (.tup [.agg [.int .i64 r.1.1, .sl (List.map e62 r.1.2) false], .int .i64 r.2]) := by
  unfold F27 at h
  refine obind_elim h fun r1 h1 g1 => ?_
  let c181 : List CC := [.reg [] [] 1 [(0, none, .imm), (1, some 0, .a)] [1, 2]]
  refine oif_elim g1 (fun h2 g2 => ?_) (fun h2 g2 => ?_)
  · have hr := Option.some.inj g2
    subst hr
    exact callP_of is27 rfl (path hm (ks := [2, 3]) (σ' := ⟨[(2, .ptr 0 0 2), (3, .p (.int .i64 r1))], [.cells [.p (.int .i64 0), .p (.nilsl)] 0]⟩) (cc := c181 ++ [.reg [] [] 0 [(1, none, .call (.int .i64 r1)), (2, none, .b true)] [1, 2, 8], .reg [] [] 0 [(2, none, .call (.int .i64 r1))] [2, 3]])
      (ai (F12_ok fuel (p0.1, p0.2) _ h1) (ai h2 (ai (F12_ok fuel (p0.1, p0.2) _ h1) trivial))) (by kernel_rfl)) (e := .ret) rfl (vs := [.agg [.p (.int .i64 0), .p (.nilsl)], .p (.int .i64 r1)]) (ai (rfl : (2:Nat) = 2) (ai (by decide : (2:Nat) ≤ 2) trivial)) (by kernel_rfl) (.tup _ _ (.cons _ _ _ _ (.agg _ _ (.cons _ _ _ _ (.p _ _ (.refl _)) (.cons _ _ _ _ (.p _ _ (.nil _)) .nil))) (.cons _ _ _ _ (.p _ _ (.refl _)) .nil)))
  · let c182 : List CC := c181 ++ [.reg [] [] 0 [(1, none, .call (.int .i64 r1)), (2, none, .b false)] [1, 2, 8], .reg [] [] 1 [(3, some 1, .a)] [1, 2, 4], .reg [] [] 0 [] [1, 2, 4, 5]]
    refine obind_elim g2 fun y h3 g3 => ?_
    match y, h3, g3 with
    | .inl y2, h3, g3 =>
      have hr := Option.some.inj g3
      subst hr
      exact callP_of is27 rfl (path hm (ks := [2, 3]) (σ' := ⟨[(2, .ptr 0 0 2), (3, .p (.int .i64 0))], [.cells [.p (.int .i64 p0.1), .msl 2 0 (List.length y2) (List.length (rowI e62 y2)) false] 0, .cells [.p (.int .i64 p0.1), .msl 2 0 (List.length y2) (List.length (rowI e62 y2)) false] 0, .cells (rowI e62 y2) 2]⟩) (cc := c182 ++ [.leaf (.exit 0) ⟨[(2, .ptr 0 0 2), (4, .ptr 1 0 2)], [.cells [.p (.int .i64 0), .p (.nilsl)] 0, .cells [.p (.int .i64 p0.1), .msl 2 0 (List.length y2) (List.length (rowI e62 y2)) false] 0, .cells (rowI e62 y2) 2]⟩, .reg [] [] 0 [] [2, 3]])
      (ai (F12_ok fuel (p0.1, p0.2) _ h1) (ai h2 (ai (SemJ.loop (L27_0_ok p0.1 p0.2 p0.1 fuel 0 _ h3)) trivial))) (by kernel_rfl)) (e := .ret) rfl (vs := [.agg [.p (.int .i64 p0.1), .msl 2 0 (List.length y2) (List.length (rowI e62 y2)) false], .p (.int .i64 0)]) (ai (rfl : (2:Nat) = 2) (ai (by decide : (2:Nat) ≤ 2) trivial)) (by kernel_rfl) (.tup _ _ (.cons _ _ _ _ (.agg _ _ (.cons _ _ _ _ (.p _ _ (.refl _)) (.cons _ _ _ _ (snap_row (g := 2) (L := y2) el62 (by kernel_rfl) (rl (List.length (rowI e62 y2))) (rl (List.length y2))) .nil))) (.cons _ _ _ _ (.p _ _ (.refl _)) .nil)))
    | .inr (y2), h3, g3 =>
      have hr := Option.some.inj g3
      subst hr
      exact callP_of is27 rfl (path hm (ks := [2, 3]) (σ' := ⟨[(2, .ptr 0 0 2), (3, .p (.int .i64 0))], [.cells [.p (.int .i64 p0.1), .p (.nilsl)] 0, .cells [.p (.int .i64 p0.1), .p (.nilsl)] 0]⟩) (cc := c182 ++ [.leaf (.exit 0) ⟨[(2, .ptr 0 0 2), (4, .ptr 1 0 2)], [.cells [.p (.int .i64 0), .p (.nilsl)] 0, .cells [.p (.int .i64 p0.1), .p (.nilsl)] 0]⟩, .reg [] [] 0 [] [2, 3]])
      (ai (F12_ok fuel (p0.1, p0.2) _ h1) (ai h2 (ai (SemJ.loop (L27_0_ok p0.1 p0.2 p0.1 fuel 0 _ h3)) trivial))) (by kernel_rfl)) (e := .ret) rfl (vs := [.agg [.p (.int .i64 p0.1), .p (.nilsl)], .p (.int .i64 0)]) (ai (rfl : (2:Nat) = 2) (ai (by decide : (2:Nat) ≤ 2) trivial)) (by kernel_rfl) (.tup _ _ (.cons _ _ _ _ (.agg _ _ (.cons _ _ _ _ (.p _ _ (.refl _)) (.cons _ _ _ _ (.p _ _ (.nil _)) .nil))) (.cons _ _ _ _ (.p _ _ (.refl _)) .nil)))
def L29_1  (v1 : Int) (v1_1 : (List (Int × Int))) : Nat → Option Unit
  | 0 => none
  | fuel + 1 =>
    some (())
noncomputable def L29_1_post (v1 : Int) (v1_1 : (List (Int × Int)))  : Unit → Ex × St
  | y => ((.exit 2), ⟨[(1, .p (.ref [.int .i64 v1, .sl (List.map e62 v1_1) false])), (4, .p (.nilsl)), (5, .p (.int .i64 0)), (6, .p (.int .i64 1))], []⟩)
theorem L29_1_ok  (v1 : Int) (v1_1 : (List (Int × Int)))  : ∀ (fuel : Nat)  (r : Unit), L29_1 v1 v1_1 fuel  = some r →
    SemJ prog ⟨48, 0, false⟩ (codeAt [1, 1, 1, 0, 1, 0, 0, 1, 0, 0, 1, 0, 1, 0, 0] (bodyOf f29)) ⟨[(1, .p (.ref [.int .i64 v1, .sl (List.map e62 v1_1) false])), (4, .p (.nilsl)), (5, .p (.int .i64 0)), (6, .p (.int .i64 1)), (7, .p (.int .i64 0))], []⟩ (L29_1_post v1 v1_1 r).1 (L29_1_post v1 v1_1 r).2
  | 0, _, h => nomatch h
  | fuel + 1, r, h => by
    unfold L29_1 at h
    have hr := Option.some.inj h
    subst hr
    exact SemC.cast (SemJ.out (e := (.exit 2)) (path hm (σ' := ⟨[(1, .p (.ref [.int .i64 v1, .sl (List.map e62 v1_1) false])), (4, .p (.nilsl)), (5, .p (.int .i64 0)), (6, .p (.int .i64 1))], []⟩) (ks := [1, 4, 5, 6]) (cc := [.reg [] [] 0 [] [1, 4, 5, 6, 7, 22]])
        trivial (by kernel_rfl)) (by simp)) (by kernel_rfl) (by kernel_rfl)
def F56  (fuel : Nat) (p0 : (Int × Int)) (p1 : (Int × Int)) : Option Bool :=
  oif ((p0.1 == p1.1))
  (some true)
  (oif ((p0.1 == p1.2))
    (some true)
    (oif ((p0.2 == p1.1))
      (some true)
      (oif ((p0.2 == p1.2))
        (some true)
        (some false))))
theorem F56_ok  (fuel : Nat) (p0 : (Int × Int)) (p1 : (Int × Int))  (r : Bool) (h : F56 fuel p0 p1 = some r) : CallP prog 56 [.agg [.int .i64 p0.1, .int .i64 p0.2], .agg [.int .i64 p1.1, .int .i64 p1.2]] (.bool r) := by
  unfold F56 at h
  let c183 : List CC := [.reg [] [] 0 [(0, none, .imm), (1, none, .imm)] [2, 3]]
  refine oif_elim h (fun h1 g1 => ?_) (fun h1 g1 => ?_)
  · have hr := Option.some.inj g1
    subst hr
    exact callP_of is56 rfl (path hm (ks := [4]) (σ' := ⟨[(4, .p (.bool true))], []⟩) (cc := c183 ++ [.reg [] [] 0 [(4, none, .b true)] [4]])
      (ai (by decide : (0:Int) ≤ 0) (ai (by decide : (0:Int) < ((2:Nat):Int)) (ai (by decide : (0:Int) ≤ 0) (ai (by decide : (0:Int) < ((2:Nat):Int)) (ai h1 trivial))))) (by kernel_rfl)) (e := .ret) rfl (vs := [.p (.bool true)]) trivial (by kernel_rfl) (.p _ _ (.refl _))
  · refine oif_elim g1 (fun h2 g2 => ?_) (fun h2 g2 => ?_)
    · have hr := Option.some.inj g2
      subst hr
      exact callP_of is56 rfl (path hm (ks := [4]) (σ' := ⟨[(4, .p (.bool true))], []⟩) (cc := c183 ++ [.reg [] [] 0 [(4, none, .b false), (10, none, .b true)] [4]])
      (ai (by decide : (0:Int) ≤ 0) (ai (by decide : (0:Int) < ((2:Nat):Int)) (ai (by decide : (0:Int) ≤ 0) (ai (by decide : (0:Int) < ((2:Nat):Int)) (ai h1 (ai (by decide : (0:Int) ≤ 0) (ai (by decide : (0:Int) < ((2:Nat):Int)) (ai (by decide : (0:Int) ≤ 1) (ai (by decide : (1:Int) < ((2:Nat):Int)) (ai h2 trivial)))))))))) (by kernel_rfl)) (e := .ret) rfl (vs := [.p (.bool true)]) trivial (by kernel_rfl) (.p _ _ (.refl _))
    · refine oif_elim g2 (fun h3 g3 => ?_) (fun h3 g3 => ?_)
      · have hr := Option.some.inj g3
        subst hr
        exact callP_of is56 rfl (path hm (ks := [4]) (σ' := ⟨[(4, .p (.bool true))], []⟩) (cc := c183 ++ [.reg [] [] 0 [(4, none, .b false), (10, none, .b false), (17, none, .b true)] [4]])
      (ai (by decide : (0:Int) ≤ 0) (ai (by decide : (0:Int) < ((2:Nat):Int)) (ai (by decide : (0:Int) ≤ 0) (ai (by decide : (0:Int) < ((2:Nat):Int)) (ai h1 (ai (by decide : (0:Int) ≤ 0) (ai (by decide : (0:Int) < ((2:Nat):Int)) (ai (by decide : (0:Int) ≤ 1) (ai (by decide : (1:Int) < ((2:Nat):Int)) (ai h2 (ai (by decide : (0:Int) ≤ 1) (ai (by decide : (1:Int) < ((2:Nat):Int)) (ai (by decide : (0:Int) ≤ 0) (ai (by decide : (0:Int) < ((2:Nat):Int)) (ai h3 trivial))))))))))))))) (by kernel_rfl)) (e := .ret) rfl (vs := [.p (.bool true)]) trivial (by kernel_rfl) (.p _ _ (.refl _))
      · refine oif_elim g3 (fun h4 g4 => ?_) (fun h4 g4 => ?_)
        · have hr := Option.some.inj g4
          subst hr
          exact callP_of is56 rfl (path hm (ks := [4]) (σ' := ⟨[(4, .p (.bool true))], []⟩) (cc := c183 ++ [.reg [] [] 0 [(4, none, .b false), (10, none, .b false), (17, none, .b false), (24, none, .b true)] [4]])
      (ai (by decide : (0:Int) ≤ 0) (ai (by decide : (0:Int) < ((2:Nat):Int)) (ai (by decide : (0:Int) ≤ 0) (ai (by decide : (0:Int) < ((2:Nat):Int)) (ai h1 (ai (by decide : (0:Int) ≤ 0) (ai (by decide : (0:Int) < ((2:Nat):Int)) (ai (by decide : (0:Int) ≤ 1) (ai (by decide : (1:Int) < ((2:Nat):Int)) (ai h2 (ai (by decide : (0:Int) ≤ 1) (ai (by decide : (1:Int) < ((2:Nat):Int)) (ai (by decide : (0:Int) ≤ 0) (ai (by decide : (0:Int) < ((2:Nat):Int)) (ai h3 (ai (by decide : (0:Int) ≤ 1) (ai (by decide : (1:Int) < ((2:Nat):Int)) (ai (by decide : (0:Int) ≤ 1) (ai (by decide : (1:Int) < ((2:Nat):Int)) (ai h4 trivial)))))))))))))))))))) (by kernel_rfl)) (e := .ret) rfl (vs := [.p (.bool true)]) trivial (by kernel_rfl) (.p _ _ (.refl _))
        · have hr := Option.some.inj g4
          subst hr
          exact callP_of is56 rfl (path hm (ks := [4]) (σ' := ⟨[(4, .p (.bool false))], []⟩) (cc := c183 ++ [.reg [] [] 0 [(4, none, .b false), (10, none, .b false), (17, none, .b false), (24, none, .b false)] [4]])
      (ai (by decide : (0:Int) ≤ 0) (ai (by decide : (0:Int) < ((2:Nat):Int)) (ai (by decide : (0:Int) ≤ 0) (ai (by decide : (0:Int) < ((2:Nat):Int)) (ai h1 (ai (by decide : (0:Int) ≤ 0) (ai (by decide : (0:Int) < ((2:Nat):Int)) (ai (by decide : (0:Int) ≤ 1) (ai (by decide : (1:Int) < ((2:Nat):Int)) (ai h2 (ai (by decide : (0:Int) ≤ 1) (ai (by decide : (1:Int) < ((2:Nat):Int)) (ai (by decide : (0:Int) ≤ 0) (ai (by decide : (0:Int) < ((2:Nat):Int)) (ai h3 (ai (by decide : (0:Int) ≤ 1) (ai (by decide : (1:Int) < ((2:Nat):Int)) (ai (by decide : (0:Int) ≤ 1) (ai (by decide : (1:Int) < ((2:Nat):Int)) (ai h4 trivial)))))))))))))))))))) (by kernel_rfl)) (e := .ret) rfl (vs := [.p (.bool false)]) trivial (by kernel_rfl) (.p _ _ (.refl _))
def L29_4  (v1 : Int) (v1_1 : (List (Int × Int))) (v5 : Int) (w0 : (List Int)) : Nat → Int → Int → Option Int
  | 0, _, _ => none
  | fuel + 1, v6, v7 =>
    oif ((decide (v7 < v5)))
    (obind (sg v1_1 v7) fun x1 => obind (sg v1_1 v5) fun x2 => obind (F56 fuel (x1.1, x1.2) (x2.1, x2.2)) fun r3 => oif (r3)
      (oif (decide ((0:Int) ≤ v7)) (oif (decide ((v7 : Int) < (((List.length w0) : Nat) : Int))) (obind (sg w0 v7) fun x4 => L29_4 v1 v1_1 v5 w0 fuel (maxL v6 [(IntKind.wrap .i64 (x4 + 1))]) (IntKind.wrap .i64 (v7 + 1))) none) none)
      (L29_4 v1 v1_1 v5 w0 fuel v6 (IntKind.wrap .i64 (v7 + 1))))
    (some (v6))
noncomputable def L29_4_post (v1 : Int) (v1_1 : (List (Int × Int))) (v5 : Int) (w0 : (List Int))  : Int → Ex × St
  | y => ((.exit 2), ⟨[(1, .p (.ref [.int .i64 v1, .sl (List.map e62 v1_1) false])), (4, .msl 0 0 (List.length w0) (List.length (rowI e3 w0)) false), (5, .p (.int .i64 v5)), (6, .p (.int .i64 y))], [.cells (rowI e3 w0) 1]⟩)
theorem L29_4_ok  (v1 : Int) (v1_1 : (List (Int × Int))) (v5 : Int) (w0 : (List Int))  : ∀ (fuel : Nat) (v6 : Int) (v7 : Int) (r : Int), L29_4 v1 v1_1 v5 w0 fuel v6 v7 = some r →
    SemJ prog ⟨48, 0, false⟩ (codeAt [1, 1, 1, 0, 1, 0, 0, 1, 0, 0, 1, 0, 1, 0, 0] (bodyOf f29)) ⟨[(1, .p (.ref [.int .i64 v1, .sl (List.map e62 v1_1) false])), (4, .msl 0 0 (List.length w0) (List.length (rowI e3 w0)) false), (5, .p (.int .i64 v5)), (6, .p (.int .i64 v6)), (7, .p (.int .i64 v7))], [.cells (rowI e3 w0) 1]⟩ (L29_4_post v1 v1_1 v5 w0 r).1 (L29_4_post v1 v1_1 v5 w0 r).2
  | 0, _, _, _, h => nomatch h
  | fuel + 1, v6, v7, r, h => by
    unfold L29_4 at h
    refine oif_elim h (fun h1 g1 => ?_) (fun h1 g1 => ?_)
    · refine obind_elim g1 fun x1 h2 g2 => ?_
      refine obind_elim g2 fun x2 h3 g3 => ?_
      refine obind_elim g3 fun r3 h4 g4 => ?_
      refine oif_elim g4 (fun h5 g5 => ?_) (fun h5 g5 => ?_)
      · subst h5
        refine oif_elim g5 (fun h6 g6 => ?_) (fun _ h => nomatch h)
        refine oif_elim g6 (fun h7 g7 => ?_) (fun _ h => nomatch h)
        refine obind_elim g7 fun x4 h8 g8 => ?_
        exact SemJ.again (σ1 := ⟨[(1, .p (.ref [.int .i64 v1, .sl (List.map e62 v1_1) false])), (4, .msl 0 0 (List.length w0) (List.length (rowI e3 w0)) false), (5, .p (.int .i64 v5)), (6, .p (.int .i64 (maxL v6 [(IntKind.wrap .i64 (x4 + 1))]))), (7, .p (.int .i64 (IntKind.wrap .i64 (v7 + 1))))], [.cells (rowI e3 w0) 1]⟩) (path hm (σ' := ⟨[(1, .p (.ref [.int .i64 v1, .sl (List.map e62 v1_1) false])), (4, .msl 0 0 (List.length w0) (List.length (rowI e3 w0)) false), (5, .p (.int .i64 v5)), (6, .p (.int .i64 (maxL v6 [(IntKind.wrap .i64 (x4 + 1))]))), (7, .p (.int .i64 (IntKind.wrap .i64 (v7 + 1))))], [.cells (rowI e3 w0) 1]⟩) (ks := [1, 4, 5, 6, 7]) (cc := [.reg [] [] 0 [(2, none, .b true)] [1, 4, 5, 6, 7, 22], .reg [0, 1, 0, 7, 15, 0, 32, 0, 224, 480, 1023] [] 0 [(3, none, .iv (.p (.agg [.int .i64 x1.1, .int .i64 x1.2]))), (8, none, .iv (.p (.agg [.int .i64 x2.1, .int .i64 x2.2]))), (10, none, .call (.bool true))] [1, 4, 5, 6, 7, 35], .reg [] [] 0 [(4, none, .iv (.p (.int .i64 x4)))] [1, 4, 5, 6, 7], .reg [] [] 0 [] [1, 4, 5, 6, 7]])
        (ai h1 (ai (sg_map (f := e62) h2) (ai (sg_map (f := e62) h3) (ai (F56_ok fuel (x1.1, x1.2) (x2.1, x2.2) _ h4) (ai (od h6) (ai (od h7) (ai (rl (List.length (rowI e3 w0))) (ai (row_get el3 h8 rfl) trivial)))))))) (by kernel_rfl)) (L29_4_ok v1 v1_1 v5 w0 fuel (maxL v6 [(IntKind.wrap .i64 (x4 + 1))]) (IntKind.wrap .i64 (v7 + 1)) _ g8)
      · subst h5
        exact SemJ.again (σ1 := ⟨[(1, .p (.ref [.int .i64 v1, .sl (List.map e62 v1_1) false])), (4, .msl 0 0 (List.length w0) (List.length (rowI e3 w0)) false), (5, .p (.int .i64 v5)), (6, .p (.int .i64 v6)), (7, .p (.int .i64 (IntKind.wrap .i64 (v7 + 1))))], [.cells (rowI e3 w0) 1]⟩) (path hm (σ' := ⟨[(1, .p (.ref [.int .i64 v1, .sl (List.map e62 v1_1) false])), (4, .msl 0 0 (List.length w0) (List.length (rowI e3 w0)) false), (5, .p (.int .i64 v5)), (6, .p (.int .i64 v6)), (7, .p (.int .i64 (IntKind.wrap .i64 (v7 + 1))))], [.cells (rowI e3 w0) 1]⟩) (ks := [1, 4, 5, 6, 7]) (cc := [.reg [] [] 0 [(2, none, .b true)] [1, 4, 5, 6, 7, 22], .reg [0, 1, 0, 7, 15, 0, 32, 0, 224, 480, 1023] [] 0 [(3, none, .iv (.p (.agg [.int .i64 x1.1, .int .i64 x1.2]))), (8, none, .iv (.p (.agg [.int .i64 x2.1, .int .i64 x2.2]))), (10, none, .call (.bool false))] [1, 4, 5, 6, 7, 35], .reg [] [] 0 [] [1, 4, 5, 6, 7]])
        (ai h1 (ai (sg_map (f := e62) h2) (ai (sg_map (f := e62) h3) (ai (F56_ok fuel (x1.1, x1.2) (x2.1, x2.2) _ h4) trivial)))) (by kernel_rfl)) (L29_4_ok v1 v1_1 v5 w0 fuel v6 (IntKind.wrap .i64 (v7 + 1)) _ g5)
    · have hr := Option.some.inj g1
      subst hr
      exact SemC.cast (SemJ.out (e := (.exit 2)) (path hm (σ' := ⟨[(1, .p (.ref [.int .i64 v1, .sl (List.map e62 v1_1) false])), (4, .msl 0 0 (List.length w0) (List.length (rowI e3 w0)) false), (5, .p (.int .i64 v5)), (6, .p (.int .i64 v6))], [.cells (rowI e3 w0) 1]⟩) (ks := [1, 4, 5, 6]) (cc := [.reg [] [] 0 [(2, none, .b false)] [1, 4, 5, 6, 7, 22]])
        (ai h1 trivial) (by kernel_rfl)) (by simp)) (by kernel_rfl) (by kernel_rfl)
def L29_2  (v1 : Int) (v1_1 : (List (Int × Int))) : Nat → Int → (List Int) → Option (List Int)
  | 0, _, _ => none
  | fuel + 1, v5, w0 =>
    oif ((decide (v5 < (v1_1.length : Int))))
    (obind (L29_4 v1 v1_1 v5 w0 fuel 1 0) fun y1 => oif (decide (((List.length w0) + 1) * 8 ≤ 140737488355328)) (L29_2 v1 v1_1 fuel (IntKind.wrap .i64 (v5 + 1)) (w0 ++ [y1])) none)
    (some (w0))
noncomputable def L29_2_post (v1 : Int) (v1_1 : (List (Int × Int)))  : (List Int) → Ex × St
  | y => ((.exit 0), ⟨[(4, .msl 0 0 (List.length y) (List.length (rowI e3 y)) false)], [.cells (rowI e3 y) 1]⟩)
theorem L29_2_ok  (v1 : Int) (v1_1 : (List (Int × Int)))  : ∀ (fuel : Nat) (v5 : Int) (w0 : (List Int)) (r : (List Int)), L29_2 v1 v1_1 fuel v5 w0 = some r →
    SemJ prog ⟨48, 0, false⟩ (codeAt [1, 1, 1, 0, 1, 0, 0] (bodyOf f29)) ⟨[(1, .p (.ref [.int .i64 v1, .sl (List.map e62 v1_1) false])), (4, .msl 0 0 (List.length w0) (List.length (rowI e3 w0)) false), (5, .p (.int .i64 v5))], [.cells (rowI e3 w0) 1]⟩ (L29_2_post v1 v1_1 r).1 (L29_2_post v1 v1_1 r).2
  | 0, _, _, _, h => nomatch h
  | fuel + 1, v5, w0, r, h => by
    unfold L29_2 at h
    refine oif_elim h (fun h1 g1 => ?_) (fun h1 g1 => ?_)
    · refine obind_elim g1 fun y1 h2 g2 => ?_
      refine oif_elim g2 (fun h3 g3 => ?_) (fun _ h => nomatch h)
      exact SemJ.again (σ1 := ⟨[(1, .p (.ref [.int .i64 v1, .sl (List.map e62 v1_1) false])), (4, .msl 0 0 (List.length (w0 ++ [y1])) (List.length (rowI e3 (w0 ++ [y1]))) false), (5, .p (.int .i64 (IntKind.wrap .i64 (v5 + 1))))], [.cells (rowI e3 (w0 ++ [y1])) 1]⟩) (path hm (σ' := ⟨[(1, .p (.ref [.int .i64 v1, .sl (List.map e62 v1_1) false])), (4, .msl 0 0 (List.length (w0 ++ [y1])) (List.length (rowI e3 (w0 ++ [y1]))) false), (5, .p (.int .i64 (IntKind.wrap .i64 (v5 + 1))))], [.cells (rowI e3 (w0 ++ [y1])) 1]⟩) (ks := [1, 4, 5]) (cc := [.reg [] [] 0 [(3, none, .n (v1_1.length : Int)), (4, none, .b true)] [1, 4, 5, 17], .reg [] [] 0 [] [1, 4, 5, 6], .reg [] [] 0 [] [1, 4, 5, 6, 7], .leaf (.exit 2) ⟨[(1, .p (.ref [.int .i64 v1, .sl (List.map e62 v1_1) false])), (4, .msl 0 0 (List.length w0) (List.length (rowI e3 w0)) false), (5, .p (.int .i64 v5)), (6, .p (.int .i64 y1))], [.cells (rowI e3 w0) 1]⟩, .reg [] [] 0 [(3, none, .ap (rowI e3 (w0 ++ [y1])) (List.length (w0 ++ [y1])) (List.length (rowI e3 (w0 ++ [y1]))))] [1, 4, 5], .reg [] [] 0 [] [1, 4, 5]])
        (ai (len_map e62 v1_1) (ai h1 (ai (SemJ.loop (L29_4_ok v1 v1_1 v5 w0 fuel 1 0 _ h2)) (ai (by decide : 0 < 1) (ai (od h3) (ai (app_c2 (by decide) (od h3)) (ai (app_len e3 [y1] (rl (List.length w0))) (ai (rl (List.length (rowI e3 (w0 ++ [y1])))) (ai (row_app e3 w0 [y1]) (ai (rl (List.length (rowI e3 w0))) (ai (row_sz el3 (rl (List.length (rowI e3 w0))) (rl (List.length w0))) (ai (row_sc el3 [y1]) (ai (row_es el3 [y1]) trivial))))))))))))) (by kernel_rfl)) (L29_2_ok v1 v1_1 fuel (IntKind.wrap .i64 (v5 + 1)) (w0 ++ [y1]) _ g3)
    · have hr := Option.some.inj g1
      subst hr
      exact SemC.cast (SemJ.out (e := (.exit 0)) (path hm (σ' := ⟨[(4, .msl 0 0 (List.length w0) (List.length (rowI e3 w0)) false)], [.cells (rowI e3 w0) 1]⟩) (ks := [4]) (cc := [.reg [] [] 0 [(3, none, .n (v1_1.length : Int)), (4, none, .b false)] [1, 4, 5, 17]])
        (ai (len_map e62 v1_1) (ai h1 trivial)) (by kernel_rfl)) (by simp)) (by kernel_rfl) (by kernel_rfl)
def L29_0  (v1 : Int) (v1_1 : (List (Int × Int))) : Nat → Option (List Int)
  | 0 => none
  | fuel + 1 =>
    oif ((decide (0 < (v1_1.length : Int))))
    (obind (L29_1 v1 v1_1 fuel ) fun y1 => oif (decide (1 * 8 ≤ 140737488355328)) (obind (L29_2 v1 v1_1 fuel 1 [1]) fun y2 => some (y2)) none)
    (some (([] : List Int)))
noncomputable def L29_0_post (v1 : Int) (v1_1 : (List (Int × Int)))  : (List Int) → Ex × St
  | y => ((.exit 0), ⟨[(4, .p (.sl (List.map e3 y) false))], []⟩)
theorem L29_0_ok  (v1 : Int) (v1_1 : (List (Int × Int)))  : ∀ (fuel : Nat)  (r : (List Int)), L29_0 v1 v1_1 fuel  = some r →
    SemJ prog ⟨48, 0, false⟩ (codeAt [1, 1, 1, 0, 1, 0, 0] (bodyOf f29)) ⟨[(1, .p (.ref [.int .i64 v1, .sl (List.map e62 v1_1) false])), (4, .p (.nilsl)), (5, .p (.int .i64 0))], []⟩ (L29_0_post v1 v1_1 r).1 (L29_0_post v1 v1_1 r).2
  | 0, _, h => nomatch h
  | fuel + 1, r, h => by
    unfold L29_0 at h
    refine oif_elim h (fun h1 g1 => ?_) (fun h1 g1 => ?_)
    · refine obind_elim g1 fun y1 h2 g2 => ?_
      refine oif_elim g2 (fun h3 g3 => ?_) (fun _ h => nomatch h)
      refine obind_elim g3 fun y2 h4 g4 => ?_
      have hr := Option.some.inj g4
      subst hr
      exact SemC.cast (SemJ.again (σ1 := ⟨[(1, .p (.ref [.int .i64 v1, .sl (List.map e62 v1_1) false])), (4, .msl 0 0 (List.length [1]) (List.length (rowI e3 [1])) false), (5, .p (.int .i64 1))], [.cells (rowI e3 [1]) 1]⟩) (path hm (σ' := ⟨[(1, .p (.ref [.int .i64 v1, .sl (List.map e62 v1_1) false])), (4, .msl 0 0 (List.length [1]) (List.length (rowI e3 [1])) false), (5, .p (.int .i64 1))], [.cells (rowI e3 [1]) 1]⟩) (ks := [1, 4, 5]) (cc := [.reg [] [] 0 [(3, none, .n (v1_1.length : Int)), (4, none, .b true)] [1, 4, 5, 17], .reg [] [] 0 [] [1, 4, 5, 6], .reg [] [] 0 [] [1, 4, 5, 6, 7], .leaf (.exit 2) ⟨[(1, .p (.ref [.int .i64 v1, .sl (List.map e62 v1_1) false])), (4, .p (.nilsl)), (5, .p (.int .i64 0)), (6, .p (.int .i64 1))], []⟩, .reg [] [] 1 [(3, some 0, .ap (rowI e3 [1]) (List.length [1]) (List.length (rowI e3 [1])))] [1, 4, 5], .reg [] [] 0 [] [1, 4, 5]])
        (ai (len_map e62 v1_1) (ai h1 (ai (SemJ.loop (L29_1_ok v1 v1_1 fuel  _ h2)) (ai (by decide : 0 < 1) (ai (od h3) (ai (app_c0 (by decide) (od h3)) (ai (rl (List.length [1])) (ai (rl (List.length (rowI e3 [1]))) (ai (row_src e3 [1]) (ai (row_sc el3 [1]) (ai (row_es el3 [1]) trivial))))))))))) (by kernel_rfl)) (SemC.post (L29_2_ok v1 v1_1 fuel 1 [1] _ h4) (Weak.trans (wcast (Weak.freeze (E := [(4, .msl 0 0 (List.length y2) (List.length (rowI e3 y2)) false)]) (E' := [(4, .p (.sl (List.map e3 y2) false))]) (H := [.cells (rowI e3 y2) 1]) [0] (by kernel_rfl) (.snap _ _ _ _ _ (snap_row (g := 1) (L := y2) el3 (by kernel_rfl) (rl (List.length (rowI e3 y2))) (rl (List.length y2))) .nil)) (by kernel_rfl : (⟨[(4, .p (.sl (List.map e3 y2) false))], puts (dieW [0]) [.cells (rowI e3 y2) 1]⟩ : St) = ⟨[(4, .p (.sl (List.map e3 y2) false))], [.dead]⟩)) (Weak.sel (E := [(4, .p (.sl (List.map e3 y2) false))]) (E' := [(4, .p (.sl (List.map e3 y2) false))]) (H := [.dead]) (H' := []) [] trivial (by kernel_rfl) (by kernel_rfl))))) (by kernel_rfl) (by kernel_rfl)
    · have hr := Option.some.inj g1
      subst hr
      exact SemC.cast (SemJ.out (e := (.exit 0)) (SemC.post (path hm (σ' := ⟨[(4, .p (.nilsl))], []⟩) (ks := [4]) (cc := [.reg [] [] 0 [(3, none, .n (v1_1.length : Int)), (4, none, .b false)] [1, 4, 5, 17]])
        (ai (len_map e62 v1_1) (ai h1 trivial)) (by kernel_rfl)) (wcast (Weak.freeze (E := [(4, .p (.nilsl))]) (E' := [(4, .p (.sl (List.map e3 ([] : List Int)) false))]) (H := []) [] (by kernel_rfl) (.snap _ _ _ _ _ (.p _ _ (.nil _)) .nil)) (by kernel_rfl : (⟨[(4, .p (.sl (List.map e3 ([] : List Int)) false))], puts (dieW []) []⟩ : St) = ⟨[(4, .p (.sl (List.map e3 ([] : List Int)) false))], []⟩))) (by simp)) (by kernel_rfl) (by kernel_rfl)
def F29  (fuel : Nat) (p0 : (Int × (List (Int × Int)))) : Option ((List Int) × Int) :=
  obind (F12 fuel (p0.1, p0.2)) fun r1 => oif ((r1 != 0))
  (some ([], r1))
  (obind (L29_0 p0.1 p0.2 fuel ) fun y2 => some (y2, 0))
theorem F29_ok  (fuel : Nat) (p0 : (Int × (List (Int × Int))))  (r : ((List Int) × Int)) (h : F29 fuel p0 = some r) : CallP prog 29 [.agg [.int .i64 p0.1, .sl (List.map e62 p0.2) false]] (.tup [.sl (List.map e3 r.1) false, .int .i64 r.2]) := by
  unfold F29 at h
  refine obind_elim h fun r1 h1 g1 => ?_
  refine oif_elim g1 (fun h2 g2 => ?_) (fun h2 g2 => ?_)
  · have hr := Option.some.inj g2
    subst hr
    exact callP_of is29 rfl (path hm (ks := [2, 3]) (σ' := ⟨[(2, .p (.nilsl)), (3, .p (.int .i64 r1))], []⟩) (cc := [.reg [] [] 0 [(0, none, .imm)] [1], .reg [] [] 0 [(1, none, .call (.int .i64 r1)), (2, none, .b true)] [1, 10], .reg [] [] 0 [(1, none, .call (.int .i64 r1))] [2, 3]])
      (ai (F12_ok fuel (p0.1, p0.2) _ h1) (ai h2 (ai (F12_ok fuel (p0.1, p0.2) _ h1) trivial))) (by kernel_rfl)) (e := .ret) rfl (vs := [.p (.nilsl), .p (.int .i64 r1)]) trivial (by kernel_rfl) (.tup _ _ (.cons _ _ _ _ (.p _ _ (.nil _)) (.cons _ _ _ _ (.p _ _ (.refl _)) .nil)))
  · refine obind_elim g2 fun y2 h3 g3 => ?_
    have hr := Option.some.inj g3
    subst hr
    exact callP_of is29 rfl (path hm (ks := [2, 3]) (σ' := ⟨[(2, .p (.sl (List.map e3 y2) false)), (3, .p (.int .i64 0))], []⟩) (cc := [.reg [] [] 0 [(0, none, .imm)] [1], .reg [] [] 0 [(1, none, .call (.int .i64 r1)), (2, none, .b false)] [1, 10], .reg [] [] 0 [] [1, 4], .reg [] [] 0 [] [1, 4, 5], .leaf (.exit 0) ⟨[(4, .p (.sl (List.map e3 y2) false))], []⟩, .reg [] [] 0 [] [2, 3]])
      (ai (F12_ok fuel (p0.1, p0.2) _ h1) (ai h2 (ai (SemJ.loop (L29_0_ok p0.1 p0.2 fuel  _ h3)) trivial))) (by kernel_rfl)) (e := .ret) rfl (vs := [.p (.sl (List.map e3 y2) false), .p (.int .i64 0)]) trivial (by kernel_rfl) (.tup _ _ (.cons _ _ _ _ (.p _ _ (.refl _)) (.cons _ _ _ _ (.p _ _ (.refl _)) .nil)))
def L31_4  (v1 : Int) (v2 : Int) (v2_1 : (List (Int × Int))) (v7 : Int) (w0 : (List Bool)) : Nat → Option Unit
  | 0 => none
  | fuel + 1 =>
    oif ((decide (0 < v2)))
    (none)
    (some (()))
def L31_5  (v1 : Int) (v2 : Int) (v2_1 : (List (Int × Int))) (v7 : Int) (w0 : (List Bool)) : Nat → Int → (List Int) → Option (List Int)
  | 0, _, _ => none
  | fuel + 1, v9, w1 =>
    oif ((decide (v9 < v2)))
    (oif (decide ((0:Int) ≤ v9)) (oif (decide ((v9 : Int) < (((List.length w1) : Nat) : Int))) (obind (sg w1 v9) fun x1 => obind (stL w1 v9 (IntKind.wrap .i64 (2 * x1))) fun x2 => L31_5 v1 v2 v2_1 v7 w0 fuel (IntKind.wrap .i64 (v9 + 1)) x2) none) none)
    (some (w1))
noncomputable def L31_5_post (v1 : Int) (v2 : Int) (v2_1 : (List (Int × Int))) (v7 : Int) (w0 : (List Bool))  : (List Int) → Ex × St
  | y => ((.exit 2), ⟨[(1, .p (.int .i64 v1)), (2, .p (.ref [.int .i64 v2, .sl (List.map e62 v2_1) false])), (6, .msl 0 0 (List.length w0) (List.length (rowI e4 w0)) true), (7, .p (.int .i64 v7)), (8, .msl 1 0 (List.length y) (List.length (rowI e2 y)) false)], [.cells (rowI e4 w0) 1, .cells (rowI e2 y) 1]⟩)
theorem L31_5_ok  (v1 : Int) (v2 : Int) (v2_1 : (List (Int × Int))) (v7 : Int) (w0 : (List Bool))  : ∀ (fuel : Nat) (v9 : Int) (w1 : (List Int)) (r : (List Int)), L31_5 v1 v2 v2_1 v7 w0 fuel v9 w1 = some r →
    SemJ prog ⟨96, 0, false⟩ (codeAt [1, 1, 1, 1, 0, 1, 0, 0, 1, 0, 0, 1, 0, 1, 0, 0] (bodyOf f31)) ⟨[(1, .p (.int .i64 v1)), (2, .p (.ref [.int .i64 v2, .sl (List.map e62 v2_1) false])), (6, .msl 0 0 (List.length w0) (List.length (rowI e4 w0)) true), (7, .p (.int .i64 v7)), (8, .msl 1 0 (List.length w1) (List.length (rowI e2 w1)) false), (9, .p (.int .i64 v9))], [.cells (rowI e4 w0) 1, .cells (rowI e2 w1) 1]⟩ (L31_5_post v1 v2 v2_1 v7 w0 r).1 (L31_5_post v1 v2 v2_1 v7 w0 r).2
  | 0, _, _, _, h => nomatch h
  | fuel + 1, v9, w1, r, h => by
    unfold L31_5 at h
    refine oif_elim h (fun h1 g1 => ?_) (fun h1 g1 => ?_)
    · refine oif_elim g1 (fun h2 g2 => ?_) (fun _ h => nomatch h)
      refine oif_elim g2 (fun h3 g3 => ?_) (fun _ h => nomatch h)
      refine obind_elim g3 fun x1 h4 g4 => ?_
      refine obind_elim g4 fun x2 h5 g5 => ?_
      exact SemJ.again (σ1 := ⟨[(1, .p (.int .i64 v1)), (2, .p (.ref [.int .i64 v2, .sl (List.map e62 v2_1) false])), (6, .msl 0 0 (List.length w0) (List.length (rowI e4 w0)) true), (7, .p (.int .i64 v7)), (8, .msl 1 0 (List.length x2) (List.length (rowI e2 x2)) false), (9, .p (.int .i64 (IntKind.wrap .i64 (v9 + 1))))], [.cells (rowI e4 w0) 1, .cells (rowI e2 x2) 1]⟩) (SemC.post (path hm (σ' := ⟨[(1, .p (.int .i64 v1)), (2, .p (.ref [.int .i64 v2, .sl (List.map e62 v2_1) false])), (6, .msl 0 0 (List.length w0) (List.length (rowI e4 w0)) true), (7, .p (.int .i64 v7)), (8, .msl 1 0 (List.length w1) (List.length (rowI e2 w1)) false), (9, .p (.int .i64 (IntKind.wrap .i64 (v9 + 1))))], [.cells (rowI e4 w0) 1, .cells (rowI e2 x2) 1]⟩) (ks := [1, 2, 6, 7, 8, 9]) (cc := [.reg [] [] 0 [(3, none, .b true)] [1, 2, 6, 7, 8, 9, 43], .reg [] [] 0 [(5, none, .iv (.p (.int .i64 x1))), (8, none, .cs (rowI e2 x2))] [1, 2, 6, 7, 8, 9], .reg [] [] 0 [] [1, 2, 6, 7, 8, 9]])
        (ai h1 (ai (od h2) (ai (od h3) (ai (rl (List.length (rowI e2 w1))) (ai (row_get el2 h4 rfl) (ai (od h2) (ai (od h3) (ai (rl (List.length (rowI e2 w1))) (ai (Nat.le_trans (row_fit el2 (stL_0 h5) (stL_lt h5)) (Nat.le_of_eq (rl (List.length (rowI e2 w1))))) (ai (row_put el2 h5) trivial)))))))))) (by kernel_rfl)) (Weak.trans (Weak.eq (congrArg (fun ZZ : Nat => (⟨[(1, .p (.int .i64 v1)), (2, .p (.ref [.int .i64 v2, .sl (List.map e62 v2_1) false])), (6, .msl 0 0 (List.length w0) (List.length (rowI e4 w0)) true), (7, .p (.int .i64 v7)), (8, .msl 1 0 ZZ (List.length (rowI e2 w1)) false), (9, .p (.int .i64 (IntKind.wrap .i64 (v9 + 1))))], [.cells (rowI e4 w0) 1, .cells (rowI e2 x2) 1]⟩ : St)) (Eq.symm ((stL_len h5).trans (rl (List.length w1)))))) (Weak.eq (congrArg (fun ZZ : Nat => (⟨[(1, .p (.int .i64 v1)), (2, .p (.ref [.int .i64 v2, .sl (List.map e62 v2_1) false])), (6, .msl 0 0 (List.length w0) (List.length (rowI e4 w0)) true), (7, .p (.int .i64 v7)), (8, .msl 1 0 (List.length x2) ZZ false), (9, .p (.int .i64 (IntKind.wrap .i64 (v9 + 1))))], [.cells (rowI e4 w0) 1, .cells (rowI e2 x2) 1]⟩ : St)) (Eq.symm ((row_setlen el2 h5).trans (rl (List.length (rowI e2 w1))))))))) (L31_5_ok v1 v2 v2_1 v7 w0 fuel (IntKind.wrap .i64 (v9 + 1)) x2 _ g5)
    · have hr := Option.some.inj g1
      subst hr
      exact SemC.cast (SemJ.out (e := (.exit 2)) (path hm (σ' := ⟨[(1, .p (.int .i64 v1)), (2, .p (.ref [.int .i64 v2, .sl (List.map e62 v2_1) false])), (6, .msl 0 0 (List.length w0) (List.length (rowI e4 w0)) true), (7, .p (.int .i64 v7)), (8, .msl 1 0 (List.length w1) (List.length (rowI e2 w1)) false)], [.cells (rowI e4 w0) 1, .cells (rowI e2 w1) 1]⟩) (ks := [1, 2, 6, 7, 8]) (cc := [.reg [] [] 0 [(3, none, .b false)] [1, 2, 6, 7, 8, 9, 43]])
        (ai h1 trivial) (by kernel_rfl)) (by simp)) (by kernel_rfl) (by kernel_rfl)
def L31_6  (v1 : Int) (v2 : Int) (v2_1 : (List (Int × Int))) (v7 : Int) (v8 : (List Int)) : Nat → Int → (List Bool) → Option (List Bool)
  | 0, _, _ => none
  | fuel + 1, v10, w0 =>
    oif ((decide (v10 < v2)))
    (oif (decide ((0:Int) ≤ v10)) (oif (decide ((v10 : Int) < (((List.length w0) : Nat) : Int))) (obind (sg w0 v10) fun x1 => oif (x1)
      (obind (stL w0 v10 true) fun x2 => L31_6 v1 v2 v2_1 v7 v8 fuel (IntKind.wrap .i64 (v10 + 1)) x2)
      (obind (sg v8 v10) fun x2 => oif ((x2 == 1))
        (obind (stL w0 v10 true) fun x3 => L31_6 v1 v2 v2_1 v7 v8 fuel (IntKind.wrap .i64 (v10 + 1)) x3)
        (obind (stL w0 v10 false) fun x3 => L31_6 v1 v2 v2_1 v7 v8 fuel (IntKind.wrap .i64 (v10 + 1)) x3))) none) none)
    (some (w0))
noncomputable def L31_6_post (v1 : Int) (v2 : Int) (v2_1 : (List (Int × Int))) (v7 : Int) (v8 : (List Int))  : (List Bool) → Ex × St
  | y => ((.exit 4), ⟨[(1, .p (.int .i64 v1)), (2, .p (.ref [.int .i64 v2, .sl (List.map e62 v2_1) false])), (6, .msl 0 0 (List.length y) (List.length (rowI e4 y)) true), (7, .p (.int .i64 v7))], [.cells (rowI e4 y) 1]⟩)
theorem L31_6_ok  (v1 : Int) (v2 : Int) (v2_1 : (List (Int × Int))) (v7 : Int) (v8 : (List Int))  : ∀ (fuel : Nat) (v10 : Int) (w0 : (List Bool)) (r : (List Bool)), L31_6 v1 v2 v2_1 v7 v8 fuel v10 w0 = some r →
    SemJ prog ⟨96, 0, false⟩ (codeAt [1, 1, 1, 1, 0, 1, 0, 0, 1, 0, 0, 1, 1, 1, 1, 1, 0, 0] (bodyOf f31)) ⟨[(1, .p (.int .i64 v1)), (2, .p (.ref [.int .i64 v2, .sl (List.map e62 v2_1) false])), (6, .msl 0 0 (List.length w0) (List.length (rowI e4 w0)) true), (7, .p (.int .i64 v7)), (8, .p (.sl (List.map e2 v8) false)), (10, .p (.int .i64 v10))], [.cells (rowI e4 w0) 1]⟩ (L31_6_post v1 v2 v2_1 v7 v8 r).1 (L31_6_post v1 v2 v2_1 v7 v8 r).2
  | 0, _, _, _, h => nomatch h
  | fuel + 1, v10, w0, r, h => by
    unfold L31_6 at h
    refine oif_elim h (fun h1 g1 => ?_) (fun h1 g1 => ?_)
    · refine oif_elim g1 (fun h2 g2 => ?_) (fun _ h => nomatch h)
      refine oif_elim g2 (fun h3 g3 => ?_) (fun _ h => nomatch h)
      refine obind_elim g3 fun x1 h4 g4 => ?_
      let c186 : List CC := [.reg [] [] 0 [(3, none, .b true)] [1, 2, 6, 7, 8, 10, 64]]
      have q187 := fun {P : Prop} (t : P) => ai h1 (ai (od h2) (ai (od h3) (ai (rl (List.length (rowI e4 w0))) (ai (row_get el4 h4 rfl) t))))
      refine oif_elim g4 (fun h5 g5 => ?_) (fun h5 g5 => ?_)
      · subst h5
        refine obind_elim g5 fun x2 h6 g6 => ?_
        exact SemJ.again (σ1 := ⟨[(1, .p (.int .i64 v1)), (2, .p (.ref [.int .i64 v2, .sl (List.map e62 v2_1) false])), (6, .msl 0 0 (List.length x2) (List.length (rowI e4 x2)) true), (7, .p (.int .i64 v7)), (8, .p (.sl (List.map e2 v8) false)), (10, .p (.int .i64 (IntKind.wrap .i64 (v10 + 1))))], [.cells (rowI e4 x2) 1]⟩) (SemC.post (path hm (σ' := ⟨[(1, .p (.int .i64 v1)), (2, .p (.ref [.int .i64 v2, .sl (List.map e62 v2_1) false])), (6, .msl 0 0 (List.length w0) (List.length (rowI e4 w0)) true), (7, .p (.int .i64 v7)), (8, .p (.sl (List.map e2 v8) false)), (10, .p (.int .i64 (IntKind.wrap .i64 (v10 + 1))))], [.cells (rowI e4 x2) 1]⟩) (ks := [1, 2, 6, 7, 8, 10]) (cc := c186 ++ [.reg [] [] 0 [(5, none, .iv (.p (.bool true))), (14, none, .cs (rowI e4 x2))] [1, 2, 6, 7, 8, 10], .reg [] [] 0 [] [1, 2, 6, 7, 8, 10]])
        (q187 (ai (od h2) (ai (od h3) (ai (rl (List.length (rowI e4 w0))) (ai (Nat.le_trans (row_fit el4 (stL_0 h6) (stL_lt h6)) (Nat.le_of_eq (rl (List.length (rowI e4 w0))))) (ai (row_put el4 h6) trivial)))))) (by kernel_rfl)) (Weak.trans (Weak.eq (congrArg (fun ZZ : Nat => (⟨[(1, .p (.int .i64 v1)), (2, .p (.ref [.int .i64 v2, .sl (List.map e62 v2_1) false])), (6, .msl 0 0 ZZ (List.length (rowI e4 w0)) true), (7, .p (.int .i64 v7)), (8, .p (.sl (List.map e2 v8) false)), (10, .p (.int .i64 (IntKind.wrap .i64 (v10 + 1))))], [.cells (rowI e4 x2) 1]⟩ : St)) (Eq.symm ((stL_len h6).trans (rl (List.length w0)))))) (Weak.eq (congrArg (fun ZZ : Nat => (⟨[(1, .p (.int .i64 v1)), (2, .p (.ref [.int .i64 v2, .sl (List.map e62 v2_1) false])), (6, .msl 0 0 (List.length x2) ZZ true), (7, .p (.int .i64 v7)), (8, .p (.sl (List.map e2 v8) false)), (10, .p (.int .i64 (IntKind.wrap .i64 (v10 + 1))))], [.cells (rowI e4 x2) 1]⟩ : St)) (Eq.symm ((row_setlen el4 h6).trans (rl (List.length (rowI e4 w0))))))))) (L31_6_ok v1 v2 v2_1 v7 v8 fuel (IntKind.wrap .i64 (v10 + 1)) x2 _ g6)
      · subst h5
        refine obind_elim g5 fun x2 h6 g6 => ?_
        refine oif_elim g6 (fun h7 g7 => ?_) (fun h7 g7 => ?_)
        · refine obind_elim g7 fun x3 h8 g8 => ?_
          exact SemJ.again (σ1 := ⟨[(1, .p (.int .i64 v1)), (2, .p (.ref [.int .i64 v2, .sl (List.map e62 v2_1) false])), (6, .msl 0 0 (List.length x3) (List.length (rowI e4 x3)) true), (7, .p (.int .i64 v7)), (8, .p (.sl (List.map e2 v8) false)), (10, .p (.int .i64 (IntKind.wrap .i64 (v10 + 1))))], [.cells (rowI e4 x3) 1]⟩) (SemC.post (path hm (σ' := ⟨[(1, .p (.int .i64 v1)), (2, .p (.ref [.int .i64 v2, .sl (List.map e62 v2_1) false])), (6, .msl 0 0 (List.length w0) (List.length (rowI e4 w0)) true), (7, .p (.int .i64 v7)), (8, .p (.sl (List.map e2 v8) false)), (10, .p (.int .i64 (IntKind.wrap .i64 (v10 + 1))))], [.cells (rowI e4 x3) 1]⟩) (ks := [1, 2, 6, 7, 8, 10]) (cc := c186 ++ [.reg [] [] 0 [(5, none, .iv (.p (.bool false))), (9, none, .iv (.p (.int .i64 x2))), (11, none, .b true), (14, none, .cs (rowI e4 x3))] [1, 2, 6, 7, 8, 10], .reg [] [] 0 [] [1, 2, 6, 7, 8, 10]])
        (q187 (ai (sg_map (f := e2) h6) (ai h7 (ai (od h2) (ai (od h3) (ai (rl (List.length (rowI e4 w0))) (ai (Nat.le_trans (row_fit el4 (stL_0 h8) (stL_lt h8)) (Nat.le_of_eq (rl (List.length (rowI e4 w0))))) (ai (row_put el4 h8) trivial)))))))) (by kernel_rfl)) (Weak.trans (Weak.eq (congrArg (fun ZZ : Nat => (⟨[(1, .p (.int .i64 v1)), (2, .p (.ref [.int .i64 v2, .sl (List.map e62 v2_1) false])), (6, .msl 0 0 ZZ (List.length (rowI e4 w0)) true), (7, .p (.int .i64 v7)), (8, .p (.sl (List.map e2 v8) false)), (10, .p (.int .i64 (IntKind.wrap .i64 (v10 + 1))))], [.cells (rowI e4 x3) 1]⟩ : St)) (Eq.symm ((stL_len h8).trans (rl (List.length w0)))))) (Weak.eq (congrArg (fun ZZ : Nat => (⟨[(1, .p (.int .i64 v1)), (2, .p (.ref [.int .i64 v2, .sl (List.map e62 v2_1) false])), (6, .msl 0 0 (List.length x3) ZZ true), (7, .p (.int .i64 v7)), (8, .p (.sl (List.map e2 v8) false)), (10, .p (.int .i64 (IntKind.wrap .i64 (v10 + 1))))], [.cells (rowI e4 x3) 1]⟩ : St)) (Eq.symm ((row_setlen el4 h8).trans (rl (List.length (rowI e4 w0))))))))) (L31_6_ok v1 v2 v2_1 v7 v8 fuel (IntKind.wrap .i64 (v10 + 1)) x3 _ g8)
        · refine obind_elim g7 fun x3 h8 g8 => ?_
          exact SemJ.again (σ1 := ⟨[(1, .p (.int .i64 v1)), (2, .p (.ref [.int .i64 v2, .sl (List.map e62 v2_1) false])), (6, .msl 0 0 (List.length x3) (List.length (rowI e4 x3)) true), (7, .p (.int .i64 v7)), (8, .p (.sl (List.map e2 v8) false)), (10, .p (.int .i64 (IntKind.wrap .i64 (v10 + 1))))], [.cells (rowI e4 x3) 1]⟩) (SemC.post (path hm (σ' := ⟨[(1, .p (.int .i64 v1)), (2, .p (.ref [.int .i64 v2, .sl (List.map e62 v2_1) false])), (6, .msl 0 0 (List.length w0) (List.length (rowI e4 w0)) true), (7, .p (.int .i64 v7)), (8, .p (.sl (List.map e2 v8) false)), (10, .p (.int .i64 (IntKind.wrap .i64 (v10 + 1))))], [.cells (rowI e4 x3) 1]⟩) (ks := [1, 2, 6, 7, 8, 10]) (cc := c186 ++ [.reg [] [] 0 [(5, none, .iv (.p (.bool false))), (9, none, .iv (.p (.int .i64 x2))), (11, none, .b false), (14, none, .cs (rowI e4 x3))] [1, 2, 6, 7, 8, 10], .reg [] [] 0 [] [1, 2, 6, 7, 8, 10]])
        (q187 (ai (sg_map (f := e2) h6) (ai h7 (ai (od h2) (ai (od h3) (ai (rl (List.length (rowI e4 w0))) (ai (Nat.le_trans (row_fit el4 (stL_0 h8) (stL_lt h8)) (Nat.le_of_eq (rl (List.length (rowI e4 w0))))) (ai (row_put el4 h8) trivial)))))))) (by kernel_rfl)) (Weak.trans (Weak.eq (congrArg (fun ZZ : Nat => (⟨[(1, .p (.int .i64 v1)), (2, .p (.ref [.int .i64 v2, .sl (List.map e62 v2_1) false])), (6, .msl 0 0 ZZ (List.length (rowI e4 w0)) true), (7, .p (.int .i64 v7)), (8, .p (.sl (List.map e2 v8) false)), (10, .p (.int .i64 (IntKind.wrap .i64 (v10 + 1))))], [.cells (rowI e4 x3) 1]⟩ : St)) (Eq.symm ((stL_len h8).trans (rl (List.length w0)))))) (Weak.eq (congrArg (fun ZZ : Nat => (⟨[(1, .p (.int .i64 v1)), (2, .p (.ref [.int .i64 v2, .sl (List.map e62 v2_1) false])), (6, .msl 0 0 (List.length x3) ZZ true), (7, .p (.int .i64 v7)), (8, .p (.sl (List.map e2 v8) false)), (10, .p (.int .i64 (IntKind.wrap .i64 (v10 + 1))))], [.cells (rowI e4 x3) 1]⟩ : St)) (Eq.symm ((row_setlen el4 h8).trans (rl (List.length (rowI e4 w0))))))))) (L31_6_ok v1 v2 v2_1 v7 v8 fuel (IntKind.wrap .i64 (v10 + 1)) x3 _ g8)
    · have hr := Option.some.inj g1
      subst hr
      exact SemC.cast (SemJ.out (e := (.exit 4)) (path hm (σ' := ⟨[(1, .p (.int .i64 v1)), (2, .p (.ref [.int .i64 v2, .sl (List.map e62 v2_1) false])), (6, .msl 0 0 (List.length w0) (List.length (rowI e4 w0)) true), (7, .p (.int .i64 v7))], [.cells (rowI e4 w0) 1]⟩) (ks := [1, 2, 6, 7]) (cc := [.reg [] [] 0 [(3, none, .b false)] [1, 2, 6, 7, 8, 10, 64]])
        (ai h1 trivial) (by kernel_rfl)) (by simp)) (by kernel_rfl) (by kernel_rfl)
def L31_0  (v1 : Int) (v2 : Int) (v2_1 : (List (Int × Int))) : Nat → Int → (List Bool) → Option (List Bool)
  | 0, _, _ => none
  | fuel + 1, v7, w0 =>
    oif (decide ((0:Int) ≤ v2)) (oif ((decide (v7 < (IntKind.wrap .i64 (1 * 2 ^ (min (Int.toNat v2) (IntKind.bits .i64)))))))
    (obind (F58 fuel v2 v7) fun r1 => oif (List.isEmpty r1)
      (obind (L31_4 v1 v2 v2_1 v7 w0 fuel ) fun y2 => none)
      (obind (L31_5 v1 v2 v2_1 v7 w0 fuel 0 r1) fun y2 => oif (decide ((0:Int) ≤ v1)) (oif (decide ((v1 : Int) < (((List.length y2) : Nat) : Int))) (obind (stL y2 v1 1) fun x3 => obind (F42 fuel v2_1 x3) fun r4 => obind (L31_6 v1 v2 v2_1 v7 r4 fuel 0 w0) fun y5 => L31_0 v1 v2 v2_1 fuel (IntKind.wrap .i64 (v7 + 1)) y5) none) none))
    (some (w0))) none
noncomputable def L31_0_post (v1 : Int) (v2 : Int) (v2_1 : (List (Int × Int)))  : (List Bool) → Ex × St
  | y => ((.exit 0), ⟨[(2, .p (.ref [.int .i64 v2, .sl (List.map e62 v2_1) false])), (6, .msl 0 0 (List.length y) (List.length (rowI e4 y)) true)], [.cells (rowI e4 y) 1]⟩)
theorem L31_0_ok  (v1 : Int) (v2 : Int) (v2_1 : (List (Int × Int)))  : ∀ (fuel : Nat) (v7 : Int) (w0 : (List Bool)) (r : (List Bool)), L31_0 v1 v2 v2_1 fuel v7 w0 = some r →
    SemJ prog ⟨96, 0, false⟩ (codeAt [1, 1, 1, 1, 0, 1, 0, 0] (bodyOf f31)) ⟨[(1, .p (.int .i64 v1)), (2, .p (.ref [.int .i64 v2, .sl (List.map e62 v2_1) false])), (6, .msl 0 0 (List.length w0) (List.length (rowI e4 w0)) true), (7, .p (.int .i64 v7))], [.cells (rowI e4 w0) 1]⟩ (L31_0_post v1 v2 v2_1 r).1 (L31_0_post v1 v2 v2_1 r).2
  | 0, _, _, _, h => nomatch h
  | fuel + 1, v7, w0, r, h => by
    unfold L31_0 at h
    refine oif_elim h (fun h1 g1 => ?_) (fun _ h => nomatch h)
    refine oif_elim g1 (fun h2 g2 => ?_) (fun h2 g2 => ?_)
    · refine obind_elim g2 fun r1 h3 g3 => ?_
      refine oif_elim g3 (fun h4 g4 => ?_) (fun h4 g4 => ?_)
      · refine obind_elim g4 fun y2 h5 g5 => ?_
        exact nomatch g5
      · refine obind_elim g4 fun y2 h5 g5 => ?_
        refine oif_elim g5 (fun h6 g6 => ?_) (fun _ h => nomatch h)
        refine oif_elim g6 (fun h7 g7 => ?_) (fun _ h => nomatch h)
        refine obind_elim g7 fun x3 h8 g8 => ?_
        refine obind_elim g8 fun r4 h9 g9 => ?_
        refine obind_elim g9 fun y5 h10 g10 => ?_
        exact SemJ.again (σ1 := ⟨[(1, .p (.int .i64 v1)), (2, .p (.ref [.int .i64 v2, .sl (List.map e62 v2_1) false])), (6, .msl 0 0 (List.length y5) (List.length (rowI e4 y5)) true), (7, .p (.int .i64 (IntKind.wrap .i64 (v7 + 1))))], [.cells (rowI e4 y5) 1]⟩) (path hm (σ' := ⟨[(1, .p (.int .i64 v1)), (2, .p (.ref [.int .i64 v2, .sl (List.map e62 v2_1) false])), (6, .msl 0 0 (List.length y5) (List.length (rowI e4 y5)) true), (7, .p (.int .i64 (IntKind.wrap .i64 (v7 + 1))))], [.cells (rowI e4 y5) 1]⟩) (ks := [1, 2, 6, 7]) (cc := [.reg [] [] 0 [(4, none, .b true)] [1, 2, 6, 7, 33], .reg [] [] 1 [(3, some 1, .ap (rowI e2 r1) (List.length r1) 1)] [1, 2, 6, 7, 8], .reg [] [] 0 [] [1, 2, 6, 7, 8, 9], .leaf (.exit 2) ⟨[(1, .p (.int .i64 v1)), (2, .p (.ref [.int .i64 v2, .sl (List.map e62 v2_1) false])), (6, .msl 0 0 (List.length w0) (List.length (rowI e4 w0)) true), (7, .p (.int .i64 v7)), (8, .msl 1 0 (List.length y2) (List.length (rowI e2 y2)) false)], [.cells (rowI e4 w0) 1, .cells (rowI e2 y2) 1]⟩, .reg [] [] 0 [(3, none, .cs (rowI e2 x3))] [1, 2, 6, 7, 8], .reg [] [] 0 [(3, none, .bor [1] [.sl (List.map e62 v2_1) false, .sl (List.map e2 x3) false] (.sl (List.map e2 r4) false))] [1, 2, 6, 7, 8], .reg [] [] 0 [] [1, 2, 6, 7, 8, 10], .leaf (.exit 4) ⟨[(1, .p (.int .i64 v1)), (2, .p (.ref [.int .i64 v2, .sl (List.map e62 v2_1) false])), (6, .msl 0 0 (List.length y5) (List.length (rowI e4 y5)) true), (7, .p (.int .i64 v7))], [.cells (rowI e4 y5) 1]⟩, .reg [] [] 0 [] [1, 2, 6, 7]])
        (ai (od h1) (ai h2 (ai (F58_own fuel v2 v7 _ h3 h4) (ai (SemJ.loop (L31_5_ok v1 v2 v2_1 v7 w0 fuel 0 r1 _ h5)) (ai (od h6) (ai (od h7) (ai (rl (List.length (rowI e2 y2))) (ai (Nat.le_trans (row_fit el2 (stL_0 h8) (stL_lt h8)) (Nat.le_of_eq (rl (List.length (rowI e2 y2))))) (ai (row_put el2 h8) (ai (.refl _ : PVle (.sl (List.map e62 v2_1) false) (.sl (List.map e62 v2_1) false)) (ai (snap_row (hp := one 1 (.cells (rowI e2 x3) 1)) (l := 1) (x := false) (g := 1) (L := x3) el2 (by kernel_rfl) ((row_setlen el2 h8).trans (rl (List.length (rowI e2 y2)))) ((stL_len h8).trans (rl (List.length y2)))) (ai (F42_ok fuel v2_1 x3 false false _ h9) (ai (SemC.pre (σ := ⟨[(1, .p (.int .i64 v1)), (2, .p (.ref [.int .i64 v2, .sl (List.map e62 v2_1) false])), (6, .msl 0 0 (List.length w0) (List.length (rowI e4 w0)) true), (7, .p (.int .i64 v7)), (8, .p (.sl (List.map e2 r4) false)), (10, .p (.int .i64 0))], [.cells (rowI e4 w0) 1, .dead]⟩) (SemJ.loop (L31_6_ok v1 v2 v2_1 v7 r4 fuel 0 w0 _ h10)) (Weak.sel (E := [(1, .p (.int .i64 v1)), (2, .p (.ref [.int .i64 v2, .sl (List.map e62 v2_1) false])), (6, .msl 0 0 (List.length w0) (List.length (rowI e4 w0)) true), (7, .p (.int .i64 v7)), (8, .p (.sl (List.map e2 r4) false)), (10, .p (.int .i64 0))]) (E' := [(1, .p (.int .i64 v1)), (2, .p (.ref [.int .i64 v2, .sl (List.map e62 v2_1) false])), (6, .msl 0 0 (List.length w0) (List.length (rowI e4 w0)) true), (7, .p (.int .i64 v7)), (8, .p (.sl (List.map e2 r4) false)), (10, .p (.int .i64 0))]) (H := [.cells (rowI e4 w0) 1, .dead]) (H' := [.cells (rowI e4 w0) 1]) [0] (selH_cons (o := .cells (rowI e4 w0) 1) (o' := .cells (rowI e4 w0) 1) (by kernel_rfl) sel_row trivial) (by kernel_rfl) (by kernel_rfl))) trivial))))))))))))) (by kernel_rfl)) (L31_0_ok v1 v2 v2_1 fuel (IntKind.wrap .i64 (v7 + 1)) y5 _ g10)
    · have hr := Option.some.inj g2
      subst hr
      exact SemC.cast (SemJ.out (e := (.exit 0)) (path hm (σ' := ⟨[(2, .p (.ref [.int .i64 v2, .sl (List.map e62 v2_1) false])), (6, .msl 0 0 (List.length w0) (List.length (rowI e4 w0)) true)], [.cells (rowI e4 w0) 1]⟩) (ks := [2, 6]) (cc := [.reg [] [] 0 [(4, none, .b false)] [1, 2, 6, 7, 33]])
        (ai (od h1) (ai h2 trivial)) (by kernel_rfl)) (by simp)) (by kernel_rfl) (by kernel_rfl)
def L31_9  (v2 : Int) (v2_1 : (List (Int × Int))) (w0 : (List Bool)) : Nat → Int → (List Int) → Option (List Int)
  | 0, _, _ => none
  | fuel + 1, v12, w1 =>
    oif ((decide (v12 < v2)))
    (oif (decide ((0:Int) ≤ v12)) (oif (decide ((v12 : Int) < (((List.length w0) : Nat) : Int))) (obind (sg w0 v12) fun x1 => oif (x1)
      (oif (decide (((List.length w1) + 1) * 8 ≤ 140737488355328)) (L31_9 v2 v2_1 w0 fuel (IntKind.wrap .i64 (v12 + 1)) (w1 ++ [v12])) none)
      (L31_9 v2 v2_1 w0 fuel (IntKind.wrap .i64 (v12 + 1)) w1)) none) none)
    (some (w1))
noncomputable def L31_9_post (v2 : Int) (v2_1 : (List (Int × Int))) (w0 : (List Bool))  : (List Int) → Ex × St
  | y => ((.exit 6), ⟨[(11, .msl 0 0 (List.length y) (List.length (rowI e3 y)) false)], [.cells (rowI e3 y) 1]⟩)
theorem L31_9_ok  (v2 : Int) (v2_1 : (List (Int × Int))) (w0 : (List Bool))  : ∀ (fuel : Nat) (v12 : Int) (w1 : (List Int)) (r : (List Int)), L31_9 v2 v2_1 w0 fuel v12 w1 = some r →
    SemJ prog ⟨96, 0, false⟩ (codeAt [1, 1, 1, 1, 1, 1, 0, 1, 0, 0] (bodyOf f31)) ⟨[(2, .p (.ref [.int .i64 v2, .sl (List.map e62 v2_1) false])), (6, .msl 0 0 (List.length w0) (List.length (rowI e4 w0)) true), (11, .msl 1 0 (List.length w1) (List.length (rowI e3 w1)) false), (12, .p (.int .i64 v12))], [.cells (rowI e4 w0) 1, .cells (rowI e3 w1) 1]⟩ (L31_9_post v2 v2_1 w0 r).1 (L31_9_post v2 v2_1 w0 r).2
  | 0, _, _, _, h => nomatch h
  | fuel + 1, v12, w1, r, h => by
    unfold L31_9 at h
    refine oif_elim h (fun h1 g1 => ?_) (fun h1 g1 => ?_)
    · refine oif_elim g1 (fun h2 g2 => ?_) (fun _ h => nomatch h)
      refine oif_elim g2 (fun h3 g3 => ?_) (fun _ h => nomatch h)
      refine obind_elim g3 fun x1 h4 g4 => ?_
      have q189 := fun {P : Prop} (t : P) => ai h1 (ai (od h2) (ai (od h3) (ai (rl (List.length (rowI e4 w0))) (ai (row_get el4 h4 rfl) t))))
      refine oif_elim g4 (fun h5 g5 => ?_) (fun h5 g5 => ?_)
      · subst h5
        refine oif_elim g5 (fun h6 g6 => ?_) (fun _ h => nomatch h)
        exact SemJ.again (σ1 := ⟨[(2, .p (.ref [.int .i64 v2, .sl (List.map e62 v2_1) false])), (6, .msl 0 0 (List.length w0) (List.length (rowI e4 w0)) true), (11, .msl 1 0 (List.length (w1 ++ [v12])) (List.length (rowI e3 (w1 ++ [v12]))) false), (12, .p (.int .i64 (IntKind.wrap .i64 (v12 + 1))))], [.cells (rowI e4 w0) 1, .cells (rowI e3 (w1 ++ [v12])) 1]⟩) (path hm (σ' := ⟨[(2, .p (.ref [.int .i64 v2, .sl (List.map e62 v2_1) false])), (6, .msl 0 0 (List.length w0) (List.length (rowI e4 w0)) true), (11, .msl 1 0 (List.length (w1 ++ [v12])) (List.length (rowI e3 (w1 ++ [v12]))) false), (12, .p (.int .i64 (IntKind.wrap .i64 (v12 + 1))))], [.cells (rowI e4 w0) 1, .cells (rowI e3 (w1 ++ [v12])) 1]⟩) (ks := [2, 6, 11, 12]) (cc := [.reg [] [] 0 [(3, none, .b true)] [2, 6, 11, 12, 84], .reg [] [] 0 [(3, none, .iv (.p (.bool true)))] [2, 6, 11, 12, 90], .reg [] [] 0 [(3, none, .ap (rowI e3 (w1 ++ [v12])) (List.length (w1 ++ [v12])) (List.length (rowI e3 (w1 ++ [v12]))))] [2, 6, 11, 12], .reg [] [] 0 [] [2, 6, 11, 12]])
        (q189 (ai (by decide : 0 < 1) (ai (od h6) (ai (app_c2 (by decide) (od h6)) (ai (app_len e3 [v12] (rl (List.length w1))) (ai (rl (List.length (rowI e3 (w1 ++ [v12])))) (ai (row_app e3 w1 [v12]) (ai (rl (List.length (rowI e3 w1))) (ai (row_sz el3 (rl (List.length (rowI e3 w1))) (rl (List.length w1))) (ai (row_sc el3 [v12]) (ai (row_es el3 [v12]) trivial))))))))))) (by kernel_rfl)) (L31_9_ok v2 v2_1 w0 fuel (IntKind.wrap .i64 (v12 + 1)) (w1 ++ [v12]) _ g6)
      · subst h5
        exact SemJ.again (σ1 := ⟨[(2, .p (.ref [.int .i64 v2, .sl (List.map e62 v2_1) false])), (6, .msl 0 0 (List.length w0) (List.length (rowI e4 w0)) true), (11, .msl 1 0 (List.length w1) (List.length (rowI e3 w1)) false), (12, .p (.int .i64 (IntKind.wrap .i64 (v12 + 1))))], [.cells (rowI e4 w0) 1, .cells (rowI e3 w1) 1]⟩) (path hm (σ' := ⟨[(2, .p (.ref [.int .i64 v2, .sl (List.map e62 v2_1) false])), (6, .msl 0 0 (List.length w0) (List.length (rowI e4 w0)) true), (11, .msl 1 0 (List.length w1) (List.length (rowI e3 w1)) false), (12, .p (.int .i64 (IntKind.wrap .i64 (v12 + 1))))], [.cells (rowI e4 w0) 1, .cells (rowI e3 w1) 1]⟩) (ks := [2, 6, 11, 12]) (cc := [.reg [] [] 0 [(3, none, .b true)] [2, 6, 11, 12, 84], .reg [] [] 0 [(3, none, .iv (.p (.bool false)))] [2, 6, 11, 12, 90], .reg [] [] 0 [] [2, 6, 11, 12]])
        (q189 trivial) (by kernel_rfl)) (L31_9_ok v2 v2_1 w0 fuel (IntKind.wrap .i64 (v12 + 1)) w1 _ g5)
    · have hr := Option.some.inj g1
      subst hr
      exact SemC.cast (SemJ.out (e := (.exit 6)) (SemC.post (path hm (σ' := ⟨[(11, .msl 1 0 (List.length w1) (List.length (rowI e3 w1)) false)], [.cells (rowI e4 w0) 1, .cells (rowI e3 w1) 1]⟩) (ks := [11]) (cc := [.reg [] [] 0 [(3, none, .b false)] [2, 6, 11, 12, 84]])
        (ai h1 trivial) (by kernel_rfl)) (Weak.sel (E := [(11, .msl 1 0 (List.length w1) (List.length (rowI e3 w1)) false)]) (E' := [(11, .msl 0 0 (List.length w1) (List.length (rowI e3 w1)) false)]) (H := [.cells (rowI e4 w0) 1, .cells (rowI e3 w1) 1]) (H' := [.cells (rowI e3 w1) 1]) [1] (selH_cons (o := .cells (rowI e3 w1) 1) (o' := .cells (rowI e3 w1) 1) (by kernel_rfl) sel_row trivial) (by kernel_rfl) (by kernel_rfl))) (by simp)) (by kernel_rfl) (by kernel_rfl)
def L31_7  (v2 : Int) (v2_1 : (List (Int × Int))) (w0 : (List Bool)) : Nat → Int → Option (List Int)
  | 0, _ => none
  | fuel + 1, v12 =>
    oif ((decide (v12 < v2)))
    (oif (decide ((0:Int) ≤ v12)) (oif (decide ((v12 : Int) < (((List.length w0) : Nat) : Int))) (obind (sg w0 v12) fun x1 => oif (x1)
      (oif (decide (1 * 8 ≤ 140737488355328)) (obind (L31_9 v2 v2_1 w0 fuel (IntKind.wrap .i64 (v12 + 1)) [v12]) fun y2 => some (y2)) none)
      (L31_7 v2 v2_1 w0 fuel (IntKind.wrap .i64 (v12 + 1)))) none) none)
    (some (([] : List Int)))
noncomputable def L31_7_post (v2 : Int) (v2_1 : (List (Int × Int))) (w0 : (List Bool))  : (List Int) → Ex × St
  | y => ((.exit 6), ⟨[(11, .p (.sl (List.map e3 y) false))], []⟩)
theorem L31_7_ok  (v2 : Int) (v2_1 : (List (Int × Int))) (w0 : (List Bool))  : ∀ (fuel : Nat) (v12 : Int) (r : (List Int)), L31_7 v2 v2_1 w0 fuel v12 = some r →
    SemJ prog ⟨96, 0, false⟩ (codeAt [1, 1, 1, 1, 1, 1, 0, 1, 0, 0] (bodyOf f31)) ⟨[(2, .p (.ref [.int .i64 v2, .sl (List.map e62 v2_1) false])), (6, .msl 0 0 (List.length w0) (List.length (rowI e4 w0)) true), (11, .p (.nilsl)), (12, .p (.int .i64 v12))], [.cells (rowI e4 w0) 1]⟩ (L31_7_post v2 v2_1 w0 r).1 (L31_7_post v2 v2_1 w0 r).2
  | 0, _, _, h => nomatch h
  | fuel + 1, v12, r, h => by
    unfold L31_7 at h
    refine oif_elim h (fun h1 g1 => ?_) (fun h1 g1 => ?_)
    · refine oif_elim g1 (fun h2 g2 => ?_) (fun _ h => nomatch h)
      refine oif_elim g2 (fun h3 g3 => ?_) (fun _ h => nomatch h)
      refine obind_elim g3 fun x1 h4 g4 => ?_
      have q190 := fun {P : Prop} (t : P) => ai h1 (ai (od h2) (ai (od h3) (ai (rl (List.length (rowI e4 w0))) (ai (row_get el4 h4 rfl) t))))
      refine oif_elim g4 (fun h5 g5 => ?_) (fun h5 g5 => ?_)
      · subst h5
        refine oif_elim g5 (fun h6 g6 => ?_) (fun _ h => nomatch h)
        refine obind_elim g6 fun y2 h7 g7 => ?_
        have hr := Option.some.inj g7
        subst hr
        exact SemC.cast (SemJ.again (σ1 := ⟨[(2, .p (.ref [.int .i64 v2, .sl (List.map e62 v2_1) false])), (6, .msl 0 0 (List.length w0) (List.length (rowI e4 w0)) true), (11, .msl 1 0 (List.length [v12]) (List.length (rowI e3 [v12])) false), (12, .p (.int .i64 (IntKind.wrap .i64 (v12 + 1))))], [.cells (rowI e4 w0) 1, .cells (rowI e3 [v12]) 1]⟩) (path hm (σ' := ⟨[(2, .p (.ref [.int .i64 v2, .sl (List.map e62 v2_1) false])), (6, .msl 0 0 (List.length w0) (List.length (rowI e4 w0)) true), (11, .msl 1 0 (List.length [v12]) (List.length (rowI e3 [v12])) false), (12, .p (.int .i64 (IntKind.wrap .i64 (v12 + 1))))], [.cells (rowI e4 w0) 1, .cells (rowI e3 [v12]) 1]⟩) (ks := [2, 6, 11, 12]) (cc := [.reg [] [] 0 [(3, none, .b true)] [2, 6, 11, 12, 84], .reg [] [] 0 [(3, none, .iv (.p (.bool true)))] [2, 6, 11, 12, 90], .reg [] [] 1 [(3, some 1, .ap (rowI e3 [v12]) (List.length [v12]) (List.length (rowI e3 [v12])))] [2, 6, 11, 12], .reg [] [] 0 [] [2, 6, 11, 12]])
        (q190 (ai (by decide : 0 < 1) (ai (od h6) (ai (app_c0 (by decide) (od h6)) (ai (rl (List.length [v12])) (ai (rl (List.length (rowI e3 [v12]))) (ai (row_src e3 [v12]) (ai (row_sc el3 [v12]) (ai (row_es el3 [v12]) trivial))))))))) (by kernel_rfl)) (SemC.post (L31_9_ok v2 v2_1 w0 fuel (IntKind.wrap .i64 (v12 + 1)) [v12] _ h7) (Weak.trans (wcast (Weak.freeze (E := [(11, .msl 0 0 (List.length y2) (List.length (rowI e3 y2)) false)]) (E' := [(11, .p (.sl (List.map e3 y2) false))]) (H := [.cells (rowI e3 y2) 1]) [0] (by kernel_rfl) (.snap _ _ _ _ _ (snap_row (g := 1) (L := y2) el3 (by kernel_rfl) (rl (List.length (rowI e3 y2))) (rl (List.length y2))) .nil)) (by kernel_rfl : (⟨[(11, .p (.sl (List.map e3 y2) false))], puts (dieW [0]) [.cells (rowI e3 y2) 1]⟩ : St) = ⟨[(11, .p (.sl (List.map e3 y2) false))], [.dead]⟩)) (Weak.sel (E := [(11, .p (.sl (List.map e3 y2) false))]) (E' := [(11, .p (.sl (List.map e3 y2) false))]) (H := [.dead]) (H' := []) [] trivial (by kernel_rfl) (by kernel_rfl))))) (by kernel_rfl) (by kernel_rfl)
      · subst h5
        exact SemJ.again (σ1 := ⟨[(2, .p (.ref [.int .i64 v2, .sl (List.map e62 v2_1) false])), (6, .msl 0 0 (List.length w0) (List.length (rowI e4 w0)) true), (11, .p (.nilsl)), (12, .p (.int .i64 (IntKind.wrap .i64 (v12 + 1))))], [.cells (rowI e4 w0) 1]⟩) (path hm (σ' := ⟨[(2, .p (.ref [.int .i64 v2, .sl (List.map e62 v2_1) false])), (6, .msl 0 0 (List.length w0) (List.length (rowI e4 w0)) true), (11, .p (.nilsl)), (12, .p (.int .i64 (IntKind.wrap .i64 (v12 + 1))))], [.cells (rowI e4 w0) 1]⟩) (ks := [2, 6, 11, 12]) (cc := [.reg [] [] 0 [(3, none, .b true)] [2, 6, 11, 12, 84], .reg [] [] 0 [(3, none, .iv (.p (.bool false)))] [2, 6, 11, 12, 90], .reg [] [] 0 [] [2, 6, 11, 12]])
        (q190 trivial) (by kernel_rfl)) (L31_7_ok v2 v2_1 w0 fuel (IntKind.wrap .i64 (v12 + 1)) _ g5)
    · have hr := Option.some.inj g1
      subst hr
      exact SemC.cast (SemJ.out (e := (.exit 6)) (SemC.post (path hm (σ' := ⟨[(11, .p (.nilsl))], [.cells (rowI e4 w0) 1]⟩) (ks := [11]) (cc := [.reg [] [] 0 [(3, none, .b false)] [2, 6, 11, 12, 84]])
        (ai h1 trivial) (by kernel_rfl)) (Weak.trans (wcast (Weak.freeze (E := [(11, .p (.nilsl))]) (E' := [(11, .p (.sl (List.map e3 ([] : List Int)) false))]) (H := [.cells (rowI e4 w0) 1]) [] (by kernel_rfl) (.snap _ _ _ _ _ (.p _ _ (.nil _)) .nil)) (by kernel_rfl : (⟨[(11, .p (.sl (List.map e3 ([] : List Int)) false))], puts (dieW []) [.cells (rowI e4 w0) 1]⟩ : St) = ⟨[(11, .p (.sl (List.map e3 ([] : List Int)) false))], [.cells (rowI e4 w0) 1]⟩)) (Weak.sel (E := [(11, .p (.sl (List.map e3 ([] : List Int)) false))]) (E' := [(11, .p (.sl (List.map e3 ([] : List Int)) false))]) (H := [.cells (rowI e4 w0) 1]) (H' := []) [] trivial (by kernel_rfl) (by kernel_rfl)))) (by simp)) (by kernel_rfl) (by kernel_rfl)
def F31  (fuel : Nat) (p0 : (Int × (List (Int × Int)))) (p1 : Int) : Option ((List Int) × Int) :=
  obind (F12 fuel (p0.1, p0.2)) fun r1 => oif ((r1 != 0))
  (some ([], r1))
  (oif ((decide (p1 < 0)))
    (some ([], 2))
    (oif ((decide (p1 ≥ p0.1)))
      (some ([], 2))
      (oif (decide ((0:Int) ≤ p0.1)) (oif (decide (((1 : Nat) : Int) * p0.1 ≤ 281474976710656)) (oif (decide ((p0.1 : Int) ≤ 9223372036854775807)) (obind (L31_0 p1 p0.1 p0.2 fuel 0 (List.replicate (Int.toNat p0.1) (false : Bool))) fun y2 => obind (L31_7 p0.1 p0.2 y2 fuel 0) fun y3 => some (y3, 0)) none) none) none)))
theorem F31_ok  (fuel : Nat) (p0 : (Int × (List (Int × Int)))) (p1 : Int)  (r : ((List Int) × Int)) (h : F31 fuel p0 p1 = some r) : CallP prog 31 [.agg [.int .i64 p0.1, .sl (List.map e62 p0.2) false], .int .i64 p1] (.tup [.sl (List.map e3 r.1) false, .int .i64 r.2]) := by
  unfold F31 at h
  refine obind_elim h fun r1 h1 g1 => ?_
  let c191 : List CC := [.reg [] [] 0 [(0, none, .imm)] [1, 2]]
  refine oif_elim g1 (fun h2 g2 => ?_) (fun h2 g2 => ?_)
  · have hr := Option.some.inj g2
    subst hr
    exact callP_of is31 rfl (path hm (ks := [4, 5]) (σ' := ⟨[(4, .p (.nilsl)), (5, .p (.int .i64 r1))], []⟩) (cc := c191 ++ [.reg [] [] 0 [(1, none, .call (.int .i64 r1)), (2, none, .b true)] [1, 2, 15], .reg [] [] 0 [(1, none, .call (.int .i64 r1))] [4, 5]])
      (ai (F12_ok fuel (p0.1, p0.2) _ h1) (ai h2 (ai (F12_ok fuel (p0.1, p0.2) _ h1) trivial))) (by kernel_rfl)) (e := .ret) rfl (vs := [.p (.nilsl), .p (.int .i64 r1)]) trivial (by kernel_rfl) (.tup _ _ (.cons _ _ _ _ (.p _ _ (.nil _)) (.cons _ _ _ _ (.p _ _ (.refl _)) .nil)))
  · let c192 : List CC := c191 ++ [.reg [] [] 0 [(1, none, .call (.int .i64 r1)), (2, none, .b false)] [1, 2, 15]]
    refine oif_elim g2 (fun h3 g3 => ?_) (fun h3 g3 => ?_)
    · have hr := Option.some.inj g3
      subst hr
      exact callP_of is31 rfl (path hm (ks := [4, 5]) (σ' := ⟨[(4, .p (.nilsl)), (5, .p (.int .i64 2))], []⟩) (cc := c192 ++ [.reg [] [] 0 [(1, none, .b true)] [1, 2, 25], .reg [] [] 0 [] [4, 5]])
      (ai (F12_ok fuel (p0.1, p0.2) _ h1) (ai h2 (ai h3 trivial))) (by kernel_rfl)) (e := .ret) rfl (vs := [.p (.nilsl), .p (.int .i64 2)]) trivial (by kernel_rfl) (.tup _ _ (.cons _ _ _ _ (.p _ _ (.nil _)) (.cons _ _ _ _ (.p _ _ (.refl _)) .nil)))
    · refine oif_elim g3 (fun h4 g4 => ?_) (fun h4 g4 => ?_)
      · have hr := Option.some.inj g4
        subst hr
        exact callP_of is31 rfl (path hm (ks := [4, 5]) (σ' := ⟨[(4, .p (.nilsl)), (5, .p (.int .i64 2))], []⟩) (cc := c192 ++ [.reg [] [] 0 [(1, none, .b false), (6, none, .b true)] [1, 2, 25], .reg [] [] 0 [] [4, 5]])
      (ai (F12_ok fuel (p0.1, p0.2) _ h1) (ai h2 (ai h3 (ai h4 trivial)))) (by kernel_rfl)) (e := .ret) rfl (vs := [.p (.nilsl), .p (.int .i64 2)]) trivial (by kernel_rfl) (.tup _ _ (.cons _ _ _ _ (.p _ _ (.nil _)) (.cons _ _ _ _ (.p _ _ (.refl _)) .nil)))
      · refine oif_elim g4 (fun h5 g5 => ?_) (fun _ h => nomatch h)
        refine oif_elim g5 (fun h6 g6 => ?_) (fun _ h => nomatch h)
        refine oif_elim g6 (fun h7 g7 => ?_) (fun _ h => nomatch h)
        refine obind_elim g7 fun y2 h8 g8 => ?_
        refine obind_elim g8 fun y3 h9 g9 => ?_
        have hr := Option.some.inj g9
        subst hr
        exact callP_of is31 rfl (path hm (ks := [4, 5]) (σ' := ⟨[(4, .p (.sl (List.map e3 y3) false)), (5, .p (.int .i64 0))], []⟩) (cc := c192 ++ [.reg [] [] 0 [(1, none, .b false), (6, none, .b false)] [1, 2, 25], .reg [] [] 1 [(2, some 0, .ap (rowI e4 (List.replicate (Int.toNat p0.1) (false : Bool))) (Int.toNat p0.1) (List.length (rowI e4 (List.replicate (Int.toNat p0.1) (false : Bool)))))] [1, 2, 6], .reg [] [] 0 [] [1, 2, 6, 7], .leaf (.exit 0) ⟨[(2, .p (.ref [.int .i64 p0.1, .sl (List.map e62 p0.2) false])), (6, .msl 0 0 (List.length y2) (List.length (rowI e4 y2)) true)], [.cells (rowI e4 y2) 1]⟩, .reg [] [] 0 [] [2, 6, 11], .reg [] [] 0 [] [2, 6, 11, 12], .leaf (.exit 6) ⟨[(11, .p (.sl (List.map e3 y3) false))], []⟩, .reg [] [] 0 [] [4, 5]])
      (ai (F12_ok fuel (p0.1, p0.2) _ h1) (ai h2 (ai h3 (ai h4 (ai (od h5) (ai (rfl : (p0.1 : Int) = p0.1) (ai (od h6) (ai (od h7) (ai (rl (Int.toNat p0.1)) (ai (rl (List.length (rowI e4 (List.replicate (Int.toNat p0.1) (false : Bool))))) (ai (zeros_row el4 (false : Bool) (Int.toNat p0.1)) (ai (SemC.pre (σ := ⟨[(1, .p (.int .i64 p1)), (2, .p (.ref [.int .i64 p0.1, .sl (List.map e62 p0.2) false])), (6, .msl 0 0 (Int.toNat p0.1) (List.length (rowI e4 (List.replicate (Int.toNat p0.1) (false : Bool)))) true), (7, .p (.int .i64 0))], [.cells (rowI e4 (List.replicate (Int.toNat p0.1) (false : Bool))) 1]⟩) (SemJ.loop (L31_0_ok p1 p0.1 p0.2 fuel 0 (List.replicate (Int.toNat p0.1) (false : Bool)) _ h8)) (Weak.eq (congrArg (fun ZZ : Nat => (⟨[(1, .p (.int .i64 p1)), (2, .p (.ref [.int .i64 p0.1, .sl (List.map e62 p0.2) false])), (6, .msl 0 0 ZZ (List.length (rowI e4 (List.replicate (Int.toNat p0.1) (false : Bool)))) true), (7, .p (.int .i64 0))], [.cells (rowI e4 (List.replicate (Int.toNat p0.1) (false : Bool))) 1]⟩ : St)) (Eq.symm (List.length_replicate : List.length (List.replicate (Int.toNat p0.1) (false : Bool)) = (Int.toNat p0.1)))))) (ai (SemJ.loop (L31_7_ok p0.1 p0.2 y2 fuel 0 _ h9)) trivial))))))))))))) (by kernel_rfl)) (e := .ret) rfl (vs := [.p (.sl (List.map e3 y3) false), .p (.int .i64 0)]) trivial (by kernel_rfl) (.tup _ _ (.cons _ _ _ _ (.p _ _ (.refl _)) (.cons _ _ _ _ (.p _ _ (.refl _)) .nil)))
def L59_1  (v1 : Int) (v1_1 : (List (Int × Int))) (w1 : Int) : Nat → Int → (List (Int × Int)) → Option (List (Int × Int))
  | 0, _, _ => none
  | fuel + 1, v4, w2 =>
    oif ((decide (v4 < (v1_1.length : Int))))
    (obind (sg v1_1 v4) fun x1 => oif (decide (((List.length w2) + 1) * 16 ≤ 140737488355328)) (L59_1 v1 v1_1 w1 fuel (IntKind.wrap .i64 (v4 + 1)) (w2 ++ [((IntKind.wrap .i64 ((IntKind.wrap .i64 (v1 - 1)) - x1.2)), (IntKind.wrap .i64 ((IntKind.wrap .i64 (v1 - 1)) - x1.1)))])) none)
    (some (w2))
noncomputable def L59_1_post (v1 : Int) (v1_1 : (List (Int × Int))) (w1 : Int)  : (List (Int × Int)) → Ex × St
  | y => ((.exit 0), ⟨[(2, .ptr 0 0 2), (3, .ptr 1 0 2)], [.cells [.p (.int .i64 0), .p (.nilsl)] 0, .cells [.p (.int .i64 w1), .msl 2 0 (List.length y) (List.length (rowI e62 y)) false] 0, .cells (rowI e62 y) 2]⟩)
theorem L59_1_ok  (v1 : Int) (v1_1 : (List (Int × Int))) (w1 : Int)  : ∀ (fuel : Nat) (v4 : Int) (w2 : (List (Int × Int))) (r : (List (Int × Int))), L59_1 v1 v1_1 w1 fuel v4 w2 = some r →
    SemJ prog ⟨42, 0, false⟩ (codeAt [1, 1, 0, 1, 0, 0] (bodyOf f59)) ⟨[(1, .p (.ref [.int .i64 v1, .sl (List.map e62 v1_1) false])), (2, .ptr 0 0 2), (3, .ptr 1 0 2), (4, .p (.int .i64 v4))], [.cells [.p (.int .i64 0), .p (.nilsl)] 0, .cells [.p (.int .i64 w1), .msl 2 0 (List.length w2) (List.length (rowI e62 w2)) false] 0, .cells (rowI e62 w2) 2]⟩ (L59_1_post v1 v1_1 w1 r).1 (L59_1_post v1 v1_1 w1 r).2
  | 0, _, _, _, h => nomatch h
  | fuel + 1, v4, w2, r, h => by
    unfold L59_1 at h
    refine oif_elim h (fun h1 g1 => ?_) (fun h1 g1 => ?_)
    · refine obind_elim g1 fun x1 h2 g2 => ?_
      refine oif_elim g2 (fun h3 g3 => ?_) (fun _ h => nomatch h)
      exact SemJ.again (σ1 := ⟨[(1, .p (.ref [.int .i64 v1, .sl (List.map e62 v1_1) false])), (2, .ptr 0 0 2), (3, .ptr 1 0 2), (4, .p (.int .i64 (IntKind.wrap .i64 (v4 + 1))))], [.cells [.p (.int .i64 0), .p (.nilsl)] 0, .cells [.p (.int .i64 w1), .msl 2 0 (List.length (w2 ++ [((IntKind.wrap .i64 ((IntKind.wrap .i64 (v1 - 1)) - x1.2)), (IntKind.wrap .i64 ((IntKind.wrap .i64 (v1 - 1)) - x1.1)))])) (List.length (rowI e62 (w2 ++ [((IntKind.wrap .i64 ((IntKind.wrap .i64 (v1 - 1)) - x1.2)), (IntKind.wrap .i64 ((IntKind.wrap .i64 (v1 - 1)) - x1.1)))]))) false] 0, .cells (rowI e62 (w2 ++ [((IntKind.wrap .i64 ((IntKind.wrap .i64 (v1 - 1)) - x1.2)), (IntKind.wrap .i64 ((IntKind.wrap .i64 (v1 - 1)) - x1.1)))])) 2]⟩) (path hm (σ' := ⟨[(1, .p (.ref [.int .i64 v1, .sl (List.map e62 v1_1) false])), (2, .ptr 0 0 2), (3, .ptr 1 0 2), (4, .p (.int .i64 (IntKind.wrap .i64 (v4 + 1))))], [.cells [.p (.int .i64 0), .p (.nilsl)] 0, .cells [.p (.int .i64 w1), .msl 2 0 (List.length (w2 ++ [((IntKind.wrap .i64 ((IntKind.wrap .i64 (v1 - 1)) - x1.2)), (IntKind.wrap .i64 ((IntKind.wrap .i64 (v1 - 1)) - x1.1)))])) (List.length (rowI e62 (w2 ++ [((IntKind.wrap .i64 ((IntKind.wrap .i64 (v1 - 1)) - x1.2)), (IntKind.wrap .i64 ((IntKind.wrap .i64 (v1 - 1)) - x1.1)))]))) false] 0, .cells (rowI e62 (w2 ++ [((IntKind.wrap .i64 ((IntKind.wrap .i64 (v1 - 1)) - x1.2)), (IntKind.wrap .i64 ((IntKind.wrap .i64 (v1 - 1)) - x1.1)))])) 2]⟩) (ks := [1, 2, 3, 4]) (cc := [.reg [] [] 0 [(3, none, .n (v1_1.length : Int)), (4, none, .b true)] [1, 2, 3, 4, 12], .reg [0, 1, 0, 4, 12, 0, 32, 0, 224, 480, 992, 2044, 0, 4096, 12288, 0, 32768, 0, 229376, 491520, 1015808, 2093056, 4194300, 8388604, 16777215, 33554431, 67108863] [(2, 24), (1, 26)] 0 [(8, none, .iv (.p (.agg [.int .i64 x1.1, .int .i64 x1.2]))), (18, none, .iv (.p (.agg [.int .i64 x1.1, .int .i64 x1.2]))), (24, none, .ap (rowI e62 (w2 ++ [((IntKind.wrap .i64 ((IntKind.wrap .i64 (v1 - 1)) - x1.2)), (IntKind.wrap .i64 ((IntKind.wrap .i64 (v1 - 1)) - x1.1)))])) (List.length (w2 ++ [((IntKind.wrap .i64 ((IntKind.wrap .i64 (v1 - 1)) - x1.2)), (IntKind.wrap .i64 ((IntKind.wrap .i64 (v1 - 1)) - x1.1)))])) (List.length (rowI e62 (w2 ++ [((IntKind.wrap .i64 ((IntKind.wrap .i64 (v1 - 1)) - x1.2)), (IntKind.wrap .i64 ((IntKind.wrap .i64 (v1 - 1)) - x1.1)))]))))] [1, 2, 3, 4], .reg [] [] 0 [] [1, 2, 3, 4]])
        (ai (len_map e62 v1_1) (ai h1 (ai (sg_map (f := e62) h2) (ai (by decide : (0:Int) ≤ 1) (ai (by decide : (1:Int) < ((2:Nat):Int)) (ai (sg_map (f := e62) h2) (ai (by decide : (0:Int) ≤ 0) (ai (by decide : (0:Int) < ((2:Nat):Int)) (ai (by decide : 0 < 1) (ai (od h3) (ai (app_c2 (by decide) (od h3)) (ai (app_len e62 [((IntKind.wrap .i64 ((IntKind.wrap .i64 (v1 - 1)) - x1.2)), (IntKind.wrap .i64 ((IntKind.wrap .i64 (v1 - 1)) - x1.1)))] (rl (List.length w2))) (ai (rl (List.length (rowI e62 (w2 ++ [((IntKind.wrap .i64 ((IntKind.wrap .i64 (v1 - 1)) - x1.2)), (IntKind.wrap .i64 ((IntKind.wrap .i64 (v1 - 1)) - x1.1)))])))) (ai (row_app e62 w2 [((IntKind.wrap .i64 ((IntKind.wrap .i64 (v1 - 1)) - x1.2)), (IntKind.wrap .i64 ((IntKind.wrap .i64 (v1 - 1)) - x1.1)))]) (ai (rl (List.length (rowI e62 w2))) (ai (row_sz el62 (rl (List.length (rowI e62 w2))) (rl (List.length w2))) (ai (row_sc el62 [((IntKind.wrap .i64 ((IntKind.wrap .i64 (v1 - 1)) - x1.2)), (IntKind.wrap .i64 ((IntKind.wrap .i64 (v1 - 1)) - x1.1)))]) (ai (row_es el62 [((IntKind.wrap .i64 ((IntKind.wrap .i64 (v1 - 1)) - x1.2)), (IntKind.wrap .i64 ((IntKind.wrap .i64 (v1 - 1)) - x1.1)))]) trivial)))))))))))))))))) (by kernel_rfl)) (L59_1_ok v1 v1_1 w1 fuel (IntKind.wrap .i64 (v4 + 1)) (w2 ++ [((IntKind.wrap .i64 ((IntKind.wrap .i64 (v1 - 1)) - x1.2)), (IntKind.wrap .i64 ((IntKind.wrap .i64 (v1 - 1)) - x1.1)))]) _ g3)
    · have hr := Option.some.inj g1
      subst hr
      exact SemC.cast (SemJ.out (e := (.exit 0)) (path hm (σ' := ⟨[(2, .ptr 0 0 2), (3, .ptr 1 0 2)], [.cells [.p (.int .i64 0), .p (.nilsl)] 0, .cells [.p (.int .i64 w1), .msl 2 0 (List.length w2) (List.length (rowI e62 w2)) false] 0, .cells (rowI e62 w2) 2]⟩) (ks := [2, 3]) (cc := [.reg [] [] 0 [(3, none, .n (v1_1.length : Int)), (4, none, .b false)] [1, 2, 3, 4, 12]])
        (ai (len_map e62 v1_1) (ai h1 trivial)) (by kernel_rfl)) (by simp)) (by kernel_rfl) (by kernel_rfl)
def L59_0  (v1 : Int) (v1_1 : (List (Int × Int))) (w1 : Int) : Nat → Option ((List (Int × Int)) ⊕ Unit)
  | 0 => none
  | fuel + 1 =>
    oif ((decide (0 < (v1_1.length : Int))))
    (obind (sg v1_1 0) fun x1 => oif (decide (1 * 16 ≤ 140737488355328)) (obind (L59_1 v1 v1_1 w1 fuel 1 [((IntKind.wrap .i64 ((IntKind.wrap .i64 (v1 - 1)) - x1.2)), (IntKind.wrap .i64 ((IntKind.wrap .i64 (v1 - 1)) - x1.1)))]) fun y2 => some (.inl y2)) none)
    (some (.inr (())))
noncomputable def L59_0_post (v1 : Int) (v1_1 : (List (Int × Int))) (w1 : Int)  : ((List (Int × Int)) ⊕ Unit) → Ex × St
  | .inl y => ((.exit 0), ⟨[(2, .ptr 0 0 2), (3, .ptr 1 0 2)], [.cells [.p (.int .i64 0), .p (.nilsl)] 0, .cells [.p (.int .i64 w1), .msl 2 0 (List.length y) (List.length (rowI e62 y)) false] 0, .cells (rowI e62 y) 2]⟩)
  | .inr (y) => ((.exit 0), ⟨[(2, .ptr 0 0 2), (3, .ptr 1 0 2)], [.cells [.p (.int .i64 0), .p (.nilsl)] 0, .cells [.p (.int .i64 w1), .p (.nilsl)] 0]⟩)
theorem L59_0_ok  (v1 : Int) (v1_1 : (List (Int × Int))) (w1 : Int)  : ∀ (fuel : Nat)  (r : ((List (Int × Int)) ⊕ Unit)), L59_0 v1 v1_1 w1 fuel  = some r →
    SemJ prog ⟨42, 0, false⟩ (codeAt [1, 1, 0, 1, 0, 0] (bodyOf f59)) ⟨[(1, .p (.ref [.int .i64 v1, .sl (List.map e62 v1_1) false])), (2, .ptr 0 0 2), (3, .ptr 1 0 2), (4, .p (.int .i64 0))], [.cells [.p (.int .i64 0), .p (.nilsl)] 0, .cells [.p (.int .i64 w1), .p (.nilsl)] 0]⟩ (L59_0_post v1 v1_1 w1 r).1 (L59_0_post v1 v1_1 w1 r).2
  | 0, _, h => nomatch h
  | fuel + 1, r, h => by
    unfold L59_0 at h
    refine oif_elim h (fun h1 g1 => ?_) (fun h1 g1 => ?_)
    · refine obind_elim g1 fun x1 h2 g2 => ?_
      refine oif_elim g2 (fun h3 g3 => ?_) (fun _ h => nomatch h)
      refine obind_elim g3 fun y2 h4 g4 => ?_
      have hr := Option.some.inj g4
      subst hr
      exact SemC.cast (SemJ.again (σ1 := ⟨[(1, .p (.ref [.int .i64 v1, .sl (List.map e62 v1_1) false])), (2, .ptr 0 0 2), (3, .ptr 1 0 2), (4, .p (.int .i64 1))], [.cells [.p (.int .i64 0), .p (.nilsl)] 0, .cells [.p (.int .i64 w1), .msl 2 0 (List.length [((IntKind.wrap .i64 ((IntKind.wrap .i64 (v1 - 1)) - x1.2)), (IntKind.wrap .i64 ((IntKind.wrap .i64 (v1 - 1)) - x1.1)))]) (List.length (rowI e62 [((IntKind.wrap .i64 ((IntKind.wrap .i64 (v1 - 1)) - x1.2)), (IntKind.wrap .i64 ((IntKind.wrap .i64 (v1 - 1)) - x1.1)))])) false] 0, .cells (rowI e62 [((IntKind.wrap .i64 ((IntKind.wrap .i64 (v1 - 1)) - x1.2)), (IntKind.wrap .i64 ((IntKind.wrap .i64 (v1 - 1)) - x1.1)))]) 2]⟩) (path hm (σ' := ⟨[(1, .p (.ref [.int .i64 v1, .sl (List.map e62 v1_1) false])), (2, .ptr 0 0 2), (3, .ptr 1 0 2), (4, .p (.int .i64 1))], [.cells [.p (.int .i64 0), .p (.nilsl)] 0, .cells [.p (.int .i64 w1), .msl 2 0 (List.length [((IntKind.wrap .i64 ((IntKind.wrap .i64 (v1 - 1)) - x1.2)), (IntKind.wrap .i64 ((IntKind.wrap .i64 (v1 - 1)) - x1.1)))]) (List.length (rowI e62 [((IntKind.wrap .i64 ((IntKind.wrap .i64 (v1 - 1)) - x1.2)), (IntKind.wrap .i64 ((IntKind.wrap .i64 (v1 - 1)) - x1.1)))])) false] 0, .cells (rowI e62 [((IntKind.wrap .i64 ((IntKind.wrap .i64 (v1 - 1)) - x1.2)), (IntKind.wrap .i64 ((IntKind.wrap .i64 (v1 - 1)) - x1.1)))]) 2]⟩) (ks := [1, 2, 3, 4]) (cc := [.reg [] [] 0 [(3, none, .n (v1_1.length : Int)), (4, none, .b true)] [1, 2, 3, 4, 12], .reg [0, 1, 0, 4, 12, 0, 32, 0, 224, 480, 992, 2044, 0, 4096, 12288, 0, 32768, 0, 229376, 491520, 1015808, 2093056, 4194300, 8388604, 16777215, 33554431, 67108863] [(2, 24), (1, 26)] 1 [(8, none, .iv (.p (.agg [.int .i64 x1.1, .int .i64 x1.2]))), (18, none, .iv (.p (.agg [.int .i64 x1.1, .int .i64 x1.2]))), (24, some 2, .ap (rowI e62 [((IntKind.wrap .i64 ((IntKind.wrap .i64 (v1 - 1)) - x1.2)), (IntKind.wrap .i64 ((IntKind.wrap .i64 (v1 - 1)) - x1.1)))]) (List.length [((IntKind.wrap .i64 ((IntKind.wrap .i64 (v1 - 1)) - x1.2)), (IntKind.wrap .i64 ((IntKind.wrap .i64 (v1 - 1)) - x1.1)))]) (List.length (rowI e62 [((IntKind.wrap .i64 ((IntKind.wrap .i64 (v1 - 1)) - x1.2)), (IntKind.wrap .i64 ((IntKind.wrap .i64 (v1 - 1)) - x1.1)))])))] [1, 2, 3, 4], .reg [] [] 0 [] [1, 2, 3, 4]])
        (ai (len_map e62 v1_1) (ai h1 (ai (sg_map (f := e62) h2) (ai (by decide : (0:Int) ≤ 1) (ai (by decide : (1:Int) < ((2:Nat):Int)) (ai (sg_map (f := e62) h2) (ai (by decide : (0:Int) ≤ 0) (ai (by decide : (0:Int) < ((2:Nat):Int)) (ai (by decide : 0 < 1) (ai (od h3) (ai (app_c0 (by decide) (od h3)) (ai (rl (List.length [((IntKind.wrap .i64 ((IntKind.wrap .i64 (v1 - 1)) - x1.2)), (IntKind.wrap .i64 ((IntKind.wrap .i64 (v1 - 1)) - x1.1)))])) (ai (rl (List.length (rowI e62 [((IntKind.wrap .i64 ((IntKind.wrap .i64 (v1 - 1)) - x1.2)), (IntKind.wrap .i64 ((IntKind.wrap .i64 (v1 - 1)) - x1.1)))]))) (ai (row_src e62 [((IntKind.wrap .i64 ((IntKind.wrap .i64 (v1 - 1)) - x1.2)), (IntKind.wrap .i64 ((IntKind.wrap .i64 (v1 - 1)) - x1.1)))]) (ai (row_sc el62 [((IntKind.wrap .i64 ((IntKind.wrap .i64 (v1 - 1)) - x1.2)), (IntKind.wrap .i64 ((IntKind.wrap .i64 (v1 - 1)) - x1.1)))]) (ai (row_es el62 [((IntKind.wrap .i64 ((IntKind.wrap .i64 (v1 - 1)) - x1.2)), (IntKind.wrap .i64 ((IntKind.wrap .i64 (v1 - 1)) - x1.1)))]) trivial)))))))))))))))) (by kernel_rfl)) (L59_1_ok v1 v1_1 w1 fuel 1 [((IntKind.wrap .i64 ((IntKind.wrap .i64 (v1 - 1)) - x1.2)), (IntKind.wrap .i64 ((IntKind.wrap .i64 (v1 - 1)) - x1.1)))] _ h4)) (by kernel_rfl) (by kernel_rfl)
    · have hr := Option.some.inj g1
      subst hr
      exact SemC.cast (SemJ.out (e := (.exit 0)) (path hm (σ' := ⟨[(2, .ptr 0 0 2), (3, .ptr 1 0 2)], [.cells [.p (.int .i64 0), .p (.nilsl)] 0, .cells [.p (.int .i64 w1), .p (.nilsl)] 0]⟩) (ks := [2, 3]) (cc := [.reg [] [] 0 [(3, none, .n (v1_1.length : Int)), (4, none, .b false)] [1, 2, 3, 4, 12]])
        (ai (len_map e62 v1_1) (ai h1 trivial)) (by kernel_rfl)) (by simp)) (by kernel_rfl) (by kernel_rfl)
def F59  (fuel : Nat) (p0 : (Int × (List (Int × Int)))) : Option (Int × (List (Int × Int))) :=
  (obind (L59_0 p0.1 p0.2 p0.1 fuel ) fun y1 => match y1 with
  | .inl y1 => some (p0.1, y1)
  | .inr (y1) => some (p0.1, []))
theorem F59_ok  (fuel : Nat) (p0 : (Int × (List (Int × Int))))  (r : (Int × (List (Int × Int)))) (h : F59 fuel p0 = some r) : CallP prog 59 [.agg [.int .i64 p0.1, .sl (List.map e62 p0.2) false]] (.agg [.int .i64 r.1, .sl (List.map e62 r.2) false]) := by
  unfold F59 at h
  let c193 : List CC := [.reg [] [] 1 [(0, none, .imm), (1, some 0, .a)] [1, 2], .reg [] [] 1 [(3, some 1, .a)] [1, 2, 3], .reg [] [] 0 [] [1, 2, 3, 4]]
  refine obind_elim h fun y h1 g1 => ?_
  match y, h1, g1 with
  | .inl y1, h1, g1 =>
    have hr := Option.some.inj g1
    subst hr
    exact callP_of is59 rfl (path hm (ks := [2]) (σ' := ⟨[(2, .ptr 0 0 2)], [.cells [.p (.int .i64 p0.1), .msl 2 0 (List.length y1) (List.length (rowI e62 y1)) false] 0, .cells [.p (.int .i64 p0.1), .msl 2 0 (List.length y1) (List.length (rowI e62 y1)) false] 0, .cells (rowI e62 y1) 2]⟩) (cc := c193 ++ [.leaf (.exit 0) ⟨[(2, .ptr 0 0 2), (3, .ptr 1 0 2)], [.cells [.p (.int .i64 0), .p (.nilsl)] 0, .cells [.p (.int .i64 p0.1), .msl 2 0 (List.length y1) (List.length (rowI e62 y1)) false] 0, .cells (rowI e62 y1) 2]⟩, .reg [] [] 0 [] [2]])
      (ai (SemJ.loop (L59_0_ok p0.1 p0.2 p0.1 fuel  _ h1)) trivial) (by kernel_rfl)) (e := .ret) rfl (vs := [.agg [.p (.int .i64 p0.1), .msl 2 0 (List.length y1) (List.length (rowI e62 y1)) false]]) (ai (rfl : (2:Nat) = 2) (ai (by decide : (2:Nat) ≤ 2) trivial)) (by kernel_rfl) (.agg _ _ (.cons _ _ _ _ (.p _ _ (.refl _)) (.cons _ _ _ _ (snap_row (g := 2) (L := y1) el62 (by kernel_rfl) (rl (List.length (rowI e62 y1))) (rl (List.length y1))) .nil)))
  | .inr (y1), h1, g1 =>
    have hr := Option.some.inj g1
    subst hr
    exact callP_of is59 rfl (path hm (ks := [2]) (σ' := ⟨[(2, .ptr 0 0 2)], [.cells [.p (.int .i64 p0.1), .p (.nilsl)] 0, .cells [.p (.int .i64 p0.1), .p (.nilsl)] 0]⟩) (cc := c193 ++ [.leaf (.exit 0) ⟨[(2, .ptr 0 0 2), (3, .ptr 1 0 2)], [.cells [.p (.int .i64 0), .p (.nilsl)] 0, .cells [.p (.int .i64 p0.1), .p (.nilsl)] 0]⟩, .reg [] [] 0 [] [2]])
      (ai (SemJ.loop (L59_0_ok p0.1 p0.2 p0.1 fuel  _ h1)) trivial) (by kernel_rfl)) (e := .ret) rfl (vs := [.agg [.p (.int .i64 p0.1), .p (.nilsl)]]) (ai (rfl : (2:Nat) = 2) (ai (by decide : (2:Nat) ≤ 2) trivial)) (by kernel_rfl) (.agg _ _ (.cons _ _ _ _ (.p _ _ (.refl _)) (.cons _ _ _ _ (.p _ _ (.nil _)) .nil)))
def F33  (fuel : Nat) (p0 : (Int × (List (Int × Int)))) : Option ((Int × (List (Int × Int))) × Int) :=
  obind (F12 fuel (p0.1, p0.2)) fun r1 => oif ((r1 != 0))
  (some ((0, []), r1))
  (obind (F59 fuel (p0.1, p0.2)) fun r2 => some ((r2.1, r2.2), 0))
theorem F33_ok  (fuel : Nat) (p0 : (Int × (List (Int × Int))))  (r : ((Int × (List (Int × Int))) × Int)) (h : F33 fuel p0 = some r) : CallP prog 33 [.agg [.int .i64 p0.1, .sl (List.map e62 p0.2) false]] (.tup [.agg [.int .i64 r.1.1, .sl (List.map e62 r.1.2) false], .int .i64 r.2]) := by
  unfold F33 at h
  refine obind_elim h fun r1 h1 g1 => ?_
  refine oif_elim g1 (fun h2 g2 => ?_) (fun h2 g2 => ?_)
  · have hr := Option.some.inj g2
    subst hr
    exact callP_of is33 rfl (path hm (ks := [2, 3]) (σ' := ⟨[(2, .ptr 0 0 2), (3, .p (.int .i64 r1))], [.cells [.p (.int .i64 0), .p (.nilsl)] 0]⟩) (cc := [.reg [] [] 1 [(0, none, .imm), (1, some 0, .a)] [1, 2], .reg [] [] 0 [(1, none, .call (.int .i64 r1)), (2, none, .b true)] [1, 2, 6], .reg [] [] 0 [(2, none, .call (.int .i64 r1))] [2, 3]])
      (ai (F12_ok fuel (p0.1, p0.2) _ h1) (ai h2 (ai (F12_ok fuel (p0.1, p0.2) _ h1) trivial))) (by kernel_rfl)) (e := .ret) rfl (vs := [.agg [.p (.int .i64 0), .p (.nilsl)], .p (.int .i64 r1)]) (ai (rfl : (2:Nat) = 2) (ai (by decide : (2:Nat) ≤ 2) trivial)) (by kernel_rfl) (.tup _ _ (.cons _ _ _ _ (.agg _ _ (.cons _ _ _ _ (.p _ _ (.refl _)) (.cons _ _ _ _ (.p _ _ (.nil _)) .nil))) (.cons _ _ _ _ (.p _ _ (.refl _)) .nil)))
  · refine obind_elim g2 fun r2 h3 g3 => ?_
    have hr := Option.some.inj g3
    subst hr
    exact callP_of is33 rfl (path hm (ks := [2, 3]) (σ' := ⟨[(2, .ptr 0 0 2), (3, .p (.int .i64 0))], [.cells [.p (.int .i64 r2.1), .p (.sl (List.map e62 r2.2) false)] 0]⟩) (cc := [.reg [] [] 1 [(0, none, .imm), (1, some 0, .a)] [1, 2], .reg [] [] 0 [(1, none, .call (.int .i64 r1)), (2, none, .b false)] [1, 2, 6], .reg [] [] 0 [(1, none, .call (.agg [.int .i64 r2.1, .sl (List.map e62 r2.2) false]))] [2, 3]])
      (ai (F12_ok fuel (p0.1, p0.2) _ h1) (ai h2 (ai (F59_ok fuel (p0.1, p0.2) _ h3) trivial))) (by kernel_rfl)) (e := .ret) rfl (vs := [.agg [.p (.int .i64 r2.1), .p (.sl (List.map e62 r2.2) false)], .p (.int .i64 0)]) (ai (rfl : (2:Nat) = 2) (ai (by decide : (2:Nat) ≤ 2) trivial)) (by kernel_rfl) (.tup _ _ (.cons _ _ _ _ (.agg _ _ (.cons _ _ _ _ (.p _ _ (.refl _)) (.cons _ _ _ _ (.p _ _ (.refl _)) .nil))) (.cons _ _ _ _ (.p _ _ (.refl _)) .nil)))
def F5  (fuel : Nat) (p0 : (Int × (List (Int × Int)))) (p1 : Int) : Option Bool :=
  obind (F6 fuel (p0.1, p0.2)) fun r1 => oif (r1)
  (obind (F7 fuel) fun r2 => oif (r2)
    (some true)
    (some false))
  (obind (F8 fuel (p0.1, p0.2)) fun r2 => obind (F24 fuel (p0.1, p0.2)) fun r3 => obind (F25 fuel (r2.1, r2.2)) fun r4 => obind (F26 fuel (p0.1, p0.2)) fun r5 => obind (F27 fuel (r2.1, r2.2)) fun r6 => obind (F28 fuel (p0.1, p0.2)) fun r7 => obind (F29 fuel (r2.1, r2.2)) fun r8 => obind (F23 fuel r3.1 r4.1) fun r9 => oif (r9)
    (oif ((r3.2 != r4.2))
      (some false)
      (obind (F14 fuel (r5.1.1, r5.1.2) (r6.1.1, r6.1.2)) fun r10 => oif (r10)
        (oif ((r5.2 != r6.2))
          (some false)
          (obind (F23 fuel r7.1 r8.1) fun r11 => oif (r11)
            (oif ((r7.2 != r8.2))
              (some false)
              (obind (F30 fuel (p0.1, p0.2) p1) fun r12 => obind (F31 fuel (r2.1, r2.2) p1) fun r13 => obind (F32 fuel (p0.1, p0.2)) fun r14 => obind (F33 fuel (r2.1, r2.2)) fun r15 => obind (F23 fuel r12.1 r13.1) fun r16 => oif (r16)
                (oif ((r12.2 == r13.2))
                  (obind (F14 fuel (r14.1.1, r14.1.2) (r15.1.1, r15.1.2)) fun r17 => oif (r17)
                    (oif ((r14.2 == r15.2))
                      (obind (F14 fuel (p0.1, p0.2) (r2.1, r2.2)) fun r18 => oif (r18)
                        (obind (F7 fuel) fun r19 => oif (r19)
                          (some true)
                          (some false))
                        (some false))
                      (some false))
                    (some false))
                  (some false))
                (some false)))
            (some false)))
        (some false)))
    (some false))
theorem F5_ok  (fuel : Nat) (p0 : (Int × (List (Int × Int)))) (p1 : Int)  (r : Bool) (h : F5 fuel p0 p1 = some r) : CallP prog 5 [.agg [.int .i64 p0.1, .sl (List.map e62 p0.2) false], .int .i64 p1] (.bool r) := by
  unfold F5 at h
  refine obind_elim h fun r1 h1 g1 => ?_
  let c194 : List CC := [.reg [] [] 0 [(0, none, .imm)] [1, 2]]
  have q195 := fun {P : Prop} (t : P) => ai (F6_ok fuel (p0.1, p0.2) _ h1) t
  refine oif_elim g1 (fun h2 g2 => ?_) (fun h2 g2 => ?_)
  · subst h2
    refine obind_elim g2 fun r2 h3 g3 => ?_
    refine oif_elim g3 (fun h4 g4 => ?_) (fun h4 g4 => ?_)
    · subst h4
      have hr := Option.some.inj g4
      subst hr
      exact callP_of is5 rfl (path hm (ks := [4]) (σ' := ⟨[(4, .p (.bool true))], []⟩) (cc := c194 ++ [.reg [] [] 0 [(1, none, .call (.bool true))] [1, 2, 23], .reg [] [] 0 [(0, none, .call (.bool true))] [4]])
      (q195 (ai (F7_ok fuel  _ h3) trivial)) (by kernel_rfl)) (e := .ret) rfl (vs := [.p (.bool true)]) trivial (by kernel_rfl) (.p _ _ (.refl _))
    · subst h4
      have hr := Option.some.inj g4
      subst hr
      exact callP_of is5 rfl (path hm (ks := [4]) (σ' := ⟨[(4, .p (.bool false))], []⟩) (cc := c194 ++ [.reg [] [] 0 [(1, none, .call (.bool true))] [1, 2, 23], .reg [] [] 0 [(0, none, .call (.bool false))] [4]])
      (q195 (ai (F7_ok fuel  _ h3) trivial)) (by kernel_rfl)) (e := .ret) rfl (vs := [.p (.bool false)]) trivial (by kernel_rfl) (.p _ _ (.refl _))
  · subst h2
    refine obind_elim g2 fun r2 h3 g3 => ?_
    refine obind_elim g3 fun r3 h4 g4 => ?_
    refine obind_elim g4 fun r4 h5 g5 => ?_
    refine obind_elim g5 fun r5 h6 g6 => ?_
    refine obind_elim g6 fun r6 h7 g7 => ?_
    refine obind_elim g7 fun r7 h8 g8 => ?_
    refine obind_elim g8 fun r8 h9 g9 => ?_
    refine obind_elim g9 fun r9 h10 g10 => ?_
    let c196 : List CC := c194 ++ [.reg [] [] 0 [(1, none, .call (.bool false))] [1, 2, 23], .reg [] [] 1 [(1, none, .call (.agg [.int .i64 r2.1, .sl (List.map e62 r2.2) false])), (2, some 0, .a)] [1, 2, 5], .reg [] [] 0 [(1, none, .call (.tup [.sl (List.map e3 r3.1) false, .int .i64 r3.2]))] [1, 2, 5, 6, 7], .reg [] [] 0 [(1, none, .call (.tup [.sl (List.map e3 r4.1) false, .int .i64 r4.2]))] [1, 2, 5, 6, 7, 8, 9], .reg [] [] 1 [(1, none, .call (.tup [.agg [.int .i64 r5.1.1, .sl (List.map e62 r5.1.2) false], .int .i64 r5.2])), (5, some 1, .a)] [1, 2, 5, 6, 7, 8, 9, 10, 11], .reg [] [] 1 [(1, none, .call (.tup [.agg [.int .i64 r6.1.1, .sl (List.map e62 r6.1.2) false], .int .i64 r6.2])), (5, some 2, .a)] [1, 2, 5, 6, 7, 8, 9, 10, 11, 12, 13], .reg [] [] 0 [(1, none, .call (.tup [.sl (List.map e3 r7.1) false, .int .i64 r7.2]))] [1, 2, 5, 6, 7, 8, 9, 10, 11, 12, 13, 14, 15], .reg [] [] 0 [(1, none, .call (.tup [.sl (List.map e3 r8.1) false, .int .i64 r8.2]))] [1, 2, 5, 6, 7, 8, 9, 10, 11, 12, 13, 14, 15, 16, 17]]
    have q197 := fun {P : Prop} (t : P) => ai (F8_ok fuel (p0.1, p0.2) _ h3) (ai (F24_ok fuel (p0.1, p0.2) _ h4) (ai (F25_ok fuel (r2.1, r2.2) _ h5) (ai (F26_ok fuel (p0.1, p0.2) _ h6) (ai (F27_ok fuel (r2.1, r2.2) _ h7) (ai (F28_ok fuel (p0.1, p0.2) _ h8) (ai (F29_ok fuel (r2.1, r2.2) _ h9) (ai (F23_ok fuel r3.1 r4.1 false false _ h10) t)))))))
    refine oif_elim g10 (fun h11 g11 => ?_) (fun h11 g11 => ?_)
    · subst h11
      refine oif_elim g11 (fun h12 g12 => ?_) (fun h12 g12 => ?_)
      · have hr := Option.some.inj g12
        subst hr
        exact callP_of is5 rfl (path hm (ks := [4]) (σ' := ⟨[(4, .p (.bool false))], [.cells [.p (.int .i64 r2.1), .p (.sl (List.map e62 r2.2) false)] 0, .cells [.p (.int .i64 r5.1.1), .p (.sl (List.map e62 r5.1.2) false)] 0, .cells [.p (.int .i64 r6.1.1), .p (.sl (List.map e62 r6.1.2) false)] 0]⟩) (cc := c196 ++ [.reg [] [] 0 [(2, none, .call (.bool true)), (7, none, .b true)] [1, 2, 5, 87], .reg [] [] 0 [] [4]])
      (q195 (q197 (ai h12 trivial))) (by kernel_rfl)) (e := .ret) rfl (vs := [.p (.bool false)]) trivial (by kernel_rfl) (.p _ _ (.refl _))
      · refine obind_elim g12 fun r10 h13 g13 => ?_
        have q198 := fun {P : Prop} (t : P) => ai h12 (ai (F14_ok fuel (r5.1.1, r5.1.2) (r6.1.1, r6.1.2) _ h13) t)
        refine oif_elim g13 (fun h14 g14 => ?_) (fun h14 g14 => ?_)
        · subst h14
          refine oif_elim g14 (fun h15 g15 => ?_) (fun h15 g15 => ?_)
          · have hr := Option.some.inj g15
            subst hr
            exact callP_of is5 rfl (path hm (ks := [4]) (σ' := ⟨[(4, .p (.bool false))], [.cells [.p (.int .i64 r2.1), .p (.sl (List.map e62 r2.2) false)] 0, .cells [.p (.int .i64 r5.1.1), .p (.sl (List.map e62 r5.1.2) false)] 0, .cells [.p (.int .i64 r6.1.1), .p (.sl (List.map e62 r6.1.2) false)] 0]⟩) (cc := c196 ++ [.reg [] [] 0 [(2, none, .call (.bool true)), (7, none, .b false), (12, none, .call (.bool true)), (18, none, .b true)] [1, 2, 5, 87], .reg [] [] 0 [] [4]])
      (q195 (q197 (q198 (ai h15 trivial)))) (by kernel_rfl)) (e := .ret) rfl (vs := [.p (.bool false)]) trivial (by kernel_rfl) (.p _ _ (.refl _))
          · refine obind_elim g15 fun r11 h16 g16 => ?_
            have q199 := fun {P : Prop} (t : P) => ai h15 (ai (F23_ok fuel r7.1 r8.1 false false _ h16) t)
            refine oif_elim g16 (fun h17 g17 => ?_) (fun h17 g17 => ?_)
            · subst h17
              refine oif_elim g17 (fun h18 g18 => ?_) (fun h18 g18 => ?_)
              · have hr := Option.some.inj g18
                subst hr
                exact callP_of is5 rfl (path hm (ks := [4]) (σ' := ⟨[(4, .p (.bool false))], [.cells [.p (.int .i64 r2.1), .p (.sl (List.map e62 r2.2) false)] 0, .cells [.p (.int .i64 r5.1.1), .p (.sl (List.map e62 r5.1.2) false)] 0, .cells [.p (.int .i64 r6.1.1), .p (.sl (List.map e62 r6.1.2) false)] 0]⟩) (cc := c196 ++ [.reg [] [] 0 [(2, none, .call (.bool true)), (7, none, .b false), (12, none, .call (.bool true)), (18, none, .b false), (23, none, .call (.bool true)), (29, none, .b true)] [1, 2, 5, 87], .reg [] [] 0 [] [4]])
      (q195 (q197 (q198 (q199 (ai h18 trivial))))) (by kernel_rfl)) (e := .ret) rfl (vs := [.p (.bool false)]) trivial (by kernel_rfl) (.p _ _ (.refl _))
              · refine obind_elim g18 fun r12 h19 g19 => ?_
                refine obind_elim g19 fun r13 h20 g20 => ?_
                refine obind_elim g20 fun r14 h21 g21 => ?_
                refine obind_elim g21 fun r15 h22 g22 => ?_
                refine obind_elim g22 fun r16 h23 g23 => ?_
                let c200 : List CC := c196 ++ [.reg [] [] 0 [(2, none, .call (.bool true)), (7, none, .b false), (12, none, .call (.bool true)), (18, none, .b false), (23, none, .call (.bool true)), (29, none, .b false)] [1, 2, 5, 87], .reg [] [] 0 [(2, none, .call (.tup [.sl (List.map e3 r12.1) false, .int .i64 r12.2]))] [1, 2, 5, 7, 18], .reg [] [] 0 [(2, none, .call (.tup [.sl (List.map e3 r13.1) false, .int .i64 r13.2]))] [2, 5, 7, 9, 18, 19], .reg [] [] 1 [(1, none, .call (.tup [.agg [.int .i64 r14.1.1, .sl (List.map e62 r14.1.2) false], .int .i64 r14.2])), (5, some 3, .a)] [2, 5, 7, 9, 11, 18, 19, 20], .reg [] [] 1 [(1, none, .call (.tup [.agg [.int .i64 r15.1.1, .sl (List.map e62 r15.1.2) false], .int .i64 r15.2])), (5, some 4, .a)] [2, 5, 7, 9, 11, 13, 18, 19, 20, 21]]
                have q201 := fun {P : Prop} (t : P) => ai h18 (ai (F30_ok fuel (p0.1, p0.2) p1 _ h19) (ai (F31_ok fuel (r2.1, r2.2) p1 _ h20) (ai (F32_ok fuel (p0.1, p0.2) _ h21) (ai (F33_ok fuel (r2.1, r2.2) _ h22) (ai (F23_ok fuel r12.1 r13.1 false false _ h23) t)))))
                refine oif_elim g23 (fun h24 g24 => ?_) (fun h24 g24 => ?_)
                · subst h24
                  refine oif_elim g24 (fun h25 g25 => ?_) (fun h25 g25 => ?_)
                  · refine obind_elim g25 fun r17 h26 g26 => ?_
                    have q202 := fun {P : Prop} (t : P) => ai h25 (ai (F14_ok fuel (r14.1.1, r14.1.2) (r15.1.1, r15.1.2) _ h26) t)
                    refine oif_elim g26 (fun h27 g27 => ?_) (fun h27 g27 => ?_)
                    · subst h27
                      refine oif_elim g27 (fun h28 g28 => ?_) (fun h28 g28 => ?_)
                      · refine obind_elim g28 fun r18 h29 g29 => ?_
                        refine oif_elim g29 (fun h30 g30 => ?_) (fun h30 g30 => ?_)
                        · subst h30
                          refine obind_elim g30 fun r19 h31 g31 => ?_
                          refine oif_elim g31 (fun h32 g32 => ?_) (fun h32 g32 => ?_)
                          · subst h32
                            have hr := Option.some.inj g32
                            subst hr
                            exact callP_of is5 rfl (path hm (ks := [4]) (σ' := ⟨[(4, .p (.bool true))], [.cells [.p (.int .i64 r2.1), .p (.sl (List.map e62 r2.2) false)] 0, .cells [.p (.int .i64 r5.1.1), .p (.sl (List.map e62 r5.1.2) false)] 0, .cells [.p (.int .i64 r6.1.1), .p (.sl (List.map e62 r6.1.2) false)] 0, .cells [.p (.int .i64 r14.1.1), .p (.sl (List.map e62 r14.1.2) false)] 0, .cells [.p (.int .i64 r15.1.1), .p (.sl (List.map e62 r15.1.2) false)] 0]⟩) (cc := c200 ++ [.reg [] [] 0 [(2, none, .call (.bool true)), (6, none, .b true), (11, none, .call (.bool true)), (16, none, .b true), (21, none, .call (.bool true)), (24, none, .call (.bool true))] [4]])
      (q195 (q197 (q198 (q199 (q201 (q202 (ai h28 (ai (F14_ok fuel (p0.1, p0.2) (r2.1, r2.2) _ h29) (ai (F7_ok fuel  _ h31) trivial))))))))) (by kernel_rfl)) (e := .ret) rfl (vs := [.p (.bool true)]) trivial (by kernel_rfl) (.p _ _ (.refl _))
                          · subst h32
                            have hr := Option.some.inj g32
                            subst hr
                            exact callP_of is5 rfl (path hm (ks := [4]) (σ' := ⟨[(4, .p (.bool false))], [.cells [.p (.int .i64 r2.1), .p (.sl (List.map e62 r2.2) false)] 0, .cells [.p (.int .i64 r5.1.1), .p (.sl (List.map e62 r5.1.2) false)] 0, .cells [.p (.int .i64 r6.1.1), .p (.sl (List.map e62 r6.1.2) false)] 0, .cells [.p (.int .i64 r14.1.1), .p (.sl (List.map e62 r14.1.2) false)] 0, .cells [.p (.int .i64 r15.1.1), .p (.sl (List.map e62 r15.1.2) false)] 0]⟩) (cc := c200 ++ [.reg [] [] 0 [(2, none, .call (.bool true)), (6, none, .b true), (11, none, .call (.bool true)), (16, none, .b true), (21, none, .call (.bool true)), (24, none, .call (.bool false))] [4]])
      (q195 (q197 (q198 (q199 (q201 (q202 (ai h28 (ai (F14_ok fuel (p0.1, p0.2) (r2.1, r2.2) _ h29) (ai (F7_ok fuel  _ h31) trivial))))))))) (by kernel_rfl)) (e := .ret) rfl (vs := [.p (.bool false)]) trivial (by kernel_rfl) (.p _ _ (.refl _))
                        · subst h30
                          have hr := Option.some.inj g30
                          subst hr
                          exact callP_of is5 rfl (path hm (ks := [4]) (σ' := ⟨[(4, .p (.bool false))], [.cells [.p (.int .i64 r2.1), .p (.sl (List.map e62 r2.2) false)] 0, .cells [.p (.int .i64 r5.1.1), .p (.sl (List.map e62 r5.1.2) false)] 0, .cells [.p (.int .i64 r6.1.1), .p (.sl (List.map e62 r6.1.2) false)] 0, .cells [.p (.int .i64 r14.1.1), .p (.sl (List.map e62 r14.1.2) false)] 0, .cells [.p (.int .i64 r15.1.1), .p (.sl (List.map e62 r15.1.2) false)] 0]⟩) (cc := c200 ++ [.reg [] [] 0 [(2, none, .call (.bool true)), (6, none, .b true), (11, none, .call (.bool true)), (16, none, .b true), (21, none, .call (.bool false))] [4]])
      (q195 (q197 (q198 (q199 (q201 (q202 (ai h28 (ai (F14_ok fuel (p0.1, p0.2) (r2.1, r2.2) _ h29) trivial)))))))) (by kernel_rfl)) (e := .ret) rfl (vs := [.p (.bool false)]) trivial (by kernel_rfl) (.p _ _ (.refl _))
                      · have hr := Option.some.inj g28
                        subst hr
                        exact callP_of is5 rfl (path hm (ks := [4]) (σ' := ⟨[(4, .p (.bool false))], [.cells [.p (.int .i64 r2.1), .p (.sl (List.map e62 r2.2) false)] 0, .cells [.p (.int .i64 r5.1.1), .p (.sl (List.map e62 r5.1.2) false)] 0, .cells [.p (.int .i64 r6.1.1), .p (.sl (List.map e62 r6.1.2) false)] 0, .cells [.p (.int .i64 r14.1.1), .p (.sl (List.map e62 r14.1.2) false)] 0, .cells [.p (.int .i64 r15.1.1), .p (.sl (List.map e62 r15.1.2) false)] 0]⟩) (cc := c200 ++ [.reg [] [] 0 [(2, none, .call (.bool true)), (6, none, .b true), (11, none, .call (.bool true)), (16, none, .b false)] [4]])
      (q195 (q197 (q198 (q199 (q201 (q202 (ai h28 trivial))))))) (by kernel_rfl)) (e := .ret) rfl (vs := [.p (.bool false)]) trivial (by kernel_rfl) (.p _ _ (.refl _))
                    · subst h27
                      have hr := Option.some.inj g27
                      subst hr
                      exact callP_of is5 rfl (path hm (ks := [4]) (σ' := ⟨[(4, .p (.bool false))], [.cells [.p (.int .i64 r2.1), .p (.sl (List.map e62 r2.2) false)] 0, .cells [.p (.int .i64 r5.1.1), .p (.sl (List.map e62 r5.1.2) false)] 0, .cells [.p (.int .i64 r6.1.1), .p (.sl (List.map e62 r6.1.2) false)] 0, .cells [.p (.int .i64 r14.1.1), .p (.sl (List.map e62 r14.1.2) false)] 0, .cells [.p (.int .i64 r15.1.1), .p (.sl (List.map e62 r15.1.2) false)] 0]⟩) (cc := c200 ++ [.reg [] [] 0 [(2, none, .call (.bool true)), (6, none, .b true), (11, none, .call (.bool false))] [4]])
      (q195 (q197 (q198 (q199 (q201 (q202 trivial)))))) (by kernel_rfl)) (e := .ret) rfl (vs := [.p (.bool false)]) trivial (by kernel_rfl) (.p _ _ (.refl _))
                  · have hr := Option.some.inj g25
                    subst hr
                    exact callP_of is5 rfl (path hm (ks := [4]) (σ' := ⟨[(4, .p (.bool false))], [.cells [.p (.int .i64 r2.1), .p (.sl (List.map e62 r2.2) false)] 0, .cells [.p (.int .i64 r5.1.1), .p (.sl (List.map e62 r5.1.2) false)] 0, .cells [.p (.int .i64 r6.1.1), .p (.sl (List.map e62 r6.1.2) false)] 0, .cells [.p (.int .i64 r14.1.1), .p (.sl (List.map e62 r14.1.2) false)] 0, .cells [.p (.int .i64 r15.1.1), .p (.sl (List.map e62 r15.1.2) false)] 0]⟩) (cc := c200 ++ [.reg [] [] 0 [(2, none, .call (.bool true)), (6, none, .b false)] [4]])
      (q195 (q197 (q198 (q199 (q201 (ai h25 trivial)))))) (by kernel_rfl)) (e := .ret) rfl (vs := [.p (.bool false)]) trivial (by kernel_rfl) (.p _ _ (.refl _))
                · subst h24
                  have hr := Option.some.inj g24
                  subst hr
                  exact callP_of is5 rfl (path hm (ks := [4]) (σ' := ⟨[(4, .p (.bool false))], [.cells [.p (.int .i64 r2.1), .p (.sl (List.map e62 r2.2) false)] 0, .cells [.p (.int .i64 r5.1.1), .p (.sl (List.map e62 r5.1.2) false)] 0, .cells [.p (.int .i64 r6.1.1), .p (.sl (List.map e62 r6.1.2) false)] 0, .cells [.p (.int .i64 r14.1.1), .p (.sl (List.map e62 r14.1.2) false)] 0, .cells [.p (.int .i64 r15.1.1), .p (.sl (List.map e62 r15.1.2) false)] 0]⟩) (cc := c200 ++ [.reg [] [] 0 [(2, none, .call (.bool false))] [4]])
      (q195 (q197 (q198 (q199 (q201 trivial))))) (by kernel_rfl)) (e := .ret) rfl (vs := [.p (.bool false)]) trivial (by kernel_rfl) (.p _ _ (.refl _))
            · subst h17
              have hr := Option.some.inj g17
              subst hr
              exact callP_of is5 rfl (path hm (ks := [4]) (σ' := ⟨[(4, .p (.bool false))], [.cells [.p (.int .i64 r2.1), .p (.sl (List.map e62 r2.2) false)] 0, .cells [.p (.int .i64 r5.1.1), .p (.sl (List.map e62 r5.1.2) false)] 0, .cells [.p (.int .i64 r6.1.1), .p (.sl (List.map e62 r6.1.2) false)] 0]⟩) (cc := c196 ++ [.reg [] [] 0 [(2, none, .call (.bool true)), (7, none, .b false), (12, none, .call (.bool true)), (18, none, .b false), (23, none, .call (.bool false))] [1, 2, 5, 87], .reg [] [] 0 [] [4]])
      (q195 (q197 (q198 (q199 trivial)))) (by kernel_rfl)) (e := .ret) rfl (vs := [.p (.bool false)]) trivial (by kernel_rfl) (.p _ _ (.refl _))
        · subst h14
          have hr := Option.some.inj g14
          subst hr
          exact callP_of is5 rfl (path hm (ks := [4]) (σ' := ⟨[(4, .p (.bool false))], [.cells [.p (.int .i64 r2.1), .p (.sl (List.map e62 r2.2) false)] 0, .cells [.p (.int .i64 r5.1.1), .p (.sl (List.map e62 r5.1.2) false)] 0, .cells [.p (.int .i64 r6.1.1), .p (.sl (List.map e62 r6.1.2) false)] 0]⟩) (cc := c196 ++ [.reg [] [] 0 [(2, none, .call (.bool true)), (7, none, .b false), (12, none, .call (.bool false))] [1, 2, 5, 87], .reg [] [] 0 [] [4]])
      (q195 (q197 (q198 trivial))) (by kernel_rfl)) (e := .ret) rfl (vs := [.p (.bool false)]) trivial (by kernel_rfl) (.p _ _ (.refl _))
    · subst h11
      have hr := Option.some.inj g11
      subst hr
      exact callP_of is5 rfl (path hm (ks := [4]) (σ' := ⟨[(4, .p (.bool false))], [.cells [.p (.int .i64 r2.1), .p (.sl (List.map e62 r2.2) false)] 0, .cells [.p (.int .i64 r5.1.1), .p (.sl (List.map e62 r5.1.2) false)] 0, .cells [.p (.int .i64 r6.1.1), .p (.sl (List.map e62 r6.1.2) false)] 0]⟩) (cc := c196 ++ [.reg [] [] 0 [(2, none, .call (.bool false))] [1, 2, 5, 87], .reg [] [] 0 [] [4]])
      (q195 (q197 trivial)) (by kernel_rfl)) (e := .ret) rfl (vs := [.p (.bool false)]) trivial (by kernel_rfl) (.p _ _ (.refl _))
end Go.Idl.N
