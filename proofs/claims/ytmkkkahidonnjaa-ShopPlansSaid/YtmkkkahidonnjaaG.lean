/-
  Part G of a proof: natives of the functions that are reached, and their contracts.
-/
import Derived.Test.YtmkkkahidonnjaaF
import Derived.Test.YtmkkkahidonnjaaProg
set_option maxRecDepth 100000
set_option linter.unusedVariables false
set_option linter.unusedSimpArgs false
namespace Go.Idl.N
open Go Go.Idl Go.Proofs.Try
theorem F3_ok  (fuel : Nat) (p0 : (List (Int × Int))) (p1 : (List (Int × Int))) (p2 : Int) (fp0 : Bool) (fp1 : Bool) (r : Bool) (h : F3 fuel p0 p1 p2 = some r) : CallP prog 3 [.sl (List.map e70 p0) fp0, .sl (List.map e60 p1) fp1, .int .i64 p2] (.bool r) := by
 let z6 : St := ⟨[(6, .p (.bool true))], []⟩
 let z5 : St := ⟨[(6, .p (.bool false))], []⟩
 let z4 : List MObj := [.cells (rowI e70 p0) 2, .cells (rowI e60 p1) 2]
 let z3 : St := ⟨[(6, .p (.bool false))], [.cells (rowI e70 p0) 2]⟩
 let z2 : St := ⟨[(6, .p (.bool false))], [.cells (rowI e60 p1) 2]⟩
 let z1 : St := ⟨[(6, .p (.bool false))], z4⟩
 unfold F3 at h
 refine obind_elim h fun r1 h1 g1 => ?_
 let c373 : List CC := [.reg [] [] 0 [] [0, 1, 2]]
 have q374 := fun {P : Prop} (t : P) => ai (F7_ok fuel p0 fp0 _ h1) t
 refine oif_elim g1 (fun h2 g2 => ?_) (fun h2 g2 => ?_)
 ·subst h2
  refine obind_elim g2 fun r2 h3 g3 => ?_
  refine oif_elim g3 (fun h4 g4 => ?_) (fun h4 g4 => ?_)
  ·subst h4
   have hr := Option.some.inj g4
   subst hr
   exact callP_of is3 rfl (path hm (ks := [6]) (σ' := z6) (cc := c373 ++ [.reg [] [] 0 [(1, none, .call (.bool true))] [0, 1, 2, 23], .reg [] [] 0 [(0, none, .call (.bool true))] [6]])
   (q374 (ai (F8_ok fuel  _ h3) trivial)) (by kernel_rfl)) (e := .ret) rfl (vs := [.p (.bool true)]) trivial (by kernel_rfl) (.p _ _ (.refl _))
  ·subst h4
   have hr := Option.some.inj g4
   subst hr
   exact callP_of is3 rfl (path hm (ks := [6]) (σ' := z5) (cc := c373 ++ [.reg [] [] 0 [(1, none, .call (.bool true))] [0, 1, 2, 23], .reg [] [] 0 [(0, none, .call (.bool false))] [6]])
   (q374 (ai (F8_ok fuel  _ h3) trivial)) (by kernel_rfl)) (e := .ret) rfl (vs := [.p (.bool false)]) trivial (by kernel_rfl) (.p _ _ (.refl _))
 ·subst h2
  have q375 := fun {P : Prop} (t : P) => ai (len_map e60 p1) t
  refine oif_elim g2 (fun h3 g3 => ?_) (fun h3 g3 => ?_)
  ·refine obind_elim g3 fun r2 h4 g4 => ?_
   let c376 : List CC := c373 ++ [.reg [] [] 0 [(1, none, .call (.bool false)), (4, none, .n (p1.length : Int)), (5, none, .b true)] [0, 1, 2, 23]]
   refine oif_elim g4 (fun h5 g5 => ?_) (fun h5 g5 => ?_)
   ·subst h5
    have hr := Option.some.inj g5
    subst hr
    exact callP_of is3 rfl (path hm (ks := [6]) (σ' := z6) (cc := c376 ++ [.reg [] [] 0 [(0, none, .call (.bool true))] [6]])
   (q374 (q375 (ai h3 (ai (F8_ok fuel  _ h4) trivial)))) (by kernel_rfl)) (e := .ret) rfl (vs := [.p (.bool true)]) trivial (by kernel_rfl) (.p _ _ (.refl _))
   ·subst h5
    have hr := Option.some.inj g5
    subst hr
    exact callP_of is3 rfl (path hm (ks := [6]) (σ' := z5) (cc := c376 ++ [.reg [] [] 0 [(0, none, .call (.bool false))] [6]])
   (q374 (q375 (ai h3 (ai (F8_ok fuel  _ h4) trivial)))) (by kernel_rfl)) (e := .ret) rfl (vs := [.p (.bool false)]) trivial (by kernel_rfl) (.p _ _ (.refl _))
  ·let c377 : List CC := c373 ++ [.reg [] [] 0 [(1, none, .call (.bool false)), (4, none, .n (p1.length : Int)), (5, none, .b false)] [0, 1, 2, 23]]
   refine oif_elim g3 (fun h4 g4 => ?_) (fun h4 g4 => ?_)
   ·have q378 := fun {P : Prop} (t : P) => ai h3 (ai (isEmpty_len e70 h4) (ai (row_sc el70 p0) (ai (row_es el70 p0) t)))
    refine oif_elim g4 (fun h5 g5 => ?_) (fun h5 g5 => ?_)
    ·refine obind_elim g5 fun r2 h6 g6 => ?_
     refine obind_elim g6 fun r3 h7 g7 => ?_
     refine obind_elim g7 fun r4 h8 g8 => ?_
     refine obind_elim g8 fun r5 h9 g9 => ?_
     refine obind_elim g9 fun r6 h10 g10 => ?_
     refine obind_elim g10 fun r7 h11 g11 => ?_
     let c379 : List CC := c377 ++ [.reg [] [] 0 [(1, none, .b true), (3, none, .b true)] [0, 1, 2, 7, 8], .reg [] [] 0 [(2, none, .call (.tup [.int .i64 r2.1, .int .i64 r2.2]))] [0, 1, 2, 7, 8, 9, 10], .reg [] [] 0 [(2, none, .cw [.sl (List.map e70 ([] : List (Int × Int))) false, .sl (List.map e60 ([] : List (Int × Int))) false] (.tup [.int .i64 r3.1, .int .i64 r3.2]))] [0, 1, 2, 7, 8, 9, 10, 11, 12], .reg [] [] 0 [(3, none, .call (.tup [.int .i64 r4.1, .int .i64 r4.2]))] [0, 1, 2, 7, 8, 9, 10, 11, 12, 13, 14], .reg [] [] 0 [(3, none, .cw [.sl (List.map e70 ([] : List (Int × Int))) false, .sl (List.map e60 ([] : List (Int × Int))) false, .int .i64 p2] (.tup [.int .i64 r5.1, .int .i64 r5.2]))] [0, 1, 7, 8, 9, 10, 11, 12, 13, 14, 15, 16]]
     have q380 := fun {P : Prop} (t : P) => ai (isEmpty_len e60 h5) (ai (row_sc el60 p1) (ai (row_es el60 p1) (ai (F9_ok fuel p0 p1 fp0 fp1 _ h6) t)))
     have q381 := fun {P : Prop} (t : P) => ai (F10_ok fuel [] [] false false _ h7) (ai (F11_ok fuel p0 p1 p2 fp0 fp1 _ h8) t)
     have q382 := fun {P : Prop} (t : P) => ai (F12_ok fuel [] [] p2 false false _ h9) (ai (F13_ok fuel p0 fp0 _ h10) t)
     have q383 := fun {P : Prop} (t : P) => ai (F14_ok fuel [] false _ h11) t
     refine oif_elim g11 (fun h12 g12 => ?_) (fun h12 g12 => ?_)
     ·refine oif_elim g12 (fun h13 g13 => ?_) (fun h13 g13 => ?_)
      ·refine oif_elim g13 (fun h14 g14 => ?_) (fun h14 g14 => ?_)
       ·refine oif_elim g14 (fun h15 g15 => ?_) (fun h15 g15 => ?_)
        ·refine oif_elim g15 (fun h16 g16 => ?_) (fun h16 g16 => ?_)
         ·refine obind_elim g16 fun r8 h17 g17 => ?_
          have q384 := fun {P : Prop} (t : P) => ai h12 (ai h13 (ai h14 (ai h15 (ai h16 t))))
          have q385 := fun {P : Prop} (t : P) => ai (F15_ok fuel p0 [] fp0 false _ h17) t
          refine oif_elim g17 (fun h18 g18 => ?_) (fun h18 g18 => ?_)
          ·subst h18
           refine obind_elim g18 fun r9 h19 g19 => ?_
           have q386 := fun {P : Prop} (t : P) => ai (F16_ok fuel p1 [] fp1 false _ h19) t
           refine oif_elim g19 (fun h20 g20 => ?_) (fun h20 g20 => ?_)
           ·subst h20
            refine obind_elim g20 fun r10 h21 g21 => ?_
            refine oif_elim g21 (fun h22 g22 => ?_) (fun h22 g22 => ?_)
            ·subst h22
             have hr := Option.some.inj g22
             subst hr
             exact callP_of is3 rfl (path hm (ks := [6]) (σ' := z6) (cc := c379 ++ [.reg [] [] 0 [(1, none, .call (.int .i64 r6)), (3, none, .cw [.sl (List.map e70 ([] : List (Int × Int))) false] (.int .i64 r7)), (4, none, .b true), (8, none, .b true), (13, none, .b true), (18, none, .b true), (23, none, .b true), (28, none, .cw [.sl (List.map e70 p0) fp0, .sl (List.map e70 ([] : List (Int × Int))) false] (.bool true)), (33, none, .cw [.sl (List.map e60 p1) fp1, .sl (List.map e60 ([] : List (Int × Int))) false] (.bool true)), (36, none, .call (.bool true))] [6]])
   (q374 (q375 (q378 (q380 (ai (show PVleL [.nilsl, .nilsl] [.sl (List.map e70 ([] : List (Int × Int))) false, .sl (List.map e60 ([] : List (Int × Int))) false] from (.cons _ _ _ _ (.nil _) (.cons _ _ _ _ (.nil _) .nil))) (q381 (ai (show PVleL [.nilsl, .nilsl, .int .i64 p2] [.sl (List.map e70 ([] : List (Int × Int))) false, .sl (List.map e60 ([] : List (Int × Int))) false, .int .i64 p2] from (.cons _ _ _ _ (.nil _) (.cons _ _ _ _ (.nil _) (.cons _ _ _ _ (.refl _) .nil)))) (q382 (ai (show PVleL [.nilsl] [.sl (List.map e70 ([] : List (Int × Int))) false] from (.cons _ _ _ _ (.nil _) .nil)) (q383 (q384 (ai (show PVleL [.sl (List.map e70 p0) fp0, .nilsl] [.sl (List.map e70 p0) fp0, .sl (List.map e70 ([] : List (Int × Int))) false] from (.cons _ _ _ _ (.refl _) (.cons _ _ _ _ (.nil _) .nil))) (q385 (ai (show PVleL [.sl (List.map e60 p1) fp1, .nilsl] [.sl (List.map e60 p1) fp1, .sl (List.map e60 ([] : List (Int × Int))) false] from (.cons _ _ _ _ (.refl _) (.cons _ _ _ _ (.nil _) .nil))) (q386 (ai (F8_ok fuel  _ h21) trivial)))))))))))))))) (by kernel_rfl)) (e := .ret) rfl (vs := [.p (.bool true)]) trivial (by kernel_rfl) (.p _ _ (.refl _))
            ·subst h22
             have hr := Option.some.inj g22
             subst hr
             exact callP_of is3 rfl (path hm (ks := [6]) (σ' := z5) (cc := c379 ++ [.reg [] [] 0 [(1, none, .call (.int .i64 r6)), (3, none, .cw [.sl (List.map e70 ([] : List (Int × Int))) false] (.int .i64 r7)), (4, none, .b true), (8, none, .b true), (13, none, .b true), (18, none, .b true), (23, none, .b true), (28, none, .cw [.sl (List.map e70 p0) fp0, .sl (List.map e70 ([] : List (Int × Int))) false] (.bool true)), (33, none, .cw [.sl (List.map e60 p1) fp1, .sl (List.map e60 ([] : List (Int × Int))) false] (.bool true)), (36, none, .call (.bool false))] [6]])
   (q374 (q375 (q378 (q380 (ai (show PVleL [.nilsl, .nilsl] [.sl (List.map e70 ([] : List (Int × Int))) false, .sl (List.map e60 ([] : List (Int × Int))) false] from (.cons _ _ _ _ (.nil _) (.cons _ _ _ _ (.nil _) .nil))) (q381 (ai (show PVleL [.nilsl, .nilsl, .int .i64 p2] [.sl (List.map e70 ([] : List (Int × Int))) false, .sl (List.map e60 ([] : List (Int × Int))) false, .int .i64 p2] from (.cons _ _ _ _ (.nil _) (.cons _ _ _ _ (.nil _) (.cons _ _ _ _ (.refl _) .nil)))) (q382 (ai (show PVleL [.nilsl] [.sl (List.map e70 ([] : List (Int × Int))) false] from (.cons _ _ _ _ (.nil _) .nil)) (q383 (q384 (ai (show PVleL [.sl (List.map e70 p0) fp0, .nilsl] [.sl (List.map e70 p0) fp0, .sl (List.map e70 ([] : List (Int × Int))) false] from (.cons _ _ _ _ (.refl _) (.cons _ _ _ _ (.nil _) .nil))) (q385 (ai (show PVleL [.sl (List.map e60 p1) fp1, .nilsl] [.sl (List.map e60 p1) fp1, .sl (List.map e60 ([] : List (Int × Int))) false] from (.cons _ _ _ _ (.refl _) (.cons _ _ _ _ (.nil _) .nil))) (q386 (ai (F8_ok fuel  _ h21) trivial)))))))))))))))) (by kernel_rfl)) (e := .ret) rfl (vs := [.p (.bool false)]) trivial (by kernel_rfl) (.p _ _ (.refl _))
           ·subst h20
            have hr := Option.some.inj g20
            subst hr
            exact callP_of is3 rfl (path hm (ks := [6]) (σ' := z5) (cc := c379 ++ [.reg [] [] 0 [(1, none, .call (.int .i64 r6)), (3, none, .cw [.sl (List.map e70 ([] : List (Int × Int))) false] (.int .i64 r7)), (4, none, .b true), (8, none, .b true), (13, none, .b true), (18, none, .b true), (23, none, .b true), (28, none, .cw [.sl (List.map e70 p0) fp0, .sl (List.map e70 ([] : List (Int × Int))) false] (.bool true)), (33, none, .cw [.sl (List.map e60 p1) fp1, .sl (List.map e60 ([] : List (Int × Int))) false] (.bool false))] [6]])
   (q374 (q375 (q378 (q380 (ai (show PVleL [.nilsl, .nilsl] [.sl (List.map e70 ([] : List (Int × Int))) false, .sl (List.map e60 ([] : List (Int × Int))) false] from (.cons _ _ _ _ (.nil _) (.cons _ _ _ _ (.nil _) .nil))) (q381 (ai (show PVleL [.nilsl, .nilsl, .int .i64 p2] [.sl (List.map e70 ([] : List (Int × Int))) false, .sl (List.map e60 ([] : List (Int × Int))) false, .int .i64 p2] from (.cons _ _ _ _ (.nil _) (.cons _ _ _ _ (.nil _) (.cons _ _ _ _ (.refl _) .nil)))) (q382 (ai (show PVleL [.nilsl] [.sl (List.map e70 ([] : List (Int × Int))) false] from (.cons _ _ _ _ (.nil _) .nil)) (q383 (q384 (ai (show PVleL [.sl (List.map e70 p0) fp0, .nilsl] [.sl (List.map e70 p0) fp0, .sl (List.map e70 ([] : List (Int × Int))) false] from (.cons _ _ _ _ (.refl _) (.cons _ _ _ _ (.nil _) .nil))) (q385 (ai (show PVleL [.sl (List.map e60 p1) fp1, .nilsl] [.sl (List.map e60 p1) fp1, .sl (List.map e60 ([] : List (Int × Int))) false] from (.cons _ _ _ _ (.refl _) (.cons _ _ _ _ (.nil _) .nil))) (q386 trivial))))))))))))))) (by kernel_rfl)) (e := .ret) rfl (vs := [.p (.bool false)]) trivial (by kernel_rfl) (.p _ _ (.refl _))
          ·subst h18
           have hr := Option.some.inj g18
           subst hr
           exact callP_of is3 rfl (path hm (ks := [6]) (σ' := z5) (cc := c379 ++ [.reg [] [] 0 [(1, none, .call (.int .i64 r6)), (3, none, .cw [.sl (List.map e70 ([] : List (Int × Int))) false] (.int .i64 r7)), (4, none, .b true), (8, none, .b true), (13, none, .b true), (18, none, .b true), (23, none, .b true), (28, none, .cw [.sl (List.map e70 p0) fp0, .sl (List.map e70 ([] : List (Int × Int))) false] (.bool false))] [6]])
   (q374 (q375 (q378 (q380 (ai (show PVleL [.nilsl, .nilsl] [.sl (List.map e70 ([] : List (Int × Int))) false, .sl (List.map e60 ([] : List (Int × Int))) false] from (.cons _ _ _ _ (.nil _) (.cons _ _ _ _ (.nil _) .nil))) (q381 (ai (show PVleL [.nilsl, .nilsl, .int .i64 p2] [.sl (List.map e70 ([] : List (Int × Int))) false, .sl (List.map e60 ([] : List (Int × Int))) false, .int .i64 p2] from (.cons _ _ _ _ (.nil _) (.cons _ _ _ _ (.nil _) (.cons _ _ _ _ (.refl _) .nil)))) (q382 (ai (show PVleL [.nilsl] [.sl (List.map e70 ([] : List (Int × Int))) false] from (.cons _ _ _ _ (.nil _) .nil)) (q383 (q384 (ai (show PVleL [.sl (List.map e70 p0) fp0, .nilsl] [.sl (List.map e70 p0) fp0, .sl (List.map e70 ([] : List (Int × Int))) false] from (.cons _ _ _ _ (.refl _) (.cons _ _ _ _ (.nil _) .nil))) (q385 trivial))))))))))))) (by kernel_rfl)) (e := .ret) rfl (vs := [.p (.bool false)]) trivial (by kernel_rfl) (.p _ _ (.refl _))
         ·have hr := Option.some.inj g16
          subst hr
          exact callP_of is3 rfl (path hm (ks := [6]) (σ' := z5) (cc := c379 ++ [.reg [] [] 0 [(1, none, .call (.int .i64 r6)), (3, none, .cw [.sl (List.map e70 ([] : List (Int × Int))) false] (.int .i64 r7)), (4, none, .b true), (8, none, .b true), (13, none, .b true), (18, none, .b true), (23, none, .b false)] [6]])
   (q374 (q375 (q378 (q380 (ai (show PVleL [.nilsl, .nilsl] [.sl (List.map e70 ([] : List (Int × Int))) false, .sl (List.map e60 ([] : List (Int × Int))) false] from (.cons _ _ _ _ (.nil _) (.cons _ _ _ _ (.nil _) .nil))) (q381 (ai (show PVleL [.nilsl, .nilsl, .int .i64 p2] [.sl (List.map e70 ([] : List (Int × Int))) false, .sl (List.map e60 ([] : List (Int × Int))) false, .int .i64 p2] from (.cons _ _ _ _ (.nil _) (.cons _ _ _ _ (.nil _) (.cons _ _ _ _ (.refl _) .nil)))) (q382 (ai (show PVleL [.nilsl] [.sl (List.map e70 ([] : List (Int × Int))) false] from (.cons _ _ _ _ (.nil _) .nil)) (q383 (ai h12 (ai h13 (ai h14 (ai h15 (ai h16 trivial))))))))))))))) (by kernel_rfl)) (e := .ret) rfl (vs := [.p (.bool false)]) trivial (by kernel_rfl) (.p _ _ (.refl _))
        ·have hr := Option.some.inj g15
         subst hr
         exact callP_of is3 rfl (path hm (ks := [6]) (σ' := z5) (cc := c379 ++ [.reg [] [] 0 [(1, none, .call (.int .i64 r6)), (3, none, .cw [.sl (List.map e70 ([] : List (Int × Int))) false] (.int .i64 r7)), (4, none, .b true), (8, none, .b true), (13, none, .b true), (18, none, .b false)] [6]])
   (q374 (q375 (q378 (q380 (ai (show PVleL [.nilsl, .nilsl] [.sl (List.map e70 ([] : List (Int × Int))) false, .sl (List.map e60 ([] : List (Int × Int))) false] from (.cons _ _ _ _ (.nil _) (.cons _ _ _ _ (.nil _) .nil))) (q381 (ai (show PVleL [.nilsl, .nilsl, .int .i64 p2] [.sl (List.map e70 ([] : List (Int × Int))) false, .sl (List.map e60 ([] : List (Int × Int))) false, .int .i64 p2] from (.cons _ _ _ _ (.nil _) (.cons _ _ _ _ (.nil _) (.cons _ _ _ _ (.refl _) .nil)))) (q382 (ai (show PVleL [.nilsl] [.sl (List.map e70 ([] : List (Int × Int))) false] from (.cons _ _ _ _ (.nil _) .nil)) (q383 (ai h12 (ai h13 (ai h14 (ai h15 trivial)))))))))))))) (by kernel_rfl)) (e := .ret) rfl (vs := [.p (.bool false)]) trivial (by kernel_rfl) (.p _ _ (.refl _))
       ·have hr := Option.some.inj g14
        subst hr
        exact callP_of is3 rfl (path hm (ks := [6]) (σ' := z5) (cc := c379 ++ [.reg [] [] 0 [(1, none, .call (.int .i64 r6)), (3, none, .cw [.sl (List.map e70 ([] : List (Int × Int))) false] (.int .i64 r7)), (4, none, .b true), (8, none, .b true), (13, none, .b false)] [6]])
   (q374 (q375 (q378 (q380 (ai (show PVleL [.nilsl, .nilsl] [.sl (List.map e70 ([] : List (Int × Int))) false, .sl (List.map e60 ([] : List (Int × Int))) false] from (.cons _ _ _ _ (.nil _) (.cons _ _ _ _ (.nil _) .nil))) (q381 (ai (show PVleL [.nilsl, .nilsl, .int .i64 p2] [.sl (List.map e70 ([] : List (Int × Int))) false, .sl (List.map e60 ([] : List (Int × Int))) false, .int .i64 p2] from (.cons _ _ _ _ (.nil _) (.cons _ _ _ _ (.nil _) (.cons _ _ _ _ (.refl _) .nil)))) (q382 (ai (show PVleL [.nilsl] [.sl (List.map e70 ([] : List (Int × Int))) false] from (.cons _ _ _ _ (.nil _) .nil)) (q383 (ai h12 (ai h13 (ai h14 trivial))))))))))))) (by kernel_rfl)) (e := .ret) rfl (vs := [.p (.bool false)]) trivial (by kernel_rfl) (.p _ _ (.refl _))
      ·have hr := Option.some.inj g13
       subst hr
       exact callP_of is3 rfl (path hm (ks := [6]) (σ' := z5) (cc := c379 ++ [.reg [] [] 0 [(1, none, .call (.int .i64 r6)), (3, none, .cw [.sl (List.map e70 ([] : List (Int × Int))) false] (.int .i64 r7)), (4, none, .b true), (8, none, .b false)] [6]])
   (q374 (q375 (q378 (q380 (ai (show PVleL [.nilsl, .nilsl] [.sl (List.map e70 ([] : List (Int × Int))) false, .sl (List.map e60 ([] : List (Int × Int))) false] from (.cons _ _ _ _ (.nil _) (.cons _ _ _ _ (.nil _) .nil))) (q381 (ai (show PVleL [.nilsl, .nilsl, .int .i64 p2] [.sl (List.map e70 ([] : List (Int × Int))) false, .sl (List.map e60 ([] : List (Int × Int))) false, .int .i64 p2] from (.cons _ _ _ _ (.nil _) (.cons _ _ _ _ (.nil _) (.cons _ _ _ _ (.refl _) .nil)))) (q382 (ai (show PVleL [.nilsl] [.sl (List.map e70 ([] : List (Int × Int))) false] from (.cons _ _ _ _ (.nil _) .nil)) (q383 (ai h12 (ai h13 trivial)))))))))))) (by kernel_rfl)) (e := .ret) rfl (vs := [.p (.bool false)]) trivial (by kernel_rfl) (.p _ _ (.refl _))
     ·have hr := Option.some.inj g12
      subst hr
      exact callP_of is3 rfl (path hm (ks := [6]) (σ' := z5) (cc := c379 ++ [.reg [] [] 0 [(1, none, .call (.int .i64 r6)), (3, none, .cw [.sl (List.map e70 ([] : List (Int × Int))) false] (.int .i64 r7)), (4, none, .b false)] [6]])
   (q374 (q375 (q378 (q380 (ai (show PVleL [.nilsl, .nilsl] [.sl (List.map e70 ([] : List (Int × Int))) false, .sl (List.map e60 ([] : List (Int × Int))) false] from (.cons _ _ _ _ (.nil _) (.cons _ _ _ _ (.nil _) .nil))) (q381 (ai (show PVleL [.nilsl, .nilsl, .int .i64 p2] [.sl (List.map e70 ([] : List (Int × Int))) false, .sl (List.map e60 ([] : List (Int × Int))) false, .int .i64 p2] from (.cons _ _ _ _ (.nil _) (.cons _ _ _ _ (.nil _) (.cons _ _ _ _ (.refl _) .nil)))) (q382 (ai (show PVleL [.nilsl] [.sl (List.map e70 ([] : List (Int × Int))) false] from (.cons _ _ _ _ (.nil _) .nil)) (q383 (ai h12 trivial))))))))))) (by kernel_rfl)) (e := .ret) rfl (vs := [.p (.bool false)]) trivial (by kernel_rfl) (.p _ _ (.refl _))
    ·refine oif_elim g5 (fun h6 g6 => ?_) (fun _ h => nomatch h)
     refine obind_elim g6 fun r2 h7 g7 => ?_
     refine obind_elim g7 fun r3 h8 g8 => ?_
     refine obind_elim g8 fun r4 h9 g9 => ?_
     refine obind_elim g9 fun r5 h10 g10 => ?_
     refine obind_elim g10 fun r6 h11 g11 => ?_
     refine obind_elim g11 fun r7 h12 g12 => ?_
     let c387 : List CC := c377 ++ [.reg [] [] 1 [(1, none, .b true), (3, some 0, .ap (rowI e60 p1) (List.length p1) (List.length (rowI e60 p1)))] [0, 1, 2, 7, 8], .reg [] [] 0 [(2, none, .call (.tup [.int .i64 r2.1, .int .i64 r2.2]))] [0, 1, 2, 7, 8, 9, 10], .reg [] [] 0 [(2, none, .bor [] [.sl (List.map e70 ([] : List (Int × Int))) false, .sl (List.map e60 p1) false] (.tup [.int .i64 r3.1, .int .i64 r3.2]))] [0, 1, 2, 7, 8, 9, 10, 11, 12], .reg [] [] 0 [(3, none, .call (.tup [.int .i64 r4.1, .int .i64 r4.2]))] [0, 1, 2, 7, 8, 9, 10, 11, 12, 13, 14], .reg [] [] 0 [(3, none, .bor [] [.sl (List.map e70 ([] : List (Int × Int))) false, .sl (List.map e60 p1) false, .int .i64 p2] (.tup [.int .i64 r5.1, .int .i64 r5.2]))] [0, 1, 7, 8, 9, 10, 11, 12, 13, 14, 15, 16]]
     have q388 := fun {P : Prop} (t : P) => ai (notEmpty_len e60 h5) (ai (od h6) (ai (app_c0 (by decide) (od h6)) (ai (len_map2 e60 p1) (ai (rl (List.length (rowI e60 p1))) (ai (row_src e60 p1) (ai (row_sc el60 p1) (ai (row_es el60 p1) (ai (F9_ok fuel p0 p1 fp0 fp1 _ h7) (ai (.nil _ : PVle (.nilsl) (.sl (List.map e70 ([] : List (Int × Int))) false)) (ai (snap_row (hp := one 0 (.cells (rowI e60 p1) 2)) (l := 0) (x := false) (g := 2) (L := p1) el60 (by kernel_rfl) (rl (List.length (rowI e60 p1))) (rl (List.length p1))) (ai (F10_ok fuel [] p1 false false _ h8) (ai (F11_ok fuel p0 p1 p2 fp0 fp1 _ h9) (ai (.nil _ : PVle (.nilsl) (.sl (List.map e70 ([] : List (Int × Int))) false)) (ai (snap_row (hp := one 0 (.cells (rowI e60 p1) 2)) (l := 0) (x := false) (g := 2) (L := p1) el60 (by kernel_rfl) (rl (List.length (rowI e60 p1))) (rl (List.length p1))) (ai (.refl _ : PVle (.int .i64 p2) (.int .i64 p2)) (ai (F12_ok fuel [] p1 p2 false false _ h10) (ai (F13_ok fuel p0 fp0 _ h11) t)))))))))))))))))
     have q389 := fun {P : Prop} (t : P) => ai (F14_ok fuel [] false _ h12) t
     refine oif_elim g12 (fun h13 g13 => ?_) (fun h13 g13 => ?_)
     ·refine oif_elim g13 (fun h14 g14 => ?_) (fun h14 g14 => ?_)
      ·refine oif_elim g14 (fun h15 g15 => ?_) (fun h15 g15 => ?_)
       ·refine oif_elim g15 (fun h16 g16 => ?_) (fun h16 g16 => ?_)
        ·refine oif_elim g16 (fun h17 g17 => ?_) (fun h17 g17 => ?_)
         ·refine obind_elim g17 fun r8 h18 g18 => ?_
          have q390 := fun {P : Prop} (t : P) => ai h13 (ai h14 (ai h15 (ai h16 (ai h17 t))))
          have q391 := fun {P : Prop} (t : P) => ai (F15_ok fuel p0 [] fp0 false _ h18) t
          refine oif_elim g18 (fun h19 g19 => ?_) (fun h19 g19 => ?_)
          ·subst h19
           refine obind_elim g19 fun r9 h20 g20 => ?_
           have q392 := fun {P : Prop} (t : P) => ai (.refl _ : PVle (.sl (List.map e60 p1) fp1) (.sl (List.map e60 p1) fp1)) (ai (snap_row (hp := one 0 (.cells (rowI e60 p1) 2)) (l := 0) (x := false) (g := 2) (L := p1) el60 (by kernel_rfl) (rl (List.length (rowI e60 p1))) (rl (List.length p1))) (ai (F16_ok fuel p1 p1 fp1 false _ h20) t))
           refine oif_elim g20 (fun h21 g21 => ?_) (fun h21 g21 => ?_)
           ·subst h21
            refine obind_elim g21 fun r10 h22 g22 => ?_
            refine oif_elim g22 (fun h23 g23 => ?_) (fun h23 g23 => ?_)
            ·subst h23
             have hr := Option.some.inj g23
             subst hr
             exact callP_of is3 rfl (path hm (ks := [6]) (σ' := ⟨[(6, .p (.bool true))], [.cells (rowI e60 p1) 2]⟩) (cc := c387 ++ [.reg [] [] 0 [(1, none, .call (.int .i64 r6)), (3, none, .cw [.sl (List.map e70 ([] : List (Int × Int))) false] (.int .i64 r7)), (4, none, .b true), (8, none, .b true), (13, none, .b true), (18, none, .b true), (23, none, .b true), (28, none, .cw [.sl (List.map e70 p0) fp0, .sl (List.map e70 ([] : List (Int × Int))) false] (.bool true)), (33, none, .bor [] [.sl (List.map e60 p1) fp1, .sl (List.map e60 p1) false] (.bool true)), (36, none, .call (.bool true))] [6]])
   (q374 (q375 (q378 (q388 (ai (show PVleL [.nilsl] [.sl (List.map e70 ([] : List (Int × Int))) false] from (.cons _ _ _ _ (.nil _) .nil)) (q389 (q390 (ai (show PVleL [.sl (List.map e70 p0) fp0, .nilsl] [.sl (List.map e70 p0) fp0, .sl (List.map e70 ([] : List (Int × Int))) false] from (.cons _ _ _ _ (.refl _) (.cons _ _ _ _ (.nil _) .nil))) (q391 (q392 (ai (F8_ok fuel  _ h22) trivial))))))))))) (by kernel_rfl)) (e := .ret) rfl (vs := [.p (.bool true)]) trivial (by kernel_rfl) (.p _ _ (.refl _))
            ·subst h23
             have hr := Option.some.inj g23
             subst hr
             exact callP_of is3 rfl (path hm (ks := [6]) (σ' := z2) (cc := c387 ++ [.reg [] [] 0 [(1, none, .call (.int .i64 r6)), (3, none, .cw [.sl (List.map e70 ([] : List (Int × Int))) false] (.int .i64 r7)), (4, none, .b true), (8, none, .b true), (13, none, .b true), (18, none, .b true), (23, none, .b true), (28, none, .cw [.sl (List.map e70 p0) fp0, .sl (List.map e70 ([] : List (Int × Int))) false] (.bool true)), (33, none, .bor [] [.sl (List.map e60 p1) fp1, .sl (List.map e60 p1) false] (.bool true)), (36, none, .call (.bool false))] [6]])
   (q374 (q375 (q378 (q388 (ai (show PVleL [.nilsl] [.sl (List.map e70 ([] : List (Int × Int))) false] from (.cons _ _ _ _ (.nil _) .nil)) (q389 (q390 (ai (show PVleL [.sl (List.map e70 p0) fp0, .nilsl] [.sl (List.map e70 p0) fp0, .sl (List.map e70 ([] : List (Int × Int))) false] from (.cons _ _ _ _ (.refl _) (.cons _ _ _ _ (.nil _) .nil))) (q391 (q392 (ai (F8_ok fuel  _ h22) trivial))))))))))) (by kernel_rfl)) (e := .ret) rfl (vs := [.p (.bool false)]) trivial (by kernel_rfl) (.p _ _ (.refl _))
           ·subst h21
            have hr := Option.some.inj g21
            subst hr
            exact callP_of is3 rfl (path hm (ks := [6]) (σ' := z2) (cc := c387 ++ [.reg [] [] 0 [(1, none, .call (.int .i64 r6)), (3, none, .cw [.sl (List.map e70 ([] : List (Int × Int))) false] (.int .i64 r7)), (4, none, .b true), (8, none, .b true), (13, none, .b true), (18, none, .b true), (23, none, .b true), (28, none, .cw [.sl (List.map e70 p0) fp0, .sl (List.map e70 ([] : List (Int × Int))) false] (.bool true)), (33, none, .bor [] [.sl (List.map e60 p1) fp1, .sl (List.map e60 p1) false] (.bool false))] [6]])
   (q374 (q375 (q378 (q388 (ai (show PVleL [.nilsl] [.sl (List.map e70 ([] : List (Int × Int))) false] from (.cons _ _ _ _ (.nil _) .nil)) (q389 (q390 (ai (show PVleL [.sl (List.map e70 p0) fp0, .nilsl] [.sl (List.map e70 p0) fp0, .sl (List.map e70 ([] : List (Int × Int))) false] from (.cons _ _ _ _ (.refl _) (.cons _ _ _ _ (.nil _) .nil))) (q391 (q392 trivial)))))))))) (by kernel_rfl)) (e := .ret) rfl (vs := [.p (.bool false)]) trivial (by kernel_rfl) (.p _ _ (.refl _))
          ·subst h19
           have hr := Option.some.inj g19
           subst hr
           exact callP_of is3 rfl (path hm (ks := [6]) (σ' := z2) (cc := c387 ++ [.reg [] [] 0 [(1, none, .call (.int .i64 r6)), (3, none, .cw [.sl (List.map e70 ([] : List (Int × Int))) false] (.int .i64 r7)), (4, none, .b true), (8, none, .b true), (13, none, .b true), (18, none, .b true), (23, none, .b true), (28, none, .cw [.sl (List.map e70 p0) fp0, .sl (List.map e70 ([] : List (Int × Int))) false] (.bool false))] [6]])
   (q374 (q375 (q378 (q388 (ai (show PVleL [.nilsl] [.sl (List.map e70 ([] : List (Int × Int))) false] from (.cons _ _ _ _ (.nil _) .nil)) (q389 (q390 (ai (show PVleL [.sl (List.map e70 p0) fp0, .nilsl] [.sl (List.map e70 p0) fp0, .sl (List.map e70 ([] : List (Int × Int))) false] from (.cons _ _ _ _ (.refl _) (.cons _ _ _ _ (.nil _) .nil))) (q391 trivial))))))))) (by kernel_rfl)) (e := .ret) rfl (vs := [.p (.bool false)]) trivial (by kernel_rfl) (.p _ _ (.refl _))
         ·have hr := Option.some.inj g17
          subst hr
          exact callP_of is3 rfl (path hm (ks := [6]) (σ' := z2) (cc := c387 ++ [.reg [] [] 0 [(1, none, .call (.int .i64 r6)), (3, none, .cw [.sl (List.map e70 ([] : List (Int × Int))) false] (.int .i64 r7)), (4, none, .b true), (8, none, .b true), (13, none, .b true), (18, none, .b true), (23, none, .b false)] [6]])
   (q374 (q375 (q378 (q388 (ai (show PVleL [.nilsl] [.sl (List.map e70 ([] : List (Int × Int))) false] from (.cons _ _ _ _ (.nil _) .nil)) (q389 (ai h13 (ai h14 (ai h15 (ai h16 (ai h17 trivial))))))))))) (by kernel_rfl)) (e := .ret) rfl (vs := [.p (.bool false)]) trivial (by kernel_rfl) (.p _ _ (.refl _))
        ·have hr := Option.some.inj g16
         subst hr
         exact callP_of is3 rfl (path hm (ks := [6]) (σ' := z2) (cc := c387 ++ [.reg [] [] 0 [(1, none, .call (.int .i64 r6)), (3, none, .cw [.sl (List.map e70 ([] : List (Int × Int))) false] (.int .i64 r7)), (4, none, .b true), (8, none, .b true), (13, none, .b true), (18, none, .b false)] [6]])
   (q374 (q375 (q378 (q388 (ai (show PVleL [.nilsl] [.sl (List.map e70 ([] : List (Int × Int))) false] from (.cons _ _ _ _ (.nil _) .nil)) (q389 (ai h13 (ai h14 (ai h15 (ai h16 trivial)))))))))) (by kernel_rfl)) (e := .ret) rfl (vs := [.p (.bool false)]) trivial (by kernel_rfl) (.p _ _ (.refl _))
       ·have hr := Option.some.inj g15
        subst hr
        exact callP_of is3 rfl (path hm (ks := [6]) (σ' := z2) (cc := c387 ++ [.reg [] [] 0 [(1, none, .call (.int .i64 r6)), (3, none, .cw [.sl (List.map e70 ([] : List (Int × Int))) false] (.int .i64 r7)), (4, none, .b true), (8, none, .b true), (13, none, .b false)] [6]])
   (q374 (q375 (q378 (q388 (ai (show PVleL [.nilsl] [.sl (List.map e70 ([] : List (Int × Int))) false] from (.cons _ _ _ _ (.nil _) .nil)) (q389 (ai h13 (ai h14 (ai h15 trivial))))))))) (by kernel_rfl)) (e := .ret) rfl (vs := [.p (.bool false)]) trivial (by kernel_rfl) (.p _ _ (.refl _))
      ·have hr := Option.some.inj g14
       subst hr
       exact callP_of is3 rfl (path hm (ks := [6]) (σ' := z2) (cc := c387 ++ [.reg [] [] 0 [(1, none, .call (.int .i64 r6)), (3, none, .cw [.sl (List.map e70 ([] : List (Int × Int))) false] (.int .i64 r7)), (4, none, .b true), (8, none, .b false)] [6]])
   (q374 (q375 (q378 (q388 (ai (show PVleL [.nilsl] [.sl (List.map e70 ([] : List (Int × Int))) false] from (.cons _ _ _ _ (.nil _) .nil)) (q389 (ai h13 (ai h14 trivial)))))))) (by kernel_rfl)) (e := .ret) rfl (vs := [.p (.bool false)]) trivial (by kernel_rfl) (.p _ _ (.refl _))
     ·have hr := Option.some.inj g13
      subst hr
      exact callP_of is3 rfl (path hm (ks := [6]) (σ' := z2) (cc := c387 ++ [.reg [] [] 0 [(1, none, .call (.int .i64 r6)), (3, none, .cw [.sl (List.map e70 ([] : List (Int × Int))) false] (.int .i64 r7)), (4, none, .b false)] [6]])
   (q374 (q375 (q378 (q388 (ai (show PVleL [.nilsl] [.sl (List.map e70 ([] : List (Int × Int))) false] from (.cons _ _ _ _ (.nil _) .nil)) (q389 (ai h13 trivial))))))) (by kernel_rfl)) (e := .ret) rfl (vs := [.p (.bool false)]) trivial (by kernel_rfl) (.p _ _ (.refl _))
   ·refine oif_elim g4 (fun h5 g5 => ?_) (fun _ h => nomatch h)
    have q393 := fun {P : Prop} (t : P) => ai h3 (ai (notEmpty_len e70 h4) (ai (od h5) (ai (app_c0 (by decide) (od h5)) (ai (len_map2 e70 p0) (ai (rl (List.length (rowI e70 p0))) (ai (row_src e70 p0) (ai (row_sc el70 p0) (ai (row_es el70 p0) t))))))))
    refine oif_elim g5 (fun h6 g6 => ?_) (fun h6 g6 => ?_)
    ·refine obind_elim g6 fun r2 h7 g7 => ?_
     refine obind_elim g7 fun r3 h8 g8 => ?_
     refine obind_elim g8 fun r4 h9 g9 => ?_
     refine obind_elim g9 fun r5 h10 g10 => ?_
     refine obind_elim g10 fun r6 h11 g11 => ?_
     refine obind_elim g11 fun r7 h12 g12 => ?_
     let c394 : List CC := c377 ++ [.reg [] [] 1 [(1, some 0, .ap (rowI e70 p0) (List.length p0) (List.length (rowI e70 p0))), (3, none, .b true)] [0, 1, 2, 7, 8], .reg [] [] 0 [(2, none, .call (.tup [.int .i64 r2.1, .int .i64 r2.2]))] [0, 1, 2, 7, 8, 9, 10], .reg [] [] 0 [(2, none, .bor [] [.sl (List.map e70 p0) false, .sl (List.map e60 ([] : List (Int × Int))) false] (.tup [.int .i64 r3.1, .int .i64 r3.2]))] [0, 1, 2, 7, 8, 9, 10, 11, 12], .reg [] [] 0 [(3, none, .call (.tup [.int .i64 r4.1, .int .i64 r4.2]))] [0, 1, 2, 7, 8, 9, 10, 11, 12, 13, 14], .reg [] [] 0 [(3, none, .bor [] [.sl (List.map e70 p0) false, .sl (List.map e60 ([] : List (Int × Int))) false, .int .i64 p2] (.tup [.int .i64 r5.1, .int .i64 r5.2]))] [0, 1, 7, 8, 9, 10, 11, 12, 13, 14, 15, 16]]
     have q395 := fun {P : Prop} (t : P) => ai (isEmpty_len e60 h6) (ai (row_sc el60 p1) (ai (row_es el60 p1) (ai (F9_ok fuel p0 p1 fp0 fp1 _ h7) (ai (snap_row (hp := one 0 (.cells (rowI e70 p0) 2)) (l := 0) (x := false) (g := 2) (L := p0) el70 (by kernel_rfl) (rl (List.length (rowI e70 p0))) (rl (List.length p0))) (ai (.nil _ : PVle (.nilsl) (.sl (List.map e60 ([] : List (Int × Int))) false)) (ai (F10_ok fuel p0 [] false false _ h8) (ai (F11_ok fuel p0 p1 p2 fp0 fp1 _ h9) (ai (snap_row (hp := one 0 (.cells (rowI e70 p0) 2)) (l := 0) (x := false) (g := 2) (L := p0) el70 (by kernel_rfl) (rl (List.length (rowI e70 p0))) (rl (List.length p0))) (ai (.nil _ : PVle (.nilsl) (.sl (List.map e60 ([] : List (Int × Int))) false)) (ai (.refl _ : PVle (.int .i64 p2) (.int .i64 p2)) (ai (F12_ok fuel p0 [] p2 false false _ h10) (ai (F13_ok fuel p0 fp0 _ h11) (ai (snap_row (hp := one 0 (.cells (rowI e70 p0) 2)) (l := 0) (x := false) (g := 2) (L := p0) el70 (by kernel_rfl) (rl (List.length (rowI e70 p0))) (rl (List.length p0))) (ai (F14_ok fuel p0 false _ h12) t))))))))))))))
     refine oif_elim g12 (fun h13 g13 => ?_) (fun h13 g13 => ?_)
     ·refine oif_elim g13 (fun h14 g14 => ?_) (fun h14 g14 => ?_)
      ·refine oif_elim g14 (fun h15 g15 => ?_) (fun h15 g15 => ?_)
       ·refine oif_elim g15 (fun h16 g16 => ?_) (fun h16 g16 => ?_)
        ·refine oif_elim g16 (fun h17 g17 => ?_) (fun h17 g17 => ?_)
         ·refine obind_elim g17 fun r8 h18 g18 => ?_
          have q396 := fun {P : Prop} (t : P) => ai h13 (ai h14 (ai h15 (ai h16 (ai h17 (ai (.refl _ : PVle (.sl (List.map e70 p0) fp0) (.sl (List.map e70 p0) fp0)) (ai (snap_row (hp := one 0 (.cells (rowI e70 p0) 2)) (l := 0) (x := false) (g := 2) (L := p0) el70 (by kernel_rfl) (rl (List.length (rowI e70 p0))) (rl (List.length p0))) (ai (F15_ok fuel p0 p0 fp0 false _ h18) t)))))))
          refine oif_elim g18 (fun h19 g19 => ?_) (fun h19 g19 => ?_)
          ·subst h19
           refine obind_elim g19 fun r9 h20 g20 => ?_
           have q397 := fun {P : Prop} (t : P) => ai (F16_ok fuel p1 [] fp1 false _ h20) t
           refine oif_elim g20 (fun h21 g21 => ?_) (fun h21 g21 => ?_)
           ·subst h21
            refine obind_elim g21 fun r10 h22 g22 => ?_
            refine oif_elim g22 (fun h23 g23 => ?_) (fun h23 g23 => ?_)
            ·subst h23
             have hr := Option.some.inj g23
             subst hr
             exact callP_of is3 rfl (path hm (ks := [6]) (σ' := ⟨[(6, .p (.bool true))], [.cells (rowI e70 p0) 2]⟩) (cc := c394 ++ [.reg [] [] 0 [(1, none, .call (.int .i64 r6)), (3, none, .bor [] [.sl (List.map e70 p0) false] (.int .i64 r7)), (4, none, .b true), (8, none, .b true), (13, none, .b true), (18, none, .b true), (23, none, .b true), (28, none, .bor [] [.sl (List.map e70 p0) fp0, .sl (List.map e70 p0) false] (.bool true)), (33, none, .cw [.sl (List.map e60 p1) fp1, .sl (List.map e60 ([] : List (Int × Int))) false] (.bool true)), (36, none, .call (.bool true))] [6]])
   (q374 (q375 (q393 (q395 (q396 (ai (show PVleL [.sl (List.map e60 p1) fp1, .nilsl] [.sl (List.map e60 p1) fp1, .sl (List.map e60 ([] : List (Int × Int))) false] from (.cons _ _ _ _ (.refl _) (.cons _ _ _ _ (.nil _) .nil))) (q397 (ai (F8_ok fuel  _ h22) trivial)))))))) (by kernel_rfl)) (e := .ret) rfl (vs := [.p (.bool true)]) trivial (by kernel_rfl) (.p _ _ (.refl _))
            ·subst h23
             have hr := Option.some.inj g23
             subst hr
             exact callP_of is3 rfl (path hm (ks := [6]) (σ' := z3) (cc := c394 ++ [.reg [] [] 0 [(1, none, .call (.int .i64 r6)), (3, none, .bor [] [.sl (List.map e70 p0) false] (.int .i64 r7)), (4, none, .b true), (8, none, .b true), (13, none, .b true), (18, none, .b true), (23, none, .b true), (28, none, .bor [] [.sl (List.map e70 p0) fp0, .sl (List.map e70 p0) false] (.bool true)), (33, none, .cw [.sl (List.map e60 p1) fp1, .sl (List.map e60 ([] : List (Int × Int))) false] (.bool true)), (36, none, .call (.bool false))] [6]])
   (q374 (q375 (q393 (q395 (q396 (ai (show PVleL [.sl (List.map e60 p1) fp1, .nilsl] [.sl (List.map e60 p1) fp1, .sl (List.map e60 ([] : List (Int × Int))) false] from (.cons _ _ _ _ (.refl _) (.cons _ _ _ _ (.nil _) .nil))) (q397 (ai (F8_ok fuel  _ h22) trivial)))))))) (by kernel_rfl)) (e := .ret) rfl (vs := [.p (.bool false)]) trivial (by kernel_rfl) (.p _ _ (.refl _))
           ·subst h21
            have hr := Option.some.inj g21
            subst hr
            exact callP_of is3 rfl (path hm (ks := [6]) (σ' := z3) (cc := c394 ++ [.reg [] [] 0 [(1, none, .call (.int .i64 r6)), (3, none, .bor [] [.sl (List.map e70 p0) false] (.int .i64 r7)), (4, none, .b true), (8, none, .b true), (13, none, .b true), (18, none, .b true), (23, none, .b true), (28, none, .bor [] [.sl (List.map e70 p0) fp0, .sl (List.map e70 p0) false] (.bool true)), (33, none, .cw [.sl (List.map e60 p1) fp1, .sl (List.map e60 ([] : List (Int × Int))) false] (.bool false))] [6]])
   (q374 (q375 (q393 (q395 (q396 (ai (show PVleL [.sl (List.map e60 p1) fp1, .nilsl] [.sl (List.map e60 p1) fp1, .sl (List.map e60 ([] : List (Int × Int))) false] from (.cons _ _ _ _ (.refl _) (.cons _ _ _ _ (.nil _) .nil))) (q397 trivial))))))) (by kernel_rfl)) (e := .ret) rfl (vs := [.p (.bool false)]) trivial (by kernel_rfl) (.p _ _ (.refl _))
          ·subst h19
           have hr := Option.some.inj g19
           subst hr
           exact callP_of is3 rfl (path hm (ks := [6]) (σ' := z3) (cc := c394 ++ [.reg [] [] 0 [(1, none, .call (.int .i64 r6)), (3, none, .bor [] [.sl (List.map e70 p0) false] (.int .i64 r7)), (4, none, .b true), (8, none, .b true), (13, none, .b true), (18, none, .b true), (23, none, .b true), (28, none, .bor [] [.sl (List.map e70 p0) fp0, .sl (List.map e70 p0) false] (.bool false))] [6]])
   (q374 (q375 (q393 (q395 (q396 trivial))))) (by kernel_rfl)) (e := .ret) rfl (vs := [.p (.bool false)]) trivial (by kernel_rfl) (.p _ _ (.refl _))
         ·have hr := Option.some.inj g17
          subst hr
          exact callP_of is3 rfl (path hm (ks := [6]) (σ' := z3) (cc := c394 ++ [.reg [] [] 0 [(1, none, .call (.int .i64 r6)), (3, none, .bor [] [.sl (List.map e70 p0) false] (.int .i64 r7)), (4, none, .b true), (8, none, .b true), (13, none, .b true), (18, none, .b true), (23, none, .b false)] [6]])
   (q374 (q375 (q393 (q395 (ai h13 (ai h14 (ai h15 (ai h16 (ai h17 trivial))))))))) (by kernel_rfl)) (e := .ret) rfl (vs := [.p (.bool false)]) trivial (by kernel_rfl) (.p _ _ (.refl _))
        ·have hr := Option.some.inj g16
         subst hr
         exact callP_of is3 rfl (path hm (ks := [6]) (σ' := z3) (cc := c394 ++ [.reg [] [] 0 [(1, none, .call (.int .i64 r6)), (3, none, .bor [] [.sl (List.map e70 p0) false] (.int .i64 r7)), (4, none, .b true), (8, none, .b true), (13, none, .b true), (18, none, .b false)] [6]])
   (q374 (q375 (q393 (q395 (ai h13 (ai h14 (ai h15 (ai h16 trivial)))))))) (by kernel_rfl)) (e := .ret) rfl (vs := [.p (.bool false)]) trivial (by kernel_rfl) (.p _ _ (.refl _))
       ·have hr := Option.some.inj g15
        subst hr
        exact callP_of is3 rfl (path hm (ks := [6]) (σ' := z3) (cc := c394 ++ [.reg [] [] 0 [(1, none, .call (.int .i64 r6)), (3, none, .bor [] [.sl (List.map e70 p0) false] (.int .i64 r7)), (4, none, .b true), (8, none, .b true), (13, none, .b false)] [6]])
   (q374 (q375 (q393 (q395 (ai h13 (ai h14 (ai h15 trivial))))))) (by kernel_rfl)) (e := .ret) rfl (vs := [.p (.bool false)]) trivial (by kernel_rfl) (.p _ _ (.refl _))
      ·have hr := Option.some.inj g14
       subst hr
       exact callP_of is3 rfl (path hm (ks := [6]) (σ' := z3) (cc := c394 ++ [.reg [] [] 0 [(1, none, .call (.int .i64 r6)), (3, none, .bor [] [.sl (List.map e70 p0) false] (.int .i64 r7)), (4, none, .b true), (8, none, .b false)] [6]])
   (q374 (q375 (q393 (q395 (ai h13 (ai h14 trivial)))))) (by kernel_rfl)) (e := .ret) rfl (vs := [.p (.bool false)]) trivial (by kernel_rfl) (.p _ _ (.refl _))
     ·have hr := Option.some.inj g13
      subst hr
      exact callP_of is3 rfl (path hm (ks := [6]) (σ' := z3) (cc := c394 ++ [.reg [] [] 0 [(1, none, .call (.int .i64 r6)), (3, none, .bor [] [.sl (List.map e70 p0) false] (.int .i64 r7)), (4, none, .b false)] [6]])
   (q374 (q375 (q393 (q395 (ai h13 trivial))))) (by kernel_rfl)) (e := .ret) rfl (vs := [.p (.bool false)]) trivial (by kernel_rfl) (.p _ _ (.refl _))
    ·refine oif_elim g6 (fun h7 g7 => ?_) (fun _ h => nomatch h)
     refine obind_elim g7 fun r2 h8 g8 => ?_
     refine obind_elim g8 fun r3 h9 g9 => ?_
     refine obind_elim g9 fun r4 h10 g10 => ?_
     refine obind_elim g10 fun r5 h11 g11 => ?_
     refine obind_elim g11 fun r6 h12 g12 => ?_
     refine obind_elim g12 fun r7 h13 g13 => ?_
     let c398 : List CC := c377 ++ [.reg [] [] 2 [(1, some 0, .ap (rowI e70 p0) (List.length p0) (List.length (rowI e70 p0))), (3, some 1, .ap (rowI e60 p1) (List.length p1) (List.length (rowI e60 p1)))] [0, 1, 2, 7, 8], .reg [] [] 0 [(2, none, .call (.tup [.int .i64 r2.1, .int .i64 r2.2]))] [0, 1, 2, 7, 8, 9, 10], .reg [] [] 0 [(2, none, .bor [] [.sl (List.map e70 p0) false, .sl (List.map e60 p1) false] (.tup [.int .i64 r3.1, .int .i64 r3.2]))] [0, 1, 2, 7, 8, 9, 10, 11, 12], .reg [] [] 0 [(3, none, .call (.tup [.int .i64 r4.1, .int .i64 r4.2]))] [0, 1, 2, 7, 8, 9, 10, 11, 12, 13, 14], .reg [] [] 0 [(3, none, .bor [] [.sl (List.map e70 p0) false, .sl (List.map e60 p1) false, .int .i64 p2] (.tup [.int .i64 r5.1, .int .i64 r5.2]))] [0, 1, 7, 8, 9, 10, 11, 12, 13, 14, 15, 16]]
     have q399 := fun {P : Prop} (t : P) => ai (notEmpty_len e60 h6) (ai (od h7) (ai (app_c0 (by decide) (od h7)) (ai (len_map2 e60 p1) (ai (rl (List.length (rowI e60 p1))) (ai (row_src e60 p1) (ai (row_sc el60 p1) (ai (row_es el60 p1) (ai (F9_ok fuel p0 p1 fp0 fp1 _ h8) (ai (snap_row (hp := one 0 (.cells (rowI e70 p0) 2)) (l := 0) (x := false) (g := 2) (L := p0) el70 (by kernel_rfl) (rl (List.length (rowI e70 p0))) (rl (List.length p0))) (ai (snap_row (hp := one 1 (.cells (rowI e60 p1) 2)) (l := 1) (x := false) (g := 2) (L := p1) el60 (by kernel_rfl) (rl (List.length (rowI e60 p1))) (rl (List.length p1))) (ai (F10_ok fuel p0 p1 false false _ h9) (ai (F11_ok fuel p0 p1 p2 fp0 fp1 _ h10) (ai (snap_row (hp := one 0 (.cells (rowI e70 p0) 2)) (l := 0) (x := false) (g := 2) (L := p0) el70 (by kernel_rfl) (rl (List.length (rowI e70 p0))) (rl (List.length p0))) (ai (snap_row (hp := one 1 (.cells (rowI e60 p1) 2)) (l := 1) (x := false) (g := 2) (L := p1) el60 (by kernel_rfl) (rl (List.length (rowI e60 p1))) (rl (List.length p1))) (ai (.refl _ : PVle (.int .i64 p2) (.int .i64 p2)) (ai (F12_ok fuel p0 p1 p2 false false _ h11) (ai (F13_ok fuel p0 fp0 _ h12) (ai (snap_row (hp := one 0 (.cells (rowI e70 p0) 2)) (l := 0) (x := false) (g := 2) (L := p0) el70 (by kernel_rfl) (rl (List.length (rowI e70 p0))) (rl (List.length p0))) (ai (F14_ok fuel p0 false _ h13) t)))))))))))))))))))
     refine oif_elim g13 (fun h14 g14 => ?_) (fun h14 g14 => ?_)
     ·refine oif_elim g14 (fun h15 g15 => ?_) (fun h15 g15 => ?_)
      ·refine oif_elim g15 (fun h16 g16 => ?_) (fun h16 g16 => ?_)
       ·refine oif_elim g16 (fun h17 g17 => ?_) (fun h17 g17 => ?_)
        ·refine oif_elim g17 (fun h18 g18 => ?_) (fun h18 g18 => ?_)
         ·refine obind_elim g18 fun r8 h19 g19 => ?_
          have q400 := fun {P : Prop} (t : P) => ai h14 (ai h15 (ai h16 (ai h17 (ai h18 (ai (.refl _ : PVle (.sl (List.map e70 p0) fp0) (.sl (List.map e70 p0) fp0)) (ai (snap_row (hp := one 0 (.cells (rowI e70 p0) 2)) (l := 0) (x := false) (g := 2) (L := p0) el70 (by kernel_rfl) (rl (List.length (rowI e70 p0))) (rl (List.length p0))) (ai (F15_ok fuel p0 p0 fp0 false _ h19) t)))))))
          refine oif_elim g19 (fun h20 g20 => ?_) (fun h20 g20 => ?_)
          ·subst h20
           refine obind_elim g20 fun r9 h21 g21 => ?_
           have q401 := fun {P : Prop} (t : P) => ai (.refl _ : PVle (.sl (List.map e60 p1) fp1) (.sl (List.map e60 p1) fp1)) (ai (snap_row (hp := one 1 (.cells (rowI e60 p1) 2)) (l := 1) (x := false) (g := 2) (L := p1) el60 (by kernel_rfl) (rl (List.length (rowI e60 p1))) (rl (List.length p1))) (ai (F16_ok fuel p1 p1 fp1 false _ h21) t))
           refine oif_elim g21 (fun h22 g22 => ?_) (fun h22 g22 => ?_)
           ·subst h22
            refine obind_elim g22 fun r10 h23 g23 => ?_
            refine oif_elim g23 (fun h24 g24 => ?_) (fun h24 g24 => ?_)
            ·subst h24
             have hr := Option.some.inj g24
             subst hr
             exact callP_of is3 rfl (path hm (ks := [6]) (σ' := ⟨[(6, .p (.bool true))], z4⟩) (cc := c398 ++ [.reg [] [] 0 [(1, none, .call (.int .i64 r6)), (3, none, .bor [] [.sl (List.map e70 p0) false] (.int .i64 r7)), (4, none, .b true), (8, none, .b true), (13, none, .b true), (18, none, .b true), (23, none, .b true), (28, none, .bor [] [.sl (List.map e70 p0) fp0, .sl (List.map e70 p0) false] (.bool true)), (33, none, .bor [] [.sl (List.map e60 p1) fp1, .sl (List.map e60 p1) false] (.bool true)), (36, none, .call (.bool true))] [6]])
   (q374 (q375 (q393 (q399 (q400 (q401 (ai (F8_ok fuel  _ h23) trivial))))))) (by kernel_rfl)) (e := .ret) rfl (vs := [.p (.bool true)]) trivial (by kernel_rfl) (.p _ _ (.refl _))
            ·subst h24
             have hr := Option.some.inj g24
             subst hr
             exact callP_of is3 rfl (path hm (ks := [6]) (σ' := z1) (cc := c398 ++ [.reg [] [] 0 [(1, none, .call (.int .i64 r6)), (3, none, .bor [] [.sl (List.map e70 p0) false] (.int .i64 r7)), (4, none, .b true), (8, none, .b true), (13, none, .b true), (18, none, .b true), (23, none, .b true), (28, none, .bor [] [.sl (List.map e70 p0) fp0, .sl (List.map e70 p0) false] (.bool true)), (33, none, .bor [] [.sl (List.map e60 p1) fp1, .sl (List.map e60 p1) false] (.bool true)), (36, none, .call (.bool false))] [6]])
   (q374 (q375 (q393 (q399 (q400 (q401 (ai (F8_ok fuel  _ h23) trivial))))))) (by kernel_rfl)) (e := .ret) rfl (vs := [.p (.bool false)]) trivial (by kernel_rfl) (.p _ _ (.refl _))
           ·subst h22
            have hr := Option.some.inj g22
            subst hr
            exact callP_of is3 rfl (path hm (ks := [6]) (σ' := z1) (cc := c398 ++ [.reg [] [] 0 [(1, none, .call (.int .i64 r6)), (3, none, .bor [] [.sl (List.map e70 p0) false] (.int .i64 r7)), (4, none, .b true), (8, none, .b true), (13, none, .b true), (18, none, .b true), (23, none, .b true), (28, none, .bor [] [.sl (List.map e70 p0) fp0, .sl (List.map e70 p0) false] (.bool true)), (33, none, .bor [] [.sl (List.map e60 p1) fp1, .sl (List.map e60 p1) false] (.bool false))] [6]])
   (q374 (q375 (q393 (q399 (q400 (q401 trivial)))))) (by kernel_rfl)) (e := .ret) rfl (vs := [.p (.bool false)]) trivial (by kernel_rfl) (.p _ _ (.refl _))
          ·subst h20
           have hr := Option.some.inj g20
           subst hr
           exact callP_of is3 rfl (path hm (ks := [6]) (σ' := z1) (cc := c398 ++ [.reg [] [] 0 [(1, none, .call (.int .i64 r6)), (3, none, .bor [] [.sl (List.map e70 p0) false] (.int .i64 r7)), (4, none, .b true), (8, none, .b true), (13, none, .b true), (18, none, .b true), (23, none, .b true), (28, none, .bor [] [.sl (List.map e70 p0) fp0, .sl (List.map e70 p0) false] (.bool false))] [6]])
   (q374 (q375 (q393 (q399 (q400 trivial))))) (by kernel_rfl)) (e := .ret) rfl (vs := [.p (.bool false)]) trivial (by kernel_rfl) (.p _ _ (.refl _))
         ·have hr := Option.some.inj g18
          subst hr
          exact callP_of is3 rfl (path hm (ks := [6]) (σ' := z1) (cc := c398 ++ [.reg [] [] 0 [(1, none, .call (.int .i64 r6)), (3, none, .bor [] [.sl (List.map e70 p0) false] (.int .i64 r7)), (4, none, .b true), (8, none, .b true), (13, none, .b true), (18, none, .b true), (23, none, .b false)] [6]])
   (q374 (q375 (q393 (q399 (ai h14 (ai h15 (ai h16 (ai h17 (ai h18 trivial))))))))) (by kernel_rfl)) (e := .ret) rfl (vs := [.p (.bool false)]) trivial (by kernel_rfl) (.p _ _ (.refl _))
        ·have hr := Option.some.inj g17
         subst hr
         exact callP_of is3 rfl (path hm (ks := [6]) (σ' := z1) (cc := c398 ++ [.reg [] [] 0 [(1, none, .call (.int .i64 r6)), (3, none, .bor [] [.sl (List.map e70 p0) false] (.int .i64 r7)), (4, none, .b true), (8, none, .b true), (13, none, .b true), (18, none, .b false)] [6]])
   (q374 (q375 (q393 (q399 (ai h14 (ai h15 (ai h16 (ai h17 trivial)))))))) (by kernel_rfl)) (e := .ret) rfl (vs := [.p (.bool false)]) trivial (by kernel_rfl) (.p _ _ (.refl _))
       ·have hr := Option.some.inj g16
        subst hr
        exact callP_of is3 rfl (path hm (ks := [6]) (σ' := z1) (cc := c398 ++ [.reg [] [] 0 [(1, none, .call (.int .i64 r6)), (3, none, .bor [] [.sl (List.map e70 p0) false] (.int .i64 r7)), (4, none, .b true), (8, none, .b true), (13, none, .b false)] [6]])
   (q374 (q375 (q393 (q399 (ai h14 (ai h15 (ai h16 trivial))))))) (by kernel_rfl)) (e := .ret) rfl (vs := [.p (.bool false)]) trivial (by kernel_rfl) (.p _ _ (.refl _))
      ·have hr := Option.some.inj g15
       subst hr
       exact callP_of is3 rfl (path hm (ks := [6]) (σ' := z1) (cc := c398 ++ [.reg [] [] 0 [(1, none, .call (.int .i64 r6)), (3, none, .bor [] [.sl (List.map e70 p0) false] (.int .i64 r7)), (4, none, .b true), (8, none, .b false)] [6]])
   (q374 (q375 (q393 (q399 (ai h14 (ai h15 trivial)))))) (by kernel_rfl)) (e := .ret) rfl (vs := [.p (.bool false)]) trivial (by kernel_rfl) (.p _ _ (.refl _))
     ·have hr := Option.some.inj g14
      subst hr
      exact callP_of is3 rfl (path hm (ks := [6]) (σ' := z1) (cc := c398 ++ [.reg [] [] 0 [(1, none, .call (.int .i64 r6)), (3, none, .bor [] [.sl (List.map e70 p0) false] (.int .i64 r7)), (4, none, .b false)] [6]])
   (q374 (q375 (q393 (q399 (ai h14 trivial))))) (by kernel_rfl)) (e := .ret) rfl (vs := [.p (.bool false)]) trivial (by kernel_rfl) (.p _ _ (.refl _))
end Go.Idl.N
