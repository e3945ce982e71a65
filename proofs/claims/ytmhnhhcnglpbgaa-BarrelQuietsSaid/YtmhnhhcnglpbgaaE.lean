/-
  Part E of a proof: natives of the functions that are reached, and their contracts.
-/
import Derived.Test.YtmhnhhcnglpbgaaD
import Derived.Test.YtmhnhhcnglpbgaaProg
set_option maxRecDepth 100000
set_option linter.unusedVariables false
set_option linter.unusedSimpArgs false
namespace Go.Idl.N
open Go Go.Idl Go.Proofs.Try
theorem F32_ok  (fuel : Nat) (p0 : (List (Int × Int))) (p1 : Int) (fp0 : Bool) (r : ((List Int) × Int)) (h : F32 fuel p0 p1 = some r) : CallP prog 32 [.sl (List.map e68 p0) fp0, .int .i64 p1] (.tup [.sl (List.map e2 r.1) false, .int .i64 r.2]) := by
  unfold F32 at h
  refine obind_elim h fun r1 h1 g1 => ?_
  let c75 : List CC := [.reg [] [] 0 [] [0, 1], .reg [] [] 0 [(1, none, .call (.int .i64 r1))] [0, 1, 6]]
  have q76 := fun {P : Prop} (t : P) => ai (F12_ok fuel p0 fp0 _ h1) t
  refine oif_elim g1 (fun h2 g2 => ?_) (fun h2 g2 => ?_)
  · have hr := Option.some.inj g2
    subst hr
    exact callP_of is32 rfl (path hm (ks := [4, 5]) (σ' := ⟨[(4, .p (.nilsl)), (5, .p (.int .i64 r1))], []⟩) (cc := c75 ++ [.reg [] [] 0 [(1, none, .b true)] [0, 1, 6, 16], .reg [] [] 0 [] [4, 5]])
      (q76 (ai h2 trivial)) (by kernel_rfl)) (e := .ret) rfl (vs := [.p (.nilsl), .p (.int .i64 r1)]) trivial (by kernel_rfl) (.tup _ _ (.cons _ _ _ _ (.p _ _ (.nil _)) (.cons _ _ _ _ (.p _ _ (.refl _)) .nil)))
  · refine obind_elim g2 fun r2 h3 g3 => ?_
    let c77 : List CC := c75 ++ [.reg [] [] 0 [(1, none, .b false)] [0, 1, 6, 16]]
    have q78 := fun {P : Prop} (t : P) => ai h2 (ai (len_map e68 p0) (ai (F43_ok fuel 0 (IntKind.wrap .i64 ((p0.length : Int) - 1)) [p1] true _ h3) t))
    refine oif_elim g3 (fun h4 g4 => ?_) (fun h4 g4 => ?_)
    · subst h4
      refine obind_elim g4 fun r3 h5 g5 => ?_
      let c79 : List CC := c77 ++ [.reg [] [] 0 [(1, none, .n (p0.length : Int)), (5, none, .call (.bool true))] [0, 1, 20]]
      refine oif_elim g5 (fun h6 g6 => ?_) (fun h6 g6 => ?_)
      · exact nomatch g6
      · refine obind_elim g6 fun y h7 g7 => ?_
        match y, h7, g7 with
        | .inl y4, h7, g7 =>
          refine obind_elim g7 fun y5 h8 g8 => ?_
          refine obind_elim g8 fun r6 h9 g9 => ?_
          have q80 := fun {P : Prop} (t : P) => ai (F60_own fuel p0 fp0 _ h5 h6) (ai (G59_ok fuel p1 (IntKind.wrap .i64 (p1 + 1)) r3 _ h7) (ai (snap_row (hp := one 0 (.cells (rowI e68 r3) 2)) (l := 0) (x := false) (g := 2) (L := r3) el68 (by kernel_rfl) (rl (List.length (rowI e68 r3))) (rl (List.length r3))) (ai (F58_ok fuel r3 false _ h8) t)))
          refine oif_elim g9 (fun h10 g10 => ?_) (fun h10 g10 => ?_)
          · refine obind_elim g10 fun x7 h11 g11 => ?_
            refine obind_elim g11 fun r8 h12 g12 => ?_
            refine oif_elim g12 (fun h13 g13 => ?_) (fun _ h => nomatch h)
            refine oif_elim g13 (fun h14 g14 => ?_) (fun _ h => nomatch h)
            refine oif_elim g14 (fun h15 g15 => ?_) (fun _ h => nomatch h)
            refine oif_elim g15 (fun h16 g16 => ?_) (fun _ h => nomatch h)
            refine obind_elim g16 fun y9 h17 g17 => ?_
            have hr := Option.some.inj g17
            subst hr
            exact callP_of is32 rfl (path hm (ks := [4, 5]) (σ' := ⟨[(4, .msl 0 0 (List.length y9) (List.length (rowI e2 y9)) true), (5, .p (.int .i64 0))], [.cells (rowI e2 y9) 1]⟩) (cc := c79 ++ [.reg [] [] 1 [(1, some 0, .ap (rowI e68 r3) (List.length r3) 2), (5, none, .ci (.msl 0 0 (List.length r3) (List.length (rowI e68 r3)) false) []), (6, none, .bor [0] [.sl (List.map e68 r3) false] (.ref [.sl (List.map e68 r3) false, .map (mapK e81 y5) (mapV e2 y5)])), (7, none, .call (.tup [.int .i64 r6.1, .int .i64 r6.2.1, .bool true]))] [0, 1, 7, 8, 9], .reg [] [] 0 [] [0, 1, 7, 8, 41], .reg [] [] 0 [(2, none, .iv (.p (.agg [.int .i64 x7.1, .int .i64 x7.2])))] [7, 8, 10], .reg [] [] 0 [(2, none, .call (.int .i64 r8))] [7, 10, 11], .reg [] [] 1 [(3, some 1, .ap (rowI e2 (List.replicate (Int.toNat (IntKind.wrap .i64 (Int.tdiv x7.1 r8))) (0 : Int))) (Int.toNat (IntKind.wrap .i64 (Int.tdiv x7.1 r8))) (List.length (rowI e2 (List.replicate (Int.toNat (IntKind.wrap .i64 (Int.tdiv x7.1 r8))) (0 : Int)))))] [7, 11, 12], .reg [] [] 0 [(1, none, .cs (rowI e2 (List.replicate (Int.toNat (IntKind.wrap .i64 (Int.tdiv x7.1 r8))) (0 : Int))))] [7, 11, 12], .reg [] [] 0 [] [7, 11, 12, 56, 57], .leaf (.exit 1) ⟨[(12, .msl 0 0 (List.length y9) (List.length (rowI e2 y9)) true)], [.cells (rowI e2 y9) 1]⟩, .reg [] [] 0 [] [4, 5]])
      (q76 (q78 (q80 (ai (show CallP prog 45 [.ref [.sl (List.map e68 r3) false, .map (mapK e81 y5) (mapV e2 y5)]] (.tup [.int .i64 r6.1, .int .i64 r6.2.1, .bool true]) from h10 ▸ (F45_ok fuel (r3, y5) _ h9)) (ai (sg_map (f := e68) h11) (ai (F61_ok fuel r6.2.1 x7.1 _ h12) (ai (od h13) (ai (od h14) (ai (rfl : ((IntKind.wrap .i64 (Int.tdiv x7.1 r8)) : Int) = (IntKind.wrap .i64 (Int.tdiv x7.1 r8))) (ai (od h15) (ai (od h16) (ai (rl (Int.toNat (IntKind.wrap .i64 (Int.tdiv x7.1 r8)))) (ai (rl (List.length (rowI e2 (List.replicate (Int.toNat (IntKind.wrap .i64 (Int.tdiv x7.1 r8))) (0 : Int))))) (ai (zeros_row el2 (0 : Int) (Int.toNat (IntKind.wrap .i64 (Int.tdiv x7.1 r8)))) (ai (rl (List.length (rowI e2 (List.replicate (Int.toNat (IntKind.wrap .i64 (Int.tdiv x7.1 r8))) (0 : Int))))) (ai (row_whole_le el2 (List.length_replicate : List.length (List.replicate (Int.toNat (IntKind.wrap .i64 (Int.tdiv x7.1 r8))) (0 : Int)) = (Int.toNat (IntKind.wrap .i64 (Int.tdiv x7.1 r8)))) (rl (List.length (rowI e2 (List.replicate (Int.toNat (IntKind.wrap .i64 (Int.tdiv x7.1 r8))) (0 : Int)))))) (ai (row_clear el2 (0 : Int) (List.length_replicate : List.length (List.replicate (Int.toNat (IntKind.wrap .i64 (Int.tdiv x7.1 r8))) (0 : Int)) = (Int.toNat (IntKind.wrap .i64 (Int.tdiv x7.1 r8))))) (ai (SemC.pre (σ := ⟨[(7, .p (.int .i64 r6.1)), (11, .p (.int .i64 r8)), (12, .msl 1 0 (Int.toNat (IntKind.wrap .i64 (Int.tdiv x7.1 r8))) (List.length (rowI e2 (List.replicate (Int.toNat (IntKind.wrap .i64 (Int.tdiv x7.1 r8))) (0 : Int)))) true), (56, .p (.int .i64 (((Int.toNat (IntKind.wrap .i64 (Int.tdiv x7.1 r8))) : Nat) : Int))), (57, .p (.int .i64 0))], [.dead, .cells (rowI e2 (List.replicate (Int.toNat (IntKind.wrap .i64 (Int.tdiv x7.1 r8))) (0 : Int))) 1]⟩) (SemJ.loop (L32_0_ok r6.1 r8 (((Int.toNat (IntKind.wrap .i64 (Int.tdiv x7.1 r8))) : Nat) : Int) fp0 fuel 0 (List.replicate (Int.toNat (IntKind.wrap .i64 (Int.tdiv x7.1 r8))) (0 : Int)) _ h17)) (Weak.trans (Weak.sel (E := [(7, .p (.int .i64 r6.1)), (11, .p (.int .i64 r8)), (12, .msl 1 0 (Int.toNat (IntKind.wrap .i64 (Int.tdiv x7.1 r8))) (List.length (rowI e2 (List.replicate (Int.toNat (IntKind.wrap .i64 (Int.tdiv x7.1 r8))) (0 : Int)))) true), (56, .p (.int .i64 (((Int.toNat (IntKind.wrap .i64 (Int.tdiv x7.1 r8))) : Nat) : Int))), (57, .p (.int .i64 0))]) (E' := [(7, .p (.int .i64 r6.1)), (11, .p (.int .i64 r8)), (12, .msl 0 0 (Int.toNat (IntKind.wrap .i64 (Int.tdiv x7.1 r8))) (List.length (rowI e2 (List.replicate (Int.toNat (IntKind.wrap .i64 (Int.tdiv x7.1 r8))) (0 : Int)))) true), (56, .p (.int .i64 (((Int.toNat (IntKind.wrap .i64 (Int.tdiv x7.1 r8))) : Nat) : Int))), (57, .p (.int .i64 0))]) (H := [.dead, .cells (rowI e2 (List.replicate (Int.toNat (IntKind.wrap .i64 (Int.tdiv x7.1 r8))) (0 : Int))) 1]) (H' := [.cells (rowI e2 (List.replicate (Int.toNat (IntKind.wrap .i64 (Int.tdiv x7.1 r8))) (0 : Int))) 1]) [1] (selH_cons (o := .cells (rowI e2 (List.replicate (Int.toNat (IntKind.wrap .i64 (Int.tdiv x7.1 r8))) (0 : Int))) 1) (o' := .cells (rowI e2 (List.replicate (Int.toNat (IntKind.wrap .i64 (Int.tdiv x7.1 r8))) (0 : Int))) 1) (by kernel_rfl) sel_row trivial) (by kernel_rfl) (by kernel_rfl)) (Weak.eq (congrArg (fun ZZ : Nat => (⟨[(7, .p (.int .i64 r6.1)), (11, .p (.int .i64 r8)), (12, .msl 0 0 ZZ (List.length (rowI e2 (List.replicate (Int.toNat (IntKind.wrap .i64 (Int.tdiv x7.1 r8))) (0 : Int)))) true), (56, .p (.int .i64 (((Int.toNat (IntKind.wrap .i64 (Int.tdiv x7.1 r8))) : Nat) : Int))), (57, .p (.int .i64 0))], [.cells (rowI e2 (List.replicate (Int.toNat (IntKind.wrap .i64 (Int.tdiv x7.1 r8))) (0 : Int))) 1]⟩ : St)) (Eq.symm (List.length_replicate : List.length (List.replicate (Int.toNat (IntKind.wrap .i64 (Int.tdiv x7.1 r8))) (0 : Int)) = (Int.toNat (IntKind.wrap .i64 (Int.tdiv x7.1 r8))))))))) trivial)))))))))))))))))) (by kernel_rfl)) (e := .ret) rfl (vs := [.msl 0 0 (List.length y9) (List.length (rowI e2 y9)) true, .p (.int .i64 0)]) trivial (by kernel_rfl) (.tup _ _ (.cons _ _ _ _ (snap_row (g := 1) (L := y9) el2 (by kernel_rfl) (rl (List.length (rowI e2 y9))) (rl (List.length y9))) (.cons _ _ _ _ (.p _ _ (.refl _)) .nil)))
          · have hr := Option.some.inj g10
            subst hr
            exact callP_of is32 rfl (path hm (ks := [4, 5]) (σ' := ⟨[(4, .p (.nilsl)), (5, .p (.int .i64 0))], [.dead]⟩) (cc := c79 ++ [.reg [] [] 1 [(1, some 0, .ap (rowI e68 r3) (List.length r3) 2), (5, none, .ci (.msl 0 0 (List.length r3) (List.length (rowI e68 r3)) false) []), (6, none, .bor [0] [.sl (List.map e68 r3) false] (.ref [.sl (List.map e68 r3) false, .map (mapK e81 y5) (mapV e2 y5)])), (7, none, .call (.tup [.int .i64 r6.1, .int .i64 r6.2.1, .bool false]))] [0, 1, 7, 8, 9], .reg [] [] 0 [] [0, 1, 7, 8, 41], .reg [] [] 0 [] [4, 5]])
      (q76 (q78 (q80 (ai (show CallP prog 45 [.ref [.sl (List.map e68 r3) false, .map (mapK e81 y5) (mapV e2 y5)]] (.tup [.int .i64 r6.1, .int .i64 r6.2.1, .bool false]) from h10 ▸ (F45_ok fuel (r3, y5) _ h9)) trivial)))) (by kernel_rfl)) (e := .ret) rfl (vs := [.p (.nilsl), .p (.int .i64 0)]) trivial (by kernel_rfl) (.tup _ _ (.cons _ _ _ _ (.p _ _ (.nil _)) (.cons _ _ _ _ (.p _ _ (.refl _)) .nil)))
        | .inr (y4), h7, g7 =>
          refine oif_elim g7 (fun h8 g8 => ?_) (fun _ h => nomatch h)
          refine obind_elim g8 fun y5 h9 g9 => ?_
          refine obind_elim g9 fun r6 h10 g10 => ?_
          have q81 := fun {P : Prop} (t : P) => ai (F60_own fuel p0 fp0 _ h5 h6) (ai (G59_ok fuel p1 (IntKind.wrap .i64 (p1 + 1)) r3 _ h7) (ai (snap_part (hp := one 0 (.cells (rowI e68 y4.2) 2)) (l := 0) (x := false) (g := 2) (len := y4.1) (L := y4.2) el68 (by kernel_rfl) (rl (List.length (rowI e68 y4.2))) (od h8)) (ai (F58_ok fuel (List.take y4.1 y4.2) false _ h9) t)))
          refine oif_elim g10 (fun h11 g11 => ?_) (fun h11 g11 => ?_)
          · refine obind_elim g11 fun x7 h12 g12 => ?_
            refine obind_elim g12 fun r8 h13 g13 => ?_
            refine oif_elim g13 (fun h14 g14 => ?_) (fun _ h => nomatch h)
            refine oif_elim g14 (fun h15 g15 => ?_) (fun _ h => nomatch h)
            refine oif_elim g15 (fun h16 g16 => ?_) (fun _ h => nomatch h)
            refine oif_elim g16 (fun h17 g17 => ?_) (fun _ h => nomatch h)
            refine obind_elim g17 fun y9 h18 g18 => ?_
            have hr := Option.some.inj g18
            subst hr
            exact callP_of is32 rfl (path hm (ks := [4, 5]) (σ' := ⟨[(4, .msl 0 0 (List.length y9) (List.length (rowI e2 y9)) true), (5, .p (.int .i64 0))], [.cells (rowI e2 y9) 1]⟩) (cc := c79 ++ [.reg [] [] 1 [(1, some 0, .ap (rowI e68 r3) (List.length r3) 2), (5, none, .ci (.msl 0 0 y4.1 (List.length (rowI e68 y4.2)) false) [(0, .cells (rowI e68 y4.2) 2)]), (6, none, .bor [0] [.sl (List.map e68 (List.take y4.1 y4.2)) false] (.ref [.sl (List.map e68 (List.take y4.1 y4.2)) false, .map (mapK e81 y5) (mapV e2 y5)])), (7, none, .call (.tup [.int .i64 r6.1, .int .i64 r6.2.1, .bool true]))] [0, 1, 7, 8, 9], .reg [] [] 0 [] [0, 1, 7, 8, 41], .reg [] [] 0 [(2, none, .iv (.p (.agg [.int .i64 x7.1, .int .i64 x7.2])))] [7, 8, 10], .reg [] [] 0 [(2, none, .call (.int .i64 r8))] [7, 10, 11], .reg [] [] 1 [(3, some 1, .ap (rowI e2 (List.replicate (Int.toNat (IntKind.wrap .i64 (Int.tdiv x7.1 r8))) (0 : Int))) (Int.toNat (IntKind.wrap .i64 (Int.tdiv x7.1 r8))) (List.length (rowI e2 (List.replicate (Int.toNat (IntKind.wrap .i64 (Int.tdiv x7.1 r8))) (0 : Int)))))] [7, 11, 12], .reg [] [] 0 [(1, none, .cs (rowI e2 (List.replicate (Int.toNat (IntKind.wrap .i64 (Int.tdiv x7.1 r8))) (0 : Int))))] [7, 11, 12], .reg [] [] 0 [] [7, 11, 12, 56, 57], .leaf (.exit 1) ⟨[(12, .msl 0 0 (List.length y9) (List.length (rowI e2 y9)) true)], [.cells (rowI e2 y9) 1]⟩, .reg [] [] 0 [] [4, 5]])
      (q76 (q78 (q81 (ai (show CallP prog 45 [.ref [.sl (List.map e68 (List.take y4.1 y4.2)) false, .map (mapK e81 y5) (mapV e2 y5)]] (.tup [.int .i64 r6.1, .int .i64 r6.2.1, .bool true]) from h11 ▸ (F45_ok fuel ((List.take y4.1 y4.2), y5) _ h10)) (ai (sg_map (f := e68) h12) (ai (F61_ok fuel r6.2.1 x7.1 _ h13) (ai (od h14) (ai (od h15) (ai (rfl : ((IntKind.wrap .i64 (Int.tdiv x7.1 r8)) : Int) = (IntKind.wrap .i64 (Int.tdiv x7.1 r8))) (ai (od h16) (ai (od h17) (ai (rl (Int.toNat (IntKind.wrap .i64 (Int.tdiv x7.1 r8)))) (ai (rl (List.length (rowI e2 (List.replicate (Int.toNat (IntKind.wrap .i64 (Int.tdiv x7.1 r8))) (0 : Int))))) (ai (zeros_row el2 (0 : Int) (Int.toNat (IntKind.wrap .i64 (Int.tdiv x7.1 r8)))) (ai (rl (List.length (rowI e2 (List.replicate (Int.toNat (IntKind.wrap .i64 (Int.tdiv x7.1 r8))) (0 : Int))))) (ai (row_whole_le el2 (List.length_replicate : List.length (List.replicate (Int.toNat (IntKind.wrap .i64 (Int.tdiv x7.1 r8))) (0 : Int)) = (Int.toNat (IntKind.wrap .i64 (Int.tdiv x7.1 r8)))) (rl (List.length (rowI e2 (List.replicate (Int.toNat (IntKind.wrap .i64 (Int.tdiv x7.1 r8))) (0 : Int)))))) (ai (row_clear el2 (0 : Int) (List.length_replicate : List.length (List.replicate (Int.toNat (IntKind.wrap .i64 (Int.tdiv x7.1 r8))) (0 : Int)) = (Int.toNat (IntKind.wrap .i64 (Int.tdiv x7.1 r8))))) (ai (SemC.pre (σ := ⟨[(7, .p (.int .i64 r6.1)), (11, .p (.int .i64 r8)), (12, .msl 1 0 (Int.toNat (IntKind.wrap .i64 (Int.tdiv x7.1 r8))) (List.length (rowI e2 (List.replicate (Int.toNat (IntKind.wrap .i64 (Int.tdiv x7.1 r8))) (0 : Int)))) true), (56, .p (.int .i64 (((Int.toNat (IntKind.wrap .i64 (Int.tdiv x7.1 r8))) : Nat) : Int))), (57, .p (.int .i64 0))], [.dead, .cells (rowI e2 (List.replicate (Int.toNat (IntKind.wrap .i64 (Int.tdiv x7.1 r8))) (0 : Int))) 1]⟩) (SemJ.loop (L32_0_ok r6.1 r8 (((Int.toNat (IntKind.wrap .i64 (Int.tdiv x7.1 r8))) : Nat) : Int) fp0 fuel 0 (List.replicate (Int.toNat (IntKind.wrap .i64 (Int.tdiv x7.1 r8))) (0 : Int)) _ h18)) (Weak.trans (Weak.sel (E := [(7, .p (.int .i64 r6.1)), (11, .p (.int .i64 r8)), (12, .msl 1 0 (Int.toNat (IntKind.wrap .i64 (Int.tdiv x7.1 r8))) (List.length (rowI e2 (List.replicate (Int.toNat (IntKind.wrap .i64 (Int.tdiv x7.1 r8))) (0 : Int)))) true), (56, .p (.int .i64 (((Int.toNat (IntKind.wrap .i64 (Int.tdiv x7.1 r8))) : Nat) : Int))), (57, .p (.int .i64 0))]) (E' := [(7, .p (.int .i64 r6.1)), (11, .p (.int .i64 r8)), (12, .msl 0 0 (Int.toNat (IntKind.wrap .i64 (Int.tdiv x7.1 r8))) (List.length (rowI e2 (List.replicate (Int.toNat (IntKind.wrap .i64 (Int.tdiv x7.1 r8))) (0 : Int)))) true), (56, .p (.int .i64 (((Int.toNat (IntKind.wrap .i64 (Int.tdiv x7.1 r8))) : Nat) : Int))), (57, .p (.int .i64 0))]) (H := [.dead, .cells (rowI e2 (List.replicate (Int.toNat (IntKind.wrap .i64 (Int.tdiv x7.1 r8))) (0 : Int))) 1]) (H' := [.cells (rowI e2 (List.replicate (Int.toNat (IntKind.wrap .i64 (Int.tdiv x7.1 r8))) (0 : Int))) 1]) [1] (selH_cons (o := .cells (rowI e2 (List.replicate (Int.toNat (IntKind.wrap .i64 (Int.tdiv x7.1 r8))) (0 : Int))) 1) (o' := .cells (rowI e2 (List.replicate (Int.toNat (IntKind.wrap .i64 (Int.tdiv x7.1 r8))) (0 : Int))) 1) (by kernel_rfl) sel_row trivial) (by kernel_rfl) (by kernel_rfl)) (Weak.eq (congrArg (fun ZZ : Nat => (⟨[(7, .p (.int .i64 r6.1)), (11, .p (.int .i64 r8)), (12, .msl 0 0 ZZ (List.length (rowI e2 (List.replicate (Int.toNat (IntKind.wrap .i64 (Int.tdiv x7.1 r8))) (0 : Int)))) true), (56, .p (.int .i64 (((Int.toNat (IntKind.wrap .i64 (Int.tdiv x7.1 r8))) : Nat) : Int))), (57, .p (.int .i64 0))], [.cells (rowI e2 (List.replicate (Int.toNat (IntKind.wrap .i64 (Int.tdiv x7.1 r8))) (0 : Int))) 1]⟩ : St)) (Eq.symm (List.length_replicate : List.length (List.replicate (Int.toNat (IntKind.wrap .i64 (Int.tdiv x7.1 r8))) (0 : Int)) = (Int.toNat (IntKind.wrap .i64 (Int.tdiv x7.1 r8))))))))) trivial)))))))))))))))))) (by kernel_rfl)) (e := .ret) rfl (vs := [.msl 0 0 (List.length y9) (List.length (rowI e2 y9)) true, .p (.int .i64 0)]) trivial (by kernel_rfl) (.tup _ _ (.cons _ _ _ _ (snap_row (g := 1) (L := y9) el2 (by kernel_rfl) (rl (List.length (rowI e2 y9))) (rl (List.length y9))) (.cons _ _ _ _ (.p _ _ (.refl _)) .nil)))
          · have hr := Option.some.inj g11
            subst hr
            exact callP_of is32 rfl (path hm (ks := [4, 5]) (σ' := ⟨[(4, .p (.nilsl)), (5, .p (.int .i64 0))], [.dead]⟩) (cc := c79 ++ [.reg [] [] 1 [(1, some 0, .ap (rowI e68 r3) (List.length r3) 2), (5, none, .ci (.msl 0 0 y4.1 (List.length (rowI e68 y4.2)) false) [(0, .cells (rowI e68 y4.2) 2)]), (6, none, .bor [0] [.sl (List.map e68 (List.take y4.1 y4.2)) false] (.ref [.sl (List.map e68 (List.take y4.1 y4.2)) false, .map (mapK e81 y5) (mapV e2 y5)])), (7, none, .call (.tup [.int .i64 r6.1, .int .i64 r6.2.1, .bool false]))] [0, 1, 7, 8, 9], .reg [] [] 0 [] [0, 1, 7, 8, 41], .reg [] [] 0 [] [4, 5]])
      (q76 (q78 (q81 (ai (show CallP prog 45 [.ref [.sl (List.map e68 (List.take y4.1 y4.2)) false, .map (mapK e81 y5) (mapV e2 y5)]] (.tup [.int .i64 r6.1, .int .i64 r6.2.1, .bool false]) from h11 ▸ (F45_ok fuel ((List.take y4.1 y4.2), y5) _ h10)) trivial)))) (by kernel_rfl)) (e := .ret) rfl (vs := [.p (.nilsl), .p (.int .i64 0)]) trivial (by kernel_rfl) (.tup _ _ (.cons _ _ _ _ (.p _ _ (.nil _)) (.cons _ _ _ _ (.p _ _ (.refl _)) .nil)))
    · subst h4
      have hr := Option.some.inj g4
      subst hr
      exact callP_of is32 rfl (path hm (ks := [4, 5]) (σ' := ⟨[(4, .p (.nilsl)), (5, .p (.int .i64 2))], []⟩) (cc := c77 ++ [.reg [] [] 0 [(1, none, .n (p0.length : Int)), (5, none, .call (.bool false))] [0, 1, 20], .reg [] [] 0 [] [4, 5]])
      (q76 (q78 trivial)) (by kernel_rfl)) (e := .ret) rfl (vs := [.p (.nilsl), .p (.int .i64 2)]) trivial (by kernel_rfl) (.tup _ _ (.cons _ _ _ _ (.p _ _ (.nil _)) (.cons _ _ _ _ (.p _ _ (.refl _)) .nil)))
def L14_0  (v0 : (List Int)) (v1 : (List Int)) : Nat → Int → Option (Unit ⊕ Unit)
  | 0, _ => none
  | fuel + 1, v5 =>
    oif ((decide (v5 < (v0.length : Int))))
    (obind (sg v0 v5) fun x1 => obind (sg v1 v5) fun x2 => oif ((x1 != x2))
      (some (.inl ()))
      (L14_0 v0 v1 fuel (IntKind.wrap .i64 (v5 + 1))))
    (some (.inr (())))
noncomputable def L14_0_post (v0 : (List Int)) (v1 : (List Int)) (fp0 : Bool) (fp1 : Bool) : (Unit ⊕ Unit) → Ex × St
  | .inl y => (.ret, ⟨[(4, .p (.bool false))], []⟩)
  | .inr (y) => ((.exit 0), ⟨[], []⟩)
theorem L14_0_ok  (v0 : (List Int)) (v1 : (List Int)) (fp0 : Bool) (fp1 : Bool) : ∀ (fuel : Nat) (v5 : Int) (r : (Unit ⊕ Unit)), L14_0 v0 v1 fuel v5 = some r →
    SemJ prog ⟨26, 0, false⟩ (codeAt [1, 1, 0, 1, 0, 0] (bodyOf f14)) ⟨[(0, .p (.sl (List.map e3 v0) fp0)), (1, .p (.sl (List.map e3 v1) fp1)), (5, .p (.int .i64 v5))], []⟩ (L14_0_post v0 v1 fp0 fp1 r).1 (L14_0_post v0 v1 fp0 fp1 r).2
  | 0, _, _, h => nomatch h
  | fuel + 1, v5, r, h => by
    unfold L14_0 at h
    refine oif_elim h (fun h1 g1 => ?_) (fun h1 g1 => ?_)
    · refine obind_elim g1 fun x1 h2 g2 => ?_
      refine obind_elim g2 fun x2 h3 g3 => ?_
      refine oif_elim g3 (fun h4 g4 => ?_) (fun h4 g4 => ?_)
      · have hr := Option.some.inj g4
        subst hr
        exact SemC.cast (SemJ.out (e := .ret) (path hm (σ' := ⟨[(4, .p (.bool false))], []⟩) (ks := [4]) (cc := [.reg [] [] 0 [(2, none, .n (v0.length : Int)), (3, none, .b true)] [0, 1, 5, 14], .reg [0, 0, 3, 7, 0, 0, 48, 112, 255] [] 0 [(2, none, .iv (.p (.int .i64 x1))), (6, none, .iv (.p (.int .i64 x2))), (8, none, .b true)] [0, 1, 5, 25], .reg [] [] 0 [] [4]])
        (ai (len_map e3 v0) (ai h1 (ai (sg_map (f := e3) h2) (ai (sg_map (f := e3) h3) (ai h4 trivial))))) (by kernel_rfl)) (by simp)) (by kernel_rfl) (by kernel_rfl)
      · exact SemJ.again (σ1 := ⟨[(0, .p (.sl (List.map e3 v0) fp0)), (1, .p (.sl (List.map e3 v1) fp1)), (5, .p (.int .i64 (IntKind.wrap .i64 (v5 + 1))))], []⟩) (path hm (σ' := ⟨[(0, .p (.sl (List.map e3 v0) fp0)), (1, .p (.sl (List.map e3 v1) fp1)), (5, .p (.int .i64 (IntKind.wrap .i64 (v5 + 1))))], []⟩) (ks := [0, 1, 5]) (cc := [.reg [] [] 0 [(2, none, .n (v0.length : Int)), (3, none, .b true)] [0, 1, 5, 14], .reg [0, 0, 3, 7, 0, 0, 48, 112, 255] [] 0 [(2, none, .iv (.p (.int .i64 x1))), (6, none, .iv (.p (.int .i64 x2))), (8, none, .b false)] [0, 1, 5, 25], .reg [] [] 0 [] [0, 1, 5]])
        (ai (len_map e3 v0) (ai h1 (ai (sg_map (f := e3) h2) (ai (sg_map (f := e3) h3) (ai h4 trivial))))) (by kernel_rfl)) (L14_0_ok v0 v1 fp0 fp1 fuel (IntKind.wrap .i64 (v5 + 1)) _ g4)
    · have hr := Option.some.inj g1
      subst hr
      exact SemC.cast (SemJ.out (e := (.exit 0)) (path hm (σ' := ⟨[], []⟩) (ks := []) (cc := [.reg [] [] 0 [(2, none, .n (v0.length : Int)), (3, none, .b false)] [0, 1, 5, 14]])
        (ai (len_map e3 v0) (ai h1 trivial)) (by kernel_rfl)) (by simp)) (by kernel_rfl) (by kernel_rfl)
def F14  (fuel : Nat) (p0 : (List Int)) (p1 : (List Int)) : Option Bool :=
  oif (((p0.length : Int) != (p1.length : Int)))
  (some false)
  ((obind (L14_0 p0 p1 fuel 0) fun y1 => match y1 with
    | .inl y1 => some false
    | .inr (y1) => some true))
theorem F14_ok  (fuel : Nat) (p0 : (List Int)) (p1 : (List Int)) (fp0 : Bool) (fp1 : Bool) (r : Bool) (h : F14 fuel p0 p1 = some r) : CallP prog 14 [.sl (List.map e3 p0) fp0, .sl (List.map e3 p1) fp1] (.bool r) := by
  unfold F14 at h
  refine oif_elim h (fun h1 g1 => ?_) (fun h1 g1 => ?_)
  · have hr := Option.some.inj g1
    subst hr
    exact callP_of is14 rfl (path hm (ks := [4]) (σ' := ⟨[(4, .p (.bool false))], []⟩) (cc := [.reg [] [] 0 [] [0, 1], .reg [] [] 0 [(1, none, .n (p0.length : Int)), (3, none, .n (p1.length : Int)), (4, none, .b true)] [0, 1, 10], .reg [] [] 0 [] [4]])
      (ai (len_map e3 p0) (ai (len_map e3 p1) (ai h1 trivial))) (by kernel_rfl)) (e := .ret) rfl (vs := [.p (.bool false)]) trivial (by kernel_rfl) (.p _ _ (.refl _))
  · let c82 : List CC := [.reg [] [] 0 [] [0, 1], .reg [] [] 0 [(1, none, .n (p0.length : Int)), (3, none, .n (p1.length : Int)), (4, none, .b false)] [0, 1, 10], .reg [] [] 0 [] [0, 1, 5]]
    refine obind_elim g1 fun y h2 g2 => ?_
    match y, h2, g2 with
    | .inl y1, h2, g2 =>
      have hr := Option.some.inj g2
      subst hr
      exact callP_of is14 rfl (path hm (ks := [4]) (σ' := ⟨[(4, .p (.bool false))], []⟩) (cc := c82 ++ [.leaf .ret ⟨[(4, .p (.bool false))], []⟩])
      (ai (len_map e3 p0) (ai (len_map e3 p1) (ai h1 (ai (SemJ.loop (L14_0_ok p0 p1 fp0 fp1 fuel 0 _ h2)) trivial)))) (by kernel_rfl)) (e := .ret) rfl (vs := [.p (.bool false)]) trivial (by kernel_rfl) (.p _ _ (.refl _))
    | .inr (y1), h2, g2 =>
      have hr := Option.some.inj g2
      subst hr
      exact callP_of is14 rfl (path hm (ks := [4]) (σ' := ⟨[(4, .p (.bool true))], []⟩) (cc := c82 ++ [.leaf (.exit 0) ⟨[], []⟩, .reg [] [] 0 [] [4]])
      (ai (len_map e3 p0) (ai (len_map e3 p1) (ai h1 (ai (SemJ.loop (L14_0_ok p0 p1 fp0 fp1 fuel 0 _ h2)) trivial)))) (by kernel_rfl)) (e := .ret) rfl (vs := [.p (.bool true)]) trivial (by kernel_rfl) (.p _ _ (.refl _))
def F37  (fuel : Nat) (p0 : (List Int)) : Option (List Int) :=
  some p0
theorem F37_ok  (fuel : Nat) (p0 : (List Int)) (fp0 : Bool) (r : (List Int)) (h : F37 fuel p0 = some r) : CallP prog 37 [.sl (List.map e2 p0) fp0] (.sl (List.map e2 r) false) := by
  unfold F37 at h
  have hr := Option.some.inj h
  subst hr
  exact callP_of is37 rfl (path hm (ks := [2]) (σ' := ⟨[(2, .p (.sl (List.map e2 p0) fp0))], []⟩) (cc := [.reg [] [] 0 [] [0], .reg [] [] 0 [] [2]])
      trivial (by kernel_rfl)) (e := .ret) rfl (vs := [.p (.sl (List.map e2 p0) fp0)]) trivial (by kernel_rfl) (.p _ _ (.flag _ _ _ (fun h => nomatch h)))
def L34_0  (v0 : (List Int)) (v1 : (List Int)) : Nat → Int → Option (Unit ⊕ Unit)
  | 0, _ => none
  | fuel + 1, v5 =>
    oif ((decide (v5 < (v0.length : Int))))
    (obind (sg v0 v5) fun x1 => obind (sg v1 v5) fun x2 => oif ((x1 != x2))
      (some (.inl ()))
      (L34_0 v0 v1 fuel (IntKind.wrap .i64 (v5 + 1))))
    (some (.inr (())))
noncomputable def L34_0_post (v0 : (List Int)) (v1 : (List Int)) (fp0 : Bool) (fp1 : Bool) : (Unit ⊕ Unit) → Ex × St
  | .inl y => (.ret, ⟨[(4, .p (.bool false))], []⟩)
  | .inr (y) => ((.exit 0), ⟨[], []⟩)
theorem L34_0_ok  (v0 : (List Int)) (v1 : (List Int)) (fp0 : Bool) (fp1 : Bool) : ∀ (fuel : Nat) (v5 : Int) (r : (Unit ⊕ Unit)), L34_0 v0 v1 fuel v5 = some r →
    SemJ prog ⟨26, 0, false⟩ (codeAt [1, 1, 0, 1, 0, 0] (bodyOf f34)) ⟨[(0, .p (.sl (List.map e2 v0) fp0)), (1, .p (.sl (List.map e2 v1) fp1)), (5, .p (.int .i64 v5))], []⟩ (L34_0_post v0 v1 fp0 fp1 r).1 (L34_0_post v0 v1 fp0 fp1 r).2
  | 0, _, _, h => nomatch h
  | fuel + 1, v5, r, h => by
    unfold L34_0 at h
    refine oif_elim h (fun h1 g1 => ?_) (fun h1 g1 => ?_)
    · refine obind_elim g1 fun x1 h2 g2 => ?_
      refine obind_elim g2 fun x2 h3 g3 => ?_
      refine oif_elim g3 (fun h4 g4 => ?_) (fun h4 g4 => ?_)
      · have hr := Option.some.inj g4
        subst hr
        exact SemC.cast (SemJ.out (e := .ret) (path hm (σ' := ⟨[(4, .p (.bool false))], []⟩) (ks := [4]) (cc := [.reg [] [] 0 [(2, none, .n (v0.length : Int)), (3, none, .b true)] [0, 1, 5, 14], .reg [0, 0, 3, 7, 0, 0, 48, 112, 255] [] 0 [(2, none, .iv (.p (.int .i64 x1))), (6, none, .iv (.p (.int .i64 x2))), (8, none, .b true)] [0, 1, 5, 25], .reg [] [] 0 [] [4]])
        (ai (len_map e2 v0) (ai h1 (ai (sg_map (f := e2) h2) (ai (sg_map (f := e2) h3) (ai h4 trivial))))) (by kernel_rfl)) (by simp)) (by kernel_rfl) (by kernel_rfl)
      · exact SemJ.again (σ1 := ⟨[(0, .p (.sl (List.map e2 v0) fp0)), (1, .p (.sl (List.map e2 v1) fp1)), (5, .p (.int .i64 (IntKind.wrap .i64 (v5 + 1))))], []⟩) (path hm (σ' := ⟨[(0, .p (.sl (List.map e2 v0) fp0)), (1, .p (.sl (List.map e2 v1) fp1)), (5, .p (.int .i64 (IntKind.wrap .i64 (v5 + 1))))], []⟩) (ks := [0, 1, 5]) (cc := [.reg [] [] 0 [(2, none, .n (v0.length : Int)), (3, none, .b true)] [0, 1, 5, 14], .reg [0, 0, 3, 7, 0, 0, 48, 112, 255] [] 0 [(2, none, .iv (.p (.int .i64 x1))), (6, none, .iv (.p (.int .i64 x2))), (8, none, .b false)] [0, 1, 5, 25], .reg [] [] 0 [] [0, 1, 5]])
        (ai (len_map e2 v0) (ai h1 (ai (sg_map (f := e2) h2) (ai (sg_map (f := e2) h3) (ai h4 trivial))))) (by kernel_rfl)) (L34_0_ok v0 v1 fp0 fp1 fuel (IntKind.wrap .i64 (v5 + 1)) _ g4)
    · have hr := Option.some.inj g1
      subst hr
      exact SemC.cast (SemJ.out (e := (.exit 0)) (path hm (σ' := ⟨[], []⟩) (ks := []) (cc := [.reg [] [] 0 [(2, none, .n (v0.length : Int)), (3, none, .b false)] [0, 1, 5, 14]])
        (ai (len_map e2 v0) (ai h1 trivial)) (by kernel_rfl)) (by simp)) (by kernel_rfl) (by kernel_rfl)
def F34  (fuel : Nat) (p0 : (List Int)) (p1 : (List Int)) : Option Bool :=
  oif (((p0.length : Int) != (p1.length : Int)))
  (some false)
  ((obind (L34_0 p0 p1 fuel 0) fun y1 => match y1 with
    | .inl y1 => some false
    | .inr (y1) => some true))
theorem F34_ok  (fuel : Nat) (p0 : (List Int)) (p1 : (List Int)) (fp0 : Bool) (fp1 : Bool) (r : Bool) (h : F34 fuel p0 p1 = some r) : CallP prog 34 [.sl (List.map e2 p0) fp0, .sl (List.map e2 p1) fp1] (.bool r) := by
  unfold F34 at h
  refine oif_elim h (fun h1 g1 => ?_) (fun h1 g1 => ?_)
  · have hr := Option.some.inj g1
    subst hr
    exact callP_of is34 rfl (path hm (ks := [4]) (σ' := ⟨[(4, .p (.bool false))], []⟩) (cc := [.reg [] [] 0 [] [0, 1], .reg [] [] 0 [(1, none, .n (p0.length : Int)), (3, none, .n (p1.length : Int)), (4, none, .b true)] [0, 1, 10], .reg [] [] 0 [] [4]])
      (ai (len_map e2 p0) (ai (len_map e2 p1) (ai h1 trivial))) (by kernel_rfl)) (e := .ret) rfl (vs := [.p (.bool false)]) trivial (by kernel_rfl) (.p _ _ (.refl _))
  · let c83 : List CC := [.reg [] [] 0 [] [0, 1], .reg [] [] 0 [(1, none, .n (p0.length : Int)), (3, none, .n (p1.length : Int)), (4, none, .b false)] [0, 1, 10], .reg [] [] 0 [] [0, 1, 5]]
    refine obind_elim g1 fun y h2 g2 => ?_
    match y, h2, g2 with
    | .inl y1, h2, g2 =>
      have hr := Option.some.inj g2
      subst hr
      exact callP_of is34 rfl (path hm (ks := [4]) (σ' := ⟨[(4, .p (.bool false))], []⟩) (cc := c83 ++ [.leaf .ret ⟨[(4, .p (.bool false))], []⟩])
      (ai (len_map e2 p0) (ai (len_map e2 p1) (ai h1 (ai (SemJ.loop (L34_0_ok p0 p1 fp0 fp1 fuel 0 _ h2)) trivial)))) (by kernel_rfl)) (e := .ret) rfl (vs := [.p (.bool false)]) trivial (by kernel_rfl) (.p _ _ (.refl _))
    | .inr (y1), h2, g2 =>
      have hr := Option.some.inj g2
      subst hr
      exact callP_of is34 rfl (path hm (ks := [4]) (σ' := ⟨[(4, .p (.bool true))], []⟩) (cc := c83 ++ [.leaf (.exit 0) ⟨[], []⟩, .reg [] [] 0 [] [4]])
      (ai (len_map e2 p0) (ai (len_map e2 p1) (ai h1 (ai (SemJ.loop (L34_0_ok p0 p1 fp0 fp1 fuel 0 _ h2)) trivial)))) (by kernel_rfl)) (e := .ret) rfl (vs := [.p (.bool true)]) trivial (by kernel_rfl) (.p _ _ (.refl _))
def F9  (fuel : Nat)  : Option Bool :=
  obind (F35 fuel [4, 1, 6, 3, 9, 0]) fun r1 => obind (F35 fuel [4, 1, 6, 2]) fun r2 => obind (F35 fuel [4, 1, 6, 2, 3, 0, 5, 4]) fun r3 => obind (F35 fuel [2, 0, 2, 1]) fun r4 => obind (F10 fuel r1 9) fun r5 => obind (F16 fuel r1) fun r6 => obind (F16 fuel r2) fun r7 => obind (F18 fuel r1 10) fun r8 => obind (F20 fuel r1 0 100) fun r9 => obind (F20 fuel r1 5 4) fun r10 => obind (F22 fuel r2 0 1) fun r11 => obind (F22 fuel r1 0 1) fun r12 => obind (F24 fuel r2) fun r13 => obind (F26 fuel r3) fun r14 => obind (F36 fuel [0, 1]) fun r15 => obind (F28 fuel r3 r15) fun r16 => obind (F30 fuel r1 0) fun r17 => obind (F30 fuel r4 0) fun r18 => obind (F32 fuel r1 2) fun r19 => obind (F32 fuel r1 3) fun r20 => oif ((r5.2 != 0))
  (some false)
  (oif ((r6.2.2 != 0))
    (some false)
    (oif ((r7.2.2 != 21))
      (some false)
      (oif ((r8.2 != 0))
        (some false)
        (oif ((r9.2 != 0))
          (some false)
          (oif ((r10.2 != 2))
            (some false)
            (oif ((r11.2 != 0))
              (some false)
              (oif ((r12.2 != 14))
                (some false)
                (oif ((r13.2.2 != 0))
                  (some false)
                  (oif ((r14.2 != 0))
                    (some false)
                    (oif ((r16 != 21))
                      (some false)
                      (oif ((r17.2 != 0))
                        (some false)
                        (oif ((r18.2 != 21))
                          (some false)
                          (oif ((r19.2 != 0))
                            (some false)
                            (oif ((r20.2 != 2))
                              (some false)
                              (obind (F36 fuel [0, 1, 2]) fun r21 => obind (F14 fuel r5.1 r21) fun r22 => oif (r22)
                                (oif ((r6.1 == 9))
                                  (oif ((r6.2.1 == 36))
                                    (oif ((r8.1 == 45))
                                      (oif ((r9.1 == 3))
                                        (oif ((r11.1 == 2))
                                          (oif ((r13.1 == 0))
                                            (oif ((r13.2.1 == 1))
                                              (obind (F36 fuel [0, 2, 3]) fun r23 => obind (F14 fuel r14.1 r23) fun r24 => oif (r24)
                                                (oif ((r17.1 == 2))
                                                  (obind (F37 fuel [0, 3, 6]) fun r25 => obind (F34 fuel r19.1 r25) fun r26 => oif (r26)
                                                    (some true)
                                                    (some false))
                                                  (some false))
                                                (some false))
                                              (some false))
                                            (some false))
                                          (some false))
                                        (some false))
                                      (some false))
                                    (some false))
                                  (some false))
                                (some false))))))))))))))))
theorem F9_ok  (fuel : Nat)   (r : Bool) (h : F9 fuel  = some r) : CallP prog 9 [] (.bool r) := by
  unfold F9 at h
  refine obind_elim h fun r1 h1 g1 => ?_
  refine obind_elim g1 fun r2 h2 g2 => ?_
  refine obind_elim g2 fun r3 h3 g3 => ?_
  refine obind_elim g3 fun r4 h4 g4 => ?_
  refine obind_elim g4 fun r5 h5 g5 => ?_
  refine obind_elim g5 fun r6 h6 g6 => ?_
  refine obind_elim g6 fun r7 h7 g7 => ?_
  refine obind_elim g7 fun r8 h8 g8 => ?_
  refine obind_elim g8 fun r9 h9 g9 => ?_
  refine obind_elim g9 fun r10 h10 g10 => ?_
  refine obind_elim g10 fun r11 h11 g11 => ?_
  refine obind_elim g11 fun r12 h12 g12 => ?_
  refine obind_elim g12 fun r13 h13 g13 => ?_
  refine obind_elim g13 fun r14 h14 g14 => ?_
  refine obind_elim g14 fun r15 h15 g15 => ?_
  refine obind_elim g15 fun r16 h16 g16 => ?_
  refine obind_elim g16 fun r17 h17 g17 => ?_
  refine obind_elim g17 fun r18 h18 g18 => ?_
  refine obind_elim g18 fun r19 h19 g19 => ?_
  refine obind_elim g19 fun r20 h20 g20 => ?_
  let c84 : List CC := [.reg [] [] 0 [] [], .reg [] [] 0 [(1, none, .call (.sl (List.map e68 r1) false)), (3, none, .call (.sl (List.map e68 r2) false)), (5, none, .call (.sl (List.map e68 r3) false)), (7, none, .call (.sl (List.map e68 r4) false))] [1, 2, 3, 4], .reg [] [] 0 [(1, none, .call (.tup [.sl (List.map e3 r5.1) false, .int .i64 r5.2]))] [1, 2, 3, 4, 5, 6], .reg [] [] 0 [(1, none, .call (.tup [.int .i64 r6.1, .int .i64 r6.2.1, .int .i64 r6.2.2]))] [1, 2, 3, 4, 5, 6, 7, 8, 9], .reg [] [] 0 [(1, none, .call (.tup [.int .i64 r7.1, .int .i64 r7.2.1, .int .i64 r7.2.2]))] [1, 2, 3, 4, 5, 6, 7, 8, 9, 12], .reg [] [] 0 [(1, none, .call (.tup [.int .i64 r8.1, .int .i64 r8.2]))] [1, 2, 3, 4, 5, 6, 7, 8, 9, 12, 13, 14], .reg [] [] 0 [(1, none, .call (.tup [.int .i64 r9.1, .int .i64 r9.2]))] [1, 2, 3, 4, 5, 6, 7, 8, 9, 12, 13, 14, 15, 16], .reg [] [] 0 [(1, none, .call (.tup [.int .i64 r10.1, .int .i64 r10.2]))] [1, 2, 3, 4, 5, 6, 7, 8, 9, 12, 13, 14, 15, 16, 18], .reg [] [] 0 [(1, none, .call (.tup [.int .i64 r11.1, .int .i64 r11.2]))] [1, 2, 3, 4, 5, 6, 7, 8, 9, 12, 13, 14, 15, 16, 18, 19, 20], .reg [] [] 0 [(1, none, .call (.tup [.int .i64 r12.1, .int .i64 r12.2]))] [1, 2, 3, 4, 5, 6, 7, 8, 9, 12, 13, 14, 15, 16, 18, 19, 20, 22], .reg [] [] 0 [(1, none, .call (.tup [.int .i64 r13.1, .int .i64 r13.2.1, .int .i64 r13.2.2]))] [1, 3, 4, 5, 6, 7, 8, 9, 12, 13, 14, 15, 16, 18, 19, 20, 22, 23, 24, 25], .reg [] [] 0 [(1, none, .call (.tup [.sl (List.map e3 r14.1) false, .int .i64 r14.2]))] [1, 3, 4, 5, 6, 7, 8, 9, 12, 13, 14, 15, 16, 18, 19, 20, 22, 23, 24, 25, 26, 27], .reg [] [] 0 [(2, none, .call (.sl (List.map e3 r15) false)), (3, none, .call (.int .i64 r16))] [1, 4, 5, 6, 7, 8, 9, 12, 13, 14, 15, 16, 18, 19, 20, 22, 23, 24, 25, 26, 27, 28], .reg [] [] 0 [(1, none, .call (.tup [.int .i64 r17.1, .int .i64 r17.2]))] [1, 4, 5, 6, 7, 8, 9, 12, 13, 14, 15, 16, 18, 19, 20, 22, 23, 24, 25, 26, 27, 28, 29, 30], .reg [] [] 0 [(1, none, .call (.tup [.int .i64 r18.1, .int .i64 r18.2]))] [1, 5, 6, 7, 8, 9, 12, 13, 14, 15, 16, 18, 19, 20, 22, 23, 24, 25, 26, 27, 28, 29, 30, 32], .reg [] [] 0 [(1, none, .call (.tup [.sl (List.map e2 r19.1) false, .int .i64 r19.2]))] [1, 5, 6, 7, 8, 9, 12, 13, 14, 15, 16, 18, 19, 20, 22, 23, 24, 25, 26, 27, 28, 29, 30, 32, 33, 34], .reg [] [] 0 [(1, none, .call (.tup [.sl (List.map e2 r20.1) false, .int .i64 r20.2]))] [5, 6, 7, 8, 9, 12, 13, 14, 15, 16, 18, 19, 20, 22, 23, 24, 25, 26, 27, 28, 29, 30, 32, 33, 34, 36]]
  have q85 := fun {P : Prop} (t : P) => ai (F35_ok fuel [4, 1, 6, 3, 9, 0] true _ h1) (ai (F35_ok fuel [4, 1, 6, 2] true _ h2) (ai (F35_ok fuel [4, 1, 6, 2, 3, 0, 5, 4] true _ h3) (ai (F35_ok fuel [2, 0, 2, 1] true _ h4) (ai (F10_ok fuel r1 9 false _ h5) (ai (F16_ok fuel r1 false _ h6) (ai (F16_ok fuel r2 false _ h7) (ai (F18_ok fuel r1 10 false _ h8) (ai (F20_ok fuel r1 0 100 false _ h9) (ai (F20_ok fuel r1 5 4 false _ h10) (ai (F22_ok fuel r2 0 1 false _ h11) (ai (F22_ok fuel r1 0 1 false _ h12) (ai (F24_ok fuel r2 false _ h13) (ai (F26_ok fuel r3 false _ h14) (ai (F36_ok fuel [0, 1] true _ h15) (ai (F28_ok fuel r3 r15 false false _ h16) (ai (F30_ok fuel r1 0 false _ h17) (ai (F30_ok fuel r4 0 false _ h18) (ai (F32_ok fuel r1 2 false _ h19) (ai (F32_ok fuel r1 3 false _ h20) t)))))))))))))))))))
  refine oif_elim g20 (fun h21 g21 => ?_) (fun h21 g21 => ?_)
  · have hr := Option.some.inj g21
    subst hr
    exact callP_of is9 rfl (path hm (ks := [0]) (σ' := ⟨[(0, .p (.bool false))], []⟩) (cc := c84 ++ [.reg [] [] 0 [(1, none, .b true)] [5, 7, 8, 13, 15, 19, 23, 24, 26, 29, 33, 179], .reg [] [] 0 [] [0]])
      (q85 (ai h21 trivial)) (by kernel_rfl)) (e := .ret) rfl (vs := [.p (.bool false)]) trivial (by kernel_rfl) (.p _ _ (.refl _))
  · refine oif_elim g21 (fun h22 g22 => ?_) (fun h22 g22 => ?_)
    · have hr := Option.some.inj g22
      subst hr
      exact callP_of is9 rfl (path hm (ks := [0]) (σ' := ⟨[(0, .p (.bool false))], []⟩) (cc := c84 ++ [.reg [] [] 0 [(1, none, .b false), (4, none, .b true)] [5, 7, 8, 13, 15, 19, 23, 24, 26, 29, 33, 179], .reg [] [] 0 [] [0]])
      (q85 (ai h21 (ai h22 trivial))) (by kernel_rfl)) (e := .ret) rfl (vs := [.p (.bool false)]) trivial (by kernel_rfl) (.p _ _ (.refl _))
    · have q86 := fun {P : Prop} (t : P) => ai h21 (ai h22 t)
      refine oif_elim g22 (fun h23 g23 => ?_) (fun h23 g23 => ?_)
      · have hr := Option.some.inj g23
        subst hr
        exact callP_of is9 rfl (path hm (ks := [0]) (σ' := ⟨[(0, .p (.bool false))], []⟩) (cc := c84 ++ [.reg [] [] 0 [(1, none, .b false), (4, none, .b false), (8, none, .b true)] [5, 7, 8, 13, 15, 19, 23, 24, 26, 29, 33, 179], .reg [] [] 0 [] [0]])
      (q85 (q86 (ai h23 trivial))) (by kernel_rfl)) (e := .ret) rfl (vs := [.p (.bool false)]) trivial (by kernel_rfl) (.p _ _ (.refl _))
      · refine oif_elim g23 (fun h24 g24 => ?_) (fun h24 g24 => ?_)
        · have hr := Option.some.inj g24
          subst hr
          exact callP_of is9 rfl (path hm (ks := [0]) (σ' := ⟨[(0, .p (.bool false))], []⟩) (cc := c84 ++ [.reg [] [] 0 [(1, none, .b false), (4, none, .b false), (8, none, .b false), (12, none, .b true)] [5, 7, 8, 13, 15, 19, 23, 24, 26, 29, 33, 179], .reg [] [] 0 [] [0]])
      (q85 (q86 (ai h23 (ai h24 trivial)))) (by kernel_rfl)) (e := .ret) rfl (vs := [.p (.bool false)]) trivial (by kernel_rfl) (.p _ _ (.refl _))
        · have q87 := fun {P : Prop} (t : P) => ai h23 (ai h24 t)
          refine oif_elim g24 (fun h25 g25 => ?_) (fun h25 g25 => ?_)
          · have hr := Option.some.inj g25
            subst hr
            exact callP_of is9 rfl (path hm (ks := [0]) (σ' := ⟨[(0, .p (.bool false))], []⟩) (cc := c84 ++ [.reg [] [] 0 [(1, none, .b false), (4, none, .b false), (8, none, .b false), (12, none, .b false), (16, none, .b true)] [5, 7, 8, 13, 15, 19, 23, 24, 26, 29, 33, 179], .reg [] [] 0 [] [0]])
      (q85 (q86 (q87 (ai h25 trivial)))) (by kernel_rfl)) (e := .ret) rfl (vs := [.p (.bool false)]) trivial (by kernel_rfl) (.p _ _ (.refl _))
          · refine oif_elim g25 (fun h26 g26 => ?_) (fun h26 g26 => ?_)
            · have hr := Option.some.inj g26
              subst hr
              exact callP_of is9 rfl (path hm (ks := [0]) (σ' := ⟨[(0, .p (.bool false))], []⟩) (cc := c84 ++ [.reg [] [] 0 [(1, none, .b false), (4, none, .b false), (8, none, .b false), (12, none, .b false), (16, none, .b false), (20, none, .b true)] [5, 7, 8, 13, 15, 19, 23, 24, 26, 29, 33, 179], .reg [] [] 0 [] [0]])
      (q85 (q86 (q87 (ai h25 (ai h26 trivial))))) (by kernel_rfl)) (e := .ret) rfl (vs := [.p (.bool false)]) trivial (by kernel_rfl) (.p _ _ (.refl _))
            · have q88 := fun {P : Prop} (t : P) => ai h25 (ai h26 t)
              refine oif_elim g26 (fun h27 g27 => ?_) (fun h27 g27 => ?_)
              · have hr := Option.some.inj g27
                subst hr
                exact callP_of is9 rfl (path hm (ks := [0]) (σ' := ⟨[(0, .p (.bool false))], []⟩) (cc := c84 ++ [.reg [] [] 0 [(1, none, .b false), (4, none, .b false), (8, none, .b false), (12, none, .b false), (16, none, .b false), (20, none, .b false), (24, none, .b true)] [5, 7, 8, 13, 15, 19, 23, 24, 26, 29, 33, 179], .reg [] [] 0 [] [0]])
      (q85 (q86 (q87 (q88 (ai h27 trivial))))) (by kernel_rfl)) (e := .ret) rfl (vs := [.p (.bool false)]) trivial (by kernel_rfl) (.p _ _ (.refl _))
              · refine oif_elim g27 (fun h28 g28 => ?_) (fun h28 g28 => ?_)
                · have hr := Option.some.inj g28
                  subst hr
                  exact callP_of is9 rfl (path hm (ks := [0]) (σ' := ⟨[(0, .p (.bool false))], []⟩) (cc := c84 ++ [.reg [] [] 0 [(1, none, .b false), (4, none, .b false), (8, none, .b false), (12, none, .b false), (16, none, .b false), (20, none, .b false), (24, none, .b false), (28, none, .b true)] [5, 7, 8, 13, 15, 19, 23, 24, 26, 29, 33, 179], .reg [] [] 0 [] [0]])
      (q85 (q86 (q87 (q88 (ai h27 (ai h28 trivial)))))) (by kernel_rfl)) (e := .ret) rfl (vs := [.p (.bool false)]) trivial (by kernel_rfl) (.p _ _ (.refl _))
                · have q89 := fun {P : Prop} (t : P) => ai h27 (ai h28 t)
                  refine oif_elim g28 (fun h29 g29 => ?_) (fun h29 g29 => ?_)
                  · have hr := Option.some.inj g29
                    subst hr
                    exact callP_of is9 rfl (path hm (ks := [0]) (σ' := ⟨[(0, .p (.bool false))], []⟩) (cc := c84 ++ [.reg [] [] 0 [(1, none, .b false), (4, none, .b false), (8, none, .b false), (12, none, .b false), (16, none, .b false), (20, none, .b false), (24, none, .b false), (28, none, .b false), (32, none, .b true)] [5, 7, 8, 13, 15, 19, 23, 24, 26, 29, 33, 179], .reg [] [] 0 [] [0]])
      (q85 (q86 (q87 (q88 (q89 (ai h29 trivial)))))) (by kernel_rfl)) (e := .ret) rfl (vs := [.p (.bool false)]) trivial (by kernel_rfl) (.p _ _ (.refl _))
                  · refine oif_elim g29 (fun h30 g30 => ?_) (fun h30 g30 => ?_)
                    · have hr := Option.some.inj g30
                      subst hr
                      exact callP_of is9 rfl (path hm (ks := [0]) (σ' := ⟨[(0, .p (.bool false))], []⟩) (cc := c84 ++ [.reg [] [] 0 [(1, none, .b false), (4, none, .b false), (8, none, .b false), (12, none, .b false), (16, none, .b false), (20, none, .b false), (24, none, .b false), (28, none, .b false), (32, none, .b false), (36, none, .b true)] [5, 7, 8, 13, 15, 19, 23, 24, 26, 29, 33, 179], .reg [] [] 0 [] [0]])
      (q85 (q86 (q87 (q88 (q89 (ai h29 (ai h30 trivial))))))) (by kernel_rfl)) (e := .ret) rfl (vs := [.p (.bool false)]) trivial (by kernel_rfl) (.p _ _ (.refl _))
                    · refine oif_elim g30 (fun h31 g31 => ?_) (fun h31 g31 => ?_)
                      · have hr := Option.some.inj g31
                        subst hr
                        exact callP_of is9 rfl (path hm (ks := [0]) (σ' := ⟨[(0, .p (.bool false))], []⟩) (cc := c84 ++ [.reg [] [] 0 [(1, none, .b false), (4, none, .b false), (8, none, .b false), (12, none, .b false), (16, none, .b false), (20, none, .b false), (24, none, .b false), (28, none, .b false), (32, none, .b false), (36, none, .b false), (40, none, .b true)] [5, 7, 8, 13, 15, 19, 23, 24, 26, 29, 33, 179], .reg [] [] 0 [] [0]])
      (q85 (q86 (q87 (q88 (q89 (ai h29 (ai h30 (ai h31 trivial)))))))) (by kernel_rfl)) (e := .ret) rfl (vs := [.p (.bool false)]) trivial (by kernel_rfl) (.p _ _ (.refl _))
                      · have q90 := fun {P : Prop} (t : P) => ai h29 (ai h30 (ai h31 t))
                        refine oif_elim g31 (fun h32 g32 => ?_) (fun h32 g32 => ?_)
                        · have hr := Option.some.inj g32
                          subst hr
                          exact callP_of is9 rfl (path hm (ks := [0]) (σ' := ⟨[(0, .p (.bool false))], []⟩) (cc := c84 ++ [.reg [] [] 0 [(1, none, .b false), (4, none, .b false), (8, none, .b false), (12, none, .b false), (16, none, .b false), (20, none, .b false), (24, none, .b false), (28, none, .b false), (32, none, .b false), (36, none, .b false), (40, none, .b false), (44, none, .b true)] [5, 7, 8, 13, 15, 19, 23, 24, 26, 29, 33, 179], .reg [] [] 0 [] [0]])
      (q85 (q86 (q87 (q88 (q89 (q90 (ai h32 trivial))))))) (by kernel_rfl)) (e := .ret) rfl (vs := [.p (.bool false)]) trivial (by kernel_rfl) (.p _ _ (.refl _))
                        · refine oif_elim g32 (fun h33 g33 => ?_) (fun h33 g33 => ?_)
                          · have hr := Option.some.inj g33
                            subst hr
                            exact callP_of is9 rfl (path hm (ks := [0]) (σ' := ⟨[(0, .p (.bool false))], []⟩) (cc := c84 ++ [.reg [] [] 0 [(1, none, .b false), (4, none, .b false), (8, none, .b false), (12, none, .b false), (16, none, .b false), (20, none, .b false), (24, none, .b false), (28, none, .b false), (32, none, .b false), (36, none, .b false), (40, none, .b false), (44, none, .b false), (48, none, .b true)] [5, 7, 8, 13, 15, 19, 23, 24, 26, 29, 33, 179], .reg [] [] 0 [] [0]])
      (q85 (q86 (q87 (q88 (q89 (q90 (ai h32 (ai h33 trivial)))))))) (by kernel_rfl)) (e := .ret) rfl (vs := [.p (.bool false)]) trivial (by kernel_rfl) (.p _ _ (.refl _))
                          · refine oif_elim g33 (fun h34 g34 => ?_) (fun h34 g34 => ?_)
                            · have hr := Option.some.inj g34
                              subst hr
                              exact callP_of is9 rfl (path hm (ks := [0]) (σ' := ⟨[(0, .p (.bool false))], []⟩) (cc := c84 ++ [.reg [] [] 0 [(1, none, .b false), (4, none, .b false), (8, none, .b false), (12, none, .b false), (16, none, .b false), (20, none, .b false), (24, none, .b false), (28, none, .b false), (32, none, .b false), (36, none, .b false), (40, none, .b false), (44, none, .b false), (48, none, .b false), (52, none, .b true)] [5, 7, 8, 13, 15, 19, 23, 24, 26, 29, 33, 179], .reg [] [] 0 [] [0]])
      (q85 (q86 (q87 (q88 (q89 (q90 (ai h32 (ai h33 (ai h34 trivial))))))))) (by kernel_rfl)) (e := .ret) rfl (vs := [.p (.bool false)]) trivial (by kernel_rfl) (.p _ _ (.refl _))
                            · have q91 := fun {P : Prop} (t : P) => ai h32 (ai h33 (ai h34 t))
                              refine oif_elim g34 (fun h35 g35 => ?_) (fun h35 g35 => ?_)
                              · have hr := Option.some.inj g35
                                subst hr
                                exact callP_of is9 rfl (path hm (ks := [0]) (σ' := ⟨[(0, .p (.bool false))], []⟩) (cc := c84 ++ [.reg [] [] 0 [(1, none, .b false), (4, none, .b false), (8, none, .b false), (12, none, .b false), (16, none, .b false), (20, none, .b false), (24, none, .b false), (28, none, .b false), (32, none, .b false), (36, none, .b false), (40, none, .b false), (44, none, .b false), (48, none, .b false), (52, none, .b false), (56, none, .b true)] [5, 7, 8, 13, 15, 19, 23, 24, 26, 29, 33, 179], .reg [] [] 0 [] [0]])
      (q85 (q86 (q87 (q88 (q89 (q90 (q91 (ai h35 trivial)))))))) (by kernel_rfl)) (e := .ret) rfl (vs := [.p (.bool false)]) trivial (by kernel_rfl) (.p _ _ (.refl _))
                              · refine obind_elim g35 fun r21 h36 g36 => ?_
                                refine obind_elim g36 fun r22 h37 g37 => ?_
                                let c92 : List CC := c84 ++ [.reg [] [] 0 [(1, none, .b false), (4, none, .b false), (8, none, .b false), (12, none, .b false), (16, none, .b false), (20, none, .b false), (24, none, .b false), (28, none, .b false), (32, none, .b false), (36, none, .b false), (40, none, .b false), (44, none, .b false), (48, none, .b false), (52, none, .b false), (56, none, .b false)] [5, 7, 8, 13, 15, 19, 23, 24, 26, 29, 33, 179]]
                                have q93 := fun {P : Prop} (t : P) => ai h35 (ai (F36_ok fuel [0, 1, 2] true _ h36) (ai (F14_ok fuel r5.1 r21 false false _ h37) t))
                                refine oif_elim g37 (fun h38 g38 => ?_) (fun h38 g38 => ?_)
                                · subst h38
                                  refine oif_elim g38 (fun h39 g39 => ?_) (fun h39 g39 => ?_)
                                  · refine oif_elim g39 (fun h40 g40 => ?_) (fun h40 g40 => ?_)
                                    · refine oif_elim g40 (fun h41 g41 => ?_) (fun h41 g41 => ?_)
                                      · refine oif_elim g41 (fun h42 g42 => ?_) (fun h42 g42 => ?_)
                                        · refine oif_elim g42 (fun h43 g43 => ?_) (fun h43 g43 => ?_)
                                          · refine oif_elim g43 (fun h44 g44 => ?_) (fun h44 g44 => ?_)
                                            · refine oif_elim g44 (fun h45 g45 => ?_) (fun h45 g45 => ?_)
                                              · refine obind_elim g45 fun r23 h46 g46 => ?_
                                                refine obind_elim g46 fun r24 h47 g47 => ?_
                                                have q94 := fun {P : Prop} (t : P) => ai h39 (ai h40 (ai h41 (ai h42 (ai h43 (ai h44 (ai h45 (ai (F36_ok fuel [0, 2, 3] true _ h46) (ai (F14_ok fuel r14.1 r23 false false _ h47) t))))))))
                                                refine oif_elim g47 (fun h48 g48 => ?_) (fun h48 g48 => ?_)
                                                · subst h48
                                                  refine oif_elim g48 (fun h49 g49 => ?_) (fun h49 g49 => ?_)
                                                  · refine obind_elim g49 fun r25 h50 g50 => ?_
                                                    refine obind_elim g50 fun r26 h51 g51 => ?_
                                                    refine oif_elim g51 (fun h52 g52 => ?_) (fun h52 g52 => ?_)
                                                    · subst h52
                                                      have hr := Option.some.inj g52
                                                      subst hr
                                                      exact callP_of is9 rfl (path hm (ks := [0]) (σ' := ⟨[(0, .p (.bool true))], []⟩) (cc := c92 ++ [.reg [] [] 0 [(2, none, .call (.sl (List.map e3 r21) false)), (3, none, .call (.bool true)), (6, none, .b true), (10, none, .b true), (14, none, .b true), (18, none, .b true), (22, none, .b true), (26, none, .b true), (30, none, .b true), (35, none, .call (.sl (List.map e3 r23) false)), (36, none, .call (.bool true)), (40, none, .b true), (45, none, .call (.sl (List.map e2 r25) false)), (46, none, .call (.bool true))] [0]])
      (q85 (q86 (q87 (q88 (q89 (q90 (q91 (q93 (q94 (ai h49 (ai (F37_ok fuel [0, 3, 6] true _ h50) (ai (F34_ok fuel r19.1 r25 false false _ h51) trivial)))))))))))) (by kernel_rfl)) (e := .ret) rfl (vs := [.p (.bool true)]) trivial (by kernel_rfl) (.p _ _ (.refl _))
                                                    · subst h52
                                                      have hr := Option.some.inj g52
                                                      subst hr
                                                      exact callP_of is9 rfl (path hm (ks := [0]) (σ' := ⟨[(0, .p (.bool false))], []⟩) (cc := c92 ++ [.reg [] [] 0 [(2, none, .call (.sl (List.map e3 r21) false)), (3, none, .call (.bool true)), (6, none, .b true), (10, none, .b true), (14, none, .b true), (18, none, .b true), (22, none, .b true), (26, none, .b true), (30, none, .b true), (35, none, .call (.sl (List.map e3 r23) false)), (36, none, .call (.bool true)), (40, none, .b true), (45, none, .call (.sl (List.map e2 r25) false)), (46, none, .call (.bool false))] [0]])
      (q85 (q86 (q87 (q88 (q89 (q90 (q91 (q93 (q94 (ai h49 (ai (F37_ok fuel [0, 3, 6] true _ h50) (ai (F34_ok fuel r19.1 r25 false false _ h51) trivial)))))))))))) (by kernel_rfl)) (e := .ret) rfl (vs := [.p (.bool false)]) trivial (by kernel_rfl) (.p _ _ (.refl _))
                                                  · have hr := Option.some.inj g49
                                                    subst hr
                                                    exact callP_of is9 rfl (path hm (ks := [0]) (σ' := ⟨[(0, .p (.bool false))], []⟩) (cc := c92 ++ [.reg [] [] 0 [(2, none, .call (.sl (List.map e3 r21) false)), (3, none, .call (.bool true)), (6, none, .b true), (10, none, .b true), (14, none, .b true), (18, none, .b true), (22, none, .b true), (26, none, .b true), (30, none, .b true), (35, none, .call (.sl (List.map e3 r23) false)), (36, none, .call (.bool true)), (40, none, .b false)] [0]])
      (q85 (q86 (q87 (q88 (q89 (q90 (q91 (q93 (q94 (ai h49 trivial)))))))))) (by kernel_rfl)) (e := .ret) rfl (vs := [.p (.bool false)]) trivial (by kernel_rfl) (.p _ _ (.refl _))
                                                · subst h48
                                                  have hr := Option.some.inj g48
                                                  subst hr
                                                  exact callP_of is9 rfl (path hm (ks := [0]) (σ' := ⟨[(0, .p (.bool false))], []⟩) (cc := c92 ++ [.reg [] [] 0 [(2, none, .call (.sl (List.map e3 r21) false)), (3, none, .call (.bool true)), (6, none, .b true), (10, none, .b true), (14, none, .b true), (18, none, .b true), (22, none, .b true), (26, none, .b true), (30, none, .b true), (35, none, .call (.sl (List.map e3 r23) false)), (36, none, .call (.bool false))] [0]])
      (q85 (q86 (q87 (q88 (q89 (q90 (q91 (q93 (q94 trivial))))))))) (by kernel_rfl)) (e := .ret) rfl (vs := [.p (.bool false)]) trivial (by kernel_rfl) (.p _ _ (.refl _))
                                              · have hr := Option.some.inj g45
                                                subst hr
                                                exact callP_of is9 rfl (path hm (ks := [0]) (σ' := ⟨[(0, .p (.bool false))], []⟩) (cc := c92 ++ [.reg [] [] 0 [(2, none, .call (.sl (List.map e3 r21) false)), (3, none, .call (.bool true)), (6, none, .b true), (10, none, .b true), (14, none, .b true), (18, none, .b true), (22, none, .b true), (26, none, .b true), (30, none, .b false)] [0]])
      (q85 (q86 (q87 (q88 (q89 (q90 (q91 (q93 (ai h39 (ai h40 (ai h41 (ai h42 (ai h43 (ai h44 (ai h45 trivial))))))))))))))) (by kernel_rfl)) (e := .ret) rfl (vs := [.p (.bool false)]) trivial (by kernel_rfl) (.p _ _ (.refl _))
                                            · have hr := Option.some.inj g44
                                              subst hr
                                              exact callP_of is9 rfl (path hm (ks := [0]) (σ' := ⟨[(0, .p (.bool false))], []⟩) (cc := c92 ++ [.reg [] [] 0 [(2, none, .call (.sl (List.map e3 r21) false)), (3, none, .call (.bool true)), (6, none, .b true), (10, none, .b true), (14, none, .b true), (18, none, .b true), (22, none, .b true), (26, none, .b false)] [0]])
      (q85 (q86 (q87 (q88 (q89 (q90 (q91 (q93 (ai h39 (ai h40 (ai h41 (ai h42 (ai h43 (ai h44 trivial)))))))))))))) (by kernel_rfl)) (e := .ret) rfl (vs := [.p (.bool false)]) trivial (by kernel_rfl) (.p _ _ (.refl _))
                                          · have hr := Option.some.inj g43
                                            subst hr
                                            exact callP_of is9 rfl (path hm (ks := [0]) (σ' := ⟨[(0, .p (.bool false))], []⟩) (cc := c92 ++ [.reg [] [] 0 [(2, none, .call (.sl (List.map e3 r21) false)), (3, none, .call (.bool true)), (6, none, .b true), (10, none, .b true), (14, none, .b true), (18, none, .b true), (22, none, .b false)] [0]])
      (q85 (q86 (q87 (q88 (q89 (q90 (q91 (q93 (ai h39 (ai h40 (ai h41 (ai h42 (ai h43 trivial))))))))))))) (by kernel_rfl)) (e := .ret) rfl (vs := [.p (.bool false)]) trivial (by kernel_rfl) (.p _ _ (.refl _))
                                        · have hr := Option.some.inj g42
                                          subst hr
                                          exact callP_of is9 rfl (path hm (ks := [0]) (σ' := ⟨[(0, .p (.bool false))], []⟩) (cc := c92 ++ [.reg [] [] 0 [(2, none, .call (.sl (List.map e3 r21) false)), (3, none, .call (.bool true)), (6, none, .b true), (10, none, .b true), (14, none, .b true), (18, none, .b false)] [0]])
      (q85 (q86 (q87 (q88 (q89 (q90 (q91 (q93 (ai h39 (ai h40 (ai h41 (ai h42 trivial)))))))))))) (by kernel_rfl)) (e := .ret) rfl (vs := [.p (.bool false)]) trivial (by kernel_rfl) (.p _ _ (.refl _))
                                      · have hr := Option.some.inj g41
                                        subst hr
                                        exact callP_of is9 rfl (path hm (ks := [0]) (σ' := ⟨[(0, .p (.bool false))], []⟩) (cc := c92 ++ [.reg [] [] 0 [(2, none, .call (.sl (List.map e3 r21) false)), (3, none, .call (.bool true)), (6, none, .b true), (10, none, .b true), (14, none, .b false)] [0]])
      (q85 (q86 (q87 (q88 (q89 (q90 (q91 (q93 (ai h39 (ai h40 (ai h41 trivial))))))))))) (by kernel_rfl)) (e := .ret) rfl (vs := [.p (.bool false)]) trivial (by kernel_rfl) (.p _ _ (.refl _))
                                    · have hr := Option.some.inj g40
                                      subst hr
                                      exact callP_of is9 rfl (path hm (ks := [0]) (σ' := ⟨[(0, .p (.bool false))], []⟩) (cc := c92 ++ [.reg [] [] 0 [(2, none, .call (.sl (List.map e3 r21) false)), (3, none, .call (.bool true)), (6, none, .b true), (10, none, .b false)] [0]])
      (q85 (q86 (q87 (q88 (q89 (q90 (q91 (q93 (ai h39 (ai h40 trivial)))))))))) (by kernel_rfl)) (e := .ret) rfl (vs := [.p (.bool false)]) trivial (by kernel_rfl) (.p _ _ (.refl _))
                                  · have hr := Option.some.inj g39
                                    subst hr
                                    exact callP_of is9 rfl (path hm (ks := [0]) (σ' := ⟨[(0, .p (.bool false))], []⟩) (cc := c92 ++ [.reg [] [] 0 [(2, none, .call (.sl (List.map e3 r21) false)), (3, none, .call (.bool true)), (6, none, .b false)] [0]])
      (q85 (q86 (q87 (q88 (q89 (q90 (q91 (q93 (ai h39 trivial))))))))) (by kernel_rfl)) (e := .ret) rfl (vs := [.p (.bool false)]) trivial (by kernel_rfl) (.p _ _ (.refl _))
                                · subst h38
                                  have hr := Option.some.inj g38
                                  subst hr
                                  exact callP_of is9 rfl (path hm (ks := [0]) (σ' := ⟨[(0, .p (.bool false))], []⟩) (cc := c92 ++ [.reg [] [] 0 [(2, none, .call (.sl (List.map e3 r21) false)), (3, none, .call (.bool false))] [0]])
      (q85 (q86 (q87 (q88 (q89 (q90 (q91 (q93 trivial)))))))) (by kernel_rfl)) (e := .ret) rfl (vs := [.p (.bool false)]) trivial (by kernel_rfl) (.p _ _ (.refl _))
def L13_0  (v0 : (List (Int × Int))) : Nat → Int → Option (Unit ⊕ Unit)
  | 0, _ => none
  | fuel + 1, v3 =>
    oif ((decide (v3 < (v0.length : Int))))
    (obind (sg v0 v3) fun x1 => oif ((decide (x1.1 < 1)))
      (some (.inl ()))
      (oif ((decide (x1.1 > 200)))
        (some (.inl ()))
        (oif ((decide (x1.2 < 0)))
          (some (.inl ()))
          (oif ((decide (x1.2 ≥ x1.1)))
            (some (.inl ()))
            (L13_0 v0 fuel (IntKind.wrap .i64 (v3 + 1)))))))
    (some (.inr (())))
noncomputable def L13_0_post (v0 : (List (Int × Int))) (fp0 : Bool) : (Unit ⊕ Unit) → Ex × St
  | .inl y => (.ret, ⟨[(2, .p (.int .i64 3))], []⟩)
  | .inr (y) => ((.exit 0), ⟨[], []⟩)
theorem L13_0_ok  (v0 : (List (Int × Int))) (fp0 : Bool) : ∀ (fuel : Nat) (v3 : Int) (r : (Unit ⊕ Unit)), L13_0 v0 fuel v3 = some r →
    SemJ prog ⟨53, 0, false⟩ (codeAt [1, 1, 0, 1, 0, 0] (bodyOf f13)) ⟨[(0, .p (.sl (List.map e68 v0) fp0)), (3, .p (.int .i64 v3))], []⟩ (L13_0_post v0 fp0 r).1 (L13_0_post v0 fp0 r).2
  | 0, _, _, h => nomatch h
  | fuel + 1, v3, r, h => by
    unfold L13_0 at h
    refine oif_elim h (fun h1 g1 => ?_) (fun h1 g1 => ?_)
    · refine obind_elim g1 fun x1 h2 g2 => ?_
      let c95 : List CC := [.reg [] [] 0 [(2, none, .n (v0.length : Int)), (3, none, .b true)] [0, 3, 15]]
      have q96 := fun {P : Prop} (t : P) => ai (len_map e68 v0) (ai h1 (ai (sg_map (f := e68) h2) t))
      refine oif_elim g2 (fun h3 g3 => ?_) (fun h3 g3 => ?_)
      · have hr := Option.some.inj g3
        subst hr
        exact SemC.cast (SemJ.out (e := .ret) (path hm (σ' := ⟨[(2, .p (.int .i64 3))], []⟩) (ks := [2]) (cc := c95 ++ [.reg [0, 0, 3, 7, 15, 31, 63, 127, 127, 511, 1023, 2047, 4095, 8191, 16383, 32767, 32767, 131071, 262143, 524287, 1048575, 2097151, 4194303, 8388607, 8388607, 33554431, 67108863, 134217727, 8388607, 8388607, 813694975, 1887436799, 4034920447, 8589934591, 17179869183] [] 0 [(2, none, .iv (.p (.agg [.int .i64 x1.1, .int .i64 x1.2]))), (5, none, .b true)] [0, 3, 52], .reg [] [] 0 [] [2]])
        (q96 (ai h3 trivial)) (by kernel_rfl)) (by simp)) (by kernel_rfl) (by kernel_rfl)
      · refine oif_elim g3 (fun h4 g4 => ?_) (fun h4 g4 => ?_)
        · have hr := Option.some.inj g4
          subst hr
          exact SemC.cast (SemJ.out (e := .ret) (path hm (σ' := ⟨[(2, .p (.int .i64 3))], []⟩) (ks := [2]) (cc := c95 ++ [.reg [0, 0, 3, 7, 15, 31, 63, 127, 127, 511, 1023, 2047, 4095, 8191, 16383, 32767, 32767, 131071, 262143, 524287, 1048575, 2097151, 4194303, 8388607, 8388607, 33554431, 67108863, 134217727, 8388607, 8388607, 813694975, 1887436799, 4034920447, 8589934591, 17179869183] [] 0 [(2, none, .iv (.p (.agg [.int .i64 x1.1, .int .i64 x1.2]))), (5, none, .b false), (9, none, .iv (.p (.agg [.int .i64 x1.1, .int .i64 x1.2]))), (12, none, .b true)] [0, 3, 52], .reg [] [] 0 [] [2]])
        (q96 (ai h3 (ai (sg_map (f := e68) h2) (ai h4 trivial)))) (by kernel_rfl)) (by simp)) (by kernel_rfl) (by kernel_rfl)
        · refine oif_elim g4 (fun h5 g5 => ?_) (fun h5 g5 => ?_)
          · have hr := Option.some.inj g5
            subst hr
            exact SemC.cast (SemJ.out (e := .ret) (path hm (σ' := ⟨[(2, .p (.int .i64 3))], []⟩) (ks := [2]) (cc := c95 ++ [.reg [0, 0, 3, 7, 15, 31, 63, 127, 127, 511, 1023, 2047, 4095, 8191, 16383, 32767, 32767, 131071, 262143, 524287, 1048575, 2097151, 4194303, 8388607, 8388607, 33554431, 67108863, 134217727, 8388607, 8388607, 813694975, 1887436799, 4034920447, 8589934591, 17179869183] [] 0 [(2, none, .iv (.p (.agg [.int .i64 x1.1, .int .i64 x1.2]))), (5, none, .b false), (9, none, .iv (.p (.agg [.int .i64 x1.1, .int .i64 x1.2]))), (12, none, .b false), (17, none, .iv (.p (.agg [.int .i64 x1.1, .int .i64 x1.2]))), (20, none, .b true)] [0, 3, 52], .reg [] [] 0 [] [2]])
        (q96 (ai h3 (ai (sg_map (f := e68) h2) (ai h4 (ai (sg_map (f := e68) h2) (ai h5 trivial)))))) (by kernel_rfl)) (by simp)) (by kernel_rfl) (by kernel_rfl)
          · refine oif_elim g5 (fun h6 g6 => ?_) (fun h6 g6 => ?_)
            · have hr := Option.some.inj g6
              subst hr
              exact SemC.cast (SemJ.out (e := .ret) (path hm (σ' := ⟨[(2, .p (.int .i64 3))], []⟩) (ks := [2]) (cc := c95 ++ [.reg [0, 0, 3, 7, 15, 31, 63, 127, 127, 511, 1023, 2047, 4095, 8191, 16383, 32767, 32767, 131071, 262143, 524287, 1048575, 2097151, 4194303, 8388607, 8388607, 33554431, 67108863, 134217727, 8388607, 8388607, 813694975, 1887436799, 4034920447, 8589934591, 17179869183] [] 0 [(2, none, .iv (.p (.agg [.int .i64 x1.1, .int .i64 x1.2]))), (5, none, .b false), (9, none, .iv (.p (.agg [.int .i64 x1.1, .int .i64 x1.2]))), (12, none, .b false), (17, none, .iv (.p (.agg [.int .i64 x1.1, .int .i64 x1.2]))), (20, none, .b false), (25, none, .iv (.p (.agg [.int .i64 x1.1, .int .i64 x1.2]))), (30, none, .iv (.p (.agg [.int .i64 x1.1, .int .i64 x1.2]))), (33, none, .b true)] [0, 3, 52], .reg [] [] 0 [] [2]])
        (q96 (ai h3 (ai (sg_map (f := e68) h2) (ai h4 (ai (sg_map (f := e68) h2) (ai h5 (ai (sg_map (f := e68) h2) (ai (sg_map (f := e68) h2) (ai h6 trivial))))))))) (by kernel_rfl)) (by simp)) (by kernel_rfl) (by kernel_rfl)
            · exact SemJ.again (σ1 := ⟨[(0, .p (.sl (List.map e68 v0) fp0)), (3, .p (.int .i64 (IntKind.wrap .i64 (v3 + 1))))], []⟩) (path hm (σ' := ⟨[(0, .p (.sl (List.map e68 v0) fp0)), (3, .p (.int .i64 (IntKind.wrap .i64 (v3 + 1))))], []⟩) (ks := [0, 3]) (cc := c95 ++ [.reg [0, 0, 3, 7, 15, 31, 63, 127, 127, 511, 1023, 2047, 4095, 8191, 16383, 32767, 32767, 131071, 262143, 524287, 1048575, 2097151, 4194303, 8388607, 8388607, 33554431, 67108863, 134217727, 8388607, 8388607, 813694975, 1887436799, 4034920447, 8589934591, 17179869183] [] 0 [(2, none, .iv (.p (.agg [.int .i64 x1.1, .int .i64 x1.2]))), (5, none, .b false), (9, none, .iv (.p (.agg [.int .i64 x1.1, .int .i64 x1.2]))), (12, none, .b false), (17, none, .iv (.p (.agg [.int .i64 x1.1, .int .i64 x1.2]))), (20, none, .b false), (25, none, .iv (.p (.agg [.int .i64 x1.1, .int .i64 x1.2]))), (30, none, .iv (.p (.agg [.int .i64 x1.1, .int .i64 x1.2]))), (33, none, .b false)] [0, 3, 52], .reg [] [] 0 [] [0, 3]])
        (q96 (ai h3 (ai (sg_map (f := e68) h2) (ai h4 (ai (sg_map (f := e68) h2) (ai h5 (ai (sg_map (f := e68) h2) (ai (sg_map (f := e68) h2) (ai h6 trivial))))))))) (by kernel_rfl)) (L13_0_ok v0 fp0 fuel (IntKind.wrap .i64 (v3 + 1)) _ g6)
    · have hr := Option.some.inj g1
      subst hr
      exact SemC.cast (SemJ.out (e := (.exit 0)) (path hm (σ' := ⟨[], []⟩) (ks := []) (cc := [.reg [] [] 0 [(2, none, .n (v0.length : Int)), (3, none, .b false)] [0, 3, 15]])
        (ai (len_map e68 v0) (ai h1 trivial)) (by kernel_rfl)) (by simp)) (by kernel_rfl) (by kernel_rfl)
def F13  (fuel : Nat) (p0 : (List (Int × Int))) : Option Int :=
  oif ((decide ((p0.length : Int) < 1)))
  (some 6)
  (oif ((decide ((p0.length : Int) > 5)))
    (some 6)
    ((obind (L13_0 p0 fuel 0) fun y1 => match y1 with
      | .inl y1 => some 3
      | .inr (y1) => some 0)))
theorem F13_ok  (fuel : Nat) (p0 : (List (Int × Int))) (fp0 : Bool) (r : Int) (h : F13 fuel p0 = some r) : CallP prog 13 [.sl (List.map e68 p0) fp0] (.int .i64 r) := by
  unfold F13 at h
  refine oif_elim h (fun h1 g1 => ?_) (fun h1 g1 => ?_)
  · have hr := Option.some.inj g1
    subst hr
    exact callP_of is13 rfl (path hm (ks := [2]) (σ' := ⟨[(2, .p (.int .i64 6))], []⟩) (cc := [.reg [] [] 0 [] [0], .reg [] [] 0 [(1, none, .n (p0.length : Int)), (2, none, .b true)] [0, 11], .reg [] [] 0 [] [2]])
      (ai (len_map e68 p0) (ai h1 trivial)) (by kernel_rfl)) (e := .ret) rfl (vs := [.p (.int .i64 6)]) trivial (by kernel_rfl) (.p _ _ (.refl _))
  · refine oif_elim g1 (fun h2 g2 => ?_) (fun h2 g2 => ?_)
    · have hr := Option.some.inj g2
      subst hr
      exact callP_of is13 rfl (path hm (ks := [2]) (σ' := ⟨[(2, .p (.int .i64 6))], []⟩) (cc := [.reg [] [] 0 [] [0], .reg [] [] 0 [(1, none, .n (p0.length : Int)), (2, none, .b false), (5, none, .n (p0.length : Int)), (6, none, .b true)] [0, 11], .reg [] [] 0 [] [2]])
      (ai (len_map e68 p0) (ai h1 (ai (len_map e68 p0) (ai h2 trivial)))) (by kernel_rfl)) (e := .ret) rfl (vs := [.p (.int .i64 6)]) trivial (by kernel_rfl) (.p _ _ (.refl _))
    · let c97 : List CC := [.reg [] [] 0 [] [0], .reg [] [] 0 [(1, none, .n (p0.length : Int)), (2, none, .b false), (5, none, .n (p0.length : Int)), (6, none, .b false)] [0, 11], .reg [] [] 0 [] [0, 3]]
      refine obind_elim g2 fun y h3 g3 => ?_
      match y, h3, g3 with
      | .inl y1, h3, g3 =>
        have hr := Option.some.inj g3
        subst hr
        exact callP_of is13 rfl (path hm (ks := [2]) (σ' := ⟨[(2, .p (.int .i64 3))], []⟩) (cc := c97 ++ [.leaf .ret ⟨[(2, .p (.int .i64 3))], []⟩])
      (ai (len_map e68 p0) (ai h1 (ai (len_map e68 p0) (ai h2 (ai (SemJ.loop (L13_0_ok p0 fp0 fuel 0 _ h3)) trivial))))) (by kernel_rfl)) (e := .ret) rfl (vs := [.p (.int .i64 3)]) trivial (by kernel_rfl) (.p _ _ (.refl _))
      | .inr (y1), h3, g3 =>
        have hr := Option.some.inj g3
        subst hr
        exact callP_of is13 rfl (path hm (ks := [2]) (σ' := ⟨[(2, .p (.int .i64 0))], []⟩) (cc := c97 ++ [.leaf (.exit 0) ⟨[], []⟩, .reg [] [] 0 [] [2]])
      (ai (len_map e68 p0) (ai h1 (ai (len_map e68 p0) (ai h2 (ai (SemJ.loop (L13_0_ok p0 fp0 fuel 0 _ h3)) trivial))))) (by kernel_rfl)) (e := .ret) rfl (vs := [.p (.int .i64 0)]) trivial (by kernel_rfl) (.p _ _ (.refl _))
def F40  (fuel : Nat) (p0 : Int) : Option Bool :=
  oif ((decide (p0 ≥ 0)))
  (oif ((decide (p0 ≤ 1000000000000)))
    (some true)
    (some false))
  (some false)
theorem F40_ok  (fuel : Nat) (p0 : Int)  (r : Bool) (h : F40 fuel p0 = some r) : CallP prog 40 [.int .i64 p0] (.bool r) := by
  unfold F40 at h
  refine oif_elim h (fun h1 g1 => ?_) (fun h1 g1 => ?_)
  · refine oif_elim g1 (fun h2 g2 => ?_) (fun h2 g2 => ?_)
    · have hr := Option.some.inj g2
      subst hr
      exact callP_of is40 rfl (path hm (ks := [2]) (σ' := ⟨[(2, .p (.bool true))], []⟩) (cc := [.reg [] [] 0 [] [0], .reg [] [] 0 [(1, none, .b true), (4, none, .b true)] [2]])
      (ai h1 (ai h2 trivial)) (by kernel_rfl)) (e := .ret) rfl (vs := [.p (.bool true)]) trivial (by kernel_rfl) (.p _ _ (.refl _))
    · have hr := Option.some.inj g2
      subst hr
      exact callP_of is40 rfl (path hm (ks := [2]) (σ' := ⟨[(2, .p (.bool false))], []⟩) (cc := [.reg [] [] 0 [] [0], .reg [] [] 0 [(1, none, .b true), (4, none, .b false)] [2]])
      (ai h1 (ai h2 trivial)) (by kernel_rfl)) (e := .ret) rfl (vs := [.p (.bool false)]) trivial (by kernel_rfl) (.p _ _ (.refl _))
  · have hr := Option.some.inj g1
    subst hr
    exact callP_of is40 rfl (path hm (ks := [2]) (σ' := ⟨[(2, .p (.bool false))], []⟩) (cc := [.reg [] [] 0 [] [0], .reg [] [] 0 [(1, none, .b false)] [2]])
      (ai h1 trivial) (by kernel_rfl)) (e := .ret) rfl (vs := [.p (.bool false)]) trivial (by kernel_rfl) (.p _ _ (.refl _))
def L41_2  (v0 : (List (Int × Int))) (v1 : Int) : Nat → Int → (List Int) → Option (List Int)
  | 0, _, _ => none
  | fuel + 1, v6, w0 =>
    oif ((decide (v6 < (v0.length : Int))))
    (obind (sg v0 v6) fun x1 => oif (decide (x1.1 ≠ 0)) (oif (((Int.tmod v1 x1.1) == x1.2))
      (oif (decide (((List.length w0) + 1) * 8 ≤ 140737488355328)) (L41_2 v0 v1 fuel (IntKind.wrap .i64 (v6 + 1)) (w0 ++ [v6])) none)
      (L41_2 v0 v1 fuel (IntKind.wrap .i64 (v6 + 1)) w0)) none)
    (some (w0))
noncomputable def L41_2_post (v0 : (List (Int × Int))) (v1 : Int) (fp0 : Bool) : (List Int) → Ex × St
  | y => ((.exit 0), ⟨[(5, .msl 0 0 (List.length y) (List.length (rowI e3 y)) false)], [.cells (rowI e3 y) 1]⟩)
theorem L41_2_ok  (v0 : (List (Int × Int))) (v1 : Int) (fp0 : Bool) : ∀ (fuel : Nat) (v6 : Int) (w0 : (List Int)) (r : (List Int)), L41_2 v0 v1 fuel v6 w0 = some r →
    SemJ prog ⟨31, 0, false⟩ (codeAt [1, 1, 0, 1, 0, 0] (bodyOf f41)) ⟨[(0, .p (.sl (List.map e68 v0) fp0)), (1, .p (.int .i64 v1)), (5, .msl 0 0 (List.length w0) (List.length (rowI e3 w0)) false), (6, .p (.int .i64 v6))], [.cells (rowI e3 w0) 1]⟩ (L41_2_post v0 v1 fp0 r).1 (L41_2_post v0 v1 fp0 r).2
  | 0, _, _, _, h => nomatch h
  | fuel + 1, v6, w0, r, h => by
    unfold L41_2 at h
    refine oif_elim h (fun h1 g1 => ?_) (fun h1 g1 => ?_)
    · refine obind_elim g1 fun x1 h2 g2 => ?_
      refine oif_elim g2 (fun h3 g3 => ?_) (fun _ h => nomatch h)
      let c99 : List CC := [.reg [] [] 0 [(2, none, .n (v0.length : Int)), (3, none, .b true)] [0, 1, 5, 6, 10]]
      refine oif_elim g3 (fun h4 g4 => ?_) (fun h4 g4 => ?_)
      · refine oif_elim g4 (fun h5 g5 => ?_) (fun _ h => nomatch h)
        exact SemJ.again (σ1 := ⟨[(0, .p (.sl (List.map e68 v0) fp0)), (1, .p (.int .i64 v1)), (5, .msl 0 0 (List.length (w0 ++ [v6])) (List.length (rowI e3 (w0 ++ [v6]))) false), (6, .p (.int .i64 (IntKind.wrap .i64 (v6 + 1))))], [.cells (rowI e3 (w0 ++ [v6])) 1]⟩) (path hm (σ' := ⟨[(0, .p (.sl (List.map e68 v0) fp0)), (1, .p (.int .i64 v1)), (5, .msl 0 0 (List.length (w0 ++ [v6])) (List.length (rowI e3 (w0 ++ [v6]))) false), (6, .p (.int .i64 (IntKind.wrap .i64 (v6 + 1))))], [.cells (rowI e3 (w0 ++ [v6])) 1]⟩) (ks := [0, 1, 5, 6]) (cc := c99 ++ [.reg [0, 0, 0, 6, 14, 30, 63, 0, 0, 384, 896, 1920, 4095] [] 0 [(3, none, .iv (.p (.agg [.int .i64 x1.1, .int .i64 x1.2]))), (9, none, .iv (.p (.agg [.int .i64 x1.1, .int .i64 x1.2]))), (12, none, .b true)] [0, 1, 5, 6, 25], .reg [] [] 0 [(3, none, .ap (rowI e3 (w0 ++ [v6])) (List.length (w0 ++ [v6])) (List.length (rowI e3 (w0 ++ [v6]))))] [0, 1, 5, 6], .reg [] [] 0 [] [0, 1, 5, 6]])
        (ai (len_map e68 v0) (ai h1 (ai (sg_map (f := e68) h2) (ai (od h3) (ai (sg_map (f := e68) h2) (ai h4 (ai (by decide : 0 < 1) (ai (od h5) (ai (app_c2 (by decide) (od h5)) (ai (app_len e3 [v6] (rl (List.length w0))) (ai (rl (List.length (rowI e3 (w0 ++ [v6])))) (ai (row_app e3 w0 [v6]) (ai (rl (List.length (rowI e3 w0))) (ai (row_sz el3 (rl (List.length (rowI e3 w0))) (rl (List.length w0))) (ai (row_sc el3 [v6]) (ai (row_es el3 [v6]) trivial)))))))))))))))) (by kernel_rfl)) (L41_2_ok v0 v1 fp0 fuel (IntKind.wrap .i64 (v6 + 1)) (w0 ++ [v6]) _ g5)
      · exact SemJ.again (σ1 := ⟨[(0, .p (.sl (List.map e68 v0) fp0)), (1, .p (.int .i64 v1)), (5, .msl 0 0 (List.length w0) (List.length (rowI e3 w0)) false), (6, .p (.int .i64 (IntKind.wrap .i64 (v6 + 1))))], [.cells (rowI e3 w0) 1]⟩) (path hm (σ' := ⟨[(0, .p (.sl (List.map e68 v0) fp0)), (1, .p (.int .i64 v1)), (5, .msl 0 0 (List.length w0) (List.length (rowI e3 w0)) false), (6, .p (.int .i64 (IntKind.wrap .i64 (v6 + 1))))], [.cells (rowI e3 w0) 1]⟩) (ks := [0, 1, 5, 6]) (cc := c99 ++ [.reg [0, 0, 0, 6, 14, 30, 63, 0, 0, 384, 896, 1920, 4095] [] 0 [(3, none, .iv (.p (.agg [.int .i64 x1.1, .int .i64 x1.2]))), (9, none, .iv (.p (.agg [.int .i64 x1.1, .int .i64 x1.2]))), (12, none, .b false)] [0, 1, 5, 6, 25], .reg [] [] 0 [] [0, 1, 5, 6]])
        (ai (len_map e68 v0) (ai h1 (ai (sg_map (f := e68) h2) (ai (od h3) (ai (sg_map (f := e68) h2) (ai h4 trivial)))))) (by kernel_rfl)) (L41_2_ok v0 v1 fp0 fuel (IntKind.wrap .i64 (v6 + 1)) w0 _ g4)
    · have hr := Option.some.inj g1
      subst hr
      exact SemC.cast (SemJ.out (e := (.exit 0)) (path hm (σ' := ⟨[(5, .msl 0 0 (List.length w0) (List.length (rowI e3 w0)) false)], [.cells (rowI e3 w0) 1]⟩) (ks := [5]) (cc := [.reg [] [] 0 [(2, none, .n (v0.length : Int)), (3, none, .b false)] [0, 1, 5, 6, 10]])
        (ai (len_map e68 v0) (ai h1 trivial)) (by kernel_rfl)) (by simp)) (by kernel_rfl) (by kernel_rfl)
def L41_0  (v0 : (List (Int × Int))) (v1 : Int) : Nat → Int → Option (List Int)
  | 0, _ => none
  | fuel + 1, v6 =>
    oif ((decide (v6 < (v0.length : Int))))
    (obind (sg v0 v6) fun x1 => oif (decide (x1.1 ≠ 0)) (oif (((Int.tmod v1 x1.1) == x1.2))
      (oif (decide (1 * 8 ≤ 140737488355328)) (obind (L41_2 v0 v1 fuel (IntKind.wrap .i64 (v6 + 1)) [v6]) fun y2 => some (y2)) none)
      (L41_0 v0 v1 fuel (IntKind.wrap .i64 (v6 + 1)))) none)
    (some (([] : List Int)))
noncomputable def L41_0_post (v0 : (List (Int × Int))) (v1 : Int) (fp0 : Bool) : (List Int) → Ex × St
  | y => ((.exit 0), ⟨[(5, .p (.sl (List.map e3 y) false))], []⟩)
theorem L41_0_ok  (v0 : (List (Int × Int))) (v1 : Int) (fp0 : Bool) : ∀ (fuel : Nat) (v6 : Int) (r : (List Int)), L41_0 v0 v1 fuel v6 = some r →
    SemJ prog ⟨31, 0, false⟩ (codeAt [1, 1, 0, 1, 0, 0] (bodyOf f41)) ⟨[(0, .p (.sl (List.map e68 v0) fp0)), (1, .p (.int .i64 v1)), (5, .p (.nilsl)), (6, .p (.int .i64 v6))], []⟩ (L41_0_post v0 v1 fp0 r).1 (L41_0_post v0 v1 fp0 r).2
  | 0, _, _, h => nomatch h
  | fuel + 1, v6, r, h => by
    unfold L41_0 at h
    refine oif_elim h (fun h1 g1 => ?_) (fun h1 g1 => ?_)
    · refine obind_elim g1 fun x1 h2 g2 => ?_
      refine oif_elim g2 (fun h3 g3 => ?_) (fun _ h => nomatch h)
      let c100 : List CC := [.reg [] [] 0 [(2, none, .n (v0.length : Int)), (3, none, .b true)] [0, 1, 5, 6, 10]]
      refine oif_elim g3 (fun h4 g4 => ?_) (fun h4 g4 => ?_)
      · refine oif_elim g4 (fun h5 g5 => ?_) (fun _ h => nomatch h)
        refine obind_elim g5 fun y2 h6 g6 => ?_
        have hr := Option.some.inj g6
        subst hr
        exact SemC.cast (SemJ.again (σ1 := ⟨[(0, .p (.sl (List.map e68 v0) fp0)), (1, .p (.int .i64 v1)), (5, .msl 0 0 (List.length [v6]) (List.length (rowI e3 [v6])) false), (6, .p (.int .i64 (IntKind.wrap .i64 (v6 + 1))))], [.cells (rowI e3 [v6]) 1]⟩) (path hm (σ' := ⟨[(0, .p (.sl (List.map e68 v0) fp0)), (1, .p (.int .i64 v1)), (5, .msl 0 0 (List.length [v6]) (List.length (rowI e3 [v6])) false), (6, .p (.int .i64 (IntKind.wrap .i64 (v6 + 1))))], [.cells (rowI e3 [v6]) 1]⟩) (ks := [0, 1, 5, 6]) (cc := c100 ++ [.reg [0, 0, 0, 6, 14, 30, 63, 0, 0, 384, 896, 1920, 4095] [] 0 [(3, none, .iv (.p (.agg [.int .i64 x1.1, .int .i64 x1.2]))), (9, none, .iv (.p (.agg [.int .i64 x1.1, .int .i64 x1.2]))), (12, none, .b true)] [0, 1, 5, 6, 25], .reg [] [] 1 [(3, some 0, .ap (rowI e3 [v6]) (List.length [v6]) (List.length (rowI e3 [v6])))] [0, 1, 5, 6], .reg [] [] 0 [] [0, 1, 5, 6]])
        (ai (len_map e68 v0) (ai h1 (ai (sg_map (f := e68) h2) (ai (od h3) (ai (sg_map (f := e68) h2) (ai h4 (ai (by decide : 0 < 1) (ai (od h5) (ai (app_c0 (by decide) (od h5)) (ai (rl (List.length [v6])) (ai (rl (List.length (rowI e3 [v6]))) (ai (row_src e3 [v6]) (ai (row_sc el3 [v6]) (ai (row_es el3 [v6]) trivial)))))))))))))) (by kernel_rfl)) (SemC.post (L41_2_ok v0 v1 fp0 fuel (IntKind.wrap .i64 (v6 + 1)) [v6] _ h6) (Weak.trans (wcast (Weak.freeze (E := [(5, .msl 0 0 (List.length y2) (List.length (rowI e3 y2)) false)]) (E' := [(5, .p (.sl (List.map e3 y2) false))]) (H := [.cells (rowI e3 y2) 1]) [0] (by kernel_rfl) (.snap _ _ _ _ _ (snap_row (g := 1) (L := y2) el3 (by kernel_rfl) (rl (List.length (rowI e3 y2))) (rl (List.length y2))) .nil)) (by kernel_rfl : (⟨[(5, .p (.sl (List.map e3 y2) false))], puts (dieW [0]) [.cells (rowI e3 y2) 1]⟩ : St) = ⟨[(5, .p (.sl (List.map e3 y2) false))], [.dead]⟩)) (Weak.sel (E := [(5, .p (.sl (List.map e3 y2) false))]) (E' := [(5, .p (.sl (List.map e3 y2) false))]) (H := [.dead]) (H' := []) [] trivial (by kernel_rfl) (by kernel_rfl))))) (by kernel_rfl) (by kernel_rfl)
      · exact SemJ.again (σ1 := ⟨[(0, .p (.sl (List.map e68 v0) fp0)), (1, .p (.int .i64 v1)), (5, .p (.nilsl)), (6, .p (.int .i64 (IntKind.wrap .i64 (v6 + 1))))], []⟩) (path hm (σ' := ⟨[(0, .p (.sl (List.map e68 v0) fp0)), (1, .p (.int .i64 v1)), (5, .p (.nilsl)), (6, .p (.int .i64 (IntKind.wrap .i64 (v6 + 1))))], []⟩) (ks := [0, 1, 5, 6]) (cc := c100 ++ [.reg [0, 0, 0, 6, 14, 30, 63, 0, 0, 384, 896, 1920, 4095] [] 0 [(3, none, .iv (.p (.agg [.int .i64 x1.1, .int .i64 x1.2]))), (9, none, .iv (.p (.agg [.int .i64 x1.1, .int .i64 x1.2]))), (12, none, .b false)] [0, 1, 5, 6, 25], .reg [] [] 0 [] [0, 1, 5, 6]])
        (ai (len_map e68 v0) (ai h1 (ai (sg_map (f := e68) h2) (ai (od h3) (ai (sg_map (f := e68) h2) (ai h4 trivial)))))) (by kernel_rfl)) (L41_0_ok v0 v1 fp0 fuel (IntKind.wrap .i64 (v6 + 1)) _ g4)
    · have hr := Option.some.inj g1
      subst hr
      exact SemC.cast (SemJ.out (e := (.exit 0)) (SemC.post (path hm (σ' := ⟨[(5, .p (.nilsl))], []⟩) (ks := [5]) (cc := [.reg [] [] 0 [(2, none, .n (v0.length : Int)), (3, none, .b false)] [0, 1, 5, 6, 10]])
        (ai (len_map e68 v0) (ai h1 trivial)) (by kernel_rfl)) (wcast (Weak.freeze (E := [(5, .p (.nilsl))]) (E' := [(5, .p (.sl (List.map e3 ([] : List Int)) false))]) (H := []) [] (by kernel_rfl) (.snap _ _ _ _ _ (.p _ _ (.nil _)) .nil)) (by kernel_rfl : (⟨[(5, .p (.sl (List.map e3 ([] : List Int)) false))], puts (dieW []) []⟩ : St) = ⟨[(5, .p (.sl (List.map e3 ([] : List Int)) false))], []⟩))) (by simp)) (by kernel_rfl) (by kernel_rfl)
def F41  (fuel : Nat) (p0 : (List (Int × Int))) (p1 : Int) : Option (List Int) :=
  obind (L41_0 p0 p1 fuel 0) fun y1 => some y1
theorem F41_ok  (fuel : Nat) (p0 : (List (Int × Int))) (p1 : Int) (fp0 : Bool) (r : (List Int)) (h : F41 fuel p0 p1 = some r) : CallP prog 41 [.sl (List.map e68 p0) fp0, .int .i64 p1] (.sl (List.map e3 r) false) := by
  unfold F41 at h
  refine obind_elim h fun y1 h1 g1 => ?_
  have hr := Option.some.inj g1
  subst hr
  exact callP_of is41 rfl (path hm (ks := [4]) (σ' := ⟨[(4, .p (.sl (List.map e3 y1) false))], []⟩) (cc := [.reg [] [] 0 [] [0, 1], .reg [] [] 0 [] [0, 1, 5], .reg [] [] 0 [] [0, 1, 5, 6], .leaf (.exit 0) ⟨[(5, .p (.sl (List.map e3 y1) false))], []⟩, .reg [] [] 0 [] [4]])
      (ai (SemJ.loop (L41_0_ok p0 p1 fp0 fuel 0 _ h1)) trivial) (by kernel_rfl)) (e := .ret) rfl (vs := [.p (.sl (List.map e3 y1) false)]) trivial (by kernel_rfl) (.p _ _ (.refl _))
def L31_0  (v0 : (List (Int × Int))) (v1 : Int) : Nat → Int → Option (Int ⊕ Unit)
  | 0, _ => none
  | fuel + 1, v6 =>
    oif ((decide (v6 < 32)))
    (obind (F41 fuel v0 (IntKind.wrap .i64 (v1 + v6))) fun r1 => oif (((r1.length : Int) == 0))
      (some (.inl (IntKind.wrap .i64 (v1 + v6))))
      (L31_0 v0 v1 fuel (IntKind.wrap .i64 (v6 + 1))))
    (some (.inr (())))
noncomputable def L31_0_post (v0 : (List (Int × Int))) (v1 : Int) (fp0 : Bool) : (Int ⊕ Unit) → Ex × St
  | .inl y => (.ret, ⟨[(4, .p (.int .i64 y)), (5, .p (.int .i64 0))], []⟩)
  | .inr (y) => ((.exit 0), ⟨[], []⟩)
theorem L31_0_ok  (v0 : (List (Int × Int))) (v1 : Int) (fp0 : Bool) : ∀ (fuel : Nat) (v6 : Int) (r : (Int ⊕ Unit)), L31_0 v0 v1 fuel v6 = some r →
    SemJ prog ⟨29, 0, false⟩ (codeAt [1, 1, 1, 0, 1, 0, 0] (bodyOf f31)) ⟨[(0, .p (.sl (List.map e68 v0) fp0)), (1, .p (.int .i64 v1)), (6, .p (.int .i64 v6))], []⟩ (L31_0_post v0 v1 fp0 r).1 (L31_0_post v0 v1 fp0 r).2
  | 0, _, _, h => nomatch h
  | fuel + 1, v6, r, h => by
    unfold L31_0 at h
    refine oif_elim h (fun h1 g1 => ?_) (fun h1 g1 => ?_)
    · refine obind_elim g1 fun r1 h2 g2 => ?_
      refine oif_elim g2 (fun h3 g3 => ?_) (fun h3 g3 => ?_)
      · have hr := Option.some.inj g3
        subst hr
        exact SemC.cast (SemJ.out (e := .ret) (path hm (σ' := ⟨[(4, .p (.int .i64 (IntKind.wrap .i64 (v1 + v6)))), (5, .p (.int .i64 0))], []⟩) (ks := [4, 5]) (cc := [.reg [] [] 0 [(1, none, .b true)] [0, 1, 6, 16], .reg [] [] 0 [(4, none, .call (.sl (List.map e3 r1) false)), (5, none, .n (r1.length : Int)), (6, none, .b true)] [0, 1, 6, 25], .reg [] [] 0 [] [4, 5]])
        (ai h1 (ai (F41_ok fuel v0 (IntKind.wrap .i64 (v1 + v6)) fp0 _ h2) (ai (len_map e3 r1) (ai h3 trivial)))) (by kernel_rfl)) (by simp)) (by kernel_rfl) (by kernel_rfl)
      · exact SemJ.again (σ1 := ⟨[(0, .p (.sl (List.map e68 v0) fp0)), (1, .p (.int .i64 v1)), (6, .p (.int .i64 (IntKind.wrap .i64 (v6 + 1))))], []⟩) (path hm (σ' := ⟨[(0, .p (.sl (List.map e68 v0) fp0)), (1, .p (.int .i64 v1)), (6, .p (.int .i64 (IntKind.wrap .i64 (v6 + 1))))], []⟩) (ks := [0, 1, 6]) (cc := [.reg [] [] 0 [(1, none, .b true)] [0, 1, 6, 16], .reg [] [] 0 [(4, none, .call (.sl (List.map e3 r1) false)), (5, none, .n (r1.length : Int)), (6, none, .b false)] [0, 1, 6, 25], .reg [] [] 0 [] [0, 1, 6]])
        (ai h1 (ai (F41_ok fuel v0 (IntKind.wrap .i64 (v1 + v6)) fp0 _ h2) (ai (len_map e3 r1) (ai h3 trivial)))) (by kernel_rfl)) (L31_0_ok v0 v1 fp0 fuel (IntKind.wrap .i64 (v6 + 1)) _ g3)
    · have hr := Option.some.inj g1
      subst hr
      exact SemC.cast (SemJ.out (e := (.exit 0)) (path hm (σ' := ⟨[], []⟩) (ks := []) (cc := [.reg [] [] 0 [(1, none, .b false)] [0, 1, 6, 16]])
        (ai h1 trivial) (by kernel_rfl)) (by simp)) (by kernel_rfl) (by kernel_rfl)
def F31  (fuel : Nat) (p0 : (List (Int × Int))) (p1 : Int) : Option (Int × Int) :=
  obind (F13 fuel p0) fun r1 => oif ((r1 != 0))
  (some (0, r1))
  (obind (F40 fuel p1) fun r2 => oif (r2)
    ((obind (L31_0 p0 p1 fuel 0) fun y3 => match y3 with
      | .inl y3 => some (y3, 0)
      | .inr (y3) => some (0, 21)))
    (some (0, 3)))
theorem F31_ok  (fuel : Nat) (p0 : (List (Int × Int))) (p1 : Int) (fp0 : Bool) (r : (Int × Int)) (h : F31 fuel p0 p1 = some r) : CallP prog 31 [.sl (List.map e68 p0) fp0, .int .i64 p1] (.tup [.int .i64 r.1, .int .i64 r.2]) := by
  unfold F31 at h
  refine obind_elim h fun r1 h1 g1 => ?_
  refine oif_elim g1 (fun h2 g2 => ?_) (fun h2 g2 => ?_)
  · have hr := Option.some.inj g2
    subst hr
    exact callP_of is31 rfl (path hm (ks := [4, 5]) (σ' := ⟨[(4, .p (.int .i64 0)), (5, .p (.int .i64 r1))], []⟩) (cc := [.reg [] [] 0 [] [0, 1], .reg [] [] 0 [(1, none, .call (.int .i64 r1)), (2, none, .b true)] [0, 1, 9], .reg [] [] 0 [(1, none, .call (.int .i64 r1))] [4, 5]])
      (ai (F13_ok fuel p0 fp0 _ h1) (ai h2 (ai (F13_ok fuel p0 fp0 _ h1) trivial))) (by kernel_rfl)) (e := .ret) rfl (vs := [.p (.int .i64 0), .p (.int .i64 r1)]) trivial (by kernel_rfl) (.tup _ _ (.cons _ _ _ _ (.p _ _ (.refl _)) (.cons _ _ _ _ (.p _ _ (.refl _)) .nil)))
  · refine obind_elim g2 fun r2 h3 g3 => ?_
    let c101 : List CC := [.reg [] [] 0 [] [0, 1], .reg [] [] 0 [(1, none, .call (.int .i64 r1)), (2, none, .b false)] [0, 1, 9]]
    refine oif_elim g3 (fun h4 g4 => ?_) (fun h4 g4 => ?_)
    · subst h4
      let c102 : List CC := c101 ++ [.reg [] [] 0 [(1, none, .call (.bool true))] [0, 1, 14], .reg [] [] 0 [] [0, 1, 6]]
      refine obind_elim g4 fun y h5 g5 => ?_
      match y, h5, g5 with
      | .inl y3, h5, g5 =>
        have hr := Option.some.inj g5
        subst hr
        exact callP_of is31 rfl (path hm (ks := [4, 5]) (σ' := ⟨[(4, .p (.int .i64 y3)), (5, .p (.int .i64 0))], []⟩) (cc := c102 ++ [.leaf .ret ⟨[(4, .p (.int .i64 y3)), (5, .p (.int .i64 0))], []⟩])
      (ai (F13_ok fuel p0 fp0 _ h1) (ai h2 (ai (F40_ok fuel p1 _ h3) (ai (SemJ.loop (L31_0_ok p0 p1 fp0 fuel 0 _ h5)) trivial)))) (by kernel_rfl)) (e := .ret) rfl (vs := [.p (.int .i64 y3), .p (.int .i64 0)]) trivial (by kernel_rfl) (.tup _ _ (.cons _ _ _ _ (.p _ _ (.refl _)) (.cons _ _ _ _ (.p _ _ (.refl _)) .nil)))
      | .inr (y3), h5, g5 =>
        have hr := Option.some.inj g5
        subst hr
        exact callP_of is31 rfl (path hm (ks := [4, 5]) (σ' := ⟨[(4, .p (.int .i64 0)), (5, .p (.int .i64 21))], []⟩) (cc := c102 ++ [.leaf (.exit 0) ⟨[], []⟩, .reg [] [] 0 [] [4, 5]])
      (ai (F13_ok fuel p0 fp0 _ h1) (ai h2 (ai (F40_ok fuel p1 _ h3) (ai (SemJ.loop (L31_0_ok p0 p1 fp0 fuel 0 _ h5)) trivial)))) (by kernel_rfl)) (e := .ret) rfl (vs := [.p (.int .i64 0), .p (.int .i64 21)]) trivial (by kernel_rfl) (.tup _ _ (.cons _ _ _ _ (.p _ _ (.refl _)) (.cons _ _ _ _ (.p _ _ (.refl _)) .nil)))
    · subst h4
      have hr := Option.some.inj g4
      subst hr
      exact callP_of is31 rfl (path hm (ks := [4, 5]) (σ' := ⟨[(4, .p (.int .i64 0)), (5, .p (.int .i64 3))], []⟩) (cc := c101 ++ [.reg [] [] 0 [(1, none, .call (.bool false))] [0, 1, 14], .reg [] [] 0 [] [4, 5]])
      (ai (F13_ok fuel p0 fp0 _ h1) (ai h2 (ai (F40_ok fuel p1 _ h3) trivial))) (by kernel_rfl)) (e := .ret) rfl (vs := [.p (.int .i64 0), .p (.int .i64 3)]) trivial (by kernel_rfl) (.tup _ _ (.cons _ _ _ _ (.p _ _ (.refl _)) (.cons _ _ _ _ (.p _ _ (.refl _)) .nil)))
def F62  (fuel : Nat) (p0 : (List (Int × Int))) (p1 : Int) (p2 : Int) : Option (List (Int × Int)) :=
  oif (List.isEmpty p0)
  (none)
  (oif (decide ((List.length (List.map e68 p0)) * 16 ≤ 140737488355328)) (oif (decide ((0:Int) ≤ p1)) (oif (decide ((p1 : Int) < (((List.length p0) : Nat) : Int))) (obind (sg p0 p1) fun x1 => obind (stL p0 p1 (x1.1, p2)) fun x2 => some x2) none) none) none)
theorem F62_ok  (fuel : Nat) (p0 : (List (Int × Int))) (p1 : Int) (p2 : Int) (fp0 : Bool) (r : (List (Int × Int))) (h : F62 fuel p0 p1 p2 = some r) : CallP prog 62 [.sl (List.map e68 p0) fp0, .int .i64 p1, .int .i64 p2] (.sl (List.map e68 r) false) := by
  unfold F62 at h
  refine oif_elim h (fun h1 g1 => ?_) (fun h1 g1 => ?_)
  · exact nomatch g1
  · refine oif_elim g1 (fun h2 g2 => ?_) (fun _ h => nomatch h)
    refine oif_elim g2 (fun h3 g3 => ?_) (fun _ h => nomatch h)
    refine oif_elim g3 (fun h4 g4 => ?_) (fun _ h => nomatch h)
    refine obind_elim g4 fun x1 h5 g5 => ?_
    refine obind_elim g5 fun x2 h6 g6 => ?_
    have hr := Option.some.inj g6
    subst hr
    exact callP_of is62 rfl (path hm (ks := [6]) (σ' := ⟨[(6, .msl 0 0 (List.length p0) (List.length (rowI e68 p0)) false)], [.cells (rowI e68 x2) 2]⟩) (cc := [.reg [] [] 0 [] [0, 1, 2], .reg [] [] 1 [(2, some 0, .ap (rowI e68 p0) (List.length p0) (List.length (rowI e68 p0)))] [1, 2, 7], .reg [] [] 0 [(5, none, .cs (rowI e68 x2))] [7], .reg [] [] 0 [] [6]])
      (ai (notEmpty_len e68 h1) (ai (app_e1 (m := (List.length (List.map e68 p0))) (od h2)) (ai (app_e2 (m := (List.length (List.map e68 p0))) (by decide) (od h2)) (ai (app_e3 e68 p0) (ai (rl (List.length (rowI e68 p0))) (ai (row_src e68 p0) (ai (row_sc el68 p0) (ai (row_es el68 p0) (ai (fun _ h => nomatch h : ∀ y ∈ ([] : List PV), y.cells.length = 2) (ai (od h3) (ai (od h4) (ai (rl (List.length (rowI e68 p0))) (ai (Nat.le_trans (row_fitf (o := 1) (m := 1) el68 (stL_0 h6) (stL_lt h6) (by decide)) (Nat.le_of_eq (rl (List.length (rowI e68 p0))))) (ai (row_putf (o := 1) (vs := [.p (.int .i64 p2)]) el68 h5 h6 (by kernel_rfl) (by decide : (1 + 1 : Nat) ≤ 2)) trivial)))))))))))))) (by kernel_rfl)) (e := .ret) rfl (vs := [.msl 0 0 (List.length p0) (List.length (rowI e68 p0)) false]) trivial (by kernel_rfl) (snap_row (g := 2) (L := x2) el68 (by kernel_rfl) ((row_setlen el68 h6).trans (rl (List.length (rowI e68 p0)))) ((stL_len h6).trans (rl (List.length p0))))
def L50_0   : Nat → Int → Int → Option Int
  | 0, _, _ => none
  | fuel + 1, v0, v1 =>
    oif ((v1 != 0))
    (oif (decide (v1 ≠ 0)) (L50_0  fuel v1 (Int.tmod v0 v1)) none)
    (some (v0))
noncomputable def L50_0_post   : Int → Ex × St
  | y => ((.exit 0), ⟨[(0, .p (.int .i64 y))], []⟩)
theorem L50_0_ok    : ∀ (fuel : Nat) (v0 : Int) (v1 : Int) (r : Int), L50_0  fuel v0 v1 = some r →
    SemJ prog ⟨12, 0, false⟩ (codeAt [1, 0, 0, 0] (bodyOf f50)) ⟨[(0, .p (.int .i64 v0)), (1, .p (.int .i64 v1))], []⟩ (L50_0_post  r).1 (L50_0_post  r).2
  | 0, _, _, _, h => nomatch h
  | fuel + 1, v0, v1, r, h => by
    unfold L50_0 at h
    refine oif_elim h (fun h1 g1 => ?_) (fun h1 g1 => ?_)
    · refine oif_elim g1 (fun h2 g2 => ?_) (fun _ h => nomatch h)
      exact SemJ.again (σ1 := ⟨[(0, .p (.int .i64 v1)), (1, .p (.int .i64 (Int.tmod v0 v1)))], []⟩) (path hm (σ' := ⟨[(0, .p (.int .i64 v1)), (1, .p (.int .i64 (Int.tmod v0 v1)))], []⟩) (ks := [0, 1]) (cc := [.reg [] [] 0 [(1, none, .b true)] [0, 1, 6], .reg [0, 0, 0, 6, 3, 31] [] 0 [] [0, 1]])
        (ai h1 (ai (od h2) trivial)) (by kernel_rfl)) (L50_0_ok  fuel v1 (Int.tmod v0 v1) _ g2)
    · have hr := Option.some.inj g1
      subst hr
      exact SemC.cast (SemJ.out (e := (.exit 0)) (path hm (σ' := ⟨[(0, .p (.int .i64 v0))], []⟩) (ks := [0]) (cc := [.reg [] [] 0 [(1, none, .b false)] [0, 1, 6]])
        (ai h1 trivial) (by kernel_rfl)) (by simp)) (by kernel_rfl) (by kernel_rfl)
def F50  (fuel : Nat) (p0 : Int) (p1 : Int) : Option Int :=
  obind (L50_0  fuel p0 p1) fun y1 => some y1
theorem F50_ok  (fuel : Nat) (p0 : Int) (p1 : Int)  (r : Int) (h : F50 fuel p0 p1 = some r) : CallP prog 50 [.int .i64 p0, .int .i64 p1] (.int .i64 r) := by
  unfold F50 at h
  refine obind_elim h fun y1 h1 g1 => ?_
  have hr := Option.some.inj g1
  subst hr
  exact callP_of is50 rfl (path hm (ks := [4]) (σ' := ⟨[(4, .p (.int .i64 y1))], []⟩) (cc := [.reg [] [] 0 [] [0, 1], .leaf (.exit 0) ⟨[(0, .p (.int .i64 y1))], []⟩, .reg [] [] 0 [] [4]])
      (ai (SemJ.loop (L50_0_ok  fuel p0 p1 _ h1)) trivial) (by kernel_rfl)) (e := .ret) rfl (vs := [.p (.int .i64 y1)]) trivial (by kernel_rfl) (.p _ _ (.refl _))
def L46_2  (v0 : (List (Int × Int))) (v5 : Int) (v6 : Int) (v7 : Int) (v8 : Int) : Nat → Int → Option Int
  | 0, _ => none
  | fuel + 1, v9 =>
    oif ((decide (v9 < v8)))
    (obind (sg v0 v7) fun x1 => oif (decide (x1.1 ≠ 0)) (oif (((Int.tmod (IntKind.wrap .i64 (v5 + (IntKind.wrap .i64 (v9 * v6)))) x1.1) != x1.2))
      (L46_2 v0 v5 v6 v7 v8 fuel (IntKind.wrap .i64 (v9 + 1)))
      (some (v9))) none)
    (some (v9))
noncomputable def L46_2_post (v0 : (List (Int × Int))) (v5 : Int) (v6 : Int) (v7 : Int) (v8 : Int) (fp0 : Bool) : Int → Ex × St
  | y => ((.exit 2), ⟨[(0, .p (.sl (List.map e68 v0) fp0)), (5, .p (.int .i64 v5)), (6, .p (.int .i64 v6)), (7, .p (.int .i64 v7)), (8, .p (.int .i64 v8)), (9, .p (.int .i64 y))], []⟩)
theorem L46_2_ok  (v0 : (List (Int × Int))) (v5 : Int) (v6 : Int) (v7 : Int) (v8 : Int) (fp0 : Bool) : ∀ (fuel : Nat) (v9 : Int) (r : Int), L46_2 v0 v5 v6 v7 v8 fuel v9 = some r →
    SemJ prog ⟨66, 0, false⟩ (codeAt [1, 1, 0, 1, 0, 0, 1, 0, 0, 1, 1, 0, 0, 0] (bodyOf f46)) ⟨[(0, .p (.sl (List.map e68 v0) fp0)), (5, .p (.int .i64 v5)), (6, .p (.int .i64 v6)), (7, .p (.int .i64 v7)), (8, .p (.int .i64 v8)), (9, .p (.int .i64 v9))], []⟩ (L46_2_post v0 v5 v6 v7 v8 fp0 r).1 (L46_2_post v0 v5 v6 v7 v8 fp0 r).2
  | 0, _, _, h => nomatch h
  | fuel + 1, v9, r, h => by
    unfold L46_2 at h
    refine oif_elim h (fun h1 g1 => ?_) (fun h1 g1 => ?_)
    · refine obind_elim g1 fun x1 h2 g2 => ?_
      refine oif_elim g2 (fun h3 g3 => ?_) (fun _ h => nomatch h)
      refine oif_elim g3 (fun h4 g4 => ?_) (fun h4 g4 => ?_)
      · exact SemJ.again (σ1 := ⟨[(0, .p (.sl (List.map e68 v0) fp0)), (5, .p (.int .i64 v5)), (6, .p (.int .i64 v6)), (7, .p (.int .i64 v7)), (8, .p (.int .i64 v8)), (9, .p (.int .i64 (IntKind.wrap .i64 (v9 + 1))))], []⟩) (path hm (σ' := ⟨[(0, .p (.sl (List.map e68 v0) fp0)), (5, .p (.int .i64 v5)), (6, .p (.int .i64 v6)), (7, .p (.int .i64 v7)), (8, .p (.int .i64 v8)), (9, .p (.int .i64 (IntKind.wrap .i64 (v9 + 1))))], []⟩) (ks := [0, 5, 6, 7, 8, 9]) (cc := [.reg [0, 0, 3, 7, 15, 15, 15, 111, 255, 15, 15, 1551, 3599, 7695, 16383, 15, 15, 98319, 229391, 491535, 1048575, 2097151] [] 0 [(2, none, .b true), (11, none, .iv (.p (.agg [.int .i64 x1.1, .int .i64 x1.2]))), (17, none, .iv (.p (.agg [.int .i64 x1.1, .int .i64 x1.2]))), (20, none, .b true)] [0, 5, 6, 7, 8, 9, 50], .reg [] [] 0 [] [0, 5, 6, 7, 8, 9]])
        (ai h1 (ai (sg_map (f := e68) h2) (ai (od h3) (ai (sg_map (f := e68) h2) (ai h4 trivial))))) (by kernel_rfl)) (L46_2_ok v0 v5 v6 v7 v8 fp0 fuel (IntKind.wrap .i64 (v9 + 1)) _ g4)
      · have hr := Option.some.inj g4
        subst hr
        exact SemC.cast (SemJ.out (e := (.exit 2)) (path hm (σ' := ⟨[(0, .p (.sl (List.map e68 v0) fp0)), (5, .p (.int .i64 v5)), (6, .p (.int .i64 v6)), (7, .p (.int .i64 v7)), (8, .p (.int .i64 v8)), (9, .p (.int .i64 v9))], []⟩) (ks := [0, 5, 6, 7, 8, 9]) (cc := [.reg [0, 0, 3, 7, 15, 15, 15, 111, 255, 15, 15, 1551, 3599, 7695, 16383, 15, 15, 98319, 229391, 491535, 1048575, 2097151] [] 0 [(2, none, .b true), (11, none, .iv (.p (.agg [.int .i64 x1.1, .int .i64 x1.2]))), (17, none, .iv (.p (.agg [.int .i64 x1.1, .int .i64 x1.2]))), (20, none, .b false)] [0, 5, 6, 7, 8, 9, 50]])
        (ai h1 (ai (sg_map (f := e68) h2) (ai (od h3) (ai (sg_map (f := e68) h2) (ai h4 trivial))))) (by kernel_rfl)) (by simp)) (by kernel_rfl) (by kernel_rfl)
    · have hr := Option.some.inj g1
      subst hr
      exact SemC.cast (SemJ.out (e := (.exit 2)) (path hm (σ' := ⟨[(0, .p (.sl (List.map e68 v0) fp0)), (5, .p (.int .i64 v5)), (6, .p (.int .i64 v6)), (7, .p (.int .i64 v7)), (8, .p (.int .i64 v8)), (9, .p (.int .i64 v9))], []⟩) (ks := [0, 5, 6, 7, 8, 9]) (cc := [.reg [0, 0, 3, 7, 15, 15, 15, 111, 255, 15, 15, 1551, 3599, 7695, 16383, 15, 15, 98319, 229391, 491535, 1048575, 2097151] [] 0 [(2, none, .b false)] [0, 5, 6, 7, 8, 9, 50]])
        (ai h1 trivial) (by kernel_rfl)) (by simp)) (by kernel_rfl) (by kernel_rfl)
def L46_0  (v0 : (List (Int × Int))) : Nat → Int → Int → Int → Option (Unit ⊕ (Int × Int))
  | 0, _, _, _ => none
  | fuel + 1, v5, v6, v7 =>
    oif ((decide (v7 < (v0.length : Int))))
    (obind (sg v0 v7) fun x1 => obind (F50 fuel v6 x1.1) fun r2 => oif (decide (r2 ≠ 0)) (obind (L46_2 v0 v5 v6 v7 (IntKind.wrap .i64 (Int.tdiv x1.1 r2)) fuel 0) fun y3 => oif ((y3 == (IntKind.wrap .i64 (Int.tdiv x1.1 r2))))
      (some (.inl ()))
      (L46_0 v0 fuel (IntKind.wrap .i64 (v5 + (IntKind.wrap .i64 (y3 * v6)))) (IntKind.wrap .i64 (v6 * (IntKind.wrap .i64 (Int.tdiv x1.1 r2)))) (IntKind.wrap .i64 (v7 + 1)))) none)
    (some (.inr ((v5, v6))))
noncomputable def L46_0_post (v0 : (List (Int × Int))) (fp0 : Bool) : (Unit ⊕ (Int × Int)) → Ex × St
  | .inl y => (.ret, ⟨[(2, .p (.int .i64 0)), (3, .p (.int .i64 0)), (4, .p (.bool false))], []⟩)
  | .inr (y) => ((.exit 0), ⟨[(5, .p (.int .i64 y.1)), (6, .p (.int .i64 y.2))], []⟩)
theorem L46_0_ok  (v0 : (List (Int × Int))) (fp0 : Bool) : ∀ (fuel : Nat) (v5 : Int) (v6 : Int) (v7 : Int) (r : (Unit ⊕ (Int × Int))), L46_0 v0 fuel v5 v6 v7 = some r →
    SemJ prog ⟨66, 0, false⟩ (codeAt [1, 1, 0, 1, 0, 0] (bodyOf f46)) ⟨[(0, .p (.sl (List.map e68 v0) fp0)), (5, .p (.int .i64 v5)), (6, .p (.int .i64 v6)), (7, .p (.int .i64 v7))], []⟩ (L46_0_post v0 fp0 r).1 (L46_0_post v0 fp0 r).2
  | 0, _, _, _, _, h => nomatch h
  | fuel + 1, v5, v6, v7, r, h => by
    unfold L46_0 at h
    refine oif_elim h (fun h1 g1 => ?_) (fun h1 g1 => ?_)
    · refine obind_elim g1 fun x1 h2 g2 => ?_
      refine obind_elim g2 fun r2 h3 g3 => ?_
      refine oif_elim g3 (fun h4 g4 => ?_) (fun _ h => nomatch h)
      refine obind_elim g4 fun y3 h5 g5 => ?_
      let c103 : List CC := [.reg [] [] 0 [(2, none, .n (v0.length : Int)), (3, none, .b true)] [0, 5, 6, 7, 13], .reg [0, 0, 3, 7, 15, 0, 0, 0, 192, 448, 960, 2016, 4095, 8191] [] 0 [(2, none, .iv (.p (.agg [.int .i64 x1.1, .int .i64 x1.2]))), (8, none, .iv (.p (.agg [.int .i64 x1.1, .int .i64 x1.2]))), (11, none, .call (.int .i64 r2))] [0, 5, 6, 7, 8], .reg [] [] 0 [] [0, 5, 6, 7, 8, 9], .leaf (.exit 2) ⟨[(0, .p (.sl (List.map e68 v0) fp0)), (5, .p (.int .i64 v5)), (6, .p (.int .i64 v6)), (7, .p (.int .i64 v7)), (8, .p (.int .i64 (IntKind.wrap .i64 (Int.tdiv x1.1 r2)))), (9, .p (.int .i64 y3))], []⟩]
      have q104 := fun {P : Prop} (t : P) => ai (len_map e68 v0) (ai h1 (ai (sg_map (f := e68) h2) (ai (sg_map (f := e68) h2) (ai (F50_ok fuel v6 x1.1 _ h3) (ai (od h4) (ai (SemJ.loop (L46_2_ok v0 v5 v6 v7 (IntKind.wrap .i64 (Int.tdiv x1.1 r2)) fp0 fuel 0 _ h5)) t))))))
      refine oif_elim g5 (fun h6 g6 => ?_) (fun h6 g6 => ?_)
      · have hr := Option.some.inj g6
        subst hr
        exact SemC.cast (SemJ.out (e := .ret) (path hm (σ' := ⟨[(2, .p (.int .i64 0)), (3, .p (.int .i64 0)), (4, .p (.bool false))], []⟩) (ks := [2, 3, 4]) (cc := c103 ++ [.reg [] [] 0 [(2, none, .b true)] [0, 5, 6, 7, 8, 9, 55], .reg [] [] 0 [] [2, 3, 4]])
        (q104 (ai h6 trivial)) (by kernel_rfl)) (by simp)) (by kernel_rfl) (by kernel_rfl)
      · exact SemJ.again (σ1 := ⟨[(0, .p (.sl (List.map e68 v0) fp0)), (5, .p (.int .i64 (IntKind.wrap .i64 (v5 + (IntKind.wrap .i64 (y3 * v6)))))), (6, .p (.int .i64 (IntKind.wrap .i64 (v6 * (IntKind.wrap .i64 (Int.tdiv x1.1 r2)))))), (7, .p (.int .i64 (IntKind.wrap .i64 (v7 + 1))))], []⟩) (path hm (σ' := ⟨[(0, .p (.sl (List.map e68 v0) fp0)), (5, .p (.int .i64 (IntKind.wrap .i64 (v5 + (IntKind.wrap .i64 (y3 * v6)))))), (6, .p (.int .i64 (IntKind.wrap .i64 (v6 * (IntKind.wrap .i64 (Int.tdiv x1.1 r2)))))), (7, .p (.int .i64 (IntKind.wrap .i64 (v7 + 1))))], []⟩) (ks := [0, 5, 6, 7]) (cc := c103 ++ [.reg [] [] 0 [(2, none, .b false)] [0, 5, 6, 7, 8, 9, 55], .reg [] [] 0 [] [0, 5, 6, 7], .reg [] [] 0 [] [0, 5, 6, 7]])
        (q104 (ai h6 trivial)) (by kernel_rfl)) (L46_0_ok v0 fp0 fuel (IntKind.wrap .i64 (v5 + (IntKind.wrap .i64 (y3 * v6)))) (IntKind.wrap .i64 (v6 * (IntKind.wrap .i64 (Int.tdiv x1.1 r2)))) (IntKind.wrap .i64 (v7 + 1)) _ g6)
    · have hr := Option.some.inj g1
      subst hr
      exact SemC.cast (SemJ.out (e := (.exit 0)) (path hm (σ' := ⟨[(5, .p (.int .i64 v5)), (6, .p (.int .i64 v6))], []⟩) (ks := [5, 6]) (cc := [.reg [] [] 0 [(2, none, .n (v0.length : Int)), (3, none, .b false)] [0, 5, 6, 7, 13]])
        (ai (len_map e68 v0) (ai h1 trivial)) (by kernel_rfl)) (by simp)) (by kernel_rfl) (by kernel_rfl)
def F46  (fuel : Nat) (p0 : (List (Int × Int))) : Option (Int × Int × Bool) :=
  (obind (L46_0 p0 fuel 0 1 0) fun y1 => match y1 with
  | .inl y1 => some (0, 0, false)
  | .inr (y1) => some (y1.1, y1.2, true))
theorem F46_ok  (fuel : Nat) (p0 : (List (Int × Int))) (fp0 : Bool) (r : (Int × Int × Bool)) (h : F46 fuel p0 = some r) : CallP prog 46 [.sl (List.map e68 p0) fp0] (.tup [.int .i64 r.1, .int .i64 r.2.1, .bool r.2.2]) := by
  unfold F46 at h
  refine obind_elim h fun y h1 g1 => ?_
  match y, h1, g1 with
  | .inl y1, h1, g1 =>
    have hr := Option.some.inj g1
    subst hr
    exact callP_of is46 rfl (path hm (ks := [2, 3, 4]) (σ' := ⟨[(2, .p (.int .i64 0)), (3, .p (.int .i64 0)), (4, .p (.bool false))], []⟩) (cc := [.reg [] [] 0 [] [0], .reg [] [] 0 [] [0, 5, 6], .reg [] [] 0 [] [0, 5, 6, 7], .leaf .ret ⟨[(2, .p (.int .i64 0)), (3, .p (.int .i64 0)), (4, .p (.bool false))], []⟩])
      (ai (SemJ.loop (L46_0_ok p0 fp0 fuel 0 1 0 _ h1)) trivial) (by kernel_rfl)) (e := .ret) rfl (vs := [.p (.int .i64 0), .p (.int .i64 0), .p (.bool false)]) trivial (by kernel_rfl) (.tup _ _ (.cons _ _ _ _ (.p _ _ (.refl _)) (.cons _ _ _ _ (.p _ _ (.refl _)) (.cons _ _ _ _ (.p _ _ (.refl _)) .nil))))
  | .inr (y1), h1, g1 =>
    have hr := Option.some.inj g1
    subst hr
    exact callP_of is46 rfl (path hm (ks := [2, 3, 4]) (σ' := ⟨[(2, .p (.int .i64 y1.1)), (3, .p (.int .i64 y1.2)), (4, .p (.bool true))], []⟩) (cc := [.reg [] [] 0 [] [0], .reg [] [] 0 [] [0, 5, 6], .reg [] [] 0 [] [0, 5, 6, 7], .leaf (.exit 0) ⟨[(5, .p (.int .i64 y1.1)), (6, .p (.int .i64 y1.2))], []⟩, .reg [] [] 0 [] [2, 3, 4]])
      (ai (SemJ.loop (L46_0_ok p0 fp0 fuel 0 1 0 _ h1)) trivial) (by kernel_rfl)) (e := .ret) rfl (vs := [.p (.int .i64 y1.1), .p (.int .i64 y1.2), .p (.bool true)]) trivial (by kernel_rfl) (.tup _ _ (.cons _ _ _ _ (.p _ _ (.refl _)) (.cons _ _ _ _ (.p _ _ (.refl _)) (.cons _ _ _ _ (.p _ _ (.refl _)) .nil))))
def L33_2  (v0 : (List (Int × Int))) (v1 : Int) : Nat → Int → (List Int) → Option (List Int)
  | 0, _, _ => none
  | fuel + 1, v7, w0 =>
    obind (sg v0 v1) fun x1 => oif ((decide (v7 < x1.1)))
    (obind (F62 fuel v0 v1 v7) fun r2 => obind (F46 fuel r2) fun r3 => oif (r3.2.2)
      (oif (decide (((List.length w0) + 1) * 8 ≤ 140737488355328)) (L33_2 v0 v1 fuel (IntKind.wrap .i64 (v7 + 1)) (w0 ++ [v7])) none)
      (L33_2 v0 v1 fuel (IntKind.wrap .i64 (v7 + 1)) w0))
    (some (w0))
noncomputable def L33_2_post (v0 : (List (Int × Int))) (v1 : Int) (fp0 : Bool) : (List Int) → Ex × St
  | y => ((.exit 0), ⟨[(6, .msl 0 0 (List.length y) (List.length (rowI e2 y)) false)], [.cells (rowI e2 y) 1]⟩)
theorem L33_2_ok  (v0 : (List (Int × Int))) (v1 : Int) (fp0 : Bool) : ∀ (fuel : Nat) (v7 : Int) (w0 : (List Int)) (r : (List Int)), L33_2 v0 v1 fuel v7 w0 = some r →
    SemJ prog ⟨48, 0, false⟩ (codeAt [1, 1, 1, 1, 0, 1, 0, 0] (bodyOf f33)) ⟨[(0, .p (.sl (List.map e68 v0) fp0)), (1, .p (.int .i64 v1)), (6, .msl 0 0 (List.length w0) (List.length (rowI e2 w0)) false), (7, .p (.int .i64 v7))], [.cells (rowI e2 w0) 1]⟩ (L33_2_post v0 v1 fp0 r).1 (L33_2_post v0 v1 fp0 r).2
  | 0, _, _, _, h => nomatch h
  | fuel + 1, v7, w0, r, h => by
    unfold L33_2 at h
    refine obind_elim h fun x1 h1 g1 => ?_
    refine oif_elim g1 (fun h2 g2 => ?_) (fun h2 g2 => ?_)
    · refine obind_elim g2 fun r2 h3 g3 => ?_
      refine obind_elim g3 fun r3 h4 g4 => ?_
      let c106 : List CC := [.reg [] [] 0 [(3, none, .iv (.p (.agg [.int .i64 x1.1, .int .i64 x1.2]))), (6, none, .b true)] [0, 1, 6, 7, 30]]
      refine oif_elim g4 (fun h5 g5 => ?_) (fun h5 g5 => ?_)
      · refine oif_elim g5 (fun h6 g6 => ?_) (fun _ h => nomatch h)
        exact SemJ.again (σ1 := ⟨[(0, .p (.sl (List.map e68 v0) fp0)), (1, .p (.int .i64 v1)), (6, .msl 0 0 (List.length (w0 ++ [v7])) (List.length (rowI e2 (w0 ++ [v7]))) false), (7, .p (.int .i64 (IntKind.wrap .i64 (v7 + 1))))], [.cells (rowI e2 (w0 ++ [v7])) 1]⟩) (path hm (σ' := ⟨[(0, .p (.sl (List.map e68 v0) fp0)), (1, .p (.int .i64 v1)), (6, .msl 0 0 (List.length (w0 ++ [v7])) (List.length (rowI e2 (w0 ++ [v7]))) false), (7, .p (.int .i64 (IntKind.wrap .i64 (v7 + 1))))], [.cells (rowI e2 (w0 ++ [v7])) 1]⟩) (ks := [0, 1, 6, 7]) (cc := c106 ++ [.reg [] [] 0 [(3, none, .call (.sl (List.map e68 r2) false)), (4, none, .call (.tup [.int .i64 r3.1, .int .i64 r3.2.1, .bool true]))] [0, 1, 6, 7, 10], .reg [] [] 0 [] [0, 1, 6, 7, 42], .reg [] [] 0 [(3, none, .ap (rowI e2 (w0 ++ [v7])) (List.length (w0 ++ [v7])) (List.length (rowI e2 (w0 ++ [v7]))))] [0, 1, 6, 7], .reg [] [] 0 [] [0, 1, 6, 7]])
        (ai (sg_map (f := e68) h1) (ai h2 (ai (F62_ok fuel v0 v1 v7 fp0 _ h3) (ai (show CallP prog 46 [.sl (List.map e68 r2) false] (.tup [.int .i64 r3.1, .int .i64 r3.2.1, .bool true]) from h5 ▸ (F46_ok fuel r2 false _ h4)) (ai (by decide : 0 < 1) (ai (od h6) (ai (app_c2 (by decide) (od h6)) (ai (app_len e2 [v7] (rl (List.length w0))) (ai (rl (List.length (rowI e2 (w0 ++ [v7])))) (ai (row_app e2 w0 [v7]) (ai (rl (List.length (rowI e2 w0))) (ai (row_sz el2 (rl (List.length (rowI e2 w0))) (rl (List.length w0))) (ai (row_sc el2 [v7]) (ai (row_es el2 [v7]) trivial)))))))))))))) (by kernel_rfl)) (L33_2_ok v0 v1 fp0 fuel (IntKind.wrap .i64 (v7 + 1)) (w0 ++ [v7]) _ g6)
      · exact SemJ.again (σ1 := ⟨[(0, .p (.sl (List.map e68 v0) fp0)), (1, .p (.int .i64 v1)), (6, .msl 0 0 (List.length w0) (List.length (rowI e2 w0)) false), (7, .p (.int .i64 (IntKind.wrap .i64 (v7 + 1))))], [.cells (rowI e2 w0) 1]⟩) (path hm (σ' := ⟨[(0, .p (.sl (List.map e68 v0) fp0)), (1, .p (.int .i64 v1)), (6, .msl 0 0 (List.length w0) (List.length (rowI e2 w0)) false), (7, .p (.int .i64 (IntKind.wrap .i64 (v7 + 1))))], [.cells (rowI e2 w0) 1]⟩) (ks := [0, 1, 6, 7]) (cc := c106 ++ [.reg [] [] 0 [(3, none, .call (.sl (List.map e68 r2) false)), (4, none, .call (.tup [.int .i64 r3.1, .int .i64 r3.2.1, .bool false]))] [0, 1, 6, 7, 10], .reg [] [] 0 [] [0, 1, 6, 7, 42], .reg [] [] 0 [] [0, 1, 6, 7]])
        (ai (sg_map (f := e68) h1) (ai h2 (ai (F62_ok fuel v0 v1 v7 fp0 _ h3) (ai (show CallP prog 46 [.sl (List.map e68 r2) false] (.tup [.int .i64 r3.1, .int .i64 r3.2.1, .bool false]) from h5 ▸ (F46_ok fuel r2 false _ h4)) trivial)))) (by kernel_rfl)) (L33_2_ok v0 v1 fp0 fuel (IntKind.wrap .i64 (v7 + 1)) w0 _ g5)
    · have hr := Option.some.inj g2
      subst hr
      exact SemC.cast (SemJ.out (e := (.exit 0)) (path hm (σ' := ⟨[(6, .msl 0 0 (List.length w0) (List.length (rowI e2 w0)) false)], [.cells (rowI e2 w0) 1]⟩) (ks := [6]) (cc := [.reg [] [] 0 [(3, none, .iv (.p (.agg [.int .i64 x1.1, .int .i64 x1.2]))), (6, none, .b false)] [0, 1, 6, 7, 30]])
        (ai (sg_map (f := e68) h1) (ai h2 trivial)) (by kernel_rfl)) (by simp)) (by kernel_rfl) (by kernel_rfl)
def L33_0  (v0 : (List (Int × Int))) (v1 : Int) : Nat → Int → Option (List Int)
  | 0, _ => none
  | fuel + 1, v7 =>
    obind (sg v0 v1) fun x1 => oif ((decide (v7 < x1.1)))
    (obind (F62 fuel v0 v1 v7) fun r2 => obind (F46 fuel r2) fun r3 => oif (r3.2.2)
      (oif (decide (1 * 8 ≤ 140737488355328)) (obind (L33_2 v0 v1 fuel (IntKind.wrap .i64 (v7 + 1)) [v7]) fun y4 => some (y4)) none)
      (L33_0 v0 v1 fuel (IntKind.wrap .i64 (v7 + 1))))
    (some (([] : List Int)))
noncomputable def L33_0_post (v0 : (List (Int × Int))) (v1 : Int) (fp0 : Bool) : (List Int) → Ex × St
  | y => ((.exit 0), ⟨[(6, .p (.sl (List.map e2 y) false))], []⟩)
theorem L33_0_ok  (v0 : (List (Int × Int))) (v1 : Int) (fp0 : Bool) : ∀ (fuel : Nat) (v7 : Int) (r : (List Int)), L33_0 v0 v1 fuel v7 = some r →
    SemJ prog ⟨48, 0, false⟩ (codeAt [1, 1, 1, 1, 0, 1, 0, 0] (bodyOf f33)) ⟨[(0, .p (.sl (List.map e68 v0) fp0)), (1, .p (.int .i64 v1)), (6, .p (.nilsl)), (7, .p (.int .i64 v7))], []⟩ (L33_0_post v0 v1 fp0 r).1 (L33_0_post v0 v1 fp0 r).2
  | 0, _, _, h => nomatch h
  | fuel + 1, v7, r, h => by
    unfold L33_0 at h
    refine obind_elim h fun x1 h1 g1 => ?_
    refine oif_elim g1 (fun h2 g2 => ?_) (fun h2 g2 => ?_)
    · refine obind_elim g2 fun r2 h3 g3 => ?_
      refine obind_elim g3 fun r3 h4 g4 => ?_
      let c107 : List CC := [.reg [] [] 0 [(3, none, .iv (.p (.agg [.int .i64 x1.1, .int .i64 x1.2]))), (6, none, .b true)] [0, 1, 6, 7, 30]]
      refine oif_elim g4 (fun h5 g5 => ?_) (fun h5 g5 => ?_)
      · refine oif_elim g5 (fun h6 g6 => ?_) (fun _ h => nomatch h)
        refine obind_elim g6 fun y4 h7 g7 => ?_
        have hr := Option.some.inj g7
        subst hr
        exact SemC.cast (SemJ.again (σ1 := ⟨[(0, .p (.sl (List.map e68 v0) fp0)), (1, .p (.int .i64 v1)), (6, .msl 0 0 (List.length [v7]) (List.length (rowI e2 [v7])) false), (7, .p (.int .i64 (IntKind.wrap .i64 (v7 + 1))))], [.cells (rowI e2 [v7]) 1]⟩) (path hm (σ' := ⟨[(0, .p (.sl (List.map e68 v0) fp0)), (1, .p (.int .i64 v1)), (6, .msl 0 0 (List.length [v7]) (List.length (rowI e2 [v7])) false), (7, .p (.int .i64 (IntKind.wrap .i64 (v7 + 1))))], [.cells (rowI e2 [v7]) 1]⟩) (ks := [0, 1, 6, 7]) (cc := c107 ++ [.reg [] [] 0 [(3, none, .call (.sl (List.map e68 r2) false)), (4, none, .call (.tup [.int .i64 r3.1, .int .i64 r3.2.1, .bool true]))] [0, 1, 6, 7, 10], .reg [] [] 0 [] [0, 1, 6, 7, 42], .reg [] [] 1 [(3, some 0, .ap (rowI e2 [v7]) (List.length [v7]) (List.length (rowI e2 [v7])))] [0, 1, 6, 7], .reg [] [] 0 [] [0, 1, 6, 7]])
        (ai (sg_map (f := e68) h1) (ai h2 (ai (F62_ok fuel v0 v1 v7 fp0 _ h3) (ai (show CallP prog 46 [.sl (List.map e68 r2) false] (.tup [.int .i64 r3.1, .int .i64 r3.2.1, .bool true]) from h5 ▸ (F46_ok fuel r2 false _ h4)) (ai (by decide : 0 < 1) (ai (od h6) (ai (app_c0 (by decide) (od h6)) (ai (rl (List.length [v7])) (ai (rl (List.length (rowI e2 [v7]))) (ai (row_src e2 [v7]) (ai (row_sc el2 [v7]) (ai (row_es el2 [v7]) trivial)))))))))))) (by kernel_rfl)) (SemC.post (L33_2_ok v0 v1 fp0 fuel (IntKind.wrap .i64 (v7 + 1)) [v7] _ h7) (Weak.trans (wcast (Weak.freeze (E := [(6, .msl 0 0 (List.length y4) (List.length (rowI e2 y4)) false)]) (E' := [(6, .p (.sl (List.map e2 y4) false))]) (H := [.cells (rowI e2 y4) 1]) [0] (by kernel_rfl) (.snap _ _ _ _ _ (snap_row (g := 1) (L := y4) el2 (by kernel_rfl) (rl (List.length (rowI e2 y4))) (rl (List.length y4))) .nil)) (by kernel_rfl : (⟨[(6, .p (.sl (List.map e2 y4) false))], puts (dieW [0]) [.cells (rowI e2 y4) 1]⟩ : St) = ⟨[(6, .p (.sl (List.map e2 y4) false))], [.dead]⟩)) (Weak.sel (E := [(6, .p (.sl (List.map e2 y4) false))]) (E' := [(6, .p (.sl (List.map e2 y4) false))]) (H := [.dead]) (H' := []) [] trivial (by kernel_rfl) (by kernel_rfl))))) (by kernel_rfl) (by kernel_rfl)
      · exact SemJ.again (σ1 := ⟨[(0, .p (.sl (List.map e68 v0) fp0)), (1, .p (.int .i64 v1)), (6, .p (.nilsl)), (7, .p (.int .i64 (IntKind.wrap .i64 (v7 + 1))))], []⟩) (path hm (σ' := ⟨[(0, .p (.sl (List.map e68 v0) fp0)), (1, .p (.int .i64 v1)), (6, .p (.nilsl)), (7, .p (.int .i64 (IntKind.wrap .i64 (v7 + 1))))], []⟩) (ks := [0, 1, 6, 7]) (cc := c107 ++ [.reg [] [] 0 [(3, none, .call (.sl (List.map e68 r2) false)), (4, none, .call (.tup [.int .i64 r3.1, .int .i64 r3.2.1, .bool false]))] [0, 1, 6, 7, 10], .reg [] [] 0 [] [0, 1, 6, 7, 42], .reg [] [] 0 [] [0, 1, 6, 7]])
        (ai (sg_map (f := e68) h1) (ai h2 (ai (F62_ok fuel v0 v1 v7 fp0 _ h3) (ai (show CallP prog 46 [.sl (List.map e68 r2) false] (.tup [.int .i64 r3.1, .int .i64 r3.2.1, .bool false]) from h5 ▸ (F46_ok fuel r2 false _ h4)) trivial)))) (by kernel_rfl)) (L33_0_ok v0 v1 fp0 fuel (IntKind.wrap .i64 (v7 + 1)) _ g5)
    · have hr := Option.some.inj g2
      subst hr
      exact SemC.cast (SemJ.out (e := (.exit 0)) (SemC.post (path hm (σ' := ⟨[(6, .p (.nilsl))], []⟩) (ks := [6]) (cc := [.reg [] [] 0 [(3, none, .iv (.p (.agg [.int .i64 x1.1, .int .i64 x1.2]))), (6, none, .b false)] [0, 1, 6, 7, 30]])
        (ai (sg_map (f := e68) h1) (ai h2 trivial)) (by kernel_rfl)) (wcast (Weak.freeze (E := [(6, .p (.nilsl))]) (E' := [(6, .p (.sl (List.map e2 ([] : List Int)) false))]) (H := []) [] (by kernel_rfl) (.snap _ _ _ _ _ (.p _ _ (.nil _)) .nil)) (by kernel_rfl : (⟨[(6, .p (.sl (List.map e2 ([] : List Int)) false))], puts (dieW []) []⟩ : St) = ⟨[(6, .p (.sl (List.map e2 ([] : List Int)) false))], []⟩))) (by simp)) (by kernel_rfl) (by kernel_rfl)
def F33  (fuel : Nat) (p0 : (List (Int × Int))) (p1 : Int) : Option ((List Int) × Int) :=
  obind (F13 fuel p0) fun r1 => oif ((r1 != 0))
  (some ([], r1))
  (oif ((decide (p1 < 0)))
    (some ([], 2))
    (oif ((decide (p1 ≥ (p0.length : Int))))
      (some ([], 2))
      (obind (L33_0 p0 p1 fuel 0) fun y2 => some (y2, 0))))
theorem F33_ok  (fuel : Nat) (p0 : (List (Int × Int))) (p1 : Int) (fp0 : Bool) (r : ((List Int) × Int)) (h : F33 fuel p0 p1 = some r) : CallP prog 33 [.sl (List.map e68 p0) fp0, .int .i64 p1] (.tup [.sl (List.map e2 r.1) false, .int .i64 r.2]) := by
  unfold F33 at h
  refine obind_elim h fun r1 h1 g1 => ?_
  refine oif_elim g1 (fun h2 g2 => ?_) (fun h2 g2 => ?_)
  · have hr := Option.some.inj g2
    subst hr
    exact callP_of is33 rfl (path hm (ks := [4, 5]) (σ' := ⟨[(4, .p (.nilsl)), (5, .p (.int .i64 r1))], []⟩) (cc := [.reg [] [] 0 [] [0, 1], .reg [] [] 0 [(1, none, .call (.int .i64 r1)), (2, none, .b true)] [0, 1, 13], .reg [] [] 0 [(1, none, .call (.int .i64 r1))] [4, 5]])
      (ai (F13_ok fuel p0 fp0 _ h1) (ai h2 (ai (F13_ok fuel p0 fp0 _ h1) trivial))) (by kernel_rfl)) (e := .ret) rfl (vs := [.p (.nilsl), .p (.int .i64 r1)]) trivial (by kernel_rfl) (.tup _ _ (.cons _ _ _ _ (.p _ _ (.nil _)) (.cons _ _ _ _ (.p _ _ (.refl _)) .nil)))
  · let c108 : List CC := [.reg [] [] 0 [] [0, 1], .reg [] [] 0 [(1, none, .call (.int .i64 r1)), (2, none, .b false)] [0, 1, 13]]
    refine oif_elim g2 (fun h3 g3 => ?_) (fun h3 g3 => ?_)
    · have hr := Option.some.inj g3
      subst hr
      exact callP_of is33 rfl (path hm (ks := [4, 5]) (σ' := ⟨[(4, .p (.nilsl)), (5, .p (.int .i64 2))], []⟩) (cc := c108 ++ [.reg [] [] 0 [(1, none, .b true)] [0, 1, 23], .reg [] [] 0 [] [4, 5]])
      (ai (F13_ok fuel p0 fp0 _ h1) (ai h2 (ai h3 trivial))) (by kernel_rfl)) (e := .ret) rfl (vs := [.p (.nilsl), .p (.int .i64 2)]) trivial (by kernel_rfl) (.tup _ _ (.cons _ _ _ _ (.p _ _ (.nil _)) (.cons _ _ _ _ (.p _ _ (.refl _)) .nil)))
    · refine oif_elim g3 (fun h4 g4 => ?_) (fun h4 g4 => ?_)
      · have hr := Option.some.inj g4
        subst hr
        exact callP_of is33 rfl (path hm (ks := [4, 5]) (σ' := ⟨[(4, .p (.nilsl)), (5, .p (.int .i64 2))], []⟩) (cc := c108 ++ [.reg [] [] 0 [(1, none, .b false), (5, none, .n (p0.length : Int)), (6, none, .b true)] [0, 1, 23], .reg [] [] 0 [] [4, 5]])
      (ai (F13_ok fuel p0 fp0 _ h1) (ai h2 (ai h3 (ai (len_map e68 p0) (ai h4 trivial))))) (by kernel_rfl)) (e := .ret) rfl (vs := [.p (.nilsl), .p (.int .i64 2)]) trivial (by kernel_rfl) (.tup _ _ (.cons _ _ _ _ (.p _ _ (.nil _)) (.cons _ _ _ _ (.p _ _ (.refl _)) .nil)))
      · refine obind_elim g4 fun y2 h5 g5 => ?_
        have hr := Option.some.inj g5
        subst hr
        exact callP_of is33 rfl (path hm (ks := [4, 5]) (σ' := ⟨[(4, .p (.sl (List.map e2 y2) false)), (5, .p (.int .i64 0))], []⟩) (cc := c108 ++ [.reg [] [] 0 [(1, none, .b false), (5, none, .n (p0.length : Int)), (6, none, .b false)] [0, 1, 23], .reg [] [] 0 [] [0, 1, 6], .reg [] [] 0 [] [0, 1, 6, 7], .leaf (.exit 0) ⟨[(6, .p (.sl (List.map e2 y2) false))], []⟩, .reg [] [] 0 [] [4, 5]])
      (ai (F13_ok fuel p0 fp0 _ h1) (ai h2 (ai h3 (ai (len_map e68 p0) (ai h4 (ai (SemJ.loop (L33_0_ok p0 p1 fp0 fuel 0 _ h5)) trivial)))))) (by kernel_rfl)) (e := .ret) rfl (vs := [.p (.sl (List.map e2 y2) false), .p (.int .i64 0)]) trivial (by kernel_rfl) (.tup _ _ (.cons _ _ _ _ (.p _ _ (.refl _)) (.cons _ _ _ _ (.p _ _ (.refl _)) .nil)))
def L15_0  (v0 : (List (Int × Int))) (v1 : (List (Int × Int))) : Nat → Int → Option (Unit ⊕ Unit)
  | 0, _ => none
  | fuel + 1, v5 =>
    oif ((decide (v5 < (v0.length : Int))))
    (obind (sg v0 v5) fun x1 => obind (sg v1 v5) fun x2 => oif ((!((x1.1 == x2.1) && ((x1.2 == x2.2) && true))))
      (some (.inl ()))
      (L15_0 v0 v1 fuel (IntKind.wrap .i64 (v5 + 1))))
    (some (.inr (())))
noncomputable def L15_0_post (v0 : (List (Int × Int))) (v1 : (List (Int × Int))) (fp0 : Bool) (fp1 : Bool) : (Unit ⊕ Unit) → Ex × St
  | .inl y => (.ret, ⟨[(4, .p (.bool false))], []⟩)
  | .inr (y) => ((.exit 0), ⟨[], []⟩)
theorem L15_0_ok  (v0 : (List (Int × Int))) (v1 : (List (Int × Int))) (fp0 : Bool) (fp1 : Bool) : ∀ (fuel : Nat) (v5 : Int) (r : (Unit ⊕ Unit)), L15_0 v0 v1 fuel v5 = some r →
    SemJ prog ⟨26, 0, false⟩ (codeAt [1, 1, 0, 1, 0, 0] (bodyOf f15)) ⟨[(0, .p (.sl (List.map e68 v0) fp0)), (1, .p (.sl (List.map e68 v1) fp1)), (5, .p (.int .i64 v5))], []⟩ (L15_0_post v0 v1 fp0 fp1 r).1 (L15_0_post v0 v1 fp0 fp1 r).2
  | 0, _, _, h => nomatch h
  | fuel + 1, v5, r, h => by
    unfold L15_0 at h
    refine oif_elim h (fun h1 g1 => ?_) (fun h1 g1 => ?_)
    · refine obind_elim g1 fun x1 h2 g2 => ?_
      refine obind_elim g2 fun x2 h3 g3 => ?_
      refine oif_elim g3 (fun h4 g4 => ?_) (fun h4 g4 => ?_)
      · have hr := Option.some.inj g4
        subst hr
        exact SemC.cast (SemJ.out (e := .ret) (path hm (σ' := ⟨[(4, .p (.bool false))], []⟩) (ks := [4]) (cc := [.reg [] [] 0 [(2, none, .n (v0.length : Int)), (3, none, .b true)] [0, 1, 5, 14], .reg [0, 0, 3, 7, 0, 0, 48, 112, 255] [] 0 [(2, none, .iv (.p (.agg [.int .i64 x1.1, .int .i64 x1.2]))), (6, none, .iv (.p (.agg [.int .i64 x2.1, .int .i64 x2.2]))), (8, none, .b true)] [0, 1, 5, 25], .reg [] [] 0 [] [4]])
        (ai (len_map e68 v0) (ai h1 (ai (sg_map (f := e68) h2) (ai (sg_map (f := e68) h3) (ai h4 trivial))))) (by kernel_rfl)) (by simp)) (by kernel_rfl) (by kernel_rfl)
      · exact SemJ.again (σ1 := ⟨[(0, .p (.sl (List.map e68 v0) fp0)), (1, .p (.sl (List.map e68 v1) fp1)), (5, .p (.int .i64 (IntKind.wrap .i64 (v5 + 1))))], []⟩) (path hm (σ' := ⟨[(0, .p (.sl (List.map e68 v0) fp0)), (1, .p (.sl (List.map e68 v1) fp1)), (5, .p (.int .i64 (IntKind.wrap .i64 (v5 + 1))))], []⟩) (ks := [0, 1, 5]) (cc := [.reg [] [] 0 [(2, none, .n (v0.length : Int)), (3, none, .b true)] [0, 1, 5, 14], .reg [0, 0, 3, 7, 0, 0, 48, 112, 255] [] 0 [(2, none, .iv (.p (.agg [.int .i64 x1.1, .int .i64 x1.2]))), (6, none, .iv (.p (.agg [.int .i64 x2.1, .int .i64 x2.2]))), (8, none, .b false)] [0, 1, 5, 25], .reg [] [] 0 [] [0, 1, 5]])
        (ai (len_map e68 v0) (ai h1 (ai (sg_map (f := e68) h2) (ai (sg_map (f := e68) h3) (ai h4 trivial))))) (by kernel_rfl)) (L15_0_ok v0 v1 fp0 fp1 fuel (IntKind.wrap .i64 (v5 + 1)) _ g4)
    · have hr := Option.some.inj g1
      subst hr
      exact SemC.cast (SemJ.out (e := (.exit 0)) (path hm (σ' := ⟨[], []⟩) (ks := []) (cc := [.reg [] [] 0 [(2, none, .n (v0.length : Int)), (3, none, .b false)] [0, 1, 5, 14]])
        (ai (len_map e68 v0) (ai h1 trivial)) (by kernel_rfl)) (by simp)) (by kernel_rfl) (by kernel_rfl)
def F15  (fuel : Nat) (p0 : (List (Int × Int))) (p1 : (List (Int × Int))) : Option Bool :=
  oif (((p0.length : Int) != (p1.length : Int)))
  (some false)
  ((obind (L15_0 p0 p1 fuel 0) fun y1 => match y1 with
    | .inl y1 => some false
    | .inr (y1) => some true))
theorem F15_ok  (fuel : Nat) (p0 : (List (Int × Int))) (p1 : (List (Int × Int))) (fp0 : Bool) (fp1 : Bool) (r : Bool) (h : F15 fuel p0 p1 = some r) : CallP prog 15 [.sl (List.map e68 p0) fp0, .sl (List.map e68 p1) fp1] (.bool r) := by
  unfold F15 at h
  refine oif_elim h (fun h1 g1 => ?_) (fun h1 g1 => ?_)
  · have hr := Option.some.inj g1
    subst hr
    exact callP_of is15 rfl (path hm (ks := [4]) (σ' := ⟨[(4, .p (.bool false))], []⟩) (cc := [.reg [] [] 0 [] [0, 1], .reg [] [] 0 [(1, none, .n (p0.length : Int)), (3, none, .n (p1.length : Int)), (4, none, .b true)] [0, 1, 10], .reg [] [] 0 [] [4]])
      (ai (len_map e68 p0) (ai (len_map e68 p1) (ai h1 trivial))) (by kernel_rfl)) (e := .ret) rfl (vs := [.p (.bool false)]) trivial (by kernel_rfl) (.p _ _ (.refl _))
  · let c109 : List CC := [.reg [] [] 0 [] [0, 1], .reg [] [] 0 [(1, none, .n (p0.length : Int)), (3, none, .n (p1.length : Int)), (4, none, .b false)] [0, 1, 10], .reg [] [] 0 [] [0, 1, 5]]
    refine obind_elim g1 fun y h2 g2 => ?_
    match y, h2, g2 with
    | .inl y1, h2, g2 =>
      have hr := Option.some.inj g2
      subst hr
      exact callP_of is15 rfl (path hm (ks := [4]) (σ' := ⟨[(4, .p (.bool false))], []⟩) (cc := c109 ++ [.leaf .ret ⟨[(4, .p (.bool false))], []⟩])
      (ai (len_map e68 p0) (ai (len_map e68 p1) (ai h1 (ai (SemJ.loop (L15_0_ok p0 p1 fp0 fp1 fuel 0 _ h2)) trivial)))) (by kernel_rfl)) (e := .ret) rfl (vs := [.p (.bool false)]) trivial (by kernel_rfl) (.p _ _ (.refl _))
    | .inr (y1), h2, g2 =>
      have hr := Option.some.inj g2
      subst hr
      exact callP_of is15 rfl (path hm (ks := [4]) (σ' := ⟨[(4, .p (.bool true))], []⟩) (cc := c109 ++ [.leaf (.exit 0) ⟨[], []⟩, .reg [] [] 0 [] [4]])
      (ai (len_map e68 p0) (ai (len_map e68 p1) (ai h1 (ai (SemJ.loop (L15_0_ok p0 p1 fp0 fp1 fuel 0 _ h2)) trivial)))) (by kernel_rfl)) (e := .ret) rfl (vs := [.p (.bool true)]) trivial (by kernel_rfl) (.p _ _ (.refl _))
def F7  (fuel : Nat) (p0 : (List (Int × Int))) (p1 : Int) (p2 : Int) : Option Bool :=
  obind (F8 fuel p0) fun r1 => oif (r1)
  (obind (F9 fuel) fun r2 => oif (r2)
    (some true)
    (some false))
  (oif (List.isEmpty p0)
    (obind (F30 fuel p0 p1) fun r2 => obind (F31 fuel [] p1) fun r3 => obind (F32 fuel p0 p2) fun r4 => obind (F33 fuel [] p2) fun r5 => oif ((r2.1 == r3.1))
      (oif ((r2.2 == r3.2))
        (obind (F34 fuel r4.1 r5.1) fun r6 => oif (r6)
          (oif ((r4.2 == r5.2))
            (obind (F15 fuel p0 []) fun r7 => oif (r7)
              (obind (F9 fuel) fun r8 => oif (r8)
                (some true)
                (some false))
              (some false))
            (some false))
          (some false))
        (some false))
      (some false))
    (oif (decide ((List.length (List.map e68 p0)) * 16 ≤ 140737488355328)) (obind (F30 fuel p0 p1) fun r2 => obind (F31 fuel p0 p1) fun r3 => obind (F32 fuel p0 p2) fun r4 => obind (F33 fuel p0 p2) fun r5 => oif ((r2.1 == r3.1))
      (oif ((r2.2 == r3.2))
        (obind (F34 fuel r4.1 r5.1) fun r6 => oif (r6)
          (oif ((r4.2 == r5.2))
            (obind (F15 fuel p0 p0) fun r7 => oif (r7)
              (obind (F9 fuel) fun r8 => oif (r8)
                (some true)
                (some false))
              (some false))
            (some false))
          (some false))
        (some false))
      (some false)) none))
theorem F7_ok  (fuel : Nat) (p0 : (List (Int × Int))) (p1 : Int) (p2 : Int) (fp0 : Bool) (r : Bool) (h : F7 fuel p0 p1 p2 = some r) : CallP prog 7 [.sl (List.map e68 p0) fp0, .int .i64 p1, .int .i64 p2] (.bool r) := by
  unfold F7 at h
  refine obind_elim h fun r1 h1 g1 => ?_
  let c110 : List CC := [.reg [] [] 0 [] [0, 1, 2]]
  have q111 := fun {P : Prop} (t : P) => ai (F8_ok fuel p0 fp0 _ h1) t
  refine oif_elim g1 (fun h2 g2 => ?_) (fun h2 g2 => ?_)
  · subst h2
    refine obind_elim g2 fun r2 h3 g3 => ?_
    refine oif_elim g3 (fun h4 g4 => ?_) (fun h4 g4 => ?_)
    · subst h4
      have hr := Option.some.inj g4
      subst hr
      exact callP_of is7 rfl (path hm (ks := [6]) (σ' := ⟨[(6, .p (.bool true))], []⟩) (cc := c110 ++ [.reg [] [] 0 [(1, none, .call (.bool true))] [0, 1, 2, 17], .reg [] [] 0 [(0, none, .call (.bool true))] [6]])
      (q111 (ai (F9_ok fuel  _ h3) trivial)) (by kernel_rfl)) (e := .ret) rfl (vs := [.p (.bool true)]) trivial (by kernel_rfl) (.p _ _ (.refl _))
    · subst h4
      have hr := Option.some.inj g4
      subst hr
      exact callP_of is7 rfl (path hm (ks := [6]) (σ' := ⟨[(6, .p (.bool false))], []⟩) (cc := c110 ++ [.reg [] [] 0 [(1, none, .call (.bool true))] [0, 1, 2, 17], .reg [] [] 0 [(0, none, .call (.bool false))] [6]])
      (q111 (ai (F9_ok fuel  _ h3) trivial)) (by kernel_rfl)) (e := .ret) rfl (vs := [.p (.bool false)]) trivial (by kernel_rfl) (.p _ _ (.refl _))
  · subst h2
    let c112 : List CC := c110 ++ [.reg [] [] 0 [(1, none, .call (.bool false))] [0, 1, 2, 17]]
    refine oif_elim g2 (fun h3 g3 => ?_) (fun h3 g3 => ?_)
    · refine obind_elim g3 fun r2 h4 g4 => ?_
      refine obind_elim g4 fun r3 h5 g5 => ?_
      refine obind_elim g5 fun r4 h6 g6 => ?_
      refine obind_elim g6 fun r5 h7 g7 => ?_
      let c113 : List CC := c112 ++ [.reg [] [] 0 [(1, none, .b true)] [0, 1, 2, 7], .reg [] [] 0 [(2, none, .call (.tup [.int .i64 r2.1, .int .i64 r2.2]))] [0, 1, 2, 7, 8, 9], .reg [] [] 0 [(2, none, .cw [.sl (List.map e68 ([] : List (Int × Int))) false, .int .i64 p1] (.tup [.int .i64 r3.1, .int .i64 r3.2]))] [0, 2, 7, 8, 9, 10, 11], .reg [] [] 0 [(2, none, .call (.tup [.sl (List.map e2 r4.1) false, .int .i64 r4.2]))] [0, 2, 7, 8, 9, 10, 11, 12, 13], .reg [] [] 0 [(2, none, .cw [.sl (List.map e68 ([] : List (Int × Int))) false, .int .i64 p2] (.tup [.sl (List.map e2 r5.1) false, .int .i64 r5.2]))] [0, 7, 8, 9, 10, 11, 12, 13, 14, 15]]
      have q114 := fun {P : Prop} (t : P) => ai (isEmpty_len e68 h3) (ai (row_sc el68 p0) (ai (row_es el68 p0) (ai (F30_ok fuel p0 p1 fp0 _ h4) t)))
      have q115 := fun {P : Prop} (t : P) => ai (F31_ok fuel [] p1 false _ h5) (ai (F32_ok fuel p0 p2 fp0 _ h6) t)
      have q116 := fun {P : Prop} (t : P) => ai (F33_ok fuel [] p2 false _ h7) t
      refine oif_elim g7 (fun h8 g8 => ?_) (fun h8 g8 => ?_)
      · refine oif_elim g8 (fun h9 g9 => ?_) (fun h9 g9 => ?_)
        · refine obind_elim g9 fun r6 h10 g10 => ?_
          have q117 := fun {P : Prop} (t : P) => ai h8 (ai h9 (ai (F34_ok fuel r4.1 r5.1 false false _ h10) t))
          refine oif_elim g10 (fun h11 g11 => ?_) (fun h11 g11 => ?_)
          · subst h11
            refine oif_elim g11 (fun h12 g12 => ?_) (fun h12 g12 => ?_)
            · refine obind_elim g12 fun r7 h13 g13 => ?_
              have q118 := fun {P : Prop} (t : P) => ai (F15_ok fuel p0 [] fp0 false _ h13) t
              refine oif_elim g13 (fun h14 g14 => ?_) (fun h14 g14 => ?_)
              · subst h14
                refine obind_elim g14 fun r8 h15 g15 => ?_
                refine oif_elim g15 (fun h16 g16 => ?_) (fun h16 g16 => ?_)
                · subst h16
                  have hr := Option.some.inj g16
                  subst hr
                  exact callP_of is7 rfl (path hm (ks := [6]) (σ' := ⟨[(6, .p (.bool true))], []⟩) (cc := c113 ++ [.reg [] [] 0 [(2, none, .b true), (6, none, .b true), (11, none, .call (.bool true)), (16, none, .b true), (21, none, .cw [.sl (List.map e68 p0) fp0, .sl (List.map e68 ([] : List (Int × Int))) false] (.bool true)), (24, none, .call (.bool true))] [6]])
      (q111 (q114 (ai (show PVleL [.nilsl, .int .i64 p1] [.sl (List.map e68 ([] : List (Int × Int))) false, .int .i64 p1] from (.cons _ _ _ _ (.nil _) (.cons _ _ _ _ (.refl _) .nil))) (q115 (ai (show PVleL [.nilsl, .int .i64 p2] [.sl (List.map e68 ([] : List (Int × Int))) false, .int .i64 p2] from (.cons _ _ _ _ (.nil _) (.cons _ _ _ _ (.refl _) .nil))) (q116 (q117 (ai h12 (ai (show PVleL [.sl (List.map e68 p0) fp0, .nilsl] [.sl (List.map e68 p0) fp0, .sl (List.map e68 ([] : List (Int × Int))) false] from (.cons _ _ _ _ (.refl _) (.cons _ _ _ _ (.nil _) .nil))) (q118 (ai (F9_ok fuel  _ h15) trivial))))))))))) (by kernel_rfl)) (e := .ret) rfl (vs := [.p (.bool true)]) trivial (by kernel_rfl) (.p _ _ (.refl _))
                · subst h16
                  have hr := Option.some.inj g16
                  subst hr
                  exact callP_of is7 rfl (path hm (ks := [6]) (σ' := ⟨[(6, .p (.bool false))], []⟩) (cc := c113 ++ [.reg [] [] 0 [(2, none, .b true), (6, none, .b true), (11, none, .call (.bool true)), (16, none, .b true), (21, none, .cw [.sl (List.map e68 p0) fp0, .sl (List.map e68 ([] : List (Int × Int))) false] (.bool true)), (24, none, .call (.bool false))] [6]])
      (q111 (q114 (ai (show PVleL [.nilsl, .int .i64 p1] [.sl (List.map e68 ([] : List (Int × Int))) false, .int .i64 p1] from (.cons _ _ _ _ (.nil _) (.cons _ _ _ _ (.refl _) .nil))) (q115 (ai (show PVleL [.nilsl, .int .i64 p2] [.sl (List.map e68 ([] : List (Int × Int))) false, .int .i64 p2] from (.cons _ _ _ _ (.nil _) (.cons _ _ _ _ (.refl _) .nil))) (q116 (q117 (ai h12 (ai (show PVleL [.sl (List.map e68 p0) fp0, .nilsl] [.sl (List.map e68 p0) fp0, .sl (List.map e68 ([] : List (Int × Int))) false] from (.cons _ _ _ _ (.refl _) (.cons _ _ _ _ (.nil _) .nil))) (q118 (ai (F9_ok fuel  _ h15) trivial))))))))))) (by kernel_rfl)) (e := .ret) rfl (vs := [.p (.bool false)]) trivial (by kernel_rfl) (.p _ _ (.refl _))
              · subst h14
                have hr := Option.some.inj g14
                subst hr
                exact callP_of is7 rfl (path hm (ks := [6]) (σ' := ⟨[(6, .p (.bool false))], []⟩) (cc := c113 ++ [.reg [] [] 0 [(2, none, .b true), (6, none, .b true), (11, none, .call (.bool true)), (16, none, .b true), (21, none, .cw [.sl (List.map e68 p0) fp0, .sl (List.map e68 ([] : List (Int × Int))) false] (.bool false))] [6]])
      (q111 (q114 (ai (show PVleL [.nilsl, .int .i64 p1] [.sl (List.map e68 ([] : List (Int × Int))) false, .int .i64 p1] from (.cons _ _ _ _ (.nil _) (.cons _ _ _ _ (.refl _) .nil))) (q115 (ai (show PVleL [.nilsl, .int .i64 p2] [.sl (List.map e68 ([] : List (Int × Int))) false, .int .i64 p2] from (.cons _ _ _ _ (.nil _) (.cons _ _ _ _ (.refl _) .nil))) (q116 (q117 (ai h12 (ai (show PVleL [.sl (List.map e68 p0) fp0, .nilsl] [.sl (List.map e68 p0) fp0, .sl (List.map e68 ([] : List (Int × Int))) false] from (.cons _ _ _ _ (.refl _) (.cons _ _ _ _ (.nil _) .nil))) (q118 trivial)))))))))) (by kernel_rfl)) (e := .ret) rfl (vs := [.p (.bool false)]) trivial (by kernel_rfl) (.p _ _ (.refl _))
            · have hr := Option.some.inj g12
              subst hr
              exact callP_of is7 rfl (path hm (ks := [6]) (σ' := ⟨[(6, .p (.bool false))], []⟩) (cc := c113 ++ [.reg [] [] 0 [(2, none, .b true), (6, none, .b true), (11, none, .call (.bool true)), (16, none, .b false)] [6]])
      (q111 (q114 (ai (show PVleL [.nilsl, .int .i64 p1] [.sl (List.map e68 ([] : List (Int × Int))) false, .int .i64 p1] from (.cons _ _ _ _ (.nil _) (.cons _ _ _ _ (.refl _) .nil))) (q115 (ai (show PVleL [.nilsl, .int .i64 p2] [.sl (List.map e68 ([] : List (Int × Int))) false, .int .i64 p2] from (.cons _ _ _ _ (.nil _) (.cons _ _ _ _ (.refl _) .nil))) (q116 (q117 (ai h12 trivial)))))))) (by kernel_rfl)) (e := .ret) rfl (vs := [.p (.bool false)]) trivial (by kernel_rfl) (.p _ _ (.refl _))
          · subst h11
            have hr := Option.some.inj g11
            subst hr
            exact callP_of is7 rfl (path hm (ks := [6]) (σ' := ⟨[(6, .p (.bool false))], []⟩) (cc := c113 ++ [.reg [] [] 0 [(2, none, .b true), (6, none, .b true), (11, none, .call (.bool false))] [6]])
      (q111 (q114 (ai (show PVleL [.nilsl, .int .i64 p1] [.sl (List.map e68 ([] : List (Int × Int))) false, .int .i64 p1] from (.cons _ _ _ _ (.nil _) (.cons _ _ _ _ (.refl _) .nil))) (q115 (ai (show PVleL [.nilsl, .int .i64 p2] [.sl (List.map e68 ([] : List (Int × Int))) false, .int .i64 p2] from (.cons _ _ _ _ (.nil _) (.cons _ _ _ _ (.refl _) .nil))) (q116 (q117 trivial))))))) (by kernel_rfl)) (e := .ret) rfl (vs := [.p (.bool false)]) trivial (by kernel_rfl) (.p _ _ (.refl _))
        · have hr := Option.some.inj g9
          subst hr
          exact callP_of is7 rfl (path hm (ks := [6]) (σ' := ⟨[(6, .p (.bool false))], []⟩) (cc := c113 ++ [.reg [] [] 0 [(2, none, .b true), (6, none, .b false)] [6]])
      (q111 (q114 (ai (show PVleL [.nilsl, .int .i64 p1] [.sl (List.map e68 ([] : List (Int × Int))) false, .int .i64 p1] from (.cons _ _ _ _ (.nil _) (.cons _ _ _ _ (.refl _) .nil))) (q115 (ai (show PVleL [.nilsl, .int .i64 p2] [.sl (List.map e68 ([] : List (Int × Int))) false, .int .i64 p2] from (.cons _ _ _ _ (.nil _) (.cons _ _ _ _ (.refl _) .nil))) (q116 (ai h8 (ai h9 trivial)))))))) (by kernel_rfl)) (e := .ret) rfl (vs := [.p (.bool false)]) trivial (by kernel_rfl) (.p _ _ (.refl _))
      · have hr := Option.some.inj g8
        subst hr
        exact callP_of is7 rfl (path hm (ks := [6]) (σ' := ⟨[(6, .p (.bool false))], []⟩) (cc := c113 ++ [.reg [] [] 0 [(2, none, .b false)] [6]])
      (q111 (q114 (ai (show PVleL [.nilsl, .int .i64 p1] [.sl (List.map e68 ([] : List (Int × Int))) false, .int .i64 p1] from (.cons _ _ _ _ (.nil _) (.cons _ _ _ _ (.refl _) .nil))) (q115 (ai (show PVleL [.nilsl, .int .i64 p2] [.sl (List.map e68 ([] : List (Int × Int))) false, .int .i64 p2] from (.cons _ _ _ _ (.nil _) (.cons _ _ _ _ (.refl _) .nil))) (q116 (ai h8 trivial))))))) (by kernel_rfl)) (e := .ret) rfl (vs := [.p (.bool false)]) trivial (by kernel_rfl) (.p _ _ (.refl _))
    · refine oif_elim g3 (fun h4 g4 => ?_) (fun _ h => nomatch h)
      refine obind_elim g4 fun r2 h5 g5 => ?_
      refine obind_elim g5 fun r3 h6 g6 => ?_
      refine obind_elim g6 fun r4 h7 g7 => ?_
      refine obind_elim g7 fun r5 h8 g8 => ?_
      let c119 : List CC := c112 ++ [.reg [] [] 1 [(1, some 0, .ap (rowI e68 p0) (List.length p0) (List.length (rowI e68 p0)))] [0, 1, 2, 7], .frz [(0, .p (.sl (List.map e68 p0) fp0)), (1, .p (.int .i64 p1)), (2, .p (.int .i64 p2)), (7, .p (.sl (List.map e68 p0) false))] [0], .reg [] [] 0 [(2, none, .call (.tup [.int .i64 r2.1, .int .i64 r2.2]))] [0, 1, 2, 7, 8, 9], .reg [] [] 0 [(2, none, .call (.tup [.int .i64 r3.1, .int .i64 r3.2]))] [0, 2, 7, 8, 9, 10, 11], .reg [] [] 0 [(2, none, .call (.tup [.sl (List.map e2 r4.1) false, .int .i64 r4.2]))] [0, 2, 7, 8, 9, 10, 11, 12, 13], .reg [] [] 0 [(2, none, .call (.tup [.sl (List.map e2 r5.1) false, .int .i64 r5.2]))] [0, 7, 8, 9, 10, 11, 12, 13, 14, 15]]
      have q120 := fun {P : Prop} (t : P) => ai (notEmpty_len e68 h3) (ai (od h4) (ai (app_c0 (by decide) (od h4)) (ai (len_map2 e68 p0) (ai (rl (List.length (rowI e68 p0))) (ai (row_src e68 p0) (ai (row_sc el68 p0) (ai (row_es el68 p0) (ai ((.keep _ _ _ _ (.keep _ _ _ _ (.keep _ _ _ _ (.snap _ _ _ _ _ (snap_row (g := 2) (L := p0) el68 (by kernel_rfl) (rl (List.length (rowI e68 p0))) (rl (List.length p0))) .nil)))) : FrzE (only [0] (fun l : Nat => ([.cells (rowI e68 p0) 2] : List MObj)[l]?)) [(0, .p (.sl (List.map e68 p0) fp0)), (1, .p (.int .i64 p1)), (2, .p (.int .i64 p2)), (7, .msl 0 0 (List.length p0) (List.length (rowI e68 p0)) false)] [(0, .p (.sl (List.map e68 p0) fp0)), (1, .p (.int .i64 p1)), (2, .p (.int .i64 p2)), (7, .p (.sl (List.map e68 p0) false))]) (ai (F30_ok fuel p0 p1 fp0 _ h5) (ai (F31_ok fuel p0 p1 false _ h6) (ai (F32_ok fuel p0 p2 fp0 _ h7) (ai (F33_ok fuel p0 p2 false _ h8) t))))))))))))
      refine oif_elim g8 (fun h9 g9 => ?_) (fun h9 g9 => ?_)
      · refine oif_elim g9 (fun h10 g10 => ?_) (fun h10 g10 => ?_)
        · refine obind_elim g10 fun r6 h11 g11 => ?_
          have q121 := fun {P : Prop} (t : P) => ai h9 (ai h10 (ai (F34_ok fuel r4.1 r5.1 false false _ h11) t))
          refine oif_elim g11 (fun h12 g12 => ?_) (fun h12 g12 => ?_)
          · subst h12
            refine oif_elim g12 (fun h13 g13 => ?_) (fun h13 g13 => ?_)
            · refine obind_elim g13 fun r7 h14 g14 => ?_
              refine oif_elim g14 (fun h15 g15 => ?_) (fun h15 g15 => ?_)
              · subst h15
                refine obind_elim g15 fun r8 h16 g16 => ?_
                refine oif_elim g16 (fun h17 g17 => ?_) (fun h17 g17 => ?_)
                · subst h17
                  have hr := Option.some.inj g17
                  subst hr
                  exact callP_of is7 rfl (path hm (ks := [6]) (σ' := ⟨[(6, .p (.bool true))], [.dead]⟩) (cc := c119 ++ [.reg [] [] 0 [(2, none, .b true), (6, none, .b true), (11, none, .call (.bool true)), (16, none, .b true), (21, none, .call (.bool true)), (24, none, .call (.bool true))] [6]])
      (q111 (q120 (q121 (ai h13 (ai (F15_ok fuel p0 p0 fp0 false _ h14) (ai (F9_ok fuel  _ h16) trivial)))))) (by kernel_rfl)) (e := .ret) rfl (vs := [.p (.bool true)]) trivial (by kernel_rfl) (.p _ _ (.refl _))
                · subst h17
                  have hr := Option.some.inj g17
                  subst hr
                  exact callP_of is7 rfl (path hm (ks := [6]) (σ' := ⟨[(6, .p (.bool false))], [.dead]⟩) (cc := c119 ++ [.reg [] [] 0 [(2, none, .b true), (6, none, .b true), (11, none, .call (.bool true)), (16, none, .b true), (21, none, .call (.bool true)), (24, none, .call (.bool false))] [6]])
      (q111 (q120 (q121 (ai h13 (ai (F15_ok fuel p0 p0 fp0 false _ h14) (ai (F9_ok fuel  _ h16) trivial)))))) (by kernel_rfl)) (e := .ret) rfl (vs := [.p (.bool false)]) trivial (by kernel_rfl) (.p _ _ (.refl _))
              · subst h15
                have hr := Option.some.inj g15
                subst hr
                exact callP_of is7 rfl (path hm (ks := [6]) (σ' := ⟨[(6, .p (.bool false))], [.dead]⟩) (cc := c119 ++ [.reg [] [] 0 [(2, none, .b true), (6, none, .b true), (11, none, .call (.bool true)), (16, none, .b true), (21, none, .call (.bool false))] [6]])
      (q111 (q120 (q121 (ai h13 (ai (F15_ok fuel p0 p0 fp0 false _ h14) trivial))))) (by kernel_rfl)) (e := .ret) rfl (vs := [.p (.bool false)]) trivial (by kernel_rfl) (.p _ _ (.refl _))
            · have hr := Option.some.inj g13
              subst hr
              exact callP_of is7 rfl (path hm (ks := [6]) (σ' := ⟨[(6, .p (.bool false))], [.dead]⟩) (cc := c119 ++ [.reg [] [] 0 [(2, none, .b true), (6, none, .b true), (11, none, .call (.bool true)), (16, none, .b false)] [6]])
      (q111 (q120 (q121 (ai h13 trivial)))) (by kernel_rfl)) (e := .ret) rfl (vs := [.p (.bool false)]) trivial (by kernel_rfl) (.p _ _ (.refl _))
          · subst h12
            have hr := Option.some.inj g12
            subst hr
            exact callP_of is7 rfl (path hm (ks := [6]) (σ' := ⟨[(6, .p (.bool false))], [.dead]⟩) (cc := c119 ++ [.reg [] [] 0 [(2, none, .b true), (6, none, .b true), (11, none, .call (.bool false))] [6]])
      (q111 (q120 (q121 trivial))) (by kernel_rfl)) (e := .ret) rfl (vs := [.p (.bool false)]) trivial (by kernel_rfl) (.p _ _ (.refl _))
        · have hr := Option.some.inj g10
          subst hr
          exact callP_of is7 rfl (path hm (ks := [6]) (σ' := ⟨[(6, .p (.bool false))], [.dead]⟩) (cc := c119 ++ [.reg [] [] 0 [(2, none, .b true), (6, none, .b false)] [6]])
      (q111 (q120 (ai h9 (ai h10 trivial)))) (by kernel_rfl)) (e := .ret) rfl (vs := [.p (.bool false)]) trivial (by kernel_rfl) (.p _ _ (.refl _))
      · have hr := Option.some.inj g9
        subst hr
        exact callP_of is7 rfl (path hm (ks := [6]) (σ' := ⟨[(6, .p (.bool false))], [.dead]⟩) (cc := c119 ++ [.reg [] [] 0 [(2, none, .b false)] [6]])
      (q111 (q120 (ai h9 trivial))) (by kernel_rfl)) (e := .ret) rfl (vs := [.p (.bool false)]) trivial (by kernel_rfl) (.p _ _ (.refl _))
end Go.Idl.N
