/-
  Part H of a proof: plain laws of the natives.
-/
import Derived.Test.YtmkkkahidonnjaaG
import Derived.Test.YtmkkkahidonnjaaProg
set_option linter.unusedSimpArgs false
set_option linter.unusedVariables false
namespace Go.Idl.N
open Go Go.Idl
theorem f8k : F8 1000 = some true := by kernel_rfl
def outR (lo hi : Int) (l : List Int) : Bool := l.any fun n => decide (n < lo) || decide (n > hi)
theorem f71 (fuel : Nat) (n lo hi : Int) : F71 fuel n lo hi = some (decide (n < lo) || decide (n > hi)) := by
 unfold F71
 simp only [oif_dec]
 by_cases h1 : n < lo
 ·simp [h1]
 ·by_cases h2 : n > hi <;> simp [h1, h2]
theorem l87 (v0 : List Int) (lo hi : Int) (hl : v0.length ≤ 1000000) : ∀ (f k : Nat), k ≤ v0.length → v0.length - k < f → ∃ y, L87_0 v0 lo hi (v0.length : Int) f (k : Int) = some y ∧
  (match y with | .inl i => 0 ≤ i ∧ outR lo hi (v0.drop k) = true | .inr _ => outR lo hi (v0.drop k) = false)
 | 0, k, _, h => by omega
 | f + 1, k, hk, h => by
  unfold L87_0
  by_cases hlt : k < v0.length
  ·obtain ⟨y, e, hy⟩ := l87 v0 lo hi hl f (k + 1) (by omega) (by omega)
   rw [oif_pos (by simpa using hlt), sg_ge hlt, obind_some, f71, obind_some, List.drop_eq_getElem_cons hlt, wrap_succ (by omega), e]
   unfold outR at *
   rw [List.any_cons]
   cases hc : (decide (v0[k] < lo) || decide (v0[k] > hi)) with
   | true => exact ⟨_, rfl, by omega, by simp⟩
   | false =>
    refine ⟨y, rfl, ?_⟩
    simpa using hy
  ·rw [oif_neg (by simpa using hlt)]
   have : k = v0.length := by omega
   subst this
   exact ⟨_, rfl, by simp [outR]⟩
theorem f42 (fuel : Nat) (l : List Int) (lo hi : Int) (hl : l.length ≤ 1000000) (hf : l.length < fuel) : F42 fuel lo hi l = some (!(outR lo hi l)) := by
 obtain ⟨y, e, hy⟩ := l87 l lo hi hl fuel 0 (by omega) (by omega)
 rw [Int.natCast_zero] at e
 unfold F42 F70 F87
 rw [e, obind_some]
 cases y with
 | inl i => simp only [List.drop_zero] at hy; simp only [obind_some, oif_dec, hy.1, hy.2]; simp [hy.1, obind_some, oif_t]
 | inr u => simp only [List.drop_zero] at hy; simp only [obind_some, oif_dec, hy]; simp [obind_some, oif_f]
def badJ (lo hi : Int) (x : Int × Int) : Bool := outR lo hi [x.1, x.2]
theorem l73 (v0 : List (Int × Int)) (hl : v0.length ≤ 1000000) : ∀ (f k : Nat), k ≤ v0.length → v0.length - k + 60 < f → ∃ y, L73_0 v0 (v0.length : Int) f (k : Int) = some y ∧
  (match y with | .inl i => 0 ≤ i ∧ (v0.drop k).any (badJ 1 500) = true | .inr _ => (v0.drop k).any (badJ 1 500) = false)
 | 0, k, _, h => by omega
 | f + 1, k, hk, h => by
  unfold L73_0
  by_cases hlt : k < v0.length
  ·obtain ⟨y, e, hy⟩ := l73 v0 hl f (k + 1) (by omega) (by omega)
   have e1 : F51 f (v0[k].1, v0[k].2) = some (badJ 1 500 v0[k]) := by
    unfold F51
    rw [f42 f _ _ _ (by simp) (by simp; omega), obind_some]
    unfold badJ
    cases outR 1 500 [v0[k].1, v0[k].2] <;> rfl
   rw [oif_pos (by simpa using hlt), sg_ge hlt, obind_some, e1, obind_some, List.drop_eq_getElem_cons hlt, wrap_succ (by omega), e, List.any_cons]
   cases hc : badJ 1 500 v0[k] with
   | true => exact ⟨_, rfl, by omega, by simp⟩
   | false =>
    refine ⟨y, rfl, ?_⟩
    simpa using hy
  ·rw [oif_neg (by simpa using hlt)]
   have : k = v0.length := by omega
   subst this
   exact ⟨_, rfl, by simp⟩
theorem l72 (v0 : List (Int × Int)) (hl : v0.length ≤ 1000000) : ∀ (f k : Nat), k ≤ v0.length → v0.length - k + 60 < f → ∃ y, L72_0 v0 (v0.length : Int) f (k : Int) = some y ∧
  (match y with | .inl i => 0 ≤ i ∧ (v0.drop k).any (badJ 0 100000) = true | .inr _ => (v0.drop k).any (badJ 0 100000) = false)
 | 0, k, _, h => by omega
 | f + 1, k, hk, h => by
  unfold L72_0
  by_cases hlt : k < v0.length
  ·obtain ⟨y, e, hy⟩ := l72 v0 hl f (k + 1) (by omega) (by omega)
   have e1 : F41 f (v0[k].1, v0[k].2) = some (badJ 0 100000 v0[k]) := by
    unfold F41
    rw [f42 f _ _ _ (by simp) (by simp; omega), obind_some]
    unfold badJ
    cases outR 0 100000 [v0[k].1, v0[k].2] <;> rfl
   rw [oif_pos (by simpa using hlt), sg_ge hlt, obind_some, e1, obind_some, List.drop_eq_getElem_cons hlt, wrap_succ (by omega), e, List.any_cons]
   cases hc : badJ 0 100000 v0[k] with
   | true => exact ⟨_, rfl, by omega, by simp⟩
   | false =>
    refine ⟨y, rfl, ?_⟩
    simpa using hy
  ·rw [oif_neg (by simpa using hlt)]
   have : k = v0.length := by omega
   subst this
   exact ⟨_, rfl, by simp⟩
theorem f52 (fuel : Nat) (l : List (Int × Int)) (hl : l.length ≤ 1000000) (hf : l.length + 60 < fuel) : F52 fuel l = some (l.any (badJ 1 500)) := by
 obtain ⟨y, e, hy⟩ := l73 l hl fuel 0 (by omega) (by omega)
 rw [Int.natCast_zero] at e
 unfold F52 F73
 rw [e, obind_some]
 cases y with
 | inl i => simp only [List.drop_zero] at hy; simp only [obind_some, oif_dec, hy.1, hy.2]; simp [hy.1]
 | inr u => simp only [List.drop_zero] at hy; simp only [obind_some, oif_dec, hy]; simp
theorem f43 (fuel : Nat) (l : List (Int × Int)) (hl : l.length ≤ 1000000) (hf : l.length + 60 < fuel) : F43 fuel l = some (l.any (badJ 0 100000)) := by
 obtain ⟨y, e, hy⟩ := l72 l hl fuel 0 (by omega) (by omega)
 rw [Int.natCast_zero] at e
 unfold F43 F72
 rw [e, obind_some]
 cases y with
 | inl i => simp only [List.drop_zero] at hy; simp only [obind_some, oif_dec, hy.1, hy.2]; simp [hy.1]
 | inr u => simp only [List.drop_zero] at hy; simp only [obind_some, oif_dec, hy]; simp
def chk (l : List (Int × Int)) : Int := if l.length < 1 ∨ l.length > 8 then 6 else if l.any (badJ 1 500) then 3 else 0
theorem f13 (fuel : Nat) (l : List (Int × Int)) (hl : l.length ≤ 12) (hf : 100 ≤ fuel) : F13 fuel l = some (chk l) := by
 unfold F13 chk
 rw [f42 _ _ _ _ (by simp) (by simp; omega), obind_some]
 simp only [outR, List.any_cons, List.any_nil, Bool.or_false]
 by_cases h1 : l.length < 1
 ·have : (l.length : Int) < 1 := by omega
  rw [oif_neg (by simp [this]), if_pos (Or.inl h1)]
 ·by_cases h2 : l.length > 8
  ·have : (l.length : Int) > 8 := by omega
   rw [oif_neg (by simp [this]), if_pos (Or.inr h2)]
  ·have a1 : ¬ (l.length : Int) < 1 := by omega
   have a2 : ¬ (l.length : Int) > 8 := by omega
   rw [oif_pos (by simp [a1, a2]), f52 _ _ (by omega) (by omega), obind_some, if_neg (by omega), oif_ite]
   cases l.any (badJ 1 500) <;> rfl
theorem badJ_eq (lo hi : Int) (x : Int × Int) : badJ lo hi x = (decide (x.1 < lo) || (decide (x.1 > hi) || (decide (x.2 < lo) || decide (x.2 > hi)))) := by
 unfold badJ outR
 simp only [List.any_cons, List.any_nil, Bool.or_false, Bool.or_assoc]
theorem l14 (L : List (Int × Int)) (hl : L.length ≤ 1000000) : ∀ (f k : Nat), k ≤ L.length → L.length - k < f → L14_0 L f (k : Int) = some (if (L.drop k).any (badJ 1 500) then .inl () else .inr ())
 | 0, k, _, h => by omega
 | f + 1, k, hk, h => by
  unfold L14_0
  by_cases hlt : k < L.length
  ·have ih := l14 L hl f (k + 1) (by omega) (by omega)
   rw [oif_pos (by simpa using hlt), sg_ge hlt, obind_some, List.drop_eq_getElem_cons hlt, List.any_cons, wrap_succ (by omega), ih, badJ_eq]
   simp only [oif_dec]
   by_cases h1 : L[k].1 < 1
   ·simp [h1]
   ·by_cases h2 : L[k].1 > 500
    ·simp [h1, h2]
    ·by_cases h3 : L[k].2 < 1
     ·simp [h1, h2, h3]
     ·by_cases h4 : L[k].2 > 500
      ·simp [h1, h2, h3, h4]
      ·simp only [h1, h2, h3, h4, if_false, decide_false, Bool.false_or]
  ·rw [oif_neg (by simpa using hlt)]
   have : k = L.length := by omega
   subst this
   simp
theorem f14 (fuel : Nat) (l : List (Int × Int)) (hl : l.length ≤ 12) (hf : 100 ≤ fuel) : F14 fuel l = some (chk l) := by
 unfold F14 chk
 simp only [oif_dec]
 by_cases h1 : l.length < 1
 ·rw [if_pos (by omega), if_pos (Or.inl h1)]
 ·by_cases h2 : l.length > 8
  ·rw [if_neg (by omega), if_pos (by omega), if_pos (Or.inr h2)]
  ·have := l14 l (by omega) fuel 0 (by omega) (by omega)
   rw [Int.natCast_zero, List.drop_zero] at this
   rw [if_neg (by omega), if_neg (by omega), if_neg (by omega), this]
   cases l.any (badJ 1 500) <;> rfl
theorem chk0 {l : List (Int × Int)} (h : chk l = 0) : 1 ≤ l.length ∧ l.length ≤ 8 ∧ l.any (badJ 1 500) = false := by
 unfold chk at h
 split at h
 ·cases h
 ·rename_i h1
  split at h
  ·cases h
  ·rename_i h2
   exact ⟨by omega, by omega, by simpa using h2⟩
theorem job_ok {l : List (Int × Int)} {lo hi : Int} (h : l.any (badJ lo hi) = false) {x : Int × Int} (hx : x ∈ l) : lo ≤ x.1 ∧ x.1 ≤ hi ∧ lo ≤ x.2 ∧ x.2 ≤ hi := by
 rw [List.any_eq_false] at h
 have := h x hx
 simp only [badJ_eq, Bool.or_eq_true, decide_eq_true_eq] at this
 omega
def mn (l : List (Int × Int)) (w : Nat) : Int := if w % 2 = 0 then (l.getD (w / 2) (0, 0)).1 else (l.getD (w / 2) (0, 0)).2
theorem half (w : Nat) : Int.tdiv (w : Int) 2 = ((w / 2 : Nat) : Int) ∧ Int.tmod (w : Int) 2 = ((w % 2 : Nat) : Int) := ⟨rfl, rfl⟩
theorem f44 (fuel : Nat) (l : List (Int × Int)) (w : Nat) (hl : l.length ≤ 1000) (hw : w < 2 * l.length) : F44 fuel l (w : Int) = some (mn l w) := by
 unfold F44 mn
 have h1 : w / 2 < l.length := by omega
 rw [(half w).1, (half w).2, wrap_id (by omega) (by omega), sg_ge h1, obind_some]
 have e : l.getD (w / 2) (0, 0) = l[w / 2] := by simp [List.getD, h1]
 rw [e]
 rcases Nat.mod_two_eq_zero_or_one w with h | h
 ·rw [h, if_pos rfl, show sg [(l[w / 2].1 : Int), (l[w / 2].2 : Int)] ((0 : Nat) : Int) = some l[w / 2].1 from rfl, obind_some]; rfl
 ·rw [h, if_neg (by omega), show sg [(l[w / 2].1 : Int), (l[w / 2].2 : Int)] ((1 : Nat) : Int) = some l[w / 2].2 from rfl, obind_some]; rfl
theorem f45 (fuel : Nat) (l : List (Int × Int)) (w : Nat) (hl : l.length ≤ 1000) (hw : w < 2 * l.length) : F45 fuel l (w : Int) = some (mn l w) := f44 fuel l w hl hw
theorem f46 (fuel : Nat) (l : List (Int × Int)) (w : Nat) (hl : l.length ≤ 1000) (hw : w < 2 * l.length) : F46 fuel l (w : Int) = some (mn l w) := by
 unfold F46 mn
 have h1 : w / 2 < l.length := by omega
 rw [(half w).1, (half w).2, wrap_id (by omega) (by omega), sg_ge h1]
 have e : l.getD (w / 2) (0, 0) = l[w / 2] := by simp [List.getD, h1]
 rw [e]
 rcases Nat.mod_two_eq_zero_or_one w with h | h
 ·rw [h, if_pos rfl]; rfl
 ·rw [h, if_neg (by omega)]; rfl
theorem f47 (fuel : Nat) (l : List (Int × Int)) (w : Nat) (hl : l.length ≤ 1000) (hw : w < 2 * l.length) : F47 fuel l (w : Int) = some (mn l w) := f46 fuel l w hl hw
theorem mn_ok {l : List (Int × Int)} {lo hi : Int} (h : l.any (badJ lo hi) = false) {w : Nat} (hw : w < 2 * l.length) : lo ≤ mn l w ∧ mn l w ≤ hi := by
 have h1 : w / 2 < l.length := by omega
 have e : l.getD (w / 2) (0, 0) = l[w / 2] := by simp [List.getD, h1]
 obtain ⟨a1, a2, a3, a4⟩ := job_ok h (List.getElem_mem h1)
 unfold mn
 rw [e]
 split <;> omega
end Go.Idl.N
set_option linter.unusedSimpArgs false
set_option linter.unusedVariables false
namespace Go.Idl.N
open Go Go.Idl
theorem maxL1 (a b : Int) : maxL a [b] = max a b := by unfold maxL; simp only [List.foldl]; rw [Int.max_def]; split <;> split <;> omega
def rel (w v : Nat) : Bool := v / 2 == w / 2 || v % 2 == w % 2
def hitA (l p : List (Int × Int)) (w v : Nat) : Bool := v != w && (rel w v && (decide (mn p v ≥ mn p w) && decide (mn p v < mn p w + mn l w)))
def hitB (l p : List (Int × Int)) (a b : Nat) : Bool := rel a b && (decide (mn p a < mn p b + mn l b) && decide (mn p b < mn p a + mn l a))
def endF (l p : List (Int × Int)) (e : Int) (ws : List Nat) : Int := ws.foldl (fun e w => max e (mn p w + mn l w)) e
section
variable (l p : List (Int × Int)) (h8 : l.length ≤ 8) (hlen : p.length = l.length) (hl : l.any (badJ 1 500) = false) (hp : p.any (badJ 0 100000) = false)
include h8 hlen hl hp
theorem sum_ok {w : Nat} (hw : w < 2 * l.length) : IntKind.wrap .i64 (mn p w + mn l w) = mn p w + mn l w := by
 have h1 := mn_ok hl hw
 have h2 := mn_ok hp (w := w) (by omega)
 exact wrap_id (by omega) (by omega)
theorem l9_2 (w : Nat) (hw : w < 2 * l.length) (x1 x2 : Int) : ∀ (f k : Nat), k ≤ 2 * l.length → 2 * l.length - k < f →
  L9_2 l p x1 (w : Int) (mn p w + mn l w) x2 (w : Int) ((2 * l.length : Nat) : Int) f (k : Int) = some (if (List.range' k (2 * l.length - k)).any (hitA l p w) then .inl () else .inr ())
 | 0, k, _, h => by omega
 | f + 1, k, hk, h => by
  unfold L9_2
  by_cases hlt : k < 2 * l.length
  ·have ih := l9_2 w hw x1 x2 f (k + 1) (by omega) (by omega)
   rw [oif_pos (by rw [decide_eq_true_eq]; omega), f44 f p k (by omega) (by omega), f44 f p w (by omega) (by omega), obind_some, obind_some, wrap_succ (by omega), ih, show 2 * l.length - k = (2 * l.length - (k + 1)) + 1 from by omega, List.range'_succ, List.any_cons, (half k).1, (half w).1, (half k).2, (half w).2, wrap_id (n := ((k / 2 : Nat) : Int)) (by omega) (by omega), wrap_id (n := ((w / 2 : Nat) : Int)) (by omega) (by omega)]
   have e1 : ((k : Int) != (w : Int)) = (k != w) := by rw [Bool.eq_iff_iff, bne_iff_ne, bne_iff_ne]; omega
   have e2 : (((k / 2 : Nat) : Int) == ((w / 2 : Nat) : Int)) = (k / 2 == w / 2) := by rw [Bool.eq_iff_iff, beq_iff_eq, beq_iff_eq]; omega
   have e3 : (((k % 2 : Nat) : Int) == ((w % 2 : Nat) : Int)) = (k % 2 == w % 2) := by rw [Bool.eq_iff_iff, beq_iff_eq, beq_iff_eq]; omega
   rw [e1, e2, e3]
   unfold hitA rel
   cases k != w <;> cases k / 2 == w / 2 <;> cases k % 2 == w % 2 <;> cases decide (mn p k ≥ mn p w) <;> cases decide (mn p k < mn p w + mn l w) <;> rfl
  ·rw [oif_neg (by rw [decide_eq_false_iff_not]; omega), show 2 * l.length - k = 0 from by omega]
   rfl
theorem l9_0 : ∀ (f k : Nat) (e : Int), k ≤ 2 * l.length → 2 * l.length - k + 40 < f →
  L9_0 l p ((2 * l.length : Nat) : Int) f e (k : Int) = some (if (List.range' k (2 * l.length - k)).any (fun w => (List.range (2 * l.length)).any (hitA l p w)) then .inl () else .inr (endF l p e (List.range' k (2 * l.length - k))))
 | 0, k, _, _, h => by omega
 | f + 1, k, e, hk, h => by
  unfold L9_0
  by_cases hlt : k < 2 * l.length
  ·have ih := l9_0 f (k + 1) (max e (mn p k + mn l k)) (by omega) (by omega)
   have e0 : IntKind.wrap .i64 (2 * (l.length : Int)) = ((2 * l.length : Nat) : Int) := by rw [wrap_id (by omega) (by omega)]; omega
   have i := l9_2 l p h8 hlen hl hp k hlt (max e (mn p k + mn l k)) ((2 * l.length : Nat) : Int) f 0 (by omega) (by omega)
   rw [Int.natCast_zero, Nat.sub_zero, ← List.range_eq_range'] at i
   rw [oif_pos (by rw [decide_eq_true_eq]; omega), f44 f p k (by omega) (by omega), obind_some, f45 f l k (by omega) hlt, obind_some, sum_ok l p h8 hlen hl hp hlt, maxL1, e0, i, obind_some, wrap_succ (by omega), show 2 * l.length - k = (2 * l.length - (k + 1)) + 1 from by omega, List.range'_succ, List.any_cons]
   cases hh : (List.range (2 * l.length)).any (hitA l p k) with
   | true => rfl
   | false =>
    simp only [Bool.false_eq_true, if_false, Bool.false_or]
    rw [ih]
    rfl
  ·rw [oif_neg (by rw [decide_eq_false_iff_not]; omega), show 2 * l.length - k = 0 from by omega]
   rfl
theorem l10_3 (a : Nat) (ha : a < 2 * l.length) : ∀ (f k : Nat), k ≤ a → a - k < f →
  L10_3 l p (a : Int) f (k : Int) = some (if (List.range' k (a - k)).any (hitB l p a) then .inl () else .inr ())
 | 0, k, _, h => by omega
 | f + 1, k, hk, h => by
  unfold L10_3
  by_cases hlt : k < a
  ·have ih := l10_3 a ha f (k + 1) (by omega) (by omega)
   rw [oif_pos (by rw [decide_eq_true_eq]; omega), f46 f p a (by omega) (by omega), f46 f p k (by omega) (by omega), f47 f l k (by omega) (by omega), f47 f l a (by omega) (by omega)]
   simp only [obind_some]
   rw [sum_ok l p h8 hlen hl hp (w := k) (by omega), sum_ok l p h8 hlen hl hp ha, wrap_succ (by omega), ih, show a - k = (a - (k + 1)) + 1 from by omega, List.range'_succ, List.any_cons, (half k).1, (half a).1, (half k).2, (half a).2, wrap_id (n := ((k / 2 : Nat) : Int)) (by omega) (by omega), wrap_id (n := ((a / 2 : Nat) : Int)) (by omega) (by omega)]
   have e2 : (((a / 2 : Nat) : Int) != ((k / 2 : Nat) : Int)) = !(k / 2 == a / 2) := by rw [Bool.eq_iff_iff, bne_iff_ne, Bool.not_eq_true', beq_eq_false_iff_ne]; omega
   have e3 : (((a % 2 : Nat) : Int) != ((k % 2 : Nat) : Int)) = !(k % 2 == a % 2) := by rw [Bool.eq_iff_iff, bne_iff_ne, Bool.not_eq_true', beq_eq_false_iff_ne]; omega
   rw [e2, e3]
   unfold hitB rel
   cases k / 2 == a / 2 <;> cases k % 2 == a % 2 <;> cases decide (mn p a < mn p k + mn l k) <;> cases decide (mn p k < mn p a + mn l a) <;> rfl
  ·rw [oif_neg (by rw [decide_eq_false_iff_not]; omega), show a - k = 0 from by omega]
   rfl
theorem l10_1 : ∀ (f k : Nat), k ≤ 2 * l.length → 2 * l.length - k + 40 < f →
  L10_1 l p f (k : Int) = some (if (List.range' k (2 * l.length - k)).any (fun a => (List.range a).any (hitB l p a)) then .inl () else .inr ())
 | 0, k, _, h => by omega
 | f + 1, k, hk, h => by
  unfold L10_1
  have e0 : IntKind.wrap .i64 (2 * (l.length : Int)) = ((2 * l.length : Nat) : Int) := by rw [wrap_id (by omega) (by omega)]; omega
  by_cases hlt : k < 2 * l.length
  ·have ih := l10_1 f (k + 1) (by omega) (by omega)
   have i := l10_3 l p h8 hlen hl hp k hlt f 0 (by omega) (by omega)
   rw [Int.natCast_zero, Nat.sub_zero, ← List.range_eq_range'] at i
   rw [e0, oif_pos (by rw [decide_eq_true_eq]; omega), i, obind_some, wrap_succ (by omega), show 2 * l.length - k = (2 * l.length - (k + 1)) + 1 from by omega, List.range'_succ, List.any_cons]
   cases hh : (List.range k).any (hitB l p k) with
   | true => rfl
   | false =>
    simp only [Bool.false_eq_true, if_false, Bool.false_or]
    rw [ih]
  ·rw [e0, oif_neg (by rw [decide_eq_false_iff_not]; omega), show 2 * l.length - k = 0 from by omega]
   rfl
theorem l48 : ∀ (f k : Nat) (e : Int), k ≤ 2 * l.length → 2 * l.length - k < f → L48_0 l p f e (k : Int) = some (endF l p e (List.range' k (2 * l.length - k)))
 | 0, k, _, _, h => by omega
 | f + 1, k, e, hk, h => by
  unfold L48_0
  have e0 : IntKind.wrap .i64 (2 * (l.length : Int)) = ((2 * l.length : Nat) : Int) := by rw [wrap_id (by omega) (by omega)]; omega
  by_cases hlt : k < 2 * l.length
  ·rw [e0, oif_pos (by rw [decide_eq_true_eq]; omega), f46 f p k (by omega) (by omega), obind_some, f47 f l k (by omega) hlt, obind_some, sum_ok l p h8 hlen hl hp hlt, maxL1, wrap_succ (by omega), l48 f (k + 1) _ (by omega) (by omega), show 2 * l.length - k = (2 * l.length - (k + 1)) + 1 from by omega, List.range'_succ]
   rfl
  ·rw [e0, oif_neg (by rw [decide_eq_false_iff_not]; omega), show 2 * l.length - k = 0 from by omega]
   rfl
theorem hit_iff : ((List.range (2 * l.length)).any fun w => (List.range (2 * l.length)).any (hitA l p w)) = ((List.range (2 * l.length)).any fun a => (List.range a).any (hitB l p a)) := by
 rw [Bool.eq_iff_iff, List.any_eq_true, List.any_eq_true]
 constructor
 ·rintro ⟨w, hw, h⟩
  rw [List.any_eq_true] at h
  obtain ⟨v, hv, h⟩ := h
  rw [List.mem_range] at hw hv
  have m1 := mn_ok hl hw
  have m2 := mn_ok hl hv
  simp only [hitA, rel, Bool.and_eq_true, Bool.or_eq_true, bne_iff_ne, beq_iff_eq, decide_eq_true_eq] at h
  rcases Nat.lt_or_gt_of_ne h.1 with hlt | hlt
  ·refine ⟨w, List.mem_range.2 hw, List.any_eq_true.2 ⟨v, List.mem_range.2 hlt, ?_⟩⟩
   simp only [hitB, rel, Bool.and_eq_true, Bool.or_eq_true, beq_iff_eq, decide_eq_true_eq]
   omega
  ·refine ⟨v, List.mem_range.2 hv, List.any_eq_true.2 ⟨w, List.mem_range.2 hlt, ?_⟩⟩
   simp only [hitB, rel, Bool.and_eq_true, Bool.or_eq_true, beq_iff_eq, decide_eq_true_eq]
   omega
 ·rintro ⟨a, ha, h⟩
  rw [List.any_eq_true] at h
  obtain ⟨b, hb, h⟩ := h
  rw [List.mem_range] at ha hb
  simp only [hitB, rel, Bool.and_eq_true, Bool.or_eq_true, beq_iff_eq, decide_eq_true_eq] at h
  rcases Int.le_total (mn p a) (mn p b) with hle | hle
  ·refine ⟨a, List.mem_range.2 ha, List.any_eq_true.2 ⟨b, List.mem_range.2 (by omega), ?_⟩⟩
   simp only [hitA, rel, Bool.and_eq_true, Bool.or_eq_true, bne_iff_ne, beq_iff_eq, decide_eq_true_eq]
   omega
  ·refine ⟨b, List.mem_range.2 (by omega), List.any_eq_true.2 ⟨a, List.mem_range.2 ha, ?_⟩⟩
   simp only [hitA, rel, Bool.and_eq_true, Bool.or_eq_true, bne_iff_ne, beq_iff_eq, decide_eq_true_eq]
   omega
end
theorem l10_0 (l L : List (Int × Int)) (hl : L.length ≤ 1000000) : ∀ (f k : Nat), k ≤ L.length → L.length - k < f → L10_0 l L f (k : Int) = some (if (L.drop k).any (badJ 0 100000) then .inl () else .inr ())
 | 0, k, _, h => by omega
 | f + 1, k, hk, h => by
  unfold L10_0
  by_cases hlt : k < L.length
  ·have ih := l10_0 l L hl f (k + 1) (by omega) (by omega)
   rw [oif_pos (by simpa using hlt), sg_ge hlt, obind_some, List.drop_eq_getElem_cons hlt, List.any_cons, wrap_succ (by omega), ih, badJ_eq]
   simp only [oif_dec]
   by_cases h1 : L[k].1 < 0
   ·simp [h1]
   ·by_cases h2 : L[k].1 > 100000
    ·simp [h1, h2]
    ·by_cases h3 : L[k].2 < 0
     ·simp [h1, h2, h3]
     ·by_cases h4 : L[k].2 > 100000
      ·simp [h1, h2, h3, h4]
      ·simp only [h1, h2, h3, h4, if_false, decide_false, Bool.false_or]
  ·rw [oif_neg (by simpa using hlt)]
   have : k = L.length := by omega
   subst this
   simp
def ckp (l p : List (Int × Int)) : Int × Int := if chk l ≠ 0 then (0, chk l) else if p.length ≠ l.length then (0, 15) else if p.any (badJ 0 100000) then (0, 3) else
 if (List.range (2 * l.length)).any (fun a => (List.range a).any (hitB l p a)) then (0, 16) else (endF l p 0 (List.range (2 * l.length)), 0)
theorem f9 (fuel : Nat) (l p : List (Int × Int)) (hl : l.length ≤ 12) (hp : p.length ≤ 12) (hf : 200 ≤ fuel) : F9 fuel l p = some (ckp l p) := by
 unfold F9 ckp
 rw [f13 fuel l hl (by omega), obind_some, oif_ite]
 by_cases h : chk l = 0
 ·obtain ⟨h1, h8, hv⟩ := chk0 h
  rw [if_neg (by simp [h]), if_neg (by simp [h]), oif_ite]
  by_cases h2 : p.length = l.length
  ·rw [if_neg (by simp; omega), if_neg (by omega), f43 fuel p (by omega) (by omega), obind_some]
   cases hb : p.any (badJ 0 100000) with
   | true => rfl
   | false =>
    have := l9_0 l p h8 h2 hv hb fuel 0 0 (by omega) (by omega)
    rw [Int.natCast_zero, Nat.sub_zero, ← List.range_eq_range', hit_iff l p h8 h2 hv hb] at this
    have e0 : IntKind.wrap .i64 (2 * (l.length : Int)) = ((2 * l.length : Nat) : Int) := by rw [wrap_id (by omega) (by omega)]; omega
    rw [oif_f, e0, this, obind_some]
    cases (List.range (2 * l.length)).any (fun a => (List.range a).any (hitB l p a)) <;> rfl
  ·rw [if_pos (by simp; omega), if_pos h2]
 ·rw [if_pos (by simpa using h), if_pos h]
theorem f10 (fuel : Nat) (l p : List (Int × Int)) (hl : l.length ≤ 12) (hp : p.length ≤ 12) (hf : 200 ≤ fuel) : F10 fuel l p = some (ckp l p) := by
 unfold F10 ckp
 rw [f14 fuel l hl (by omega), obind_some, oif_ite]
 by_cases h : chk l = 0
 ·obtain ⟨h1, h8, hv⟩ := chk0 h
  rw [if_neg (by simp [h]), if_neg (by simp [h]), oif_ite]
  by_cases h2 : p.length = l.length
  ·have i := l10_0 l p (by omega) fuel 0 (by omega) (by omega)
   rw [Int.natCast_zero, List.drop_zero] at i
   rw [if_neg (by simp; omega), if_neg (by omega), i, obind_some]
   cases hb : p.any (badJ 0 100000) with
   | true => rfl
   | false =>
    have := l10_1 l p h8 h2 hv hb fuel 0 (by omega) (by omega)
    rw [Int.natCast_zero, Nat.sub_zero, ← List.range_eq_range'] at this
    simp only [Bool.false_eq_true, if_false]
    rw [this, obind_some]
    cases (List.range (2 * l.length)).any (fun a => (List.range a).any (hitB l p a)) with
    | true => rfl
    | false =>
     have e := l48 l p h8 h2 hv hb fuel 0 0 (by omega) (by omega)
     rw [Int.natCast_zero, Nat.sub_zero, ← List.range_eq_range'] at e
     simp only [Bool.false_eq_true, if_false]
     unfold F48
     rw [e, obind_some]; rfl
  ·rw [if_pos (by simp; omega), if_pos h2]
 ·rw [if_pos (by simpa using h), if_pos h]
def lastF (l p : List (Int × Int)) (b : Nat) (e : Int) (is : List Nat) : Int := is.foldl (fun e i => max e (mn p (2 * i + b) + mn l (2 * i + b))) e
def sumF (l : List (Int × Int)) (b : Nat) (e : Int) (is : List Nat) : Int := is.foldl (fun e i => e + mn l (2 * i + b)) e
theorem at_b {n k b : Nat} (hn : n ≤ 8) (hk : k < n) (hb : b < 2) : IntKind.wrap .i64 ((IntKind.wrap .i64 (2 * (k : Int))) + (b : Int)) = ((2 * k + b : Nat) : Int) := by
 rw [wrap_id (n := 2 * (k : Int)) (by omega) (by omega), wrap_id (by omega) (by omega)]; omega
theorem l11_0 (l p : List (Int × Int)) (h8 : l.length ≤ 8) (hlen : p.length = l.length) (hl : l.any (badJ 1 500) = false) (hp : p.any (badJ 0 100000) = false) (b : Nat) (hb : b < 2) : ∀ (f k : Nat) (e : Int), k ≤ l.length → l.length - k < f →
  L11_0 l p (b : Int) (l.length : Int) f e (k : Int) = some (lastF l p b e (List.range' k (l.length - k)))
 | 0, k, _, _, h => by omega
 | f + 1, k, e, hk, h => by
  unfold L11_0
  by_cases hlt : k < l.length
  ·rw [oif_pos (by simpa using hlt), at_b h8 hlt hb, f44 f p (2 * k + b) (by omega) (by omega), obind_some, f45 f l (2 * k + b) (by omega) (by omega), obind_some, sum_ok l p h8 hlen hl hp (by omega), maxL1, wrap_succ (by omega), l11_0 l p h8 hlen hl hp b hb f (k + 1) _ (by omega) (by omega), show l.length - k = (l.length - (k + 1)) + 1 from by omega, List.range'_succ]
   rfl
  ·rw [oif_neg (by simpa using hlt), show l.length - k = 0 from by omega]
   rfl
theorem l12_0 (l p : List (Int × Int)) (h8 : l.length ≤ 8) (hlen : p.length = l.length) (hl : l.any (badJ 1 500) = false) (hp : p.any (badJ 0 100000) = false) (b : Nat) (hb : b < 2) : ∀ (f k : Nat) (e : Int), k ≤ l.length → l.length - k < f →
  L12_0 l p (b : Int) f e (k : Int) = some (lastF l p b e (List.range' k (l.length - k)))
 | 0, k, _, _, h => by omega
 | f + 1, k, e, hk, h => by
  unfold L12_0
  by_cases hlt : k < l.length
  ·rw [oif_pos (by simpa using hlt), at_b h8 hlt hb, f46 f p (2 * k + b) (by omega) (by omega), obind_some, f47 f l (2 * k + b) (by omega) (by omega), obind_some, sum_ok l p h8 hlen hl hp (by omega), maxL1, wrap_succ (by omega), l12_0 l p h8 hlen hl hp b hb f (k + 1) _ (by omega) (by omega), show l.length - k = (l.length - (k + 1)) + 1 from by omega, List.range'_succ]
   rfl
  ·rw [oif_neg (by simpa using hlt), show l.length - k = 0 from by omega]
   rfl
theorem mn_bore {l : List (Int × Int)} {k : Nat} (h : k < l.length) : mn l (2 * k + 0) = l[k].1 ∧ mn l (2 * k + 1) = l[k].2 := by
 unfold mn
 have e1 : (2 * k + 0) / 2 = k := by omega
 have e2 : (2 * k + 1) / 2 = k := by omega
 have e3 : (2 * k + 0) % 2 = 0 := by omega
 have e4 : (2 * k + 1) % 2 = 1 := by omega
 rw [e1, e2, e3, e4, if_pos rfl, if_neg (by omega)]
 simp [List.getD, h]
theorem l49 (l : List (Int × Int)) (h8 : l.length ≤ 8) (hl : l.any (badJ 1 500) = false) : ∀ (f k : Nat) (a b : Int), k ≤ l.length → l.length - k < f → 0 ≤ a → a ≤ 500 * k → 0 ≤ b → b ≤ 500 * k →
  L49_0 l (l.length : Int) f (k : Int) a b = some (sumF l 0 a (List.range' k (l.length - k)), sumF l 1 b (List.range' k (l.length - k)))
 | 0, k, _, _, _, h, _, _, _, _ => by omega
 | f + 1, k, a, b, hk, h, ha, ha2, hb, hb2 => by
  unfold L49_0
  by_cases hlt : k < l.length
  ·obtain ⟨a1, a2, a3, a4⟩ := job_ok hl (List.getElem_mem hlt)
   rw [oif_pos (by simpa using hlt), sg_ge hlt, obind_some, wrap_id (n := a + l[k].1) (by omega) (by omega), wrap_id (n := b + l[k].2) (by omega) (by omega), wrap_succ (by omega), l49 l h8 hl f (k + 1) _ _ (by omega) (by omega) (by omega) (by omega) (by omega) (by omega), show l.length - k = (l.length - (k + 1)) + 1 from by omega, List.range'_succ]
   unfold sumF
   rw [List.foldl_cons, List.foldl_cons, (mn_bore hlt).1, (mn_bore hlt).2]
  ·rw [oif_neg (by simpa using hlt), show l.length - k = 0 from by omega]
   rfl
theorem l50 (l : List (Int × Int)) (h8 : l.length ≤ 8) (hl : l.any (badJ 1 500) = false) (b : Nat) (hb : b < 2) : ∀ (f k : Nat) (a : Int), k ≤ l.length → l.length - k < f → 0 ≤ a → a ≤ 500 * k →
  L50_0 l (b : Int) f a (k : Int) = some (sumF l b a (List.range' k (l.length - k)))
 | 0, k, _, _, h, _, _ => by omega
 | f + 1, k, a, hk, h, ha, ha2 => by
  unfold L50_0
  by_cases hlt : k < l.length
  ·have m := mn_ok hl (w := 2 * k + b) (by omega)
   rw [oif_pos (by simpa using hlt), at_b h8 hlt hb, f47 f l (2 * k + b) (by omega) (by omega), obind_some, wrap_id (n := a + mn l (2 * k + b)) (by omega) (by omega), wrap_succ (by omega), l50 l h8 hl b hb f (k + 1) _ (by omega) (by omega) (by omega) (by omega), show l.length - k = (l.length - (k + 1)) + 1 from by omega, List.range'_succ]
   rfl
  ·rw [oif_neg (by simpa using hlt), show l.length - k = 0 from by omega]
   rfl
def idl (l p : List (Int × Int)) (b : Int) : Int × Int := if (ckp l p).2 ≠ 0 then (0, (ckp l p).2) else if b < 0 ∨ b > 1 then (0, 2) else
 (IntKind.wrap .i64 (lastF l p b.toNat 0 (List.range l.length) - sumF l b.toNat 0 (List.range l.length)), 0)
theorem ckp0 {l p : List (Int × Int)} (h : (ckp l p).2 = 0) : chk l = 0 ∧ p.length = l.length ∧ p.any (badJ 0 100000) = false := by
 unfold ckp at h
 split at h
 ·rename_i h1; exact absurd h h1
 ·rename_i h1
  split at h
  ·cases h
  ·rename_i h2
   split at h
   ·cases h
   ·rename_i h3
    exact ⟨by omega, by omega, by simpa using h3⟩
theorem f12 (fuel : Nat) (l p : List (Int × Int)) (b : Int) (hl : l.length ≤ 12) (hp : p.length ≤ 12) (hf : 200 ≤ fuel) : F12 fuel l p b = some (idl l p b) := by
 unfold F12 idl
 rw [f10 fuel l p hl hp hf, obind_some, oif_ite]
 by_cases h : (ckp l p).2 = 0
 ·obtain ⟨hc, h2, hb⟩ := ckp0 h
  obtain ⟨h1, h8, hv⟩ := chk0 hc
  rw [if_neg (by simp [h]), if_neg (by simp [h])]
  simp only [oif_dec]
  by_cases b1 : b < 0
  ·rw [if_pos b1, if_pos (Or.inl b1)]
  ·by_cases b2 : b > 1
   ·rw [if_neg b1, if_pos b2, if_pos (Or.inr b2)]
   ·rw [if_neg b1, if_neg b2, if_neg (by omega)]
    obtain ⟨n, rfl⟩ := Int.eq_ofNat_of_zero_le (show 0 ≤ b by omega)
    have i1 := l12_0 l p h8 h2 hv hb n (by omega) fuel 0 0 (by omega) (by omega)
    have i2 := l50 l h8 hv n (by omega) fuel 0 0 (by omega) (by omega) (by omega) (by omega)
    rw [Int.natCast_zero, Nat.sub_zero, ← List.range_eq_range'] at i1 i2
    unfold F50
    rw [i1, obind_some, i2]; rfl
 ·rw [if_pos (by simpa using h), if_pos h]
theorem f11 (fuel : Nat) (l p : List (Int × Int)) (b : Int) (hl : l.length ≤ 12) (hp : p.length ≤ 12) (hf : 200 ≤ fuel) : F11 fuel l p b = some (idl l p b) := by
 unfold F11 idl
 rw [f9 fuel l p hl hp hf, obind_some, oif_ite]
 by_cases h : (ckp l p).2 = 0
 ·obtain ⟨hc, h2, hb⟩ := ckp0 h
  obtain ⟨h1, h8, hv⟩ := chk0 hc
  rw [if_neg (by simp [h]), if_neg (by simp [h]), f42 _ _ _ _ (by simp) (by simp; omega), obind_some]
  simp only [outR, List.any_cons, List.any_nil, Bool.or_false]
  by_cases hbb : b < 0 ∨ b > 1
  ·rw [if_pos hbb, oif_neg (by
    rcases hbb with h | h
    ·simp [h]
    ·simp [h])]
  ·rw [if_neg hbb, oif_pos (by
    have a1 : ¬ b < 0 := by omega
    have a2 : ¬ b > 1 := by omega
    simp [a1, a2])]
   obtain ⟨n, rfl⟩ := Int.eq_ofNat_of_zero_le (show 0 ≤ b by omega)
   have i1 := l11_0 l p h8 h2 hv hb n (by omega) fuel 0 0 (by omega) (by omega)
   have i2 := l49 l h8 hv fuel 0 0 0 (by omega) (by omega) (by omega) (by omega) (by omega) (by omega)
   rw [Int.natCast_zero, Nat.sub_zero, ← List.range_eq_range'] at i1 i2
   unfold F49
   rw [i1, obind_some, i2, obind_some, obind_some]
   rcases (show n = 0 ∨ n = 1 by omega) with rfl | rfl <;> rfl
 ·rw [if_pos (by simpa using h), if_pos h]
theorem l15 (l : List (Int × Int)) (hl : l.length ≤ 1000000) : ∀ (f k : Nat), k ≤ l.length → l.length - k < f → L15_0 l l f (k : Int) = some (.inr ())
 | 0, k, _, h => by omega
 | f + 1, k, hk, h => by
  unfold L15_0
  by_cases hlt : k < l.length
  ·rw [oif_pos (by simpa using hlt), sg_ge hlt, obind_some, obind_some, oif_neg (by simp), wrap_succ (by omega)]
   exact l15 l hl f (k + 1) (by omega) (by omega)
  ·rw [oif_neg (by simpa using hlt)]
theorem f15 (fuel : Nat) (l : List (Int × Int)) (hl : l.length ≤ 1000000) (hf : l.length < fuel) : F15 fuel l l = some true := by
 unfold F15
 have := l15 l hl fuel 0 (by omega) (by omega)
 rw [Int.natCast_zero] at this
 rw [oif_neg (by simp), this]
 rfl
theorem f16 (fuel : Nat) (l : List (Int × Int)) (hl : l.length ≤ 1000000) (hf : l.length < fuel) : F16 fuel l l = some true := by
 have hg : ∀ (f k : Nat), k ≤ l.length → l.length - k < f → L16_0 l l f (k : Int) = some (.inr ()) := by
  intro f
  induction f with
  | zero => intro k _ h; omega
  | succ f ih =>
   intro k hk h
   unfold L16_0
   by_cases hlt : k < l.length
   ·rw [oif_pos (by simpa using hlt), sg_ge hlt, obind_some, obind_some, oif_neg (by simp), wrap_succ (by omega)]
    exact ih (k + 1) (by omega) (by omega)
   ·rw [oif_neg (by simpa using hlt)]
 unfold F16
 have := hg fuel 0 (by omega) (by omega)
 rw [Int.natCast_zero] at this
 rw [oif_neg (by simp), this]
 rfl
theorem f7 (fuel : Nat) (l : List (Int × Int)) : F7 fuel l = some (decide (l.length > 12)) := by
 unfold F7
 rw [oif_bool]
 congr 1
 simp only [decide_eq_decide]; omega
theorem law3 (l p : List (Int × Int)) (b : Int) : F3 1000 l p b = some true := by
 unfold F3
 rw [f7, obind_some]
 by_cases h : l.length > 12
 ·rw [oif_pos (by simpa using h), f8k]; rfl
 ·rw [oif_neg (by simpa using h)]
  by_cases h2 : (p.length : Int) > 12
  ·rw [oif_pos (by simpa using h2), f8k]; rfl
  ·rw [oif_neg (by simpa using h2)]
   have hl : l.length ≤ 12 := by omega
   have hp : p.length ≤ 12 := by omega
   have k1 := f9 1000 l p hl hp (by omega)
   have k2 := f10 1000 l p hl hp (by omega)
   have k3 := f11 1000 l p b hl hp (by omega)
   have k4 := f12 1000 l p b hl hp (by omega)
   have k5 := f13 1000 l hl (by omega)
   have k6 := f14 1000 l hl (by omega)
   have k7 := f15 1000 l (by omega) (by omega)
   have k8 := f16 1000 p (by omega) (by omega)
   have k9 := f8k
   cases l with
   | nil =>
    cases p with
    | nil => simp only [List.isEmpty_nil, oif_t, k1, k2, k3, k4, k5, k6, k7, k8, k9, obind_some, beq_self_eq_true]
    | cons y p =>
     have hs3 : decide ((List.length (List.map e60 (y :: p))) * 16 ≤ 140737488355328) = true := by rw [decide_eq_true_eq, List.length_map]; omega
     simp only [List.isEmpty_nil, List.isEmpty_cons, oif_f, hs3, oif_t, k1, k2, k3, k4, k5, k6, k7, k8, k9, obind_some, beq_self_eq_true]
   | cons x l =>
    have hs2 : decide ((List.length (List.map e70 (x :: l))) * 16 ≤ 140737488355328) = true := by rw [decide_eq_true_eq, List.length_map]; omega
    cases p with
    | nil => simp only [List.isEmpty_nil, List.isEmpty_cons, oif_f, hs2, oif_t, k1, k2, k3, k4, k5, k6, k7, k8, k9, obind_some, beq_self_eq_true]
    | cons y p =>
     have hs3 : decide ((List.length (List.map e60 (y :: p))) * 16 ≤ 140737488355328) = true := by rw [decide_eq_true_eq, List.length_map]; omega
     simp only [List.isEmpty_cons, oif_f, hs2, hs3, oif_t, k1, k2, k3, k4, k5, k6, k7, k8, k9, obind_some, beq_self_eq_true]
end Go.Idl.N
