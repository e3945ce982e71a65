/-
  Part G of a proof: plain laws of the natives.
-/
import Derived.Test.YteplblnmhmdpnaaF
import Derived.Test.YteplblnmhmdpnaaProg
set_option linter.unusedSimpArgs false
set_option linter.unusedVariables false
namespace Go.Idl.N
open Go Go.Idl
def bad (pl : Int) (v : Int × Int) : Bool := decide (v.1 < 0) || decide (v.1 ≥ v.2) || decide (v.2 ≥ pl)
def chk (r : Int × List (Int × Int)) : Int := if r.1 < 1 ∨ r.1 > 8 ∨ r.2.length > 40 then 6 else if r.2.any (bad r.1) then 2 else 0
theorem l12 (pl : Int) (L : List (Int × Int)) (hl : L.length ≤ 1000000) : ∀ (f k : Nat), k ≤ L.length → L.length - k < f → L12_0 pl L f (k : Int) = some (if (L.drop k).any (bad pl) then .inl () else .inr ())
  | 0, k, _, h => by omega
  | f + 1, k, hk, h => by
    unfold L12_0
    by_cases hlt : k < L.length
    · have ih := l12 pl L hl f (k + 1) (by omega) (by omega)
      rw [oif_pos (by simpa using hlt), sg_ge hlt, obind_some, List.drop_eq_getElem_cons hlt, List.any_cons, wrap_succ (by omega), ih]
      simp only [oif_dec, bad]
      by_cases h1 : L[k].1 < 0
      · simp [h1]
      · by_cases h2 : L[k].1 ≥ L[k].2
        · simp [h1, h2]
        · by_cases h3 : L[k].2 ≥ pl
          · simp [h1, h2, h3]
          · simp only [h1, h2, h3, if_false, decide_false, Bool.false_or, Bool.or_false]
    · rw [oif_neg (by simpa using hlt)]
      have : k = L.length := by omega
      subst this
      simp
theorem f12 (fuel : Nat) (r : Int × List (Int × Int)) (hf : 60 ≤ fuel) : F12 fuel r = some (chk r) := by
  unfold F12 chk
  simp only [oif_dec]
  by_cases h1 : r.1 < 1
  · simp [h1]
  · by_cases h2 : r.1 > 8
    · simp [h1, h2]
    · by_cases h3 : (r.2.length : Int) > 40
      · have : r.2.length > 40 := by omega
        simp [h1, h2, h3, this]
      · have h4 : ¬ (r.2.length > 40) := by omega
        have := l12 r.1 r.2 (by omega) fuel 0 (by omega) (by omega)
        rw [Int.natCast_zero] at this
        rw [this]
        simp only [h1, h2, h3, h4, if_false, false_or, List.drop_zero]
        cases List.any r.2 (bad r.1) <;> rfl
theorem f62 (fuel : Nat) (n lo hi : Int) : F62 fuel n lo hi = some (decide (n < lo) || decide (n > hi)) := by
  unfold F62
  simp only [oif_dec]
  by_cases h1 : n < lo
  · simp [h1]
  · by_cases h2 : n > hi <;> simp [h1, h2]
theorem l68 (v0 : List Int) (lo hi : Int) (hl : v0.length ≤ 1000000) : ∀ (f k : Nat), k ≤ v0.length → v0.length - k < f → ∃ y, L68_0 v0 lo hi (v0.length : Int) f (k : Int) = some y ∧
    (match y with | .inl i => 0 ≤ i ∧ (v0.drop k).any (fun n => decide (n < lo) || decide (n > hi)) = true | .inr _ => (v0.drop k).any (fun n => decide (n < lo) || decide (n > hi)) = false)
  | 0, k, _, h => by omega
  | f + 1, k, hk, h => by
    unfold L68_0
    by_cases hlt : k < v0.length
    · obtain ⟨y, e, hy⟩ := l68 v0 lo hi hl f (k + 1) (by omega) (by omega)
      rw [oif_pos (by simpa using hlt), sg_ge hlt, obind_some, f62, obind_some, List.drop_eq_getElem_cons hlt, List.any_cons, wrap_succ (by omega), e]
      cases hc : (decide (v0[k] < lo) || decide (v0[k] > hi)) with
      | true => exact ⟨_, rfl, by omega, by simp⟩
      | false =>
        refine ⟨y, rfl, ?_⟩
        simpa using hy
    · rw [oif_neg (by simpa using hlt)]
      have : k = v0.length := by omega
      subst this
      exact ⟨_, rfl, by simp⟩
theorem f61 (fuel : Nat) (l : List Int) (lo hi : Int) (hl : l.length ≤ 1000000) (hf : l.length < fuel) : F61 fuel l lo hi = some (l.any fun n => decide (n < lo) || decide (n > hi)) := by
  obtain ⟨y, e, hy⟩ := l68 l lo hi hl fuel 0 (by omega) (by omega)
  rw [Int.natCast_zero] at e
  unfold F61 F68
  rw [e, obind_some]
  cases y with
  | inl i => simp only [List.drop_zero] at hy; simp only [obind_some, oif_dec, hy.1, hy.2]; simp [hy.1]
  | inr u => simp only [List.drop_zero] at hy; simp only [obind_some, oif_dec, hy]; simp
theorem f44 (fuel : Nat) (l : List Int) (lo hi : Int) (hl : l.length ≤ 1000000) (hf : l.length < fuel) : F44 fuel lo hi l = some (!(l.any fun n => decide (n < lo) || decide (n > hi))) := by
  unfold F44
  rw [f61 fuel l lo hi hl hf, obind_some]
  cases l.any fun n => decide (n < lo) || decide (n > hi) <;> rfl
theorem f43 (fuel : Nat) (v : Int × Int) (r : Int × List (Int × Int)) (h1 : 1 ≤ r.1) (h2 : r.1 ≤ 8) (hf : 60 ≤ fuel) : F43 fuel v r = some (bad r.1 v) := by
  unfold F43
  rw [f44 _ _ _ _ (by simp) (by simp; omega), obind_some, wrap_id (by omega) (by omega)]
  simp only [oif_dec, oif_ite, bad, List.any_cons, List.any_nil]
  by_cases a1 : v.1 < 0
  · simp [a1]
  · by_cases a2 : v.1 ≥ v.2
    · by_cases a3 : v.1 > r.1 - 1 <;> by_cases a4 : v.2 < 0 <;> by_cases a5 : v.2 > r.1 - 1 <;> simp [a1, a2, a3, a4, a5]
    · by_cases a3 : v.2 ≥ r.1
      · have : v.2 > r.1 - 1 := by omega
        simp [a1, a2, a3, this]
      · have b1 : ¬ v.2 > r.1 - 1 := by omega
        have b2 : ¬ v.1 > r.1 - 1 := by omega
        have b3 : ¬ v.2 < 0 := by omega
        simp [a1, a2, a3, b1, b2, b3]
theorem l63 (v0 L : List (Int × Int)) (pl : Int) (h1 : 1 ≤ pl) (h2 : pl ≤ 8) (hl : v0.length ≤ 1000000) : ∀ (f k : Nat), k ≤ v0.length → v0.length - k + 60 < f → ∃ y, L63_0 v0 pl L (v0.length : Int) f (k : Int) = some y ∧
    (match y with | .inl i => 0 ≤ i ∧ (v0.drop k).any (bad pl) = true | .inr _ => (v0.drop k).any (bad pl) = false)
  | 0, k, _, h => by omega
  | f + 1, k, hk, h => by
    unfold L63_0
    by_cases hlt : k < v0.length
    · obtain ⟨y, e, hy⟩ := l63 v0 L pl h1 h2 hl f (k + 1) (by omega) (by omega)
      rw [oif_pos (by simpa using hlt), sg_ge hlt, obind_some, f43 _ _ _ h1 h2 (by omega), obind_some, List.drop_eq_getElem_cons hlt, List.any_cons, wrap_succ (by omega), e]
      cases hc : bad pl v0[k] with
      | true => 
        exact ⟨_, rfl, by omega, by simp⟩
      | false =>
        refine ⟨y, rfl, ?_⟩
        simpa using hy
    · rw [oif_neg (by simpa using hlt)]
      have : k = v0.length := by omega
      subst this
      exact ⟨_, rfl, by simp⟩
theorem f45 (fuel : Nat) (l : List (Int × Int)) (r : Int × List (Int × Int)) (h1 : 1 ≤ r.1) (h2 : r.1 ≤ 8) (hl : l.length ≤ 1000000) (hf : l.length + 60 < fuel) : F45 fuel l r = some (l.any (bad r.1)) := by
  obtain ⟨y, e, hy⟩ := l63 l r.2 r.1 h1 h2 hl fuel 0 (by omega) (by omega)
  rw [Int.natCast_zero] at e
  unfold F45 F63
  simp only [e, obind_some]
  cases y with
  | inl i => simp only [List.drop_zero] at hy; simp only [obind_some, oif_dec, hy.1, hy.2]; simp [hy.1]
  | inr u => simp only [List.drop_zero] at hy; simp only [obind_some, oif_dec, hy]; simp
theorem f11 (fuel : Nat) (r : Int × List (Int × Int)) (hf : 200 ≤ fuel) : F11 fuel r = some (chk r) := by
  unfold F11
  rw [f44 _ _ _ _ (by simp) (by simp; omega), obind_some]
  simp only [oif_dec, oif_ite, List.any_cons, List.any_nil, Bool.or_false]
  unfold chk
  by_cases h1 : r.1 < 1
  · simp [h1]
  · by_cases h2 : r.1 > 8
    · simp [h1, h2]
    · by_cases h3 : (r.2.length : Int) > 40
      · have : r.2.length > 40 := by omega
        simp [h1, h2, h3, this]
      · have h4 : ¬ (r.2.length > 40) := by omega
        rw [f45 _ _ _ (by show 1 ≤ r.1; omega) (by show r.1 ≤ 8; omega) (by omega) (by omega)]
        simp only [h1, h2, h3, h4, if_false, false_or, decide_false, Bool.or_false, Bool.not_false, if_true, obind_some]
        cases List.any r.2 (bad r.1) <;> rfl
def cx (w : List Int) (v : Int × Int) : List Int := if w.getD v.1.toNat 0 > w.getD v.2.toNat 0 then (w.set v.1.toNat (w.getD v.2.toNat 0)).set v.2.toNat (w.getD v.1.toNat 0) else w
def run (L : List (Int × Int)) (w : List Int) : List Int := L.foldl cx w
theorem cx_len (w : List Int) (v : Int × Int) : (cx w v).length = w.length := by unfold cx; split <;> simp
theorem run_len : ∀ (L : List (Int × Int)) (w : List Int), (run L w).length = w.length
  | [], w => rfl
  | v :: L, w => by rw [show run (v :: L) w = run L (cx w v) from rfl, run_len L, cx_len]
theorem bad_not {pl : Int} {v : Int × Int} (h : bad pl v = false) : 0 ≤ v.1 ∧ v.1 < v.2 ∧ v.2 < pl := by
  unfold bad at h
  simp only [Bool.or_eq_false_iff, decide_eq_false_iff_not] at h
  omega
theorem any_drop {pl : Int} {L : List (Int × Int)} (h : L.any (bad pl) = false) {k : Nat} (hk : k < L.length) : bad pl L[k] = false := by
  rw [List.any_eq_false] at h
  simpa using h L[k] (List.getElem_mem hk)
theorem getD_get {l : List Int} {i : Nat} (h : i < l.length) : l.getD i 0 = l[i] := by simp [h]
theorem l40 (L : List (Int × Int)) (W : List Int) (pl : Int) (hp : pl ≤ 8) (hb : L.any (bad pl) = false) (hl : L.length ≤ 1000000) : ∀ (f k : Nat) (w : List Int), k ≤ L.length → L.length - k < f → w.length = 8 →
    L40_0 L (L.length : Int) W f (k : Int) w = some (run (L.drop k) w)
  | 0, k, _, _, h, _ => by omega
  | f + 1, k, w, hk, h, hw => by
    unfold L40_0
    by_cases hlt : k < L.length
    · obtain ⟨b1, b2, b3⟩ := bad_not (any_drop hb hlt)
      rw [oif_pos (by simpa using hlt), sg_ge hlt, obind_some, oif_pos (by simpa using b1), oif_pos (by rw [decide_eq_true_eq]; omega), sg_int b1 (by omega), obind_some,
        oif_pos (by rw [decide_eq_true_eq]; omega), oif_pos (by rw [decide_eq_true_eq]; omega), sg_int (by omega) (by omega), obind_some, List.drop_eq_getElem_cons hlt, wrap_succ (by omega)]
      rw [show run (L[k] :: L.drop (k + 1)) w = run (L.drop (k + 1)) (cx w L[k]) from rfl]
      have g1 : w.getD L[k].1.toNat 0 = w[L[k].1.toNat]'(by omega) := getD_get _
      have g2 : w.getD L[k].2.toNat 0 = w[L[k].2.toNat]'(by omega) := getD_get _
      have ih := l40 L W pl hp hb hl f (k + 1) (cx w L[k]) (by omega) (by omega) (by rw [cx_len]; exact hw)
      rw [oif_dec]
      unfold cx at ih ⊢
      rw [g1, g2] at ih ⊢
      split
      · rename_i hgt
        rw [if_pos hgt] at ih
        rw [stL_int b1 (by omega), obind_some, stL_int (by omega) (by rw [List.length_set]; omega), obind_some, ih]
      · rename_i hgt
        rw [if_neg hgt] at ih
        exact ih
    · rw [oif_neg (by simpa using hlt)]
      have : k = L.length := by omega
      subst this
      simp [run]
theorem cx_mm (w : List Int) (i j : Nat) (hi : i < w.length) (hj : j < w.length) : (w.set i (minL w[i] [w[j]])).set j (maxL w[i] [w[j]]) = if w[i] > w[j] then (w.set i w[j]).set j w[i] else w := by
  rw [minL1, maxL1]
  by_cases h : w[i] > w[j]
  · have h2 : ¬ w[j] > w[i] := by omega
    have h1 : w[j] < w[i] := h
    simp only [h, h1, h2, if_true, if_false]
  · by_cases h2 : w[j] > w[i]
    · have h1 : ¬ w[j] < w[i] := h
      simp only [h, h1, h2, if_true, if_false, List.set_getElem_self]
    · have h1 : ¬ w[j] < w[i] := h
      have e : w[i] = w[j] := by omega
      simp only [h, h1, h2, if_true, if_false]
      rw [List.set_getElem_self]
      rw [e, List.set_getElem_self]
theorem l42 (L : List (Int × Int)) (pl : Int) (hb : L.any (bad pl) = false) (hl : L.length ≤ 1000000) : ∀ (f k : Nat) (w : List Int), k ≤ L.length → L.length - k < f → pl ≤ (w.length : Int) →
    L42_1 L f (k : Int) w = some (run (L.drop k) w)
  | 0, k, _, _, h, _ => by omega
  | f + 1, k, w, hk, h, hw => by
    unfold L42_1
    by_cases hlt : k < L.length
    · obtain ⟨b1, b2, b3⟩ := bad_not (any_drop hb hlt)
      rw [oif_pos (by simpa using hlt), sg_ge hlt, obind_some, oif_pos (by simpa using b1), oif_pos (by rw [decide_eq_true_eq]; omega), sg_int b1 (by omega), obind_some,
        oif_pos (by rw [decide_eq_true_eq]; omega), oif_pos (by rw [decide_eq_true_eq]; omega), sg_int (by omega) (by omega), obind_some, List.drop_eq_getElem_cons hlt, wrap_succ (by omega),
        stL_int b1 (by omega), obind_some, stL_int (by omega) (by rw [List.length_set]; omega), obind_some]
      rw [show run (L[k] :: L.drop (k + 1)) w = run (L.drop (k + 1)) (cx w L[k]) from rfl]
      have g1 : w.getD L[k].1.toNat 0 = w[L[k].1.toNat]'(by omega) := getD_get _
      have g2 : w.getD L[k].2.toNat 0 = w[L[k].2.toNat]'(by omega) := getD_get _
      have ih := l42 L pl hb hl f (k + 1) (cx w L[k]) (by omega) (by omega) (by rw [cx_len]; exact hw)
      rw [← ih]
      congr 1
      unfold cx
      rw [g1, g2]
      exact cx_mm w _ _ _ _
    · rw [oif_neg (by simpa using hlt)]
      have : k = L.length := by omega
      subst this
      simp [run]
theorem take_getD (w : List Int) {i n : Nat} (h : i < n) : (w.take n).getD i 0 = w.getD i 0 := by
  simp only [List.getD_eq_getElem?_getD, List.getElem?_take, if_pos h]
theorem cx_take (w : List Int) (v : Int × Int) (pl : Int) (h : bad pl v = false) : (cx w v).take pl.toNat = cx (w.take pl.toNat) v := by
  obtain ⟨b1, b2, b3⟩ := bad_not h
  unfold cx
  rw [take_getD w (by omega), take_getD w (by omega)]
  split
  · rw [List.take_set, List.take_set]
  · rfl
theorem run_take (pl : Int) : ∀ (L : List (Int × Int)) (w : List Int), L.any (bad pl) = false → (run L w).take pl.toNat = run L (w.take pl.toNat)
  | [], w, _ => rfl
  | v :: L, w, h => by
    simp only [List.any_cons, Bool.or_eq_false_iff] at h
    rw [show run (v :: L) w = run L (cx w v) from rfl, run_take pl L _ h.2, cx_take _ _ _ h.1]
    rfl
theorem f40 (fuel : Nat) (r : Int × List (Int × Int)) (w : List Int) (hc : chk r = 0) (hw : w.length = 8) (hf : 60 ≤ fuel) : F40 fuel r w (r.2.length : Int) = some (run r.2 w) := by
  unfold chk at hc
  have hv : ¬ (r.1 < 1 ∨ r.1 > 8 ∨ r.2.length > 40) := by intro hh; rw [if_pos hh] at hc; cases hc
  rw [if_neg hv] at hc
  have hb : r.2.any (bad r.1) = false := by cases h : r.2.any (bad r.1) <;> simp [h] at hc ⊢
  unfold F40
  have e : subL r.2 none (some (r.2.length : Int)) = some r.2 := by
    unfold subL
    rw [if_pos (And.intro (fun v h => by cases h) (fun v h => by cases h; omega))]
    simp [natO]
  have := l40 r.2 (List.replicate 8 0) r.1 (by omega) hb (by omega) fuel 0 w (by omega) (by omega) hw
  rw [Int.natCast_zero] at this
  rw [e, obind_some, this, obind_some, oif_pos (by simp [run_len, hw]), oif_pos (by simp)]
  simp
theorem chk0 {r : Int × List (Int × Int)} (hc : chk r = 0) : 1 ≤ r.1 ∧ r.1 ≤ 8 ∧ r.2.length ≤ 40 ∧ r.2.any (bad r.1) = false := by
  unfold chk at hc
  have hv : ¬ (r.1 < 1 ∨ r.1 > 8 ∨ r.2.length > 40) := by intro hh; rw [if_pos hh] at hc; cases hc
  rw [if_neg hv] at hc
  have hb : r.2.any (bad r.1) = false := by cases h : r.2.any (bad r.1) <;> simp [h] at hc ⊢
  exact ⟨by omega, by omega, by omega, hb⟩
theorem f41 (fuel : Nat) (l : List Int) (hl : l.length ≤ 1000000) : F41 fuel l = some l := by
  unfold F41
  cases l with
  | nil => rfl
  | cons a l => rw [oif_neg (List.isEmpty_cons ..), oif_pos (by rw [decide_eq_true_eq, List.length_map]; simp only [List.length_cons] at hl ⊢; omega)]
def ran (r : Int × List (Int × Int)) (p : List Int) : List Int × Int := if chk r ≠ 0 then ([], chk r) else if (p.length : Int) ≠ r.1 then ([], 15) else (run r.2 p, 0)
theorem f39 (fuel : Nat) (r : Int × List (Int × Int)) (hf : 200 ≤ fuel) : F39 fuel r = some (if chk r ≠ 0 then .inl (chk r) else .inr ()) := by
  unfold F39
  rw [f11 fuel _ hf, obind_some, oif_ite]
  by_cases h : chk r = 0
  · rw [if_neg (by simp [h]), if_neg (by simp [h])]
  · rw [if_pos (by simpa using h), if_pos h]
theorem f9 (fuel : Nat) (r : Int × List (Int × Int)) (p : List Int) (hf : 200 ≤ fuel) : F9 fuel r p = some (ran r p) := by
  unfold F9
  rw [f39 fuel _ hf, obind_some]
  unfold ran
  by_cases h : chk r = 0
  · rw [if_neg (by simpa using h), if_neg (by simpa using h)]
    obtain ⟨h1, h2, h3, h4⟩ := chk0 h
    simp only []
    by_cases hp : (p.length : Int) = r.1
    · rw [if_neg (by simpa using hp), oif_neg (by simpa using hp)]
      have hcl : (copyL (List.replicate 8 (0 : Int)) p).length = 8 := by rw [copyL_len]; simp
      have hct : (copyL (List.replicate 8 (0 : Int)) p).take r.1.toNat = p := by
        unfold copyL
        have e : Nat.min p.length (List.replicate 8 (0:Int)).length = p.length := by
          simp only [List.length_replicate]; exact Nat.min_eq_left (by omega)
        rw [e, List.take_length, List.take_append_of_le_length (by omega), List.take_of_length_le (by omega)]
      rw [oif_pos (by simp), oif_pos (by simpa using hcl), f40 fuel _ _ h hcl (by omega), obind_some, oif_pos (by rw [decide_eq_true_eq, run_len]; exact hcl), oif_pos (by rw [decide_eq_true_eq]; omega), oif_pos (by rw [decide_eq_true_eq]; show r.1 ≤ 8; omega),
        oif_pos (by rw [decide_eq_true_eq, run_len, hcl]; omega), f41 _ _ (by simp only [List.length_take, run_len, hcl]; omega), obind_some, run_take _ _ _ h4, hct]
    · rw [if_pos (by simpa using hp), oif_pos (by simpa using hp)]
  · rw [if_pos h, if_pos h]
    simp only []
    rw [oif_pos (by simpa using h)]
theorem l13 (l : List Int) (hl : l.length ≤ 1000000) : ∀ (f k : Nat), k ≤ l.length → l.length - k < f → L13_0 l l f (k : Int) = some (.inr ())
  | 0, k, _, h => by omega
  | f + 1, k, hk, h => by
    unfold L13_0
    by_cases hlt : k < l.length
    · rw [oif_pos (by simpa using hlt), sg_ge hlt, obind_some, obind_some, oif_neg (by simp), wrap_succ (by omega)]
      exact l13 l hl f (k + 1) (by omega) (by omega)
    · rw [oif_neg (by simpa using hlt)]
theorem f13 (fuel : Nat) (l : List Int) (hl : l.length ≤ 1000000) (hf : l.length < fuel) : F13 fuel l l = some true := by
  unfold F13
  have := l13 l hl fuel 0 (by omega) (by omega)
  rw [Int.natCast_zero] at this
  rw [oif_neg (by simp), this]
  rfl
theorem l14 (a : Int) (b : Int) (l : List (Int × Int)) (hl : l.length ≤ 1000000) : ∀ (f k : Nat), k ≤ l.length → l.length - k < f → L14_0 a l b l f (k : Int) = some (.inr ())
  | 0, k, _, h => by omega
  | f + 1, k, hk, h => by
    unfold L14_0
    by_cases hlt : k < l.length
    · rw [oif_pos (by simpa using hlt), sg_ge hlt, obind_some, obind_some, oif_neg (by simp), wrap_succ (by omega)]
      exact l14 a b l hl f (k + 1) (by omega) (by omega)
    · rw [oif_neg (by simpa using hlt)]
theorem f14 (fuel : Nat) (r : Int × List (Int × Int)) (hl : r.2.length ≤ 1000000) (hf : r.2.length < fuel) : F14 fuel r r = some true := by
  unfold F14
  have := l14 r.1 r.1 r.2 hl fuel 0 (by omega) (by omega)
  rw [Int.natCast_zero] at this
  rw [oif_neg (by simp), oif_neg (by simp), this]
  rfl
theorem f8 (fuel : Nat) (r : Int × List (Int × Int)) (hl : r.2.length ≤ 1000000) : F8 fuel r = some r := by
  unfold F8
  obtain ⟨a, l⟩ := r
  cases l with
  | nil => rfl
  | cons x l => rw [oif_neg (show List.isEmpty (a, x :: l).2 = false from rfl), oif_pos (by rw [decide_eq_true_eq, List.length_map]; simp only [List.length_cons] at hl ⊢; omega)]
theorem f6 (fuel : Nat) (r : Int × List (Int × Int)) : F6 fuel r = some (decide (r.2.length > 50)) := by
  unfold F6
  rw [oif_bool]
  congr 1
  simp only [decide_eq_decide]; omega
end Go.Idl.N
set_option linter.unusedSimpArgs false
set_option linter.unusedVariables false
namespace Go.Idl.N
open Go Go.Idl
theorem f7k : F7 1000 = some true := by kernel_rfl
def bitI (n j : Nat) : Int := ((n / 2 ^ j % 2 : Nat) : Int)
def pat (pl n : Nat) : List Int := (List.range pl).map fun j => bitI n (pl - 1 - j)
def pad (l : List Int) : List Int := l ++ List.replicate (8 - l.length) 0
theorem pat_len (pl n : Nat) : (pat pl n).length = pl := by simp [pat]
theorem bit01 (n j : Nat) : bitI n j = 0 ∨ bitI n j = 1 := by unfold bitI; omega
theorem pat01 {pl n : Nat} {x : Int} (h : x ∈ pat pl n) : x = 0 ∨ x = 1 := by
  unfold pat at h
  obtain ⟨j, _, rfl⟩ := List.mem_map.1 h
  exact bit01 _ _
def sortedB : List Int → Bool
  | a :: b :: l => decide (a ≤ b) && sortedB (b :: l)
  | _ => true
def incr : Nat → List Int → Int × List Int
  | 0, w => (-1, w)
  | k + 1, w => if w.getD k 0 = 1 then incr k (w.set k 0) else ((k : Int), w)
theorem incr_len : ∀ (k : Nat) (w : List Int), (incr k w).2.length = w.length
  | 0, w => rfl
  | k + 1, w => by
    unfold incr
    split
    · rw [incr_len k]; simp
    · rfl
theorem incr_lt : ∀ (k : Nat) (w : List Int), (incr k w).1 < (k : Int) ∧ -1 ≤ (incr k w).1
  | 0, w => ⟨by show (-1 : Int) < 0; omega, by show (-1 : Int) ≤ -1; omega⟩
  | k + 1, w => by
    unfold incr
    split
    · have := incr_lt k (w.set k 0); omega
    · show (k : Int) < ((k + 1 : Nat) : Int) ∧ (-1 : Int) ≤ (k : Int); omega
theorem ibits_all : ∀ m : Fin 256, ibits .and .i64 ((m.1 : Nat) : Int) 1 = ((m.1 % 2 : Nat) : Int) := by decide +kernel
theorem bit_ok {n i : Nat} (hn : n < 256) (hi : i ≤ 8) : ibits .and .i64 (Int.fdiv (n : Int) (2 ^ (min (Int.toNat (i : Int)) (IntKind.bits .i64)))) 1 = bitI n i := by
  have e1 : min (Int.toNat (i : Int)) (IntKind.bits .i64) = i := by
    show min (Int.toNat (i : Int)) 64 = i
    omega
  have e2 : Int.fdiv (n : Int) (2 ^ i) = ((n / 2 ^ i : Nat) : Int) := by
    rw [show (2:Int) ^ i = ((2 ^ i : Nat) : Int) from by simp, Int.fdiv_eq_ediv_of_nonneg _ (Int.natCast_nonneg _)]
    simp
  rw [e1, e2]
  exact ibits_all ⟨n / 2 ^ i, Nat.lt_of_le_of_lt (Nat.div_le_self _ _) hn⟩
theorem next_all : ∀ pl : Fin 9, ∀ n : Fin 256, n.1 < 2 ^ pl.1 → 1 ≤ pl.1 → (if n.1 + 1 = 2 ^ pl.1 then (incr pl.1 (pad (pat pl.1 n.1))).1 = -1 else 0 ≤ (incr pl.1 (pad (pat pl.1 n.1))).1 ∧ (incr pl.1 (pad (pat pl.1 n.1))).2.set (incr pl.1 (pad (pat pl.1 n.1))).1.toNat 1 = pad (pat pl.1 (n.1 + 1))) := by
  decide +kernel
theorem l58 (pl n : Nat) (hp : pl ≤ 8) (hn : n < 256) : ∀ (f i : Nat), i ≤ pl → pl - i < f → ∀ w : List Int, w = (List.range pl).map (fun j => if pl - 1 - j < i then bitI n (pl - 1 - j) else 0) → L58_0 (pl : Int) (n : Int) f (i : Int) w = some (pat pl n)
  | 0, i, _, h, _, _ => by omega
  | f + 1, i, hi, h, w, hw => by
    unfold L58_0
    by_cases hlt : i < pl
    · have e : IntKind.wrap .i64 (IntKind.wrap .i64 ((pl : Int) - 1) - (i : Int)) = ((pl - 1 - i : Nat) : Int) := by
        rw [wrap_id (n := (pl : Int) - 1) (by omega) (by omega), wrap_id (by omega) (by omega)]; omega
      have hwl : w.length = pl := by rw [hw]; simp
      rw [oif_pos (by simpa using hlt), oif_pos (by simp), e, oif_pos (by simp), oif_pos (by rw [decide_eq_true_eq]; omega), bit_ok hn (by omega), stL_nat (by omega), obind_some, wrap_succ (by omega)]
      refine l58 pl n hp hn f (i + 1) (by omega) (by omega) _ ?_
      rw [hw]
      apply List.ext_getElem
      · simp
      · intro j h1 h2
        simp only [List.length_map, List.length_range] at h2
        rw [List.getElem_set]
        simp only [List.getElem_map, List.getElem_range]
        by_cases hj : pl - 1 - i = j
        · rw [if_pos hj, if_pos (by omega)]
          congr 1; omega
        · rw [if_neg hj]
          by_cases hj2 : pl - 1 - j < i
          · rw [if_pos hj2, if_pos (by omega)]
          · rw [if_neg hj2, if_neg (by omega)]
    · rw [oif_neg (by simpa using hlt), hw]
      unfold pat
      congr 1
      apply List.map_congr_left
      intro j hj
      rw [List.mem_range] at hj
      rw [if_pos (by omega)]
theorem f58 (fuel pl n : Nat) (hp : pl ≤ 8) (hn : n < 256) (hf : 20 ≤ fuel) : F58 fuel (pl : Int) (n : Int) = some (pat pl n) := by
  unfold F58
  have := l58 pl n hp hn fuel 0 (by omega) (by omega) (List.replicate pl 0) (by
    apply List.ext_getElem
    · simp
    · intro j h1 h2; simp)
  rw [Int.natCast_zero] at this
  rw [oif_pos (by simp), oif_pos (by rw [decide_eq_true_eq]; omega), oif_pos (by rw [decide_eq_true_eq]; omega), Int.toNat_natCast, this, obind_some]
def ub (b : Bool) : Unit ⊕ Unit := match b with | true => .inr () | false => .inl ()
theorem sorted2 (a b : Int) (l : List Int) : sortedB (a :: b :: l) = (decide (a ≤ b) && sortedB (b :: l)) := rfl
theorem sorted_get : ∀ (l : List Int), sortedB l = true ↔ ∀ i (h : i + 1 < l.length), l[i] ≤ l[i + 1]
  | [] => by simp [sortedB]
  | [a] => by simp [sortedB]
  | a :: b :: l => by
    simp only [sortedB, Bool.and_eq_true, decide_eq_true_eq, sorted_get (b :: l)]
    constructor
    · rintro ⟨h1, h2⟩ i hi
      cases i with
      | zero => exact h1
      | succ i => exact h2 i (by simpa using hi)
    · intro h
      exact ⟨h 0 (by simp), fun i hi => h (i + 1) (by simpa using hi)⟩
theorem l46 (w : List Int) (pl : Nat) (hw : w.length = 8) (hp : pl ≤ 8) (h1 : 1 ≤ pl) : ∀ (f k : Nat), k + 1 ≤ pl → pl - k < f → L46_0 w ((pl : Int) - 1) f (k : Int) = some (ub (sortedB ((w.take pl).drop k)))
  | 0, k, _, h => by omega
  | f + 1, k, hk, h => by
    unfold L46_0
    by_cases hlt : k + 1 < pl
    · have ih := l46 w pl hw hp h1 f (k + 1) (by omega) (by omega)
      rw [oif_pos (by rw [decide_eq_true_eq]; omega), sg_ge (by omega), obind_some, oif_pos (by rw [decide_eq_true_eq]; omega), wrap_succ (by omega), sg_ge (by omega), obind_some, oif_pos (by rw [decide_eq_true_eq]; omega), ih]
      have hlen : (w.take pl).length = pl := by rw [List.length_take]; omega
      have e : (w.take pl).drop k = w[k] :: w[k + 1] :: (w.take pl).drop (k + 2) := by
        rw [List.drop_eq_getElem_cons (by omega), List.drop_eq_getElem_cons (by omega)]
        simp only [List.getElem_take]
      have e2 : (w.take pl).drop (k + 1) = w[k + 1] :: (w.take pl).drop (k + 2) := by
        rw [List.drop_eq_getElem_cons (by omega)]
        simp only [List.getElem_take]
      rw [e, e2, oif_dec, sorted2]
      by_cases hc : w[k] > w[k + 1]
      · have : decide (w[k] ≤ w[k + 1]) = false := by rw [decide_eq_false_iff_not]; omega
        rw [if_pos hc, this, Bool.false_and]; rfl
      · rw [if_neg hc]
        have : decide (w[k] ≤ w[k + 1]) = true := by rw [decide_eq_true_eq]; omega
        rw [this, Bool.true_and]
    · rw [oif_neg (by rw [decide_eq_false_iff_not]; omega)]
      have : sortedB ((w.take pl).drop k) = true := by
        rw [sorted_get]
        intro i hi
        simp only [List.length_drop, List.length_take] at hi
        omega
      rw [this]; rfl
theorem f46 (fuel : Nat) (r : Int × List (Int × Int)) (w : List Int) (hw : w.length = 8) (h1 : 1 ≤ r.1) (h2 : r.1 ≤ 8) (hf : 20 ≤ fuel) : F46 fuel r w = some (sortedB (w.take r.1.toNat)) := by
  unfold F46
  have := l46 w r.1.toNat hw (by omega) (by omega) fuel 0 (by omega) (by omega)
  rw [Int.natCast_zero, show ((r.1.toNat : Nat) : Int) = r.1 from by omega] at this
  rw [wrap_id (by omega) (by omega), this, obind_some, List.drop_zero]
  cases sortedB (w.take r.1.toNat) <;> rfl
theorem f42 (fuel : Nat) (r : Int × List (Int × Int)) (p : List Int) (h : chk r = 0) (hp : (p.length : Int) = r.1) (hf : 60 ≤ fuel) : F42 fuel r.2 p = some (run r.2 p) := by
  obtain ⟨h1, h2, h3, h4⟩ := chk0 h
  unfold F42
  have := l42 r.2 r.1 h4 (by omega) fuel 0 p (by omega) (by omega) (by omega)
  rw [Int.natCast_zero] at this
  rw [oif_neg (by cases p <;> simp at hp ⊢; omega), oif_pos (by rw [decide_eq_true_eq, List.length_map]; omega), this, obind_some, List.drop_zero]
theorem shl_all : ∀ pl : Fin 9, IntKind.wrap .i64 (1 * 2 ^ (min (Int.toNat ((pl.1 : Nat) : Int)) (IntKind.bits .i64))) = ((2 ^ pl.1 : Nat) : Int) := by decide +kernel
theorem shl_ok {x : Int} (h1 : 0 ≤ x) (h2 : x ≤ 8) : IntKind.wrap .i64 (1 * 2 ^ (min (Int.toNat x) (IntKind.bits .i64))) = ((2 ^ x.toNat : Nat) : Int) := by
  have := shl_all ⟨x.toNat, by omega⟩
  rw [show ((x.toNat : Nat) : Int) = x from by omega] at this
  exact this
theorem pow_le {pl : Nat} (h : pl ≤ 8) : 2 ^ pl ≤ 256 := Nat.pow_le_pow_right (by omega) h
def badP (r : Int × List (Int × Int)) (m : Nat) : Bool := !sortedB (run r.2 (pat r.1.toNat m))
def firstBad (r : Int × List (Int × Int)) (n : Nat) : Option Nat := (List.range' n (2 ^ r.1.toNat - n)).find? (badP r)
theorem first_end {r : Int × List (Int × Int)} {n : Nat} (h : 2 ^ r.1.toNat ≤ n) : firstBad r n = none := by
  unfold firstBad
  rw [show 2 ^ r.1.toNat - n = 0 from by omega]; rfl
theorem first_step {r : Int × List (Int × Int)} {n : Nat} (h : n < 2 ^ r.1.toNat) : firstBad r n = if badP r n then some n else firstBad r (n + 1) := by
  unfold firstBad
  rw [show 2 ^ r.1.toNat - n = (2 ^ r.1.toNat - (n + 1)) + 1 from by omega, List.range'_succ, List.find?_cons]
  cases badP r n <;> rfl
def patOf (r : Int × List (Int × Int)) : List Int × Int := if chk r ≠ 0 then ([], chk r) else match firstBad r 0 with | some m => (pat r.1.toNat m, 0) | none => ([], 5)
end Go.Idl.N
set_option linter.unusedSimpArgs false
set_option linter.unusedVariables false
namespace Go.Idl.N
open Go Go.Idl
theorem l64_1 (v1 : Int) (v1_1 : List (Int × Int)) (w1 : Int) (w2 : Int) (w2_1 : List (Int × Int)) (w3 : Int) (w3_1 : List (Int × Int)) : ∀ (k f : Nat) (w : List Int) (x : Int), x = (k : Int) - 1 → k ≤ 8 → w.length = 8 → k < f → L64_1 v1 v1_1 w1 w2 w2_1 w3 w3_1 f x w = some (incr k w)
  | _, 0, _, _, _, _, _, h => by omega
  | 0, f + 1, w, x, hx, hk, hw, hf => by
    unfold L64_1
    subst hx
    rw [oif_neg (by decide)]
    rfl
  | k + 1, f + 1, w, x, hx, hk, hw, hf => by
    have hx2 : x = (k : Int) := by omega
    subst hx2
    unfold L64_1
    have hg : w.getD k 0 = w[k] := getD_get (by omega)
    rw [oif_pos (by rw [decide_eq_true_eq]; omega), oif_pos (by rw [decide_eq_true_eq]; omega), oif_pos (by rw [decide_eq_true_eq]; omega), sg_ge (by omega), obind_some]
    unfold incr
    rw [hg]
    by_cases h1 : w[k] = 1
    · rw [oif_pos (by simpa using h1), if_pos h1, stL_nat (by omega), obind_some]
      exact l64_1 v1 v1_1 w1 w2 w2_1 w3 w3_1 k f _ _ (by rw [wrap_id (by omega) (by omega)]) (by omega) (by simpa using hw) (by omega)
    · rw [oif_neg (by simpa using h1), if_neg h1]
theorem l64_1_1 (v1 : Int) (v1_1 : List (Int × Int)) (w0 : Int) (w0_1 : List (Int × Int)) (w2 : List ((List Int) × Int)) : ∀ (k f : Nat) (w : List Int) (x : Int), x = (k : Int) - 1 → k ≤ 8 → w.length = 8 → k < f → L64_1_1 v1 v1_1 w0 w0_1 w2 f x w = some (incr k w)
  | _, 0, _, _, _, _, _, h => by omega
  | 0, f + 1, w, x, hx, hk, hw, hf => by
    unfold L64_1_1
    subst hx
    rw [oif_neg (by decide)]
    rfl
  | k + 1, f + 1, w, x, hx, hk, hw, hf => by
    have hx2 : x = (k : Int) := by omega
    subst hx2
    unfold L64_1_1
    have hg : w.getD k 0 = w[k] := getD_get (by omega)
    rw [oif_pos (by rw [decide_eq_true_eq]; omega), oif_pos (by rw [decide_eq_true_eq]; omega), oif_pos (by rw [decide_eq_true_eq]; omega), sg_ge (by omega), obind_some]
    unfold incr
    rw [hg]
    by_cases h1 : w[k] = 1
    · rw [oif_pos (by simpa using h1), if_pos h1, stL_nat (by omega), obind_some]
      exact l64_1_1 v1 v1_1 w0 w0_1 w2 k f _ _ (by rw [wrap_id (by omega) (by omega)]) (by omega) (by simpa using hw) (by omega)
    · rw [oif_neg (by simpa using h1), if_neg h1]
theorem pad_len {l : List Int} (h : l.length ≤ 8) : (pad l).length = 8 := by simp [pad]; omega
theorem pad_take {l : List Int} {n : Nat} (h : l.length = n) : (pad l).take n = l := by
  unfold pad
  rw [List.take_append_of_le_length (by omega), List.take_of_length_le (by omega)]
theorem next_pat {pl n : Nat} (hp : pl ≤ 8) (h1 : 1 ≤ pl) (hn : n < 2 ^ pl) : if n + 1 = 2 ^ pl then (incr pl (pad (pat pl n))).1 = -1 else 0 ≤ (incr pl (pad (pat pl n))).1 ∧ (incr pl (pad (pat pl n))).2.set (incr pl (pad (pat pl n))).1.toNat 1 = pad (pat pl (n + 1)) := by
  have hpw := pow_le hp
  exact next_all ⟨pl, by omega⟩ ⟨n, by omega⟩ hn h1
theorem l64_3 (p : List Int) (hp : p.length ≤ 8) (h01 : ∀ x ∈ p, x = 0 ∨ x = 1) (w1 w2 : Int) (w2_1 : List (Int × Int)) (w3 : Int) (w3_1 : List (Int × Int)) (w5 : List Int) : ∀ (f k : Nat), k ≤ p.length → p.length - k < f →
    L64_3 (p.length : Int) w1 w2 w2_1 w3 w3_1 w5 (pad p) f (k : Int) (p.take k ++ List.replicate (p.length - k) 0) = some p
  | 0, k, _, h => by omega
  | f + 1, k, hk, h => by
    unfold L64_3
    by_cases hlt : k < p.length
    · have ih := l64_3 p hp h01 w1 w2 w2_1 w3 w3_1 w5 f (k + 1) (by omega) (by omega)
      have hl : (p.take k ++ List.replicate (p.length - k) (0 : Int)).length = p.length := by simp; omega
      have hx : p[k] = 0 ∨ p[k] = 1 := h01 _ (List.getElem_mem hlt)
      have e1 : (p.take k ++ List.replicate (p.length - k) (0 : Int))[k]'(by omega) = 0 := by
        rw [List.getElem_append_right (by simp; omega)]; simp
      have e2 : (pad p)[k]'(by rw [pad_len hp]; omega) = p[k] := by
        unfold pad; rw [List.getElem_append_left hlt]
      rw [oif_pos (by simpa using hlt), oif_pos (by simp), oif_pos (by rw [decide_eq_true_eq]; omega), sg_ge (by omega), obind_some, oif_pos (by rw [decide_eq_true_eq]; omega), sg_ge (by rw [pad_len hp]; omega), obind_some, stL_nat (by omega), obind_some, wrap_succ (by omega), e1, e2,
        wrap_id (by omega) (by omega), Int.zero_add]
      have e3 : (p.take k ++ List.replicate (p.length - k) (0 : Int)).set k p[k] = p.take (k + 1) ++ List.replicate (p.length - (k + 1)) 0 := by
        rw [List.take_succ_eq_append_getElem hlt, List.set_append_right _ _ (by simp; omega), List.length_take, Nat.min_eq_left (by omega), Nat.sub_self,
          show p.length - k = (p.length - (k + 1)) + 1 from by omega, List.replicate_succ, List.set_cons_zero, List.append_assoc]; rfl
      rw [e3]; exact ih
    · rw [oif_neg (by simpa using hlt)]
      have : k = p.length := by omega
      subst this
      simp
theorem l64 (r : Int × List (Int × Int)) (h : chk r = 0) (w1 : Int) : ∀ (f n : Nat), n < 2 ^ r.1.toNat → 2 ^ r.1.toNat - n + 100 < f → L64_0 r.1 r.2 w1 r.1 r.2 r.1 r.2 f (pad (pat r.1.toNat n)) = some (match firstBad r n with | some m => .inr (pat r.1.toNat m) | none => .inl ())
  | 0, n, _, hf => by omega
  | f + 1, n, hn, hf => by
    obtain ⟨h1, h2, h3, h4⟩ := chk0 h
    have hpw := pow_le (pl := r.1.toNat) (by omega)
    have hpl : (pad (pat r.1.toNat n)).length = 8 := pad_len (by rw [pat_len]; omega)
    have hrl : (run r.2 (pad (pat r.1.toNat n))).length = 8 := by rw [run_len]; exact hpl
    unfold L64_0
    rw [oif_pos (by rw [decide_eq_true_eq]; exact hpl), oif_pos (by simp), f40 f r _ h hpl (by omega), obind_some, f46 f r _ hrl h1 h2 (by omega), obind_some,
      run_take r.1 _ _ h4, pad_take (pat_len _ _), first_step hn]
    cases hb : sortedB (run r.2 (pat r.1.toNat n)) with
    | true =>
      rw [oif_t, wrap_id (by omega) (by omega), l64_1 _ _ _ _ _ _ _ r.1.toNat f _ _ (by omega) (by omega) hpl (by omega), obind_some]
      have hnx := next_pat (pl := r.1.toNat) (n := n) (by omega) (by omega) hn
      have hlt := incr_lt r.1.toNat (pad (pat r.1.toNat n))
      simp only [badP, hb, Bool.not_true, Bool.false_eq_true, if_false]
      by_cases he : n + 1 = 2 ^ r.1.toNat
      · rw [if_pos he] at hnx
        rw [oif_pos (by rw [hnx]; rfl), first_end (by omega)]
      · rw [if_neg he] at hnx
        rw [oif_neg (by rw [decide_eq_false_iff_not]; omega), oif_pos (by rw [decide_eq_true_eq]; omega), oif_pos (by rw [decide_eq_true_eq]; omega), stL_int (by omega) (by rw [incr_len, hpl]; omega), obind_some, hnx.2]
        exact l64 r h w1 f (n + 1) (by omega) (by omega)
    | false =>
      have := l64_3 (pat r.1.toNat n) (by rw [pat_len]; omega) (fun x hx => pat01 hx) w1 r.1 r.2 r.1 r.2 (pad (pat r.1.toNat n)) f 0 (by omega) (by rw [pat_len]; omega)
      rw [pat_len, Int.natCast_zero, List.take_zero, List.nil_append, Nat.sub_zero] at this
      rw [oif_f, oif_pos (by rw [decide_eq_true_eq]; omega), oif_pos (by rw [decide_eq_true_eq]; omega), oif_pos (by rw [decide_eq_true_eq]; omega), this, obind_some]
      simp only [badP, hb, Bool.not_false, if_true]
theorem pat_zero : ∀ pl : Fin 9, pad (pat pl.1 0) = List.replicate 8 (0 : Int) := by decide +kernel
theorem f15 (fuel : Nat) (r : Int × List (Int × Int)) (hf : 400 ≤ fuel) : F15 fuel r = some (patOf r) := by
  unfold F15 patOf
  rw [f39 fuel _ (by omega), obind_some]
  by_cases h : chk r = 0
  · rw [if_neg (by simpa using h), if_neg (by simpa using h)]
    have hc := chk0 h
    have hpw := pow_le (pl := r.1.toNat) (by omega)
    have := l64 r h 0 fuel 0 (Nat.pow_pos (by omega)) (by omega)
    rw [pat_zero ⟨r.1.toNat, by omega⟩] at this
    unfold F47 G64
    simp only [obind_some]
    rw [this]
    cases firstBad r 0 <;> rfl
  · rw [if_pos h, if_pos h]
    simp only []
    rw [oif_pos (by simpa using h)]
theorem f19 (fuel : Nat) (r : Int × List (Int × Int)) (hf : 400 ≤ fuel) : F19 fuel r = some (if chk r ≠ 0 then chk r else match firstBad r 0 with | some _ => 23 | none => 0) := by
  unfold F19
  rw [f15 fuel _ hf, obind_some]
  unfold patOf
  by_cases h : chk r = 0
  · rw [if_neg (by simpa using h), if_neg (by simpa using h)]
    cases firstBad r 0 <;> rfl
  · rw [if_pos h, if_pos h]
    have : chk r = 6 ∨ chk r = 2 := by
      unfold chk at h ⊢
      split
      · exact .inl rfl
      · rename_i hh
        rw [if_neg hh] at h
        split
        · exact .inr rfl
        · rename_i h3; rw [if_neg h3] at h; exact absurd rfl h
    rcases this with e | e <;> rw [e] <;> rfl
end Go.Idl.N
set_option linter.unusedSimpArgs false
set_option linter.unusedVariables false
namespace Go.Idl.N
open Go Go.Idl
def off1 (x : Int) : Bool := decide (x < 0) || decide (x > 1)
def patChk (r : Int × List (Int × Int)) (p : List Int) : Int := if chk r ≠ 0 then chk r else if (p.length : Int) ≠ r.1 then 15 else if p.any off1 then 3 else if sortedB (run r.2 p) then 5 else 0
theorem l21 (v5 : Int) (v5_1 : List (Int × Int)) (p : List Int) (hp : p.length ≤ 8) : ∀ (f k : Nat), k ≤ p.length → p.length - k < f →
    L21_0 v5 v5_1 p (p.length : Int) f (k : Int) (p.take k ++ List.replicate (8 - k) 0) = some (pad p)
  | 0, k, _, h => by omega
  | f + 1, k, hk, h => by
    unfold L21_0
    by_cases hlt : k < p.length
    · have ih := l21 v5 v5_1 p hp f (k + 1) (by omega) (by omega)
      have hl : (p.take k ++ List.replicate (8 - k) (0 : Int)).length = 8 := by simp; omega
      rw [oif_pos (by simpa using hlt), sg_ge hlt, obind_some, oif_pos (by simp), oif_pos (by rw [decide_eq_true_eq]; omega), stL_nat (by omega), obind_some, wrap_succ (by omega)]
      have e3 : (p.take k ++ List.replicate (8 - k) (0 : Int)).set k p[k] = p.take (k + 1) ++ List.replicate (8 - (k + 1)) 0 := by
        rw [List.take_succ_eq_append_getElem hlt, List.set_append_right _ _ (by simp; omega), List.length_take, Nat.min_eq_left (by omega), Nat.sub_self,
          show 8 - k = (8 - (k + 1)) + 1 from by omega, List.replicate_succ, List.set_cons_zero, List.append_assoc]; rfl
      rw [e3]; exact ih
    · rw [oif_neg (by simpa using hlt)]
      have : k = p.length := by omega
      subst this
      unfold pad
      rw [List.take_length]
theorem f21 (fuel : Nat) (r : Int × List (Int × Int)) (p : List Int) (hf : 400 ≤ fuel) : F21 fuel r p = some (patChk r p) := by
  unfold F21 patChk
  rw [f39 fuel _ (by omega), obind_some]
  by_cases h : chk r = 0
  · rw [if_neg (by simpa using h), if_neg (by simpa using h)]
    have hc := chk0 h
    simp only []
    by_cases hp : (p.length : Int) = r.1
    · rw [if_neg (by simpa using hp), oif_neg (by simpa using hp), f44 fuel _ _ _ (by omega) (by omega), obind_some]
      have e : (p.any fun n => decide (n < 0) || decide (n > 1)) = p.any off1 := rfl
      rw [e]
      cases ha : p.any off1 with
      | true => rw [if_pos rfl]; rfl
      | false =>
        have := l21 r.1 r.2 p (by omega) fuel 0 (by omega) (by omega)
        rw [Int.natCast_zero, List.take_zero, List.nil_append, Nat.sub_zero] at this
        have hpl : (pad p).length = 8 := pad_len (by omega)
        have hpt : (pad p).take r.1.toNat = p := pad_take (by omega)
        rw [Bool.not_false, oif_t, if_neg (by simp), this, obind_some, oif_pos (by rw [decide_eq_true_eq]; exact hpl), f40 fuel r _ h hpl (by omega), obind_some, f46 fuel r _ (by rw [run_len]; exact hpl) hc.1 hc.2.1 (by omega), obind_some, run_take r.1 _ _ hc.2.2.2, hpt]
        cases sortedB (run r.2 p) <;> rfl
    · rw [if_pos (by simpa using hp), oif_pos (by simpa using hp)]
  · rw [if_pos h, if_pos h]
    simp only []
    rw [oif_pos (by simpa using h)]
theorem l23 (l : List Int) (hl : l.length ≤ 1000000) : ∀ (f k : Nat), k ≤ l.length → l.length - k < f → L23_0 l l f (k : Int) = some (.inr ())
  | 0, k, _, h => by omega
  | f + 1, k, hk, h => by
    unfold L23_0
    by_cases hlt : k < l.length
    · rw [oif_pos (by simpa using hlt), sg_ge hlt, obind_some, obind_some, oif_neg (by simp), wrap_succ (by omega)]
      exact l23 l hl f (k + 1) (by omega) (by omega)
    · rw [oif_neg (by simpa using hlt)]
theorem f23 (fuel : Nat) (l : List Int) (hl : l.length ≤ 1000000) (hf : l.length < fuel) : F23 fuel l l = some true := by
  unfold F23
  have := l23 l hl fuel 0 (by omega) (by omega)
  rw [Int.natCast_zero] at this
  rw [oif_neg (by simp), this]
  rfl
end Go.Idl.N
set_option linter.unusedSimpArgs false
set_option linter.unusedVariables false
set_option linter.unusedSectionVars false
namespace Go.Idl.N
open Go Go.Idl
def addNew (acc : List (List Int)) (x : List Int) : List (List Int) := if x ∈ acc then acc else acc ++ [x]
def outs (r : Int × List (Int × Int)) : Nat → List (List Int)
  | 0 => []
  | n + 1 => addNew (outs r n) (run r.2 (pat r.1.toNat n))
theorem addNew_nodup {acc : List (List Int)} (h : acc.Nodup) (x : List Int) : (addNew acc x).Nodup := by
  unfold addNew
  split
  · exact h
  · rename_i hx
    rw [List.nodup_append]
    exact ⟨h, by simp, fun a ha b hb => by simp at hb; subst hb; intro e; subst e; exact hx ha⟩
theorem addNew_mem (acc : List (List Int)) (x y : List Int) : y ∈ addNew acc x ↔ y ∈ acc ∨ y = x := by
  unfold addNew
  split
  · rename_i hx
    exact ⟨.inl, fun h => h.elim id (fun e => e ▸ hx)⟩
  · simp
theorem addNew_len (acc : List (List Int)) (x : List Int) : (addNew acc x).length ≤ acc.length + 1 := by
  unfold addNew; split <;> simp
theorem outs_nodup (r : Int × List (Int × Int)) : ∀ n, (outs r n).Nodup
  | 0 => List.nodup_nil
  | n + 1 => addNew_nodup (outs_nodup r n) _
theorem outs_mem (r : Int × List (Int × Int)) : ∀ n y, y ∈ outs r n ↔ ∃ m, m < n ∧ y = run r.2 (pat r.1.toNat m)
  | 0, y => by simp [outs]
  | n + 1, y => by
    rw [outs, addNew_mem, outs_mem r n]
    constructor
    · rintro (⟨m, h1, h2⟩ | h)
      · exact ⟨m, by omega, h2⟩
      · exact ⟨n, by omega, h⟩
    · rintro ⟨m, h1, h2⟩
      by_cases e : m = n
      · subst e; exact .inr h2
      · exact .inl ⟨m, by omega, h2⟩
theorem outs_len (r : Int × List (Int × Int)) : ∀ n, (outs r n).length ≤ n
  | 0 => Nat.le_refl _
  | n + 1 => by have := addNew_len (outs r n) (run r.2 (pat r.1.toNat n)); have := outs_len r n; rw [outs]; omega
theorem outs_each (r : Int × List (Int × Int)) {n : Nat} {y : List Int} (h : y ∈ outs r n) : y.length = r.1.toNat := by
  obtain ⟨m, _, rfl⟩ := (outs_mem r n y).1 h
  rw [run_len, pat_len]
theorem f58r (fuel : Nat) (r : Int × List (Int × Int)) (h : chk r = 0) (n : Nat) (hn : n < 2 ^ r.1.toNat) (hf : 20 ≤ fuel) : F58 fuel r.1 (n : Int) = some (pat r.1.toNat n) := by
  have hc := chk0 h
  have hpw := pow_le (pl := r.1.toNat) (by omega)
  have e58 := f58 fuel r.1.toNat n (by omega) (by omega) hf
  rwa [show ((r.1.toNat : Nat) : Int) = r.1 from by omega] at e58
theorem pad_inj {a b : List Int} {n : Nat} (ha : a.length = n) (hb : b.length = n) (h : pad a = pad b) : a = b := by
  rw [← pad_take ha, ← pad_take hb, h]
theorem cx_pad (w : List Int) (v : Int × Int) (pl : Int) (hw : (w.length : Int) = pl) (h : bad pl v = false) : cx (pad w) v = pad (cx w v) := by
  obtain ⟨b1, b2, b3⟩ := bad_not h
  have g : ∀ i, i < w.length → (pad w).getD i 0 = w.getD i 0 := fun i hi => by
    unfold pad
    simp only [List.getD_eq_getElem?_getD, List.getElem?_append_left hi]
  unfold cx
  rw [g _ (by omega), g _ (by omega)]
  split
  · unfold pad
    rw [List.set_append_left _ _ (by omega), List.set_append_left _ _ (by rw [List.length_set]; omega)]
    simp
  · rfl
theorem run_pad (pl : Int) : ∀ (L : List (Int × Int)) (w : List Int), (w.length : Int) = pl → L.any (bad pl) = false → run L (pad w) = pad (run L w)
  | [], w, _, _ => rfl
  | v :: L, w, hw, h => by
    simp only [List.any_cons, Bool.or_eq_false_iff] at h
    rw [show run (v :: L) (pad w) = run L (cx (pad w) v) from rfl, cx_pad w v pl hw h.1, run_pad pl L (cx w v) (by rw [cx_len]; exact hw) h.2]
    rfl
section
variable {K V : Type} [BEq K] [LawfulBEq K]
theorem msetAt_keys (L : List (K × V)) (j : Nat) (v : V) : (msetAt L j v).map (·.1) = L.map (·.1) := by
  unfold msetAt
  split
  · rename_i p hp
    apply List.ext_getElem?
    intro i
    rw [List.getElem?_map, List.getElem?_map, List.getElem?_set]
    split
    · rename_i e; subst e
      rw [hp]
      have := (List.getElem?_eq_some_iff.1 hp).1
      simp [this]
    · rfl
  · rfl
theorem mhas_keys (L : List (K × V)) (k : K) : mhas L k = true ↔ k ∈ L.map (·.1) := by
  unfold mhas
  rw [List.any_eq_true, List.mem_map]
  constructor
  · rintro ⟨x, h1, h2⟩; exact ⟨x, h1, (eq_of_beq h2).symm⟩
  · rintro ⟨x, h1, h2⟩; exact ⟨x, h1, by rw [h2]; exact beq_self_eq_true k⟩
theorem midx_lt {L : List (K × V)} {k : K} (h : mhas L k = true) : midx L k < L.length := by
  unfold midx
  rw [List.findIdx_lt_length]
  unfold mhas at h
  rw [List.any_eq_true] at h
  exact h
theorem mget_has {L : List (K × V)} {k : K} (h : mhas L k = true) : ∃ v, mget L k = some v := by
  unfold mget
  rw [List.getElem?_eq_getElem (midx_lt h)]
  exact ⟨_, rfl⟩
theorem mdel_filter : ∀ (L : List (K × V)) (k : K), (L.map (·.1)).Nodup → mdel L k = L.filter fun p => !(k == p.1)
  | [], _, _ => rfl
  | x :: L, k, h => by
    simp only [List.map_cons, List.nodup_cons] at h
    rw [mdel_cons, List.filter_cons]
    by_cases hk : k == x.1
    · rw [if_pos hk, if_neg (by simp [hk])]
      have : k = x.1 := eq_of_beq hk
      symm
      rw [List.filter_eq_self]
      intro p hp
      have hne : ¬ k = p.1 := fun e => h.1 (by rw [← this, e]; exact List.mem_map.2 ⟨p, hp, rfl⟩)
      simpa using hne
    · rw [if_neg hk, if_pos (by simpa using hk), mdel_filter L k h.2]
theorem filter_nodup {L : List (K × V)} (p : K × V → Bool) (h : (L.map (·.1)).Nodup) : ((L.filter p).map (·.1)).Nodup :=
  List.Sublist.nodup (List.Sublist.map _ (List.filter_sublist)) h
theorem mfold_run {body : K → V → List (K × V) → Option (List (K × V) ⊕ List (K × V))} (t : K → Bool) (good : K → Prop)
    (hb : ∀ k v s, good k → (∀ p ∈ s, good p.1) → body k v s = some (.inl (if t k then mdel s k else s))) : ∀ (q s : List (K × V)), (s.map (·.1)).Nodup → (∀ p ∈ s, good p.1) → (∀ p ∈ q, good p.1) →
    mfold body (fun s => some s) q s = some (s.filter fun p => !(q.any fun e => t e.1 && (e.1 == p.1)))
  | [], s, _, _, _ => by
    unfold mfold
    congr 1
    symm
    rw [List.filter_eq_self]
    intro p _
    rfl
  | (k, v) :: q, s, hn, hs, hq => by
    unfold mfold
    have hgq : ∀ p ∈ q, good p.1 := fun p hp => hq p (List.mem_cons_of_mem _ hp)
    rw [hb k v s (hq (k, v) (List.mem_cons_self ..)) hs, obind_some]
    simp only []
    by_cases ht : t k = true
    · rw [if_pos ht, mdel_filter s k hn, mfold_run t good hb q _ (filter_nodup _ hn) (fun p hp => hs p (List.mem_filter.1 hp).1) hgq, List.filter_filter]
      congr 2
      funext p
      rw [List.any_cons]
      simp only [ht, Bool.true_and, Bool.not_or]
      rw [Bool.and_comm]
    · rw [if_neg ht, mfold_run t good hb q s hn hs hgq]
      congr 2
      funext p
      rw [List.any_cons]
      simp [ht]
theorem mfold_self {body : K → V → List (K × V) → Option (List (K × V) ⊕ List (K × V))} (t : K → Bool) (good : K → Prop)
    (hb : ∀ k v s, good k → (∀ p ∈ s, good p.1) → body k v s = some (.inl (if t k then mdel s k else s))) (s : List (K × V)) (hn : (s.map (·.1)).Nodup) (hs : ∀ p ∈ s, good p.1) :
    mfold body (fun s => some s) s s = some (s.filter fun p => !(t p.1)) := by
  rw [mfold_run t good hb s s hn hs hs]
  congr 1
  apply List.filter_congr
  intro p hp
  congr 1
  rw [Bool.eq_iff_iff, List.any_eq_true]
  constructor
  · rintro ⟨e, h1, h2⟩
    simp only [Bool.and_eq_true] at h2
    rw [← eq_of_beq h2.2]; exact h2.1
  · intro h
    exact ⟨p, hp, by rw [h, beq_self_eq_true]; rfl⟩
end
end Go.Idl.N
set_option linter.unusedSimpArgs false
set_option linter.unusedVariables false
namespace Go.Idl.N
open Go Go.Idl
theorem run_pad8 (r : Int × List (Int × Int)) (h : chk r = 0) (n : Nat) : run r.2 (pad (pat r.1.toNat n)) = pad (run r.2 (pat r.1.toNat n)) := by
  have hc := chk0 h
  exact run_pad r.1 _ _ (by rw [pat_len]; omega) hc.2.2.2
theorem outs_pad {r : Int × List (Int × Int)} {n : Nat} {y : List Int} (hy : y.length = r.1.toNat) : pad y ∈ (outs r n).map pad ↔ y ∈ outs r n := by
  rw [List.mem_map]
  constructor
  · rintro ⟨z, h1, h2⟩
    rw [← pad_inj (outs_each r h1) hy h2]; exact h1
  · intro h; exact ⟨y, h, rfl⟩
theorem all8 {W : List ((List Int) × Int)} {r : Int × List (Int × Int)} {n : Nat} (h8 : r.1.toNat ≤ 8) (hW : W.map (·.1) = (outs r n).map pad) : W.all (fun p => decide (List.length p.1 = 8)) = true := by
  rw [List.all_eq_true]
  intro p hp
  have : p.1 ∈ W.map (·.1) := List.mem_map.2 ⟨p, hp, rfl⟩
  rw [hW] at this
  obtain ⟨y, h1, h2⟩ := List.mem_map.1 this
  rw [decide_eq_true_eq, ← h2]
  exact pad_len (by rw [outs_each r h1]; exact h8)
theorem l64i (r : Int × List (Int × Int)) (h : chk r = 0) : ∀ (f n : Nat) (W : List ((List Int) × Int)), W.map (·.1) = (outs r n).map pad → n < 2 ^ r.1.toNat → 2 ^ r.1.toNat - n + 100 < f →
    ∃ W', L64_1_0 r.1 r.2 r.1 r.2 f W (pad (pat r.1.toNat n)) = some W' ∧ W'.map (·.1) = (outs r (2 ^ r.1.toNat)).map pad
  | 0, n, _, _, _, hf => by omega
  | f + 1, n, W, hW, hn, hf => by
    obtain ⟨h1, h2, h3, h4⟩ := chk0 h
    have hpw := pow_le (pl := r.1.toNat) (by omega)
    have h8 : r.1.toNat ≤ 8 := by omega
    have hpl : (pad (pat r.1.toNat n)).length = 8 := pad_len (by rw [pat_len]; omega)
    have hyl : (run r.2 (pat r.1.toNat n)).length = r.1.toNat := by rw [run_len, pat_len]
    have hrl : (pad (run r.2 (pat r.1.toNat n))).length = 8 := pad_len (by omega)
    have hnx := next_pat (pl := r.1.toNat) (n := n) (by omega) (by omega) hn
    have hlt := incr_lt r.1.toNat (pad (pat r.1.toNat n))
    have tail : ∀ W2 : List ((List Int) × Int), W2.map (·.1) = (outs r (n + 1)).map pad → ∃ W', (obind (L64_1_1 r.1 r.2 r.1 r.2 W2 f (IntKind.wrap .i64 (r.1 - 1)) (pad (pat r.1.toNat n))) fun y3 => oif ((decide (y3.1 < 0)))
        (some (W2))
        (oif (decide ((0:Int) ≤ y3.1)) (oif (decide ((y3.1 : Int) < ((8 : Nat) : Int))) (obind (stL y3.2 y3.1 1) fun x4 => L64_1_0 r.1 r.2 r.1 r.2 f W2 x4) none) none)) = some W' ∧ W'.map (·.1) = (outs r (2 ^ r.1.toNat)).map pad := by
      intro W2 hW2
      rw [wrap_id (by omega) (by omega), l64_1_1 _ _ _ _ _ r.1.toNat f _ _ (by omega) (by omega) hpl (by omega), obind_some]
      by_cases he : n + 1 = 2 ^ r.1.toNat
      · rw [if_pos he] at hnx
        rw [oif_pos (by rw [hnx]; rfl)]
        exact ⟨W2, rfl, by rw [hW2, he]⟩
      · rw [if_neg he] at hnx
        rw [oif_neg (by rw [decide_eq_false_iff_not]; omega), oif_pos (by rw [decide_eq_true_eq]; omega), oif_pos (by rw [decide_eq_true_eq]; omega), stL_int (by omega) (by rw [incr_len, hpl]; omega), obind_some, hnx.2]
        exact l64i r h f (n + 1) W2 hW2 (by omega) (by omega)
    unfold L64_1_0
    rw [oif_pos (by rw [decide_eq_true_eq]; exact hpl), oif_pos (by simp), f40 f r _ h hpl (by omega), obind_some, run_pad8 r h, oif_pos (by rw [decide_eq_true_eq]; exact hrl), oif_pos (all8 h8 hW)]
    by_cases hm : run r.2 (pat r.1.toNat n) ∈ outs r n
    · have hh : mhas W (pad (run r.2 (pat r.1.toNat n))) = true := by rw [mhas_keys, hW, outs_pad hyl]; exact hm
      obtain ⟨v, hv⟩ := mget_has hh
      rw [oif_pos hh, hv, obind_some, oif_pos (by rw [decide_eq_true_eq]; exact midx_lt hh)]
      exact tail _ (by rw [msetAt_keys, hW, outs]; unfold addNew; rw [if_pos hm])
    · have hh : mhas W (pad (run r.2 (pat r.1.toNat n))) = false := by
        rw [← Bool.not_eq_true, mhas_keys, hW, outs_pad hyl]; exact hm
      have hkeys : (W ++ [(pad (run r.2 (pat r.1.toNat n)), (0 : Int))]).map (·.1) = (outs r (n + 1)).map pad := by
        rw [List.map_append, hW, outs]; unfold addNew; rw [if_neg hm, List.map_append]; rfl
      rw [oif_neg hh, oif_pos (all8 h8 hkeys), oif_pos (by simp)]
      exact tail _ (by rw [msetAt_keys]; exact hkeys)
theorem mono_of (l : List Int) (h : sortedB l = true) : ∀ (d i : Nat) (hi : i + d < l.length), l[i] ≤ l[i + d]
  | 0, i, hi => Int.le_refl _
  | d + 1, i, hi => Int.le_trans (mono_of l h d i (by omega)) ((sorted_get l).1 h (i + d) hi)
theorem cx_sorted (w : List Int) (v : Int × Int) (pl : Int) (hw : (w.length : Int) = pl) (hv : bad pl v = false) (h : sortedB w = true) : cx w v = w := by
  obtain ⟨b1, b2, b3⟩ := bad_not hv
  have := mono_of w h (v.2.toNat - v.1.toNat) v.1.toNat (by omega)
  unfold cx
  rw [getD_get (show v.1.toNat < w.length by omega), getD_get (show v.2.toNat < w.length by omega), if_neg]
  have e : v.1.toNat + (v.2.toNat - v.1.toNat) = v.2.toNat := by omega
  simp only [e] at this
  omega
theorem run_sorted (pl : Int) : ∀ (L : List (Int × Int)) (w : List Int), (w.length : Int) = pl → L.any (bad pl) = false → sortedB w = true → run L w = w
  | [], w, _, _, _ => rfl
  | v :: L, w, hw, h, hs => by
    simp only [List.any_cons, Bool.or_eq_false_iff] at h
    rw [show run (v :: L) w = run L (cx w v) from rfl, cx_sorted w v pl hw h.1 hs]
    exact run_sorted pl L w hw h.2 hs
theorem mem_set {w : List Int} {i : Nat} {x y : Int} (h : y ∈ w.set i x) : y ∈ w ∨ y = x := List.mem_or_eq_of_mem_set h
theorem cx_mem (w : List Int) (v : Int × Int) (pl : Int) (hw : (w.length : Int) = pl) (hv : bad pl v = false) {y : Int} (h : y ∈ cx w v) : y ∈ w := by
  obtain ⟨b1, b2, b3⟩ := bad_not hv
  unfold cx at h
  rw [getD_get (show v.1.toNat < w.length by omega), getD_get (show v.2.toNat < w.length by omega)] at h
  split at h
  · rcases mem_set h with h | rfl
    · rcases mem_set h with h | rfl
      · exact h
      · exact List.getElem_mem _
    · exact List.getElem_mem _
  · exact h
theorem run_mem (pl : Int) : ∀ (L : List (Int × Int)) (w : List Int), (w.length : Int) = pl → L.any (bad pl) = false → ∀ y, y ∈ run L w → y ∈ w
  | [], w, _, _, y, h => h
  | v :: L, w, hw, hb, y, h => by
    simp only [List.any_cons, Bool.or_eq_false_iff] at hb
    exact cx_mem w v pl hw hb.1 (run_mem pl L (cx w v) (by rw [cx_len]; exact hw) hb.2 y h)
theorem pat_succ (pl n : Nat) : pat (pl + 1) n = bitI n pl :: pat pl n := by
  unfold pat
  rw [List.range_succ_eq_map, List.map_cons, List.map_map]
  congr 1
  apply List.map_congr_left
  intro j hj
  rw [List.mem_range] at hj
  show bitI n (pl + 1 - 1 - (j + 1)) = bitI n (pl - 1 - j)
  rw [show pl + 1 - 1 - (j + 1) = pl - 1 - j from by omega]
theorem bit_low {a m pl j : Nat} (hj : j < pl) : bitI (a * 2 ^ pl + m) j = bitI m j := by
  unfold bitI
  have e : a * 2 ^ pl + m = m + (a * 2 ^ (pl - j - 1) * 2) * 2 ^ j := by
    rw [Nat.mul_assoc, Nat.mul_assoc, ← Nat.pow_succ', ← Nat.pow_add, show pl - j - 1 + (j + 1) = pl from by omega]; omega
  rw [e, Nat.add_mul_div_right _ _ (Nat.pow_pos (by omega))]
  omega
theorem pat_low {a m pl : Nat} : pat pl (a * 2 ^ pl + m) = pat pl m := by
  unfold pat
  apply List.map_congr_left
  intro j hj
  rw [List.mem_range] at hj
  exact bit_low (by omega)
theorem pat_of : ∀ (l : List Int), (∀ x ∈ l, x = 0 ∨ x = 1) → ∃ m, m < 2 ^ l.length ∧ pat l.length m = l
  | [], _ => ⟨0, by simp, rfl⟩
  | x :: l, h => by
    obtain ⟨m, h1, h2⟩ := pat_of l (fun y hy => h y (List.mem_cons_of_mem _ hy))
    have key : ∀ a : Nat, a ≤ 1 → (a : Int) = x → ∃ m, m < 2 ^ (x :: l).length ∧ pat (x :: l).length m = x :: l := fun a ha hx => by
      refine ⟨a * 2 ^ l.length + m, ?_, ?_⟩
      · rw [List.length_cons, Nat.pow_succ]
        have : a * 2 ^ l.length ≤ 1 * 2 ^ l.length := Nat.mul_le_mul_right _ ha
        omega
      · rw [List.length_cons, pat_succ, pat_low, h2]
        congr 1
        unfold bitI
        rw [← hx, Nat.add_comm, Nat.add_mul_div_right _ _ (Nat.pow_pos (by omega)), Nat.div_eq_of_lt h1]
        omega
    rcases h x (List.mem_cons_self ..) with e | e
    · exact key 0 (by omega) (by rw [e]; rfl)
    · exact key 1 (by omega) (by rw [e]; rfl)
def sp (pl : Nat) : List (List Int) := ((List.range (2 ^ pl)).filter fun n => sortedB (pat pl n)).map (pat pl)
theorem sp_all : ∀ pl : Fin 9, 1 ≤ pl.1 → (sp pl.1).length = pl.1 + 1 ∧ (sp pl.1).Nodup := by decide +kernel
theorem len_sub {α : Type} [BEq α] [LawfulBEq α] : ∀ (a b : List α), a.Nodup → (∀ x, x ∈ a → x ∈ b) → a.length ≤ b.length
  | [], b, _, _ => Nat.zero_le _
  | x :: a, b, ha, h => by
    rw [List.nodup_cons] at ha
    have hx := h x (List.mem_cons_self ..)
    have := len_sub a (b.erase x) ha.2 (fun y hy => (List.mem_erase_of_ne (fun e : y = x => ha.1 (by rw [← e]; exact hy))).2 (h y (List.mem_cons_of_mem _ hy)))
    rw [List.length_erase_of_mem hx] at this
    have hpos : 0 < b.length := List.length_pos_of_mem hx
    rw [List.length_cons]
    omega
theorem perm_of {a b : List (List Int)} (ha : a.Nodup) (hb : b.Nodup) (h : ∀ x, x ∈ a ↔ x ∈ b) : a.length = b.length :=
  Nat.le_antisymm (len_sub a b ha (fun x hx => (h x).1 hx)) (len_sub b a hb (fun x hx => (h x).2 hx))
theorem outs_sorted (r : Int × List (Int × Int)) (h : chk r = 0) : ((outs r (2 ^ r.1.toNat)).filter sortedB).length = r.1.toNat + 1 := by
  obtain ⟨h1, h2, h3, h4⟩ := chk0 h
  obtain ⟨k1, k2⟩ := sp_all ⟨r.1.toNat, by omega⟩ (by show 1 ≤ r.1.toNat; omega)
  rw [← k1]
  apply perm_of (List.Sublist.nodup (List.filter_sublist) (outs_nodup r _)) k2
  intro x
  rw [List.mem_filter, outs_mem]
  unfold sp
  rw [List.mem_map]
  constructor
  · rintro ⟨⟨m, hm, rfl⟩, hs⟩
    have hl : (run r.2 (pat r.1.toNat m)).length = r.1.toNat := by rw [run_len, pat_len]
    obtain ⟨q, q1, q2⟩ := pat_of (run r.2 (pat r.1.toNat m)) (fun y hy => pat01 (run_mem r.1 _ _ (by rw [pat_len]; omega) h4 y hy))
    rw [hl] at q1 q2
    exact ⟨q, List.mem_filter.2 ⟨List.mem_range.2 q1, by rw [q2]; exact hs⟩, q2⟩
  · rintro ⟨q, hq, rfl⟩
    rw [List.mem_filter, List.mem_range] at hq
    refine ⟨⟨q, hq.1, ?_⟩, hq.2⟩
    show pat r.1.toNat q = run r.2 (pat r.1.toNat q)
    exact (run_sorted r.1 r.2 (pat r.1.toNat q) (by rw [pat_len]; omega) h4 hq.2).symm
theorem filter_two {α : Type} (p : α → Bool) : ∀ l : List α, l.length = (l.filter p).length + (l.filter fun x => !(p x)).length
  | [] => rfl
  | x :: l => by
    rw [List.filter_cons, List.filter_cons, List.length_cons, filter_two p l]
    cases p x <;> simp <;> omega
def imgs (r : Int × List (Int × Int)) : Int × Int := if chk r ≠ 0 then (0, chk r) else (((outs r (2 ^ r.1.toNat)).length : Int), 0)
theorem b17 (fuel : Nat) (r : Int × List (Int × Int)) (h : chk r = 0) (hf : 20 ≤ fuel) (k : List Int) (v : Int) (s : List ((List Int) × Int)) (hk : k.length = 8) (hs : ∀ p ∈ s, p.1.length = 8) :
    B17_0 fuel r.1 r.2 k v s = some (.inl (if sortedB (k.take r.1.toNat) = true then mdel s k else s)) := by
  have hc := chk0 h
  unfold B17_0
  rw [oif_pos (by simp), oif_pos (by rw [decide_eq_true_eq]; exact hk), f46 fuel r k hk hc.1 hc.2.1 hf, obind_some]
  cases sortedB (k.take r.1.toNat) with
  | false => rfl
  | true =>
    rw [oif_t, if_pos rfl, oif_pos (by rw [List.all_eq_true]; exact fun p hp => by rw [decide_eq_true_eq]; exact hs p hp)]
    cases hm : mhas s k with
    | true => rfl
    | false => rw [oif_f, mdel_not s k hm]
theorem f17 (fuel : Nat) (r : Int × List (Int × Int)) (hf : 800 ≤ fuel) : F17 fuel r = some (imgs r) := by
  unfold F17 imgs
  rw [f39 fuel _ (by omega), obind_some]
  by_cases h : chk r = 0
  · rw [if_neg (by simpa using h), if_neg (by simpa using h)]
    obtain ⟨h1, h2, h3, h4⟩ := chk0 h
    have hpw := pow_le (pl := r.1.toNat) (by omega)
    obtain ⟨W, e1, e2⟩ := l64i r h fuel 0 [] rfl (Nat.pow_pos (by omega)) (by omega)
    rw [pat_zero ⟨r.1.toNat, by omega⟩] at e1
    unfold F47 G64_1
    simp only [obind_some]
    rw [e1, obind_some, obind_some]
    have hW8 : ∀ p ∈ W, p.1.length = 8 := fun p hp => by
      have := all8 (show r.1.toNat ≤ 8 by omega) e2
      rw [List.all_eq_true] at this
      simpa using this p hp
    have hnd : (W.map Prod.fst).Nodup := by
      rw [show W.map Prod.fst = W.map (·.1) from rfl, e2]
      have hn := outs_nodup r (2 ^ r.1.toNat)
      rw [List.nodup_iff_pairwise_ne] at hn ⊢
      rw [List.pairwise_map]
      refine List.Pairwise.imp_of_mem ?_ hn
      intro a b ha hb hne he
      exact hne (pad_inj (outs_each r ha) (outs_each r hb) he)
    rw [oif_pos (by rw [decide_eq_true_eq]; exact hnd)]
    have hm := mfold_self (body := B17_0 fuel r.1 r.2) (fun k => sortedB (k.take r.1.toNat)) (fun k => k.length = 8) (fun k v s hk hs => b17 fuel r h (by omega) k v s hk hs) W hnd hW8
    have hz : Z17_0 fuel r.1 r.2 = fun s => some s := by funext s; rfl
    rw [hz, hm, obind_some]
    have hlen : (W.filter fun p => !(sortedB (p.1.take r.1.toNat))).length = ((outs r (2 ^ r.1.toNat)).filter fun x => !(sortedB x)).length := by
      have a1 : (W.filter fun p => !(sortedB (p.1.take r.1.toNat))).length = ((W.map (·.1)).filter fun k => !(sortedB (k.take r.1.toNat))).length := by
        rw [List.filter_map, List.length_map]; rfl
      rw [a1, e2, List.filter_map, List.length_map]
      congr 1
      apply List.filter_congr
      intro x hx
      show (!(sortedB ((pad x).take r.1.toNat))) = !(sortedB x)
      rw [pad_take (outs_each r hx)]
    have h2' := filter_two sortedB (outs r (2 ^ r.1.toNat))
    have h3' := outs_sorted r h
    have h5' := outs_len r (2 ^ r.1.toNat)
    rw [hlen, wrap_id (n := _ + r.1) (by omega) (by omega), wrap_id (by omega) (by omega)]
    congr 2
    omega
  · rw [if_pos h, if_pos h]
    simp only []
    rw [oif_pos (by simpa using h)]
end Go.Idl.N
set_option linter.unusedSimpArgs false
set_option linter.unusedVariables false
namespace Go.Idl.N
open Go Go.Idl
theorem l64_2_3 (v1 : Int) (v1_1 : List (Int × Int)) (w1 : Int) (w1_1 : List (Int × Int)) (w1_2 : Int) : ∀ (k f : Nat) (w : List Int) (x : Int), x = (k : Int) - 1 → k ≤ 8 → w.length = 8 → k < f → L64_2_3 v1 v1_1 w1 w1_1 w1_2 f x w = some (incr k w)
  | _, 0, _, _, _, _, _, h => by omega
  | 0, f + 1, w, x, hx, hk, hw, hf => by
    unfold L64_2_3
    subst hx
    rw [oif_neg (by decide)]
    rfl
  | k + 1, f + 1, w, x, hx, hk, hw, hf => by
    have hx2 : x = (k : Int) := by omega
    subst hx2
    unfold L64_2_3
    have hg : w.getD k 0 = w[k] := getD_get (by omega)
    rw [oif_pos (by rw [decide_eq_true_eq]; omega), oif_pos (by rw [decide_eq_true_eq]; omega), oif_pos (by rw [decide_eq_true_eq]; omega), sg_ge (by omega), obind_some]
    unfold incr
    rw [hg]
    by_cases h1 : w[k] = 1
    · rw [oif_pos (by simpa using h1), if_pos h1, stL_nat (by omega), obind_some]
      exact l64_2_3 v1 v1_1 w1 w1_1 w1_2 k f _ _ (by rw [wrap_id (by omega) (by omega)]) (by omega) (by simpa using hw) (by omega)
    · rw [oif_neg (by simpa using h1), if_neg h1]
theorem l64_3_5 (v1 : Int) (v1_1 : List (Int × Int)) (w1 : Int) (w1_1 : List (Int × Int)) (w1_2 : Int) (w1_3 : Int) : ∀ (k f : Nat) (w : List Int) (x : Int), x = (k : Int) - 1 → k ≤ 8 → w.length = 8 → k < f → L64_3_5 v1 v1_1 w1 w1_1 w1_2 w1_3 f x w = some (incr k w)
  | _, 0, _, _, _, _, _, h => by omega
  | 0, f + 1, w, x, hx, hk, hw, hf => by
    unfold L64_3_5
    subst hx
    rw [oif_neg (by decide)]
    rfl
  | k + 1, f + 1, w, x, hx, hk, hw, hf => by
    have hx2 : x = (k : Int) := by omega
    subst hx2
    unfold L64_3_5
    have hg : w.getD k 0 = w[k] := getD_get (by omega)
    rw [oif_pos (by rw [decide_eq_true_eq]; omega), oif_pos (by rw [decide_eq_true_eq]; omega), oif_pos (by rw [decide_eq_true_eq]; omega), sg_ge (by omega), obind_some]
    unfold incr
    rw [hg]
    by_cases h1 : w[k] = 1
    · rw [oif_pos (by simpa using h1), if_pos h1, stL_nat (by omega), obind_some]
      exact l64_3_5 v1 v1_1 w1 w1_1 w1_2 w1_3 k f _ _ (by rw [wrap_id (by omega) (by omega)]) (by omega) (by simpa using hw) (by omega)
    · rw [oif_neg (by simpa using h1), if_neg h1]
theorem f40i (fuel : Nat) (r : Int × List (Int × Int)) (w : List Int) (i : Nat) (hi : i ≤ r.2.length) (hc : chk r = 0) (hw : w.length = 8) (hf : 60 ≤ fuel) : F40 fuel r w (i : Int) = some (run (r.2.take i) w) := by
  obtain ⟨h1, h2, h3, h4⟩ := chk0 hc
  unfold F40
  have e : subL r.2 none (some (i : Int)) = some (r.2.take i) := by
    unfold subL
    rw [if_pos (And.intro (fun v h => by cases h) (fun v h => by cases h; omega))]
    simp [natO]
  have hb : (r.2.take i).any (bad r.1) = false := by
    rw [List.any_eq_false] at h4 ⊢
    exact fun x hx => h4 x (List.mem_of_mem_take hx)
  have hl : (r.2.take i).length ≤ 40 := by rw [List.length_take]; omega
  have := l40 (r.2.take i) (List.replicate 8 0) r.1 (by omega) hb (by omega) fuel 0 w (by omega) (by omega) hw
  rw [Int.natCast_zero] at this
  rw [e, obind_some, this, obind_some, oif_pos (by simp [run_len, hw]), oif_pos (by simp)]
  simp
theorem run_take_succ (L : List (Int × Int)) (w : List Int) (i : Nat) (hi : i < L.length) : run (L.take (i + 1)) w = cx (run (L.take i) w) L[i] := by
  unfold run
  rw [List.take_succ_eq_append_getElem hi, List.foldl_append]
  rfl
def nb (r : Int × List (Int × Int)) (i n : Nat) : Bool :=
  let x := run (r.2.take i) (pat r.1.toNat n)
  let v := r.2.getD i (0, 0)
  decide (x.getD v.1.toNat 0 > x.getD v.2.toNat 0)
def nbAny (r : Int × List (Int × Int)) (i n : Nat) : Bool := (List.range' n (2 ^ r.1.toNat - n)).any (nb r i)
def ndl (r : Int × List (Int × Int)) (i : Nat) : Bool := !(nbAny r i 0)
theorem nb_end {r : Int × List (Int × Int)} {i n : Nat} (h : 2 ^ r.1.toNat ≤ n) : nbAny r i n = false := by
  unfold nbAny
  rw [show 2 ^ r.1.toNat - n = 0 from by omega]; rfl
theorem nb_step {r : Int × List (Int × Int)} {i n : Nat} (h : n < 2 ^ r.1.toNat) : nbAny r i n = (nb r i n || nbAny r i (n + 1)) := by
  unfold nbAny
  rw [show 2 ^ r.1.toNat - n = (2 ^ r.1.toNat - (n + 1)) + 1 from by omega, List.range'_succ, List.any_cons]
theorem valid_at {r : Int × List (Int × Int)} (hc : chk r = 0) {i : Nat} (hi : i < r.2.length) : 0 ≤ r.2[i].1 ∧ r.2[i].1 < r.2[i].2 ∧ r.2[i].2 < r.1 := bad_not (any_drop (chk0 hc).2.2.2 hi)
theorem take_ok {r : Int × List (Int × Int)} (hc : chk r = 0) (i : Nat) : (r.2.take i).any (bad r.1) = false := by
  have h4 := (chk0 hc).2.2.2
  rw [List.any_eq_false] at h4 ⊢
  exact fun x hx => h4 x (List.mem_of_mem_take hx)
theorem getD_at {r : Int × List (Int × Int)} {i : Nat} (hi : i < r.2.length) : r.2.getD i (0, 0) = r.2[i] := by simp [hi]
theorem l52 (r : Int × List (Int × Int)) (hc : chk r = 0) (i : Nat) (hi : i < r.2.length) : ∀ (f n : Nat), n ≤ 2 ^ r.1.toNat → 2 ^ r.1.toNat - n + 100 < f → L52_0 (i : Int) r.1 r.2 f (n : Int) = some (ub (!(nbAny r i n)))
  | 0, n, _, hf => by omega
  | f + 1, n, hn, hf => by
    obtain ⟨h1, h2, h3, h4⟩ := chk0 hc
    have hpw := pow_le (pl := r.1.toNat) (by omega)
    obtain ⟨b1, b2, b3⟩ := valid_at hc hi
    unfold L52_0
    rw [oif_pos (by rw [decide_eq_true_eq]; omega), shl_ok (by omega) h2]
    by_cases hlt : n < 2 ^ r.1.toNat
    · have e : subL r.2 none (some (i : Int)) = some (r.2.take i) := by
        unfold subL
        rw [if_pos (And.intro (fun v h => by cases h) (fun v h => by cases h; omega))]
        simp [natO]
      have hct : chk (r.1, r.2.take i) = 0 := by
        unfold chk
        rw [if_neg (by show ¬ (r.1 < 1 ∨ r.1 > 8 ∨ (r.2.take i).length > 40); rw [List.length_take]; omega), if_neg (by show ¬ (r.2.take i).any (bad r.1) = true; rw [take_ok hc i]; simp)]
      have hl : (run (r.2.take i) (pat r.1.toNat n)).length = r.1.toNat := by rw [run_len, pat_len]
      have e42 : F42 f (r.2.take i) (pat r.1.toNat n) = some (run (r.2.take i) (pat r.1.toNat n)) := f42 f (r.1, r.2.take i) (pat r.1.toNat n) hct (by show ((pat r.1.toNat n).length : Int) = r.1; rw [pat_len]; omega) (by omega)
      rw [oif_pos (by rw [decide_eq_true_eq]; exact Int.ofNat_lt.2 hlt), e, obind_some, f58r f r hc n hlt (by omega), obind_some, e42, obind_some, sg_ge hi, obind_some, sg_int b1 (by omega), obind_some, sg_int (by omega) (by omega), obind_some, wrap_succ (by omega), l52 r hc i hi f (n + 1) (by omega) (by omega), nb_step hlt, oif_dec]
      have g1 : (run (r.2.take i) (pat r.1.toNat n)).getD r.2[i].1.toNat 0 = (run (r.2.take i) (pat r.1.toNat n))[r.2[i].1.toNat]'(by omega) := getD_get _
      have g2 : (run (r.2.take i) (pat r.1.toNat n)).getD r.2[i].2.toNat 0 = (run (r.2.take i) (pat r.1.toNat n))[r.2[i].2.toNat]'(by omega) := getD_get _
      have hnb : nb r i n = decide ((run (r.2.take i) (pat r.1.toNat n))[r.2[i].1.toNat]'(by omega) > (run (r.2.take i) (pat r.1.toNat n))[r.2[i].2.toNat]'(by omega)) := by
        unfold nb
        simp only [getD_at hi, g1, g2]
      rw [hnb]
      split
      · rename_i hgt
        rw [decide_eq_true hgt]; rfl
      · rename_i hgt
        rw [decide_eq_false hgt]; rfl
    · rw [oif_neg (by rw [decide_eq_false_iff_not]; intro hh; exact hlt (Int.ofNat_lt.1 hh)), nb_end (by omega)]; rfl
theorem f52 (fuel : Nat) (r : Int × List (Int × Int)) (hc : chk r = 0) (i : Nat) (hi : i < r.2.length) (hf : 400 ≤ fuel) : F52 fuel r (i : Int) = some (ndl r i) := by
  have h := chk0 hc
  have hpw := pow_le (pl := r.1.toNat) (by omega)
  unfold F52
  have := l52 r hc i hi fuel 0 (Nat.zero_le _) (by omega)
  rw [Int.natCast_zero] at this
  rw [this, obind_some]
  unfold ndl
  cases nbAny r i 0 <;> rfl
theorem cx_ne (w : List Int) (v : Int × Int) (h1 : 0 ≤ v.1) (h2 : v.1 < v.2) (h3 : v.2 < w.length) : (cx w v == w) = !(decide (w.getD v.1.toNat 0 > w.getD v.2.toNat 0)) := by
  unfold cx
  by_cases h : w.getD v.1.toNat 0 > w.getD v.2.toNat 0
  · rw [if_pos h, decide_eq_true h]
    rw [Bool.not_true, beq_eq_false_iff_ne]
    intro e
    have e2 : ((w.set v.1.toNat (w.getD v.2.toNat 0)).set v.2.toNat (w.getD v.1.toNat 0))[v.2.toNat]? = w[v.2.toNat]? := by rw [e]
    rw [List.getElem?_set_self (by simp; omega), List.getElem?_eq_getElem (by omega)] at e2
    rw [getD_get (show v.2.toNat < w.length by omega)] at h
    injection e2 with e2
    omega
  · rw [if_neg h, decide_eq_false h]
    simp
theorem l64_2 (r : Int × List (Int × Int)) (hc : chk r = 0) (i : Nat) (hi : i < r.2.length) : ∀ (f n : Nat), n < 2 ^ r.1.toNat → 2 ^ r.1.toNat - n + 100 < f → L64_2_2 r.1 r.2 r.1 r.2 (i : Int) f (pad (pat r.1.toNat n)) = some (match nbAny r i n with | true => .inr () | false => .inl ())
  | 0, n, _, hf => by omega
  | f + 1, n, hn, hf => by
    obtain ⟨h1, h2, h3, h4⟩ := chk0 hc
    have hpw := pow_le (pl := r.1.toNat) (by omega)
    obtain ⟨b1, b2, b3⟩ := valid_at hc hi
    have hpl : (pad (pat r.1.toNat n)).length = 8 := pad_len (by rw [pat_len]; omega)
    have hrl : (run (r.2.take i) (pad (pat r.1.toNat n))).length = 8 := by rw [run_len]; exact hpl
    have hnb : (run (r.2.take (i + 1)) (pad (pat r.1.toNat n)) == run (r.2.take i) (pad (pat r.1.toNat n))) = !(nb r i n) := by
      rw [run_take_succ _ _ _ hi, cx_ne _ _ b1 b2 (by rw [hrl]; omega)]
      unfold nb
      have e := run_take r.1 (r.2.take i) (pad (pat r.1.toNat n)) (take_ok hc i)
      rw [pad_take (pat_len _ _)] at e
      simp only [getD_at hi]
      rw [← e, take_getD _ (by omega), take_getD _ (by omega)]
    unfold L64_2_2
    rw [oif_pos (by rw [decide_eq_true_eq]; exact hpl), oif_pos (by simp), f40i f r _ i (by omega) hc hpl (by omega), obind_some, oif_pos (by rw [decide_eq_true_eq]; exact hrl), wrap_succ (by omega), f40i f r _ (i + 1) (by omega) hc hpl (by omega), obind_some, oif_pos (by rw [decide_eq_true_eq, run_len]; exact hpl), hnb, nb_step hn]
    cases hb : nb r i n with
    | false =>
      rw [Bool.not_false, oif_t, wrap_id (by omega) (by omega), l64_2_3 _ _ _ _ _ r.1.toNat f _ _ (by omega) (by omega) hpl (by omega), obind_some]
      have hnx := next_pat (pl := r.1.toNat) (n := n) (by omega) (by omega) hn
      have hlt := incr_lt r.1.toNat (pad (pat r.1.toNat n))
      rw [Bool.false_or]
      by_cases he : n + 1 = 2 ^ r.1.toNat
      · rw [if_pos he] at hnx
        rw [oif_pos (by rw [hnx]; rfl), nb_end (by omega)]
      · rw [if_neg he] at hnx
        rw [oif_neg (by rw [decide_eq_false_iff_not]; omega), oif_pos (by rw [decide_eq_true_eq]; omega), oif_pos (by rw [decide_eq_true_eq]; omega), stL_int (by omega) (by rw [incr_len, hpl]; omega), obind_some, hnx.2]
        exact l64_2 r hc i hi f (n + 1) (by omega) (by omega)
    | true => rfl
theorem f51 (fuel : Nat) (r : Int × List (Int × Int)) (hc : chk r = 0) (i : Nat) (hi : i < r.2.length) (hf : 400 ≤ fuel) : F51 fuel r (i : Int) = some (ndl r i) := by
  have h := chk0 hc
  have hpw := pow_le (pl := r.1.toNat) (by omega)
  unfold F51 F47 G64_2
  have := l64_2 r hc i hi fuel 0 (Nat.pow_pos (by omega)) (by omega)
  rw [pat_zero ⟨r.1.toNat, by omega⟩] at this
  simp only [obind_some, oif_f]
  rw [this]
  unfold ndl
  cases nbAny r i 0 <;> rfl
def idx (p : Nat → Bool) : Nat → Nat → List Int
  | _, 0 => []
  | k, m + 1 => if p k then (k : Int) :: idx p (k + 1) m else idx p (k + 1) m
theorem idx_len (p : Nat → Bool) : ∀ k m, (idx p k m).length ≤ m
  | _, 0 => Nat.le_refl _
  | k, m + 1 => by
    unfold idx
    have := idx_len p (k + 1) m
    split
    · rw [List.length_cons]; omega
    · omega
theorem idx_mem (p : Nat → Bool) : ∀ (m k j : Nat), (j : Int) ∈ idx p k m ↔ k ≤ j ∧ j < k + m ∧ p j = true
  | 0, k, j => by simp [idx]; omega
  | m + 1, k, j => by
    unfold idx
    have ih := idx_mem p m (k + 1) j
    split
    · rename_i hp
      rw [List.mem_cons, ih]
      constructor
      · rintro (h | h)
        · have : j = k := by omega
          subst this; exact ⟨by omega, by omega, hp⟩
        · exact ⟨by omega, by omega, h.2.2⟩
      · intro h
        by_cases e : j = k
        · left; omega
        · right; exact ⟨by omega, by omega, h.2.2⟩
    · rename_i hp
      rw [ih]
      constructor
      · intro h; exact ⟨by omega, by omega, h.2.2⟩
      · intro h
        have : j ≠ k := fun e => hp (e ▸ h.2.2)
        exact ⟨by omega, by omega, h.2.2⟩
theorem l24_2 (r : Int × List (Int × Int)) (hc : chk r = 0) : ∀ (f k : Nat) (w : List Int), k ≤ r.2.length → r.2.length - k + 500 < f → w.length ≤ k → L24_2 r.1 r.2 (r.2.length : Int) f (k : Int) w = some (w ++ idx (ndl r) k (r.2.length - k))
  | 0, k, _, _, h, _ => by omega
  | f + 1, k, w, hk, h, hw => by
    have h40 := (chk0 hc).2.2.1
    unfold L24_2
    by_cases hlt : k < r.2.length
    · rw [oif_pos (by simpa using hlt), f51 f r hc k hlt (by omega), obind_some, wrap_succ (by omega), show r.2.length - k = (r.2.length - (k + 1)) + 1 from by omega]
      unfold idx
      cases hn : ndl r k with
      | true => rw [oif_t, if_pos rfl, oif_pos (by simp), oif_pos (by simp), oif_pos (by rw [decide_eq_true_eq]; omega), l24_2 r hc f (k + 1) _ (by omega) (by omega) (by simp; omega), List.append_assoc]; rfl
      | false => rw [oif_f, if_neg (by simp), l24_2 r hc f (k + 1) _ (by omega) (by omega) (by omega)]
    · rw [oif_neg (by simpa using hlt), show r.2.length - k = 0 from by omega]
      simp [idx]
theorem l24_0 (r : Int × List (Int × Int)) (hc : chk r = 0) : ∀ (f k : Nat), k ≤ r.2.length → r.2.length - k + 500 < f → L24_0 r.1 r.2 (r.2.length : Int) f (k : Int) = some (idx (ndl r) k (r.2.length - k))
  | 0, k, _, h => by omega
  | f + 1, k, hk, h => by
    have h40 := (chk0 hc).2.2.1
    unfold L24_0
    by_cases hlt : k < r.2.length
    · rw [oif_pos (by simpa using hlt), f51 f r hc k hlt (by omega), obind_some, wrap_succ (by omega), show r.2.length - k = (r.2.length - (k + 1)) + 1 from by omega]
      unfold idx
      cases hn : ndl r k with
      | true => rw [oif_t, if_pos rfl, show decide (1 * 8 ≤ 140737488355328) = true from rfl, oif_t]
                by_cases h0 : k = 0
                · subst h0
                  rw [l24_2 r hc f 1 [((0 : Nat) : Int)] (by omega) (by omega) (by simp)]; rfl
                · rw [l24_2 r hc f (k + 1) [(k : Int)] (by omega) (by omega) (by simp)]; rfl
      | false => rw [oif_f, if_neg (by simp), l24_0 r hc f (k + 1) (by omega) (by omega)]
    · rw [oif_neg (by simpa using hlt), show r.2.length - k = 0 from by omega]
      rfl
theorem l25_2 (r : Int × List (Int × Int)) (hc : chk r = 0) : ∀ (f k : Nat) (w : List Int), k ≤ r.2.length → r.2.length - k + 500 < f → w.length ≤ k → L25_2 r.1 r.2 f (k : Int) w = some (w ++ idx (ndl r) k (r.2.length - k))
  | 0, k, _, _, h, _ => by omega
  | f + 1, k, w, hk, h, hw => by
    have h40 := (chk0 hc).2.2.1
    unfold L25_2
    by_cases hlt : k < r.2.length
    · rw [oif_pos (by simpa using hlt), f52 f r hc k hlt (by omega), obind_some, wrap_succ (by omega), show r.2.length - k = (r.2.length - (k + 1)) + 1 from by omega]
      unfold idx
      cases hn : ndl r k with
      | true => rw [oif_t, if_pos rfl, oif_pos (by rw [decide_eq_true_eq]; omega), l25_2 r hc f (k + 1) _ (by omega) (by omega) (by simp; omega), List.append_assoc]; rfl
      | false => rw [oif_f, if_neg (by simp), l25_2 r hc f (k + 1) _ (by omega) (by omega) (by omega)]
    · rw [oif_neg (by simpa using hlt), show r.2.length - k = 0 from by omega]
      simp [idx]
theorem l25_0 (r : Int × List (Int × Int)) (hc : chk r = 0) : ∀ (f k : Nat), k ≤ r.2.length → r.2.length - k + 500 < f → L25_0 r.1 r.2 f (k : Int) = some (idx (ndl r) k (r.2.length - k))
  | 0, k, _, h => by omega
  | f + 1, k, hk, h => by
    have h40 := (chk0 hc).2.2.1
    unfold L25_0
    by_cases hlt : k < r.2.length
    · rw [oif_pos (by simpa using hlt), f52 f r hc k hlt (by omega), obind_some, wrap_succ (by omega), show r.2.length - k = (r.2.length - (k + 1)) + 1 from by omega]
      unfold idx
      cases hn : ndl r k with
      | true => rw [oif_t, if_pos rfl, show decide (1 * 8 ≤ 140737488355328) = true from rfl, oif_t]
                by_cases h0 : k = 0
                · subst h0
                  rw [l25_2 r hc f 1 [((0 : Nat) : Int)] (by omega) (by omega) (by simp)]; rfl
                · rw [l25_2 r hc f (k + 1) [(k : Int)] (by omega) (by omega) (by simp)]; rfl
      | false => rw [oif_f, if_neg (by simp), l25_0 r hc f (k + 1) (by omega) (by omega)]
    · rw [oif_neg (by simpa using hlt), show r.2.length - k = 0 from by omega]
      rfl
def ndls (r : Int × List (Int × Int)) : List Int × Int := if chk r ≠ 0 then ([], chk r) else (idx (ndl r) 0 r.2.length, 0)
theorem f24 (fuel : Nat) (r : Int × List (Int × Int)) (hf : 800 ≤ fuel) : F24 fuel r = some (ndls r) := by
  unfold F24 ndls
  rw [f39 fuel _ (by omega), obind_some]
  by_cases h : chk r = 0
  · rw [if_neg (by simpa using h), if_neg (by simpa using h)]
    have h40 := (chk0 h).2.2.1
    have := l24_0 r h fuel 0 (by omega) (by omega)
    rw [Int.natCast_zero, Nat.sub_zero] at this
    simp only []
    rw [this]; rfl
  · rw [if_pos h, if_pos h]
    simp only []
    rw [oif_pos (by simpa using h)]
theorem f25 (fuel : Nat) (r : Int × List (Int × Int)) (hf : 800 ≤ fuel) : F25 fuel r = some (ndls r) := by
  unfold F25 ndls
  rw [f12 fuel _ (by omega), obind_some]
  by_cases h : chk r = 0
  · have h40 := (chk0 h).2.2.1
    have := l25_0 r h fuel 0 (by omega) (by omega)
    rw [Int.natCast_zero, Nat.sub_zero] at this
    rw [oif_neg (by simpa using h), this, if_neg (by simpa using h)]; rfl
  · rw [oif_pos (by simpa using h), if_pos h]
end Go.Idl.N
set_option linter.unusedSimpArgs false
set_option linter.unusedVariables false
namespace Go.Idl.N
open Go Go.Idl
theorem l67 (v0 : List Int) (x : Int) (hl : v0.length ≤ 1000000) : ∀ (f k : Nat), k ≤ v0.length → v0.length - k < f → ∃ y, L67_0 v0 x (v0.length : Int) f (k : Int) = some y ∧
    (match y with | .inl i => 0 ≤ i ∧ x ∈ v0.drop k | .inr _ => x ∉ v0.drop k)
  | 0, k, _, h => by omega
  | f + 1, k, hk, h => by
    unfold L67_0
    by_cases hlt : k < v0.length
    · obtain ⟨y, e, hy⟩ := l67 v0 x hl f (k + 1) (by omega) (by omega)
      rw [oif_pos (by simpa using hlt), sg_ge hlt, obind_some, List.drop_eq_getElem_cons hlt, wrap_succ (by omega), e]
      by_cases hc : x = v0[k]
      · rw [oif_pos (by simpa using hc)]
        exact ⟨_, rfl, by omega, List.mem_cons.2 (.inl hc)⟩
      · rw [oif_neg (by simpa using hc)]
        refine ⟨y, rfl, ?_⟩
        cases y with
        | inl i => exact ⟨hy.1, List.mem_cons_of_mem _ hy.2⟩
        | inr u => intro hm; rcases List.mem_cons.1 hm with e | e
                   · exact hc e
                   · exact hy e
    · rw [oif_neg (by simpa using hlt)]
      refine ⟨_, rfl, ?_⟩
      rw [List.drop_eq_nil_of_le (by omega)]
      simp
theorem f53 (fuel : Nat) (l : List Int) (x : Int) (hl : l.length ≤ 1000000) (hf : l.length < fuel) : F53 fuel l x = some (decide (x ∈ l)) := by
  obtain ⟨y, e, hy⟩ := l67 l x hl fuel 0 (by omega) (by omega)
  rw [Int.natCast_zero] at e
  unfold F53 F67
  rw [e, obind_some]
  cases y with
  | inl i => simp only [List.drop_zero] at hy; simp only [obind_some, oif_dec, hy.1, hy.2]; simp
  | inr u => simp only [List.drop_zero] at hy; simp only [obind_some, oif_dec, hy]; simp
def keepF (p : Nat → Bool) : Nat → List (Int × Int) → List (Int × Int)
  | _, [] => []
  | k, x :: l => if p k then keepF p (k + 1) l else x :: keepF p (k + 1) l
theorem idx_in (r : Int × List (Int × Int)) {k : Nat} (hk : k < r.2.length) : decide ((k : Int) ∈ idx (ndl r) 0 r.2.length) = ndl r k := by
  cases h : ndl r k with
  | true => rw [decide_eq_true_eq, idx_mem]; exact ⟨by omega, by omega, h⟩
  | false => rw [decide_eq_false_iff_not, idx_mem]; intro hh; rw [h] at hh; exact absurd hh.2.2 (by simp)
theorem l26_2 (r : Int × List (Int × Int)) (hc : chk r = 0) (w1 : Int) : ∀ (f k : Nat) (w : List (Int × Int)), k ≤ r.2.length → r.2.length - k + 500 < f → w.length ≤ k → L26_2 (idx (ndl r) 0 r.2.length) r.2 (r.2.length : Int) w1 f (k : Int) w = some (w ++ keepF (ndl r) k (r.2.drop k))
  | 0, k, _, _, h, _ => by omega
  | f + 1, k, w, hk, h, hw => by
    have h40 := (chk0 hc).2.2.1
    unfold L26_2
    by_cases hlt : k < r.2.length
    · rw [oif_pos (by simpa using hlt), sg_ge hlt, obind_some, f53 f _ _ (Nat.le_trans (idx_len _ _ _) (by omega)) (Nat.lt_of_le_of_lt (idx_len _ _ _) (by omega)), obind_some, idx_in r hlt, wrap_succ (by omega), List.drop_eq_getElem_cons hlt]
      unfold keepF
      cases hn : ndl r k with
      | true => rw [oif_t, if_pos rfl, l26_2 r hc w1 f (k + 1) _ (by omega) (by omega) (by omega)]
      | false => rw [oif_f, if_neg (by simp), oif_pos (by rw [decide_eq_true_eq]; omega), l26_2 r hc w1 f (k + 1) _ (by omega) (by omega) (by simp; omega), List.append_assoc]; rfl
    · rw [oif_neg (by simpa using hlt), List.drop_eq_nil_of_le (by omega)]
      simp [keepF]
theorem l26_0 (r : Int × List (Int × Int)) (hc : chk r = 0) (w1 : Int) : ∀ (f k : Nat), k ≤ r.2.length → r.2.length - k + 500 < f → ∃ y, L26_0 (idx (ndl r) 0 r.2.length) r.2 (r.2.length : Int) w1 f (k : Int) = some y ∧ (match y with | .inl z => z | .inr _ => []) = keepF (ndl r) k (r.2.drop k)
  | 0, k, _, h => by omega
  | f + 1, k, hk, h => by
    have h40 := (chk0 hc).2.2.1
    unfold L26_0
    by_cases hlt : k < r.2.length
    · rw [oif_pos (by simpa using hlt), sg_ge hlt, obind_some, f53 f _ _ (Nat.le_trans (idx_len _ _ _) (by omega)) (Nat.lt_of_le_of_lt (idx_len _ _ _) (by omega)), obind_some, idx_in r hlt, wrap_succ (by omega), List.drop_eq_getElem_cons hlt]
      unfold keepF
      cases hn : ndl r k with
      | true => rw [oif_t, if_pos rfl]; exact l26_0 r hc w1 f (k + 1) (by omega) (by omega)
      | false =>
        rw [oif_f, if_neg (by simp), show decide (1 * 16 ≤ 140737488355328) = true from rfl, oif_t]
        by_cases h0 : k = 0
        · subst h0
          rw [l26_2 r hc w1 f 1 _ (by omega) (by omega) (by simp)]
          exact ⟨_, rfl, rfl⟩
        · rw [l26_2 r hc w1 f (k + 1) _ (by omega) (by omega) (by simp)]
          exact ⟨_, rfl, rfl⟩
    · rw [oif_neg (by simpa using hlt), List.drop_eq_nil_of_le (by omega)]
      exact ⟨_, rfl, rfl⟩
theorem l27_2 (r : Int × List (Int × Int)) (hc : chk r = 0) (w1 : Int) : ∀ (f k : Nat) (w : List (Int × Int)), k ≤ r.2.length → r.2.length - k + 500 < f → w.length ≤ k → L27_2 r.1 r.2 w1 f (k : Int) w = some (w ++ keepF (ndl r) k (r.2.drop k))
  | 0, k, _, _, h, _ => by omega
  | f + 1, k, w, hk, h, hw => by
    have h40 := (chk0 hc).2.2.1
    unfold L27_2
    by_cases hlt : k < r.2.length
    · rw [oif_pos (by simpa using hlt), f52 f r hc k hlt (by omega), obind_some, wrap_succ (by omega), List.drop_eq_getElem_cons hlt]
      unfold keepF
      cases hn : ndl r k with
      | true => rw [oif_t, if_pos rfl, l27_2 r hc w1 f (k + 1) _ (by omega) (by omega) (by omega)]
      | false => rw [oif_f, if_neg (by simp), sg_ge hlt, obind_some, oif_pos (by rw [decide_eq_true_eq]; omega), l27_2 r hc w1 f (k + 1) _ (by omega) (by omega) (by simp; omega), List.append_assoc]; rfl
    · rw [oif_neg (by simpa using hlt), List.drop_eq_nil_of_le (by omega)]
      simp [keepF]
theorem l27_0 (r : Int × List (Int × Int)) (hc : chk r = 0) (w1 : Int) : ∀ (f k : Nat), k ≤ r.2.length → r.2.length - k + 500 < f → ∃ y, L27_0 r.1 r.2 w1 f (k : Int) = some y ∧ (match y with | .inl z => z | .inr _ => []) = keepF (ndl r) k (r.2.drop k)
  | 0, k, _, h => by omega
  | f + 1, k, hk, h => by
    have h40 := (chk0 hc).2.2.1
    unfold L27_0
    by_cases hlt : k < r.2.length
    · rw [oif_pos (by simpa using hlt), f52 f r hc k hlt (by omega), obind_some, wrap_succ (by omega), List.drop_eq_getElem_cons hlt]
      unfold keepF
      cases hn : ndl r k with
      | true => rw [oif_t, if_pos rfl]; exact l27_0 r hc w1 f (k + 1) (by omega) (by omega)
      | false =>
        rw [oif_f, if_neg (by simp), sg_ge hlt, obind_some, show decide (1 * 16 ≤ 140737488355328) = true from rfl, oif_t]
        by_cases h0 : k = 0
        · subst h0
          rw [l27_2 r hc w1 f 1 _ (by omega) (by omega) (by simp)]
          exact ⟨_, rfl, rfl⟩
        · rw [l27_2 r hc w1 f (k + 1) _ (by omega) (by omega) (by simp)]
          exact ⟨_, rfl, rfl⟩
    · rw [oif_neg (by simpa using hlt), List.drop_eq_nil_of_le (by omega)]
      exact ⟨_, rfl, rfl⟩
def cutR (r : Int × List (Int × Int)) : (Int × List (Int × Int)) × Int := if chk r ≠ 0 then ((0, []), chk r) else ((r.1, keepF (ndl r) 0 r.2), 0)
theorem f26 (fuel : Nat) (r : Int × List (Int × Int)) (hf : 800 ≤ fuel) : F26 fuel r = some (cutR r) := by
  unfold F26 cutR
  rw [f24 fuel _ hf, obind_some]
  unfold ndls
  by_cases h : chk r = 0
  · have h40 := (chk0 h).2.2.1
    rw [if_neg (by simpa using h), if_neg (by simpa using h)]
    obtain ⟨y, e, hy⟩ := l26_0 r h r.1 fuel 0 (by omega) (by omega)
    rw [Int.natCast_zero] at e
    rw [List.drop_zero] at hy
    rw [oif_neg (by simp), e, obind_some, ← hy]
    cases y <;> rfl
  · rw [if_pos h, if_pos h, oif_pos (by simpa using h)]
theorem f27 (fuel : Nat) (r : Int × List (Int × Int)) (hf : 800 ≤ fuel) : F27 fuel r = some (cutR r) := by
  unfold F27 cutR
  rw [f12 fuel _ (by omega), obind_some]
  by_cases h : chk r = 0
  · have h40 := (chk0 h).2.2.1
    obtain ⟨y, e, hy⟩ := l27_0 r h r.1 fuel 0 (by omega) (by omega)
    rw [Int.natCast_zero] at e
    rw [List.drop_zero] at hy
    rw [oif_neg (by simpa using h), e, obind_some, if_neg (by simpa using h), ← hy]
    cases y <;> rfl
  · rw [oif_pos (by simpa using h), if_pos h]
def touch (u : Int × Int) (p : Int) : Bool := u.1 == p || u.2 == p
def lastStep (p : Int) (a : Int) (z : (Int × Int) × Int) : Int := if touch z.1 p then max a z.2 else a
def lastOf (zs : List ((Int × Int) × Int)) (p : Int) : Int := zs.foldl (lastStep p) 0
def refStep (v : Int × Int) (m : Int) (z : (Int × Int) × Int) : Int := if touch z.1 v.1 || touch z.1 v.2 then max m (z.2 + 1) else m
def refN (zs : List ((Int × Int) × Int)) (v : Int × Int) : Int := zs.foldl (refStep v) 1
theorem ref_last (v : Int × Int) : ∀ (zs : List ((Int × Int) × Int)) (a b : Int), zs.foldl (refStep v) (1 + max a b) = 1 + max (zs.foldl (lastStep v.1) a) (zs.foldl (lastStep v.2) b)
  | [], a, b => rfl
  | z :: zs, a, b => by
    rw [List.foldl_cons, List.foldl_cons, List.foldl_cons, ← ref_last v zs]
    congr 1
    unfold refStep lastStep
    cases touch z.1 v.1 <;> cases touch z.1 v.2 <;> simp <;> omega
theorem ref_eq (zs : List ((Int × Int) × Int)) (v : Int × Int) : refN zs v = 1 + max (lastOf zs v.1) (lastOf zs v.2) := by
  have := ref_last v zs 0 0
  simpa [refN, lastOf] using this
def rnds : List (Int × Int) → List ((Int × Int) × Int) → List ((Int × Int) × Int)
  | [], zs => zs
  | v :: L, zs => rnds L (zs ++ [(v, refN zs v)])
theorem last_snoc2 (zs : List ((Int × Int) × Int)) (z : (Int × Int) × Int) (p : Int) : lastOf (zs ++ [z]) p = lastStep p (lastOf zs p) z := by
  unfold lastOf; rw [List.foldl_append]; rfl
theorem lastOf_pos : ∀ (zs : List ((Int × Int) × Int)) (p a : Int), 0 ≤ a → a ≤ zs.foldl (lastStep p) a
  | [], p, a, h => Int.le_refl _
  | z :: zs, p, a, h => by
    rw [List.foldl_cons]
    have h2 : a ≤ lastStep p a z := by unfold lastStep; split <;> omega
    exact Int.le_trans h2 (lastOf_pos zs p _ (by omega))
theorem lastOf_le (p : Int) (c : Int) : ∀ (zs : List ((Int × Int) × Int)) (a : Int), a ≤ c → (∀ z ∈ zs, z.2 ≤ c) → zs.foldl (lastStep p) a ≤ c
  | [], a, h, _ => h
  | z :: zs, a, h, hz => by
    rw [List.foldl_cons]
    refine lastOf_le p c zs _ ?_ (fun y hy => hz y (List.mem_cons_of_mem _ hy))
    have := hz z (List.mem_cons_self ..)
    unfold lastStep; split <;> omega
def smallZ (zs : List ((Int × Int) × Int)) : Prop := ∀ z ∈ zs, 1 ≤ z.2 ∧ z.2 ≤ (zs.length : Int)
theorem small_next {zs : List ((Int × Int) × Int)} (h : smallZ zs) (v : Int × Int) : 1 ≤ refN zs v ∧ refN zs v ≤ (zs.length : Int) + 1 := by
  rw [ref_eq]
  have h1 := lastOf_pos zs v.1 0 (by omega)
  have h2 := lastOf_le v.1 (zs.length : Int) zs 0 (by omega) (fun z hz => (h z hz).2)
  have h3 := lastOf_le v.2 (zs.length : Int) zs 0 (by omega) (fun z hz => (h z hz).2)
  unfold lastOf
  omega
theorem small_snoc {zs : List ((Int × Int) × Int)} (h : smallZ zs) (v : Int × Int) : smallZ (zs ++ [(v, refN zs v)]) := by
  intro z hz
  rw [List.length_append, List.length_singleton]
  rcases List.mem_append.1 hz with hz | hz
  · have := h z hz; omega
  · simp at hz; subst hz
    have := small_next h v
    simp only []
    omega
theorem rnds_len : ∀ (L : List (Int × Int)) (zs : List ((Int × Int) × Int)), (rnds L zs).length = zs.length + L.length
  | [], zs => rfl
  | v :: L, zs => by rw [rnds, rnds_len L]; simp; omega
def holds8 (w : List Int) (zs : List ((Int × Int) × Int)) : Prop := w.length = 8 ∧ ∀ p : Nat, p < 8 → w.getD p 0 = lastOf zs (p : Int)
theorem holds_next {w : List Int} {zs : List ((Int × Int) × Int)} {v : Int × Int} (h : holds8 w zs) (hs : smallZ zs) (h1 : 0 ≤ v.1) (h2 : v.1 < v.2) (h3 : v.2 < 8) :
    holds8 ((w.set v.1.toNat (refN zs v)).set v.2.toNat (refN zs v)) (zs ++ [(v, refN zs v)]) := by
  refine ⟨by simp [h.1], fun p hp => ?_⟩
  have hl := h.1
  rw [last_snoc2]
  have e := ref_eq zs v
  have hw := h.2 p hp
  unfold lastStep touch
  rw [getD_get (by simp; omega), List.getElem_set, List.getElem_set]
  by_cases c2 : v.2.toNat = p
  · have : v.2 = (p : Int) := by omega
    rw [if_pos c2, if_pos (by simp [this])]
    rw [← this]
    simp only []
    omega
  · rw [if_neg c2]
    by_cases c1 : v.1.toNat = p
    · have : v.1 = (p : Int) := by omega
      rw [if_pos c1, if_pos (by simp [this])]
      rw [← this]
      simp only []
      omega
    · rw [if_neg c1, if_neg (by simp; omega), ← hw, getD_get (by omega)]
theorem f54 (fuel : Nat) (x y : Int) : F54 fuel x y = some (max x y) := by
  unfold F54 F55
  rw [oif_bool, obind_some, oif_dec]
  split <;> (congr 1; omega)
theorem l28 (r : Int × List (Int × Int)) (hc : chk r = 0) : ∀ (f k : Nat) (w : List Int) (zs : List ((Int × Int) × Int)), k ≤ r.2.length → r.2.length - k + 20 < f → zs.length = k → smallZ zs → holds8 w zs →
    L28_1 r.2 (r.2.length : Int) f (k : Int) w (zs.map (·.2)) = some ((rnds (r.2.drop k) zs).map (·.2))
  | 0, k, _, _, _, h, _, _, _ => by omega
  | f + 1, k, w, zs, hk, h, hz, hs, hw => by
    have h40 := (chk0 hc).2.2.1
    have h8 := (chk0 hc).2.1
    unfold L28_1
    by_cases hlt : k < r.2.length
    · obtain ⟨b1, b2, b3⟩ := valid_at hc hlt
      have hl := hw.1
      have g1 := hw.2 r.2[k].1.toNat (by omega)
      have g2 := hw.2 r.2[k].2.toNat (by omega)
      rw [getD_get (by omega), show ((r.2[k].1.toNat : Nat) : Int) = r.2[k].1 from by omega] at g1
      rw [getD_get (by omega), show ((r.2[k].2.toNat : Nat) : Int) = r.2[k].2 from by omega] at g2
      have hn := small_next hs r.2[k]
      have e := ref_eq zs r.2[k]
      rw [oif_pos (by simpa using hlt), sg_ge hlt, obind_some, oif_pos (by simpa using b1), oif_pos (by rw [decide_eq_true_eq]; omega), sg_int b1 (by omega), obind_some, oif_pos (by rw [decide_eq_true_eq]; omega), oif_pos (by rw [decide_eq_true_eq]; omega), sg_int (by omega) (by omega), obind_some,
        f54, obind_some, g1, g2, ← e, wrap_id (n := refN zs r.2[k]) (by omega) (by omega), stL_int b1 (by omega), obind_some, stL_int (by omega) (by rw [List.length_set]; omega), obind_some, oif_pos (by rw [decide_eq_true_eq, List.length_map]; omega), wrap_succ (by omega), List.drop_eq_getElem_cons hlt, rnds]
      have ih := l28 r hc f (k + 1) _ (zs ++ [(r.2[k], refN zs r.2[k])]) (by omega) (by omega) (by simp [hz]) (small_snoc hs _) (holds_next hw hs b1 b2 (by omega))
      rw [List.map_append] at ih
      exact ih
    · rw [oif_neg (by simpa using hlt), List.drop_eq_nil_of_le (by omega), rnds]
theorem holds_nil : holds8 (List.replicate 8 0) [] := by
  refine ⟨by simp, fun p hp => ?_⟩
  rw [getD_get (by simpa using hp), List.getElem_replicate]; rfl
theorem small_nil : smallZ [] := fun z hz => by cases hz
def rndR (r : Int × List (Int × Int)) : List Int × Int := if chk r ≠ 0 then ([], chk r) else ((rnds r.2 []).map (·.2), 0)
theorem f28 (fuel : Nat) (r : Int × List (Int × Int)) (hf : 800 ≤ fuel) : F28 fuel r = some (rndR r) := by
  unfold F28 rndR
  rw [f39 fuel _ (by omega), obind_some]
  by_cases h : chk r = 0
  · rw [if_neg (by simpa using h), if_neg (by simpa using h)]
    have h40 := (chk0 h).2.2.1
    have h8 := (chk0 h).2.1
    simp only []
    cases fuel with
    | zero => omega
    | succ fuel =>
      rw [L28_0]
      by_cases hlt : 0 < r.2.length
      · obtain ⟨b1, b2, b3⟩ := valid_at h hlt
        have e0 : refN [] r.2[0] = 1 := rfl
        have hnx := holds_next (v := r.2[0]) holds_nil small_nil b1 b2 (by omega)
        rw [e0] at hnx
        have ih := l28 r h fuel 1 _ [(r.2[0], 1)] hlt (by omega) rfl (small_snoc small_nil r.2[0]) hnx
        rw [show ((1 : Nat) : Int) = 1 from rfl] at ih
        have g0 : sg r.2 0 = some r.2[0] := by have := sg_ge hlt; rwa [Int.natCast_zero] at this
        have z1 : sg (List.replicate 8 (0 : Int)) r.2[0].1 = some 0 := by rw [sg_int b1 (by simp; omega), List.getElem_replicate]
        have z2 : sg (List.replicate 8 (0 : Int)) r.2[0].2 = some 0 := by rw [sg_int (by omega) (by simp; omega), List.getElem_replicate]
        rw [oif_pos (by rw [decide_eq_true_eq]; omega), g0, obind_some, oif_pos (by simpa using b1), oif_pos (by rw [decide_eq_true_eq]; omega), z1, obind_some, oif_pos (by rw [decide_eq_true_eq]; omega), oif_pos (by rw [decide_eq_true_eq]; omega), z2, obind_some,
          f54, obind_some, show IntKind.wrap .i64 (1 + max (0 : Int) 0) = 1 from by rw [wrap_id (by omega) (by omega)]; omega, stL_int b1 (by simp; omega), obind_some, stL_int (by omega) (by rw [List.length_set]; simp; omega), obind_some, show decide (1 * 8 ≤ 140737488355328) = true from rfl, oif_t]
        rw [show List.map (fun x => x.2) [(r.2[0], (1 : Int))] = [1] from rfl] at ih
        rw [ih, obind_some, obind_some]
        congr 3
        have ed : r.2 = r.2[0] :: r.2.drop 1 := by
          have := List.drop_eq_getElem_cons hlt
          rwa [List.drop_zero] at this
        conv => rhs; rw [ed]
        rw [rnds]
        rfl
      · have hnil : r.2 = [] := by cases hh : r.2 with | nil => rfl | cons a b => rw [hh] at hlt; simp at hlt
        rw [oif_neg (by rw [decide_eq_false_iff_not]; omega), obind_some, hnil]
        rfl
  · rw [if_pos h, if_pos h]
    simp only []
    rw [oif_pos (by simpa using h)]
end Go.Idl.N
set_option linter.unusedSimpArgs false
set_option linter.unusedVariables false
namespace Go.Idl.N
open Go Go.Idl
theorem f56 (fuel : Nat) (u v : Int × Int) : F56 fuel u v = some (touch u v.1 || touch u v.2) := by
  unfold F56 touch
  simp only [oif_ite]
  by_cases a : u.1 = v.1
  · simp [a]
  · by_cases b : u.1 = v.2
    · simp [a, b]
    · by_cases c : u.2 = v.1
      · simp [a, b, c]
      · by_cases d : u.2 = v.2 <;> simp [a, b, c, d]
theorem l29_4 (r : Int × List (Int × Int)) (zs : List ((Int × Int) × Int)) (hzl : zs.length < r.2.length) (h40 : r.2.length ≤ 40) (hs : smallZ zs) (hz : ∀ j (h : j < zs.length), r.2[j]'(by omega) = zs[j].1) : ∀ (f k : Nat) (m : Int), k ≤ zs.length → zs.length - k < f →
    L29_4 r.1 r.2 (zs.length : Int) (zs.map (·.2)) f m (k : Int) = some ((zs.drop k).foldl (refStep (r.2[zs.length])) m)
  | 0, k, m, _, h => by omega
  | f + 1, k, m, hk, h => by
    unfold L29_4
    by_cases hlt : k < zs.length
    · have hb := hs _ (List.getElem_mem hlt)
      have e2 : sg (zs.map (·.2)) (k : Int) = some zs[k].2 := by rw [sg_ge (by simpa using hlt), List.getElem_map]
      rw [oif_pos (by simpa using hlt), sg_ge (by omega), obind_some, sg_ge hzl, obind_some, f56, obind_some, hz k hlt, List.drop_eq_getElem_cons hlt, List.foldl_cons, wrap_succ (by omega),
        oif_pos (c := decide ((0:Int) ≤ (k : Int))) (by simp), oif_pos (c := decide ((k : Int) < (((List.length (zs.map (·.2))) : Nat) : Int))) (by rw [decide_eq_true_eq, List.length_map]; omega), e2, obind_some, wrap_id (n := zs[k].2 + 1) (by omega) (by omega),
        l29_4 r zs hzl h40 hs hz f (k + 1) _ (by omega) (by omega), l29_4 r zs hzl h40 hs hz f (k + 1) _ (by omega) (by omega)]
      unfold refStep
      simp only []
      cases hc : (touch zs[k].1 (r.2[zs.length]).1 || touch zs[k].1 (r.2[zs.length]).2) with
      | true =>
        rw [oif_t, if_pos rfl, maxL1]
        congr 2
        split <;> omega
      | false => rw [oif_f, if_neg (by simp)]
    · rw [oif_neg (by simpa using hlt), List.drop_eq_nil_of_le (by omega)]
      rfl
theorem l29_2 (r : Int × List (Int × Int)) (h40 : r.2.length ≤ 40) : ∀ (f : Nat) (zs : List ((Int × Int) × Int)), zs.length ≤ r.2.length → r.2.length - zs.length + 60 < f → smallZ zs → (∀ j (h : j < zs.length) (h2 : j < r.2.length), r.2[j] = zs[j].1) →
    L29_2 r.1 r.2 f (zs.length : Int) (zs.map (·.2)) = some ((rnds (r.2.drop zs.length) zs).map (·.2))
  | 0, zs, _, h, _, _ => by omega
  | f + 1, zs, hk, h, hs, hz => by
    unfold L29_2
    by_cases hlt : zs.length < r.2.length
    · have e4 := l29_4 r zs hlt h40 hs (fun j hj => hz j hj (by omega)) f 0 1 (by omega) (by omega)
      rw [Int.natCast_zero, List.drop_zero] at e4
      rw [oif_pos (by simpa using hlt), e4, obind_some, oif_pos (by rw [decide_eq_true_eq, List.length_map]; omega), wrap_succ (by omega), List.drop_eq_getElem_cons hlt, rnds]
      have ih := l29_2 r h40 f (zs ++ [(r.2[zs.length], refN zs r.2[zs.length])]) (by simp; omega) (by simp; omega) (small_snoc hs _) (fun j h1 h2 => by
        by_cases e : j < zs.length
        · rw [List.getElem_append_left e]; exact hz j e h2
        · have : j = zs.length := by simp at h1; omega
          subst this
          rw [List.getElem_append_right (by omega)]; simp)
      rw [List.map_append, List.length_append, List.length_singleton] at ih
      exact ih
    · rw [oif_neg (by simpa using hlt), List.drop_eq_nil_of_le (by omega), rnds]
theorem f29 (fuel : Nat) (r : Int × List (Int × Int)) (hf : 800 ≤ fuel) : F29 fuel r = some (rndR r) := by
  unfold F29 rndR
  rw [f12 fuel _ (by omega), obind_some]
  by_cases h : chk r = 0
  · have h40 := (chk0 h).2.2.1
    rw [oif_neg (by simpa using h), if_neg (by simpa using h)]
    cases fuel with
    | zero => omega
    | succ fuel =>
      rw [L29_0]
      by_cases hlt : 0 < r.2.length
      · have ih := l29_2 r h40 fuel [(r.2[0], 1)] hlt (by simp; omega) (small_snoc small_nil r.2[0]) (fun j h1 h2 => by
          have : j = 0 := by simp at h1; omega
          subst this; rfl)
        rw [show List.map (fun x => x.2) [(r.2[0], (1 : Int))] = [1] from rfl, show ((List.length [(r.2[0], (1 : Int))] : Nat) : Int) = 1 from rfl, show List.length [(r.2[0], (1 : Int))] = 1 from rfl] at ih
        cases fuel with
        | zero => omega
        | succ fuel =>
          rw [oif_pos (by rw [decide_eq_true_eq]; omega), L29_1, obind_some, show decide (1 * 8 ≤ 140737488355328) = true from rfl, oif_t, ih, obind_some, obind_some]
          congr 3
          have ed : r.2 = r.2[0] :: r.2.drop 1 := by
            have := List.drop_eq_getElem_cons hlt
            rwa [List.drop_zero] at this
          conv => rhs; rw [ed]
          rw [rnds]
          rfl
      · have hnil : r.2 = [] := by cases hh : r.2 with | nil => rfl | cons a b => rw [hh] at hlt; simp at hlt
        rw [oif_neg (by rw [decide_eq_false_iff_not]; omega), obind_some, hnil]
        rfl
  · rw [oif_pos (by simpa using h), if_pos h]
def mirV (pl : Int) (v : Int × Int) : Int × Int := (pl - 1 - v.2, pl - 1 - v.1)
theorem mir_wrap {r : Int × List (Int × Int)} (hc : chk r = 0) {k : Nat} (hk : k < r.2.length) : ((IntKind.wrap .i64 ((IntKind.wrap .i64 (r.1 - 1)) - r.2[k].2)), (IntKind.wrap .i64 ((IntKind.wrap .i64 (r.1 - 1)) - r.2[k].1))) = mirV r.1 r.2[k] := by
  obtain ⟨b1, b2, b3⟩ := valid_at hc hk
  have h8 := (chk0 hc).2.1
  rw [wrap_id (n := r.1 - 1) (by omega) (by omega), wrap_id (by omega) (by omega), wrap_id (by omega) (by omega)]
  rfl
theorem l32 (r : Int × List (Int × Int)) (hc : chk r = 0) (w1 : Int) : ∀ (f k : Nat), k ≤ r.2.length → r.2.length - k < f →
    L32_0 r.1 r.2 r.2 (r.2.length : Int) w1 f (k : Int) ((r.2.take k).map (mirV r.1) ++ List.replicate (r.2.length - k) (0, 0)) = some (r.2.map (mirV r.1))
  | 0, k, _, h => by omega
  | f + 1, k, hk, h => by
    have h40 := (chk0 hc).2.2.1
    unfold L32_0
    by_cases hlt : k < r.2.length
    · have hl : ((r.2.take k).map (mirV r.1) ++ List.replicate (r.2.length - k) ((0, 0) : Int × Int)).length = r.2.length := by simp; omega
      rw [oif_pos (by simpa using hlt), sg_ge hlt, obind_some, oif_pos (by simp), oif_pos (by rw [decide_eq_true_eq]; omega), stL_nat (by omega), obind_some, wrap_succ (by omega), mir_wrap hc hlt]
      have ih := l32 r hc w1 f (k + 1) (by omega) (by omega)
      have e3 : ((r.2.take k).map (mirV r.1) ++ List.replicate (r.2.length - k) ((0, 0) : Int × Int)).set k (mirV r.1 r.2[k]) = (r.2.take (k + 1)).map (mirV r.1) ++ List.replicate (r.2.length - (k + 1)) (0, 0) := by
        rw [List.take_succ_eq_append_getElem hlt, List.map_append, List.set_append_right _ _ (by simp; omega), List.length_map, List.length_take, Nat.min_eq_left (by omega), Nat.sub_self,
          show r.2.length - k = (r.2.length - (k + 1)) + 1 from by omega, List.replicate_succ, List.set_cons_zero, List.append_assoc]; rfl
      rw [e3]; exact ih
    · rw [oif_neg (by simpa using hlt)]
      have : k = r.2.length := by omega
      subst this
      simp
def mirR (r : Int × List (Int × Int)) : (Int × List (Int × Int)) × Int := if chk r ≠ 0 then ((0, []), chk r) else ((r.1, r.2.map (mirV r.1)), 0)
theorem f32 (fuel : Nat) (r : Int × List (Int × Int)) (hf : 800 ≤ fuel) : F32 fuel r = some (mirR r) := by
  unfold F32 mirR
  rw [f39 fuel _ (by omega), obind_some]
  by_cases h : chk r = 0
  · rw [if_neg (by simpa using h), if_neg (by simpa using h)]
    have h40 := (chk0 h).2.2.1
    have := l32 r h r.1 fuel 0 (by omega) (by omega)
    rw [Int.natCast_zero, List.take_zero, List.map_nil, List.nil_append, Nat.sub_zero] at this
    simp only []
    rw [oif_pos (by simp), oif_pos (by rw [decide_eq_true_eq]; omega), oif_pos (by rw [decide_eq_true_eq]; omega), Int.toNat_natCast, this]; rfl
  · rw [if_pos h, if_pos h]
    simp only []
    rw [oif_pos (by simpa using h)]
theorem l59 (r : Int × List (Int × Int)) (hc : chk r = 0) (w1 : Int) : ∀ (f k : Nat), k ≤ r.2.length → r.2.length - k < f →
    L59_1 r.1 r.2 w1 f (k : Int) ((r.2.take k).map (mirV r.1)) = some (r.2.map (mirV r.1))
  | 0, k, _, h => by omega
  | f + 1, k, hk, h => by
    have h40 := (chk0 hc).2.2.1
    unfold L59_1
    by_cases hlt : k < r.2.length
    · rw [oif_pos (by simpa using hlt), sg_ge hlt, obind_some, oif_pos (by rw [decide_eq_true_eq]; simp; omega), wrap_succ (by omega), mir_wrap hc hlt]
      have ih := l59 r hc w1 f (k + 1) (by omega) (by omega)
      rw [List.take_succ_eq_append_getElem hlt, List.map_append] at ih
      exact ih
    · rw [oif_neg (by simpa using hlt), List.take_of_length_le (by omega)]
theorem f33 (fuel : Nat) (r : Int × List (Int × Int)) (hf : 800 ≤ fuel) : F33 fuel r = some (mirR r) := by
  unfold F33 mirR
  rw [f12 fuel _ (by omega), obind_some]
  by_cases h : chk r = 0
  · have h40 := (chk0 h).2.2.1
    rw [oif_neg (by simpa using h), if_neg (by simpa using h)]
    unfold F59
    cases fuel with
    | zero => omega
    | succ fuel =>
      rw [L59_0]
      by_cases hlt : 0 < r.2.length
      · have ih := l59 r h r.1 fuel 1 hlt (by omega)
        have g0 : sg r.2 0 = some r.2[0] := by have := sg_ge hlt; rwa [Int.natCast_zero] at this
        have e1 : r.2.take 1 = [r.2[0]] := by
          have := List.take_succ_eq_append_getElem hlt
          rwa [Nat.zero_add, List.take_zero, List.nil_append] at this
        rw [e1, show ((1 : Nat) : Int) = 1 from rfl, List.map_singleton] at ih
        rw [oif_pos (by rw [decide_eq_true_eq]; show (0:Int) < (r.2.length : Int); omega), g0, obind_some, show decide (1 * 16 ≤ 140737488355328) = true from rfl, oif_t, mir_wrap h hlt, ih]
        rfl
      · have hnil : r.2 = [] := by cases hh : r.2 with | nil => rfl | cons a b => rw [hh] at hlt; simp at hlt
        rw [oif_neg (by rw [decide_eq_false_iff_not]; show ¬ (0:Int) < (r.2.length : Int); omega), hnil]
        rfl
  · rw [oif_pos (by simpa using h), if_pos h]
end Go.Idl.N
set_option linter.unusedSimpArgs false
set_option linter.unusedVariables false
namespace Go.Idl.N
open Go Go.Idl
theorem set_mid {α : Type} (f : α → α) (w : List α) (k : Nat) (hk : k < w.length) : ((w.take k).map f ++ w.drop k).set k (f w[k]) = (w.take (k + 1)).map f ++ w.drop (k + 1) := by
  have hl : ((w.take k).map f).length = k := by rw [List.length_map, List.length_take]; omega
  rw [List.set_append_right _ _ (by omega), hl, Nat.sub_self, List.drop_eq_getElem_cons hk, List.set_cons_zero, List.take_succ_eq_append_getElem hk, List.map_append, List.map_singleton, List.append_assoc]
  rfl
theorem mid_len {α : Type} (f : α → α) (w : List α) (k : Nat) (hk : k ≤ w.length) : ((w.take k).map f ++ w.drop k).length = w.length := by
  simp only [List.length_append, List.length_map, List.length_take, List.length_drop]; omega
theorem mid_get {α : Type} (f : α → α) (w : List α) (k : Nat) (hk : k < w.length) : ((w.take k).map f ++ w.drop k)[k]'(by rw [mid_len f w k (by omega)]; exact hk) = w[k] := by
  have hl : ((w.take k).map f).length = k := by rw [List.length_map, List.length_take]; omega
  rw [List.getElem_append_right (by omega)]
  simp only [hl, Nat.sub_self, List.getElem_drop, Nat.add_zero]
theorem l64_3_4 (v3 : Int) (v3_1 : List (Int × Int)) (v4 v5 w1 : Int) (w1_1 : List (Int × Int)) (w1_2 w1_3 : Int) (w2 w : List Int) (pl : Nat) (hp : pl ≤ 8) (hw : w.length = 8) (hb : ∀ j (h : j < w.length), 0 ≤ w[j] ∧ w[j] ≤ 1) : ∀ (f k : Nat), k ≤ pl → pl - k < f →
    L64_3_4 v3 v3_1 v4 v5 (pl : Int) w1 w1_1 w1_2 w1_3 w2 f (k : Int) ((w.take k).map (fun x => 1 + 2 * x) ++ w.drop k) = some ((w.take pl).map (fun x => 1 + 2 * x) ++ w.drop pl)
  | 0, k, _, h => by omega
  | f + 1, k, hk, h => by
    unfold L64_3_4
    by_cases hlt : k < pl
    · have hkw : k < w.length := by omega
      have hb' := hb k hkw
      rw [oif_pos (by simpa using hlt), oif_pos (by simp), oif_pos (by rw [decide_eq_true_eq]; omega), sg_ge (by rw [mid_len _ _ _ (by omega)]; exact hkw), obind_some, mid_get _ _ _ hkw,
        wrap_id (n := 2 * w[k]) (by omega) (by omega), wrap_id (n := 1 + 2 * w[k]) (by omega) (by omega), stL_nat (by rw [mid_len _ _ _ (by omega)]; exact hkw), obind_some, set_mid (fun x => 1 + 2 * x) w k hkw, wrap_succ (by omega)]
      exact l64_3_4 v3 v3_1 v4 v5 w1 w1_1 w1_2 w1_3 w2 w pl hp hw hb f (k + 1) (by omega) (by omega)
    · rw [oif_neg (by simpa using hlt), show k = pl from by omega]
theorem l31_5 (v1 : Int) (v2 : Nat) (v2_1 : List (Int × Int)) (v7 : Int) (w0 : List Bool) (w : List Int) (hw : w.length = v2) (h8 : v2 ≤ 8) (hb : ∀ j (h : j < w.length), 0 ≤ w[j] ∧ w[j] ≤ 1) : ∀ (f k : Nat), k ≤ v2 → v2 - k < f →
    L31_5 v1 (v2 : Int) v2_1 v7 w0 f (k : Int) ((w.take k).map (fun x => 2 * x) ++ w.drop k) = some (w.map (fun x => 2 * x))
  | 0, k, _, h => by omega
  | f + 1, k, hk, h => by
    unfold L31_5
    by_cases hlt : k < v2
    · have hkw : k < w.length := by omega
      have hb' := hb k hkw
      rw [oif_pos (by simpa using hlt), oif_pos (by simp), oif_pos (by rw [decide_eq_true_eq, mid_len _ _ _ (by omega)]; omega), sg_ge (by rw [mid_len _ _ _ (by omega)]; exact hkw), obind_some, mid_get _ _ _ hkw,
        wrap_id (n := 2 * w[k]) (by omega) (by omega), stL_nat (by rw [mid_len _ _ _ (by omega)]; exact hkw), obind_some, set_mid (fun x => 2 * x) w k hkw, wrap_succ (by omega)]
      exact l31_5 v1 v2 v2_1 v7 w0 w hw h8 hb f (k + 1) (by omega) (by omega)
    · rw [oif_neg (by simpa using hlt), List.take_of_length_le (by omega), List.drop_eq_nil_of_le (by omega), List.append_nil]
def x0 (r : Int × List (Int × Int)) (place n : Nat) : List Int := ((pat r.1.toNat n).map (fun x => 2 * x)).set place 1
def hit (r : Int × List (Int × Int)) (place i n : Nat) : Bool := (run r.2 (x0 r place n)).getD i 0 == 1
def hitAny (r : Int × List (Int × Int)) (place i n : Nat) : Bool := (List.range' n (2 ^ r.1.toNat - n)).any (hit r place i)
def canBe (r : Int × List (Int × Int)) (place i : Nat) : Bool := hitAny r place i 0
theorem hit_end {r : Int × List (Int × Int)} {p i n : Nat} (h : 2 ^ r.1.toNat ≤ n) : hitAny r p i n = false := by
  unfold hitAny
  rw [show 2 ^ r.1.toNat - n = 0 from by omega]; rfl
theorem hit_step {r : Int × List (Int × Int)} {p i n : Nat} (h : n < 2 ^ r.1.toNat) : hitAny r p i n = (hit r p i n || hitAny r p i (n + 1)) := by
  unfold hitAny
  rw [show 2 ^ r.1.toNat - n = (2 ^ r.1.toNat - (n + 1)) + 1 from by omega, List.range'_succ, List.any_cons]
theorem x0_len (r : Int × List (Int × Int)) (place n : Nat) : (x0 r place n).length = r.1.toNat := by simp [x0, pat_len]
theorem cx_add (w : List Int) (v : Int × Int) (h1 : 0 ≤ v.1) (h2 : v.1 < v.2) (h3 : v.2 < w.length) : cx (w.map (fun x => 1 + x)) v = (cx w v).map (fun x => 1 + x) := by
  have g1 : (w.map (fun x => 1 + x)).getD v.1.toNat 0 = 1 + w[v.1.toNat]'(by omega) := by rw [getD_get (by simp; omega), List.getElem_map]
  have g2 : (w.map (fun x => 1 + x)).getD v.2.toNat 0 = 1 + w[v.2.toNat]'(by omega) := by rw [getD_get (by simp; omega), List.getElem_map]
  have g3 : w.getD v.1.toNat 0 = w[v.1.toNat]'(by omega) := getD_get (by omega)
  have g4 : w.getD v.2.toNat 0 = w[v.2.toNat]'(by omega) := getD_get (by omega)
  unfold cx
  rw [g1, g2, g3, g4]
  by_cases h : w[v.1.toNat]'(by omega) > w[v.2.toNat]'(by omega)
  · rw [if_pos h, if_pos (by omega), List.map_set, List.map_set]
  · rw [if_neg h, if_neg (by omega)]
theorem run_add (pl : Int) : ∀ (L : List (Int × Int)) (w : List Int), L.any (bad pl) = false → pl ≤ w.length → run L (w.map (fun x => 1 + x)) = (run L w).map (fun x => 1 + x)
  | [], w, _, _ => rfl
  | v :: L, w, h, hl => by
    simp only [List.any_cons, Bool.or_eq_false_iff] at h
    obtain ⟨b1, b2, b3⟩ := bad_not h.1
    rw [show run (v :: L) (w.map (fun x => 1 + x)) = run L (cx (w.map (fun x => 1 + x)) v) from rfl, cx_add w v b1 b2 (by omega), run_add pl L _ h.2 (by rw [cx_len]; exact hl)]
    rfl
theorem pad01 {pl n : Nat} (hp : pl ≤ 8) : ∀ j (h : j < (pad (pat pl n)).length), 0 ≤ (pad (pat pl n))[j] ∧ (pad (pat pl n))[j] ≤ 1 := by
  intro j h
  have hm : (pad (pat pl n))[j] ∈ pad (pat pl n) := List.getElem_mem h
  unfold pad at hm
  rcases List.mem_append.1 hm with hm | hm
  · rcases pat01 hm with e | e <;> unfold pad <;> omega
  · have := List.eq_of_mem_replicate hm
    unfold pad; omega
theorem hit_lane (r : Int × List (Int × Int)) (hc : chk r = 0) (place i n : Nat) (hpl : (place : Int) < r.1) (hi : (i : Int) < r.1) :
    (run r.2 ((((pad (pat r.1.toNat n)).take r.1.toNat).map (fun x => 1 + 2 * x) ++ (pad (pat r.1.toNat n)).drop r.1.toNat).set place 2)).getD i 0 = 1 + (run r.2 (x0 r place n)).getD i 0 := by
  obtain ⟨h1, h2, h3, h4⟩ := chk0 hc
  rw [← take_getD (n := r.1.toNat) _ (by omega), run_take _ _ _ h4]
  have e : List.take r.1.toNat (List.set (List.map (fun x => 1 + 2 * x) (List.take r.1.toNat (pad (pat r.1.toNat n))) ++ List.drop r.1.toNat (pad (pat r.1.toNat n))) place 2) = (x0 r place n).map (fun x => 1 + x) := by
    rw [List.take_set, pad_take (pat_len _ _), List.take_append_of_le_length (by rw [List.length_map, pat_len]; omega), List.take_of_length_le (by rw [List.length_map, pat_len]; omega)]
    unfold x0
    rw [List.map_set, List.map_map]
    rfl
  rw [e, run_add r.1 r.2 _ h4 (by rw [x0_len]; omega)]
  have hl : i < (run r.2 (x0 r place n)).length := by rw [run_len, x0_len]; omega
  rw [getD_get (by simpa using hl), getD_get hl, List.getElem_map]
theorem l64_3_3 (r : Int × List (Int × Int)) (hc : chk r = 0) (place i : Nat) (hp : (place : Int) < r.1) (hi : (i : Int) < r.1) : ∀ (f n : Nat), n < 2 ^ r.1.toNat → 2 ^ r.1.toNat - n + 100 < f →
    L64_3_3 r.1 r.2 r.1 r.2 (place : Int) (i : Int) f (pad (pat r.1.toNat n)) = some (match hitAny r place i n with | true => .inl () | false => .inr ())
  | 0, n, _, hf => by omega
  | f + 1, n, hn, hf => by
    obtain ⟨h1, h2, h3, h4⟩ := chk0 hc
    have hpw := pow_le (pl := r.1.toNat) (by omega)
    have hpl : (pad (pat r.1.toNat n)).length = 8 := pad_len (by rw [pat_len]; omega)
    have e4 := l64_3_4 r.1 r.2 (place : Int) (i : Int) r.1 r.2 (place : Int) (i : Int) (pad (pat r.1.toNat n)) (pad (pat r.1.toNat n)) r.1.toNat (by omega) hpl (pad01 (by omega)) f 0 (by omega) (by omega)
    rw [List.take_zero, List.map_nil, List.nil_append, List.drop_zero, Int.natCast_zero, show ((r.1.toNat : Nat) : Int) = r.1 from by omega] at e4
    have hml := mid_len (fun x => 1 + 2 * x) (pad (pat r.1.toNat n)) r.1.toNat (by omega)
    have hlane := hit_lane r hc place i n hp hi
    unfold L64_3_3
    rw [oif_pos (by rw [decide_eq_true_eq]; exact hpl), oif_pos (by simp), e4, obind_some, oif_pos (by simp), oif_pos (by rw [decide_eq_true_eq]; omega), stL_nat (by omega), obind_some, oif_pos (by rw [decide_eq_true_eq, List.length_set]; omega),
      f40 f r _ hc (by rw [List.length_set]; omega) (by omega), obind_some, sg_ge (by rw [run_len, List.length_set]; omega), obind_some, oif_pos (by rw [decide_eq_true_eq]; omega), hit_step hn]
    rw [getD_get (by rw [run_len, List.length_set]; omega)] at hlane
    rw [hlane]
    have hh : ((1 + (run r.2 (x0 r place n)).getD i 0) == 2) = hit r place i n := by
      unfold hit
      rw [Bool.eq_iff_iff]
      simp only [beq_iff_eq]; omega
    rw [hh]
    cases hb : hit r place i n with
    | true => rfl
    | false =>
      rw [oif_f, wrap_id (by omega) (by omega), l64_3_5 _ _ _ _ _ _ r.1.toNat f _ _ (by omega) (by omega) hpl (by omega), obind_some]
      have hnx := next_pat (pl := r.1.toNat) (n := n) (by omega) (by omega) hn
      have hlt := incr_lt r.1.toNat (pad (pat r.1.toNat n))
      rw [Bool.false_or]
      by_cases he : n + 1 = 2 ^ r.1.toNat
      · rw [if_pos he] at hnx
        rw [oif_pos (by rw [hnx]; rfl), hit_end (by omega)]
      · rw [if_neg he] at hnx
        rw [oif_neg (by rw [decide_eq_false_iff_not]; omega), oif_pos (by rw [decide_eq_true_eq]; omega), oif_pos (by rw [decide_eq_true_eq]; omega), stL_int (by omega) (by rw [incr_len, hpl]; omega), obind_some, hnx.2]
        exact l64_3_3 r hc place i hp hi f (n + 1) (by omega) (by omega)
theorem f57 (fuel : Nat) (r : Int × List (Int × Int)) (hc : chk r = 0) (place i : Nat) (hp : (place : Int) < r.1) (hi : (i : Int) < r.1) (hf : 400 ≤ fuel) : F57 fuel r (place : Int) (i : Int) = some (canBe r place i) := by
  have h := chk0 hc
  have hpw := pow_le (pl := r.1.toNat) (by omega)
  unfold F57 F47 G64_3
  have := l64_3_3 r hc place i hp hi fuel 0 (Nat.pow_pos (by omega)) (by omega)
  rw [pat_zero ⟨r.1.toNat, by omega⟩] at this
  simp only [obind_some, oif_f]
  rw [this]
  unfold canBe
  cases hitAny r place i 0 <;> rfl
theorem l30_2 (r : Int × List (Int × Int)) (hc : chk r = 0) (place : Nat) (hp : (place : Int) < r.1) : ∀ (f k : Nat) (w : List Int), k ≤ r.1.toNat → r.1.toNat - k + 500 < f → w.length ≤ k → L30_2 (place : Int) r.1 r.2 r.1 f (k : Int) w = some (w ++ idx (canBe r place) k (r.1.toNat - k))
  | 0, k, _, _, h, _ => by omega
  | f + 1, k, w, hk, h, hw => by
    have h40 := chk0 hc
    unfold L30_2
    by_cases hlt : k < r.1.toNat
    · rw [oif_pos (by rw [decide_eq_true_eq]; omega), f57 f r hc place k hp (by omega) (by omega), obind_some, wrap_succ (by omega), show r.1.toNat - k = (r.1.toNat - (k + 1)) + 1 from by omega]
      unfold idx
      cases hn : canBe r place k with
      | true => rw [oif_t, if_pos rfl, oif_pos (by rw [decide_eq_true_eq]; omega), l30_2 r hc place hp f (k + 1) _ (by omega) (by omega) (by simp; omega), List.append_assoc]; rfl
      | false => rw [oif_f, if_neg (by simp), l30_2 r hc place hp f (k + 1) _ (by omega) (by omega) (by omega)]
    · rw [oif_neg (by rw [decide_eq_false_iff_not]; omega), show r.1.toNat - k = 0 from by omega]
      simp [idx]
theorem l30_0 (r : Int × List (Int × Int)) (hc : chk r = 0) (place : Nat) (hp : (place : Int) < r.1) : ∀ (f k : Nat), k ≤ r.1.toNat → r.1.toNat - k + 500 < f → L30_0 (place : Int) r.1 r.2 r.1 f (k : Int) = some (idx (canBe r place) k (r.1.toNat - k))
  | 0, k, _, h => by omega
  | f + 1, k, hk, h => by
    have h40 := chk0 hc
    unfold L30_0
    by_cases hlt : k < r.1.toNat
    · rw [oif_pos (by rw [decide_eq_true_eq]; omega), f57 f r hc place k hp (by omega) (by omega), obind_some, wrap_succ (by omega), show r.1.toNat - k = (r.1.toNat - (k + 1)) + 1 from by omega]
      unfold idx
      cases hn : canBe r place k with
      | true => rw [oif_t, if_pos rfl, show decide (1 * 8 ≤ 140737488355328) = true from rfl, oif_t]
                by_cases h0 : k = 0
                · subst h0
                  rw [show [((0:Nat):Int)] = [] ++ [((0:Nat):Int)] from rfl]
                  have := l30_2 r hc place hp f 1 [((0 : Nat) : Int)] (by omega) (by omega) (by simp)
                  rw [List.nil_append, show (0 + 1 : Nat) = 1 from rfl, this]; rfl
                · rw [l30_2 r hc place hp f (k + 1) [(k : Int)] (by omega) (by omega) (by simp)]; rfl
      | false => rw [oif_f, if_neg (by simp), l30_0 r hc place hp f (k + 1) (by omega) (by omega)]
    · rw [oif_neg (by rw [decide_eq_false_iff_not]; omega), show r.1.toNat - k = 0 from by omega]
      rfl
def endR (r : Int × List (Int × Int)) (place : Int) : List Int × Int := if chk r ≠ 0 then ([], chk r) else if place < 0 ∨ place ≥ r.1 then ([], 2) else (idx (canBe r place.toNat) 0 r.1.toNat, 0)
theorem f30 (fuel : Nat) (r : Int × List (Int × Int)) (place : Int) (hf : 800 ≤ fuel) : F30 fuel r place = some (endR r place) := by
  unfold F30 endR
  rw [f39 fuel _ (by omega), obind_some]
  by_cases h : chk r = 0
  · have h4 := chk0 h
    rw [if_neg (by simpa using h), if_neg (by simpa using h)]
    simp only []
    rw [f44 _ _ _ _ (by simp) (by simp; omega), obind_some, wrap_id (by omega) (by omega)]
    simp only [List.any_cons, List.any_nil, Bool.or_false]
    by_cases hp : place < 0 ∨ place ≥ r.1
    · rw [if_pos hp, oif_neg (by
        rcases hp with hp | hp
        · simp [hp]
        · have : place > r.1 - 1 := by omega
          simp [this])]
    · have a1 : ¬ place < 0 := by omega
      have a2 : ¬ place > r.1 - 1 := by omega
      rw [if_neg hp, oif_pos (by simp [a1, a2])]
      have := l30_0 r h place.toNat (by omega) fuel 0 (by omega) (by omega)
      rw [Int.natCast_zero, show ((place.toNat : Nat) : Int) = place from by omega, Nat.sub_zero] at this
      rw [this, obind_some]
  · rw [if_pos h, if_pos h]
    simp only []
    rw [oif_pos (by simpa using h)]
def rg (pl : Nat) (g : Nat → Bool) : List Bool := (List.range pl).map g
theorem rg_len (pl : Nat) (g : Nat → Bool) : (rg pl g).length = pl := by simp [rg]
theorem rg_set (pl : Nat) (g : Nat → Bool) (k : Nat) (b : Bool) : (rg pl g).set k b = rg pl (fun j => if j = k then b else g j) := by
  apply List.ext_getElem
  · simp [rg]
  · intro j h1 h2
    rw [List.getElem_set]
    simp only [rg, List.getElem_map, List.getElem_range]
    by_cases h : k = j
    · rw [if_pos h, if_pos h.symm]
    · rw [if_neg h, if_neg (fun e => h e.symm)]
theorem rg_get (pl : Nat) (g : Nat → Bool) (k : Nat) (h : k < (rg pl g).length) : (rg pl g)[k] = g k := by simp [rg]
theorem rg_ext {pl : Nat} {g g' : Nat → Bool} (h : ∀ j, j < pl → g j = g' j) : rg pl g = rg pl g' := List.map_congr_left fun j hj => h j (List.mem_range.1 hj)
theorem l31_6 (v1 : Int) (pl : Nat) (v2_1 : List (Int × Int)) (v7 : Int) (v8 : List Int) (h8 : v8.length = pl) (hp : pl ≤ 8) (g : Nat → Bool) : ∀ (f k : Nat), k ≤ pl → pl - k < f →
    L31_6 v1 (pl : Int) v2_1 v7 v8 f (k : Int) (rg pl (fun j => g j || (decide (j < k) && (v8.getD j 0 == 1)))) = some (rg pl (fun j => g j || (v8.getD j 0 == 1)))
  | 0, k, _, h => by omega
  | f + 1, k, hk, h => by
    unfold L31_6
    by_cases hlt : k < pl
    · have ih := l31_6 v1 pl v2_1 v7 v8 h8 hp g f (k + 1) (by omega) (by omega)
      have hv : v8.getD k 0 = v8[k]'(by omega) := getD_get (by omega)
      have hgk : (g k || (decide (k < k) && (v8.getD k 0 == 1))) = g k := by simp
      rw [oif_pos (by simpa using hlt), oif_pos (by simp), oif_pos (by rw [decide_eq_true_eq, rg_len]; omega), sg_ge (by rw [rg_len]; exact hlt), obind_some, rg_get, hgk, wrap_succ (by omega)]
      have fin : ∀ b : Bool, b = (g k || (v8.getD k 0 == 1)) → (rg pl (fun j => g j || (decide (j < k) && (v8.getD j 0 == 1)))).set k b = rg pl (fun j => g j || (decide (j < k + 1) && (v8.getD j 0 == 1))) := by
        intro b hb
        rw [rg_set]
        apply rg_ext
        intro j hj
        by_cases e : j = k
        · subst e; simp only [if_true, hb, show j < j + 1 from by omega, decide_true, Bool.true_and]
        · rw [if_neg e]
          by_cases hjk : j < k
          · have : j < k + 1 := by omega
            simp only [hjk, this]
          · have : ¬ j < k + 1 := by omega
            simp only [hjk, this]
      cases hg : g k with
      | true => rw [oif_t, stL_nat (by rw [rg_len]; exact hlt), obind_some, fin true (by rw [hg]; rfl), ih]
      | false =>
        rw [oif_f, sg_ge (by omega), obind_some]
        cases hx : ((v8[k]'(by omega)) == 1) with
        | true => rw [oif_t, stL_nat (by rw [rg_len]; exact hlt), obind_some, fin true (by rw [hg, hv, hx]; rfl), ih]
        | false => rw [oif_f, stL_nat (by rw [rg_len]; exact hlt), obind_some, fin false (by rw [hg, hv, hx]; rfl), ih]
    · rw [oif_neg (by simpa using hlt)]
      congr 1
      apply rg_ext
      intro j hj
      have : j < k := by omega
      simp only [this, decide_true, Bool.true_and]
theorem pat01i (pl n : Nat) : ∀ j (h : j < (pat pl n).length), 0 ≤ (pat pl n)[j] ∧ (pat pl n)[j] ≤ 1 := by
  intro j h
  rcases pat01 (List.getElem_mem h) with e | e <;> omega
theorem l31_0 (r : Int × List (Int × Int)) (hc : chk r = 0) (place : Nat) (hp : (place : Int) < r.1) : ∀ (f n : Nat) (g : Nat → Bool), n ≤ 2 ^ r.1.toNat → 2 ^ r.1.toNat - n + 100 < f →
    L31_0 (place : Int) r.1 r.2 f (n : Int) (rg r.1.toNat g) = some (rg r.1.toNat (fun j => g j || hitAny r place j n))
  | 0, n, _, _, hf => by omega
  | f + 1, n, g, hn, hf => by
    obtain ⟨h1, h2, h3, h4⟩ := chk0 hc
    have hpw := pow_le (pl := r.1.toNat) (by omega)
    unfold L31_0
    rw [oif_pos (by rw [decide_eq_true_eq]; omega), shl_ok (by omega) h2]
    by_cases hlt : n < 2 ^ r.1.toNat
    · have e5 := l31_5 (place : Int) r.1.toNat r.2 (n : Int) (rg r.1.toNat g) (pat r.1.toNat n) (pat_len _ _) (by omega) (pat01i _ _) f 0 (by omega) (by omega)
      rw [List.take_zero, List.map_nil, List.nil_append, List.drop_zero, Int.natCast_zero, show ((r.1.toNat : Nat) : Int) = r.1 from by omega] at e5
      have hne : (pat r.1.toNat n).isEmpty = false := by
        cases hh : pat r.1.toNat n with
        | nil => have := pat_len r.1.toNat n; rw [hh] at this; simp at this; omega
        | cons a b => rfl
      have e42 : F42 f r.2 (x0 r place n) = some (run r.2 (x0 r place n)) := f42 f r _ hc (by rw [x0_len]; omega) (by omega)
      have e6 := l31_6 (place : Int) r.1.toNat r.2 (n : Int) (run r.2 (x0 r place n)) (by rw [run_len, x0_len]) (by omega) g f 0 (by omega) (by omega)
      have eg : rg r.1.toNat (fun j => g j || (decide (j < 0) && ((run r.2 (x0 r place n)).getD j 0 == 1))) = rg r.1.toNat g := rg_ext fun j hj => by simp
      rw [eg, Int.natCast_zero, show ((r.1.toNat : Nat) : Int) = r.1 from by omega] at e6
      rw [oif_pos (by rw [decide_eq_true_eq]; exact Int.ofNat_lt.2 hlt), f58r f r hc n hlt (by omega), obind_some, oif_neg hne, e5, obind_some, oif_pos (by simp), oif_pos (by rw [decide_eq_true_eq, List.length_map, pat_len]; omega),
        stL_nat (by rw [List.length_map, pat_len]; omega), obind_some, show ((pat r.1.toNat n).map (fun x => 2 * x)).set place 1 = x0 r place n from rfl, e42, obind_some, e6, obind_some, wrap_succ (by omega), l31_0 r hc place hp f (n + 1) _ (by omega) (by omega)]
      congr 1
      apply rg_ext
      intro j hj
      rw [hit_step hlt, Bool.or_assoc]
      rfl
    · rw [oif_neg (by rw [decide_eq_false_iff_not]; intro hh; exact hlt (Int.ofNat_lt.1 hh))]
      congr 1
      apply rg_ext
      intro j hj
      rw [hit_end (by omega), Bool.or_false]
theorem l31_9 (v2_1 : List (Int × Int)) (pl : Nat) (hp : pl ≤ 8) (g : Nat → Bool) : ∀ (f k : Nat) (w : List Int), k ≤ pl → pl - k < f → w.length ≤ k → L31_9 (pl : Int) v2_1 (rg pl g) f (k : Int) w = some (w ++ idx g k (pl - k))
  | 0, k, _, _, h, _ => by omega
  | f + 1, k, w, hk, h, hw => by
    unfold L31_9
    by_cases hlt : k < pl
    · rw [oif_pos (by simpa using hlt), oif_pos (by simp), oif_pos (by rw [decide_eq_true_eq, rg_len]; omega), sg_ge (by rw [rg_len]; exact hlt), obind_some, rg_get, wrap_succ (by omega), show pl - k = (pl - (k + 1)) + 1 from by omega]
      unfold idx
      cases hn : g k with
      | true => rw [oif_t, if_pos rfl, oif_pos (by rw [decide_eq_true_eq]; omega), l31_9 v2_1 pl hp g f (k + 1) _ (by omega) (by omega) (by simp; omega), List.append_assoc]; rfl
      | false => rw [oif_f, if_neg (by simp), l31_9 v2_1 pl hp g f (k + 1) _ (by omega) (by omega) (by omega)]
    · rw [oif_neg (by simpa using hlt), show pl - k = 0 from by omega]
      simp [idx]
theorem l31_7 (v2_1 : List (Int × Int)) (pl : Nat) (hp : pl ≤ 8) (g : Nat → Bool) : ∀ (f k : Nat), k ≤ pl → pl - k < f → L31_7 (pl : Int) v2_1 (rg pl g) f (k : Int) = some (idx g k (pl - k))
  | 0, k, _, h => by omega
  | f + 1, k, hk, h => by
    unfold L31_7
    by_cases hlt : k < pl
    · rw [oif_pos (by simpa using hlt), oif_pos (by simp), oif_pos (by rw [decide_eq_true_eq, rg_len]; omega), sg_ge (by rw [rg_len]; exact hlt), obind_some, rg_get, wrap_succ (by omega), show pl - k = (pl - (k + 1)) + 1 from by omega]
      unfold idx
      cases hn : g k with
      | true => rw [oif_t, if_pos rfl, show decide (1 * 8 ≤ 140737488355328) = true from rfl, oif_t]
                by_cases h0 : k = 0
                · subst h0
                  have := l31_9 v2_1 pl hp g f 1 [((0 : Nat) : Int)] (by omega) (by omega) (by simp)
                  rw [show (0 + 1 : Nat) = 1 from rfl, this]; rfl
                · rw [l31_9 v2_1 pl hp g f (k + 1) [(k : Int)] (by omega) (by omega) (by simp)]; rfl
      | false => rw [oif_f, if_neg (by simp), l31_7 v2_1 pl hp g f (k + 1) (by omega) (by omega)]
    · rw [oif_neg (by simpa using hlt), show pl - k = 0 from by omega]
      rfl
theorem f31 (fuel : Nat) (r : Int × List (Int × Int)) (place : Int) (hf : 800 ≤ fuel) : F31 fuel r place = some (endR r place) := by
  unfold F31 endR
  rw [f12 fuel _ (by omega), obind_some]
  by_cases h : chk r = 0
  · have h4 := chk0 h
    have hpw := pow_le (pl := r.1.toNat) (by omega)
    rw [oif_neg (by simpa using h), if_neg (by simpa using h), oif_dec, oif_dec]
    by_cases a1 : place < 0
    · rw [if_pos a1, if_pos (Or.inl a1)]
    · by_cases a2 : place ≥ r.1
      · rw [if_neg a1, if_pos a2, if_pos (Or.inr a2)]
      · rw [if_neg a1, if_neg a2, if_neg (by omega), oif_pos (by rw [decide_eq_true_eq]; omega), oif_pos (by rw [decide_eq_true_eq]; omega), oif_pos (by rw [decide_eq_true_eq]; omega)]
        have e0 := l31_0 r h place.toNat (by omega) fuel 0 (fun _ => false) (Nat.zero_le _) (by omega)
        have ez : rg r.1.toNat (fun _ => false) = List.replicate r.1.toNat (false : Bool) := by
          apply List.ext_getElem
          · simp [rg]
          · intro j h1 h2; simp [rg]
        have e7 := l31_7 r.2 r.1.toNat (by omega) (fun j => false || hitAny r place.toNat j 0) fuel 0 (by omega) (by omega)
        rw [Int.natCast_zero, show ((r.1.toNat : Nat) : Int) = r.1 from by omega, Nat.sub_zero] at e7
        rw [ez, Int.natCast_zero, show ((place.toNat : Nat) : Int) = place from by omega] at e0
        rw [e0, obind_some, e7, obind_some]
        have ei : (fun j => false || hitAny r place.toNat j 0) = canBe r place.toNat := by funext j; rw [Bool.false_or]; rfl
        rw [ei]
  · rw [oif_pos (by simpa using h), if_pos h]
end Go.Idl.N
set_option linter.unusedSimpArgs false
set_option linter.unusedVariables false
namespace Go.Idl.N
open Go Go.Idl
theorem keepF_len (p : Nat → Bool) : ∀ (L : List (Int × Int)) (k : Nat), (keepF p k L).length ≤ L.length
  | [], k => by simp [keepF]
  | v :: L, k => by
    have := keepF_len p L (k + 1)
    unfold keepF
    split <;> simp only [List.length_cons] <;> omega
theorem few {r : Int × List (Int × Int)} (h : r.2.length ≤ 50) (place : Int) : (ndls r).1.length ≤ 50 ∧ (cutR r).1.2.length ≤ 50 ∧ (rndR r).1.length ≤ 50 ∧ (endR r place).1.length ≤ 50 ∧ (mirR r).1.2.length ≤ 50 := by
  refine ⟨?_, ?_, ?_, ?_, ?_⟩
  · unfold ndls; split
    · simp
    · have := idx_len (ndl r) 0 r.2.length; show (idx (ndl r) 0 r.2.length).length ≤ 50; omega
  · unfold cutR; split
    · simp
    · have := keepF_len (ndl r) r.2 0; show (keepF (ndl r) 0 r.2).length ≤ 50; omega
  · unfold rndR; split
    · simp
    · show ((rnds r.2 []).map (·.2)).length ≤ 50; rw [List.length_map, rnds_len]; simp; omega
  · unfold endR; split
    · simp
    · rename_i hc
      have := chk0 (Decidable.not_not.1 hc)
      split
      · simp
      · have := idx_len (canBe r place.toNat) 0 r.1.toNat; show (idx (canBe r place.toNat) 0 r.1.toNat).length ≤ 50; omega
  · unfold mirR; split
    · simp
    · show (r.2.map (mirV r.1)).length ≤ 50; rw [List.length_map]; exact h
theorem law5 (r : Int × List (Int × Int)) (p : Int) : F5 1000 r p = some true := by
  unfold F5
  rw [f6, obind_some]
  by_cases h : r.2.length > 50
  · rw [oif_pos (by simpa using h), f7k]; rfl
  · rw [oif_neg (by simpa using h), f8 _ _ (by show r.2.length ≤ _; omega), obind_some]
    obtain ⟨a1, a2, a3, a4, a5⟩ := few (r := r) (by omega) p
    have k1 := f24 1000 r (by omega)
    have k2 := f25 1000 r (by omega)
    have k3 := f26 1000 r (by omega)
    have k4 := f27 1000 r (by omega)
    have k5 := f28 1000 r (by omega)
    have k6 := f29 1000 r (by omega)
    have k7 := f30 1000 r p (by omega)
    have k8 := f31 1000 r p (by omega)
    have k9 := f32 1000 r (by omega)
    have k10 := f33 1000 r (by omega)
    have k11 := f23 1000 (ndls r).1 (by omega) (by omega)
    have k12 := f14 1000 (cutR r).1 (by omega) (by omega)
    have k13 := f23 1000 (rndR r).1 (by omega) (by omega)
    have k14 := f23 1000 (endR r p).1 (by omega) (by omega)
    have k15 := f14 1000 (mirR r).1 (by omega) (by omega)
    have k16 := f14 1000 r (by omega) (by omega)
    have k17 := f7k
    have n1 : ((ndls r).2 != (ndls r).2) = false := by simp
    have n2 : ((cutR r).2 != (cutR r).2) = false := by simp
    have n3 : ((rndR r).2 != (rndR r).2) = false := by simp
    have n4 : ((endR r p).2 == (endR r p).2) = true := by simp
    have n5 : ((mirR r).2 == (mirR r).2) = true := by simp
    simp only [Prod.eta, k1, k2, k3, k4, k5, k6, k7, k8, k9, k10, k11, k12, k13, k14, k15, k16, k17, n1, n2, n3, n4, n5, obind_some, oif_t, oif_f]
end Go.Idl.N
