/-
  Part G of a proof: plain laws of the natives.
-/
import Derived.Test.YteplblnmhmdpnaaF
import Derived.Test.YteplblnmhmdpnaaProg
set_option linter.unusedSimpArgs false
set_option linter.unusedVariables false
namespace Go.Idl.N
open Go Go.Idl
theorem f7 : F7 400 = some true := by kernel_rfl
def bad (pl : Int) (v : Int × Int) : Bool := decide (v.1 < 0) || decide (v.1 ≥ v.2) || decide (v.2 ≥ pl)
def chk (r : Int × List (Int × Int)) : Int := if r.1 < 1 ∨ r.1 > 8 ∨ r.2.length > 40 then 6 else if r.2.any (bad r.1) then 2 else 0
theorem l12 (pl : Int) (L : List (Int × Int)) (hl : L.length ≤ 1000000) : ∀ (f k : Nat), k ≤ L.length → L.length - k < f → L12_0 pl L f (k : Int) = some (if (L.drop k).any (bad pl) then .inl () else .inr ())
  | 0, k, _, h => by omega
  | f + 1, k, hk, h => by
    unfold L12_0
    by_cases hlt : k < L.length
    · have ih := l12 pl L hl f (k + 1) (by omega) (by omega)
      rw [oif_pos (by simpa using hlt), sg_ge hlt, obind_some, List.drop_eq_getElem_cons hlt, List.any_cons, wrap_succ (by omega), ih]
      simp only [oif_dec, bad]
      by_cases h1 : L[k].1 < 0
      · simp [h1]
      · by_cases h2 : L[k].1 ≥ L[k].2
        · simp [h1, h2]
        · by_cases h3 : L[k].2 ≥ pl
          · simp [h1, h2, h3]
          · simp only [h1, h2, h3, if_false, decide_false, Bool.false_or, Bool.or_false]
    · rw [oif_neg (by simpa using hlt)]
      have : k = L.length := by omega
      subst this
      simp
theorem f12 (fuel : Nat) (r : Int × List (Int × Int)) (hf : 60 ≤ fuel) : F12 fuel r = some (chk r) := by
  unfold F12 chk
  simp only [oif_dec]
  by_cases h1 : r.1 < 1
  · simp [h1]
  · by_cases h2 : r.1 > 8
    · simp [h1, h2]
    · by_cases h3 : (r.2.length : Int) > 40
      · have : r.2.length > 40 := by omega
        simp [h1, h2, h3, this]
      · have h4 : ¬ (r.2.length > 40) := by omega
        have := l12 r.1 r.2 (by omega) fuel 0 (by omega) (by omega)
        rw [Int.natCast_zero] at this
        rw [this]
        simp only [h1, h2, h3, h4, if_false, false_or, List.drop_zero]
        cases List.any r.2 (bad r.1) <;> rfl
theorem f62 (fuel : Nat) (n lo hi : Int) : F62 fuel n lo hi = some (decide (n < lo) || decide (n > hi)) := by
  unfold F62
  simp only [oif_dec]
  by_cases h1 : n < lo
  · simp [h1]
  · by_cases h2 : n > hi <;> simp [h1, h2]
theorem l68 (v0 : List Int) (lo hi : Int) (hl : v0.length ≤ 1000000) : ∀ (f k : Nat), k ≤ v0.length → v0.length - k < f → ∃ y, L68_0 v0 lo hi (v0.length : Int) f (k : Int) = some y ∧
    (match y with | .inl i => 0 ≤ i ∧ (v0.drop k).any (fun n => decide (n < lo) || decide (n > hi)) = true | .inr _ => (v0.drop k).any (fun n => decide (n < lo) || decide (n > hi)) = false)
  | 0, k, _, h => by omega
  | f + 1, k, hk, h => by
    unfold L68_0
    by_cases hlt : k < v0.length
    · obtain ⟨y, e, hy⟩ := l68 v0 lo hi hl f (k + 1) (by omega) (by omega)
      rw [oif_pos (by simpa using hlt), sg_ge hlt, obind_some, f62, obind_some, List.drop_eq_getElem_cons hlt, List.any_cons, wrap_succ (by omega), e]
      cases hc : (decide (v0[k] < lo) || decide (v0[k] > hi)) with
      | true => exact ⟨_, rfl, by omega, by simp⟩
      | false =>
        refine ⟨y, rfl, ?_⟩
        simpa using hy
    · rw [oif_neg (by simpa using hlt)]
      have : k = v0.length := by omega
      subst this
      exact ⟨_, rfl, by simp⟩
theorem f61 (fuel : Nat) (l : List Int) (lo hi : Int) (hl : l.length ≤ 1000000) (hf : l.length < fuel) : F61 fuel l lo hi = some (l.any fun n => decide (n < lo) || decide (n > hi)) := by
  obtain ⟨y, e, hy⟩ := l68 l lo hi hl fuel 0 (by omega) (by omega)
  rw [Int.natCast_zero] at e
  unfold F61 F68
  rw [e, obind_some]
  cases y with
  | inl i => simp only [List.drop_zero] at hy; simp only [obind_some, oif_dec, hy.1, hy.2]; simp [hy.1]
  | inr u => simp only [List.drop_zero] at hy; simp only [obind_some, oif_dec, hy]; simp
theorem f44 (fuel : Nat) (l : List Int) (lo hi : Int) (hl : l.length ≤ 1000000) (hf : l.length < fuel) : F44 fuel lo hi l = some (!(l.any fun n => decide (n < lo) || decide (n > hi))) := by
  unfold F44
  rw [f61 fuel l lo hi hl hf, obind_some]
  cases l.any fun n => decide (n < lo) || decide (n > hi) <;> rfl
theorem f43 (fuel : Nat) (v : Int × Int) (r : Int × List (Int × Int)) (h1 : 1 ≤ r.1) (h2 : r.1 ≤ 8) (hf : 60 ≤ fuel) : F43 fuel v r = some (bad r.1 v) := by
  unfold F43
  rw [f44 _ _ _ _ (by simp) (by simp; omega), obind_some, wrap_id (by omega) (by omega)]
  simp only [oif_dec, oif_ite, bad, List.any_cons, List.any_nil]
  by_cases a1 : v.1 < 0
  · simp [a1]
  · by_cases a2 : v.1 ≥ v.2
    · by_cases a3 : v.1 > r.1 - 1 <;> by_cases a4 : v.2 < 0 <;> by_cases a5 : v.2 > r.1 - 1 <;> simp [a1, a2, a3, a4, a5]
    · by_cases a3 : v.2 ≥ r.1
      · have : v.2 > r.1 - 1 := by omega
        simp [a1, a2, a3, this]
      · have b1 : ¬ v.2 > r.1 - 1 := by omega
        have b2 : ¬ v.1 > r.1 - 1 := by omega
        have b3 : ¬ v.2 < 0 := by omega
        simp [a1, a2, a3, b1, b2, b3]
theorem l63 (v0 L : List (Int × Int)) (pl : Int) (h1 : 1 ≤ pl) (h2 : pl ≤ 8) (hl : v0.length ≤ 1000000) : ∀ (f k : Nat), k ≤ v0.length → v0.length - k + 60 < f → ∃ y, L63_0 v0 pl L (v0.length : Int) f (k : Int) = some y ∧
    (match y with | .inl i => 0 ≤ i ∧ (v0.drop k).any (bad pl) = true | .inr _ => (v0.drop k).any (bad pl) = false)
  | 0, k, _, h => by omega
  | f + 1, k, hk, h => by
    unfold L63_0
    by_cases hlt : k < v0.length
    · obtain ⟨y, e, hy⟩ := l63 v0 L pl h1 h2 hl f (k + 1) (by omega) (by omega)
      rw [oif_pos (by simpa using hlt), sg_ge hlt, obind_some, f43 _ _ _ h1 h2 (by omega), obind_some, List.drop_eq_getElem_cons hlt, List.any_cons, wrap_succ (by omega), e]
      cases hc : bad pl v0[k] with
      | true => 
        exact ⟨_, rfl, by omega, by simp⟩
      | false =>
        refine ⟨y, rfl, ?_⟩
        simpa using hy
    · rw [oif_neg (by simpa using hlt)]
      have : k = v0.length := by omega
      subst this
      exact ⟨_, rfl, by simp⟩
theorem f45 (fuel : Nat) (l : List (Int × Int)) (r : Int × List (Int × Int)) (h1 : 1 ≤ r.1) (h2 : r.1 ≤ 8) (hl : l.length ≤ 1000000) (hf : l.length + 60 < fuel) : F45 fuel l r = some (l.any (bad r.1)) := by
  obtain ⟨y, e, hy⟩ := l63 l r.2 r.1 h1 h2 hl fuel 0 (by omega) (by omega)
  rw [Int.natCast_zero] at e
  unfold F45 F63
  simp only [e, obind_some]
  cases y with
  | inl i => simp only [List.drop_zero] at hy; simp only [obind_some, oif_dec, hy.1, hy.2]; simp [hy.1]
  | inr u => simp only [List.drop_zero] at hy; simp only [obind_some, oif_dec, hy]; simp
theorem f11 (fuel : Nat) (r : Int × List (Int × Int)) (hf : 200 ≤ fuel) : F11 fuel r = some (chk r) := by
  unfold F11
  rw [f44 _ _ _ _ (by simp) (by simp; omega), obind_some]
  simp only [oif_dec, oif_ite, List.any_cons, List.any_nil, Bool.or_false]
  unfold chk
  by_cases h1 : r.1 < 1
  · simp [h1]
  · by_cases h2 : r.1 > 8
    · simp [h1, h2]
    · by_cases h3 : (r.2.length : Int) > 40
      · have : r.2.length > 40 := by omega
        simp [h1, h2, h3, this]
      · have h4 : ¬ (r.2.length > 40) := by omega
        rw [f45 _ _ _ (by show 1 ≤ r.1; omega) (by show r.1 ≤ 8; omega) (by omega) (by omega)]
        simp only [h1, h2, h3, h4, if_false, false_or, decide_false, Bool.or_false, Bool.not_false, if_true, obind_some]
        cases List.any r.2 (bad r.1) <;> rfl
def cx (w : List Int) (v : Int × Int) : List Int := if w.getD v.1.toNat 0 > w.getD v.2.toNat 0 then (w.set v.1.toNat (w.getD v.2.toNat 0)).set v.2.toNat (w.getD v.1.toNat 0) else w
def run (L : List (Int × Int)) (w : List Int) : List Int := L.foldl cx w
theorem cx_len (w : List Int) (v : Int × Int) : (cx w v).length = w.length := by unfold cx; split <;> simp
theorem run_len : ∀ (L : List (Int × Int)) (w : List Int), (run L w).length = w.length
  | [], w => rfl
  | v :: L, w => by rw [show run (v :: L) w = run L (cx w v) from rfl, run_len L, cx_len]
theorem bad_not {pl : Int} {v : Int × Int} (h : bad pl v = false) : 0 ≤ v.1 ∧ v.1 < v.2 ∧ v.2 < pl := by
  unfold bad at h
  simp only [Bool.or_eq_false_iff, decide_eq_false_iff_not] at h
  omega
theorem any_drop {pl : Int} {L : List (Int × Int)} (h : L.any (bad pl) = false) {k : Nat} (hk : k < L.length) : bad pl L[k] = false := by
  rw [List.any_eq_false] at h
  simpa using h L[k] (List.getElem_mem hk)
theorem getD_get {l : List Int} {i : Nat} (h : i < l.length) : l.getD i 0 = l[i] := by simp [h]
theorem l40 (L : List (Int × Int)) (W : List Int) (pl : Int) (hp : pl ≤ 8) (hb : L.any (bad pl) = false) (hl : L.length ≤ 1000000) : ∀ (f k : Nat) (w : List Int), k ≤ L.length → L.length - k < f → w.length = 8 →
    L40_0 L (L.length : Int) W f (k : Int) w = some (run (L.drop k) w)
  | 0, k, _, _, h, _ => by omega
  | f + 1, k, w, hk, h, hw => by
    unfold L40_0
    by_cases hlt : k < L.length
    · obtain ⟨b1, b2, b3⟩ := bad_not (any_drop hb hlt)
      rw [oif_pos (by simpa using hlt), sg_ge hlt, obind_some, oif_pos (by simpa using b1), oif_pos (by rw [decide_eq_true_eq]; omega), sg_int b1 (by omega), obind_some,
        oif_pos (by rw [decide_eq_true_eq]; omega), oif_pos (by rw [decide_eq_true_eq]; omega), sg_int (by omega) (by omega), obind_some, List.drop_eq_getElem_cons hlt, wrap_succ (by omega)]
      rw [show run (L[k] :: L.drop (k + 1)) w = run (L.drop (k + 1)) (cx w L[k]) from rfl]
      have g1 : w.getD L[k].1.toNat 0 = w[L[k].1.toNat]'(by omega) := getD_get _
      have g2 : w.getD L[k].2.toNat 0 = w[L[k].2.toNat]'(by omega) := getD_get _
      have ih := l40 L W pl hp hb hl f (k + 1) (cx w L[k]) (by omega) (by omega) (by rw [cx_len]; exact hw)
      rw [oif_dec]
      unfold cx at ih ⊢
      rw [g1, g2] at ih ⊢
      split
      · rename_i hgt
        rw [if_pos hgt] at ih
        rw [stL_int b1 (by omega), obind_some, stL_int (by omega) (by rw [List.length_set]; omega), obind_some, ih]
      · rename_i hgt
        rw [if_neg hgt] at ih
        exact ih
    · rw [oif_neg (by simpa using hlt)]
      have : k = L.length := by omega
      subst this
      simp [run]
theorem cx_mm (w : List Int) (i j : Nat) (hi : i < w.length) (hj : j < w.length) : (w.set i (minL w[i] [w[j]])).set j (maxL w[i] [w[j]]) = if w[i] > w[j] then (w.set i w[j]).set j w[i] else w := by
  rw [minL1, maxL1]
  by_cases h : w[i] > w[j]
  · have h2 : ¬ w[j] > w[i] := by omega
    have h1 : w[j] < w[i] := h
    simp only [h, h1, h2, if_true, if_false]
  · by_cases h2 : w[j] > w[i]
    · have h1 : ¬ w[j] < w[i] := h
      simp only [h, h1, h2, if_true, if_false, List.set_getElem_self]
    · have h1 : ¬ w[j] < w[i] := h
      have e : w[i] = w[j] := by omega
      simp only [h, h1, h2, if_true, if_false]
      rw [List.set_getElem_self]
      rw [e, List.set_getElem_self]
theorem l42 (L : List (Int × Int)) (pl : Int) (hb : L.any (bad pl) = false) (hl : L.length ≤ 1000000) : ∀ (f k : Nat) (w : List Int), k ≤ L.length → L.length - k < f → pl ≤ (w.length : Int) →
    L42_1 L f (k : Int) w = some (run (L.drop k) w)
  | 0, k, _, _, h, _ => by omega
  | f + 1, k, w, hk, h, hw => by
    unfold L42_1
    by_cases hlt : k < L.length
    · obtain ⟨b1, b2, b3⟩ := bad_not (any_drop hb hlt)
      rw [oif_pos (by simpa using hlt), sg_ge hlt, obind_some, oif_pos (by simpa using b1), oif_pos (by rw [decide_eq_true_eq]; omega), sg_int b1 (by omega), obind_some,
        oif_pos (by rw [decide_eq_true_eq]; omega), oif_pos (by rw [decide_eq_true_eq]; omega), sg_int (by omega) (by omega), obind_some, List.drop_eq_getElem_cons hlt, wrap_succ (by omega),
        stL_int b1 (by omega), obind_some, stL_int (by omega) (by rw [List.length_set]; omega), obind_some]
      rw [show run (L[k] :: L.drop (k + 1)) w = run (L.drop (k + 1)) (cx w L[k]) from rfl]
      have g1 : w.getD L[k].1.toNat 0 = w[L[k].1.toNat]'(by omega) := getD_get _
      have g2 : w.getD L[k].2.toNat 0 = w[L[k].2.toNat]'(by omega) := getD_get _
      have ih := l42 L pl hb hl f (k + 1) (cx w L[k]) (by omega) (by omega) (by rw [cx_len]; exact hw)
      rw [← ih]
      congr 1
      unfold cx
      rw [g1, g2]
      exact cx_mm w _ _ _ _
    · rw [oif_neg (by simpa using hlt)]
      have : k = L.length := by omega
      subst this
      simp [run]
theorem take_getD (w : List Int) {i n : Nat} (h : i < n) : (w.take n).getD i 0 = w.getD i 0 := by
  simp only [List.getD_eq_getElem?_getD, List.getElem?_take, if_pos h]
theorem cx_take (w : List Int) (v : Int × Int) (pl : Int) (h : bad pl v = false) : (cx w v).take pl.toNat = cx (w.take pl.toNat) v := by
  obtain ⟨b1, b2, b3⟩ := bad_not h
  unfold cx
  rw [take_getD w (by omega), take_getD w (by omega)]
  split
  · rw [List.take_set, List.take_set]
  · rfl
theorem run_take (pl : Int) : ∀ (L : List (Int × Int)) (w : List Int), L.any (bad pl) = false → (run L w).take pl.toNat = run L (w.take pl.toNat)
  | [], w, _ => rfl
  | v :: L, w, h => by
    simp only [List.any_cons, Bool.or_eq_false_iff] at h
    rw [show run (v :: L) w = run L (cx w v) from rfl, run_take pl L _ h.2, cx_take _ _ _ h.1]
    rfl
theorem f40 (fuel : Nat) (r : Int × List (Int × Int)) (w : List Int) (hc : chk r = 0) (hw : w.length = 8) (hf : 60 ≤ fuel) : F40 fuel r w (r.2.length : Int) = some (run r.2 w) := by
  unfold chk at hc
  have hv : ¬ (r.1 < 1 ∨ r.1 > 8 ∨ r.2.length > 40) := by intro hh; rw [if_pos hh] at hc; cases hc
  rw [if_neg hv] at hc
  have hb : r.2.any (bad r.1) = false := by cases h : r.2.any (bad r.1) <;> simp [h] at hc ⊢
  unfold F40
  have e : subL r.2 none (some (r.2.length : Int)) = some r.2 := by
    unfold subL
    rw [if_pos (And.intro (fun v h => by cases h) (fun v h => by cases h; omega))]
    simp [natO]
  have := l40 r.2 (List.replicate 8 0) r.1 (by omega) hb (by omega) fuel 0 w (by omega) (by omega) hw
  rw [Int.natCast_zero] at this
  rw [e, obind_some, this, obind_some, oif_pos (by simp [run_len, hw]), oif_pos (by simp)]
  simp
theorem chk0 {r : Int × List (Int × Int)} (hc : chk r = 0) : 1 ≤ r.1 ∧ r.1 ≤ 8 ∧ r.2.length ≤ 40 ∧ r.2.any (bad r.1) = false := by
  unfold chk at hc
  have hv : ¬ (r.1 < 1 ∨ r.1 > 8 ∨ r.2.length > 40) := by intro hh; rw [if_pos hh] at hc; cases hc
  rw [if_neg hv] at hc
  have hb : r.2.any (bad r.1) = false := by cases h : r.2.any (bad r.1) <;> simp [h] at hc ⊢
  exact ⟨by omega, by omega, by omega, hb⟩
theorem f41 (fuel : Nat) (l : List Int) (hl : l.length ≤ 1000000) : F41 fuel l = some l := by
  unfold F41
  cases l with
  | nil => rfl
  | cons a l => rw [oif_neg (List.isEmpty_cons ..), oif_pos (by rw [decide_eq_true_eq, List.length_map]; simp only [List.length_cons] at hl ⊢; omega)]
def ran (r : Int × List (Int × Int)) (p : List Int) : List Int × Int := if chk r ≠ 0 then ([], chk r) else if (p.length : Int) ≠ r.1 then ([], 15) else (run r.2 p, 0)
theorem f39 (fuel : Nat) (r : Int × List (Int × Int)) (hf : 200 ≤ fuel) : F39 fuel r = some (if chk r ≠ 0 then .inl (chk r) else .inr ()) := by
  unfold F39
  rw [f11 fuel _ hf, obind_some, oif_ite]
  by_cases h : chk r = 0
  · rw [if_neg (by simp [h]), if_neg (by simp [h])]
  · rw [if_pos (by simpa using h), if_pos h]
theorem f9 (fuel : Nat) (r : Int × List (Int × Int)) (p : List Int) (hf : 200 ≤ fuel) : F9 fuel r p = some (ran r p) := by
  unfold F9
  rw [f39 fuel _ hf, obind_some]
  unfold ran
  by_cases h : chk r = 0
  · rw [if_neg (by simpa using h), if_neg (by simpa using h)]
    obtain ⟨h1, h2, h3, h4⟩ := chk0 h
    simp only []
    by_cases hp : (p.length : Int) = r.1
    · rw [if_neg (by simpa using hp), oif_neg (by simpa using hp)]
      have hcl : (copyL (List.replicate 8 (0 : Int)) p).length = 8 := by rw [copyL_len]; simp
      have hct : (copyL (List.replicate 8 (0 : Int)) p).take r.1.toNat = p := by
        unfold copyL
        have e : Nat.min p.length (List.replicate 8 (0:Int)).length = p.length := by
          simp only [List.length_replicate]; exact Nat.min_eq_left (by omega)
        rw [e, List.take_length, List.take_append_of_le_length (by omega), List.take_of_length_le (by omega)]
      rw [oif_pos (by simp), oif_pos (by simpa using hcl), f40 fuel _ _ h hcl (by omega), obind_some, oif_pos (by rw [decide_eq_true_eq, run_len]; exact hcl), oif_pos (by rw [decide_eq_true_eq]; omega), oif_pos (by rw [decide_eq_true_eq]; show r.1 ≤ 8; omega),
        oif_pos (by rw [decide_eq_true_eq, run_len, hcl]; omega), f41 _ _ (by simp only [List.length_take, run_len, hcl]; omega), obind_some, run_take _ _ _ h4, hct]
    · rw [if_pos (by simpa using hp), oif_pos (by simpa using hp)]
  · rw [if_pos h, if_pos h]
    simp only []
    rw [oif_pos (by simpa using h)]
theorem f10 (fuel : Nat) (r : Int × List (Int × Int)) (p : List Int) (hf : 200 ≤ fuel) (hl : p.length ≤ 1000000) : F10 fuel r p = some (ran r p) := by
  unfold F10
  rw [f12 fuel _ (by omega), obind_some]
  unfold ran
  by_cases h : chk r = 0
  · rw [if_neg (by simpa using h), oif_neg (by simpa using h)]
    obtain ⟨h1, h2, h3, h4⟩ := chk0 h
    by_cases hp : (p.length : Int) = r.1
    · rw [if_neg (by simpa using hp), oif_neg (by simpa using hp)]
      unfold F42
      have := l42 r.2 r.1 h4 (by omega) fuel 0 p (by omega) (by omega) (by omega)
      rw [Int.natCast_zero] at this
      rw [oif_neg (by cases p <;> simp at hp ⊢; omega), oif_pos (by rw [decide_eq_true_eq, List.length_map]; omega), this, obind_some, obind_some, List.drop_zero]
    · rw [if_pos (by simpa using hp), oif_pos (by simpa using hp)]
  · rw [if_pos h, oif_pos (by simpa using h)]
theorem l13 (l : List Int) (hl : l.length ≤ 1000000) : ∀ (f k : Nat), k ≤ l.length → l.length - k < f → L13_0 l l f (k : Int) = some (.inr ())
  | 0, k, _, h => by omega
  | f + 1, k, hk, h => by
    unfold L13_0
    by_cases hlt : k < l.length
    · rw [oif_pos (by simpa using hlt), sg_ge hlt, obind_some, obind_some, oif_neg (by simp), wrap_succ (by omega)]
      exact l13 l hl f (k + 1) (by omega) (by omega)
    · rw [oif_neg (by simpa using hlt)]
theorem f13 (fuel : Nat) (l : List Int) (hl : l.length ≤ 1000000) (hf : l.length < fuel) : F13 fuel l l = some true := by
  unfold F13
  have := l13 l hl fuel 0 (by omega) (by omega)
  rw [Int.natCast_zero] at this
  rw [oif_neg (by simp), this]
  rfl
theorem l14 (a : Int) (b : Int) (l : List (Int × Int)) (hl : l.length ≤ 1000000) : ∀ (f k : Nat), k ≤ l.length → l.length - k < f → L14_0 a l b l f (k : Int) = some (.inr ())
  | 0, k, _, h => by omega
  | f + 1, k, hk, h => by
    unfold L14_0
    by_cases hlt : k < l.length
    · rw [oif_pos (by simpa using hlt), sg_ge hlt, obind_some, obind_some, oif_neg (by simp), wrap_succ (by omega)]
      exact l14 a b l hl f (k + 1) (by omega) (by omega)
    · rw [oif_neg (by simpa using hlt)]
theorem f14 (fuel : Nat) (r : Int × List (Int × Int)) (hl : r.2.length ≤ 1000000) (hf : r.2.length < fuel) : F14 fuel r r = some true := by
  unfold F14
  have := l14 r.1 r.1 r.2 hl fuel 0 (by omega) (by omega)
  rw [Int.natCast_zero] at this
  rw [oif_neg (by simp), oif_neg (by simp), this]
  rfl
theorem f8 (fuel : Nat) (r : Int × List (Int × Int)) (hl : r.2.length ≤ 1000000) : F8 fuel r = some r := by
  unfold F8
  obtain ⟨a, l⟩ := r
  cases l with
  | nil => rfl
  | cons x l => rw [oif_neg (show List.isEmpty (a, x :: l).2 = false from rfl), oif_pos (by rw [decide_eq_true_eq, List.length_map]; simp only [List.length_cons] at hl ⊢; omega)]
theorem f6 (fuel : Nat) (r : Int × List (Int × Int)) : F6 fuel r = some (decide (r.2.length > 50)) := by
  unfold F6
  rw [oif_bool]
  congr 1
  simp only [decide_eq_decide]; omega
theorem ran_len (r : Int × List (Int × Int)) (p : List Int) : (ran r p).1.length ≤ p.length := by
  unfold ran
  split
  · simp
  · split
    · simp
    · simp [run_len]
theorem law3 (r : Int × List (Int × Int)) (p : List Int) : F3 400 r p = some true := by
  unfold F3
  rw [f6, obind_some]
  by_cases h : r.2.length > 50
  · rw [oif_pos (by simpa using h), f7]; rfl
  · rw [oif_neg (by simpa using h)]
    by_cases h2 : (p.length : Int) > 12
    · rw [oif_pos (by simpa using h2), f7]; rfl
    · rw [oif_neg (by simpa using h2), f8 _ _ (by show r.2.length ≤ _; omega), obind_some]
      have hr : (ran r p).1.length ≤ 12 := by have := ran_len r p; omega
      have k1 := f9 400 r p (by omega)
      have k2 := f10 400 r p (by omega) (by omega)
      have k3 := f11 400 r (by omega)
      have k4 := f12 400 r (by omega)
      have k5 := f13 400 (ran r p).1 (by omega) (by omega)
      have k6 := f14 400 r (by omega) (by omega)
      have k7 := f13 400 p (by omega) (by omega)
      have k8 := f7
      cases p with
      | nil => simp only [List.isEmpty_nil, oif_t, k1, k2, k3, k4, k5, k6, k7, k8, obind_some, oif_ite, beq_self_eq_true, if_true, Bool.false_eq_true, if_false]
      | cons x p =>
        have hs : decide ((List.length (List.map e2 (x :: p))) * 8 ≤ 140737488355328) = true := by rw [decide_eq_true_eq, List.length_map]; omega
        simp only [List.isEmpty_cons, oif_f, hs, oif_t, k1, k2, k3, k4, k5, k6, k7, k8, obind_some, oif_ite, beq_self_eq_true, if_true, Bool.false_eq_true, if_false]
end Go.Idl.N
