/-
  Part F of a proof: plain laws of the natives.
-/
import Derived.Test.YtmhnhhcnglpbgaaE
import Derived.Test.YtmhnhhcnglpbgaaProg
set_option linter.unusedSimpArgs false
set_option linter.unusedVariables false
set_option linter.unusedSectionVars false
namespace Go.Idl.N
open Go Go.Idl
theorem f9k : F9 1000 = some true := by kernel_rfl
def outR (lo hi : Int) (l : List Int) : Bool := l.any fun n => decide (n < lo) || decide (n > hi)
theorem f64 (fuel : Nat) (n lo hi : Int) : F64 fuel n lo hi = some (decide (n < lo) || decide (n > hi)) := by
  unfold F64
  simp only [oif_dec]
  by_cases h1 : n < lo
  · simp [h1]
  · by_cases h2 : n > hi <;> simp [h1, h2]
theorem l70 (v0 : List Int) (lo hi : Int) (hl : v0.length ≤ 1000000) : ∀ (f k : Nat), k ≤ v0.length → v0.length - k < f → ∃ y, L70_0 v0 lo hi (v0.length : Int) f (k : Int) = some y ∧
    (match y with | .inl i => 0 ≤ i ∧ outR lo hi (v0.drop k) = true | .inr _ => outR lo hi (v0.drop k) = false)
  | 0, k, _, h => by omega
  | f + 1, k, hk, h => by
    unfold L70_0
    by_cases hlt : k < v0.length
    · obtain ⟨y, e, hy⟩ := l70 v0 lo hi hl f (k + 1) (by omega) (by omega)
      rw [oif_pos (by simpa using hlt), sg_ge hlt, obind_some, f64, obind_some, List.drop_eq_getElem_cons hlt, wrap_succ (by omega), e]
      unfold outR at *
      rw [List.any_cons]
      cases hc : (decide (v0[k] < lo) || decide (v0[k] > hi)) with
      | true => exact ⟨_, rfl, by omega, by simp⟩
      | false =>
        refine ⟨y, rfl, ?_⟩
        simpa using hy
    · rw [oif_neg (by simpa using hlt)]
      have : k = v0.length := by omega
      subst this
      exact ⟨_, rfl, by simp [outR]⟩
theorem f43 (fuel : Nat) (l : List Int) (lo hi : Int) (hl : l.length ≤ 1000000) (hf : l.length < fuel) : F43 fuel lo hi l = some (!(outR lo hi l)) := by
  obtain ⟨y, e, hy⟩ := l70 l lo hi hl fuel 0 (by omega) (by omega)
  rw [Int.natCast_zero] at e
  unfold F43 F63 F70
  rw [e, obind_some]
  cases y with
  | inl i => simp only [List.drop_zero] at hy; simp only [obind_some, oif_dec, hy.1, hy.2]; simp [hy.1, obind_some, oif_t]
  | inr u => simp only [List.drop_zero] at hy; simp only [obind_some, oif_dec, hy]; simp [obind_some, oif_f]
def badPin (x : Int × Int) : Bool := decide (x.1 < 1) || decide (x.1 > 200) || decide (x.2 < 0) || decide (x.2 ≥ x.1)
theorem f42 (fuel : Nat) (x : Int × Int) (hf : 60 ≤ fuel) : F42 fuel x = some (badPin x) := by
  unfold F42
  rw [f43 _ _ _ _ (by simp) (by simp; omega), obind_some]
  unfold badPin
  simp only [outR, List.any_cons, List.any_nil, Bool.or_false]
  by_cases a1 : x.1 < 1
  · simp [a1, oif]
  · by_cases a2 : x.1 > 200
    · simp [a1, a2, oif]
    · rw [wrap_id (by omega) (by omega), f43 _ _ _ _ (by simp) (by simp; omega)]
      simp only [outR, List.any_cons, List.any_nil, Bool.or_false, a1, a2, decide_false, Bool.or_false, Bool.not_false, oif_t, obind_some, Bool.false_or]
      by_cases a3 : x.2 < 0
      · simp [a3, oif]
      · by_cases a4 : x.2 ≥ x.1
        · have : x.2 > x.1 - 1 := by omega
          simp [a3, a4, this, oif]
        · have : ¬ x.2 > x.1 - 1 := by omega
          simp [a3, a4, this, oif]
theorem l65 (v0 : List (Int × Int)) (hl : v0.length ≤ 1000000) : ∀ (f k : Nat), k ≤ v0.length → v0.length - k + 60 < f → ∃ y, L65_0 v0 (v0.length : Int) f (k : Int) = some y ∧
    (match y with | .inl i => 0 ≤ i ∧ (v0.drop k).any badPin = true | .inr _ => (v0.drop k).any badPin = false)
  | 0, k, _, h => by omega
  | f + 1, k, hk, h => by
    unfold L65_0
    by_cases hlt : k < v0.length
    · obtain ⟨y, e, hy⟩ := l65 v0 hl f (k + 1) (by omega) (by omega)
      rw [oif_pos (by simpa using hlt), sg_ge hlt, obind_some, show F42 f (v0[k].1, v0[k].2) = some (badPin v0[k]) from f42 _ _ (by omega), obind_some, List.drop_eq_getElem_cons hlt, wrap_succ (by omega), e, List.any_cons]
      cases hc : badPin v0[k] with
      | true => exact ⟨_, rfl, by omega, by simp⟩
      | false =>
        refine ⟨y, rfl, ?_⟩
        simpa using hy
    · rw [oif_neg (by simpa using hlt)]
      have : k = v0.length := by omega
      subst this
      exact ⟨_, rfl, by simp⟩
theorem f44 (fuel : Nat) (l : List (Int × Int)) (hl : l.length ≤ 1000000) (hf : l.length + 60 < fuel) : F44 fuel l = some (l.any badPin) := by
  obtain ⟨y, e, hy⟩ := l65 l hl fuel 0 (by omega) (by omega)
  rw [Int.natCast_zero] at e
  unfold F44 F65
  rw [e, obind_some]
  cases y with
  | inl i => simp only [List.drop_zero] at hy; simp only [obind_some, oif_dec, hy.1, hy.2]; simp [hy.1]
  | inr u => simp only [List.drop_zero] at hy; simp only [obind_some, oif_dec, hy]; simp
def chk (l : List (Int × Int)) : Int := if l.length < 1 ∨ l.length > 5 then 6 else if l.any badPin then 3 else 0
theorem f12 (fuel : Nat) (l : List (Int × Int)) (hl : l.length ≤ 9) (hf : 100 ≤ fuel) : F12 fuel l = some (chk l) := by
  unfold F12 chk
  rw [f43 _ _ _ _ (by simp) (by simp; omega), obind_some]
  simp only [outR, List.any_cons, List.any_nil, Bool.or_false]
  by_cases h1 : l.length < 1
  · have : (l.length : Int) < 1 := by omega
    rw [oif_neg (by simp [this]), if_pos (Or.inl h1)]
  · by_cases h2 : l.length > 5
    · have : (l.length : Int) > 5 := by omega
      rw [oif_neg (by simp [this]), if_pos (Or.inr h2)]
    · have a1 : ¬ (l.length : Int) < 1 := by omega
      have a2 : ¬ (l.length : Int) > 5 := by omega
      rw [oif_pos (by simp [a1, a2]), f44 _ _ (by omega) (by omega), obind_some, if_neg (by omega), oif_ite]
      cases l.any badPin <;> rfl
theorem l13 (L : List (Int × Int)) (hl : L.length ≤ 1000000) : ∀ (f k : Nat), k ≤ L.length → L.length - k < f → L13_0 L f (k : Int) = some (if (L.drop k).any badPin then .inl () else .inr ())
  | 0, k, _, h => by omega
  | f + 1, k, hk, h => by
    unfold L13_0
    by_cases hlt : k < L.length
    · have ih := l13 L hl f (k + 1) (by omega) (by omega)
      rw [oif_pos (by simpa using hlt), sg_ge hlt, obind_some, List.drop_eq_getElem_cons hlt, List.any_cons, wrap_succ (by omega), ih]
      simp only [oif_dec, badPin]
      by_cases h1 : L[k].1 < 1
      · simp [h1]
      · by_cases h2 : L[k].1 > 200
        · simp [h1, h2]
        · by_cases h3 : L[k].2 < 0
          · simp [h1, h2, h3]
          · by_cases h4 : L[k].2 ≥ L[k].1
            · simp [h1, h2, h3, h4]
            · simp only [h1, h2, h3, h4, if_false, decide_false, Bool.false_or]
    · rw [oif_neg (by simpa using hlt)]
      have : k = L.length := by omega
      subst this
      simp
theorem f13 (fuel : Nat) (l : List (Int × Int)) (hl : l.length ≤ 9) (hf : 100 ≤ fuel) : F13 fuel l = some (chk l) := by
  unfold F13 chk
  simp only [oif_dec]
  by_cases h1 : l.length < 1
  · rw [if_pos (by omega), if_pos (Or.inl h1)]
  · by_cases h2 : l.length > 5
    · rw [if_neg (by omega), if_pos (by omega), if_pos (Or.inr h2)]
    · have := l13 l (by omega) fuel 0 (by omega) (by omega)
      rw [Int.natCast_zero, List.drop_zero] at this
      rw [if_neg (by omega), if_neg (by omega), if_neg (by omega), this]
      cases l.any badPin <;> rfl
def isT (n : Int) : Bool := decide (n ≥ 0) && decide (n ≤ 1000000000000)
theorem f40 (fuel : Nat) (n : Int) : F40 fuel n = some (isT n) := by
  unfold F40 isT
  cases decide (n ≥ 0) <;> cases decide (n ≤ 1000000000000) <;> rfl
theorem isT_out (n : Int) : outR 0 1000000000000 [n] = !(isT n) := by
  unfold outR isT
  simp only [List.any_cons, List.any_nil, Bool.or_false]
  by_cases h1 : n < 0
  · have : ¬ n ≥ 0 := by omega
    simp [h1, this]
  · by_cases h2 : n > 1000000000000
    · have : ¬ n ≤ 1000000000000 := by omega
      simp [h1, h2, this]
    · have a1 : n ≥ 0 := by omega
      have a2 : n ≤ 1000000000000 := by omega
      simp [h1, h2, a1, a2]
theorem f8 (fuel : Nat) (l : List (Int × Int)) : F8 fuel l = some (decide (l.length > 9)) := by
  unfold F8
  rw [oif_bool]
  congr 1
  simp only [decide_eq_decide]; omega
theorem l14 (l : List Int) (hl : l.length ≤ 1000000) : ∀ (f k : Nat), k ≤ l.length → l.length - k < f → L14_0 l l f (k : Int) = some (.inr ())
  | 0, k, _, h => by omega
  | f + 1, k, hk, h => by
    unfold L14_0
    by_cases hlt : k < l.length
    · rw [oif_pos (by simpa using hlt), sg_ge hlt, obind_some, obind_some, oif_neg (by simp), wrap_succ (by omega)]
      exact l14 l hl f (k + 1) (by omega) (by omega)
    · rw [oif_neg (by simpa using hlt)]
theorem f14 (fuel : Nat) (l : List Int) (hl : l.length ≤ 1000000) (hf : l.length < fuel) : F14 fuel l l = some true := by
  unfold F14
  have := l14 l hl fuel 0 (by omega) (by omega)
  rw [Int.natCast_zero] at this
  rw [oif_neg (by simp), this]
  rfl
theorem l15 (l : List (Int × Int)) (hl : l.length ≤ 1000000) : ∀ (f k : Nat), k ≤ l.length → l.length - k < f → L15_0 l l f (k : Int) = some (.inr ())
  | 0, k, _, h => by omega
  | f + 1, k, hk, h => by
    unfold L15_0
    by_cases hlt : k < l.length
    · rw [oif_pos (by simpa using hlt), sg_ge hlt, obind_some, obind_some, oif_neg (by simp), wrap_succ (by omega)]
      exact l15 l hl f (k + 1) (by omega) (by omega)
    · rw [oif_neg (by simpa using hlt)]
theorem f15 (fuel : Nat) (l : List (Int × Int)) (hl : l.length ≤ 1000000) (hf : l.length < fuel) : F15 fuel l l = some true := by
  unfold F15
  have := l15 l hl fuel 0 (by omega) (by omega)
  rw [Int.natCast_zero] at this
  rw [oif_neg (by simp), this]
  rfl
theorem chk0 {l : List (Int × Int)} (h : chk l = 0) : 1 ≤ l.length ∧ l.length ≤ 5 ∧ l.any badPin = false := by
  unfold chk at h
  split at h
  · cases h
  · rename_i h1
    split at h
    · cases h
    · rename_i h2
      exact ⟨by omega, by omega, by simpa using h2⟩
theorem pin_ok {l : List (Int × Int)} (h : l.any badPin = false) {x : Int × Int} (hx : x ∈ l) : 1 ≤ x.1 ∧ x.1 ≤ 200 ∧ 0 ≤ x.2 ∧ x.2 < x.1 := by
  rw [List.any_eq_false] at h
  have := h x hx
  simp only [badPin, Bool.or_eq_true, decide_eq_true_eq] at this
  omega
def gcdI (a b : Int) : Int := ((Int.gcd a b : Nat) : Int)
theorem gcdI_zero {a : Int} (h : 0 ≤ a) : gcdI a 0 = a := by unfold gcdI; rw [Int.gcd_zero_right]; omega
theorem gcdI_step {a b : Int} (ha : 0 ≤ a) (hb : 0 < b) : gcdI b (Int.tmod a b) = gcdI a b := by
  unfold gcdI
  congr 1
  obtain ⟨x, rfl⟩ := Int.eq_ofNat_of_zero_le ha
  obtain ⟨y, rfl⟩ := Int.eq_ofNat_of_zero_le (Int.le_of_lt hb)
  rw [show Int.tmod (x : Int) (y : Int) = ((x % y : Nat) : Int) from rfl]
  simp only [Int.gcd, Int.natAbs_natCast]
  rw [Nat.gcd_comm y, ← Nat.gcd_rec, Nat.gcd_comm]
theorem tmod_nn {a b : Int} (ha : 0 ≤ a) (hb : 0 < b) : 0 ≤ Int.tmod a b ∧ Int.tmod a b < b := by
  rw [Int.tmod_eq_emod_of_nonneg ha]
  exact ⟨Int.emod_nonneg _ (by omega), Int.emod_lt_of_pos _ hb⟩
theorem f61 : ∀ (fuel : Nat) (a b : Int), 0 ≤ a → 0 ≤ b → b < fuel → F61 fuel a b = some (gcdI a b)
  | 0, a, b, _, hb, h => by omega
  | f + 1, a, b, ha, hb, h => by
    unfold F61
    by_cases h0 : b = 0
    · subst h0; rw [oif_pos (by simp), gcdI_zero ha]
    · obtain ⟨m1, m2⟩ := tmod_nn ha (show 0 < b by omega)
      rw [oif_neg (by simpa using h0), oif_pos (by simpa using h0), f61 f b (Int.tmod a b) hb m1 (by omega), obind_some, gcdI_step ha (by omega)]
theorem l50 : ∀ (fuel : Nat) (a b : Int), 0 ≤ a → 0 ≤ b → b < fuel → L50_0 fuel a b = some (gcdI a b)
  | 0, a, b, _, hb, h => by omega
  | f + 1, a, b, ha, hb, h => by
    unfold L50_0
    by_cases h0 : b = 0
    · subst h0; rw [oif_neg (by simp), gcdI_zero ha]
    · obtain ⟨m1, m2⟩ := tmod_nn ha (show 0 < b by omega)
      rw [oif_pos (by simpa using h0), oif_pos (by simpa using h0), l50 f b (Int.tmod a b) hb m1 (by omega), gcdI_step ha (by omega)]
theorem f50 (fuel : Nat) (a b : Int) (ha : 0 ≤ a) (hb : 0 ≤ b) (hf : b < fuel) : F50 fuel a b = some (gcdI a b) := by
  unfold F50
  rw [l50 fuel a b ha hb hf]; rfl
theorem gcdI_pos {a b : Int} (hb : 0 < b) : 0 < gcdI a b := by
  unfold gcdI
  have : 0 < Int.gcd a b := Int.gcd_pos_of_ne_zero_right _ (by omega)
  omega
theorem gcdI_le {a b : Int} (hb : 0 < b) : gcdI a b ≤ b := Int.le_of_dvd hb (Int.gcd_dvd_right ..)
section
variable {K V : Type} [BEq K] [LawfulBEq K]
theorem mhas_keys (L : List (K × V)) (k : K) : mhas L k = true ↔ k ∈ L.map (·.1) := by
  unfold mhas
  rw [List.any_eq_true, List.mem_map]
  constructor
  · rintro ⟨x, h1, h2⟩; exact ⟨x, h1, (eq_of_beq h2).symm⟩
  · rintro ⟨x, h1, h2⟩; exact ⟨x, h1, by rw [h2]; exact beq_self_eq_true k⟩
theorem midx_lt {L : List (K × V)} {k : K} (h : mhas L k = true) : midx L k < L.length := by
  unfold midx
  rw [List.findIdx_lt_length]
  unfold mhas at h
  rw [List.any_eq_true] at h
  exact h
theorem mdel_filter : ∀ (L : List (K × V)) (k : K), (L.map (·.1)).Nodup → mdel L k = L.filter fun p => !(k == p.1)
  | [], _, _ => rfl
  | x :: L, k, h => by
    simp only [List.map_cons, List.nodup_cons] at h
    rw [mdel_cons, List.filter_cons]
    by_cases hk : k == x.1
    · rw [if_pos hk, if_neg (by simp [hk])]
      have : k = x.1 := eq_of_beq hk
      symm
      rw [List.filter_eq_self]
      intro p hp
      have hne : ¬ k = p.1 := fun e => h.1 (by rw [← this, e]; exact List.mem_map.2 ⟨p, hp, rfl⟩)
      simpa using hne
    · rw [if_neg hk, if_pos (by simpa using hk), mdel_filter L k h.2]
theorem filter_nodup {L : List (K × V)} (p : K × V → Bool) (h : (L.map (·.1)).Nodup) : ((L.filter p).map (·.1)).Nodup :=
  List.Sublist.nodup (List.Sublist.map _ (List.filter_sublist)) h
theorem mfold_runV {body : K → V → List (K × V) → Option (List (K × V) ⊕ List (K × V))} (t : K → Bool) (good : K → V → Prop)
    (hb : ∀ k v s, good k v → body k v s = some (.inl (if t k then mdel s k else s))) : ∀ (q s : List (K × V)), (s.map (·.1)).Nodup → (∀ p ∈ q, good p.1 p.2) →
    mfold body (fun s => some s) q s = some (s.filter fun p => !(q.any fun e => t e.1 && (e.1 == p.1)))
  | [], s, _, _ => by
    unfold mfold
    congr 1
    symm
    rw [List.filter_eq_self]
    intro p _
    rfl
  | (k, v) :: q, s, hn, hq => by
    unfold mfold
    have hgq : ∀ p ∈ q, good p.1 p.2 := fun p hp => hq p (List.mem_cons_of_mem _ hp)
    rw [hb k v s (hq (k, v) (List.mem_cons_self ..)), obind_some]
    simp only []
    by_cases ht : t k = true
    · rw [if_pos ht, mdel_filter s k hn, mfold_runV t good hb q _ (filter_nodup _ hn) hgq, List.filter_filter]
      congr 2
      funext p
      rw [List.any_cons]
      simp only [ht, Bool.true_and, Bool.not_or]
      rw [Bool.and_comm]
    · rw [if_neg ht, mfold_runV t good hb q s hn hgq]
      congr 2
      funext p
      rw [List.any_cons]
      simp [ht]
theorem mfold_selfV {body : K → V → List (K × V) → Option (List (K × V) ⊕ List (K × V))} (t : K → Bool) (good : K → V → Prop)
    (hb : ∀ k v s, good k v → body k v s = some (.inl (if t k then mdel s k else s))) (s : List (K × V)) (hn : (s.map (·.1)).Nodup) (hs : ∀ p ∈ s, good p.1 p.2) :
    mfold body (fun s => some s) s s = some (s.filter fun p => !(t p.1)) := by
  rw [mfold_runV t good hb s s hn hs]
  congr 1
  apply List.filter_congr
  intro p hp
  congr 1
  rw [Bool.eq_iff_iff, List.any_eq_true]
  constructor
  · rintro ⟨e, h1, h2⟩
    simp only [Bool.and_eq_true] at h2
    rw [← eq_of_beq h2.2]; exact h2.1
  · intro h
    exact ⟨p, hp, by rw [h, beq_self_eq_true]; rfl⟩
end
def pinAt (l : List (Int × Int)) (i : Nat) : Int × Int := l.getD i (1, 0)
theorem pinAt_get {l : List (Int × Int)} {i : Nat} (h : i < l.length) : pinAt l i = l[i] := by simp [pinAt, h]
def gij (l : List (Int × Int)) (i k : Nat) : Int := gcdI (pinAt l i).1 (pinAt l k).1
def row (l : List (Int × Int)) (k m : Nat) : List ((Int × Int) × Int) := (List.range m).map fun (i : Nat) => (((i : Int), (k : Int)), gij l i k)
def prs (l : List (Int × Int)) (m : Nat) : List ((Int × Int) × Int) := (List.range m).flatMap fun k => row l k k
theorem row_snoc (l : List (Int × Int)) (k m : Nat) : row l k (m + 1) = row l k m ++ [(((m : Int), (k : Int)), gij l m k)] := by unfold row; rw [List.range_succ, List.map_append]; rfl
theorem prs_snoc (l : List (Int × Int)) (m : Nat) : prs l (m + 1) = prs l m ++ row l m m := by unfold prs; rw [List.range_succ, List.flatMap_append]; simp
theorem row_key {l : List (Int × Int)} {k m : Nat} {x : Int × Int} (h : x ∈ (row l k m).map (·.1)) : ∃ i : Nat, i < m ∧ x = ((i : Int), (k : Int)) := by
  unfold row at h
  simp only [List.map_map, List.mem_map, List.mem_range, Function.comp] at h
  obtain ⟨i, h1, rfl⟩ := h
  exact ⟨i, h1, rfl⟩
theorem prs_key {l : List (Int × Int)} {m : Nat} {x : Int × Int} (h : x ∈ (prs l m).map (·.1)) : ∃ i k : Nat, i < k ∧ k < m ∧ x = ((i : Int), (k : Int)) := by
  unfold prs at h
  simp only [List.mem_map, List.mem_flatMap, List.mem_range] at h
  obtain ⟨y, ⟨k, hk, hy⟩, rfl⟩ := h
  obtain ⟨i, h1, h2⟩ := row_key (List.mem_map.2 ⟨y, hy, rfl⟩)
  exact ⟨i, k, h1, hk, h2⟩
theorem prs_mem {l : List (Int × Int)} {m : Nat} {x : (Int × Int) × Int} : x ∈ prs l m ↔ ∃ i k : Nat, i < k ∧ k < m ∧ x = (((i : Int), (k : Int)), gij l i k) := by
  unfold prs row
  simp only [List.mem_flatMap, List.mem_range, List.mem_map]
  constructor
  · rintro ⟨k, hk, i, hi, rfl⟩; exact ⟨i, k, hi, hk, rfl⟩
  · rintro ⟨i, k, hi, hk, rfl⟩; exact ⟨k, hk, i, hi, rfl⟩
theorem row_nodup (l : List (Int × Int)) (k m : Nat) : ((row l k m).map (·.1)).Nodup := by
  induction m with
  | zero => simp [row]
  | succ m ih =>
    rw [row_snoc, List.map_append, List.nodup_append]
    refine ⟨ih, by simp, fun a ha b hb hab => ?_⟩
    subst hab
    obtain ⟨i, h1, h2⟩ := row_key ha
    simp at hb
    rw [hb] at h2
    have := congrArg Prod.fst h2
    simp only at this
    omega
theorem prs_nodup (l : List (Int × Int)) (m : Nat) : ((prs l m).map (·.1)).Nodup := by
  induction m with
  | zero => simp [prs]
  | succ m ih =>
    rw [prs_snoc, List.map_append, List.nodup_append]
    refine ⟨ih, row_nodup _ _ _, fun a ha b hb hab => ?_⟩
    subst hab
    obtain ⟨i, k, h1, h2, h3⟩ := prs_key ha
    obtain ⟨i', h4, h5⟩ := row_key hb
    rw [h3] at h5
    have := congrArg Prod.snd h5
    simp only at this
    omega
theorem l58_2 (l : List (Int × Int)) (hv : l.any badPin = false) (h5 : l.length ≤ 5) (v20 : Int) (k : Nat) (hk : k < l.length) (w2_1 : Int) : ∀ (f i : Nat), i ≤ k → k - i + 300 < f →
    L58_2 (k : Int) l v20 (k : Int) (l.take k) ((l.take k).length : Int) l (l[k]).1 w2_1 f (i : Int) (prs l k ++ row l k i) = some (prs l (k + 1))
  | 0, i, _, h => by omega
  | f + 1, i, hi, h => by
    unfold L58_2
    have hlen : (l.take k).length = k := by rw [List.length_take]; omega
    rw [hlen]
    by_cases hlt : i < k
    · have ih := l58_2 l hv h5 v20 k hk w2_1 f (i + 1) (by omega) (by omega)
      rw [hlen] at ih
      obtain ⟨a1, a2, a3, a4⟩ := pin_ok hv (List.getElem_mem (show i < l.length by omega))
      obtain ⟨b1, b2, b3, b4⟩ := pin_ok hv (List.getElem_mem hk)
      have hno : mhas (prs l k ++ row l k i) ((i : Int), (k : Int)) = false := by
        cases hh : mhas (prs l k ++ row l k i) ((i : Int), (k : Int)) with
        | false => rfl
        | true =>
          rw [mhas_keys, List.map_append, List.mem_append] at hh
          rcases hh with hh | hh
          · obtain ⟨i', k', h1, h2, h3⟩ := prs_key hh
            have := congrArg Prod.snd h3; simp only at this; omega
          · obtain ⟨i', h1, h2⟩ := row_key hh
            have := congrArg Prod.fst h2; simp only at this; omega
      rw [oif_pos (by simpa using hlt), sg_ge (by omega), obind_some, List.getElem_take, f61 f _ _ (by omega) (by omega) (by omega), obind_some, oif_neg hno, wrap_succ (by omega), List.append_assoc]
      have : row l k i ++ [(((i : Int), (k : Int)), gcdI (l[i]'(by omega)).1 (l[k]).1)] = row l k (i + 1) := by
        rw [row_snoc]; unfold gij; rw [pinAt_get (by omega), pinAt_get hk]
      rw [this]; exact ih
    · rw [oif_neg (by simpa using hlt), show i = k from by omega, prs_snoc]
theorem l58_0 (l : List (Int × Int)) (hv : l.any badPin = false) (h5 : l.length ≤ 5) : ∀ (f k : Nat), k ≤ l.length → l.length - k + 400 < f →
    L58_0 l (l.length : Int) l f (k : Int) (prs l k) = some (prs l l.length)
  | 0, k, _, h => by omega
  | f + 1, k, hk, h => by
    unfold L58_0
    by_cases hlt : k < l.length
    · have e : subL l none (some (k : Int)) = some (l.take k) := by
        unfold subL
        rw [if_pos (And.intro (fun v h => by cases h) (fun v h => by cases h; omega))]
        simp [natO]
      have := l58_2 l hv h5 (l.length : Int) k hlt l[k].2 f 0 (by omega) (by omega)
      rw [show row l k 0 = [] from rfl, List.append_nil, Int.natCast_zero] at this
      rw [oif_pos (by simpa using hlt), sg_ge hlt, obind_some, e, obind_some, this, obind_some, wrap_succ (by omega)]
      exact l58_0 l hv h5 f (k + 1) (by omega) (by omega)
    · rw [oif_neg (by simpa using hlt), show k = l.length from by omega]
def clashB (l : List (Int × Int)) (i k : Nat) : Bool := Int.tmod ((pinAt l i).2 - (pinAt l k).2) (gij l i k) != 0
def cls (l : List (Int × Int)) : List ((Int × Int) × Int) := (prs l l.length).filter fun p => clashB l p.1.1.toNat p.1.2.toNat
theorem f58v (fuel : Nat) (l : List (Int × Int)) (hv : l.any badPin = false) (h5 : l.length ≤ 5) (hf : 500 ≤ fuel) : F58 fuel l = some (cls l) := by
  unfold F58
  have e0 := l58_0 l hv h5 fuel 0 (by omega) (by omega)
  rw [show prs l 0 = [] from rfl, Int.natCast_zero] at e0
  rw [e0, obind_some, oif_pos (by rw [decide_eq_true_eq]; exact prs_nodup l l.length)]
  have hz : Z58_3 fuel l = fun s => some s := by funext s; rfl
  have := mfold_selfV (body := B58_3 fuel l) (fun k => !(clashB l k.1.toNat k.2.toNat)) (fun k v => ∃ i k' : Nat, i < k' ∧ k' < l.length ∧ k = ((i : Int), (k' : Int)) ∧ v = gij l i k') (fun k v s hk => ?_) (prs l l.length) (prs_nodup l l.length) (fun p hp => by
      obtain ⟨i, k, h1, h2, rfl⟩ := prs_mem.1 hp
      exact ⟨i, k, h1, h2, rfl, rfl⟩)
  · rw [hz, this, obind_some]
    unfold cls
    simp only [Bool.not_not]
  · obtain ⟨i, k', hi, hk', rfl, rfl⟩ := hk
    unfold B58_3
    obtain ⟨a1, a2, a3, a4⟩ := pin_ok hv (List.getElem_mem (show i < l.length by omega))
    obtain ⟨b1, b2, b3, b4⟩ := pin_ok hv (List.getElem_mem hk')
    have hg : 0 < gij l i k' := gcdI_pos (by rw [pinAt_get hk']; omega)
    simp only [sg_ge (show i < l.length by omega), sg_ge hk', obind_some]
    rw [oif_pos (by rw [decide_eq_true_eq]; omega), wrap_id (by omega) (by omega)]
    have hcl : clashB l i k' = (Int.tmod ((l[i]'(by omega)).2 - l[k'].2) (gij l i k') != 0) := by
      unfold clashB; rw [pinAt_get (show i < l.length by omega), pinAt_get hk']
    simp only [Int.toNat_natCast, hcl]
    by_cases hz : Int.tmod ((l[i]'(by omega)).2 - l[k'].2) (gij l i k') = 0
    · have e1 : (Int.tmod ((l[i]'(by omega)).2 - l[k'].2) (gij l i k') != 0) = false := by simpa using hz
      rw [oif_pos (by simpa using hz)]
      simp only [e1, Bool.not_false, if_true]
      rw [oif_ite]
      split
      · rfl
      · rename_i hm
        rw [mdel_not s _ (by simpa using hm)]
    · have e1 : (Int.tmod ((l[i]'(by omega)).2 - l[k'].2) (gij l i k') != 0) = true := by simpa using hz
      rw [oif_neg (by simpa using hz)]
      simp only [e1, Bool.not_true, Bool.false_eq_true, if_false]
theorem f58 (fuel : Nat) (l : List (Int × Int)) (hc : chk l = 0) (hf : 500 ≤ fuel) : F58 fuel l = some (cls l) := by
  obtain ⟨h1, h5, hv⟩ := chk0 hc
  exact f58v fuel l hv h5 hf
theorem f38 (fuel : Nat) (l : List (Int × Int)) (ts : List Int) (hl : l.length ≤ 9) (ht : ts.length ≤ 5) (hf : 600 ≤ fuel) :
    F38 fuel l ts = some (if chk l ≠ 0 then .inl (chk l) else if outR 0 1000000000000 ts then .inl 3 else .inr (cls l)) := by
  unfold F38
  rw [f12 fuel l hl (by omega), obind_some, oif_ite]
  by_cases h : chk l = 0
  · rw [if_neg (by simp [h]), if_neg (by simp [h]), f43 _ _ _ _ (by omega) (by omega), obind_some, f58 fuel l h (by omega)]
    cases outR 0 1000000000000 ts <;> rfl
  · rw [if_pos (by simpa using h), if_pos h]
end Go.Idl.N
set_option linter.unusedSimpArgs false
set_option linter.unusedVariables false
namespace Go.Idl.N
open Go Go.Idl
def idx (p : Nat → Bool) : Nat → Nat → List Int
  | _, 0 => []
  | k, m + 1 => if p k then (k : Int) :: idx p (k + 1) m else idx p (k + 1) m
theorem idx_len (p : Nat → Bool) : ∀ k m, (idx p k m).length ≤ m
  | _, 0 => Nat.le_refl _
  | k, m + 1 => by
    unfold idx
    have := idx_len p (k + 1) m
    split
    · rw [List.length_cons]; omega
    · omega
def soundB (l : List (Int × Int)) (t : Int) (i : Nat) : Bool := Int.tmod t (pinAt l i).1 == (pinAt l i).2
theorem sound_eq {P O t : Int} (hP : 1 ≤ P) (hO : 0 ≤ O) (hO2 : O < P) (ht : 0 ≤ t) : (Int.tmod (t - O) P == 0) = (Int.tmod t P == O) := by
  rw [Bool.eq_iff_iff, beq_iff_eq, beq_iff_eq, Int.tmod_eq_emod_of_nonneg ht]
  constructor
  · intro h
    have hd := Int.dvd_of_tmod_eq_zero h
    have := Int.emod_emod_of_dvd t (Int.dvd_refl P)
    have h2 : (t - O) % P = 0 := Int.emod_eq_zero_of_dvd hd
    have h3 : t % P = O % P := Int.emod_eq_emod_iff_emod_sub_eq_zero.2 h2
    rw [h3, Int.emod_eq_of_lt hO hO2]
  · intro h
    have h3 : t % P = O % P := by rw [h, Int.emod_eq_of_lt hO hO2]
    exact Int.tmod_eq_zero_of_dvd (Int.dvd_of_emod_eq_zero (Int.emod_eq_emod_iff_emod_sub_eq_zero.1 h3))
def mks (l : List (Int × Int)) (t : Int) (k : Nat) : List Int := (List.range 5).map fun j => if decide (j < k) && soundB l t j then 1 else 0
theorem mks_len (l : List (Int × Int)) (t : Int) (k : Nat) : (mks l t k).length = 5 := by simp [mks]
theorem mks_get (l : List (Int × Int)) (t : Int) (k j : Nat) (h : j < (mks l t k).length) : (mks l t k)[j] = if decide (j < k) && soundB l t j then 1 else 0 := by simp [mks]
theorem mks_zero (l : List (Int × Int)) (t : Int) : mks l t 0 = List.replicate 5 0 := by simp [mks]; rfl
theorem mks_succ (l : List (Int × Int)) (t : Int) (k : Nat) (hs : soundB l t k = false) : mks l t (k + 1) = mks l t k := by
  unfold mks
  apply List.map_congr_left
  intro j hj
  by_cases h : j = k
  · subst h; simp [hs]
  · by_cases h2 : j < k
    · have : j < k + 1 := by omega
      simp [h2, this]
    · have : ¬ j < k + 1 := by omega
      simp [h2, this]
theorem mks_set (l : List (Int × Int)) (t : Int) (k : Nat) (hs : soundB l t k = true) : (mks l t k).set k 1 = mks l t (k + 1) := by
  apply List.ext_getElem
  · simp [mks]
  · intro j h1 h2
    rw [List.getElem_set, mks_get]
    by_cases h : k = j
    · subst h; simp [hs, mks]
    · rw [if_neg h]
      simp only [mks_get]
      by_cases h3 : j < k
      · have : j < k + 1 := by omega
        simp [h3, this]
      · have : ¬ j < k + 1 := by omega
        simp [h3, this]
theorem l39 (l : List (Int × Int)) (hv : l.any badPin = false) (h5 : l.length ≤ 5) (t : Int) (ht : 0 ≤ t) (ht2 : t ≤ 2000000000000) (w0 : List Int) : ∀ (f k : Nat), k ≤ l.length → l.length - k < f →
    L39_0 t l (l.length : Int) w0 f (k : Int) (mks l t k) = some (mks l t l.length)
  | 0, k, _, h => by omega
  | f + 1, k, hk, h => by
    unfold L39_0
    by_cases hlt : k < l.length
    · obtain ⟨a1, a2, a3, a4⟩ := pin_ok hv (List.getElem_mem hlt)
      rw [oif_pos (by simpa using hlt), sg_ge hlt, obind_some, oif_pos (by rw [decide_eq_true_eq]; omega), wrap_id (n := t - l[k].2) (by omega) (by omega), sound_eq a1 a3 a4 ht, wrap_succ (by omega)]
      have hsb : soundB l t k = (Int.tmod t l[k].1 == l[k].2) := by unfold soundB; rw [pinAt_get hlt]
      cases hs : soundB l t k with
      | true =>
        rw [oif_pos (hsb ▸ hs), oif_pos (by simp), oif_pos (by rw [decide_eq_true_eq]; omega), sg_ge (by rw [mks_len]; omega), obind_some, mks_get]
        simp only [Nat.lt_irrefl, decide_false, Bool.false_and, Bool.false_eq_true, if_false]
        rw [show IntKind.wrap .i64 ((0 : Int) + 1) = 1 from rfl, stL_nat (by rw [mks_len]; omega), obind_some, mks_set l t k hs]
        exact l39 l hv h5 t ht ht2 w0 f (k + 1) (by omega) (by omega)
      | false =>
        rw [oif_neg (hsb ▸ hs), ← mks_succ l t k hs]
        exact l39 l hv h5 t ht ht2 w0 f (k + 1) (by omega) (by omega)
    · rw [oif_neg (by simpa using hlt), show k = l.length from by omega]
theorem f39 (fuel : Nat) (l : List (Int × Int)) (t : Int) (hc : chk l = 0) (ht : 0 ≤ t) (ht2 : t ≤ 2000000000000) (hf : 60 ≤ fuel) : F39 fuel l t = some (mks l t l.length) := by
  obtain ⟨h1, h5, hv⟩ := chk0 hc
  unfold F39
  have := l39 l hv h5 t ht ht2 (List.replicate 5 0) fuel 0 (by omega) (by omega)
  rw [Int.natCast_zero, mks_zero] at this
  rw [this, obind_some, oif_pos (by rw [decide_eq_true_eq]; exact mks_len _ _ _), oif_pos (by simp)]
theorem l10_2 (l : List (Int × Int)) (t : Int) (h5 : l.length ≤ 5) : ∀ (f k : Nat) (w : List Int), k ≤ l.length → l.length - k < f → w.length ≤ k →
    L10_2 (l.length : Int) (mks l t l.length) f (k : Int) w = some (w ++ idx (soundB l t) k (l.length - k))
  | 0, k, _, _, h, _ => by omega
  | f + 1, k, w, hk, h, hw => by
    unfold L10_2
    by_cases hlt : k < l.length
    · rw [oif_pos (by simpa using hlt), oif_pos (by simp), oif_pos (by rw [decide_eq_true_eq]; omega), sg_ge (by rw [mks_len]; omega), obind_some, mks_get, wrap_succ (by omega), show l.length - k = (l.length - (k + 1)) + 1 from by omega]
      unfold idx
      cases hn : soundB l t k with
      | true =>
        simp only [hlt, decide_true, Bool.true_and, if_true]
        rw [oif_pos (by decide), oif_pos (by simp), oif_pos (by simp), oif_pos (by rw [decide_eq_true_eq]; omega), l10_2 l t h5 f (k + 1) _ (by omega) (by omega) (by simp; omega), List.append_assoc]; rfl
      | false =>
        simp only [Bool.and_false, Bool.false_eq_true, if_false]
        rw [oif_neg (by decide), l10_2 l t h5 f (k + 1) _ (by omega) (by omega) (by omega)]
    · rw [oif_neg (by simpa using hlt), show l.length - k = 0 from by omega]
      simp [idx]
theorem l10_0 (l : List (Int × Int)) (t : Int) (h5 : l.length ≤ 5) : ∀ (f k : Nat), k ≤ l.length → l.length - k < f →
    L10_0 (l.length : Int) (mks l t l.length) f (k : Int) = some (idx (soundB l t) k (l.length - k))
  | 0, k, _, h => by omega
  | f + 1, k, hk, h => by
    unfold L10_0
    by_cases hlt : k < l.length
    · rw [oif_pos (by simpa using hlt), oif_pos (by simp), oif_pos (by rw [decide_eq_true_eq]; omega), sg_ge (by rw [mks_len]; omega), obind_some, mks_get, wrap_succ (by omega), show l.length - k = (l.length - (k + 1)) + 1 from by omega]
      unfold idx
      cases hn : soundB l t k with
      | true =>
        simp only [hlt, decide_true, Bool.true_and, if_true]
        rw [oif_pos (by decide)]
        have ih := l10_2 l t h5 f (k + 1) [(k : Int)] (by omega) (by omega) (by simp)
        rw [show decide (1 * 8 ≤ 140737488355328) = true from rfl, oif_t, ih, obind_some]; rfl
      | false =>
        simp only [Bool.and_false, Bool.false_eq_true, if_false]
        rw [oif_neg (by decide), l10_0 l t h5 f (k + 1) (by omega) (by omega)]
    · rw [oif_neg (by simpa using hlt), show l.length - k = 0 from by omega]
      rfl
def snd (l : List (Int × Int)) (t : Int) : List Int × Int := if chk l ≠ 0 then ([], chk l) else if isT t then (idx (soundB l t) 0 l.length, 0) else ([], 3)
theorem isT_b {t : Int} (h : isT t = true) : 0 ≤ t ∧ t ≤ 1000000000000 := by
  unfold isT at h
  simp only [Bool.and_eq_true, decide_eq_true_eq] at h
  omega
theorem f10 (fuel : Nat) (l : List (Int × Int)) (t : Int) (hl : l.length ≤ 9) (hf : 700 ≤ fuel) : F10 fuel l t = some (snd l t) := by
  unfold F10 snd
  rw [f38 fuel l [t] hl (by simp) (by omega), obind_some, isT_out]
  by_cases h : chk l = 0
  · obtain ⟨h1, h5, hv⟩ := chk0 h
    cases ht : isT t with
    | true =>
      obtain ⟨t1, t2⟩ := isT_b ht
      have := l10_0 l t h5 fuel 0 (by omega) (by omega)
      rw [Int.natCast_zero, Nat.sub_zero] at this
      simp only [h, ne_eq, not_true_eq_false, Bool.not_true, Bool.false_eq_true, if_false, if_true]
      rw [f39 fuel l t h t1 (by omega) (by omega), obind_some, oif_pos (by simp), oif_pos (by rw [decide_eq_true_eq]; exact mks_len _ _ _), this, obind_some]
    | false => simp only [h, ne_eq, not_true_eq_false, Bool.not_false, Bool.false_eq_true, if_false, if_true]; rfl
  · rw [if_pos h, if_pos h]
    simp only []
    rw [oif_pos (by simpa using h)]
theorem l41_2 (l : List (Int × Int)) (hv : l.any badPin = false) (t : Int) (h5 : l.length ≤ 5) : ∀ (f k : Nat) (w : List Int), k ≤ l.length → l.length - k < f → w.length ≤ k →
    L41_2 l t f (k : Int) w = some (w ++ idx (soundB l t) k (l.length - k))
  | 0, k, _, _, h, _ => by omega
  | f + 1, k, w, hk, h, hw => by
    unfold L41_2
    by_cases hlt : k < l.length
    · obtain ⟨a1, a2, a3, a4⟩ := pin_ok hv (List.getElem_mem hlt)
      have hsb : soundB l t k = (Int.tmod t l[k].1 == l[k].2) := by unfold soundB; rw [pinAt_get hlt]
      rw [oif_pos (by simpa using hlt), sg_ge hlt, obind_some, oif_pos (by rw [decide_eq_true_eq]; omega), wrap_succ (by omega), show l.length - k = (l.length - (k + 1)) + 1 from by omega, ← hsb]
      unfold idx
      cases hn : soundB l t k with
      | true =>
        rw [oif_t, if_pos rfl, oif_pos (by rw [decide_eq_true_eq]; omega), l41_2 l hv t h5 f (k + 1) _ (by omega) (by omega) (by simp; omega), List.append_assoc]; rfl
      | false =>
        rw [oif_f, if_neg (by simp), l41_2 l hv t h5 f (k + 1) _ (by omega) (by omega) (by omega)]
    · rw [oif_neg (by simpa using hlt), show l.length - k = 0 from by omega]
      simp [idx]
theorem l41_0 (l : List (Int × Int)) (hv : l.any badPin = false) (t : Int) (h5 : l.length ≤ 5) : ∀ (f k : Nat), k ≤ l.length → l.length - k < f →
    L41_0 l t f (k : Int) = some (idx (soundB l t) k (l.length - k))
  | 0, k, _, h => by omega
  | f + 1, k, hk, h => by
    unfold L41_0
    by_cases hlt : k < l.length
    · obtain ⟨a1, a2, a3, a4⟩ := pin_ok hv (List.getElem_mem hlt)
      have hsb : soundB l t k = (Int.tmod t l[k].1 == l[k].2) := by unfold soundB; rw [pinAt_get hlt]
      rw [oif_pos (by simpa using hlt), sg_ge hlt, obind_some, oif_pos (by rw [decide_eq_true_eq]; omega), wrap_succ (by omega), show l.length - k = (l.length - (k + 1)) + 1 from by omega, ← hsb]
      unfold idx
      cases hn : soundB l t k with
      | true =>
        have ih := l41_2 l hv t h5 f (k + 1) [(k : Int)] (by omega) (by omega) (by simp)
        rw [oif_t, if_pos rfl, show decide (1 * 8 ≤ 140737488355328) = true from rfl, oif_t, ih, obind_some]; rfl
      | false =>
        rw [oif_f, if_neg (by simp), l41_0 l hv t h5 f (k + 1) (by omega) (by omega)]
    · rw [oif_neg (by simpa using hlt), show l.length - k = 0 from by omega]
      rfl
theorem f41 (fuel : Nat) (l : List (Int × Int)) (t : Int) (hc : chk l = 0) (hf : 60 ≤ fuel) : F41 fuel l t = some (idx (soundB l t) 0 l.length) := by
  obtain ⟨h1, h5, hv⟩ := chk0 hc
  unfold F41
  have := l41_0 l hv t h5 fuel 0 (by omega) (by omega)
  rw [Int.natCast_zero, Nat.sub_zero] at this
  rw [this, obind_some]
end Go.Idl.N
set_option linter.unusedSimpArgs false
set_option linter.unusedVariables false
namespace Go.Idl.N
open Go Go.Idl
theorem gcd_lcm_nat {p q c x : Nat} (h1 : Nat.gcd p c ∣ x) (h2 : Nat.gcd q c ∣ x) : Nat.gcd (Nat.lcm p q) c ∣ x := by
  obtain ⟨m', n', hmn, hp, hq⟩ := Nat.exists_coprime p q
  generalize hd : Nat.gcd (Nat.lcm p q) c = d
  have hdc : d ∣ c := hd ▸ Nat.gcd_dvd_right ..
  have hdl : d ∣ Nat.lcm p q := hd ▸ Nat.gcd_dvd_left ..
  have e1 : p * n' = q * m' := by
    calc p * n' = (m' * Nat.gcd p q) * n' := by rw [← hp]
      _ = (n' * Nat.gcd p q) * m' := by rw [Nat.mul_assoc, Nat.mul_comm (Nat.gcd p q) n', Nat.mul_comm m']
      _ = q * m' := by rw [← hq]
  have hd1 : d ∣ p * n' := Nat.dvd_trans hdl (Nat.lcm_dvd (Nat.dvd_mul_right ..) (e1 ▸ Nat.dvd_mul_right ..))
  have hd2 : d ∣ q * m' := e1 ▸ hd1
  obtain ⟨a, b, hab, ha, hb⟩ := Nat.exists_coprime d p
  obtain ⟨a2, b2, hab2, ha2, hb2⟩ := Nat.exists_coprime d q
  have hda : Nat.gcd d p ∣ x := Nat.dvd_trans (Nat.dvd_gcd (Nat.gcd_dvd_right ..) (Nat.dvd_trans (Nat.gcd_dvd_left ..) hdc)) h1
  have hdb : Nat.gcd d q ∣ x := Nat.dvd_trans (Nat.dvd_gcd (Nat.gcd_dvd_right ..) (Nat.dvd_trans (Nat.gcd_dvd_left ..) hdc)) h2
  generalize Nat.gcd d p = da at *
  generalize Nat.gcd d q = db at *
  by_cases hz : da = 0
  · subst hz; rw [Nat.mul_zero] at ha; subst ha; exact hda
  by_cases hz2 : db = 0
  · subst hz2; rw [Nat.mul_zero] at ha2; subst ha2; exact hdb
  have hda0 : 0 < da := Nat.pos_of_ne_zero hz
  have hdb0 : 0 < db := Nat.pos_of_ne_zero hz2
  have han : a ∣ n' := by
    have : da * a ∣ da * (b * n') := by
      rw [Nat.mul_comm da a, ← ha, ← Nat.mul_assoc, Nat.mul_comm da b, ← hb]; exact hd1
    exact hab.dvd_of_dvd_mul_left (Nat.dvd_of_mul_dvd_mul_left hda0 this)
  have ham : a2 ∣ m' := by
    have : db * a2 ∣ db * (b2 * m') := by
      rw [Nat.mul_comm db a2, ← ha2, ← Nat.mul_assoc, Nat.mul_comm db b2, ← hb2]; exact hd2
    exact hab2.dvd_of_dvd_mul_left (Nat.dvd_of_mul_dvd_mul_left hdb0 this)
  have hcop : Nat.Coprime a a2 := (hmn.symm.coprime_dvd_left han).coprime_dvd_right ham
  obtain ⟨s, rfl⟩ := hda
  have h3 : da * a ∣ da * (s * a2) := by
    rw [Nat.mul_comm da a, ← ha, ← Nat.mul_assoc, ha2, Nat.mul_comm a2]
    exact Nat.mul_dvd_mul_right hdb a2
  have h4 : a ∣ s := hcop.dvd_of_dvd_mul_right (Nat.dvd_of_mul_dvd_mul_left hda0 h3)
  rw [ha, Nat.mul_comm a]
  exact Nat.mul_dvd_mul_left da h4
theorem gcd_lcm_int {p q c x : Int} (h1 : gcdI p c ∣ x) (h2 : gcdI q c ∣ x) : gcdI ((Int.lcm p q : Nat) : Int) c ∣ x := by
  unfold gcdI at h1 h2 ⊢
  exact Int.ofNat_dvd_left.2 (gcd_lcm_nat (Int.ofNat_dvd_left.1 h1) (Int.ofNat_dvd_left.1 h2))
theorem gcdI_dl (a b : Int) : gcdI a b ∣ a := Int.gcd_dvd_left ..
theorem gcdI_dr (a b : Int) : gcdI a b ∣ b := Int.gcd_dvd_right ..
theorem gcdI_comm (a b : Int) : gcdI a b = gcdI b a := by unfold gcdI; rw [Int.gcd_comm]
theorem gcdI_dvd {d a b : Int} (h1 : d ∣ a) (h2 : d ∣ b) : d ∣ gcdI a b := Int.dvd_coe_gcd h1 h2
def hitN (T L P O : Int) (n : Nat) : Bool := Int.tmod (T + (n : Int) * L) P == O
def srch (T L P O : Int) (steps : Nat) : Option Nat := (List.range steps).find? (hitN T L P O)
theorem hitN_iff {T L P O : Int} {n : Nat} (hT : 0 ≤ T) (hL : 0 ≤ L) (hP : 1 ≤ P) (hO : 0 ≤ O) (hO2 : O < P) : hitN T L P O n = true ↔ P ∣ T + (n : Int) * L - O := by
  have hnn : 0 ≤ (n : Int) * L := Int.mul_nonneg (Int.natCast_nonneg n) hL
  unfold hitN
  rw [beq_iff_eq, Int.tmod_eq_emod_of_nonneg (by omega)]
  constructor
  · intro h
    exact Int.dvd_of_emod_eq_zero (Int.emod_eq_emod_iff_emod_sub_eq_zero.1 (by rw [h, Int.emod_eq_of_lt hO hO2]))
  · intro h
    have := Int.emod_eq_emod_iff_emod_sub_eq_zero.2 (Int.emod_eq_zero_of_dvd h)
    rw [this, Int.emod_eq_of_lt hO hO2]
def stp (L P : Int) : Int := P / gcdI L P
theorem stp_mul {L P : Int} : stp L P * gcdI L P = P := Int.ediv_mul_cancel (gcdI_dr L P)
theorem stp_pos {L P : Int} (hP : 1 ≤ P) : 1 ≤ stp L P := by
  have h1 := gcdI_pos (a := L) (show 0 < P by omega)
  have h2 := gcdI_le (a := L) (show 0 < P by omega)
  exact Int.le_ediv_of_mul_le h1 (by omega)
theorem stp_le {L P : Int} (hP : 1 ≤ P) : stp L P ≤ P := Int.ediv_le_self _ (by omega)
theorem lcm_stp {L P : Int} (hL : 1 ≤ L) (hP : 1 ≤ P) : ((Int.lcm L P : Nat) : Int) = L * stp L P := by
  have h1 := gcdI_pos (a := L) (show 0 < P by omega)
  have e : gcdI L P * ((Int.lcm L P : Nat) : Int) = L * P := by
    unfold gcdI
    have := Int.gcd_mul_lcm L P
    have h2 : ((Int.gcd L P * Int.lcm L P : Nat) : Int) = ((L.natAbs * P.natAbs : Nat) : Int) := by rw [this]
    rw [Int.natCast_mul, Int.natCast_mul] at h2
    rw [h2, Int.natAbs_of_nonneg (by omega), Int.natAbs_of_nonneg (by omega)]
  have e2 : gcdI L P * (L * stp L P) = L * P := by
    rw [Int.mul_comm, Int.mul_assoc, stp_mul]
  exact Int.eq_of_mul_eq_mul_left (by omega) (e.trans e2.symm)
theorem cop {L P x : Int} (hL : 1 ≤ L) (hP : 1 ≤ P) (h : stp L P ∣ (L / gcdI L P) * x) : stp L P ∣ x := by
  have hg := gcdI_pos (a := L) (show 0 < P by omega)
  have h2 : P ∣ L * x := by
    have h3 : gcdI L P * stp L P ∣ gcdI L P * ((L / gcdI L P) * x) := Int.mul_dvd_mul_left _ h
    rw [Int.mul_comm, stp_mul, ← Int.mul_assoc, Int.mul_ediv_cancel' (gcdI_dl L P)] at h3
    exact h3
  have h4 : ((Int.lcm L P : Nat) : Int) ∣ L * x := Int.coe_lcm_dvd (Int.dvd_mul_right ..) h2
  rw [lcm_stp hL hP] at h4
  exact Int.dvd_of_mul_dvd_mul_left (by omega) h4
theorem hit_one {T L P O : Int} {n m : Nat} (hT : 0 ≤ T) (hL : 1 ≤ L) (hP : 1 ≤ P) (hO : 0 ≤ O) (hO2 : O < P) (h1 : hitN T L P O n = true) (h2 : hitN T L P O m = true) (hn : (n : Int) < stp L P) (hm : (m : Int) < stp L P) : n = m := by
  rw [hitN_iff hT (by omega) hP hO hO2] at h1 h2
  have h3 : P ∣ L * ((n : Int) - m) := by
    have := Int.dvd_sub h1 h2
    rw [show T + (n : Int) * L - O - (T + (m : Int) * L - O) = L * ((n : Int) - m) from by rw [Int.mul_sub, Int.mul_comm L, Int.mul_comm L]; omega] at this
    exact this
  have h4 : ((Int.lcm L P : Nat) : Int) ∣ L * ((n : Int) - m) := Int.coe_lcm_dvd (Int.dvd_mul_right ..) h3
  rw [lcm_stp hL hP] at h4
  have h5 : stp L P ∣ (n : Int) - m := Int.dvd_of_mul_dvd_mul_left (by omega) h4
  rcases Int.lt_trichotomy (n : Int) m with h | h | h
  · have := Int.le_of_dvd (by omega) (show stp L P ∣ (m : Int) - n from by rw [← Int.neg_sub]; exact Int.dvd_neg.2 h5)
    omega
  · omega
  · have := Int.le_of_dvd (by omega) h5
    omega
theorem hit_dvd {T L P O : Int} {n : Nat} (hT : 0 ≤ T) (hL : 1 ≤ L) (hP : 1 ≤ P) (hO : 0 ≤ O) (hO2 : O < P) (h1 : hitN T L P O n = true) : gcdI L P ∣ O - T := by
  rw [hitN_iff hT (by omega) hP hO hO2] at h1
  have h2 := Int.dvd_trans (gcdI_dr L P) h1
  have h3 : gcdI L P ∣ (n : Int) * L := Int.dvd_trans (gcdI_dl L P) (Int.dvd_mul_left ..)
  have := Int.dvd_sub h3 h2
  rwa [show (n : Int) * L - (T + (n : Int) * L - O) = O - T from by omega] at this
theorem srch_some {T L P O : Int} {n : Nat} (hT : 0 ≤ T) (hL : 1 ≤ L) (hP : 1 ≤ P) (hO : 0 ≤ O) (hO2 : O < P) (h : hitN T L P O n = true) (hn : (n : Int) < stp L P) : srch T L P O (stp L P).toNat = some n := by
  unfold srch
  cases hf : (List.range (stp L P).toNat).find? (hitN T L P O) with
  | none =>
    rw [List.find?_eq_none] at hf
    exact absurd h (hf n (List.mem_range.2 (by omega)))
  | some m =>
    have h1 := List.find?_some hf
    have h2 := List.mem_range.1 (List.mem_of_find?_eq_some hf)
    rw [hit_one hT hL hP hO hO2 h1 h (by omega) hn]
theorem l66 (p : Nat) (n : Int) (hp : p ≤ 200) : ∀ (f x y A B : Nat) (s : Int), (s = 1 ∨ s = -1) → B * x + A * y = p → x ≤ p → y ≤ p → A ≤ p → B ≤ p → (p : Int) ∣ s * A * n - x → (p : Int) ∣ -(s * B) * n - y → y < f →
    ∃ r : Int, L66_0 (p : Int) f (s * A) (-(s * B)) (x : Int) (y : Int) = some r ∧ (p : Int) ∣ r * n - (Nat.gcd x y : Nat) ∧ -(p : Int) ≤ r ∧ r ≤ p
  | 0, x, y, A, B, s, _, _, _, _, _, _, _, _, h => by omega
  | f + 1, x, y, A, B, s, hs, hinv, hx, hy, hA, hB, d1, d2, hf => by
    unfold L66_0
    by_cases h0 : y = 0
    · subst h0
      rw [oif_neg (by simp), Nat.gcd_zero_right]
      refine ⟨s * A, rfl, d1, ?_, ?_⟩ <;> rcases hs with rfl | rfl <;> omega
    · have hy0 : 0 < y := Nat.pos_of_ne_zero h0
      have hq : Int.tdiv (x : Int) (y : Int) = ((x / y : Nat) : Int) := rfl
      have hdm := Nat.div_add_mod x y
      have hqx : x / y ≤ 200 := Nat.le_trans (Nat.div_le_self ..) (by omega)
      have hinv' : (A + x / y * B) * y + B * (x % y) = p := by
        rw [Nat.add_mul, Nat.add_assoc, Nat.mul_right_comm, Nat.mul_comm (x / y * y) B, ← Nat.mul_add, Nat.mul_comm (x / y) y, hdm, Nat.add_comm]; exact hinv
      have hB' : A + x / y * B ≤ p := by
        have : A + x / y * B ≤ (A + x / y * B) * y := Nat.le_mul_of_pos_right _ hy0
        omega
      have hqb : x / y * B ≤ 200 := by omega
      have hqy : x / y * y ≤ x := Nat.div_mul_le_self x y
      have e1 : s * A - ((x / y : Nat) : Int) * -(s * B) = -(-s * ((A + x / y * B : Nat) : Int)) := by
        rw [Int.natCast_add, Int.natCast_mul]; rcases hs with rfl | rfl <;> simp [Int.mul_add, Int.neg_mul, Int.mul_neg] <;> omega
      have e2 : (x : Int) - ((x / y : Nat) : Int) * y = ((x % y : Nat) : Int) := by
        have : ((y * (x / y) + x % y : Nat) : Int) = x := by rw [hdm]
        rw [Int.natCast_add, Int.natCast_mul, Int.mul_comm] at this; omega
      have hqb' : ((x / y * B : Nat) : Int) ≤ 200 := by omega
      rw [Int.natCast_mul] at hqb'
      have hqy' : ((x / y * y : Nat) : Int) ≤ 200 := by omega
      rw [Int.natCast_mul] at hqy'
      have hqb0 : 0 ≤ ((x / y : Nat) : Int) * B := Int.mul_nonneg (Int.natCast_nonneg _) (Int.natCast_nonneg _)
      have hqy0 : 0 ≤ ((x / y : Nat) : Int) * y := Int.mul_nonneg (Int.natCast_nonneg _) (Int.natCast_nonneg _)
      have e3 : ((x / y : Nat) : Int) * -(s * B) = -(s * (((x / y : Nat) : Int) * B)) := by rw [Int.mul_neg, ← Int.mul_assoc, ← Int.mul_assoc, Int.mul_comm s]
      have hq0 : (0 : Int) ≤ ((x / y : Nat) : Int) := Int.natCast_nonneg _
      have hq2 : ((x / y : Nat) : Int) ≤ 200 := by rw [show (200 : Int) = ((200 : Nat) : Int) from rfl]; exact Int.ofNat_le.2 hqx
      have w1 : IntKind.wrap .i64 ((x / y : Nat) : Int) = ((x / y : Nat) : Int) := wrap_id (Int.le_trans (by decide) hq0) (Int.lt_of_le_of_lt hq2 (by decide))
      have w2 : IntKind.wrap .i64 (((x / y : Nat) : Int) * -(s * B)) = ((x / y : Nat) : Int) * -(s * B) := by
        rw [e3]; apply wrap_id <;> rcases hs with rfl | rfl <;> omega
      have w3 : IntKind.wrap .i64 (s * A - ((x / y : Nat) : Int) * -(s * B)) = -(-s * ((A + x / y * B : Nat) : Int)) := by
        rw [e1]; apply wrap_id <;> rcases hs with rfl | rfl <;> omega
      have w4 : IntKind.wrap .i64 (((x / y : Nat) : Int) * y) = ((x / y : Nat) : Int) * y := wrap_id (by omega) (by omega)
      have w5 : IntKind.wrap .i64 ((x : Int) - ((x / y : Nat) : Int) * y) = ((x % y : Nat) : Int) := by rw [e2]; exact wrap_id (by omega) (by have := Nat.mod_lt x hy0; omega)
      rw [oif_pos (by simpa using h0), oif_pos (by simpa using h0), hq, w1, w2, w3, w4, w5]
      have hmod := Nat.mod_lt x hy0
      have := l66 p n hp f y (x % y) B (A + x / y * B) (-s) (by rcases hs with rfl | rfl <;> simp) hinv' hy (by omega) hB hB' (by rw [Int.neg_mul]; exact d2) (by
        rw [← e1, ← e2]
        have h3 := Int.dvd_sub d1 (Int.dvd_trans d2 (Int.dvd_mul_left (((x / y : Nat) : Int)) _))
        rw [show (s * A - ((x / y : Nat) : Int) * -(s * B)) * n - ((x : Int) - ((x / y : Nat) : Int) * y) = s * A * n - x - ((x / y : Nat) : Int) * (-(s * B) * n - y) from by
          rw [Int.sub_mul, Int.mul_sub, Int.mul_assoc ((x / y : Nat) : Int)]; omega]
        exact h3) (by omega)
      rw [show -s * (B : Int) = -(s * B) from Int.neg_mul ..] at this
      obtain ⟨r, h1, h2, h3⟩ := this
      refine ⟨r, h1, ?_, h3⟩
      rw [show Nat.gcd x y = Nat.gcd y (x % y) from by rw [Nat.gcd_comm y, ← Nat.gcd_rec, Nat.gcd_comm]]
      exact h2
theorem f66 (fuel : Nat) (n p : Int) (hn : 0 ≤ n) (hp : 1 ≤ p) (hp2 : p ≤ 200) (hf : 300 ≤ fuel) : ∃ r, F66 fuel n p = some r ∧ p ∣ r * n - gcdI n p ∧ 0 ≤ r ∧ r < p := by
  obtain ⟨P, rfl⟩ := Int.eq_ofNat_of_zero_le (show 0 ≤ p by omega)
  obtain ⟨N, rfl⟩ := Int.eq_ofNat_of_zero_le hn
  have hm : Int.tmod (N : Int) (P : Int) = ((N % P : Nat) : Int) := rfl
  have hlt := Nat.mod_lt N (show 0 < P by omega)
  obtain ⟨r, h1, h2, h3, h4⟩ := l66 P (N : Int) (by omega) fuel (N % P) P 1 0 1 (.inl rfl) (by omega) (by omega) (Nat.le_refl _) (by omega) (by omega) (by
      rw [Int.natCast_one, Int.one_mul, Int.one_mul]
      have := Nat.div_add_mod N P
      have e : (N : Int) - ((N % P : Nat) : Int) = (P : Int) * ((N / P : Nat) : Int) := by
        rw [← Int.natCast_mul]; omega
      rw [e]; exact Int.dvd_mul_right ..) (by
      rw [show -(1 * ((0 : Nat) : Int)) * (N : Int) - (P : Int) = -(P : Int) from by simp]
      exact Int.dvd_neg.2 (Int.dvd_refl _)) (by omega)
  unfold F66
  rw [show (1 : Int) * ((1 : Nat) : Int) = 1 from rfl, show -(1 * ((0 : Nat) : Int)) = 0 from rfl] at h1
  rw [oif_pos (by rw [decide_eq_true_eq]; omega), hm, h1, obind_some]
  have t1 := Int.tmod_lt_of_pos r (show (0 : Int) < P by omega)
  have t2 := Int.lt_tmod_of_pos r (show (0 : Int) < P by omega)
  have t3 := Int.dvd_sub_self_of_tmod_eq (a := r) (b := (P : Int)) rfl
  obtain ⟨t4, t5⟩ := tmod_nn (a := Int.tmod r P + P) (b := (P : Int)) (by omega) (by omega)
  have t6 := Int.dvd_sub_self_of_tmod_eq (a := Int.tmod r P + P) (b := (P : Int)) rfl
  refine ⟨_, rfl, ?_, ?_⟩
  · rw [wrap_id (by omega) (by omega)]
    generalize Int.tmod (Int.tmod r P + P) P = z at *
    generalize Int.tmod r (P : Int) = y at *
    have e1 : (P : Int) ∣ z - r := by
      have := Int.dvd_add (Int.dvd_add t6 t3) (Int.dvd_refl (P : Int))
      rwa [show z - (y + P) + (y - r) + P = z - r from by omega] at this
    have e2 := Int.dvd_add (Int.dvd_trans e1 (Int.dvd_mul_right _ (N : Int))) h2
    rw [show (z - r) * (N : Int) + (r * N - ((Nat.gcd (N % P) P : Nat) : Int)) = z * N - ((Nat.gcd (N % P) P : Nat) : Int) from by rw [Int.sub_mul]; omega] at e2
    have e3 : gcdI (N : Int) (P : Int) = ((Nat.gcd (N % P) P : Nat) : Int) := by
      unfold gcdI
      rw [show Int.gcd (N : Int) (P : Int) = Nat.gcd N P from rfl, Nat.gcd_comm N P, Nat.gcd_rec]
    rw [e3]; exact e2
  · rw [wrap_id (by omega) (by omega)]; exact ⟨t4, t5⟩
end Go.Idl.N
set_option linter.unusedSimpArgs false
set_option linter.unusedVariables false
namespace Go.Idl.N
open Go Go.Idl
def joinS : List (Int × Int) → Int → Int → Option (Int × Int)
  | [], T, L => some (T, L)
  | x :: r, T, L => match srch T L x.1 x.2 (stp L x.1).toNat with
    | some n => joinS r (T + (n : Int) * L) (L * stp L x.1)
    | none => none
def okPin (x : Int × Int) : Prop := 1 ≤ x.1 ∧ x.1 ≤ 200 ∧ 0 ≤ x.2 ∧ x.2 < x.1
def okP (a b : Int × Int) : Prop := gcdI a.1 b.1 ∣ a.2 - b.2
theorem okP_symm {a b : Int × Int} (h : okP a b) : okP b a := by
  unfold okP at *
  rw [gcdI_comm, ← Int.neg_sub]; exact Int.dvd_neg.2 h
structure Stt (S : List (Int × Int)) (T L : Int) : Prop where
  hL : 1 ≤ L
  hT : 0 ≤ T
  hTL : T < L
  dv : ∀ s ∈ S, s.1 ∣ L
  tm : ∀ s ∈ S, s.1 ∣ T - s.2
  inv : ∀ Q x : Int, 1 ≤ Q → (∀ s ∈ S, gcdI s.1 Q ∣ x - s.2) → gcdI L Q ∣ x - T
theorem Stt.nil : Stt [] 0 1 := ⟨by omega, by omega, by omega, fun _ h => by simp at h, fun _ h => by simp at h, fun Q x hQ _ => by
  have : gcdI 1 Q = 1 := by unfold gcdI; simp
  rw [this]; exact Int.one_dvd _⟩
theorem Stt.step {S : List (Int × Int)} {T L : Int} {x : Int × Int} {n : Nat} (h : Stt S T L) (hx : okPin x) (hn : (n : Int) < stp L x.1) (hh : hitN T L x.1 x.2 n = true) : Stt (S ++ [x]) (T + (n : Int) * L) (L * stp L x.1) := by
  obtain ⟨h1, h2, h3, h4, h5, h6⟩ := h
  obtain ⟨p1, p2, p3, p4⟩ := hx
  have hs := stp_pos (L := L) p1
  have hnL : 0 ≤ (n : Int) * L := Int.mul_nonneg (by omega) (by omega)
  have hb : ((n : Int) + 1) * L ≤ stp L x.1 * L := Int.mul_le_mul_of_nonneg_right (by omega) (by omega)
  have hb2 : 1 * 1 ≤ L * stp L x.1 := Int.mul_le_mul h1 hs (by omega) (by omega)
  rw [hitN_iff h2 (by omega) p1 p3 p4] at hh
  have hlcm := lcm_stp h1 p1
  have hd : x.1 ∣ L * stp L x.1 := by rw [← hlcm]; exact Int.dvd_lcm_right ..
  refine ⟨by omega, by omega, ?_, fun s hs => ?_, fun s hs => ?_, fun Q y hQ hy => ?_⟩
  · rw [Int.mul_comm L]
    rw [Int.add_mul] at hb; omega
  · rcases List.mem_append.1 hs with hs | hs
    · exact Int.dvd_trans (h4 s hs) (Int.dvd_mul_right ..)
    · rw [List.mem_singleton] at hs; subst hs; exact hd
  · rcases List.mem_append.1 hs with hs | hs
    · have := Int.dvd_add (h5 s hs) (Int.dvd_trans (h4 s hs) (Int.dvd_mul_left (n : Int) L))
      rwa [show T - s.2 + (n : Int) * L = T + (n : Int) * L - s.2 from by omega] at this
    · rw [List.mem_singleton] at hs; subst hs; exact hh
  · rw [← hlcm]
    apply gcd_lcm_int
    · have a1 := h6 Q y hQ fun s hs => hy s (List.mem_append_left _ hs)
      have a2 := Int.dvd_trans (gcdI_dl L Q) (Int.dvd_mul_left (n : Int) L)
      have := Int.dvd_sub a1 a2
      rwa [show y - T - (n : Int) * L = y - (T + (n : Int) * L) from by omega] at this
    · have a1 := hy x (by simp)
      have a2 := Int.dvd_trans (gcdI_dl x.1 Q) hh
      have := Int.dvd_sub a1 a2
      rwa [show y - x.2 - (T + (n : Int) * L - x.2) = y - (T + (n : Int) * L) from by omega] at this
theorem gcd_cop {L P : Int} (hL : 1 ≤ L) (hP : 1 ≤ P) : gcdI (L / gcdI L P) (stp L P) = 1 := by
  have hs := stp_pos (L := L) hP
  generalize hg : gcdI (L / gcdI L P) (stp L P) = g
  have hg0 : 0 < g := hg ▸ gcdI_pos (by omega)
  have g1 : g ∣ L / gcdI L P := hg ▸ gcdI_dl ..
  have g2 : g ∣ stp L P := hg ▸ gcdI_dr ..
  obtain ⟨u, hu⟩ := g1
  obtain ⟨v, hv⟩ := g2
  have h : stp L P ∣ (L / gcdI L P) * v := by
    rw [hu, Int.mul_comm g, Int.mul_assoc, ← hv]; exact Int.dvd_mul_left ..
  have h2 := cop hL hP h
  have hv0 : 0 < v := by
    rcases Int.lt_trichotomy v 0 with h | h | h
    · have := Int.mul_neg_of_pos_of_neg hg0 h; omega
    · subst h; simp at hv; omega
    · exact h
  have h3 := Int.le_of_dvd hv0 h2
  have h4 : g * v ≤ 1 * v := by rw [← hv]; omega
  have := Int.le_of_mul_le_mul_right h4 hv0
  omega
theorem sol {T L P O N r : Int} (hL : 1 ≤ L) (hP : 1 ≤ P) (hd : gcdI L P ∣ O - T) (hr : stp L P ∣ r * (L / gcdI L P) - 1) (hN : stp L P ∣ N - (O - T) / gcdI L P * r) : P ∣ T + N * L - O := by
  have a1 := Int.dvd_trans hN (Int.dvd_mul_right (N - (O - T) / gcdI L P * r) (L / gcdI L P))
  have a2 := Int.dvd_trans hr (Int.dvd_mul_left ((O - T) / gcdI L P) (r * (L / gcdI L P) - 1))
  have a3 := Int.dvd_add a1 a2
  rw [Int.sub_mul, Int.mul_sub, Int.mul_one, Int.mul_assoc ((O - T) / gcdI L P) r, show ∀ a b c : Int, a - b + (b - c) = a - c from fun a b c => by omega] at a3
  have a4 := Int.mul_dvd_mul_right (gcdI L P) a3
  rw [stp_mul, Int.sub_mul, Int.mul_assoc, Int.ediv_mul_cancel (gcdI_dl L P), Int.ediv_mul_cancel hd] at a4
  rwa [show N * L - (O - T) = T + N * L - O from by omega] at a4
theorem hit_ex {T L P O : Int} (hT : 0 ≤ T) (hL : 1 ≤ L) (hP : 1 ≤ P) (hP2 : P ≤ 200) (hO : 0 ≤ O) (hO2 : O < P) (hd : gcdI L P ∣ O - T) : ∃ n : Nat, (n : Int) < stp L P ∧ hitN T L P O n = true := by
  have hs := stp_pos (L := L) hP
  have hs2 := stp_le (L := L) hP
  have hc := gcdI_pos (a := L) (show 0 < P by omega)
  obtain ⟨r, _, h1, _, _⟩ := f66 300 (L / gcdI L P) (stp L P) (Int.ediv_nonneg (by omega) (by omega)) hs (by omega) (by omega)
  rw [gcd_cop hL hP] at h1
  have b1 := Int.emod_nonneg ((O - T) / gcdI L P * r) (show stp L P ≠ 0 by omega)
  have b2 := Int.emod_lt_of_pos ((O - T) / gcdI L P * r) (show 0 < stp L P by omega)
  have b3 := Int.dvd_sub_self_of_emod_eq (a := (O - T) / gcdI L P * r) (b := stp L P) rfl
  refine ⟨((O - T) / gcdI L P * r % stp L P).toNat, by omega, ?_⟩
  rw [hitN_iff hT (by omega) hP hO hO2, Int.toNat_of_nonneg b1]
  exact sol hL hP hd h1 b3
theorem srch_spec {T L P O : Int} {n : Nat} (hP : 1 ≤ P) (h : srch T L P O (stp L P).toNat = some n) : (n : Int) < stp L P ∧ hitN T L P O n = true := by
  unfold srch at h
  have h1 := List.find?_some h
  have h2 := List.mem_range.1 (List.mem_of_find?_eq_some h)
  exact ⟨by omega, h1⟩
theorem join_ok : ∀ (r S : List (Int × Int)) (T L : Int), Stt S T L → (∀ x ∈ r, okPin x) → (∀ s ∈ S, ∀ b ∈ r, okP s b) → r.Pairwise okP → ∃ T' L', joinS r T L = some (T', L')
  | [], S, T, L, _, _, _, _ => ⟨T, L, rfl⟩
  | x :: r, S, T, L, h, hr, hS, hp => by
    obtain ⟨p1, p2, p3, p4⟩ := hr x (List.mem_cons_self ..)
    have hd : gcdI L x.1 ∣ x.2 - T := h.inv x.1 x.2 p1 fun s hs => by
      have := hS s hs x (List.mem_cons_self ..)
      unfold okP at this
      rw [← Int.neg_sub]; exact Int.dvd_neg.2 this
    obtain ⟨n, h1, h2⟩ := hit_ex h.hT h.hL p1 p2 p3 p4 hd
    have h3 := srch_some h.hT h.hL p1 p3 p4 h2 h1
    rw [List.pairwise_cons] at hp
    obtain ⟨T', L', h4⟩ := join_ok r (S ++ [x]) _ _ (h.step ⟨p1, p2, p3, p4⟩ h1 h2) (fun y hy => hr y (List.mem_cons_of_mem _ hy)) (fun s hs b hb => by
      rcases List.mem_append.1 hs with hs | hs
      · exact hS s hs b (List.mem_cons_of_mem _ hb)
      · rw [List.mem_singleton] at hs; subst hs; exact hp.1 b hb) hp.2
    exact ⟨T', L', by unfold joinS; rw [h3]; exact h4⟩
theorem join_stt : ∀ (r S : List (Int × Int)) (T L T' L' : Int), Stt S T L → (∀ x ∈ r, okPin x) → joinS r T L = some (T', L') → Stt (S ++ r) T' L'
  | [], S, T, L, T', L', h, _, hj => by cases hj; rwa [List.append_nil]
  | x :: r, S, T, L, T', L', h, hr, hj => by
    unfold joinS at hj
    cases hs : srch T L x.1 x.2 (stp L x.1).toNat with
    | none => rw [hs] at hj; cases hj
    | some n =>
      rw [hs] at hj
      have hx := hr x (List.mem_cons_self ..)
      obtain ⟨h1, h2⟩ := srch_spec hx.1 hs
      have := join_stt r (S ++ [x]) _ _ T' L' (h.step hx h1 h2) (fun y hy => hr y (List.mem_cons_of_mem _ hy)) hj
      rwa [List.append_assoc] at this
theorem Stt.ok {S : List (Int × Int)} {T L : Int} (h : Stt S T L) {a b : Int × Int} (ha : a ∈ S) (hb : b ∈ S) : okP a b := by
  have h1 := Int.dvd_trans (gcdI_dl a.1 b.1) (h.tm a ha)
  have h2 := Int.dvd_trans (gcdI_dr a.1 b.1) (h.tm b hb)
  have := Int.dvd_sub h2 h1
  rwa [show T - b.2 - (T - a.2) = a.2 - b.2 from by omega] at this
theorem join_iff (l : List (Int × Int)) (hl : ∀ x ∈ l, okPin x) : (∃ p, joinS l 0 1 = some p) ↔ l.Pairwise okP := by
  constructor
  · rintro ⟨⟨T, L⟩, h⟩
    have := join_stt l [] 0 1 T L Stt.nil hl h
    rw [List.nil_append] at this
    rw [List.pairwise_iff_getElem]
    exact fun i j hi hj _ => this.ok (List.getElem_mem hi) (List.getElem_mem hj)
  · intro h
    obtain ⟨T, L, h⟩ := join_ok l [] 0 1 Stt.nil hl (fun s hs => by simp at hs) h
    exact ⟨(T, L), h⟩
theorem pow1 : ∀ n : Nat, (1 : Int) ≤ 200 ^ n
  | 0 => by decide
  | n + 1 => by rw [Int.pow_succ]; have := pow1 n; omega
theorem pins_ok {l : List (Int × Int)} (hv : l.any badPin = false) : ∀ x ∈ l, okPin x := fun x hx => pin_ok hv hx
theorem l46_2 (l : List (Int × Int)) (T L : Int) (k : Nat) (hk : k < l.length) (hx : okPin l[k]) (hT : 0 ≤ T) (hT2 : T ≤ 1000000000000) (hL : 1 ≤ L) (hL2 : L ≤ 1000000000000) (st : Nat) (hst : st ≤ 200) : ∀ (f n : Nat), n ≤ st → st - n < f →
    L46_2 l T L (k : Int) (st : Int) f (n : Int) = some (match (List.range' n (st - n)).find? (hitN T L l[k].1 l[k].2) with | some m => (m : Int) | none => (st : Int))
  | 0, n, _, h => by omega
  | f + 1, n, hn, h => by
    unfold L46_2
    by_cases hlt : n < st
    · have hb : (n : Int) * L ≤ 200 * 1000000000000 := Int.mul_le_mul (by omega) hL2 (by omega) (by omega)
      have hb0 : 0 ≤ (n : Int) * L := Int.mul_nonneg (by omega) (by omega)
      rw [oif_pos (by simpa using hlt), sg_ge hk, obind_some, oif_pos (by rw [decide_eq_true_eq]; have := hx.1; omega), wrap_id (n := (n : Int) * L) (by omega) (by omega), wrap_id (n := T + (n : Int) * L) (by omega) (by omega), wrap_succ (by omega), show st - n = (st - (n + 1)) + 1 from by omega, List.range'_succ, List.find?_cons,
        l46_2 l T L k hk hx hT hT2 hL hL2 st hst f (n + 1) (by omega) (by omega)]
      have he : (Int.tmod (T + (n : Int) * L) l[k].1 != l[k].2) = !(hitN T L l[k].1 l[k].2 n) := rfl
      rw [he]
      cases hitN T L l[k].1 l[k].2 n <;> rfl
    · rw [oif_neg (by simpa using hlt), show st - n = 0 from by omega]
      simp; omega
theorem stp_tdiv {L P : Int} (hP : 1 ≤ P) (hP2 : P ≤ 200) : IntKind.wrap .i64 (Int.tdiv P (gcdI L P)) = stp L P := by
  rw [Int.tdiv_eq_ediv_of_nonneg (by omega)]
  have h1 := stp_pos (L := L) hP
  have h2 := stp_le (L := L) hP
  unfold stp at *
  exact wrap_id (by omega) (by omega)
theorem l46 (l : List (Int × Int)) (hv : l.any badPin = false) (h5 : l.length ≤ 5) : ∀ (f k : Nat) (T L : Int), k ≤ l.length → l.length - k + 400 < f → 0 ≤ T → T < L → L * 200 ^ (l.length - k) ≤ 320000000000 →
    L46_0 l f T L (k : Int) = some (match joinS (l.drop k) T L with | some p => .inr p | none => .inl ())
  | 0, k, _, _, _, h, _, _, _ => by omega
  | f + 1, k, T, L, hk, h, hT, hTL, hb => by
    unfold L46_0
    have hp : (1 : Int) ≤ 200 ^ (l.length - k) := pow1 _
    have hLb : L * 1 ≤ L * 200 ^ (l.length - k) := Int.mul_le_mul_of_nonneg_left hp (by omega)
    by_cases hlt : k < l.length
    · have hx := pins_ok hv _ (List.getElem_mem hlt)
      obtain ⟨p1, p2, p3, p4⟩ := hx
      have hs1 := stp_pos (L := L) p1
      have hs2 := stp_le (L := L) p1
      have hs2' : ((stp L l[k].1).toNat : Int) = stp L l[k].1 := by omega
      have e2 := l46_2 l T L k hlt ⟨p1, p2, p3, p4⟩ hT (by omega) (by omega) (by omega) (stp L l[k].1).toNat (by omega) f 0 (by omega) (by omega)
      rw [hs2', Int.natCast_zero, Nat.sub_zero, ← List.range_eq_range'] at e2
      have hLs : L * stp L l[k].1 ≤ L * 200 := Int.mul_le_mul_of_nonneg_left (by omega) (by omega)
      have hLb2 : L * 200 * 200 ^ (l.length - (k + 1)) ≤ 320000000000 := by
        rw [show l.length - k = (l.length - (k + 1)) + 1 from by omega, Int.pow_succ, Int.mul_comm (200 ^ _) 200, ← Int.mul_assoc] at hb
        exact hb
      have hp1 : (1 : Int) ≤ 200 ^ (l.length - (k + 1)) := pow1 _
      have hLb3 : L * 200 * 1 ≤ L * 200 * 200 ^ (l.length - (k + 1)) := Int.mul_le_mul_of_nonneg_left hp1 (by omega)
      rw [oif_pos (by simpa using hlt), sg_ge hlt, obind_some, f50 f L l[k].1 (by omega) (by omega) (by omega), obind_some, oif_pos (by rw [decide_eq_true_eq]; have := gcdI_pos (a := L) (show 0 < l[k].1 by omega); omega), stp_tdiv p1 p2, e2, obind_some, List.drop_eq_getElem_cons hlt]
      unfold joinS
      rw [show (List.range (stp L l[k].1).toNat).find? (hitN T L l[k].1 l[k].2) = srch T L l[k].1 l[k].2 (stp L l[k].1).toNat from rfl]
      cases hs : srch T L l[k].1 l[k].2 (stp L l[k].1).toNat with
      | none => simp only []; rw [oif_pos (by simp)]
      | some n =>
        obtain ⟨h1, h2⟩ := srch_spec p1 hs
        have hnL : (n : Int) * L ≤ stp L l[k].1 * L := Int.mul_le_mul_of_nonneg_right (by omega) (by omega)
        have hn1 : ((n : Int) + 1) * L ≤ stp L l[k].1 * L := Int.mul_le_mul_of_nonneg_right (by omega) (by omega)
        have hnL0 : 0 ≤ (n : Int) * L := Int.mul_nonneg (by omega) (by omega)
        rw [Int.mul_comm (stp L l[k].1)] at hnL hn1
        rw [Int.add_mul] at hn1
        simp only []
        rw [oif_neg (by simp; omega), wrap_id (n := (n : Int) * L) (by omega) (by omega), wrap_id (n := T + (n : Int) * L) (by omega) (by omega), wrap_id (n := L * stp L l[k].1) (by omega) (by omega), wrap_succ (by omega)]
        exact l46 l hv h5 f (k + 1) _ _ (by omega) (by omega) (by omega) (by omega) (Int.le_trans (Int.mul_le_mul_of_nonneg_right hLs (by omega)) hLb2)
    · rw [oif_neg (by simpa using hlt), List.drop_eq_nil_of_le (by omega)]
      rfl
theorem f46 (fuel : Nat) (l : List (Int × Int)) (hv : l.any badPin = false) (h5 : l.length ≤ 5) (hf : 500 ≤ fuel) : F46 fuel l = some (match joinS l 0 1 with | some p => (p.1, p.2, true) | none => (0, 0, false)) := by
  unfold F46
  have hp : (1 : Int) * 200 ^ l.length ≤ 320000000000 := by
    rcases (show l.length = 0 ∨ l.length = 1 ∨ l.length = 2 ∨ l.length = 3 ∨ l.length = 4 ∨ l.length = 5 by omega) with h | h | h | h | h | h <;> rw [h] <;> decide
  have := l46 l hv h5 fuel 0 0 1 (by omega) (by omega) (by omega) (by omega) (by rw [Nat.sub_zero]; exact hp)
  rw [Int.natCast_zero, List.drop_zero] at this
  rw [this, obind_some]
  cases joinS l 0 1 <;> rfl
theorem l45 (l : List (Int × Int)) (hv : l.any badPin = false) (h5 : l.length ≤ 5) (R : Int × Int) : ∀ (f k : Nat) (T L : Int), k ≤ l.length → l.length - k + 400 < f → 0 ≤ T → T < L → L * 200 ^ (l.length - k) ≤ 320000000000 → joinS (l.drop k) T L = some R →
    L45_0 l (l.length : Int) f T L (k : Int) = some R
  | 0, k, _, _, _, h, _, _, _, _ => by omega
  | f + 1, k, T, L, hk, h, hT, hTL, hb, hj => by
    unfold L45_0
    have hp : (1 : Int) ≤ 200 ^ (l.length - k) := pow1 _
    have hLb : L * 1 ≤ L * 200 ^ (l.length - k) := Int.mul_le_mul_of_nonneg_left hp (by omega)
    by_cases hlt : k < l.length
    · have hx := pins_ok hv _ (List.getElem_mem hlt)
      obtain ⟨p1, p2, p3, p4⟩ := hx
      have hL1 : 1 ≤ L := by omega
      have hs1 := stp_pos (L := L) p1
      have hs2 := stp_le (L := L) p1
      have hc0 := gcdI_pos (a := L) (show 0 < l[k].1 by omega)
      have hLs : L * stp L l[k].1 ≤ L * 200 := Int.mul_le_mul_of_nonneg_left (by omega) (by omega)
      have hLb2 : L * 200 * 200 ^ (l.length - (k + 1)) ≤ 320000000000 := by
        rw [show l.length - k = (l.length - (k + 1)) + 1 from by omega, Int.pow_succ, Int.mul_comm (200 ^ _) 200, ← Int.mul_assoc] at hb
        exact hb
      have hp1 : (1 : Int) ≤ 200 ^ (l.length - (k + 1)) := pow1 _
      have hLb3 : L * 200 * 1 ≤ L * 200 * 200 ^ (l.length - (k + 1)) := Int.mul_le_mul_of_nonneg_left hp1 (by omega)
      rw [List.drop_eq_getElem_cons hlt] at hj
      unfold joinS at hj
      cases hs : srch T L l[k].1 l[k].2 (stp L l[k].1).toNat with
      | none => rw [hs] at hj; cases hj
      | some n =>
        rw [hs] at hj
        simp only [] at hj
        obtain ⟨h1, h2⟩ := srch_spec p1 hs
        have hd := hit_dvd hT hL1 p1 p3 p4 h2
        have hLc : 0 ≤ L / gcdI L l[k].1 := Int.ediv_nonneg (by omega) (by omega)
        have hLc2 : L / gcdI L l[k].1 ≤ L := Int.ediv_le_self _ (by omega)
        obtain ⟨r, hr, hr1, hr2, hr3⟩ := f66 f (L / gcdI L l[k].1) (stp L l[k].1) hLc hs1 (by omega) (by omega)
        rw [gcd_cop hL1 p1] at hr1
        have hD : Int.tdiv (l[k].2 - T) (gcdI L l[k].1) = (l[k].2 - T) / gcdI L l[k].1 := Int.tdiv_eq_ediv_of_dvd hd
        obtain ⟨q, hq⟩ := hd
        have hDq : (l[k].2 - T) / gcdI L l[k].1 = q := by rw [hq]; exact Int.mul_ediv_cancel_left _ (by omega)
        have hqb : -1000000000000 ≤ q ∧ q ≤ 1000000000000 := by
          rcases Int.lt_or_le q 0 with hq0 | hq0
          · have : gcdI L l[k].1 * (-q) = -(l[k].2 - T) := by rw [Int.mul_neg, ← hq]
            have h3 : 1 * (-q) ≤ gcdI L l[k].1 * (-q) := Int.mul_le_mul_of_nonneg_right (by omega) (by omega)
            omega
          · have h3 : 1 * q ≤ gcdI L l[k].1 * q := Int.mul_le_mul_of_nonneg_right (by omega) (by omega)
            omega
        generalize hst : stp L l[k].1 = st at *
        have u1 := Int.tmod_lt_of_pos q (show 0 < st by omega)
        have u2 := Int.lt_tmod_of_pos q (show 0 < st by omega)
        have u3 := Int.dvd_sub_self_of_tmod_eq (a := q) (b := st) rfl
        generalize hu : Int.tmod q st = u at *
        have hur : -40000 ≤ u * r ∧ u * r ≤ 40000 := by
          rcases Int.lt_or_le u 0 with h0 | h0
          · have a1 : (-u) * r ≤ 200 * 200 := Int.mul_le_mul (by omega) (by omega) (by omega) (by omega)
            have a2 : 0 ≤ (-u) * r := Int.mul_nonneg (by omega) (by omega)
            rw [Int.neg_mul] at a1 a2; omega
          · have a1 : u * r ≤ 200 * 200 := Int.mul_le_mul (by omega) (by omega) (by omega) (by omega)
            have a2 : 0 ≤ u * r := Int.mul_nonneg (by omega) (by omega)
            omega
        have v1 := Int.tmod_lt_of_pos (u * r) (show 0 < st by omega)
        have v2 := Int.lt_tmod_of_pos (u * r) (show 0 < st by omega)
        have v3 := Int.dvd_sub_self_of_tmod_eq (a := u * r) (b := st) rfl
        generalize hvv : Int.tmod (u * r) st = v at *
        obtain ⟨n1, n2⟩ := tmod_nn (a := v + st) (b := st) (by omega) (by omega)
        have n3 := Int.dvd_sub_self_of_tmod_eq (a := v + st) (b := st) rfl
        generalize hN : Int.tmod (v + st) st = N at *
        have hdN : st ∣ N - q * r := by
          have a1 := Int.dvd_add (Int.dvd_add n3 v3) (Int.dvd_add (Int.dvd_trans u3 (Int.dvd_mul_right _ r)) (Int.dvd_refl st))
          rw [Int.sub_mul] at a1
          rwa [show N - (v + st) + (v - u * r) + (u * r - q * r + st) = N - q * r from by omega] at a1
        have hhit : hitN T L l[k].1 l[k].2 N.toNat = true := by
          rw [hitN_iff hT (by omega) p1 p3 p4, Int.toNat_of_nonneg n1]
          exact sol hL1 p1 (hq ▸ Int.dvd_mul_right ..) (by rw [hst]; exact hr1) (by rw [hst, hDq]; exact hdN)
        have hnN : n = N.toNat := hit_one hT hL1 p1 p3 p4 h2 hhit (by omega) (by omega)
        have hNn : N = (n : Int) := by omega
        have hnL : (n : Int) * L ≤ st * L := Int.mul_le_mul_of_nonneg_right (by omega) (by omega)
        have hn1 : ((n : Int) + 1) * L ≤ st * L := Int.mul_le_mul_of_nonneg_right (by omega) (by omega)
        have hnL0 : 0 ≤ (n : Int) * L := Int.mul_nonneg (by omega) (by omega)
        rw [Int.mul_comm st] at hnL hn1
        rw [Int.add_mul] at hn1
        have hst2 : IntKind.wrap .i64 (Int.tdiv l[k].1 (gcdI L l[k].1)) = st := by rw [stp_tdiv p1 p2, hst]
        have hLw : IntKind.wrap .i64 (Int.tdiv L (gcdI L l[k].1)) = L / gcdI L l[k].1 := by rw [Int.tdiv_eq_ediv_of_nonneg (by omega)]; exact wrap_id (by omega) (by omega)
        have hDw : IntKind.wrap .i64 (Int.tdiv (IntKind.wrap .i64 (l[k].2 - T)) (gcdI L l[k].1)) = q := by
          rw [wrap_id (n := l[k].2 - T) (by omega) (by omega), hD, hDq]; exact wrap_id (by omega) (by omega)
        rw [oif_pos (by simpa using hlt), sg_ge hlt, obind_some, f61 f L l[k].1 (by omega) (by omega) (by omega), obind_some, oif_pos (by rw [decide_eq_true_eq]; omega), hst2, oif_pos (by rw [decide_eq_true_eq]; omega), hLw, hr, obind_some, hDw, hu,
          wrap_id (n := u * r) (by omega) (by omega), hvv, wrap_id (n := v + st) (by omega) (by omega), hN, hNn, wrap_id (n := (n : Int) * L) (by omega) (by omega), wrap_id (n := T + (n : Int) * L) (by omega) (by omega), wrap_id (n := L * st) (by omega) (by omega), wrap_succ (by omega)]
        exact l45 l hv h5 R f (k + 1) _ _ (by omega) (by omega) (by omega) (by omega) (Int.le_trans (Int.mul_le_mul_of_nonneg_right hLs (by omega)) hLb2) hj
    · rw [oif_neg (by simpa using hlt)]
      rw [List.drop_eq_nil_of_le (by omega)] at hj
      cases hj; rfl
theorem clash_iff {l : List (Int × Int)} (hv : l.any badPin = false) {i k : Nat} (hi : i < l.length) (hk : k < l.length) : clashB l i k = false ↔ okP l[i] l[k] := by
  unfold clashB okP gij
  rw [pinAt_get hi, pinAt_get hk]
  constructor
  · intro h
    exact Int.dvd_of_tmod_eq_zero (by simpa using h)
  · intro h
    simpa using Int.tmod_eq_zero_of_dvd h
theorem cls_nil {l : List (Int × Int)} (hv : l.any badPin = false) : cls l = [] ↔ l.Pairwise okP := by
  unfold cls
  rw [List.filter_eq_nil_iff, List.pairwise_iff_getElem]
  constructor
  · intro h i j hi hj hij
    have := h _ (prs_mem.2 ⟨i, j, hij, hj, rfl⟩)
    simp only [Int.toNat_natCast, Bool.not_eq_true] at this
    exact (clash_iff hv hi hj).1 this
  · intro h p hp
    obtain ⟨i, k, h1, h2, rfl⟩ := prs_mem.1 hp
    simp only [Int.toNat_natCast, Bool.not_eq_true]
    exact (clash_iff hv (by omega) h2).2 (h i k (by omega) h2 h1)
theorem f45 (fuel : Nat) (l : List (Int × Int)) (hv : l.any badPin = false) (h5 : l.length ≤ 5) (hf : 500 ≤ fuel) : F45 fuel (l, cls l) = some (match joinS l 0 1 with | some p => (p.1, p.2, true) | none => (0, 0, false)) := by
  have hp : (1 : Int) * 200 ^ l.length ≤ 320000000000 := by
    rcases (show l.length = 0 ∨ l.length = 1 ∨ l.length = 2 ∨ l.length = 3 ∨ l.length = 4 ∨ l.length = 5 by omega) with h | h | h | h | h | h <;> rw [h] <;> decide
  have hiff := join_iff l (pins_ok hv)
  unfold F45
  by_cases h : cls l = []
  · have hj := hiff.2 ((cls_nil hv).1 h)
    obtain ⟨p, hj⟩ := hj
    have := l45 l hv h5 p fuel 0 0 1 (by omega) (by omega) (by omega) (by omega) (by rw [Nat.sub_zero]; exact hp) (by rw [List.drop_zero]; exact hj)
    rw [Int.natCast_zero] at this
    simp only [h]
    rw [oif_neg (by simp), this, obind_some, hj]
  · have hj : joinS l 0 1 = none := by
      cases hj : joinS l 0 1 with
      | none => rfl
      | some p => exact absurd ((cls_nil hv).2 (hiff.1 ⟨p, hj⟩)) h
    have hpos : 0 < (cls l).length := List.length_pos_iff.2 h
    rw [oif_pos (by simp only [decide_eq_true_eq]; show ((cls l).length : Int) > 0; omega), hj]
end Go.Idl.N
set_option linter.unusedSimpArgs false
set_option linter.unusedVariables false
namespace Go.Idl.N
open Go Go.Idl
theorem join_le : ∀ (r : List (Int × Int)) (T L T' L' B : Int), 1 ≤ L → (∀ x ∈ r, okPin x) → L * 200 ^ r.length ≤ B → joinS r T L = some (T', L') → L' ≤ B
  | [], T, L, T', L', B, _, _, hb, hj => by cases hj; simpa using hb
  | x :: r, T, L, T', L', B, hL, hr, hb, hj => by
    unfold joinS at hj
    cases hs : srch T L x.1 x.2 (stp L x.1).toNat with
    | none => rw [hs] at hj; cases hj
    | some n =>
      rw [hs] at hj
      have hx := hr x (List.mem_cons_self ..)
      have h1 := stp_pos (L := L) hx.1
      have h2 := stp_le (L := L) hx.1
      have h3 := hx.2.1
      have h4 : L * stp L x.1 ≤ L * 200 := Int.mul_le_mul_of_nonneg_left (by omega) (by omega)
      have h5 : 1 * 1 ≤ L * stp L x.1 := Int.mul_le_mul hL h1 (by omega) (by omega)
      refine join_le r _ _ T' L' B (by omega) (fun y hy => hr y (List.mem_cons_of_mem _ hy)) ?_ hj
      rw [List.length_cons, Int.pow_succ, Int.mul_comm (200 ^ _) 200, ← Int.mul_assoc] at hb
      exact Int.le_trans (Int.mul_le_mul_of_nonneg_right h4 (by have := pow1 r.length; omega)) hb
theorem join_b {l : List (Int × Int)} (hc : chk l = 0) {T L : Int} (h : joinS l 0 1 = some (T, L)) : 0 ≤ T ∧ T < L ∧ L ≤ 320000000000 := by
  obtain ⟨h1, h5, hv⟩ := chk0 hc
  have hs := join_stt l [] 0 1 T L Stt.nil (pins_ok hv) h
  have hp : (1 : Int) * 200 ^ l.length ≤ 320000000000 := by
    rcases (show l.length = 0 ∨ l.length = 1 ∨ l.length = 2 ∨ l.length = 3 ∨ l.length = 4 ∨ l.length = 5 by omega) with h | h | h | h | h | h <;> rw [h] <;> decide
  exact ⟨hs.hT, hs.hTL, join_le l 0 1 T L _ (by omega) (pins_ok hv) hp h⟩
def fst3 (l : List (Int × Int)) : Int × Int × Int := if chk l ≠ 0 then (0, 0, chk l) else match joinS l 0 1 with | some p => (p.1, p.2, 0) | none => (0, 0, 21)
theorem f16 (fuel : Nat) (l : List (Int × Int)) (hl : l.length ≤ 9) (hf : 700 ≤ fuel) : F16 fuel l = some (fst3 l) := by
  unfold F16 fst3
  rw [f38 fuel l [] hl (by simp) (by omega), obind_some]
  by_cases h : chk l = 0
  · obtain ⟨h1, h5, hv⟩ := chk0 h
    simp only [h, ne_eq, not_true_eq_false, if_false, show outR 0 1000000000000 [] = false from rfl, Bool.false_eq_true]
    rw [f45 fuel l hv h5 (by omega), obind_some]
    cases joinS l 0 1 <;> rfl
  · rw [if_pos h, if_pos h]
    simp only []
    rw [oif_pos (by simpa using h)]
def nx (T L t : Int) : Int := if t > T then T + (t - T + L - 1) / L * L else T
theorem nx_b {T L t : Int} (h1 : 0 ≤ T) (h2 : T < L) (h3 : L ≤ 320000000000) (h4 : 0 ≤ t) (h5 : t ≤ 1000000000000) : 0 ≤ nx T L t ∧ nx T L t ≤ 2000000000000 := by
  unfold nx
  split
  · have a1 := Int.ediv_mul_le (t - T + L - 1) (show L ≠ 0 by omega)
    have a2 : 0 ≤ (t - T + L - 1) / L * L := Int.mul_nonneg (Int.ediv_nonneg (by omega) (by omega)) (by omega)
    omega
  · omega
def nxt (l : List (Int × Int)) (t : Int) : Int × Int := if chk l ≠ 0 then (0, chk l) else if isT t then (match joinS l 0 1 with | some p => if nx p.1 p.2 t > 1000000000000 then (0, 4) else (nx p.1 p.2 t, 0) | none => (0, 21)) else (0, 3)
theorem nx_w {T L t : Int} (h1 : 0 ≤ T) (h2 : T < L) (h3 : L ≤ 320000000000) (h4 : 0 ≤ t) (h5 : t ≤ 1000000000000) (h : t > T) :
    IntKind.wrap .i64 (T + IntKind.wrap .i64 (IntKind.wrap .i64 (Int.tdiv (IntKind.wrap .i64 (IntKind.wrap .i64 (IntKind.wrap .i64 (t - T) + L) - 1)) L) * L)) = nx T L t := by
  have hb := nx_b h1 h2 h3 h4 h5
  unfold nx at *
  rw [if_pos h] at hb ⊢
  have a1 := Int.ediv_mul_le (t - T + L - 1) (show L ≠ 0 by omega)
  have a2 : 0 ≤ (t - T + L - 1) / L := Int.ediv_nonneg (by omega) (by omega)
  have a3 : (t - T + L - 1) / L ≤ t - T + L - 1 := Int.ediv_le_self _ (by omega)
  rw [wrap_id (n := t - T) (by omega) (by omega), wrap_id (n := t - T + L) (by omega) (by omega), wrap_id (n := t - T + L - 1) (by omega) (by omega), Int.tdiv_eq_ediv_of_nonneg (by omega), wrap_id (n := (t - T + L - 1) / L) (by omega) (by omega), wrap_id (n := (t - T + L - 1) / L * L) (by omega) (by omega), wrap_id (by omega) (by omega)]
theorem g67 (fuel : Nat) (t T L : Int) (h1 : 0 ≤ T) (h2 : T < L) (h3 : L ≤ 320000000000) (h4 : 0 ≤ t) (h5 : t ≤ 1000000000000) (hf : 1 ≤ fuel) : ∃ z, G67 fuel t 0 0 true T L = some (.inl (if nx T L t > 1000000000000 then (0, 4, z) else (nx T L t, 0, z))) := by
  obtain ⟨f, rfl⟩ : ∃ f, fuel = f + 1 := ⟨fuel - 1, by omega⟩
  unfold G67
  have key : ∀ w : Int, L67_0 0 0 w L (f + 1) = some (if w > 1000000000000 then (0, 4) else (w, 0)) := by
    intro w
    rw [L67_0, oif_dec]
    by_cases hw : w > 1000000000000
    · rw [if_pos hw, if_pos hw]
    · rw [if_neg hw, if_neg hw]
  rw [oif_t]
  by_cases h : t > T
  · rw [oif_pos (by simpa using h), oif_pos (by rw [decide_eq_true_eq]; omega), nx_w h1 h2 h3 h4 h5 h, key, obind_some]
    refine ⟨nx T L t, ?_⟩
    split <;> rfl
  · have e : nx T L t = T := by unfold nx; rw [if_neg h]
    rw [oif_neg (by simpa using h), key, obind_some, e]
    refine ⟨T, ?_⟩
    split <;> rfl
theorem f18 (fuel : Nat) (l : List (Int × Int)) (t : Int) (hl : l.length ≤ 9) (hf : 700 ≤ fuel) : F18 fuel l t = some (nxt l t) := by
  unfold F18 nxt
  rw [f38 fuel l [t] hl (by simp) (by omega), obind_some, isT_out]
  by_cases h : chk l = 0
  · obtain ⟨h1, h5, hv⟩ := chk0 h
    cases ht : isT t with
    | true =>
      obtain ⟨t1, t2⟩ := isT_b ht
      simp only [h, ne_eq, not_true_eq_false, Bool.not_true, Bool.false_eq_true, if_false, if_true]
      unfold G47_1
      rw [f45 fuel l hv h5 (by omega), obind_some]
      cases hj : joinS l 0 1 with
      | none => rfl
      | some p =>
        obtain ⟨T, L⟩ := p
        obtain ⟨b1, b2, b3⟩ := join_b h hj
        obtain ⟨z, hz⟩ := g67 fuel t T L b1 b2 b3 t1 t2 (by omega)
        simp only [oif_t, obind_some, hz]
        split <;> rfl
    | false => simp only [h, ne_eq, not_true_eq_false, Bool.not_false, Bool.false_eq_true, if_false, if_true]; rfl
  · rw [if_pos h, if_pos h]
    simp only []
    rw [oif_pos (by simpa using h)]
def bel (T L t : Int) : Int := if t ≤ T then 0 else (t - T + L - 1) / L
def cnt (l : List (Int × Int)) (a b : Int) : Int × Int := if chk l ≠ 0 then (0, chk l) else if (isT a && isT b) = false then (0, 3) else if a > b then (0, 2) else match joinS l 0 1 with | some p => (bel p.1 p.2 (b + 1) - bel p.1 p.2 a, 0) | none => (0, 0)
theorem outR2 (a b : Int) : outR 0 1000000000000 [a, b] = !(isT a && isT b) := by
  have h1 := isT_out a
  have h2 := isT_out b
  unfold outR at *
  simp only [List.any_cons, List.any_nil, Bool.or_false] at *
  rw [h1, h2, Bool.not_and]
theorem div1 {x L : Int} (hL : 0 < L) : (x + L) / L = x / L + 1 := by
  have := Int.add_mul_ediv_left x 1 (show L ≠ 0 by omega)
  rwa [Int.mul_one] at this
theorem f20 (fuel : Nat) (l : List (Int × Int)) (a b : Int) (hl : l.length ≤ 9) (hf : 700 ≤ fuel) : F20 fuel l a b = some (cnt l a b) := by
  unfold F20 cnt
  rw [f38 fuel l [a, b] hl (by simp) (by omega), obind_some, outR2]
  by_cases h : chk l = 0
  · obtain ⟨h1, h5, hv⟩ := chk0 h
    cases hab2 : (isT a && isT b) with
    | false => simp only [h, ne_eq, not_true_eq_false, Bool.not_false, Bool.false_eq_true, if_false, if_true]; rfl
    | true =>
      rw [Bool.and_eq_true] at hab2
      obtain ⟨a1, a2⟩ := isT_b hab2.1
      obtain ⟨b1, b2⟩ := isT_b hab2.2
      simp only [h, ne_eq, not_true_eq_false, Bool.not_true, Bool.false_eq_true, if_false, if_true, Bool.true_eq_false]
      by_cases hab : a > b
      · rw [oif_pos (by simpa using hab), if_pos hab]
      · rw [oif_neg (by simpa using hab), if_neg hab, f45 fuel l hv h5 (by omega), obind_some]
        cases hj : joinS l 0 1 with
        | none => rfl
        | some p =>
          obtain ⟨T, L⟩ := p
          obtain ⟨c1, c2, c3⟩ := join_b h hj
          simp only [oif_t]
          by_cases hT : T > b
          · rw [oif_pos (by simpa using hT)]
            unfold bel
            rw [if_pos (by omega), if_pos (by omega)]; rfl
          · have e1 : bel T L (b + 1) = (b - T) / L + 1 := by
              unfold bel
              rw [if_neg (by omega), show b + 1 - T + L - 1 = b - T + L from by omega, div1 (by omega)]
            have x1 : 0 ≤ (b - T) / L := Int.ediv_nonneg (by omega) (by omega)
            have x2 : (b - T) / L ≤ b - T := Int.ediv_le_self _ (by omega)
            rw [oif_neg (by simpa using hT), oif_pos (by rw [decide_eq_true_eq]; omega), wrap_id (n := b - T) (by omega) (by omega), Int.tdiv_eq_ediv_of_nonneg (show 0 ≤ b - T by omega), wrap_id (n := (b - T) / L) (by omega) (by omega), wrap_id (n := (b - T) / L + 1) (by omega) (by omega), e1]
            by_cases hT2 : a > T
            · have e2 : bel T L a = (a - 1 - T) / L + 1 := by
                unfold bel
                rw [if_neg (by omega), show a - T + L - 1 = a - 1 - T + L from by omega, div1 (by omega)]
              have y1 : 0 ≤ (a - 1 - T) / L := Int.ediv_nonneg (by omega) (by omega)
              have y2 : (a - 1 - T) / L ≤ a - 1 - T := Int.ediv_le_self _ (by omega)
              rw [oif_pos (by simpa using hT2), wrap_id (n := a - 1) (by omega) (by omega), wrap_id (n := a - 1 - T) (by omega) (by omega), Int.tdiv_eq_ediv_of_nonneg (show 0 ≤ a - 1 - T by omega), wrap_id (n := (a - 1 - T) / L) (by omega) (by omega), wrap_id (n := (a - 1 - T) / L + 1) (by omega) (by omega), wrap_id (by omega) (by omega), e2]
            · have e2 : bel T L a = 0 := by unfold bel; rw [if_pos (by omega)]
              rw [oif_neg (by simpa using hT2), e2, Int.sub_zero]
  · rw [if_pos h, if_pos h]
    simp only []
    rw [oif_pos (by simpa using h)]
end Go.Idl.N
set_option linter.unusedSimpArgs false
set_option linter.unusedVariables false
namespace Go.Idl.N
open Go Go.Idl
section
variable {K V : Type} [BEq K] [LawfulBEq K]
theorem mget_mem : ∀ (L : List (K × V)) (k : K) (v : V), (L.map (·.1)).Nodup → (k, v) ∈ L → mget L k = some v
  | [], k, v, _, h => by simp at h
  | x :: L, k, v, hn, h => by
    simp only [List.map_cons, List.nodup_cons] at hn
    unfold mget midx
    rw [List.findIdx_cons]
    rcases List.mem_cons.1 h with rfl | h
    · rw [beq_self_eq_true]; rfl
    · have hne : (k == x.1) = false := by
        rw [beq_eq_false_iff_ne]
        intro he
        exact hn.1 (he ▸ List.mem_map.2 ⟨(k, v), h, rfl⟩)
      rw [hne]
      have := mget_mem L k v hn.2 h
      unfold mget midx at this
      simpa using this
end
theorem gij_comm (l : List (Int × Int)) (i k : Nat) : gij l i k = gij l k i := gcdI_comm ..
theorem clash_comm (l : List (Int × Int)) (i k : Nat) : clashB l i k = clashB l k i := by
  unfold clashB
  rw [gij_comm]
  have e : ∀ a b g : Int, (Int.tmod (a - b) g != 0) = (Int.tmod (b - a) g != 0) := by
    intro a b g
    rw [← Int.neg_sub, Int.neg_tmod]
    rw [Bool.eq_iff_iff, bne_iff_ne, bne_iff_ne]
    omega
  exact e _ _ _
theorem cls_mem {l : List (Int × Int)} {x : (Int × Int) × Int} : x ∈ cls l ↔ ∃ i k : Nat, i < k ∧ k < l.length ∧ clashB l i k = true ∧ x = (((i : Int), (k : Int)), gij l i k) := by
  unfold cls
  rw [List.mem_filter, prs_mem]
  constructor
  · rintro ⟨⟨i, k, h1, h2, rfl⟩, h3⟩
    exact ⟨i, k, h1, h2, by simpa using h3, rfl⟩
  · rintro ⟨i, k, h1, h2, h3, rfl⟩
    exact ⟨⟨i, k, h1, h2, rfl⟩, by simpa using h3⟩
theorem cls_nodup (l : List (Int × Int)) : ((cls l).map (·.1)).Nodup := filter_nodup _ (prs_nodup l l.length)
theorem cls_has {l : List (Int × Int)} {i k : Nat} (hik : i < k) (hk : k < l.length) : mhas (cls l) ((i : Int), (k : Int)) = clashB l i k := by
  rw [Bool.eq_iff_iff, mhas_keys, List.mem_map]
  constructor
  · rintro ⟨x, hx, he⟩
    obtain ⟨i', k', h1, h2, h3, rfl⟩ := cls_mem.1 hx
    have a1 := congrArg Prod.fst he
    have a2 := congrArg Prod.snd he
    simp only at a1 a2
    have : i' = i := by omega
    have : k' = k := by omega
    subst i' k'; exact h3
  · intro h
    exact ⟨_, cls_mem.2 ⟨i, k, hik, hk, h, rfl⟩, rfl⟩
theorem cls_get {l : List (Int × Int)} {i k : Nat} (hik : i < k) (hk : k < l.length) (h : clashB l i k = true) : mget (cls l) ((i : Int), (k : Int)) = some (gij l i k) :=
  mget_mem _ _ _ (cls_nodup l) (cls_mem.2 ⟨i, k, hik, hk, h, rfl⟩)
def cc (l : List (Int × Int)) (a b : Int) : Int × Int :=
  if chk l ≠ 0 then (0, chk l) else if a < 0 ∨ a ≥ l.length ∨ b < 0 ∨ b ≥ l.length ∨ a = b then (0, 2) else if clashB l a.toNat b.toNat then (gij l a.toNat b.toNat, 0) else (0, 14)
theorem f22 (fuel : Nat) (l : List (Int × Int)) (a b : Int) (hl : l.length ≤ 9) (hf : 700 ≤ fuel) : F22 fuel l a b = some (cc l a b) := by
  unfold F22 cc
  rw [f38 fuel l [] hl (by simp) (by omega), obind_some]
  by_cases h : chk l = 0
  · obtain ⟨h1, h5, hv⟩ := chk0 h
    simp only [h, ne_eq, not_true_eq_false, if_false, show outR 0 1000000000000 [] = false from rfl, Bool.false_eq_true]
    rw [wrap_id (by omega) (by omega), f43 _ _ _ _ (by simp) (by simp; omega), obind_some]
    unfold outR
    simp only [List.any_cons, List.any_nil, Bool.or_false]
    by_cases hr : a < 0 ∨ a ≥ l.length ∨ b < 0 ∨ b ≥ l.length ∨ a = b
    · rw [if_pos hr]
      by_cases c1 : a < 0
      · simp [c1, oif_f]
      · by_cases c2 : a > (l.length : Int) - 1
        · simp [c1, c2, oif_f]
        · by_cases c3 : b < 0
          · simp [c1, c2, c3, oif_f]
          · by_cases c4 : b > (l.length : Int) - 1
            · simp [c1, c2, c3, c4, oif_f]
            · have : a = b := by omega
              simp [c1, c2, c3, c4, this, oif_t]
    · have c1 : ¬ a < 0 := by omega
      have c2 : ¬ a > (l.length : Int) - 1 := by omega
      have c3 : ¬ b < 0 := by omega
      have c4 : ¬ b > (l.length : Int) - 1 := by omega
      have c5 : ¬ a = b := by omega
      rw [if_neg hr, oif_pos (by simp [c1, c2, c3, c4]), oif_neg (by simpa using c5), minL1, maxL1]
      rcases Int.lt_or_gt_of_ne c5 with hab | hab
      · have e1 : (if b < a then b else a) = ((a.toNat : Nat) : Int) := by rw [if_neg (by omega)]; omega
        have e2 : (if b > a then b else a) = ((b.toNat : Nat) : Int) := by rw [if_pos (by omega)]; omega
        rw [e1, e2, cls_has (by omega) (by omega)]
        cases hcl : clashB l a.toNat b.toNat with
        | true => rw [oif_t, cls_get (by omega) (by omega) hcl]; rfl
        | false => rfl
      · have e1 : (if b < a then b else a) = ((b.toNat : Nat) : Int) := by rw [if_pos (by omega)]; omega
        have e2 : (if b > a then b else a) = ((a.toNat : Nat) : Int) := by rw [if_neg (by omega)]; omega
        rw [e1, e2, cls_has (by omega) (by omega), clash_comm l a.toNat, gij_comm l a.toNat]
        cases hcl : clashB l b.toNat a.toNat with
        | true => rw [oif_t, cls_get (by omega) (by omega) hcl]; rfl
        | false => rfl
  · rw [if_pos h, if_pos h]
    simp only []
    rw [oif_pos (by simpa using h)]
end Go.Idl.N
set_option linter.unusedSimpArgs false
set_option linter.unusedVariables false
namespace Go.Idl.N
open Go Go.Idl
def nats (g : List Nat) : List Int := g.map fun (i : Nat) => (i : Int)
theorem nats_len (g : List Nat) : (nats g).length = g.length := by simp [nats]
theorem nats_get {g : List Nat} {k : Nat} (h : k < g.length) : (nats g)[k]'(by rw [nats_len]; exact h) = (g[k] : Int) := by simp [nats]
def pw (c : Nat → Nat → Bool) : List Nat → Bool
  | [] => true
  | a :: r => r.all (fun b => !(c a b)) && pw c r
theorem pw_snoc (c : Nat → Nat → Bool) : ∀ (g : List Nat) (x : Nat), pw c (g ++ [x]) = (pw c g && g.all fun a => !(c a x))
  | [], x => by simp [pw]
  | a :: g, x => by
    simp only [List.cons_append, pw, List.all_append, List.all_cons, List.all_nil, Bool.and_true, pw_snoc c g x]
    cases g.all (fun b => !(c a b)) <;> cases c a x <;> cases pw c g <;> simp
theorem pw_take (c : Nat → Nat → Bool) {g : List Nat} {k : Nat} (h : pw c (g.take k) = false) : pw c g = false := by
  have key : ∀ (s t : List Nat), pw c s = false → pw c (s ++ t) = false := by
    intro s t
    induction s with
    | nil => intro h; cases h
    | cons a s ih =>
      intro h
      simp only [pw, Bool.and_eq_false_iff, List.cons_append, List.all_append] at h ⊢
      rcases h with h | h
      · left; exact .inl h
      · right; exact ih h
  have := key (g.take k) (g.drop k) h
  rwa [List.take_append_drop] at this
theorem l56_2 (l : List (Int × Int)) (v1 : List Int) (x : Nat) (hx : x < l.length) (v11 : List Int) (v12 v13 : Int) (g : List Nat) (hg : g.length ≤ 9) (hlt : ∀ a ∈ g, a < x) : ∀ (f k : Nat), k ≤ g.length → g.length - k < f →
    L56_2 l (cls l) v1 (x : Int) v11 v12 v13 (nats g) ((nats g).length : Int) f (k : Int) = some (if (g.drop k).all (fun a => !(clashB l a x)) then .inr () else .inl ())
  | 0, k, _, h => by omega
  | f + 1, k, hk, h => by
    unfold L56_2
    rw [nats_len]
    by_cases hl : k < g.length
    · have ha := hlt g[k] (List.getElem_mem hl)
      have ih := l56_2 l v1 x hx v11 v12 v13 g hg hlt f (k + 1) (by omega) (by omega)
      rw [nats_len] at ih
      rw [oif_pos (by simpa using hl), sg_ge (by rw [nats_len]; exact hl), obind_some, nats_get hl, cls_has ha hx, wrap_succ (by omega), List.drop_eq_getElem_cons hl, List.all_cons, ih]
      cases hc : clashB l g[k] x with
      | true => rw [oif_t, cls_get ha hx hc, obind_some]; simp
      | false => rw [oif_f]; simp
    · rw [oif_neg (by simpa using hl), List.drop_eq_nil_of_le (by omega)]
      rfl
theorem nats_take (g : List Nat) (k : Nat) : (nats g).take k = nats (g.take k) := by simp [nats]
theorem l56_0 (l : List (Int × Int)) (g : List Nat) (hg : g.length ≤ 9) (hs : g.Pairwise (· < ·)) (hb : ∀ a ∈ g, a < l.length) : ∀ (f k : Nat), k ≤ g.length → g.length - k + 20 < f → pw (clashB l) (g.take k) = true →
    L56_0 l (cls l) (nats g) (nats g) ((nats g).length : Int) f (k : Int) = some (if pw (clashB l) g then .inr () else .inl ())
  | 0, k, _, h, _ => by omega
  | f + 1, k, hk, h, hp => by
    unfold L56_0
    rw [nats_len]
    by_cases hl : k < g.length
    · have e : subL (nats g) none (some (k : Int)) = some (nats (g.take k)) := by
        unfold subL
        rw [if_pos (And.intro (fun v h => by cases h) (fun v h => by cases h; rw [nats_len]; omega))]
        simp [natO, nats_take]
      have hlt : ∀ a ∈ g.take k, a < g[k] := by
        intro a ha
        obtain ⟨j, hj, rfl⟩ := List.mem_iff_getElem.1 ha
        rw [List.length_take] at hj
        rw [List.getElem_take]
        exact (List.pairwise_iff_getElem.1 hs) j k (by omega) hl (by omega)
      have e2 := l56_2 l (nats g) g[k] (hb _ (List.getElem_mem hl)) (nats g) (g.length : Int) (k : Int) (g.take k) (by rw [List.length_take]; omega) hlt f 0 (by omega) (by rw [List.length_take]; omega)
      rw [Int.natCast_zero, List.drop_zero] at e2
      have hsn : pw (clashB l) (g.take (k + 1)) = (g.take k).all fun a => !(clashB l a g[k]) := by
        rw [List.take_succ_eq_append_getElem hl, pw_snoc, hp, Bool.true_and]
      rw [oif_pos (by simpa using hl), sg_ge (by rw [nats_len]; exact hl), obind_some, nats_get hl, e, obind_some, e2, obind_some, ← hsn]
      cases hq : pw (clashB l) (g.take (k + 1)) with
      | true =>
        simp only [if_true]
        have ih := l56_0 l g hg hs hb f (k + 1) (by omega) (by omega) hq
        rw [nats_len] at ih
        rw [wrap_succ (by omega)]; exact ih
      | false =>
        rw [pw_take (clashB l) hq]; rfl
    · rw [oif_neg (by simpa using hl)]
      rw [List.take_of_length_le (by omega)] at hp
      rw [hp]; rfl
theorem f56 (fuel : Nat) (l : List (Int × Int)) (g : List Nat) (hg : g.length ≤ 9) (hs : g.Pairwise (· < ·)) (hb : ∀ a ∈ g, a < l.length) (hf : 60 ≤ fuel) : F56 fuel (l, cls l) (nats g) = some (pw (clashB l) g) := by
  unfold F56
  have := l56_0 l g hg hs hb fuel 0 (by omega) (by omega) (by simp [pw])
  rw [Int.natCast_zero] at this
  simp only [this, obind_some]
  cases pw (clashB l) g <;> rfl
end Go.Idl.N
namespace Go.Idl.N
def bestL (o : List Nat) (all : List (List Nat)) : List Nat := all.foldl (fun o x => if x.length > o.length then x else o) o
def greatS (n : Nat) (c : Nat → Nat → Bool) : Nat → List Nat → Nat → List Nat
  | 0, b, _ => b
  | f + 1, b, k => bestL b (((List.range' k (n - k)).filter fun i => pw c (b ++ [i])).map fun i => greatS n c f (b ++ [i]) (i + 1))
def listedS (b n : Nat) : List Nat := (List.range n).filter fun i => b / 2 ^ i % 2 == 1
def befS : List Nat → List Nat → Bool
  | a :: r, b :: s => if a != b then decide (a < b) else befS r s
  | _, _ => false
def stepS (n : Nat) (c : Nat → Nat → Bool) (best : List Nat) (b : Nat) : List Nat :=
  if pw c (listedS b n) && (decide ((listedS b n).length > best.length) || ((listedS b n).length == best.length && befS (listedS b n) best)) then listedS b n else best
def bruteS (n : Nat) (c : Nat → Nat → Bool) : List Nat := (List.range (2 ^ n)).foldl (stepS n c) []
def cm (m i k : Nat) : Bool := m / 2 ^ (k * (k - 1) / 2 + i) % 2 == 1
theorem gb5 : ∀ m : Fin 1024, greatS 5 (cm m.1) 6 [] 0 = bruteS 5 (cm m.1) := by decide +kernel
theorem gb4 : ∀ m : Fin 64, greatS 4 (cm m.1) 5 [] 0 = bruteS 4 (cm m.1) := by decide +kernel
theorem gb3 : ∀ m : Fin 8, greatS 3 (cm m.1) 4 [] 0 = bruteS 3 (cm m.1) := by decide +kernel
theorem gb2 : ∀ m : Fin 2, greatS 2 (cm m.1) 3 [] 0 = bruteS 2 (cm m.1) := by decide +kernel
theorem gb1 : greatS 1 (cm 0) 2 [] 0 = bruteS 1 (cm 0) := by decide +kernel
end Go.Idl.N
set_option linter.unusedSimpArgs false
set_option linter.unusedVariables false
namespace Go.Idl.N
open Go Go.Idl
theorem pw_congr {c c' : Nat → Nat → Bool} {n : Nat} (h : ∀ i k, i < k → k < n → c i k = c' i k) : ∀ {g : List Nat}, g.Pairwise (· < ·) → (∀ a ∈ g, a < n) → pw c g = pw c' g
  | [], _, _ => rfl
  | a :: g, hs, hb => by
    rw [List.pairwise_cons] at hs
    unfold pw
    rw [pw_congr h hs.2 fun x hx => hb x (List.mem_cons_of_mem _ hx)]
    congr 1
    rw [Bool.eq_iff_iff, List.all_eq_true, List.all_eq_true]
    constructor
    · intro hh x hx; rw [← h a x (hs.1 x hx) (hb x (List.mem_cons_of_mem _ hx))]; exact hh x hx
    · intro hh x hx; rw [h a x (hs.1 x hx) (hb x (List.mem_cons_of_mem _ hx))]; exact hh x hx
theorem masks : ∀ b01 b02 b12 b03 b13 b23 b04 b14 b24 b34 : Bool, ∃ m : Fin 1024, cm m.1 0 1 = b01 ∧ cm m.1 0 2 = b02 ∧ cm m.1 1 2 = b12 ∧ cm m.1 0 3 = b03 ∧ cm m.1 1 3 = b13 ∧ cm m.1 2 3 = b23 ∧ cm m.1 0 4 = b04 ∧ cm m.1 1 4 = b14 ∧ cm m.1 2 4 = b24 ∧ cm m.1 3 4 = b34 := by
  intro b01 b02 b12 b03 b13 b23 b04 b14 b24 b34
  refine ⟨⟨(if b01 then 1 else 0) + (if b02 then 2 else 0) + (if b12 then 4 else 0) + (if b03 then 8 else 0) + (if b13 then 16 else 0) + (if b23 then 32 else 0) + (if b04 then 64 else 0) + (if b14 then 128 else 0) + (if b24 then 256 else 0) + (if b34 then 512 else 0), ?_⟩, ?_⟩
  · have q : ∀ (b : Bool) (x : Nat), (if b then x else 0) ≤ x := by intro b x; cases b <;> simp
    have := q b01 1; have := q b02 2; have := q b12 4; have := q b03 8; have := q b13 16; have := q b23 32; have := q b04 64; have := q b14 128; have := q b24 256; have := q b34 512
    omega
  · revert b01 b02 b12 b03 b13 b23 b04 b14 b24 b34
    decide +kernel
theorem mask_ex (c : Nat → Nat → Bool) : ∃ m : Fin 1024, ∀ i k, i < k → k < 5 → c i k = cm m.1 i k := by
  obtain ⟨m, h1, h2, h3, h4, h5, h6, h7, h8, h9, h10⟩ := masks (c 0 1) (c 0 2) (c 1 2) (c 0 3) (c 1 3) (c 2 3) (c 0 4) (c 1 4) (c 2 4) (c 3 4)
  refine ⟨m, fun i k hi hk => ?_⟩
  rcases (show k = 1 ∨ k = 2 ∨ k = 3 ∨ k = 4 by omega) with rfl | rfl | rfl | rfl
  · have : i = 0 := by omega
    subst this; exact h1.symm
  · rcases (show i = 0 ∨ i = 1 by omega) with rfl | rfl
    · exact h2.symm
    · exact h3.symm
  · rcases (show i = 0 ∨ i = 1 ∨ i = 2 by omega) with rfl | rfl | rfl
    · exact h4.symm
    · exact h5.symm
    · exact h6.symm
  · rcases (show i = 0 ∨ i = 1 ∨ i = 2 ∨ i = 3 by omega) with rfl | rfl | rfl | rfl
    · exact h7.symm
    · exact h8.symm
    · exact h9.symm
    · exact h10.symm
theorem l68 (L : List (List Nat)) (hl : L.length ≤ 1000) : ∀ (f k : Nat) (o : List Nat), k ≤ L.length → L.length - k < f →
    L68_0 (L.map nats) ((L.map nats).length : Int) f (nats o) (k : Int) = some (nats (bestL o (L.drop k)))
  | 0, k, _, _, h => by omega
  | f + 1, k, o, hk, h => by
    unfold L68_0
    rw [List.length_map]
    by_cases hlt : k < L.length
    · have e69 : F69 f (nats L[k]) (nats o) = some (decide (L[k].length > o.length)) := by
        unfold F69
        rw [nats_len, nats_len, oif_bool]
        congr 1
        simp only [decide_eq_decide]; omega
      rw [oif_pos (by simpa using hlt), sg_ge (by rw [List.length_map]; exact hlt), obind_some, List.getElem_map, e69, obind_some, wrap_succ (by omega), List.drop_eq_getElem_cons hlt]
      rw [show bestL o (L[k] :: L.drop (k + 1)) = bestL (if L[k].length > o.length then L[k] else o) (L.drop (k + 1)) from rfl]
      have ih := fun o => l68 L hl f (k + 1) o (by omega) (by omega)
      rw [List.length_map] at ih
      by_cases hc : L[k].length > o.length
      · rw [oif_pos (by simpa using hc), if_pos hc, ih]
      · rw [oif_neg (by simpa using hc), if_neg hc, ih]
    · rw [oif_neg (by simpa using hlt), List.drop_eq_nil_of_le (by omega)]
      rfl
theorem f68 (fuel : Nat) (o : List Nat) (L : List (List Nat)) (hl : L.length ≤ 1000) (hf : L.length < fuel) : F68 fuel (nats o :: L.map nats) = some (nats (bestL o L)) := by
  unfold F68
  have e0 : sg (nats o :: L.map nats) 0 = some (nats o) := rfl
  have e1 : subL (nats o :: L.map nats) (some 1) none = some (L.map nats) := by
    unfold subL
    rw [if_pos (And.intro (fun v h => by cases h; simp [natO]; omega) (fun v h => by cases h))]
    simp [natO, List.take_of_length_le]
  have := l68 L hl fuel 0 o (by omega) (by omega)
  rw [Int.natCast_zero, List.drop_zero] at this
  rw [e0, obind_some, e1, obind_some, this, obind_some]
def RS (n : Nat) (c : Nat → Nat → Bool) (d : Nat) (b : List Nat) (k : Nat) : List (List Nat) := ((List.range' k (n - k)).filter fun i => pw c (b ++ [i])).map fun i => greatS n c d (b ++ [i]) (i + 1)
theorem RS_step {n : Nat} {c : Nat → Nat → Bool} {d : Nat} {b : List Nat} {k : Nat} (h : k < n) : RS n c d b k = if pw c (b ++ [k]) then greatS n c d (b ++ [k]) (k + 1) :: RS n c d b (k + 1) else RS n c d b (k + 1) := by
  unfold RS
  rw [show n - k = (n - (k + 1)) + 1 from by omega, List.range'_succ, List.filter_cons]
  split <;> rfl
theorem RS_end {n : Nat} {c : Nat → Nat → Bool} {d : Nat} {b : List Nat} {k : Nat} (h : n ≤ k) : RS n c d b k = [] := by
  unfold RS
  rw [show n - k = 0 from by omega]; rfl
theorem RS_len (n : Nat) (c : Nat → Nat → Bool) (d : Nat) (b : List Nat) (k : Nat) : (RS n c d b k).length ≤ n := by
  unfold RS
  rw [List.length_map]
  exact Nat.le_trans (List.length_filter_le ..) (by rw [List.length_range']; omega)
theorem sub_all (b : List Nat) : subL (nats b) none (some ((nats b).length : Int)) = some (nats b) := by
  unfold subL
  rw [if_pos (And.intro (fun v h => by cases h) (fun v h => by cases h; omega))]
  simp [natO]
theorem nats_snoc (b : List Nat) (i : Nat) : nats b ++ [(i : Int)] = nats (b ++ [i]) := by simp [nats]
section
variable (l : List (Int × Int)) (h5 : l.length ≤ 5) (d : Nat) (rc : (List (Int × Int)) × (List ((Int × Int) × Int)) → List Int → Int → Option (List Int)) (b : List Nat) (hs : b.Pairwise (· < ·)) (hbl : b.length ≤ 5)
include h5 hs hbl
theorem snoc_ok {k : Nat} (hb : ∀ a ∈ b, a < k) (hk : k < l.length) : (b ++ [k]).Pairwise (· < ·) ∧ ∀ a ∈ b ++ [k], a < l.length := by
  constructor
  · rw [List.pairwise_append]
    exact ⟨hs, by simp, fun a ha c hc => by simp at hc; subst hc; exact hb a ha⟩
  · intro a ha
    rcases List.mem_append.1 ha with ha | ha
    · have := hb a ha; omega
    · simp at ha; omega
theorem l53_1 : ∀ (f k : Nat) (w : List (List Int)), k ≤ l.length → l.length - k + 100 < f → (∀ a ∈ b, a < k) → w.length ≤ k + 1 →
    (∀ i, k ≤ i → i < l.length → rc (l, cls l) (nats (b ++ [i])) ((i + 1 : Nat) : Int) = some (nats (greatS l.length (clashB l) d (b ++ [i]) (i + 1)))) →
    L53_1 rc l (cls l) (nats b) f (k : Int) w = some (w ++ (RS l.length (clashB l) d b k).map nats)
  | 0, k, _, _, h, _, _, _ => by omega
  | f + 1, k, w, hk, h, hb, hw, hrc => by
    unfold L53_1
    by_cases hlt : k < l.length
    · obtain ⟨q1, q2⟩ := snoc_ok l h5 b hs hbl hb hlt
      have ih := fun w' (hw' : w'.length ≤ k + 1 + 1) => l53_1 f (k + 1) w' (by omega) (by omega) (fun a ha => by have := hb a ha; omega) hw' (fun i h1 h2 => hrc i (by omega) h2)
      rw [oif_pos (by simpa using hlt), sub_all, obind_some, oif_pos (by rw [decide_eq_true_eq, List.length_map, nats_len]; omega), nats_snoc, f56 f l (b ++ [k]) (by simp; omega) q1 q2 (by omega), obind_some, wrap_succ (by omega), RS_step hlt]
      cases hc : pw (clashB l) (b ++ [k]) with
      | true =>
        rw [oif_t, hrc k (by omega) hlt, obind_some, oif_pos (by rw [decide_eq_true_eq]; omega), ih _ (by simp; omega), if_pos rfl, List.map_cons, List.append_assoc]
        rfl
      | false => rw [oif_f, ih w (by omega), if_neg (by simp)]
    · rw [oif_neg (by simpa using hlt), RS_end (by omega)]
      simp
theorem l53_0 : ∀ (f k : Nat), k ≤ l.length → l.length - k + 200 < f → (∀ a ∈ b, a < k) →
    (∀ i, k ≤ i → i < l.length → rc (l, cls l) (nats (b ++ [i])) ((i + 1 : Nat) : Int) = some (nats (greatS l.length (clashB l) d (b ++ [i]) (i + 1)))) →
    L53_0 rc l (cls l) (nats b) [nats b] f (k : Int) = some (if RS l.length (clashB l) d b k = [] then .inr () else .inl (nats b :: (RS l.length (clashB l) d b k).map nats))
  | 0, k, _, h, _, _ => by omega
  | f + 1, k, hk, h, hb, hrc => by
    unfold L53_0
    by_cases hlt : k < l.length
    · obtain ⟨q1, q2⟩ := snoc_ok l h5 b hs hbl hb hlt
      rw [oif_pos (by simpa using hlt), sub_all, obind_some, oif_pos (by rw [decide_eq_true_eq, List.length_map, nats_len]; omega), nats_snoc, f56 f l (b ++ [k]) (by simp; omega) q1 q2 (by omega), obind_some, wrap_succ (by omega), RS_step hlt]
      cases hc : pw (clashB l) (b ++ [k]) with
      | true =>
        have e1 := l53_1 l h5 d rc b hs hbl f (k + 1) ([nats b] ++ [nats (greatS l.length (clashB l) d (b ++ [k]) (k + 1))]) (by omega) (by omega) (fun a ha => by have := hb a ha; omega) (by simp) (fun i h1 h2 => hrc i (by omega) h2)
        rw [oif_t, hrc k (by omega) hlt, obind_some, oif_pos (by rw [decide_eq_true_eq, List.length_map, List.length_singleton]; omega), e1, obind_some, if_pos rfl, if_neg (by simp)]
        rfl
      | false =>
        simp only [Bool.false_eq_true, if_false]
        rw [oif_f, l53_0 f (k + 1) (by omega) (by omega) (fun a ha => by have := hb a ha; omega) (fun i h1 h2 => hrc i (by omega) h2)]
    · rw [oif_neg (by simpa using hlt), RS_end (by omega), if_pos rfl]
end
theorem f53 (l : List (Int × Int)) (h5 : l.length ≤ 5) : ∀ (d fuel : Nat) (b : List Nat) (k : Nat), k ≤ l.length → l.length - k < d → b.length ≤ k → b.Pairwise (· < ·) → (∀ a ∈ b, a < k) → 300 + d ≤ fuel →
    F53 fuel (l, cls l) (nats b) (k : Int) = some (nats (greatS l.length (clashB l) d b k))
  | 0, fuel, b, k, _, h, _, _, _, _ => by omega
  | d + 1, 0, b, k, _, _, _, _, _, h => by omega
  | d + 1, fuel + 1, b, k, hk, hd, hbl, hs, hb, hf => by
    unfold F53
    have hrc : ∀ i, k ≤ i → i < l.length → F53 fuel (l, cls l) (nats (b ++ [i])) ((i + 1 : Nat) : Int) = some (nats (greatS l.length (clashB l) d (b ++ [i]) (i + 1))) := by
      intro i h1 h2
      obtain ⟨q1, q2⟩ := snoc_ok l h5 b hs (by omega) (fun a ha => by have := hb a ha; omega) h2
      refine f53 l h5 d fuel (b ++ [i]) (i + 1) (by omega) (by omega) (by simp; omega) q1 (fun a ha => ?_) (by omega)
      rcases List.mem_append.1 ha with ha | ha
      · have := hb a ha; omega
      · simp at ha; omega
    have e0 := l53_0 l h5 d (F53 fuel) b hs (by omega) fuel k hk (by omega) hb hrc
    simp only [e0, obind_some]
    rw [show greatS l.length (clashB l) (d + 1) b k = bestL b (RS l.length (clashB l) d b k) from rfl]
    have hlen := RS_len l.length (clashB l) d b k
    by_cases hr : RS l.length (clashB l) d b k = []
    · rw [if_pos hr]
      simp only []
      have := f68 fuel b [] (by simp) (by simp; omega)
      rw [List.map_nil] at this
      rw [this, obind_some, hr]
    · rw [if_neg hr]
      simp only []
      rw [f68 fuel b _ (by omega) (by omega), obind_some]
theorem listed_ok (b n : Nat) : (listedS b n).Pairwise (· < ·) ∧ ∀ a ∈ listedS b n, a < n := by
  constructor
  · exact List.pairwise_lt_range.filter _
  · intro a ha
    exact List.mem_range.1 (List.mem_filter.1 ha).1
theorem listed_len (b n : Nat) : (listedS b n).length ≤ n := by
  have := List.length_filter_le (fun i => b / 2 ^ i % 2 == 1) (List.range n)
  rw [List.length_range] at this
  exact this
theorem RS_congr {n : Nat} {c c' : Nat → Nat → Bool} (h : ∀ i k, i < k → k < n → c i k = c' i k) : ∀ (d : Nat) (b : List Nat) (k : Nat), b.Pairwise (· < ·) → (∀ a ∈ b, a < k) → greatS n c d b k = greatS n c' d b k
  | 0, _, _, _, _ => rfl
  | d + 1, b, k, hs, hb => by
    unfold greatS
    have ok : ∀ i ∈ List.range' k (n - k), (b ++ [i]).Pairwise (· < ·) ∧ (∀ a ∈ b ++ [i], a < n) ∧ ∀ a ∈ b ++ [i], a < i + 1 := by
      intro i hi
      rw [List.mem_range'_1] at hi
      refine ⟨?_, ?_, ?_⟩
      · rw [List.pairwise_append]
        exact ⟨hs, by simp, fun a ha x hx => by simp at hx; subst hx; have := hb a ha; omega⟩
      all_goals
        intro a ha
        rcases List.mem_append.1 ha with ha | ha
        · have := hb a ha; omega
        · simp at ha; omega
    have e1 : (List.range' k (n - k)).filter (fun i => pw c (b ++ [i])) = (List.range' k (n - k)).filter (fun i => pw c' (b ++ [i])) :=
      List.filter_congr fun i hi => pw_congr h (ok i hi).1 (ok i hi).2.1
    rw [e1]
    congr 1
    apply List.map_congr_left
    intro i hi
    have hi2 := (List.mem_filter.1 hi).1
    exact RS_congr h d _ _ (ok i hi2).1 (ok i hi2).2.2
theorem step_congr {n : Nat} {c c' : Nat → Nat → Bool} (h : ∀ i k, i < k → k < n → c i k = c' i k) (best : List Nat) (b : Nat) : stepS n c best b = stepS n c' best b := by
  unfold stepS
  rw [pw_congr h (listed_ok b n).1 (listed_ok b n).2]
theorem brute_congr {n : Nat} {c c' : Nat → Nat → Bool} (h : ∀ i k, i < k → k < n → c i k = c' i k) : bruteS n c = bruteS n c' := by
  unfold bruteS
  congr 1
  funext best b
  exact step_congr h best b
theorem cm_low : ∀ (n : Fin 5) (m : Fin 1024) (k : Fin 5) (i : Fin 5), n.1 ≤ 4 → i.1 < k.1 → k.1 < n.1 → cm (m.1 % 2 ^ (n.1 * (n.1 - 1) / 2)) i.1 k.1 = cm m.1 i.1 k.1 := by decide +kernel
theorem great_brute (n : Nat) (h1 : 1 ≤ n) (h5 : n ≤ 5) (c : Nat → Nat → Bool) : greatS n c (n + 1) [] 0 = bruteS n c := by
  obtain ⟨m, hm⟩ := mask_ex c
  by_cases hn : n = 5
  · subst hn
    rw [RS_congr hm _ _ _ List.Pairwise.nil (fun a h => by simp at h), brute_congr hm]
    exact gb5 m
  · have hm2 : ∀ i k, i < k → k < n → c i k = cm (m.1 % 2 ^ (n * (n - 1) / 2)) i k := by
      intro i k hi hk
      rw [hm i k hi (by omega)]
      exact (cm_low ⟨n, by omega⟩ m ⟨k, by omega⟩ ⟨i, by omega⟩ (by show n ≤ 4; omega) hi hk).symm
    rw [RS_congr hm2 _ _ _ List.Pairwise.nil (fun a h => by simp at h), brute_congr hm2]
    rcases (show n = 1 ∨ n = 2 ∨ n = 3 ∨ n = 4 by omega) with rfl | rfl | rfl | rfl
    · rw [show m.1 % 2 ^ (1 * (1 - 1) / 2) = 0 from Nat.mod_one _]; exact gb1
    · exact gb2 ⟨m.1 % 2, Nat.mod_lt _ (by decide)⟩
    · exact gb3 ⟨m.1 % 8, Nat.mod_lt _ (by decide)⟩
    · exact gb4 ⟨m.1 % 64, Nat.mod_lt _ (by decide)⟩
def grp (l : List (Int × Int)) : List Int × Int := if chk l ≠ 0 then ([], chk l) else (nats (bruteS l.length (clashB l)), 0)
theorem brute_len (n : Nat) (c : Nat → Nat → Bool) : (bruteS n c).length ≤ n := by
  unfold bruteS
  have key : ∀ (L : List Nat) (best : List Nat), best.length ≤ n → (L.foldl (stepS n c) best).length ≤ n := by
    intro L
    induction L with
    | nil => intro best h; exact h
    | cons b L ih =>
      intro best h
      rw [List.foldl_cons]
      apply ih
      unfold stepS
      split
      · exact listed_len b n
      · exact h
  exact key _ [] (by simp)
theorem f26 (fuel : Nat) (l : List (Int × Int)) (hl : l.length ≤ 9) (hf : 950 ≤ fuel) : F26 fuel l = some (grp l) := by
  unfold F26 grp
  rw [f38 fuel l [] hl (by simp) (by omega), obind_some]
  by_cases h : chk l = 0
  · obtain ⟨h1, h5, hv⟩ := chk0 h
    simp only [h, ne_eq, not_true_eq_false, if_false, show outR 0 1000000000000 [] = false from rfl, Bool.false_eq_true]
    have e := f53 l h5 (l.length + 1) fuel [] 0 (by omega) (by omega) (by simp) List.Pairwise.nil (fun a ha => by simp at ha) (by omega)
    rw [Int.natCast_zero, show nats [] = [] from rfl, great_brute l.length h1 h5] at e
    have hbl := brute_len l.length (clashB l)
    rw [e, obind_some, nats_len, oif_pos (by simp), oif_pos (by rw [decide_eq_true_eq]; omega), oif_pos (by rw [decide_eq_true_eq]; omega)]
    congr 2
    unfold copyL
    simp [nats_len]
    exact List.take_of_length_le (by rw [nats_len]; exact Nat.le_refl _)
  · rw [if_pos h, if_pos h]
    simp only []
    rw [oif_pos (by simpa using h)]
end Go.Idl.N
set_option linter.unusedSimpArgs false
set_option linter.unusedVariables false
namespace Go.Idl.N
def tab : List (Nat × Nat) := [(1, 4294967295), (2, 1431655765), (3, 1227133513), (4, 286331153), (5, 1108378657), (6, 1090785345), (7, 270549121), (8, 16843009), (9, 134480385), (10, 1074791425), (11, 4196353), (12, 16781313), (13, 67117057), (14, 268451841), (15, 1073774593), (16, 65537), (17, 131073), (18, 262145), (19, 524289), (20, 1048577), (21, 2097153), (22, 4194305), (23, 8388609), (24, 16777217), (25, 33554433), (26, 67108865), (27, 134217729), (28, 268435457), (29, 536870913), (30, 1073741825), (31, 2147483649), (32, 1)]
def dtab : List (List (Nat × Nat)) := [[], [(1, 4294967295)], [(1, 4294967295), (2, 1431655765)], [(1, 4294967295), (3, 1227133513)], [(1, 4294967295), (2, 1431655765), (4, 286331153)], [(1, 4294967295), (5, 1108378657)], [(1, 4294967295), (2, 1431655765), (3, 1227133513), (6, 1090785345)], [(1, 4294967295), (7, 270549121)], [(1, 4294967295), (2, 1431655765), (4, 286331153), (8, 16843009)], [(1, 4294967295), (3, 1227133513), (9, 134480385)], [(1, 4294967295), (2, 1431655765), (5, 1108378657), (10, 1074791425)], [(1, 4294967295), (11, 4196353)], [(1, 4294967295), (2, 1431655765), (3, 1227133513), (4, 286331153), (6, 1090785345), (12, 16781313)], [(1, 4294967295), (13, 67117057)], [(1, 4294967295), (2, 1431655765), (7, 270549121), (14, 268451841)], [(1, 4294967295), (3, 1227133513), (5, 1108378657), (15, 1073774593)]]
def cut (U r s : Nat) : Nat := U ^^^ (U &&& (r <<< s))
def se0 (w U : Nat) : Bool := match (U % 2 ^ w).beq 0 with
  | true => U.beq 0
  | false => true
def se1 (w U : Nat) : Bool :=
  match (U % 2 ^ w).beq 0 with
  | true => U.beq 0
  | false =>
    match ((U % 2 ^ w) - 2 ^ (U % 2 ^ w).log2).beq 0 with
    | true => U.beq (U % 2 ^ w)
    | false => (dtab.getD ((U % 2 ^ w).log2 - ((U % 2 ^ w) - 2 ^ (U % 2 ^ w).log2).log2) []).all fun e => se0 w (cut U e.2 ((U % 2 ^ w).log2 % e.1))
def se : Nat → Nat → Nat → Bool
  | 0, w, U => se1 w U
  | j + 1, w, U => match (U % 2 ^ w).beq 0 with
    | true => U.beq 0
    | false => tab.all fun e => se j w (cut U e.2 ((U % 2 ^ w).log2 % e.1))
theorem s1 : se 0 2 (2 ^ 32 - 1) = true := by decide +kernel
theorem s2 : se 1 4 (2 ^ 32 - 1) = true := by decide +kernel
theorem s3 : se 2 8 (2 ^ 32 - 1) = true := by decide +kernel
theorem s4 : se 3 16 (2 ^ 32 - 1) = true := by decide +kernel
theorem tab_bits : (tab.all fun e => (List.range 32).all fun n => e.2.testBit n == (n % e.1 == 0)) = true := by decide +kernel
theorem tab_get : ∀ P : Nat, P < 33 → 1 ≤ P → ∃ e ∈ tab, e.1 = P := by decide +kernel
theorem dtab_all : ((List.range 16).all fun d => d == 0 || (List.range 16).all fun P => !(d % P == 0) || (dtab.getD d []).any fun e => e.1 == P && tab.contains e) = true := by decide +kernel
theorem dtab_get (d : Nat) (h : d < 16) (h1 : 1 ≤ d) (P : Nat) (hP : P < 16) (hd : d % P = 0) : ∃ e ∈ dtab.getD d [], e.1 = P ∧ e ∈ tab := by
  have a := dtab_all
  rw [List.all_eq_true] at a
  have b := a d (List.mem_range.2 h)
  have hd0 : (d == 0) = false := by rw [beq_eq_false_iff_ne]; omega
  rw [hd0, Bool.false_or, List.all_eq_true] at b
  have c := b P (List.mem_range.2 hP)
  rw [hd, beq_self_eq_true, Bool.not_true, Bool.false_or, List.any_eq_true] at c
  obtain ⟨e, he, h2⟩ := c
  rw [Bool.and_eq_true, beq_iff_eq, List.contains_iff_mem] at h2
  exact ⟨e, he, h2⟩
def cov (p : Nat × Nat) (n : Nat) : Prop := n % p.1 = p.2 % p.1
theorem cut_bit {U t n : Nat} {e : Nat × Nat} (he : e ∈ tab) (h1 : 1 ≤ e.1) (hn : n < 32) : (cut U e.2 (t % e.1)).testBit n = (U.testBit n && !(n % e.1 == t % e.1)) := by
  have hb : ∀ m, m < 32 → e.2.testBit m = (m % e.1 == 0) := fun m hm => by
    have h := tab_bits
    rw [List.all_eq_true] at h
    have h2 := h e he
    rw [List.all_eq_true] at h2
    exact eq_of_beq (h2 m (List.mem_range.2 hm))
  unfold cut
  rw [Nat.testBit_xor, Nat.testBit_and, Nat.testBit_shiftLeft]
  have hlt : t % e.1 < e.1 := Nat.mod_lt _ h1
  have key : (decide (n ≥ t % e.1) && e.2.testBit (n - t % e.1)) = (n % e.1 == t % e.1) := by
    by_cases hge : n ≥ t % e.1
    · rw [hb _ (by omega)]
      simp only [hge, decide_true, Bool.true_and]
      rw [Bool.eq_iff_iff, beq_iff_eq, beq_iff_eq]
      constructor
      · intro h
        have hd : n = t % e.1 + e.1 * ((n - t % e.1) / e.1) := by
          have := Nat.div_add_mod (n - t % e.1) e.1
          omega
        rw [hd, Nat.add_mul_mod_self_left, Nat.mod_mod]
      · intro h
        rw [← h]
        exact Nat.sub_mod_eq_zero_of_mod_eq (by rw [Nat.mod_mod])
    · have hn1 : n % e.1 = n := Nat.mod_eq_of_lt (by omega)
      simp only [hge, decide_false, Bool.false_and, hn1]
      symm
      rw [beq_eq_false_iff_ne]
      omega
  rw [key]
  cases U.testBit n <;> cases (n % e.1 == t % e.1) <;> rfl
theorem cut_lt {U r s : Nat} (hU : U < 2 ^ 32) : cut U r s < 2 ^ 32 := by
  unfold cut
  exact Nat.xor_lt_two_pow hU (Nat.lt_of_le_of_lt Nat.and_le_left hU)
theorem min32 {n t P : Nat} (hn : n < 32) (ht : t < 32) : n % (min P 32) = t % (min P 32) ↔ n % P = t % P := by
  by_cases h : P ≤ 32
  · rw [Nat.min_eq_left h]
  · rw [Nat.min_eq_right (by omega), Nat.mod_eq_of_lt hn, Nat.mod_eq_of_lt ht, Nat.mod_eq_of_lt (show n < P by omega), Nat.mod_eq_of_lt (show t < P by omega)]
def Cv (w U : Nat) (ps : List (Nat × Nat)) : Prop := ∀ n, n < w → U.testBit n = true → ∃ p ∈ ps, cov p n
def Al (U : Nat) (ps : List (Nat × Nat)) : Prop := ∀ n, n < 32 → U.testBit n = true → ∃ p ∈ ps, cov p n
theorem al_zero {ps : List (Nat × Nat)} : Al 0 ps := fun n _ h => by rw [Nat.zero_testBit] at h; cases h
theorem top_bit {w U : Nat} (h : U % 2 ^ w ≠ 0) : (U % 2 ^ w).log2 < w ∧ U.testBit (U % 2 ^ w).log2 = true := by
  have := Nat.testBit_log2 h
  rw [Nat.testBit_mod_two_pow, Bool.and_eq_true, decide_eq_true_eq] at this
  exact this
theorem cut_cv {w U : Nat} {a b : List (Nat × Nat)} {p e : Nat × Nat} {t : Nat} (hw : w ≤ 32) (hP : ∀ m, m < 32 → (m % e.1 = t % e.1 ↔ m % p.1 = t % p.1)) (hpt : cov p t) (he : e ∈ tab) (h1 : 1 ≤ e.1) (hc : Cv w U (a ++ p :: b)) : Cv w (cut U e.2 (t % e.1)) (a ++ b) := by
  intro n hn hb
  rw [cut_bit he h1 (by omega), Bool.and_eq_true] at hb
  obtain ⟨q, hq, hqn⟩ := hc n hn hb.1
  rcases List.mem_append.1 hq with hq | hq
  · exact ⟨q, List.mem_append_left _ hq, hqn⟩
  · rcases List.mem_cons.1 hq with rfl | hq
    · exfalso
      have h2 : n % e.1 = t % e.1 := by
        rw [hP n (by omega)]
        unfold cov at hqn hpt
        rw [hqn, hpt]
      rw [h2] at hb
      simp at hb
    · exact ⟨q, List.mem_append_right _ hq, hqn⟩
theorem cut_al {U : Nat} {a b : List (Nat × Nat)} {p e : Nat × Nat} {t : Nat} (hP : ∀ m, m < 32 → (m % e.1 = t % e.1 ↔ m % p.1 = t % p.1)) (hpt : cov p t) (he : e ∈ tab) (h1 : 1 ≤ e.1) (ha : Al (cut U e.2 (t % e.1)) (a ++ b)) : Al U (a ++ p :: b) := by
  intro n hn hb
  by_cases h : n % e.1 = t % e.1
  · refine ⟨p, List.mem_append_right _ (List.mem_cons_self ..), ?_⟩
    have := (hP n hn).1 h
    unfold cov at *
    rw [this, hpt]
  · obtain ⟨q, hq, hqn⟩ := ha n hn (by
      rw [cut_bit he h1 hn, hb, Bool.true_and]
      simpa using h)
    refine ⟨q, ?_, hqn⟩
    rcases List.mem_append.1 hq with hq | hq
    · exact List.mem_append_left _ hq
    · exact List.mem_append_right _ (List.mem_cons_of_mem _ hq)
theorem se0_ok {w U : Nat} (h : se0 w U = true) (hw : w ≤ 32) (hc : Cv w U []) : Al U [] := by
  unfold se0 at h
  by_cases hz : U % 2 ^ w = 0
  · rw [hz] at h
    have : U = 0 := Nat.eq_of_beq_eq_true (by simpa using h)
    subst this
    exact al_zero
  · obtain ⟨h1, h2⟩ := top_bit hz
    obtain ⟨p, hp, _⟩ := hc _ h1 h2
    simp at hp
theorem tab_pos : ∀ e ∈ tab, 1 ≤ e.1 := by decide +kernel
theorem se1_ok {w U : Nat} {p : Nat × Nat} (h : se1 w U = true) (hw : w ≤ 16) (hp1 : 1 ≤ p.1) (hU : U < 2 ^ 32) (hc : Cv w U [p]) : Al U [p] := by
  unfold se1 at h
  by_cases hz : U % 2 ^ w = 0
  · rw [hz] at h
    have : U = 0 := Nat.eq_of_beq_eq_true (by simpa using h)
    subst this
    exact al_zero
  · obtain ⟨h1, h2⟩ := top_bit hz
    have hz' : (U % 2 ^ w).beq 0 = false := by
      rw [Bool.eq_false_iff]; intro h; exact hz (Nat.eq_of_beq_eq_true h)
    rw [hz'] at h
    obtain ⟨q, hq, hpt⟩ := hc _ h1 h2
    have : q = p := by simpa using hq
    subst this
    generalize hW : U % 2 ^ w = W at *
    generalize ht : W.log2 = t at *
    have hWt : 2 ^ t ≤ W := ht ▸ Nat.log2_self_le hz
    have hWt2 : W < 2 ^ (t + 1) := ht ▸ Nat.lt_log2_self
    by_cases hv : W - 2 ^ t = 0
    · rw [hv] at h
      have hUW : U = W := Nat.eq_of_beq_eq_true (by simpa using h)
      have hW2 : W = 2 ^ t := by omega
      intro n hn hb
      rw [hUW, hW2, Nat.testBit_two_pow] at hb
      have : t = n := by simpa using hb
      subst this
      exact ⟨q, hq, hpt⟩
    · have hv' : (W - 2 ^ t).beq 0 = false := by
        rw [Bool.eq_false_iff]; intro h; exact hv (Nat.eq_of_beq_eq_true h)
      rw [hv'] at h
      simp only at h
      rw [List.all_eq_true] at h
      have hvb := Nat.testBit_log2 hv
      generalize ht2 : (W - 2 ^ t).log2 = t2 at *
      have ht2t : t2 < t := by
        rw [← ht2, Nat.log2_lt hv]
        rw [Nat.pow_succ] at hWt2
        omega
      have hWb : W.testBit t2 = true := by
        rw [show W = 2 ^ t + (W - 2 ^ t) from by omega, Nat.testBit_two_pow_add_gt ht2t]
        exact hvb
      have hUb : U.testBit t2 = true := by
        rw [← hW, Nat.testBit_mod_two_pow, Bool.and_eq_true] at hWb
        exact hWb.2
      obtain ⟨q2, hq2, hqt⟩ := hc t2 (by omega) hUb
      have : q2 = q := by simpa using hq2
      subst this
      have hmod : t % q2.1 = t2 % q2.1 := by unfold cov at *; rw [hqt, hpt]
      have hdv : q2.1 ∣ t - t2 := Nat.dvd_of_mod_eq_zero (Nat.sub_mod_eq_zero_of_mod_eq hmod)
      have hle := Nat.le_of_dvd (by omega) hdv
      obtain ⟨e, he, he1, het⟩ := dtab_get (t - t2) (by omega) (by omega) q2.1 (by omega) (Nat.mod_eq_zero_of_dvd hdv)
      have hs := h e he
      have hP : ∀ m, m < 32 → (m % e.1 = t % e.1 ↔ m % q2.1 = t % q2.1) := fun m _ => by rw [he1]
      exact cut_al (a := []) hP hpt het (tab_pos e het) (se0_ok hs (by omega) (cut_cv (a := []) (by omega) hP hpt het (tab_pos e het) hc))
theorem se_ok (w : Nat) (hw : w ≤ 16) : ∀ (j U : Nat), se j w U = true → U < 2 ^ 32 → ∀ ps : List (Nat × Nat), ps.length = j + 1 → (∀ p ∈ ps, 1 ≤ p.1) → Cv w U ps → Al U ps
  | 0, U, h, hU, ps, hps, hpos, hc => by
    obtain ⟨p, rfl⟩ := List.length_eq_one_iff.1 hps
    exact se1_ok h hw (hpos p (List.mem_cons_self ..)) hU hc
  | j + 1, U, h, hU, ps, hps, hpos, hc => by
    unfold se at h
    by_cases hz : U % 2 ^ w = 0
    · rw [hz] at h
      have : U = 0 := Nat.eq_of_beq_eq_true (by simpa using h)
      subst this
      exact al_zero
    · have hz' : (U % 2 ^ w).beq 0 = false := by
        rw [Bool.eq_false_iff]; intro h; exact hz (Nat.eq_of_beq_eq_true h)
      rw [hz'] at h
      simp only at h
      rw [List.all_eq_true] at h
      obtain ⟨h1, h2⟩ := top_bit hz
      obtain ⟨p, hp, hpt⟩ := hc _ h1 h2
      obtain ⟨a, b, rfl⟩ := List.append_of_mem hp
      generalize (U % 2 ^ w).log2 = t at *
      have hp1 := hpos p hp
      obtain ⟨e, he, he1⟩ := tab_get (min p.1 32) (by omega) (by omega)
      have hP : ∀ m, m < 32 → (m % e.1 = t % e.1 ↔ m % p.1 = t % p.1) := fun m hm => by
        rw [he1]
        exact min32 hm (by omega)
      have hl : (a ++ b).length = j + 1 := by
        rw [List.length_append] at hps ⊢
        rw [List.length_cons] at hps
        omega
      exact cut_al hP hpt he (tab_pos e he) (se_ok w hw j _ (h e he) (cut_lt hU) (a ++ b) hl (fun q hq => hpos q (by
            rcases List.mem_append.1 hq with hq | hq
            · exact List.mem_append_left _ hq
            · exact List.mem_append_right _ (List.mem_cons_of_mem _ hq)))
        (cut_cv (by omega) hP hpt he (tab_pos e he) hc))
theorem cover32 (ps : List (Nat × Nat)) (h1 : 1 ≤ ps.length) (h5 : ps.length ≤ 5) (hpos : ∀ p ∈ ps, 1 ≤ p.1) (hc : ∀ n, n < 2 ^ ps.length → ∃ p ∈ ps, cov p n) : ∀ n, n < 32 → ∃ p ∈ ps, cov p n := by
  intro n hn
  by_cases h : ps.length = 5
  · exact hc n (by rw [h]; omega)
  · have key : ∀ w j, w ≤ 16 → se j w (2 ^ 32 - 1) = true → ps.length = j + 1 → w = 2 ^ (j + 1) → ∃ p ∈ ps, cov p n := by
      intro w j hw hs hj hw2
      exact se_ok w hw j _ hs (by decide) ps hj hpos (fun m hm _ => hc m (by rw [hj, ← hw2]; exact hm)) n hn (by
        rw [Nat.testBit_two_pow_sub_one]; simpa using hn)
    rcases (show ps.length = 1 ∨ ps.length = 2 ∨ ps.length = 3 ∨ ps.length = 4 by omega) with h | h | h | h
    · exact key 2 0 (by omega) s1 h rfl
    · exact key 4 1 (by omega) s2 h rfl
    · exact key 8 2 (by omega) s3 h rfl
    · exact key 16 3 (by omega) s4 h rfl
end Go.Idl.N
set_option linter.unusedSimpArgs false
set_option linter.unusedVariables false
namespace Go.Idl.N
open Go Go.Idl
def loud (l : List (Int × Int)) (t : Int) : Bool := (List.range l.length).any (soundB l t)
def qt (l : List (Int × Int)) (t : Int) (n : Nat) : Bool := !(loud l (t + (n : Int)))
theorem idx_nil {p : Nat → Bool} : ∀ (m k : Nat), idx p k m = [] ↔ ∀ i, k ≤ i → i < k + m → p i = false
  | 0, k => by simp [idx]; intro i h1 h2; omega
  | m + 1, k => by
    unfold idx
    cases hp : p k with
    | true =>
      simp only [if_true]
      constructor
      · intro h; cases h
      · intro h; rw [h k (by omega) (by omega)] at hp; cases hp
    | false =>
      simp only [Bool.false_eq_true, if_false]
      rw [idx_nil m (k + 1)]
      constructor
      · intro h i h1 h2
        by_cases hi : i = k
        · rw [hi]; exact hp
        · exact h i (by omega) (by omega)
      · intro h i h1 h2
        exact h i (by omega) (by omega)
theorem loud_false {l : List (Int × Int)} {t : Int} : loud l t = false ↔ ∀ i, i < l.length → soundB l t i = false := by
  unfold loud
  rw [List.any_eq_false]
  constructor
  · intro h i hi
    have := h i (List.mem_range.2 hi)
    simpa using this
  · intro h i hi
    rw [h i (List.mem_range.1 hi)]
    simp
theorem idx_loud (l : List (Int × Int)) (t : Int) : (((idx (soundB l t) 0 l.length).length : Int) == 0) = !(loud l t) := by
  rw [Bool.eq_iff_iff, beq_iff_eq, Bool.not_eq_true', loud_false]
  have := idx_nil (p := soundB l t) l.length 0
  constructor
  · intro h i hi
    exact this.1 (List.eq_nil_of_length_eq_zero (by omega)) i (by omega) (by omega)
  · intro h
    rw [this.2 (fun i _ h2 => h i (by omega))]
    rfl
theorem mks_loud (l : List (Int × Int)) (t : Int) (h5 : l.length ≤ 5) : (mks l t l.length == [(0 : Int), (0 : Int), (0 : Int), (0 : Int), (0 : Int)]) = !(loud l t) := by
  rw [Bool.eq_iff_iff, beq_iff_eq, Bool.not_eq_true', loud_false]
  constructor
  · intro h i hi
    have h2 : (mks l t l.length)[i]? = ([0, 0, 0, 0, 0] : List Int)[i]? := by rw [h]
    rw [List.getElem?_eq_getElem (by rw [mks_len]; omega), mks_get] at h2
    have h3 : ([0, 0, 0, 0, 0] : List Int)[i]? = some 0 := by
      rcases (show i = 0 ∨ i = 1 ∨ i = 2 ∨ i = 3 ∨ i = 4 by omega) with h | h | h | h | h <;> rw [h] <;> rfl
    rw [h3] at h2
    cases hs : soundB l t i with
    | false => rfl
    | true => rw [hs] at h2; simp [hi] at h2
  · intro h
    have : mks l t l.length = List.replicate 5 0 := by
      apply List.ext_getElem
      · simp [mks]
      · intro i h1 h2
        rw [mks_get, List.getElem_replicate]
        by_cases hi : i < l.length
        · rw [h i hi]; simp
        · simp [hi]
    rw [this]; rfl
theorem l30 (l : List (Int × Int)) (hc : chk l = 0) (from' : Int) (h0 : 0 ≤ from') (h1 : from' ≤ 1000000000000) (N : Nat) (hN : N ≤ 32) : ∀ (f k : Nat), k ≤ N → N - k + 100 < f →
    L30_0 from' l (N : Int) f (k : Int) = some (match (List.range' k (N - k)).find? (qt l from') with | some n => .inl (from' + (n : Int)) | none => .inr ())
  | 0, k, _, h => by omega
  | f + 1, k, hk, h => by
    unfold L30_0
    by_cases hlt : k < N
    · rw [oif_pos (by simpa using hlt), wrap_id (n := from' + (k : Int)) (by omega) (by omega), f39 f l _ hc (by omega) (by omega) (by omega), obind_some, oif_pos (by rw [decide_eq_true_eq]; exact mks_len _ _ _), mks_loud l _ (chk0 hc).2.1, wrap_succ (by omega), show N - k = (N - (k + 1)) + 1 from by omega, List.range'_succ, List.find?_cons, l30 l hc from' h0 h1 N hN f (k + 1) (by omega) (by omega)]
      unfold qt
      cases loud l (from' + (k : Int)) <;> rfl
    · rw [oif_neg (by simpa using hlt), show N - k = 0 from by omega]
      rfl
theorem l31 (l : List (Int × Int)) (hc : chk l = 0) (from' : Int) (h0 : 0 ≤ from') (h1 : from' ≤ 1000000000000) : ∀ (f k : Nat), k ≤ 32 → 32 - k + 100 < f →
    L31_0 l from' f (k : Int) = some (match (List.range' k (32 - k)).find? (qt l from') with | some n => .inl (from' + (n : Int)) | none => .inr ())
  | 0, k, _, h => by omega
  | f + 1, k, hk, h => by
    unfold L31_0
    by_cases hlt : k < 32
    · rw [oif_pos (by rw [decide_eq_true_eq]; omega), wrap_id (n := from' + (k : Int)) (by omega) (by omega), f41 f l _ hc (by omega), obind_some, idx_loud, wrap_succ (by omega), show 32 - k = (32 - (k + 1)) + 1 from by omega, List.range'_succ, List.find?_cons, l31 l hc from' h0 h1 f (k + 1) (by omega) (by omega)]
      unfold qt
      cases loud l (from' + (k : Int)) <;> rfl
    · rw [oif_neg (by rw [decide_eq_false_iff_not]; omega), show 32 - k = 0 from by omega]
      rfl
def prog (from' : Int) (x : Int × Int) : Nat × Nat := (x.1.toNat, ((x.2 - from') % x.1).toNat)
theorem prog_cov {from' : Int} {x : Int × Int} (hx : okPin x) (h0 : 0 ≤ from') (n : Nat) : cov (prog from' x) n ↔ (Int.tmod (from' + (n : Int)) x.1 == x.2) = true := by
  obtain ⟨p1, p2, p3, p4⟩ := hx
  have b1 := Int.emod_nonneg (x.2 - from') (show x.1 ≠ 0 by omega)
  have b2 := Int.emod_lt_of_pos (x.2 - from') (show 0 < x.1 by omega)
  unfold cov prog
  simp only []
  rw [beq_iff_eq, Int.tmod_eq_emod_of_nonneg (by omega)]
  obtain ⟨P, hP⟩ := Int.eq_ofNat_of_zero_le (show 0 ≤ x.1 by omega)
  rw [Nat.mod_eq_of_lt (a := ((x.2 - from') % x.1).toNat) (by omega)]
  have e1 : (n % x.1.toNat = ((x.2 - from') % x.1).toNat) ↔ (n : Int) % x.1 = (x.2 - from') % x.1 := by
    rw [hP] at b1 b2 ⊢
    have : ((n % P : Nat) : Int) = (n : Int) % (P : Int) := rfl
    rw [← this, Int.toNat_natCast]
    omega
  rw [e1, Int.emod_eq_emod_iff_emod_sub_eq_zero]
  have e2 : (from' + (n : Int)) % x.1 = x.2 ↔ (from' + (n : Int)) % x.1 = x.2 % x.1 := by rw [Int.emod_eq_of_lt p3 p4]
  rw [e2, Int.emod_eq_emod_iff_emod_sub_eq_zero, show (n : Int) - (x.2 - from') = from' + (n : Int) - x.2 from by omega]
theorem loud_cov {l : List (Int × Int)} (hv : l.any badPin = false) {from' : Int} (h0 : 0 ≤ from') (n : Nat) : (∃ p ∈ l.map (prog from'), cov p n) ↔ loud l (from' + (n : Int)) = true := by
  unfold loud soundB
  rw [List.any_eq_true]
  constructor
  · rintro ⟨p, hp, hc⟩
    obtain ⟨x, hx, rfl⟩ := List.mem_map.1 hp
    obtain ⟨i, hi, rfl⟩ := List.mem_iff_getElem.1 hx
    exact ⟨i, List.mem_range.2 hi, by rw [pinAt_get hi]; exact (prog_cov (pins_ok hv _ hx) h0 n).1 hc⟩
  · rintro ⟨i, hi, hs⟩
    rw [List.mem_range] at hi
    rw [pinAt_get hi] at hs
    exact ⟨prog from' l[i], List.mem_map.2 ⟨_, List.getElem_mem hi, rfl⟩, (prog_cov (pins_ok hv _ (List.getElem_mem hi)) h0 n).2 hs⟩
theorem find_32 (p : Nat → Bool) (N : Nat) (hN : N ≤ 32) (h : (∀ n, n < N → p n = false) → ∀ n, n < 32 → p n = false) : (List.range' 0 (32 - 0)).find? p = (List.range' 0 (N - 0)).find? p := by
  have e : List.range' 0 (32 - 0) = List.range' 0 (N - 0) ++ List.range' N (32 - N) := by
    have := @List.range'_append 0 (N - 0) (32 - N) 1
    rw [show 0 + 1 * (N - 0) = N from by omega, show (N - 0) + (32 - N) = 32 - 0 from by omega] at this
    exact this.symm
  rw [e, List.find?_append]
  cases hf : (List.range' 0 (N - 0)).find? p with
  | some n => rfl
  | none =>
    rw [List.find?_eq_none] at hf
    have := h (fun n hn => by
      have := hf n (List.mem_range'_1.2 (by omega))
      simpa using this)
    show (List.range' N (32 - N)).find? p = none
    rw [List.find?_eq_none]
    intro n hn
    rw [List.mem_range'_1] at hn
    rw [this n (by omega)]
    simp
def qui (l : List (Int × Int)) (from' : Int) : Int × Int := if chk l ≠ 0 then (0, chk l) else if isT from' then (match (List.range' 0 (32 - 0)).find? (qt l from') with | some n => (from' + (n : Int), 0) | none => (0, 21)) else (0, 3)
theorem shl_len {l : List (Int × Int)} (h1 : 1 ≤ l.length) (h5 : l.length ≤ 5) : IntKind.wrap .i64 (1 * 2 ^ (min (Int.toNat (l.length : Int)) (IntKind.bits .i64))) = ((2 ^ l.length : Nat) : Int) ∧ 2 ^ l.length ≤ 32 := by
  rcases (show l.length = 1 ∨ l.length = 2 ∨ l.length = 3 ∨ l.length = 4 ∨ l.length = 5 by omega) with h | h | h | h | h <;> rw [h] <;> exact ⟨by decide, by decide⟩
theorem f30 (fuel : Nat) (l : List (Int × Int)) (t : Int) (hl : l.length ≤ 9) (hf : 700 ≤ fuel) : F30 fuel l t = some (qui l t) := by
  unfold F30 qui
  rw [f38 fuel l [t] hl (by simp) (by omega), obind_some, isT_out]
  by_cases h : chk l = 0
  · obtain ⟨h1, h5, hv⟩ := chk0 h
    cases ht : isT t with
    | true =>
      obtain ⟨t1, t2⟩ := isT_b ht
      obtain ⟨e1, e2⟩ := shl_len h1 h5
      have := l30 l h t t1 t2 _ e2 fuel 0 (Nat.zero_le _) (by generalize 2 ^ l.length = N at *; omega)
      rw [Int.natCast_zero] at this
      simp only [h, ne_eq, not_true_eq_false, Bool.not_true, Bool.false_eq_true, if_false, if_true]
      rw [oif_pos (by rw [decide_eq_true_eq]; omega), e1, this, obind_some, find_32 _ (2 ^ l.length) e2 (fun hq n hn => by
        have := cover32 (l.map (prog t)) (by rw [List.length_map]; exact h1) (by rw [List.length_map]; exact h5) (fun p hp => by
          obtain ⟨x, hx, rfl⟩ := List.mem_map.1 hp
          have := (pins_ok hv x hx).1
          show 1 ≤ x.1.toNat
          omega) (fun m hm => by
            rw [List.length_map] at hm
            have := hq m hm
            exact (loud_cov hv t1 m).2 (by simpa [qt] using this)) n hn
        have := (loud_cov hv t1 n).1 this
        unfold qt
        rw [this]; rfl)]
      cases (List.range' 0 (2 ^ l.length - 0)).find? (qt l t) <;> rfl
    | false => simp only [h, ne_eq, not_true_eq_false, Bool.not_false, Bool.false_eq_true, if_false, if_true]; rfl
  · rw [if_pos h, if_pos h]
    simp only []
    rw [oif_pos (by simpa using h)]
theorem f31 (fuel : Nat) (l : List (Int × Int)) (t : Int) (hl : l.length ≤ 9) (hf : 700 ≤ fuel) : F31 fuel l t = some (qui l t) := by
  unfold F31 qui
  rw [f13 fuel l hl (by omega), obind_some, oif_ite]
  by_cases h : chk l = 0
  · rw [if_neg (by simp [h]), if_neg (by simp [h]), f40, obind_some]
    cases ht : isT t with
    | true =>
      obtain ⟨t1, t2⟩ := isT_b ht
      have := l31 l h t t1 t2 fuel 0 (by omega) (by omega)
      rw [Int.natCast_zero] at this
      rw [oif_t, this, obind_some, if_pos rfl]
      cases (List.range' 0 (32 - 0)).find? (qt l t) <;> rfl
    | false => rfl
  · rw [if_pos (by simpa using h), if_pos h]
def okN (l : List (Int × Int)) (pin : Nat) (n : Nat) : Bool := (joinS (l.set pin ((pinAt l pin).1, (n : Int))) 0 1).isSome
theorem f62 (fuel : Nat) (l : List (Int × Int)) (h5 : l.length ≤ 5) (pin : Nat) (hp : pin < l.length) (n : Nat) : F62 fuel l (pin : Int) (n : Int) = some (l.set pin ((pinAt l pin).1, (n : Int))) := by
  unfold F62
  cases l with
  | nil => simp at hp
  | cons x l =>
    rw [List.isEmpty_cons, oif_f, oif_pos (by rw [decide_eq_true_eq, List.length_map]; omega), oif_pos (by simp), oif_pos (by rw [decide_eq_true_eq]; omega), sg_ge hp, obind_some, stL_nat hp, obind_some, pinAt_get hp]
theorem set_ok {l : List (Int × Int)} (hl : ∀ x ∈ l, okPin x) {pin : Nat} (hp : pin < l.length) {n : Nat} (hn : (n : Int) < (pinAt l pin).1) : ∀ x ∈ l.set pin ((pinAt l pin).1, (n : Int)), okPin x := by
  intro x hx
  rcases List.mem_or_eq_of_mem_set hx with hx | rfl
  · exact hl x hx
  · have := hl _ (List.getElem_mem hp)
    rw [pinAt_get hp] at hn ⊢
    obtain ⟨a1, a2, a3, a4⟩ := this
    exact ⟨a1, a2, by simp, hn⟩
theorem bad_of {l : List (Int × Int)} (h : ∀ x ∈ l, okPin x) : l.any badPin = false := by
  rw [List.any_eq_false]
  intro x hx
  obtain ⟨a1, a2, a3, a4⟩ := h x hx
  simp only [badPin, Bool.or_eq_true, decide_eq_true_eq]
  omega
theorem f46_isSome (fuel : Nat) (l : List (Int × Int)) (hv : l.any badPin = false) (h5 : l.length ≤ 5) (hf : 500 ≤ fuel) : ∃ r, F46 fuel l = some r ∧ r.2.2 = (joinS l 0 1).isSome := by
  rw [f46 fuel l hv h5 hf]
  cases joinS l 0 1 <;> exact ⟨_, rfl, rfl⟩
theorem l33_2 (l : List (Int × Int)) (hv : l.any badPin = false) (h5 : l.length ≤ 5) (pin : Nat) (hp : pin < l.length) : ∀ (f k : Nat) (w : List Int), (k : Int) ≤ (pinAt l pin).1 → (pinAt l pin).1.toNat - k + 550 < f → w.length ≤ k →
    L33_2 l (pin : Int) f (k : Int) w = some (w ++ idx (okN l pin) k ((pinAt l pin).1.toNat - k))
  | 0, k, _, _, h, _ => by omega
  | f + 1, k, w, hk, h, hw => by
    unfold L33_2
    have hx := pins_ok hv _ (List.getElem_mem hp)
    have hP : (pinAt l pin).1 = l[pin].1 := by rw [pinAt_get hp]
    have hb := hx.2.1
    rw [sg_ge hp, obind_some, ← hP]
    by_cases hlt : (k : Int) < (pinAt l pin).1
    · obtain ⟨r, e, er⟩ := f46_isSome f (l.set pin ((pinAt l pin).1, (k : Int))) (bad_of (set_ok (pins_ok hv) hp hlt)) (by rw [List.length_set]; exact h5) (by omega)
      rw [oif_pos (by simpa using hlt), f62 f l h5 pin hp k, obind_some, e, obind_some, er, wrap_succ (by omega), show (pinAt l pin).1.toNat - k = ((pinAt l pin).1.toNat - (k + 1)) + 1 from by omega]
      unfold idx
      have hok : okN l pin k = (joinS (l.set pin ((pinAt l pin).1, (k : Int))) 0 1).isSome := rfl
      rw [← hok]
      cases okN l pin k with
      | true =>
        rw [oif_t, if_pos rfl, oif_pos (by rw [decide_eq_true_eq]; omega), l33_2 l hv h5 pin hp f (k + 1) _ (by omega) (by omega) (by simp; omega), List.append_assoc]; rfl
      | false =>
        rw [oif_f, if_neg (by simp), l33_2 l hv h5 pin hp f (k + 1) _ (by omega) (by omega) (by omega)]
    · rw [oif_neg (by simpa using hlt), show (pinAt l pin).1.toNat - k = 0 from by omega]
      simp [idx]
theorem l33_0 (l : List (Int × Int)) (hv : l.any badPin = false) (h5 : l.length ≤ 5) (pin : Nat) (hp : pin < l.length) : ∀ (f k : Nat), (k : Int) ≤ (pinAt l pin).1 → (pinAt l pin).1.toNat - k + 560 < f →
    L33_0 l (pin : Int) f (k : Int) = some (idx (okN l pin) k ((pinAt l pin).1.toNat - k))
  | 0, k, _, h => by omega
  | f + 1, k, hk, h => by
    unfold L33_0
    have hx := pins_ok hv _ (List.getElem_mem hp)
    have hP : (pinAt l pin).1 = l[pin].1 := by rw [pinAt_get hp]
    have hb := hx.2.1
    rw [sg_ge hp, obind_some, ← hP]
    by_cases hlt : (k : Int) < (pinAt l pin).1
    · obtain ⟨r, e, er⟩ := f46_isSome f (l.set pin ((pinAt l pin).1, (k : Int))) (bad_of (set_ok (pins_ok hv) hp hlt)) (by rw [List.length_set]; exact h5) (by omega)
      rw [oif_pos (by simpa using hlt), f62 f l h5 pin hp k, obind_some, e, obind_some, er, wrap_succ (by omega), show (pinAt l pin).1.toNat - k = ((pinAt l pin).1.toNat - (k + 1)) + 1 from by omega]
      unfold idx
      have hok : okN l pin k = (joinS (l.set pin ((pinAt l pin).1, (k : Int))) 0 1).isSome := rfl
      rw [← hok]
      cases okN l pin k with
      | true =>
        have ih := l33_2 l hv h5 pin hp f (k + 1) [(k : Int)] (by omega) (by omega) (by simp)
        rw [oif_t, if_pos rfl, show decide (1 * 8 ≤ 140737488355328) = true from rfl, oif_t, ih, obind_some]; rfl
      | false =>
        rw [oif_f, if_neg (by simp), l33_0 l hv h5 pin hp f (k + 1) (by omega) (by omega)]
    · rw [oif_neg (by simpa using hlt), show (pinAt l pin).1.toNat - k = 0 from by omega]
      rfl
def off (l : List (Int × Int)) (p : Int) : List Int × Int := if chk l ≠ 0 then ([], chk l) else if p < 0 ∨ p ≥ (l.length : Int) then ([], 2) else (idx (okN l p.toNat) 0 (pinAt l p.toNat).1.toNat, 0)
theorem f33 (fuel : Nat) (l : List (Int × Int)) (p : Int) (hl : l.length ≤ 9) (hf : 800 ≤ fuel) : F33 fuel l p = some (off l p) := by
  unfold F33 off
  rw [f13 fuel l hl (by omega), obind_some, oif_ite]
  by_cases h : chk l = 0
  · obtain ⟨h1, h5, hv⟩ := chk0 h
    rw [if_neg (by simp [h]), if_neg (by simp [h])]
    simp only [oif_dec]
    by_cases h2 : p < 0
    · rw [if_pos h2, if_pos (Or.inl h2)]
    · by_cases h3 : p ≥ (l.length : Int)
      · rw [if_neg h2, if_pos h3, if_pos (Or.inr h3)]
      · rw [if_neg h2, if_neg h3, if_neg (by omega)]
        have hp : p.toNat < l.length := by omega
        have hx := pins_ok hv _ (List.getElem_mem hp)
        have hP : (pinAt l p.toNat).1 = l[p.toNat].1 := by rw [pinAt_get hp]
        have := l33_0 l hv h5 p.toNat hp fuel 0 (by have := hx.1; omega) (by have := hx.2.1; omega)
        rw [Int.natCast_zero, show ((p.toNat : Nat) : Int) = p from by omega, Nat.sub_zero] at this
        rw [this, obind_some]
  · rw [if_pos (by simpa using h), if_pos h]
theorem g59 (fuel : Nat) (l : List (Int × Int)) (h5 : l.length ≤ 5) (pin : Nat) (hp : pin < l.length) : ∃ y, G59 fuel (pin : Int) (IntKind.wrap .i64 ((pin : Int) + 1)) l = some (.inr y) ∧ y.1 ≤ y.2.length ∧ y.2.take y.1 = l.eraseIdx pin := by
  unfold G59
  rw [wrap_succ (by omega), oif_pos (by rw [decide_eq_true_eq]; omega), oif_pos (by rw [decide_eq_true_eq]; omega), oif_pos (by rw [decide_eq_true_eq]; omega), oif_pos (by rw [decide_eq_true_eq]; omega), oif_pos (by rw [decide_eq_true_eq]; omega), oif_neg (by rw [beq_eq_false_iff_ne]; omega), oif_pos (by rw [decide_eq_true_eq]; omega)]
  simp only [Int.toNat_natCast]
  rw [List.eraseIdx_eq_take_drop_succ]
  by_cases h : ((pin + 1 : Nat) : Int) < (l.length : Int)
  · rw [oif_pos (by simpa using h), oif_pos (by rw [decide_eq_true_eq]; omega), oif_pos (by rw [decide_eq_true_eq]; omega), oif_pos (by rw [decide_eq_true_eq]; omega), oif_pos (by rw [decide_eq_true_eq]; omega), oif_pos (by rw [decide_eq_true_eq]; omega), oif_pos (by rw [decide_eq_true_eq]; omega), oif_pos (by rw [decide_eq_true_eq]; omega)]
    refine ⟨_, rfl, ?_, ?_⟩
    · simp only []
      rw [clrL_len (by rw [mvL_len (by omega) (by omega)]; omega), mvL_len (by omega) (by omega)]
      omega
    · simp only [clrL, mvL]
      rw [List.take_append_of_le_length (by simp; omega), List.take_take, Nat.min_self, ← List.append_assoc, List.take_append_of_le_length (by simp; omega), List.take_of_length_le (by simp; omega)]
  · rw [oif_neg (by simpa using h), oif_pos (by rw [decide_eq_true_eq]; omega), oif_pos (by rw [decide_eq_true_eq]; omega), oif_pos (by rw [decide_eq_true_eq]; omega), oif_pos (by rw [decide_eq_true_eq]; omega), oif_pos (by rw [decide_eq_true_eq]; omega), oif_pos (by rw [decide_eq_true_eq]; omega)]
    refine ⟨_, rfl, ?_, ?_⟩
    · simp only []
      rw [clrL_len (by omega)]
      omega
    · simp only [clrL]
      rw [List.take_append_of_le_length (by simp; omega), List.take_take, Nat.min_self, List.drop_eq_nil_of_le (by omega), List.append_nil]
theorem l32 (T g : Int) (hT : 0 ≤ T) (hg : 1 ≤ g) (hg2 : g ≤ 200) (q : Nat) (hq : q ≤ 200) : ∀ (f k : Nat), k ≤ q → q - k < f →
    L32_0 T g (q : Int) f (k : Int) ((List.range k).map (fun (j : Nat) => T % g + (j : Int) * g) ++ List.replicate (q - k) 0) = some ((List.range q).map fun (j : Nat) => T % g + (j : Int) * g)
  | 0, k, _, h => by omega
  | f + 1, k, hk, h => by
    unfold L32_0
    by_cases hlt : k < q
    · have hlen : ((List.range k).map (fun (j : Nat) => T % g + (j : Int) * g) ++ List.replicate (q - k) (0 : Int)).length = q := by simp; omega
      have a1 := Int.emod_nonneg T (show g ≠ 0 by omega)
      have a2 := Int.emod_lt_of_pos T (show 0 < g by omega)
      have a3 : (k : Int) * g ≤ 200 * 200 := Int.mul_le_mul (by omega) hg2 (by omega) (by omega)
      have a4 : 0 ≤ (k : Int) * g := Int.mul_nonneg (by omega) (by omega)
      rw [oif_pos (by rw [decide_eq_true_eq]; omega), oif_pos (by rw [decide_eq_true_eq]; omega), oif_pos (by rw [decide_eq_true_eq]; omega), oif_pos (by rw [decide_eq_true_eq, hlen]; omega), stL_nat (by rw [hlen]; exact hlt), obind_some, Int.tmod_eq_emod_of_nonneg hT, wrap_id (n := (k : Int) * g) (by omega) (by omega), wrap_id (n := T % g + (k : Int) * g) (by omega) (by omega), wrap_succ (by omega)]
      have e : (((List.range k).map (fun (j : Nat) => T % g + (j : Int) * g) ++ List.replicate (q - k) (0 : Int)).set k (T % g + (k : Int) * g)) = (List.range (k + 1)).map (fun (j : Nat) => T % g + (j : Int) * g) ++ List.replicate (q - (k + 1)) 0 := by
        rw [List.set_append_right _ _ (by simp)]
        simp only [List.length_map, List.length_range, Nat.sub_self]
        rw [show q - k = (q - (k + 1)) + 1 from by omega, List.replicate_succ, List.set_cons_zero, List.range_succ, List.map_append, List.append_assoc]
        rfl
      rw [e]
      exact l32 T g hT hg hg2 q hq f (k + 1) (by omega) (by omega)
    · rw [oif_neg (by rw [decide_eq_false_iff_not]; omega), show k = q from by omega, Nat.sub_self]
      simp
theorem idx_succ (p : Nat → Bool) (k m : Nat) : idx p k (m + 1) = if p k then (k : Int) :: idx p (k + 1) m else idx p (k + 1) m := rfl
theorem idx_add (p : Nat → Bool) : ∀ (a k b : Nat), idx p k (a + b) = idx p k a ++ idx p (k + a) b
  | 0, k, b => by simp [idx]
  | a + 1, k, b => by
    rw [show a + 1 + b = (a + b) + 1 from by omega, idx_succ, idx_succ, idx_add p a (k + 1) b, show k + 1 + a = k + (a + 1) from by omega]
    split <;> rfl
theorem idx_one (p : Nat → Bool) (s c d : Nat) (h : p (s + c) = true) (hn : ∀ i, s ≤ i → i < s + (c + (1 + d)) → i ≠ s + c → p i = false) : idx p s (c + (1 + d)) = [((s + c : Nat) : Int)] := by
  rw [idx_add p c, idx_add p 1, (idx_nil _ _).2 (fun i h1 h2 => hn i (by omega) (by omega) (by omega)), (idx_nil d (s + c + 1)).2 (fun i h1 h2 => hn i (by omega) (by omega) (by omega)), idx_succ, h]
  rfl
theorem idx_mod (T : Int) (g : Nat) (hT : 0 ≤ T) (hg : 1 ≤ g) (p : Nat → Bool) (hp : ∀ n : Nat, p n = true ↔ (g : Int) ∣ (n : Int) - T) : ∀ q : Nat, idx p 0 (g * q) = (List.range q).map fun j : Nat => T % (g : Int) + (j : Int) * (g : Int)
  | 0 => rfl
  | q + 1 => by
    have ih := idx_mod T g hT hg p hp q
    have a1 := Int.emod_nonneg T (show (g : Int) ≠ 0 by omega)
    have a2 := Int.emod_lt_of_pos T (show 0 < (g : Int) by omega)
    obtain ⟨c, hc⟩ := Int.eq_ofNat_of_zero_le a1
    have key : ∀ n : Nat, p n = true ↔ n % g = c := by
      intro n
      rw [hp n]
      have e : (n : Int) % (g : Int) = ((n % g : Nat) : Int) := rfl
      constructor
      · intro h
        have := Int.emod_eq_emod_iff_emod_sub_eq_zero.2 (Int.emod_eq_zero_of_dvd h)
        rw [e, hc] at this
        omega
      · intro h
        apply Int.dvd_of_emod_eq_zero
        rw [← Int.emod_eq_emod_iff_emod_sub_eq_zero, e, hc, h]
    have hcg : c < g := by omega
    have hm : ∀ i, i < g → (g * q + i) % g = i := fun i hi => by rw [Nat.mul_add_mod, Nat.mod_eq_of_lt hi]
    rw [Nat.mul_succ, idx_add p (g * q) 0 g, ih, Nat.zero_add, List.range_succ, List.map_append]
    congr 1
    have hf : ∀ i, i < g → i ≠ c → p (g * q + i) = false := fun i hi hne => by
      rw [Bool.eq_false_iff]
      intro h
      rw [key, hm i hi] at h
      exact hne h
    have := idx_one p (g * q) c (g - c - 1) (by rw [key, hm c hcg]) (fun i h1 h2 h3 => by
      have := hf (i - g * q) (by omega) (by omega)
      rwa [show g * q + (i - g * q) = i from by omega] at this)
    rw [show c + (1 + (g - c - 1)) = g from by omega] at this
    rw [this, hc]
    simp only [List.map_cons, List.map_nil]
    rw [Int.natCast_add, Int.natCast_mul, Int.mul_comm (q : Int)]
    congr 1
    omega
theorem set_split (l : List (Int × Int)) (pin : Nat) (hp : pin < l.length) (x : Int × Int) : l.set pin x = l.take pin ++ x :: l.drop (pin + 1) := by
  rw [List.set_eq_take_append_cons_drop, if_pos hp]
theorem okN_iff {l : List (Int × Int)} (hv : l.any badPin = false) {pin : Nat} (hp : pin < l.length) {n : Nat} (hn : (n : Int) < (pinAt l pin).1) : okN l pin n = true ↔ (∀ b ∈ l.eraseIdx pin, okP ((pinAt l pin).1, (n : Int)) b) ∧ (l.eraseIdx pin).Pairwise okP := by
  unfold okN
  rw [Option.isSome_iff_exists, join_iff _ (set_ok (pins_ok hv) hp hn), set_split l pin hp, List.eraseIdx_eq_take_drop_succ, List.Perm.pairwise_iff (fun h => okP_symm h) List.perm_middle, List.pairwise_cons]
theorem okN_stt {l : List (Int × Int)} (hv : l.any badPin = false) {pin : Nat} (hp : pin < l.length) {T L : Int} (hj : joinS (l.eraseIdx pin) 0 1 = some (T, L)) {n : Nat} (hn : (n : Int) < (pinAt l pin).1) : okN l pin n = true ↔ gcdI L (pinAt l pin).1 ∣ (n : Int) - T := by
  have hok : ∀ x ∈ l.eraseIdx pin, okPin x := fun x hx => pins_ok hv x (List.mem_of_mem_eraseIdx hx)
  have hS := join_stt _ [] 0 1 T L Stt.nil hok hj
  rw [List.nil_append] at hS
  have hpw := (join_iff _ hok).1 ⟨_, hj⟩
  have hP : 1 ≤ (pinAt l pin).1 := by rw [pinAt_get hp]; exact (pins_ok hv _ (List.getElem_mem hp)).1
  rw [okN_iff hv hp hn]
  constructor
  · rintro ⟨h, _⟩
    apply hS.inv _ _ hP
    intro s hs
    have := h s hs
    unfold okP at this
    rwa [gcdI_comm] at this
  · intro h
    refine ⟨fun b hb => ?_, hpw⟩
    unfold okP
    have h1 : gcdI (pinAt l pin).1 b.1 ∣ gcdI L (pinAt l pin).1 := gcdI_dvd (Int.dvd_trans (gcdI_dr ..) (hS.dv b hb)) (gcdI_dl ..)
    have h2 := Int.dvd_trans h1 h
    have h3 := Int.dvd_trans (gcdI_dr (pinAt l pin).1 b.1) (hS.tm b hb)
    have := Int.dvd_add h2 h3
    rwa [show (n : Int) - T + (T - b.2) = (n : Int) - b.2 from by omega] at this
theorem off_join {l : List (Int × Int)} (hv : l.any badPin = false) {pin : Nat} (hp : pin < l.length) : idx (okN l pin) 0 (pinAt l pin).1.toNat = match joinS (l.eraseIdx pin) 0 1 with
    | some (T, L) => (List.range (stp L (pinAt l pin).1).toNat).map fun j : Nat => T % gcdI L (pinAt l pin).1 + (j : Int) * gcdI L (pinAt l pin).1
    | none => [] := by
  have hok : ∀ x ∈ l.eraseIdx pin, okPin x := fun x hx => pins_ok hv x (List.mem_of_mem_eraseIdx hx)
  have hP : 1 ≤ (pinAt l pin).1 := by rw [pinAt_get hp]; exact (pins_ok hv _ (List.getElem_mem hp)).1
  cases hj : joinS (l.eraseIdx pin) 0 1 with
  | none =>
    simp only []
    rw [idx_nil]
    intro i h1 h2
    rw [Bool.eq_false_iff]
    intro h
    obtain ⟨_, hpw⟩ := (okN_iff hv hp (by omega)).1 h
    obtain ⟨q, hq⟩ := (join_iff _ hok).2 hpw
    rw [hj] at hq
    cases hq
  | some TL =>
    obtain ⟨T, L⟩ := TL
    have hS := join_stt _ [] 0 1 T L Stt.nil hok hj
    simp only []
    have hg := gcdI_pos (a := L) (show 0 < (pinAt l pin).1 by omega)
    have hs := stp_pos (L := L) hP
    have hm := stp_mul (L := L) (P := (pinAt l pin).1)
    obtain ⟨g, hgn⟩ := Int.eq_ofNat_of_zero_le (Int.le_of_lt hg)
    obtain ⟨q, hqn⟩ := Int.eq_ofNat_of_zero_le (show 0 ≤ stp L (pinAt l pin).1 by omega)
    have hgq : (pinAt l pin).1.toNat = g * q := by
      rw [← hm, hgn, hqn, ← Int.natCast_mul, Int.toNat_natCast, Nat.mul_comm]
    rw [hqn, Int.toNat_natCast, hgq]
    have key := idx_mod T g hS.hT (by omega) (fun n => decide ((g : Int) ∣ (n : Int) - T)) (fun n => by simp) q
    rw [hgn, ← key]
    have cong : ∀ (p p' : Nat → Bool) (m k : Nat), (∀ i, k ≤ i → i < k + m → p i = p' i) → idx p k m = idx p' k m := by
      intro p p' m
      induction m with
      | zero => intro k _; rfl
      | succ m ih =>
        intro k h
        rw [idx_succ, idx_succ, h k (by omega) (by omega), ih (k + 1) (fun i h1 h2 => h i (by omega) (by omega))]
    apply cong
    intro i h1 h2
    rw [Bool.eq_iff_iff, okN_stt hv hp hj (by omega), decide_eq_true_eq, hgn]
theorem f32 (fuel : Nat) (l : List (Int × Int)) (p : Int) (hl : l.length ≤ 9) (hf : 800 ≤ fuel) : F32 fuel l p = some (off l p) := by
  unfold F32 off
  rw [f12 fuel l hl (by omega), obind_some, oif_ite]
  by_cases h : chk l = 0
  · obtain ⟨h1, h5, hv⟩ := chk0 h
    rw [if_neg (by simp [h]), if_neg (by simp [h]), wrap_id (n := (l.length : Int) - 1) (by omega) (by omega), f43 _ _ _ _ (by simp) (by simp; omega), obind_some]
    simp only [outR, List.any_cons, List.any_nil, Bool.or_false]
    by_cases h2 : p < 0 ∨ p ≥ (l.length : Int)
    · rw [if_pos h2, oif_neg (by
        rcases h2 with h2 | h2
        · simp [h2]
        · have : p > (l.length : Int) - 1 := by omega
          simp [this])]
    · rw [if_neg h2, oif_pos (by
        have a1 : ¬ p < 0 := by omega
        have a2 : ¬ p > (l.length : Int) - 1 := by omega
        simp [a1, a2])]
      have hp : p.toNat < l.length := by omega
      have hpn : p = ((p.toNat : Nat) : Int) := by omega
      have h60 : F60 fuel l = some l := by
        unfold F60
        cases l with
        | nil => rfl
        | cons x l => rw [List.isEmpty_cons, oif_f, oif_pos (by rw [decide_eq_true_eq, List.length_map]; omega)]
      have hne : l.isEmpty = false := by
        cases l with
        | nil => simp at h1
        | cons x l => rfl
      obtain ⟨y, e, hy1, hy2⟩ := g59 fuel l h5 p.toNat hp
      rw [← hpn] at e
      have hok : ∀ x ∈ l.eraseIdx p.toNat, okPin x := fun x hx => pins_ok hv x (List.mem_of_mem_eraseIdx hx)
      have hlen : (l.eraseIdx p.toNat).length ≤ 5 := by rw [List.length_eraseIdx]; split <;> omega
      rw [h60, obind_some, hne, oif_f, e, obind_some]
      simp only []
      rw [oif_pos (by simpa using hy1), hy2, f58v fuel _ (bad_of hok) hlen (by omega), obind_some, f45 fuel _ (bad_of hok) hlen (by omega), obind_some, off_join hv hp]
      cases hj : joinS (l.eraseIdx p.toNat) 0 1 with
      | none => rfl
      | some TL =>
        obtain ⟨T, L⟩ := TL
        have hS := join_stt _ [] 0 1 T L Stt.nil hok hj
        have hx := pins_ok hv _ (List.getElem_mem hp)
        have hP : (pinAt l p.toNat).1 = l[p.toNat].1 := by rw [pinAt_get hp]
        obtain ⟨x1, x2, x3, x4⟩ := hx
        rw [← hP] at x1 x2
        have hL := hS.hL
        have hg := gcdI_pos (a := L) (show 0 < (pinAt l p.toNat).1 by omega)
        have hg2 := gcdI_le (a := L) (show 0 < (pinAt l p.toNat).1 by omega)
        have hs := stp_pos (L := L) x1
        have hs2 := stp_le (L := L) x1
        simp only []
        rw [oif_t]
        have esg : sg l p = some l[p.toNat] := by
          have := sg_ge hp
          rwa [← hpn] at this
        rw [esg, obind_some, ← hP, f61 fuel L _ (by omega) (by omega) (by omega), obind_some, oif_pos (by rw [decide_eq_true_eq]; omega), stp_tdiv x1 x2, oif_pos (by rw [decide_eq_true_eq]; omega), oif_pos (by rw [decide_eq_true_eq]; omega), oif_pos (by rw [decide_eq_true_eq]; omega)]
        have := l32 T (gcdI L (pinAt l p.toNat).1) hS.hT (by omega) (by omega) (stp L (pinAt l p.toNat).1).toNat (by omega) fuel 0 (by omega) (by omega)
        rw [Int.natCast_zero, Nat.sub_zero, List.range_zero, List.map_nil, List.nil_append] at this
        rw [this, obind_some]
  · rw [if_pos (by simpa using h), if_pos h]
theorem l34 (l : List Int) (hl : l.length ≤ 1000000) : ∀ (f k : Nat), k ≤ l.length → l.length - k < f → L34_0 l l f (k : Int) = some (.inr ())
  | 0, k, _, h => by omega
  | f + 1, k, hk, h => by
    unfold L34_0
    by_cases hlt : k < l.length
    · rw [oif_pos (by simpa using hlt), sg_ge hlt, obind_some, obind_some, oif_neg (by simp), wrap_succ (by omega)]
      exact l34 l hl f (k + 1) (by omega) (by omega)
    · rw [oif_neg (by simpa using hlt)]
theorem f34 (fuel : Nat) (l : List Int) (hl : l.length ≤ 1000000) (hf : l.length < fuel) : F34 fuel l l = some true := by
  unfold F34
  have := l34 l hl fuel 0 (by omega) (by omega)
  rw [Int.natCast_zero] at this
  rw [oif_neg (by simp), this]
  rfl
theorem off_len (l : List (Int × Int)) (p : Int) : (off l p).1.length ≤ 200 := by
  unfold off
  split
  · simp
  · rename_i h
    split
    · simp
    · rename_i h2
      have hv := (chk0 (Decidable.not_not.1 h)).2.2
      have hp : p.toNat < l.length := by omega
      have hx := (pins_ok hv _ (List.getElem_mem hp)).2.1
      have := idx_len (okN l p.toNat) 0 (pinAt l p.toNat).1.toNat
      rw [pinAt_get hp] at this ⊢
      show (idx _ _ _).length ≤ 200
      omega
theorem law7 (l : List (Int × Int)) (t p : Int) : F7 1000 l t p = some true := by
  unfold F7
  rw [f8, obind_some]
  by_cases h : l.length > 9
  · rw [oif_pos (by simpa using h), f9k]; rfl
  · rw [oif_neg (by simpa using h)]
    have hl : l.length ≤ 9 := by omega
    have hs := off_len l p
    have k1 := f30 1000 l t hl (by omega)
    have k2 := f31 1000 l t hl (by omega)
    have k3 := f32 1000 l p hl (by omega)
    have k4 := f33 1000 l p hl (by omega)
    have k5 := f34 1000 (off l p).1 (by omega) (by omega)
    have k6 := f15 1000 l (by omega) (by omega)
    have k7 := f9k
    cases l with
    | nil => simp only [List.isEmpty_nil, oif_t, k1, k2, k3, k4, k5, k6, k7, obind_some, beq_self_eq_true]
    | cons x l =>
      have hs2 : decide ((List.length (List.map e68 (x :: l))) * 16 ≤ 140737488355328) = true := by rw [decide_eq_true_eq, List.length_map]; omega
      simp only [List.isEmpty_cons, oif_f, hs2, oif_t, k1, k2, k3, k4, k5, k6, k7, obind_some, beq_self_eq_true]
end Go.Idl.N
