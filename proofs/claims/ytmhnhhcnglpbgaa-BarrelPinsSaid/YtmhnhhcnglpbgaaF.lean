/-
  Part F of a proof: plain laws of the natives.
-/
import Derived.Test.YtmhnhhcnglpbgaaE
import Derived.Test.YtmhnhhcnglpbgaaProg
set_option linter.unusedSimpArgs false
set_option linter.unusedVariables false
set_option linter.unusedSectionVars false
namespace Go.Idl.N
open Go Go.Idl
theorem f9k : F9 1000 = some true := by kernel_rfl
def outR (lo hi : Int) (l : List Int) : Bool := l.any fun n => decide (n < lo) || decide (n > hi)
theorem f64 (fuel : Nat) (n lo hi : Int) : F64 fuel n lo hi = some (decide (n < lo) || decide (n > hi)) := by
  unfold F64
  simp only [oif_dec]
  by_cases h1 : n < lo
  · simp [h1]
  · by_cases h2 : n > hi <;> simp [h1, h2]
theorem l70 (v0 : List Int) (lo hi : Int) (hl : v0.length ≤ 1000000) : ∀ (f k : Nat), k ≤ v0.length → v0.length - k < f → ∃ y, L70_0 v0 lo hi (v0.length : Int) f (k : Int) = some y ∧
    (match y with | .inl i => 0 ≤ i ∧ outR lo hi (v0.drop k) = true | .inr _ => outR lo hi (v0.drop k) = false)
  | 0, k, _, h => by omega
  | f + 1, k, hk, h => by
    unfold L70_0
    by_cases hlt : k < v0.length
    · obtain ⟨y, e, hy⟩ := l70 v0 lo hi hl f (k + 1) (by omega) (by omega)
      rw [oif_pos (by simpa using hlt), sg_ge hlt, obind_some, f64, obind_some, List.drop_eq_getElem_cons hlt, wrap_succ (by omega), e]
      unfold outR at *
      rw [List.any_cons]
      cases hc : (decide (v0[k] < lo) || decide (v0[k] > hi)) with
      | true => exact ⟨_, rfl, by omega, by simp⟩
      | false =>
        refine ⟨y, rfl, ?_⟩
        simpa using hy
    · rw [oif_neg (by simpa using hlt)]
      have : k = v0.length := by omega
      subst this
      exact ⟨_, rfl, by simp [outR]⟩
theorem f43 (fuel : Nat) (l : List Int) (lo hi : Int) (hl : l.length ≤ 1000000) (hf : l.length < fuel) : F43 fuel lo hi l = some (!(outR lo hi l)) := by
  obtain ⟨y, e, hy⟩ := l70 l lo hi hl fuel 0 (by omega) (by omega)
  rw [Int.natCast_zero] at e
  unfold F43 F63 F70
  rw [e, obind_some]
  cases y with
  | inl i => simp only [List.drop_zero] at hy; simp only [obind_some, oif_dec, hy.1, hy.2]; simp [hy.1, obind_some, oif_t]
  | inr u => simp only [List.drop_zero] at hy; simp only [obind_some, oif_dec, hy]; simp [obind_some, oif_f]
def badPin (x : Int × Int) : Bool := decide (x.1 < 1) || decide (x.1 > 200) || decide (x.2 < 0) || decide (x.2 ≥ x.1)
theorem f42 (fuel : Nat) (x : Int × Int) (hf : 60 ≤ fuel) : F42 fuel x = some (badPin x) := by
  unfold F42
  rw [f43 _ _ _ _ (by simp) (by simp; omega), obind_some]
  unfold badPin
  simp only [outR, List.any_cons, List.any_nil, Bool.or_false]
  by_cases a1 : x.1 < 1
  · simp [a1, oif]
  · by_cases a2 : x.1 > 200
    · simp [a1, a2, oif]
    · rw [wrap_id (by omega) (by omega), f43 _ _ _ _ (by simp) (by simp; omega)]
      simp only [outR, List.any_cons, List.any_nil, Bool.or_false, a1, a2, decide_false, Bool.or_false, Bool.not_false, oif_t, obind_some, Bool.false_or]
      by_cases a3 : x.2 < 0
      · simp [a3, oif]
      · by_cases a4 : x.2 ≥ x.1
        · have : x.2 > x.1 - 1 := by omega
          simp [a3, a4, this, oif]
        · have : ¬ x.2 > x.1 - 1 := by omega
          simp [a3, a4, this, oif]
theorem l65 (v0 : List (Int × Int)) (hl : v0.length ≤ 1000000) : ∀ (f k : Nat), k ≤ v0.length → v0.length - k + 60 < f → ∃ y, L65_0 v0 (v0.length : Int) f (k : Int) = some y ∧
    (match y with | .inl i => 0 ≤ i ∧ (v0.drop k).any badPin = true | .inr _ => (v0.drop k).any badPin = false)
  | 0, k, _, h => by omega
  | f + 1, k, hk, h => by
    unfold L65_0
    by_cases hlt : k < v0.length
    · obtain ⟨y, e, hy⟩ := l65 v0 hl f (k + 1) (by omega) (by omega)
      rw [oif_pos (by simpa using hlt), sg_ge hlt, obind_some, show F42 f (v0[k].1, v0[k].2) = some (badPin v0[k]) from f42 _ _ (by omega), obind_some, List.drop_eq_getElem_cons hlt, wrap_succ (by omega), e, List.any_cons]
      cases hc : badPin v0[k] with
      | true => exact ⟨_, rfl, by omega, by simp⟩
      | false =>
        refine ⟨y, rfl, ?_⟩
        simpa using hy
    · rw [oif_neg (by simpa using hlt)]
      have : k = v0.length := by omega
      subst this
      exact ⟨_, rfl, by simp⟩
theorem f44 (fuel : Nat) (l : List (Int × Int)) (hl : l.length ≤ 1000000) (hf : l.length + 60 < fuel) : F44 fuel l = some (l.any badPin) := by
  obtain ⟨y, e, hy⟩ := l65 l hl fuel 0 (by omega) (by omega)
  rw [Int.natCast_zero] at e
  unfold F44 F65
  rw [e, obind_some]
  cases y with
  | inl i => simp only [List.drop_zero] at hy; simp only [obind_some, oif_dec, hy.1, hy.2]; simp [hy.1]
  | inr u => simp only [List.drop_zero] at hy; simp only [obind_some, oif_dec, hy]; simp
def chk (l : List (Int × Int)) : Int := if l.length < 1 ∨ l.length > 5 then 6 else if l.any badPin then 3 else 0
theorem f12 (fuel : Nat) (l : List (Int × Int)) (hl : l.length ≤ 9) (hf : 100 ≤ fuel) : F12 fuel l = some (chk l) := by
  unfold F12 chk
  rw [f43 _ _ _ _ (by simp) (by simp; omega), obind_some]
  simp only [outR, List.any_cons, List.any_nil, Bool.or_false]
  by_cases h1 : l.length < 1
  · have : (l.length : Int) < 1 := by omega
    rw [oif_neg (by simp [this]), if_pos (Or.inl h1)]
  · by_cases h2 : l.length > 5
    · have : (l.length : Int) > 5 := by omega
      rw [oif_neg (by simp [this]), if_pos (Or.inr h2)]
    · have a1 : ¬ (l.length : Int) < 1 := by omega
      have a2 : ¬ (l.length : Int) > 5 := by omega
      rw [oif_pos (by simp [a1, a2]), f44 _ _ (by omega) (by omega), obind_some, if_neg (by omega), oif_ite]
      cases l.any badPin <;> rfl
theorem l13 (L : List (Int × Int)) (hl : L.length ≤ 1000000) : ∀ (f k : Nat), k ≤ L.length → L.length - k < f → L13_0 L f (k : Int) = some (if (L.drop k).any badPin then .inl () else .inr ())
  | 0, k, _, h => by omega
  | f + 1, k, hk, h => by
    unfold L13_0
    by_cases hlt : k < L.length
    · have ih := l13 L hl f (k + 1) (by omega) (by omega)
      rw [oif_pos (by simpa using hlt), sg_ge hlt, obind_some, List.drop_eq_getElem_cons hlt, List.any_cons, wrap_succ (by omega), ih]
      simp only [oif_dec, badPin]
      by_cases h1 : L[k].1 < 1
      · simp [h1]
      · by_cases h2 : L[k].1 > 200
        · simp [h1, h2]
        · by_cases h3 : L[k].2 < 0
          · simp [h1, h2, h3]
          · by_cases h4 : L[k].2 ≥ L[k].1
            · simp [h1, h2, h3, h4]
            · simp only [h1, h2, h3, h4, if_false, decide_false, Bool.false_or]
    · rw [oif_neg (by simpa using hlt)]
      have : k = L.length := by omega
      subst this
      simp
theorem f13 (fuel : Nat) (l : List (Int × Int)) (hl : l.length ≤ 9) (hf : 100 ≤ fuel) : F13 fuel l = some (chk l) := by
  unfold F13 chk
  simp only [oif_dec]
  by_cases h1 : l.length < 1
  · rw [if_pos (by omega), if_pos (Or.inl h1)]
  · by_cases h2 : l.length > 5
    · rw [if_neg (by omega), if_pos (by omega), if_pos (Or.inr h2)]
    · have := l13 l (by omega) fuel 0 (by omega) (by omega)
      rw [Int.natCast_zero, List.drop_zero] at this
      rw [if_neg (by omega), if_neg (by omega), if_neg (by omega), this]
      cases l.any badPin <;> rfl
def isT (n : Int) : Bool := decide (n ≥ 0) && decide (n ≤ 1000000000000)
theorem f40 (fuel : Nat) (n : Int) : F40 fuel n = some (isT n) := by
  unfold F40 isT
  cases decide (n ≥ 0) <;> cases decide (n ≤ 1000000000000) <;> rfl
theorem isT_out (n : Int) : outR 0 1000000000000 [n] = !(isT n) := by
  unfold outR isT
  simp only [List.any_cons, List.any_nil, Bool.or_false]
  by_cases h1 : n < 0
  · have : ¬ n ≥ 0 := by omega
    simp [h1, this]
  · by_cases h2 : n > 1000000000000
    · have : ¬ n ≤ 1000000000000 := by omega
      simp [h1, h2, this]
    · have a1 : n ≥ 0 := by omega
      have a2 : n ≤ 1000000000000 := by omega
      simp [h1, h2, a1, a2]
theorem f8 (fuel : Nat) (l : List (Int × Int)) : F8 fuel l = some (decide (l.length > 9)) := by
  unfold F8
  rw [oif_bool]
  congr 1
  simp only [decide_eq_decide]; omega
theorem l14 (l : List Int) (hl : l.length ≤ 1000000) : ∀ (f k : Nat), k ≤ l.length → l.length - k < f → L14_0 l l f (k : Int) = some (.inr ())
  | 0, k, _, h => by omega
  | f + 1, k, hk, h => by
    unfold L14_0
    by_cases hlt : k < l.length
    · rw [oif_pos (by simpa using hlt), sg_ge hlt, obind_some, obind_some, oif_neg (by simp), wrap_succ (by omega)]
      exact l14 l hl f (k + 1) (by omega) (by omega)
    · rw [oif_neg (by simpa using hlt)]
theorem f14 (fuel : Nat) (l : List Int) (hl : l.length ≤ 1000000) (hf : l.length < fuel) : F14 fuel l l = some true := by
  unfold F14
  have := l14 l hl fuel 0 (by omega) (by omega)
  rw [Int.natCast_zero] at this
  rw [oif_neg (by simp), this]
  rfl
theorem l15 (l : List (Int × Int)) (hl : l.length ≤ 1000000) : ∀ (f k : Nat), k ≤ l.length → l.length - k < f → L15_0 l l f (k : Int) = some (.inr ())
  | 0, k, _, h => by omega
  | f + 1, k, hk, h => by
    unfold L15_0
    by_cases hlt : k < l.length
    · rw [oif_pos (by simpa using hlt), sg_ge hlt, obind_some, obind_some, oif_neg (by simp), wrap_succ (by omega)]
      exact l15 l hl f (k + 1) (by omega) (by omega)
    · rw [oif_neg (by simpa using hlt)]
theorem f15 (fuel : Nat) (l : List (Int × Int)) (hl : l.length ≤ 1000000) (hf : l.length < fuel) : F15 fuel l l = some true := by
  unfold F15
  have := l15 l hl fuel 0 (by omega) (by omega)
  rw [Int.natCast_zero] at this
  rw [oif_neg (by simp), this]
  rfl
theorem chk0 {l : List (Int × Int)} (h : chk l = 0) : 1 ≤ l.length ∧ l.length ≤ 5 ∧ l.any badPin = false := by
  unfold chk at h
  split at h
  · cases h
  · rename_i h1
    split at h
    · cases h
    · rename_i h2
      exact ⟨by omega, by omega, by simpa using h2⟩
theorem pin_ok {l : List (Int × Int)} (h : l.any badPin = false) {x : Int × Int} (hx : x ∈ l) : 1 ≤ x.1 ∧ x.1 ≤ 200 ∧ 0 ≤ x.2 ∧ x.2 < x.1 := by
  rw [List.any_eq_false] at h
  have := h x hx
  simp only [badPin, Bool.or_eq_true, decide_eq_true_eq] at this
  omega
def gcdI (a b : Int) : Int := ((Int.gcd a b : Nat) : Int)
theorem gcdI_zero {a : Int} (h : 0 ≤ a) : gcdI a 0 = a := by unfold gcdI; rw [Int.gcd_zero_right]; omega
theorem gcdI_step {a b : Int} (ha : 0 ≤ a) (hb : 0 < b) : gcdI b (Int.tmod a b) = gcdI a b := by
  unfold gcdI
  congr 1
  obtain ⟨x, rfl⟩ := Int.eq_ofNat_of_zero_le ha
  obtain ⟨y, rfl⟩ := Int.eq_ofNat_of_zero_le (Int.le_of_lt hb)
  rw [show Int.tmod (x : Int) (y : Int) = ((x % y : Nat) : Int) from rfl]
  simp only [Int.gcd, Int.natAbs_natCast]
  rw [Nat.gcd_comm y, ← Nat.gcd_rec, Nat.gcd_comm]
theorem tmod_nn {a b : Int} (ha : 0 ≤ a) (hb : 0 < b) : 0 ≤ Int.tmod a b ∧ Int.tmod a b < b := by
  rw [Int.tmod_eq_emod_of_nonneg ha]
  exact ⟨Int.emod_nonneg _ (by omega), Int.emod_lt_of_pos _ hb⟩
theorem f61 : ∀ (fuel : Nat) (a b : Int), 0 ≤ a → 0 ≤ b → b < fuel → F61 fuel a b = some (gcdI a b)
  | 0, a, b, _, hb, h => by omega
  | f + 1, a, b, ha, hb, h => by
    unfold F61
    by_cases h0 : b = 0
    · subst h0; rw [oif_pos (by simp), gcdI_zero ha]
    · obtain ⟨m1, m2⟩ := tmod_nn ha (show 0 < b by omega)
      rw [oif_neg (by simpa using h0), oif_pos (by simpa using h0), f61 f b (Int.tmod a b) hb m1 (by omega), obind_some, gcdI_step ha (by omega)]
theorem gcdI_pos {a b : Int} (hb : 0 < b) : 0 < gcdI a b := by
  unfold gcdI
  have : 0 < Int.gcd a b := Int.gcd_pos_of_ne_zero_right _ (by omega)
  omega
section
variable {K V : Type} [BEq K] [LawfulBEq K]
theorem mhas_keys (L : List (K × V)) (k : K) : mhas L k = true ↔ k ∈ L.map (·.1) := by
  unfold mhas
  rw [List.any_eq_true, List.mem_map]
  constructor
  · rintro ⟨x, h1, h2⟩; exact ⟨x, h1, (eq_of_beq h2).symm⟩
  · rintro ⟨x, h1, h2⟩; exact ⟨x, h1, by rw [h2]; exact beq_self_eq_true k⟩
theorem midx_lt {L : List (K × V)} {k : K} (h : mhas L k = true) : midx L k < L.length := by
  unfold midx
  rw [List.findIdx_lt_length]
  unfold mhas at h
  rw [List.any_eq_true] at h
  exact h
theorem mdel_filter : ∀ (L : List (K × V)) (k : K), (L.map (·.1)).Nodup → mdel L k = L.filter fun p => !(k == p.1)
  | [], _, _ => rfl
  | x :: L, k, h => by
    simp only [List.map_cons, List.nodup_cons] at h
    rw [mdel_cons, List.filter_cons]
    by_cases hk : k == x.1
    · rw [if_pos hk, if_neg (by simp [hk])]
      have : k = x.1 := eq_of_beq hk
      symm
      rw [List.filter_eq_self]
      intro p hp
      have hne : ¬ k = p.1 := fun e => h.1 (by rw [← this, e]; exact List.mem_map.2 ⟨p, hp, rfl⟩)
      simpa using hne
    · rw [if_neg hk, if_pos (by simpa using hk), mdel_filter L k h.2]
theorem filter_nodup {L : List (K × V)} (p : K × V → Bool) (h : (L.map (·.1)).Nodup) : ((L.filter p).map (·.1)).Nodup :=
  List.Sublist.nodup (List.Sublist.map _ (List.filter_sublist)) h
theorem mfold_runV {body : K → V → List (K × V) → Option (List (K × V) ⊕ List (K × V))} (t : K → Bool) (good : K → V → Prop)
    (hb : ∀ k v s, good k v → body k v s = some (.inl (if t k then mdel s k else s))) : ∀ (q s : List (K × V)), (s.map (·.1)).Nodup → (∀ p ∈ q, good p.1 p.2) →
    mfold body (fun s => some s) q s = some (s.filter fun p => !(q.any fun e => t e.1 && (e.1 == p.1)))
  | [], s, _, _ => by
    unfold mfold
    congr 1
    symm
    rw [List.filter_eq_self]
    intro p _
    rfl
  | (k, v) :: q, s, hn, hq => by
    unfold mfold
    have hgq : ∀ p ∈ q, good p.1 p.2 := fun p hp => hq p (List.mem_cons_of_mem _ hp)
    rw [hb k v s (hq (k, v) (List.mem_cons_self ..)), obind_some]
    simp only []
    by_cases ht : t k = true
    · rw [if_pos ht, mdel_filter s k hn, mfold_runV t good hb q _ (filter_nodup _ hn) hgq, List.filter_filter]
      congr 2
      funext p
      rw [List.any_cons]
      simp only [ht, Bool.true_and, Bool.not_or]
      rw [Bool.and_comm]
    · rw [if_neg ht, mfold_runV t good hb q s hn hgq]
      congr 2
      funext p
      rw [List.any_cons]
      simp [ht]
theorem mfold_selfV {body : K → V → List (K × V) → Option (List (K × V) ⊕ List (K × V))} (t : K → Bool) (good : K → V → Prop)
    (hb : ∀ k v s, good k v → body k v s = some (.inl (if t k then mdel s k else s))) (s : List (K × V)) (hn : (s.map (·.1)).Nodup) (hs : ∀ p ∈ s, good p.1 p.2) :
    mfold body (fun s => some s) s s = some (s.filter fun p => !(t p.1)) := by
  rw [mfold_runV t good hb s s hn hs]
  congr 1
  apply List.filter_congr
  intro p hp
  congr 1
  rw [Bool.eq_iff_iff, List.any_eq_true]
  constructor
  · rintro ⟨e, h1, h2⟩
    simp only [Bool.and_eq_true] at h2
    rw [← eq_of_beq h2.2]; exact h2.1
  · intro h
    exact ⟨p, hp, by rw [h, beq_self_eq_true]; rfl⟩
end
def pinAt (l : List (Int × Int)) (i : Nat) : Int × Int := l.getD i (1, 0)
theorem pinAt_get {l : List (Int × Int)} {i : Nat} (h : i < l.length) : pinAt l i = l[i] := by simp [pinAt, h]
def gij (l : List (Int × Int)) (i k : Nat) : Int := gcdI (pinAt l i).1 (pinAt l k).1
def row (l : List (Int × Int)) (k m : Nat) : List ((Int × Int) × Int) := (List.range m).map fun (i : Nat) => (((i : Int), (k : Int)), gij l i k)
def prs (l : List (Int × Int)) (m : Nat) : List ((Int × Int) × Int) := (List.range m).flatMap fun k => row l k k
theorem row_snoc (l : List (Int × Int)) (k m : Nat) : row l k (m + 1) = row l k m ++ [(((m : Int), (k : Int)), gij l m k)] := by unfold row; rw [List.range_succ, List.map_append]; rfl
theorem prs_snoc (l : List (Int × Int)) (m : Nat) : prs l (m + 1) = prs l m ++ row l m m := by unfold prs; rw [List.range_succ, List.flatMap_append]; simp
theorem row_key {l : List (Int × Int)} {k m : Nat} {x : Int × Int} (h : x ∈ (row l k m).map (·.1)) : ∃ i : Nat, i < m ∧ x = ((i : Int), (k : Int)) := by
  unfold row at h
  simp only [List.map_map, List.mem_map, List.mem_range, Function.comp] at h
  obtain ⟨i, h1, rfl⟩ := h
  exact ⟨i, h1, rfl⟩
theorem prs_key {l : List (Int × Int)} {m : Nat} {x : Int × Int} (h : x ∈ (prs l m).map (·.1)) : ∃ i k : Nat, i < k ∧ k < m ∧ x = ((i : Int), (k : Int)) := by
  unfold prs at h
  simp only [List.mem_map, List.mem_flatMap, List.mem_range] at h
  obtain ⟨y, ⟨k, hk, hy⟩, rfl⟩ := h
  obtain ⟨i, h1, h2⟩ := row_key (List.mem_map.2 ⟨y, hy, rfl⟩)
  exact ⟨i, k, h1, hk, h2⟩
theorem prs_mem {l : List (Int × Int)} {m : Nat} {x : (Int × Int) × Int} : x ∈ prs l m ↔ ∃ i k : Nat, i < k ∧ k < m ∧ x = (((i : Int), (k : Int)), gij l i k) := by
  unfold prs row
  simp only [List.mem_flatMap, List.mem_range, List.mem_map]
  constructor
  · rintro ⟨k, hk, i, hi, rfl⟩; exact ⟨i, k, hi, hk, rfl⟩
  · rintro ⟨i, k, hi, hk, rfl⟩; exact ⟨k, hk, i, hi, rfl⟩
theorem row_nodup (l : List (Int × Int)) (k m : Nat) : ((row l k m).map (·.1)).Nodup := by
  induction m with
  | zero => simp [row]
  | succ m ih =>
    rw [row_snoc, List.map_append, List.nodup_append]
    refine ⟨ih, by simp, fun a ha b hb hab => ?_⟩
    subst hab
    obtain ⟨i, h1, h2⟩ := row_key ha
    simp at hb
    rw [hb] at h2
    have := congrArg Prod.fst h2
    simp only at this
    omega
theorem prs_nodup (l : List (Int × Int)) (m : Nat) : ((prs l m).map (·.1)).Nodup := by
  induction m with
  | zero => simp [prs]
  | succ m ih =>
    rw [prs_snoc, List.map_append, List.nodup_append]
    refine ⟨ih, row_nodup _ _ _, fun a ha b hb hab => ?_⟩
    subst hab
    obtain ⟨i, k, h1, h2, h3⟩ := prs_key ha
    obtain ⟨i', h4, h5⟩ := row_key hb
    rw [h3] at h5
    have := congrArg Prod.snd h5
    simp only at this
    omega
theorem l58_2 (l : List (Int × Int)) (hv : l.any badPin = false) (h5 : l.length ≤ 5) (v20 : Int) (k : Nat) (hk : k < l.length) (w2_1 : Int) : ∀ (f i : Nat), i ≤ k → k - i + 300 < f →
    L58_2 (k : Int) l v20 (k : Int) (l.take k) ((l.take k).length : Int) l (l[k]).1 w2_1 f (i : Int) (prs l k ++ row l k i) = some (prs l (k + 1))
  | 0, i, _, h => by omega
  | f + 1, i, hi, h => by
    unfold L58_2
    have hlen : (l.take k).length = k := by rw [List.length_take]; omega
    rw [hlen]
    by_cases hlt : i < k
    · have ih := l58_2 l hv h5 v20 k hk w2_1 f (i + 1) (by omega) (by omega)
      rw [hlen] at ih
      obtain ⟨a1, a2, a3, a4⟩ := pin_ok hv (List.getElem_mem (show i < l.length by omega))
      obtain ⟨b1, b2, b3, b4⟩ := pin_ok hv (List.getElem_mem hk)
      have hno : mhas (prs l k ++ row l k i) ((i : Int), (k : Int)) = false := by
        cases hh : mhas (prs l k ++ row l k i) ((i : Int), (k : Int)) with
        | false => rfl
        | true =>
          rw [mhas_keys, List.map_append, List.mem_append] at hh
          rcases hh with hh | hh
          · obtain ⟨i', k', h1, h2, h3⟩ := prs_key hh
            have := congrArg Prod.snd h3; simp only at this; omega
          · obtain ⟨i', h1, h2⟩ := row_key hh
            have := congrArg Prod.fst h2; simp only at this; omega
      rw [oif_pos (by simpa using hlt), sg_ge (by omega), obind_some, List.getElem_take, f61 f _ _ (by omega) (by omega) (by omega), obind_some, oif_neg hno, wrap_succ (by omega), List.append_assoc]
      have : row l k i ++ [(((i : Int), (k : Int)), gcdI (l[i]'(by omega)).1 (l[k]).1)] = row l k (i + 1) := by
        rw [row_snoc]; unfold gij; rw [pinAt_get (by omega), pinAt_get hk]
      rw [this]; exact ih
    · rw [oif_neg (by simpa using hlt), show i = k from by omega, prs_snoc]
theorem l58_0 (l : List (Int × Int)) (hv : l.any badPin = false) (h5 : l.length ≤ 5) : ∀ (f k : Nat), k ≤ l.length → l.length - k + 400 < f →
    L58_0 l (l.length : Int) l f (k : Int) (prs l k) = some (prs l l.length)
  | 0, k, _, h => by omega
  | f + 1, k, hk, h => by
    unfold L58_0
    by_cases hlt : k < l.length
    · have e : subL l none (some (k : Int)) = some (l.take k) := by
        unfold subL
        rw [if_pos (And.intro (fun v h => by cases h) (fun v h => by cases h; omega))]
        simp [natO]
      have := l58_2 l hv h5 (l.length : Int) k hlt l[k].2 f 0 (by omega) (by omega)
      rw [show row l k 0 = [] from rfl, List.append_nil, Int.natCast_zero] at this
      rw [oif_pos (by simpa using hlt), sg_ge hlt, obind_some, e, obind_some, this, obind_some, wrap_succ (by omega)]
      exact l58_0 l hv h5 f (k + 1) (by omega) (by omega)
    · rw [oif_neg (by simpa using hlt), show k = l.length from by omega]
def clashB (l : List (Int × Int)) (i k : Nat) : Bool := Int.tmod ((pinAt l i).2 - (pinAt l k).2) (gij l i k) != 0
def cls (l : List (Int × Int)) : List ((Int × Int) × Int) := (prs l l.length).filter fun p => clashB l p.1.1.toNat p.1.2.toNat
theorem f58 (fuel : Nat) (l : List (Int × Int)) (hc : chk l = 0) (hf : 500 ≤ fuel) : F58 fuel l = some (cls l) := by
  obtain ⟨h1, h5, hv⟩ := chk0 hc
  unfold F58
  have e0 := l58_0 l hv h5 fuel 0 (by omega) (by omega)
  rw [show prs l 0 = [] from rfl, Int.natCast_zero] at e0
  rw [e0, obind_some, oif_pos (by rw [decide_eq_true_eq]; exact prs_nodup l l.length)]
  have hz : Z58_3 fuel l = fun s => some s := by funext s; rfl
  have := mfold_selfV (body := B58_3 fuel l) (fun k => !(clashB l k.1.toNat k.2.toNat)) (fun k v => ∃ i k' : Nat, i < k' ∧ k' < l.length ∧ k = ((i : Int), (k' : Int)) ∧ v = gij l i k') (fun k v s hk => ?_) (prs l l.length) (prs_nodup l l.length) (fun p hp => by
      obtain ⟨i, k, h1, h2, rfl⟩ := prs_mem.1 hp
      exact ⟨i, k, h1, h2, rfl, rfl⟩)
  · rw [hz, this, obind_some]
    unfold cls
    simp only [Bool.not_not]
  · obtain ⟨i, k', hi, hk', rfl, rfl⟩ := hk
    unfold B58_3
    obtain ⟨a1, a2, a3, a4⟩ := pin_ok hv (List.getElem_mem (show i < l.length by omega))
    obtain ⟨b1, b2, b3, b4⟩ := pin_ok hv (List.getElem_mem hk')
    have hg : 0 < gij l i k' := gcdI_pos (by rw [pinAt_get hk']; omega)
    simp only [sg_ge (show i < l.length by omega), sg_ge hk', obind_some]
    rw [oif_pos (by rw [decide_eq_true_eq]; omega), wrap_id (by omega) (by omega)]
    have hcl : clashB l i k' = (Int.tmod ((l[i]'(by omega)).2 - l[k'].2) (gij l i k') != 0) := by
      unfold clashB; rw [pinAt_get (show i < l.length by omega), pinAt_get hk']
    simp only [Int.toNat_natCast, hcl]
    by_cases hz : Int.tmod ((l[i]'(by omega)).2 - l[k'].2) (gij l i k') = 0
    · have e1 : (Int.tmod ((l[i]'(by omega)).2 - l[k'].2) (gij l i k') != 0) = false := by simpa using hz
      rw [oif_pos (by simpa using hz)]
      simp only [e1, Bool.not_false, if_true]
      rw [oif_ite]
      split
      · rfl
      · rename_i hm
        rw [mdel_not s _ (by simpa using hm)]
    · have e1 : (Int.tmod ((l[i]'(by omega)).2 - l[k'].2) (gij l i k') != 0) = true := by simpa using hz
      rw [oif_neg (by simpa using hz)]
      simp only [e1, Bool.not_true, Bool.false_eq_true, if_false]
theorem f38 (fuel : Nat) (l : List (Int × Int)) (ts : List Int) (hl : l.length ≤ 9) (ht : ts.length ≤ 5) (hf : 600 ≤ fuel) :
    F38 fuel l ts = some (if chk l ≠ 0 then .inl (chk l) else if outR 0 1000000000000 ts then .inl 3 else .inr (cls l)) := by
  unfold F38
  rw [f12 fuel l hl (by omega), obind_some, oif_ite]
  by_cases h : chk l = 0
  · rw [if_neg (by simp [h]), if_neg (by simp [h]), f43 _ _ _ _ (by omega) (by omega), obind_some, f58 fuel l h (by omega)]
    cases outR 0 1000000000000 ts <;> rfl
  · rw [if_pos (by simpa using h), if_pos h]
end Go.Idl.N
set_option linter.unusedSimpArgs false
set_option linter.unusedVariables false
namespace Go.Idl.N
open Go Go.Idl
def idx (p : Nat → Bool) : Nat → Nat → List Int
  | _, 0 => []
  | k, m + 1 => if p k then (k : Int) :: idx p (k + 1) m else idx p (k + 1) m
theorem idx_len (p : Nat → Bool) : ∀ k m, (idx p k m).length ≤ m
  | _, 0 => Nat.le_refl _
  | k, m + 1 => by
    unfold idx
    have := idx_len p (k + 1) m
    split
    · rw [List.length_cons]; omega
    · omega
def soundB (l : List (Int × Int)) (t : Int) (i : Nat) : Bool := Int.tmod t (pinAt l i).1 == (pinAt l i).2
theorem sound_eq {P O t : Int} (hP : 1 ≤ P) (hO : 0 ≤ O) (hO2 : O < P) (ht : 0 ≤ t) : (Int.tmod (t - O) P == 0) = (Int.tmod t P == O) := by
  rw [Bool.eq_iff_iff, beq_iff_eq, beq_iff_eq, Int.tmod_eq_emod_of_nonneg ht]
  constructor
  · intro h
    have hd := Int.dvd_of_tmod_eq_zero h
    have := Int.emod_emod_of_dvd t (Int.dvd_refl P)
    have h2 : (t - O) % P = 0 := Int.emod_eq_zero_of_dvd hd
    have h3 : t % P = O % P := Int.emod_eq_emod_iff_emod_sub_eq_zero.2 h2
    rw [h3, Int.emod_eq_of_lt hO hO2]
  · intro h
    have h3 : t % P = O % P := by rw [h, Int.emod_eq_of_lt hO hO2]
    exact Int.tmod_eq_zero_of_dvd (Int.dvd_of_emod_eq_zero (Int.emod_eq_emod_iff_emod_sub_eq_zero.1 h3))
def mks (l : List (Int × Int)) (t : Int) (k : Nat) : List Int := (List.range 5).map fun j => if decide (j < k) && soundB l t j then 1 else 0
theorem mks_len (l : List (Int × Int)) (t : Int) (k : Nat) : (mks l t k).length = 5 := by simp [mks]
theorem mks_get (l : List (Int × Int)) (t : Int) (k j : Nat) (h : j < (mks l t k).length) : (mks l t k)[j] = if decide (j < k) && soundB l t j then 1 else 0 := by simp [mks]
theorem mks_zero (l : List (Int × Int)) (t : Int) : mks l t 0 = List.replicate 5 0 := by simp [mks]; rfl
theorem mks_succ (l : List (Int × Int)) (t : Int) (k : Nat) (hs : soundB l t k = false) : mks l t (k + 1) = mks l t k := by
  unfold mks
  apply List.map_congr_left
  intro j hj
  by_cases h : j = k
  · subst h; simp [hs]
  · by_cases h2 : j < k
    · have : j < k + 1 := by omega
      simp [h2, this]
    · have : ¬ j < k + 1 := by omega
      simp [h2, this]
theorem mks_set (l : List (Int × Int)) (t : Int) (k : Nat) (hs : soundB l t k = true) : (mks l t k).set k 1 = mks l t (k + 1) := by
  apply List.ext_getElem
  · simp [mks]
  · intro j h1 h2
    rw [List.getElem_set, mks_get]
    by_cases h : k = j
    · subst h; simp [hs, mks]
    · rw [if_neg h]
      simp only [mks_get]
      by_cases h3 : j < k
      · have : j < k + 1 := by omega
        simp [h3, this]
      · have : ¬ j < k + 1 := by omega
        simp [h3, this]
theorem l39 (l : List (Int × Int)) (hv : l.any badPin = false) (h5 : l.length ≤ 5) (t : Int) (ht : 0 ≤ t) (ht2 : t ≤ 2000000000000) (w0 : List Int) : ∀ (f k : Nat), k ≤ l.length → l.length - k < f →
    L39_0 t l (l.length : Int) w0 f (k : Int) (mks l t k) = some (mks l t l.length)
  | 0, k, _, h => by omega
  | f + 1, k, hk, h => by
    unfold L39_0
    by_cases hlt : k < l.length
    · obtain ⟨a1, a2, a3, a4⟩ := pin_ok hv (List.getElem_mem hlt)
      rw [oif_pos (by simpa using hlt), sg_ge hlt, obind_some, oif_pos (by rw [decide_eq_true_eq]; omega), wrap_id (n := t - l[k].2) (by omega) (by omega), sound_eq a1 a3 a4 ht, wrap_succ (by omega)]
      have hsb : soundB l t k = (Int.tmod t l[k].1 == l[k].2) := by unfold soundB; rw [pinAt_get hlt]
      cases hs : soundB l t k with
      | true =>
        rw [oif_pos (hsb ▸ hs), oif_pos (by simp), oif_pos (by rw [decide_eq_true_eq]; omega), sg_ge (by rw [mks_len]; omega), obind_some, mks_get]
        simp only [Nat.lt_irrefl, decide_false, Bool.false_and, Bool.false_eq_true, if_false]
        rw [show IntKind.wrap .i64 ((0 : Int) + 1) = 1 from rfl, stL_nat (by rw [mks_len]; omega), obind_some, mks_set l t k hs]
        exact l39 l hv h5 t ht ht2 w0 f (k + 1) (by omega) (by omega)
      | false =>
        rw [oif_neg (hsb ▸ hs), ← mks_succ l t k hs]
        exact l39 l hv h5 t ht ht2 w0 f (k + 1) (by omega) (by omega)
    · rw [oif_neg (by simpa using hlt), show k = l.length from by omega]
theorem f39 (fuel : Nat) (l : List (Int × Int)) (t : Int) (hc : chk l = 0) (ht : 0 ≤ t) (ht2 : t ≤ 2000000000000) (hf : 60 ≤ fuel) : F39 fuel l t = some (mks l t l.length) := by
  obtain ⟨h1, h5, hv⟩ := chk0 hc
  unfold F39
  have := l39 l hv h5 t ht ht2 (List.replicate 5 0) fuel 0 (by omega) (by omega)
  rw [Int.natCast_zero, mks_zero] at this
  rw [this, obind_some, oif_pos (by rw [decide_eq_true_eq]; exact mks_len _ _ _), oif_pos (by simp)]
theorem l10_2 (l : List (Int × Int)) (t : Int) (h5 : l.length ≤ 5) : ∀ (f k : Nat) (w : List Int), k ≤ l.length → l.length - k < f → w.length ≤ k →
    L10_2 (l.length : Int) (mks l t l.length) f (k : Int) w = some (w ++ idx (soundB l t) k (l.length - k))
  | 0, k, _, _, h, _ => by omega
  | f + 1, k, w, hk, h, hw => by
    unfold L10_2
    by_cases hlt : k < l.length
    · rw [oif_pos (by simpa using hlt), oif_pos (by simp), oif_pos (by rw [decide_eq_true_eq]; omega), sg_ge (by rw [mks_len]; omega), obind_some, mks_get, wrap_succ (by omega), show l.length - k = (l.length - (k + 1)) + 1 from by omega]
      unfold idx
      cases hn : soundB l t k with
      | true =>
        simp only [hlt, decide_true, Bool.true_and, if_true]
        rw [oif_pos (by decide), oif_pos (by simp), oif_pos (by simp), oif_pos (by rw [decide_eq_true_eq]; omega), l10_2 l t h5 f (k + 1) _ (by omega) (by omega) (by simp; omega), List.append_assoc]; rfl
      | false =>
        simp only [Bool.and_false, Bool.false_eq_true, if_false]
        rw [oif_neg (by decide), l10_2 l t h5 f (k + 1) _ (by omega) (by omega) (by omega)]
    · rw [oif_neg (by simpa using hlt), show l.length - k = 0 from by omega]
      simp [idx]
theorem l10_0 (l : List (Int × Int)) (t : Int) (h5 : l.length ≤ 5) : ∀ (f k : Nat), k ≤ l.length → l.length - k < f →
    L10_0 (l.length : Int) (mks l t l.length) f (k : Int) = some (idx (soundB l t) k (l.length - k))
  | 0, k, _, h => by omega
  | f + 1, k, hk, h => by
    unfold L10_0
    by_cases hlt : k < l.length
    · rw [oif_pos (by simpa using hlt), oif_pos (by simp), oif_pos (by rw [decide_eq_true_eq]; omega), sg_ge (by rw [mks_len]; omega), obind_some, mks_get, wrap_succ (by omega), show l.length - k = (l.length - (k + 1)) + 1 from by omega]
      unfold idx
      cases hn : soundB l t k with
      | true =>
        simp only [hlt, decide_true, Bool.true_and, if_true]
        rw [oif_pos (by decide)]
        have ih := l10_2 l t h5 f (k + 1) [(k : Int)] (by omega) (by omega) (by simp)
        rw [show decide (1 * 8 ≤ 140737488355328) = true from rfl, oif_t, ih, obind_some]; rfl
      | false =>
        simp only [Bool.and_false, Bool.false_eq_true, if_false]
        rw [oif_neg (by decide), l10_0 l t h5 f (k + 1) (by omega) (by omega)]
    · rw [oif_neg (by simpa using hlt), show l.length - k = 0 from by omega]
      rfl
def snd (l : List (Int × Int)) (t : Int) : List Int × Int := if chk l ≠ 0 then ([], chk l) else if isT t then (idx (soundB l t) 0 l.length, 0) else ([], 3)
theorem isT_b {t : Int} (h : isT t = true) : 0 ≤ t ∧ t ≤ 1000000000000 := by
  unfold isT at h
  simp only [Bool.and_eq_true, decide_eq_true_eq] at h
  omega
theorem f10 (fuel : Nat) (l : List (Int × Int)) (t : Int) (hl : l.length ≤ 9) (hf : 700 ≤ fuel) : F10 fuel l t = some (snd l t) := by
  unfold F10 snd
  rw [f38 fuel l [t] hl (by simp) (by omega), obind_some, isT_out]
  by_cases h : chk l = 0
  · obtain ⟨h1, h5, hv⟩ := chk0 h
    cases ht : isT t with
    | true =>
      obtain ⟨t1, t2⟩ := isT_b ht
      have := l10_0 l t h5 fuel 0 (by omega) (by omega)
      rw [Int.natCast_zero, Nat.sub_zero] at this
      simp only [h, ne_eq, not_true_eq_false, Bool.not_true, Bool.false_eq_true, if_false, if_true]
      rw [f39 fuel l t h t1 (by omega) (by omega), obind_some, oif_pos (by simp), oif_pos (by rw [decide_eq_true_eq]; exact mks_len _ _ _), this, obind_some]
    | false => simp only [h, ne_eq, not_true_eq_false, Bool.not_false, Bool.false_eq_true, if_false, if_true]; rfl
  · rw [if_pos h, if_pos h]
    simp only []
    rw [oif_pos (by simpa using h)]
theorem l41_2 (l : List (Int × Int)) (hv : l.any badPin = false) (t : Int) (h5 : l.length ≤ 5) : ∀ (f k : Nat) (w : List Int), k ≤ l.length → l.length - k < f → w.length ≤ k →
    L41_2 l t f (k : Int) w = some (w ++ idx (soundB l t) k (l.length - k))
  | 0, k, _, _, h, _ => by omega
  | f + 1, k, w, hk, h, hw => by
    unfold L41_2
    by_cases hlt : k < l.length
    · obtain ⟨a1, a2, a3, a4⟩ := pin_ok hv (List.getElem_mem hlt)
      have hsb : soundB l t k = (Int.tmod t l[k].1 == l[k].2) := by unfold soundB; rw [pinAt_get hlt]
      rw [oif_pos (by simpa using hlt), sg_ge hlt, obind_some, oif_pos (by rw [decide_eq_true_eq]; omega), wrap_succ (by omega), show l.length - k = (l.length - (k + 1)) + 1 from by omega, ← hsb]
      unfold idx
      cases hn : soundB l t k with
      | true =>
        rw [oif_t, if_pos rfl, oif_pos (by rw [decide_eq_true_eq]; omega), l41_2 l hv t h5 f (k + 1) _ (by omega) (by omega) (by simp; omega), List.append_assoc]; rfl
      | false =>
        rw [oif_f, if_neg (by simp), l41_2 l hv t h5 f (k + 1) _ (by omega) (by omega) (by omega)]
    · rw [oif_neg (by simpa using hlt), show l.length - k = 0 from by omega]
      simp [idx]
theorem l41_0 (l : List (Int × Int)) (hv : l.any badPin = false) (t : Int) (h5 : l.length ≤ 5) : ∀ (f k : Nat), k ≤ l.length → l.length - k < f →
    L41_0 l t f (k : Int) = some (idx (soundB l t) k (l.length - k))
  | 0, k, _, h => by omega
  | f + 1, k, hk, h => by
    unfold L41_0
    by_cases hlt : k < l.length
    · obtain ⟨a1, a2, a3, a4⟩ := pin_ok hv (List.getElem_mem hlt)
      have hsb : soundB l t k = (Int.tmod t l[k].1 == l[k].2) := by unfold soundB; rw [pinAt_get hlt]
      rw [oif_pos (by simpa using hlt), sg_ge hlt, obind_some, oif_pos (by rw [decide_eq_true_eq]; omega), wrap_succ (by omega), show l.length - k = (l.length - (k + 1)) + 1 from by omega, ← hsb]
      unfold idx
      cases hn : soundB l t k with
      | true =>
        have ih := l41_2 l hv t h5 f (k + 1) [(k : Int)] (by omega) (by omega) (by simp)
        rw [oif_t, if_pos rfl, show decide (1 * 8 ≤ 140737488355328) = true from rfl, oif_t, ih, obind_some]; rfl
      | false =>
        rw [oif_f, if_neg (by simp), l41_0 l hv t h5 f (k + 1) (by omega) (by omega)]
    · rw [oif_neg (by simpa using hlt), show l.length - k = 0 from by omega]
      rfl
theorem f41 (fuel : Nat) (l : List (Int × Int)) (t : Int) (hc : chk l = 0) (hf : 60 ≤ fuel) : F41 fuel l t = some (idx (soundB l t) 0 l.length) := by
  obtain ⟨h1, h5, hv⟩ := chk0 hc
  unfold F41
  have := l41_0 l hv t h5 fuel 0 (by omega) (by omega)
  rw [Int.natCast_zero, Nat.sub_zero] at this
  rw [this, obind_some]
theorem f11 (fuel : Nat) (l : List (Int × Int)) (t : Int) (hl : l.length ≤ 9) (hf : 700 ≤ fuel) : F11 fuel l t = some (snd l t) := by
  unfold F11 snd
  rw [f13 fuel l hl (by omega), obind_some, oif_ite]
  by_cases h : chk l = 0
  · rw [if_neg (by simp [h]), if_neg (by simp [h]), f40, obind_some, f41 fuel l t h (by omega)]
    cases isT t <;> rfl
  · rw [if_pos (by simpa using h), if_pos h]
theorem snd_len (l : List (Int × Int)) (t : Int) : (snd l t).1.length ≤ 5 := by
  unfold snd
  split
  · simp
  · rename_i h
    have := chk0 (Decidable.not_not.1 h)
    split
    · have := idx_len (soundB l t) 0 l.length; show (idx (soundB l t) 0 l.length).length ≤ 5; omega
    · simp
theorem law3 (l : List (Int × Int)) (t : Int) : F3 1000 l t = some true := by
  unfold F3
  rw [f8, obind_some]
  by_cases h : l.length > 9
  · rw [oif_pos (by simpa using h), f9k]; rfl
  · rw [oif_neg (by simpa using h)]
    have hl : l.length ≤ 9 := by omega
    have hs := snd_len l t
    have k1 := f10 1000 l t hl (by omega)
    have k2 := f11 1000 l t hl (by omega)
    have k3 := f12 1000 l hl (by omega)
    have k4 := f13 1000 l hl (by omega)
    have k5 := f14 1000 (snd l t).1 (by omega) (by omega)
    have k6 := f15 1000 l (by omega) (by omega)
    have k7 := f9k
    cases l with
    | nil => simp only [List.isEmpty_nil, oif_t, k1, k2, k3, k4, k5, k6, k7, obind_some, beq_self_eq_true]
    | cons x l =>
      have hs2 : decide ((List.length (List.map e68 (x :: l))) * 16 ≤ 140737488355328) = true := by rw [decide_eq_true_eq, List.length_map]; omega
      simp only [List.isEmpty_cons, oif_f, hs2, oif_t, k1, k2, k3, k4, k5, k6, k7, obind_some, beq_self_eq_true]
end Go.Idl.N
