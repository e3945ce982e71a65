/-
  Part C of a proof: the framework: an evaluator of straight code and loops, and its soundness.
-/
import Derived.Test.YteplblnmhmdpnaaB
import Derived.OpenShut
import Derived.ChangeOld
import Derived.SizedLaws
import Derived.Handed
import Derived.JoinedOf
import Derived.Carry
import Derived.RowKit
set_option linter.unusedSimpArgs false
set_option linter.unusedVariables false
namespace Go.Idl
open Go
def SlOK (w : World) (cs : List Value) : Prop := ∀ v ∈ cs, ∀ a len cap, v = .slice (some a) len cap → a.spot = none ∧ ∃ arr t fr, w.heap[a.block]? = some (.cells arr t fr)
abbrev NoX : Nat → Prop := fun _ => False
def RdF {α : Type} (P : Program) (t : TypeId) (f : α → List PV) (ok : α → Prop) : Prop :=
  ∀ {H : Type} (enc : TypeId × Value → H) (w : World) (base : Nat) (spare : Nat → Bool) (held : Bool) (fuel : Nat) (cs : List Value) (d : DataW H) (ps : List MemPlace),
    DataW.trod enc P w base spare held fuel t cs = some (d, ps) → ∃ x, ok x ∧ ∀ (h : Hp) (X : Nat → Prop), RPL h X (f x) cs
def RdC {α : Type} (P : Program) (t : TypeId) (f : α → List PV) (ok : α → Prop) : Prop :=
  ∀ {H : Type} (enc : TypeId × Value → H) (w : World) (spare : Nat → Bool) (held : Bool) (fuel : Nat) (cs : List Value) (d : DataW H) (ps : List MemPlace),
    DataW.trod enc P w 0 spare held fuel t cs = some (d, ps) → SlOK w cs → ∃ x, ok x ∧ RPL w.heap NoX (f x) cs
section
variable {P : Program} {t e : TypeId} {α β : Type}
theorem RdF.c {f : α → List PV} {ok : α → Prop} (h : RdF P t f ok) : RdC P t f ok := fun enc w spare held fuel cs d ps hd _ => by
  obtain ⟨x, h1, h2⟩ := h enc w 0 spare held fuel cs d ps hd
  exact ⟨x, h1, h2 _ _⟩
theorem rd_int {k : IntKind} (hu : P.underlying t = some (.int k)) : RdF P t (fun n : Int => [.int k n]) (fun n => (Lit.int k n).wf = true) := by
  intro H enc w base spare held fuel cs d ps hd
  cases fuel with
  | zero => simp [DataW.trod] at hd
  | succ fuel =>
    simp only [DataW.trod, hu] at hd
    split at hd
    all_goals first
      | (rename_i heq; cases heq; done)
      | (cases hd; done)
      | skip
    rename_i k' n heq
    cases heq
    split at hd
    case isFalse => cases hd
    rename_i hh
    obtain ⟨rfl, h⟩ := hh
    exact ⟨n, h, fun _ _ => .cons _ _ _ _ (.int _ _) .nil⟩
def tparts {H : Type} (enc : TypeId × Value → H) (P : Program) (w : World) (base : Nat) (spare : Nat → Bool) (held : Bool) (fuel : Nat) (cs : List Value) (l : List (TypeId × Nat)) : Option (List (DataW H × List MemPlace)) :=
  l.mapM fun q => DataW.trod enc P w base spare held fuel q.1 ((cs.drop q.2).take (P.cellsOf q.1))
def RdPF {α : Type} (P : Program) (l : List (TypeId × Nat)) (off tot : Nat) (f : α → List PV) (ok : α → Prop) : Prop :=
  ∀ {H : Type} (enc : TypeId × Value → H) (w : World) (base : Nat) (spare : Nat → Bool) (held : Bool) (fuel : Nat) (cs : List Value) (xs : List (DataW H × List MemPlace)),
    cs.length = tot → tparts enc P w base spare held fuel cs l = some xs → ∃ x, ok x ∧ ∀ (h : Hp) (X : Nat → Prop), RPL h X (f x) (cs.drop off)
def RdPC {α : Type} (P : Program) (l : List (TypeId × Nat)) (off tot : Nat) (f : α → List PV) (ok : α → Prop) : Prop :=
  ∀ {H : Type} (enc : TypeId × Value → H) (w : World) (spare : Nat → Bool) (held : Bool) (fuel : Nat) (cs : List Value) (xs : List (DataW H × List MemPlace)),
    cs.length = tot → SlOK w cs → tparts enc P w 0 spare held fuel cs l = some xs → ∃ x, ok x ∧ RPL w.heap NoX (f x) (cs.drop off)
theorem SlOK.part {w : World} {cs : List Value} (h : SlOK w cs) (i n : Nat) : SlOK w ((cs.drop i).take n) := fun v hv => h v (List.mem_of_mem_drop (List.mem_of_mem_take hv))
theorem rp_oneF {f : α → List PV} {ok : α → Prop} {off tot : Nat} (h : RdF P t f ok) (hz : off + P.cellsOf t = tot) : RdPF P [(t, off)] off tot f ok := by
  intro H enc w base spare held fuel cs xs hl hx
  simp only [tparts, List.mapM_cons, List.mapM_nil] at hx
  cases hq : DataW.trod enc P w base spare held fuel t ((cs.drop off).take (P.cellsOf t)) with
  | none => rw [hq] at hx; simp at hx
  | some y =>
    obtain ⟨x, h1, h2⟩ := h enc w base spare held fuel _ y.1 y.2 hq
    refine ⟨x, h1, fun hh X => ?_⟩
    have := h2 hh X
    rwa [List.take_of_length_le (by simp; omega)] at this
theorem rp_oneC {f : α → List PV} {ok : α → Prop} {off tot : Nat} (h : RdC P t f ok) (hz : off + P.cellsOf t = tot) : RdPC P [(t, off)] off tot f ok := by
  intro H enc w spare held fuel cs xs hl hs hx
  simp only [tparts, List.mapM_cons, List.mapM_nil] at hx
  cases hq : DataW.trod enc P w 0 spare held fuel t ((cs.drop off).take (P.cellsOf t)) with
  | none => rw [hq] at hx; simp at hx
  | some y =>
    obtain ⟨x, h1, h2⟩ := h enc w spare held fuel _ y.1 y.2 hq (hs.part _ _)
    refine ⟨x, h1, ?_⟩
    rwa [List.take_of_length_le (by simp; omega)] at h2
theorem rp_consF {f : α → List PV} {ok : α → Prop} {g : β → List PV} {ok2 : β → Prop} {off off2 tot : Nat} {l : List (TypeId × Nat)} (h : RdF P t f ok) (hz : off + P.cellsOf t = off2) (hr : RdPF P l off2 tot g ok2) :
    RdPF P ((t, off) :: l) off tot (fun p : α × β => f p.1 ++ g p.2) (fun p => ok p.1 ∧ ok2 p.2) := by
  intro H enc w base spare held fuel cs xs hl hx
  simp only [tparts, List.mapM_cons] at hx
  cases hq : DataW.trod enc P w base spare held fuel t ((cs.drop off).take (P.cellsOf t)) with
  | none => rw [hq] at hx; simp at hx
  | some y =>
    rw [hq] at hx
    simp only [Option.pure_def, Option.bind_eq_bind, Option.bind_some] at hx
    cases hr2 : l.mapM fun q => DataW.trod enc P w base spare held fuel q.1 ((cs.drop q.2).take (P.cellsOf q.1)) with
    | none => rw [hr2] at hx; simp at hx
    | some ys =>
      obtain ⟨x, h1, h2⟩ := h enc w base spare held fuel _ y.1 y.2 hq
      obtain ⟨z, h3, h4⟩ := hr enc w base spare held fuel cs ys hl hr2
      refine ⟨(x, z), ⟨h1, h3⟩, fun hh X => ?_⟩
      have := (h2 hh X).append (h4 hh X)
      rw [← hz, ← List.drop_drop, List.take_append_drop] at this
      exact this
theorem rp_consC {f : α → List PV} {ok : α → Prop} {g : β → List PV} {ok2 : β → Prop} {off off2 tot : Nat} {l : List (TypeId × Nat)} (h : RdC P t f ok) (hz : off + P.cellsOf t = off2) (hr : RdPC P l off2 tot g ok2) :
    RdPC P ((t, off) :: l) off tot (fun p : α × β => f p.1 ++ g p.2) (fun p => ok p.1 ∧ ok2 p.2) := by
  intro H enc w spare held fuel cs xs hl hs hx
  simp only [tparts, List.mapM_cons] at hx
  cases hq : DataW.trod enc P w 0 spare held fuel t ((cs.drop off).take (P.cellsOf t)) with
  | none => rw [hq] at hx; simp at hx
  | some y =>
    rw [hq] at hx
    simp only [Option.pure_def, Option.bind_eq_bind, Option.bind_some] at hx
    cases hr2 : l.mapM fun q => DataW.trod enc P w 0 spare held fuel q.1 ((cs.drop q.2).take (P.cellsOf q.1)) with
    | none => rw [hr2] at hx; simp at hx
    | some ys =>
      obtain ⟨x, h1, h2⟩ := h enc w spare held fuel _ y.1 y.2 hq (hs.part _ _)
      obtain ⟨z, h3, h4⟩ := hr enc w spare held fuel cs ys hl hs hr2
      refine ⟨(x, z), ⟨h1, h3⟩, ?_⟩
      have := h2.append h4
      rw [← hz, ← List.drop_drop, List.take_append_drop] at this
      exact this
theorem mapM_of {γ δ ε : Type} (f : γ → δ) (g : δ → Option ε) : ∀ (l : List γ), (l.mapM fun x => g (f x)) = (l.map f).mapM g
  | [] => rfl
  | x :: l => by simp only [List.mapM_cons, List.map_cons, mapM_of f g l]
theorem rd_stC {f : α → List PV} {ok : α → Prop} {fs : Array Field} {tot : Nat} (l : List (TypeId × Nat)) (hu : P.underlying t = some (.struct fs)) (hl : fs.toList.map (fun f => (f.type, f.offset)) = l) (hz : P.cellsOf t = tot) (h : RdPC P l 0 tot f ok) : RdC P t f ok := by
  intro H enc w spare held fuel cs d ps hd hs
  cases fuel with
  | zero => simp [DataW.trod] at hd
  | succ fuel =>
    have key : cs.length = P.cellsOf t ∧ ∃ xs, (fs.toList.mapM fun f => DataW.trod enc P w 0 spare held fuel f.type ((cs.drop f.offset).take (P.cellsOf f.type))) = some xs := by
      simp only [DataW.trod, hu] at hd
      split at hd
      all_goals first
        | (rename_i heq; cases heq; done)
        | (cases hd; done)
        | skip
      all_goals try (split at hd)
      all_goals first
        | (cases hd; done)
        | skip
      rename_i hh
      refine ⟨hh, ?_⟩
      cases hx : (fs.toList.mapM fun f => DataW.trod enc P w 0 spare held fuel f.type ((cs.drop f.offset).take (P.cellsOf f.type))) with
      | none => rw [hx] at hd; cases hd
      | some xs => exact ⟨xs, rfl⟩
    obtain ⟨h1, xs, h2⟩ := key
    rw [mapM_of (fun f : Field => (f.type, f.offset)) (fun q => DataW.trod enc P w 0 spare held fuel q.1 ((cs.drop q.2).take (P.cellsOf q.1))), hl] at h2
    obtain ⟨x, g1, g2⟩ := h enc w spare held fuel cs xs (by omega) hs h2
    exact ⟨x, g1, by rwa [List.drop_zero] at g2⟩
theorem rd_arF {f : α → List PV} {ok : α → Prop} {n : Nat} {tot : Nat} (l : List (TypeId × Nat)) (hu : P.underlying t = some (.array n e)) (hl : (List.range n).map (fun i => (e, i * P.cellsOf e)) = l) (hz : P.cellsOf t = tot) (h : RdPF P l 0 tot f ok) : RdF P t f ok := by
  intro H enc w base spare held fuel cs d ps hd
  cases fuel with
  | zero => simp [DataW.trod] at hd
  | succ fuel =>
    have key : cs.length = P.cellsOf t ∧ ∃ xs, ((List.range n).mapM fun i => DataW.trod enc P w base spare held fuel e ((cs.drop (i * P.cellsOf e)).take (P.cellsOf e))) = some xs := by
      simp only [DataW.trod, hu] at hd
      split at hd
      all_goals first
        | (rename_i heq; cases heq; done)
        | (cases hd; done)
        | skip
      all_goals try (split at hd)
      all_goals first
        | (cases hd; done)
        | skip
      rename_i hh
      refine ⟨hh, ?_⟩
      cases hx : ((List.range n).mapM fun i => DataW.trod enc P w base spare held fuel e ((cs.drop (i * P.cellsOf e)).take (P.cellsOf e))) with
      | none => rw [hx] at hd; cases hd
      | some xs => exact ⟨xs, rfl⟩
    obtain ⟨h1, xs, h2⟩ := key
    rw [mapM_of (fun i : Nat => (e, i * P.cellsOf e)) (fun q => DataW.trod enc P w base spare held fuel q.1 ((cs.drop q.2).take (P.cellsOf q.1))), hl] at h2
    obtain ⟨x, g1, g2⟩ := h enc w base spare held fuel cs xs (by omega) h2
    exact ⟨x, g1, fun hh X => by have := g2 hh X; rwa [List.drop_zero] at this⟩
end
end Go.Idl
set_option linter.unusedSimpArgs false
set_option linter.unusedVariables false
namespace Go.Idl
open Go
open Go.RowKit (Below)
theorem mapM_get {γ δ : Type} (f : γ → Option δ) : ∀ (l : List γ) (ys : List δ), l.mapM f = some ys → ys.length = l.length ∧ ∀ (i : Nat) (x : γ), l[i]? = some x → ∃ y, ys[i]? = some y ∧ f x = some y
  | [], ys, h => by
    simp at h; subst h; exact ⟨rfl, fun i x hx => by simp at hx⟩
  | a :: l, ys, h => by
    rw [List.mapM_cons] at h
    cases h1 : f a with
    | none => rw [h1] at h; cases h
    | some y =>
      cases h2 : l.mapM f with
      | none => rw [h1, h2] at h; cases h
      | some zs =>
        rw [h1, h2] at h
        cases h
        obtain ⟨g1, g2⟩ := mapM_get f l zs h2
        refine ⟨by simp [g1], fun i x hx => ?_⟩
        cases i with
        | zero => simp at hx; subst hx; exact ⟨y, rfl, h1⟩
        | succ i => simpa using g2 i x (by simpa using hx)
theorem add_pl (b off i : Nat) : (⟨b, off, none⟩ : Addr).add i = ⟨b, off + i, none⟩ := by
  unfold Addr.add
  split
  · subst i; rfl
  · rfl
theorem cells_get {w : World} {a : Addr} {arr : Array Value} {ty : TypeId} {fr : Nat × Nat} (hs : a.spot = none) (hb : w.heap[a.block]? = some (.cells arr ty fr)) {k n : Nat} {cs : List Value} (h : w.cells? 0 (a.add k) n = some cs) :
    cs.length = n ∧ ∀ (j : Nat) (v : Value), cs[j]? = some v → arr[a.off + k + j]? = some v := by
  obtain ⟨b, off, spot⟩ := a
  subst hs
  rw [add_pl] at h
  simp only [World.cells?, Nat.zero_le, if_true] at h
  obtain ⟨h1, h2⟩ := mapM_get _ _ _ h
  rw [List.length_range] at h1
  refine ⟨h1, fun j v hv => ?_⟩
  have hj : j < n := by have := (List.getElem?_eq_some_iff.1 hv).1; omega
  obtain ⟨y, e1, e2⟩ := h2 j j (by rw [List.getElem?_range hj])
  rw [hv] at e1
  cases e1
  rw [add_pl] at e2
  simp only [World.cell?, hb] at e2
  simpa using e2
theorem sl_run {α : Type} {f : α → List PV} {ok : α → Prop} {es off : Nat} {arr : Array Value} : ∀ (n start : Nat),
    (∀ i, start ≤ i → i < start + n → ∃ (x : α) (cs : List Value), ok x ∧ (∀ (h : Hp) (X : Nat → Prop), RPL h X (f x) cs) ∧ cs.length = es ∧ ∀ (j : Nat) (v : Value), cs[j]? = some v → arr[off + i * es + j]? = some v) →
    ∃ (L : List α) (vs : List Value), L.length = n ∧ (∀ x ∈ L, ok x) ∧ (∀ (h : Hp) (X : Nat → Prop), RPL h X (L.flatMap f) vs) ∧ ∀ (j : Nat) (v : Value), vs[j]? = some v → arr[off + start * es + j]? = some v
  | 0, start, _ => ⟨[], [], rfl, fun _ h => (by cases h), fun _ _ => .nil, fun j v hv => by simp at hv⟩
  | n + 1, start, h => by
    obtain ⟨L, vs, h1, h2, h3, h4⟩ := sl_run n (start + 1) (fun i hi hj => h i (by omega) (by omega))
    obtain ⟨x, cs, g1, g2, g3, g4⟩ := h start (Nat.le_refl _) (by omega)
    refine ⟨x :: L, cs ++ vs, by simp [h1], fun y hy => ?_, fun hh X => ?_, fun j v hv => ?_⟩
    · rcases List.mem_cons.1 hy with rfl | hy
      · exact g1
      · exact h2 y hy
    · rw [List.flatMap_cons]; exact (g2 hh X).append (h3 hh X)
    · by_cases hj : j < es
      · rw [List.getElem?_append_left (by omega)] at hv
        exact g4 j v hv
      · rw [List.getElem?_append_right (by omega), g3] at hv
        have := h4 _ v hv
        have e : off + (start + 1) * es + (j - es) = off + start * es + j := by rw [Nat.add_mul]; omega
        rwa [e] at this
def structL : TypeDesc → Option (List (TypeId × Nat))
  | .struct fs => some (fs.toList.map fun f => (f.type, f.offset))
  | _ => none
section
variable {P : Program} {t : TypeId} {α : Type}
theorem structL_of {l : List (TypeId × Nat)} (hu : (P.underlying t).bind structL = some l) : ∃ fs, P.underlying t = some (.struct fs) ∧ fs.toList.map (fun f => (f.type, f.offset)) = l := by
  cases h : P.underlying t with
  | none => rw [h] at hu; cases hu
  | some d =>
    rw [h] at hu
    cases d <;> simp [structL] at hu
    exact ⟨_, rfl, hu⟩
theorem rd_stC' {f : α → List PV} {ok : α → Prop} {tot : Nat} (l : List (TypeId × Nat)) (hu : (P.underlying t).bind structL = some l) (hz : P.cellsOf t = tot) (h : RdPC P l 0 tot f ok) : RdC P t f ok := by
  obtain ⟨fs, h1, h2⟩ := structL_of hu
  exact rd_stC l h1 h2 hz h
end
section
variable {P : Program} {t e : TypeId} {α β : Type}
theorem rd_sl {f : α → List PV} {g : α → PV} {ok : α → Prop} {es : Nat} (hu : P.underlying t = some (.slice e)) (hc : P.cellsOf e = es) (he : RdF P e f ok) (hg : ∀ x, (g x).cells = f x) (hl : ∀ x, (f x).length = es) :
    RdC P t (fun L : List α => [.sl (L.map g) false]) (fun L => (∀ x ∈ L, ok x) ∧ L.length ≤ maxLen) := by
  intro H enc w spare held fuel cs d ps hd hs
  cases fuel with
  | zero => simp [DataW.trod] at hd
  | succ fuel =>
    simp only [DataW.trod, hu] at hd
    split at hd
    all_goals first
      | (rename_i heq; cases heq; done)
      | (cases hd; done)
      | skip
    · exact ⟨[], ⟨fun _ h => (by cases h), Nat.zero_le _⟩, .cons _ _ _ _ (.sl0 _) .nil⟩
    · rename_i e' a len cap heq
      cases heq
      split at hd
      case isFalse => cases hd
      rename_i hh
      obtain ⟨_, hh1, hh2⟩ := hh
      obtain ⟨hsp, arr, ty, fr, hb⟩ := hs _ (by simp) a len cap rfl
      cases hm : ((List.range len).mapM fun i => (w.cells? 0 (a.add (i * P.cellsOf e)) (P.cellsOf e)).bind (DataW.trod enc P w 0 spare held fuel e)) with
      | none => rw [hm] at hd; cases hd
      | some elems =>
        obtain ⟨m1, m2⟩ := mapM_get _ _ _ hm
        obtain ⟨L, vs, h1, h2, h3, h4⟩ := sl_run (f := f) (ok := ok) (es := es) (off := a.off) (arr := arr) len 0 (fun i _ hi => by
          obtain ⟨y, _, e2⟩ := m2 i i (by rw [List.getElem?_range (by omega)])
          rw [hc] at e2
          cases hcs : w.cells? 0 (a.add (i * es)) es with
          | none => rw [hcs] at e2; cases e2
          | some cs =>
            rw [hcs] at e2
            obtain ⟨c1, c2⟩ := cells_get hsp hb hcs
            obtain ⟨x, q1, q2⟩ := he enc w 0 spare held fuel cs y.1 y.2 (by simpa using e2)
            exact ⟨x, cs, q1, q2, c1, c2⟩)
        subst h1
        refine ⟨L, ⟨h2, by omega⟩, .cons _ _ _ _ ?_ .nil⟩
        have hlm : (L.map g).length = L.length := List.length_map ..
        have := RP.sl (h := w.heap) (X := NoX) (L.map g) false a cap es vs ⟨hsp, arr, ty, fr, hb, fun i v hv => by have := h4 i v hv; simpa using this⟩ (fun h => h) (by
            rw [List.flatMap_map]; simp only [hg]; exact h3 _ _) (fun y hy => by
            obtain ⟨x, _, rfl⟩ := List.mem_map.1 hy
            rw [hg, hl]) (by omega) (fun h => by cases h)
        rwa [hlm] at this
def RdA (P : Program) (t : TypeId) (g : α → PV) (ok : α → Prop) : Prop :=
  ∀ {H : Type} (enc : TypeId × Value → H) (w : World) (spare : Nat → Bool) (held : Bool) (base : Nat) (v : Value) (d : DataW H) (ps : List MemPlace),
    DataW.Trod enc P w 0 spare held t v d ps → Value.okWide P w .any base t v → ∃ x, ok x ∧ RP w.heap NoX (g x) v
theorem slok_cell {w : World} {base : Nat} {v : Value} (h : Cell.okWide P w .any base t v) : ∀ a len cap, v = .slice (some a) len cap → a.spot = none ∧ ∃ arr t fr, w.heap[a.block]? = some (.cells arr t fr) := by
  intro a len cap hv
  subst hv
  unfold Cell.okWide at h
  split at h
  all_goals first
    | (rename_i h1 h2; cases h2; done)
    | skip
  unfold Cell.ok at h
  split at h
  all_goals first
    | (rename_i h1 h2; cases h2; done)
    | (cases h; done)
    | skip
  rename_i h2
  cases h2
  obtain ⟨_, _, _, hsp, row, cells, hsh, _⟩ := h
  refine ⟨hsp, ?_⟩
  unfold World.shape? at hsh
  split at hsh
  · rename_i arr ty fr hb
    exact ⟨arr, ty, fr, hb⟩
  · cases hsh
theorem rd_arg1 {g : α → PV} {ok : α → Prop} (hu : (match P.underlying t with | some (.struct _) | some (.array _ _) | none => false | some _ => true) = true) (h : RdC P t (fun x => [g x]) ok) : RdA P t g ok := by
  intro H enc w spare held base v d ps ⟨fuel, hd⟩ hv
  have hcell : Cell.okWide P w .any base t v := by
    unfold Value.okWide at hv
    split at hv
    · rename_i hh; rw [hh] at hu; cases hu
    · rename_i hh; rw [hh] at hu; cases hu
    · exact hv
  have hvc : v.cells = #[v] := by
    cases v
    case agg cs =>
      exfalso
      unfold Cell.okWide at hcell
      split at hcell
      all_goals first
        | (rename_i h1 h2; cases h2; done)
        | skip
      unfold Cell.ok at hcell
      split at hcell
      all_goals first
        | (rename_i h1 h2; cases h2; done)
        | (rename_i h2; cases h2; done)
        | (cases hcell; done)
        | skip
    all_goals rfl
  rw [hvc] at hd
  obtain ⟨x, h1, h2⟩ := h enc w spare held fuel _ d ps hd (fun u hu2 a len cap e => by
    simp at hu2
    subst hu2
    exact slok_cell hcell a len cap e)
  cases h2 with
  | cons _ _ _ _ h3 _ => exact ⟨x, h1, h3⟩
theorem rd_argA {g : α → List PV} {ok : α → Prop} (hu : (match P.underlying t with | some (.struct _) | some (.array _ _) => true | _ => false) = true) (h : RdC P t g ok) : RdA P t (fun x => .agg (g x)) ok := by
  intro H enc w spare held base v d ps ⟨fuel, hd⟩ hv
  have hcs : ∃ cs, v = .agg cs ∧ cs.size = P.cellsOf t ∧ Row.okWide P w .any base t cs := by
    unfold Value.okWide at hv
    split at hv
    · exact hv
    · exact hv
    · rename_i h1 h2
      split at hu
      · rename_i hh; exact absurd hh (h1 _)
      · rename_i hh; exact absurd hh (h2 _ _)
      · cases hu
  obtain ⟨cs, rfl, _, ts, _, _, hrow⟩ := hcs
  obtain ⟨x, h1, h2⟩ := h enc w spare held fuel _ d ps hd (fun u hu2 a len cap e => by
    have : u ∈ cs.toList := hu2
    obtain ⟨i, hi⟩ := List.getElem?_of_mem this
    obtain ⟨ty, _, hc⟩ := hrow i u (by simpa using hi)
    exact slok_cell hc a len cap e)
  exact ⟨x, h1, .agg _ _ h2⟩
end
end Go.Idl
set_option linter.unusedSimpArgs false
set_option linter.unusedVariables false
namespace Go.Idl
open Go
open Go.RowKit Go.ChangeShapes
section
variable {P : Program} {α : Type}
def ArgsOK (P : Program) (ts : List TypeId) (Good : List PV → Prop) : Prop :=
  ∀ {H : Type} (enc : TypeId × Value → H) (w : World) (spare : Nat → Bool) (held : Bool) (base : Nat) (vs : List Value) (ds : List (DataW H)) (q : List MemPlace),
    DataW.TrodAll enc P w 0 spare held ts vs ds q → (∀ (j : Nat) t v, ts[j]? = some t → vs[j]? = some v → Value.okWide P w .any base t v) → ∃ ps, Good ps ∧ RPL w.heap NoX ps vs
theorem args_nil : ArgsOK P [] (fun ps => ps = []) := by
  intro H enc w spare held base vs ds q h _
  obtain ⟨rfl, _, _⟩ := trodAll_nil h
  exact ⟨[], rfl, .nil⟩
theorem args_cons {t : TypeId} {ts : List TypeId} {g : α → PV} {ok : α → Prop} {Good : List PV → Prop} (h : RdA P t g ok) (hr : ArgsOK P ts Good) : ArgsOK P (t :: ts) (fun ps => ∃ x qs, ok x ∧ Good qs ∧ ps = g x :: qs) := by
  intro H enc w spare held base vs ds q hh hok
  obtain ⟨v, vs', d, ds', p, q', rfl, _, _, h1, h2⟩ := trodAll_cons hh
  obtain ⟨x, k1, k2⟩ := h enc w spare held base v d p h1 (hok 0 t v rfl rfl)
  obtain ⟨qs, k3, k4⟩ := hr enc w spare held base vs' ds' q' h2 (fun j t v a b => hok (j + 1) t v (by simpa using a) (by simpa using b))
  exact ⟨g x :: qs, ⟨x, qs, k1, k3, rfl⟩, .cons _ _ _ _ k2 k4⟩
theorem trodAll_keep {H : Type} {enc : TypeId × Value → H} (hl : laidOutB P = true) {W W' : World} (hb : Below W.heap.size W W') : ∀ (ts : List TypeId) (hr : ts.all (fun t => P.readableRec t && decide (t < P.types.size)) = true) (vs : List Value) (ds : List (DataW H)) (ps : List MemPlace),
    DataW.TrodAll enc P W 0 (fun _ => true) true ts vs ds ps → (∀ x ∈ ps, x.block < W.heap.size) → DataW.TrodAll enc P W' 0 (fun b => decide (b < W.heap.size)) true ts vs ds ps
  | [], _, vs, ds, ps, h, _ => by
    obtain ⟨rfl, rfl, rfl⟩ := trodAll_nil h
    exact rfl
  | t :: ts, hr, vs, ds, ps, h, hlt => by
    obtain ⟨v, vs', d, ds', p, q, rfl, rfl, rfl, h1, h2⟩ := trodAll_cons h
    simp only [List.all_cons, Bool.and_eq_true, decide_eq_true_eq] at hr
    exact ⟨p, q, Below.trod hl hr.1.1 hr.1.2 h1 hb (fun x hx => hlt x (List.mem_append_left _ hx)), trodAll_keep hl hb ts (by simpa using hr.2) vs' ds' q h2 (fun x hx => hlt x (List.mem_append_right _ hx)), rfl⟩
end
theorem trodAll_len {H : Type} {enc : TypeId × Value → H} {P : Program} {w : World} {base : Nat} {spare : Nat → Bool} {held : Bool} : ∀ {ts : List TypeId} {vs : List Value} {ds : List (DataW H)} {ps : List MemPlace}, DataW.TrodAll enc P w base spare held ts vs ds ps → ds.length = ts.length
  | [], _, _, _, h => by
    obtain ⟨rfl, rfl, _⟩ := trodAll_nil h
    rfl
  | _ :: _, _, _, _, h => by
    obtain ⟨v, vs1, d, ds1, a, b, rfl, rfl, rfl, _, h2⟩ := trodAll_cons h
    simp [trodAll_len h2]
theorem lifted_of {H : Type} {enc : TypeId × Value → H} {C : Checked} {os : Os} (started : os.Started) {f : FuncId} {fn : Func} {s : ChangeSpec} {conds : List PathCond} {tb : TypeId} {Good : List PV → Prop}
    (own : ownKnob C.prog.godebug = none) (noInit : C.prog.inits.idxOf? f = none) (hfn : C.prog.funcs[f]? = some fn)
    (witness : ∃ (w : World) (tape : Tape) (i : Input), w.os = os ∧ (w.forCall tape i).Shaped C.prog ∧ i.vars = [] ∧ Input.okWide C.prog (w.forCall tape i) .any w.heap.size f i ∧
      s.pre6 enc C.prog fn conds false (w.forCall tape i).memory i.args ∧ ({} : Assume).holds C.prog (lone (Frame.enter C.prog f i.args .normal) [] (w.forCall tape i)))
    (hl : laidOutB C.prog = true) (hts : fn.params.toList.all (fun t => C.prog.readableRec t && decide (t < C.prog.types.size)) = true)
    (hres : fn.resultTypes = #[tb]) (htb : C.prog.underlying tb = some .bool) (hvars : s.vars = [])
    (hs : ∀ ds : List (DataW H), ds.length = fn.params.toList.length → (s.fn H ds).results = [.lit (.bool true)] ∧ (s.fn H ds).args = ds ∧ (s.fn H ds).vars = [])
    (hargs : ArgsOK C.prog fn.params.toList Good)
    (hcall : ∀ ps, Good ps → CallP C.prog f ps (.bool true)) :
    ReturnsInHanded {} C os f .any (s.pre6 enc C.prog fn conds false) (s.post enc C.prog fn false true false false) := by
  refine returnsInHanded_of_change_sized own started noInit hfn witness ?_
  intro W base args ds gs before hval hW _ _ _
  have hW' := hW
  obtain ⟨p, q, hA, hV, rfl, _, _⟩ := hW
  rw [hvars] at hV
  obtain ⟨rfl, rfl⟩ := trodVars_none hV
  obtain ⟨ps, g1, g2⟩ := hargs enc W (fun _ => true) true base args.toList ds p hA (fun j t v a b => hval j t v (by simpa using a) (by simpa using b))
  obtain ⟨_, hrun⟩ := hcall ps g1
  have hlen := trodAll_len hA
  refine (hrun NoX W args.toList (fun _ h => h.elim) g2).mono fun e W' hh => ?_
  obtain ⟨v, rfl, r, rfl, hr, hb⟩ := hh
  have hlt : ∀ x ∈ p, x.block < W.heap.size := fun x hx => hW'.lt x (List.mem_append_left _ hx)
  obtain ⟨e1, e2, e3⟩ := hs ds hlen
  simp only [List.append_nil] at hW' ⊢
  cases hr
  refine ⟨_, rfl, ds, [], p, [], p, [], by simpa [hvars] using hW', ?_, ?_, by rw [hvars, List.append_nil, e3]; rfl, hb.frame _, fun h => by cases h⟩
  · rw [List.append_nil, e1, hres]
    exact trodAll_mk1 ⟨1, by simp [DataW.trod, Value.cells, htb]⟩
  · rw [List.append_nil, e2]
    exact trodAll_keep hl hb _ hts _ _ _ hA hlt
end Go.Idl
set_option linter.unusedSimpArgs false
set_option linter.unusedVariables false
namespace Go.Idl
open Go
theorem obind_some {α β : Type} (x : α) (f : α → Option β) : obind (some x) f = f x := rfl
theorem oif_t {β : Type} (x y : Option β) : oif true x y = x := rfl
theorem oif_f {β : Type} (x y : Option β) : oif false x y = y := rfl
theorem oif_pos {β : Type} {c : Bool} {x y : Option β} (h : c = true) : oif c x y = x := by subst h; rfl
theorem oif_neg {β : Type} {c : Bool} {x y : Option β} (h : c = false) : oif c x y = y := by subst h; rfl
theorem oif_ite {β : Type} (c : Bool) (x y : Option β) : oif c x y = if c = true then x else y := by cases c <;> rfl
theorem oif_dec {β : Type} (p : Prop) [Decidable p] (x y : Option β) : oif (decide p) x y = if p then x else y := by by_cases h : p <;> simp [h, oif]
theorem oif_bool (c : Bool) : oif c (some true) (some false) = some c := by cases c <;> rfl
theorem sg_nat {α : Type} (xs : List α) (i : Nat) : sg xs (i : Int) = xs[i]? := by simp [sg]
theorem sg_ge {α : Type} {xs : List α} {i : Nat} (h : i < xs.length) : sg xs (i : Int) = some xs[i] := by rw [sg_nat]; exact List.getElem?_eq_getElem h
theorem sg_int {α : Type} {xs : List α} {i : Int} (h0 : 0 ≤ i) (h : i < xs.length) : sg xs i = some (xs[i.toNat]'(by omega)) := by
  unfold sg; rw [if_pos h0]; exact List.getElem?_eq_getElem (by omega)
theorem stL_int {α : Type} {xs : List α} {i : Int} {v : α} (h0 : 0 ≤ i) (h : i < xs.length) : stL xs i v = some (xs.set i.toNat v) := by unfold stL; rw [if_pos ⟨h0, h⟩]
theorem stL_nat {α : Type} {xs : List α} {i : Nat} {v : α} (h : i < xs.length) : stL xs (i : Int) v = some (xs.set i v) := by rw [stL_int (by omega) (by omega)]; simp
theorem wrap_id {n : Int} (h1 : -9223372036854775808 ≤ n) (h2 : n < 9223372036854775808) : IntKind.wrap .i64 n = n := by
  have e1 : (2:Int) ^ 64 = 18446744073709551616 := rfl
  have e2 : (2:Int) ^ (64 - 1) = 9223372036854775808 := rfl
  simp only [IntKind.wrap, IntKind.bits, IntKind.signed, Bool.true_and, decide_eq_true_eq, e1, e2]
  split <;> omega
theorem wrap_succ {k : Nat} (h : k < 1000000000000000000) : IntKind.wrap .i64 ((k : Int) + 1) = ((k + 1 : Nat) : Int) := by rw [wrap_id (by omega) (by omega)]; omega
theorem minL1 (a b : Int) : minL a [b] = if b < a then b else a := rfl
theorem maxL1 (a b : Int) : maxL a [b] = if b > a then b else a := rfl
end Go.Idl
set_option linter.unusedSimpArgs false
set_option linter.unusedVariables false
set_option linter.unusedSectionVars false
namespace Go.Idl
open Go
theorem ai {a b : Prop} (x : a) (y : b) : a ∧ b := And.intro x y
theorem od {p : Prop} [d : Decidable p] (h : decide p = true) : p := of_decide_eq_true h
theorem rl {α : Type} (a : α) : a = a := rfl
section
variable {K V R : Type} [BEq K] [LawfulBEq K]
theorem mdel_cons (x : K × V) (L : List (K × V)) (k : K) : mdel (x :: L) k = if k == x.1 then L else x :: mdel L k := by
  unfold mdel midx
  rw [List.findIdx_cons]
  cases h : (k == x.1) <;> simp [h]
theorem mdel_not : ∀ (L : List (K × V)) (k : K), mhas L k = false → mdel L k = L
  | [], k, _ => rfl
  | x :: L, k, h => by
    simp only [mhas, List.any_cons, Bool.or_eq_false_iff] at h
    rw [mdel_cons, h.1, mdel_not L k h.2]; rfl
theorem mdel_comm : ∀ (L : List (K × V)) (k k' : K), k ≠ k' → mdel (mdel L k) k' = mdel (mdel L k') k
  | [], _, _, _ => rfl
  | x :: L, k, k', h => by
    rw [mdel_cons, mdel_cons]
    by_cases h1 : k == x.1
    · by_cases h2 : k' == x.1
      · exact absurd ((eq_of_beq h1).trans (eq_of_beq h2).symm) h
      · rw [if_pos h1, if_neg h2, mdel_cons, if_pos h1]
    · by_cases h2 : k' == x.1
      · rw [if_neg h1, if_pos h2, mdel_cons, if_pos h2]
      · rw [if_neg h1, if_neg h2, mdel_cons, mdel_cons, if_neg h1, if_neg h2, mdel_comm L k k' h]
theorem mdel_sub : ∀ (L : List (K × V)) (k : K) (x : K × V), x ∈ mdel L k → x ∈ L
  | [], _, _, h => h
  | y :: L, k, x, h => by
    rw [mdel_cons] at h
    split at h
    · exact List.mem_cons_of_mem _ h
    · rcases List.mem_cons.1 h with rfl | h
      · exact List.mem_cons_self ..
      · exact List.mem_cons_of_mem _ (mdel_sub L k x h)
theorem mfold_filter {body : K → V → List (K × V) → Option (List (K × V) ⊕ R)} {fin : List (K × V) → Option R} (t : K → V → Option Bool) (good : List (K × V) → Bool)
    (hb : ∀ k v s, body k v s = obind (t k v) fun b => oif b (oif (good s) (some (.inl (mdel s k))) none) (some (.inl s)))
    (hg : ∀ s k, good s = true → good (mdel s k) = true) {p q : List (K × V)} (hp : p.Perm q) : ∀ (s : List (K × V)) (r : R), (q.map (·.1)).Nodup → mfold body fin q s = some r → mfold body fin p s = some r := by
  induction hp with
  | nil => exact fun s r _ h => h
  | cons x _ ih =>
    intro s r hn h
    simp only [List.map_cons, List.nodup_cons] at hn
    obtain ⟨k, v⟩ := x
    unfold mfold at h ⊢
    refine obind_elim h fun o h1 h2 => ?_
    rw [h1, obind_some]
    cases o with
    | inl s' => exact ih s' r hn.2 h2
    | inr y => exact h2
  | trans h1 h2 ih1 ih2 =>
    intro s r hn h
    exact ih1 s r ((h2.map (·.1)).nodup_iff.2 hn) (ih2 s r hn h)
  | swap x y l =>
    intro s r hn h
    obtain ⟨k, v⟩ := x
    obtain ⟨k', v'⟩ := y
    simp only [List.map_cons, List.nodup_cons, List.mem_cons, not_or] at hn
    have hne : k ≠ k' := hn.1.1
    unfold mfold at h ⊢
    unfold mfold at h ⊢
    simp only [hb] at h ⊢
    cases e1 : t k v with
    | none => rw [e1] at h; cases h
    | some b1 =>
      cases e2 : t k' v' with
      | none =>
        rw [e1, e2] at h
        simp only [obind_some] at h
        cases b1 with
        | false => cases h
        | true =>
          cases hgs : good s with
          | false => rw [hgs] at h; cases h
          | true => rw [hgs] at h; cases h
      | some b2 =>
        rw [e1, e2] at h
        simp only [obind_some] at h ⊢
        cases b1 with
        | false =>
          simp only [oif_f, obind_some] at h ⊢
          cases b2 with
          | false => simpa only [oif_f, obind_some] using h
          | true =>
            cases hgs : good s with
            | false => rw [hgs] at h; cases h
            | true => rw [hgs] at h; simpa only [oif_f, oif_t, obind_some] using h
        | true =>
          cases hgs : good s with
          | false => rw [hgs] at h; cases h
          | true =>
            rw [hgs] at h
            cases b2 with
            | false => simpa only [hgs, oif_f, oif_t, obind_some] using h
            | true =>
              simp only [oif_t, obind_some, hg _ _ hgs] at h ⊢
              rw [mdel_comm _ _ _ hne.symm]; exact h
end
end Go.Idl
