/-
  Part C of a proof: the framework: an evaluator of straight code and loops, and its soundness.
-/
import Derived.Test.YtmkkkahidonnjaaB
import Derived.OpenShut
import Derived.ChangeOld
import Derived.SizedLaws
import Derived.Handed
import Derived.JoinedOf
import Derived.Carry
import Derived.RowKit
set_option linter.unusedSimpArgs false
set_option linter.unusedVariables false
namespace Go.Idl
open Go
def SlOK (w : World) (cs : List Value) : Prop := ∀ v ∈ cs, ∀ a len cap, v = .slice (some a) len cap → a.spot = none ∧ ∃ arr t fr, w.heap[a.block]? = some (.cells arr t fr)
abbrev NoX : Nat → Prop := fun _ => False
def RdF {α : Type} (P : Program) (t : TypeId) (f : α → List PV) (ok : α → Prop) : Prop :=
  ∀ {H : Type} (enc : TypeId × Value → H) (w : World) (base : Nat) (spare : Nat → Bool) (held : Bool) (fuel : Nat) (cs : List Value) (d : DataW H) (ps : List MemPlace),
    DataW.trod enc P w base spare held fuel t cs = some (d, ps) → ∃ x, ok x ∧ ∀ (h : Hp) (X : Nat → Prop), RPL h X (f x) cs
def RdC {α : Type} (P : Program) (t : TypeId) (f : α → List PV) (ok : α → Prop) : Prop :=
  ∀ {H : Type} (enc : TypeId × Value → H) (w : World) (spare : Nat → Bool) (held : Bool) (fuel : Nat) (cs : List Value) (d : DataW H) (ps : List MemPlace),
    DataW.trod enc P w 0 spare held fuel t cs = some (d, ps) → SlOK w cs → ∃ x, ok x ∧ RPL w.heap NoX (f x) cs
section
variable {P : Program} {t e : TypeId} {α β : Type}
theorem RdF.c {f : α → List PV} {ok : α → Prop} (h : RdF P t f ok) : RdC P t f ok := fun enc w spare held fuel cs d ps hd _ => by
  obtain ⟨x, h1, h2⟩ := h enc w 0 spare held fuel cs d ps hd
  exact ⟨x, h1, h2 _ _⟩
theorem rd_int {k : IntKind} (hu : P.underlying t = some (.int k)) : RdF P t (fun n : Int => [.int k n]) (fun n => (Lit.int k n).wf = true) := by
  intro H enc w base spare held fuel cs d ps hd
  cases fuel with
  | zero => simp [DataW.trod] at hd
  | succ fuel =>
    simp only [DataW.trod, hu] at hd
    split at hd
    all_goals first
      | (rename_i heq; cases heq; done)
      | (cases hd; done)
      | skip
    rename_i k' n heq
    cases heq
    split at hd
    case isFalse => cases hd
    rename_i hh
    obtain ⟨rfl, h⟩ := hh
    exact ⟨n, h, fun _ _ => .cons _ _ _ _ (.int _ _) .nil⟩
def tparts {H : Type} (enc : TypeId × Value → H) (P : Program) (w : World) (base : Nat) (spare : Nat → Bool) (held : Bool) (fuel : Nat) (cs : List Value) (l : List (TypeId × Nat)) : Option (List (DataW H × List MemPlace)) :=
  l.mapM fun q => DataW.trod enc P w base spare held fuel q.1 ((cs.drop q.2).take (P.cellsOf q.1))
def RdPF {α : Type} (P : Program) (l : List (TypeId × Nat)) (off tot : Nat) (f : α → List PV) (ok : α → Prop) : Prop :=
  ∀ {H : Type} (enc : TypeId × Value → H) (w : World) (base : Nat) (spare : Nat → Bool) (held : Bool) (fuel : Nat) (cs : List Value) (xs : List (DataW H × List MemPlace)),
    cs.length = tot → tparts enc P w base spare held fuel cs l = some xs → ∃ x, ok x ∧ ∀ (h : Hp) (X : Nat → Prop), RPL h X (f x) (cs.drop off)
theorem SlOK.part {w : World} {cs : List Value} (h : SlOK w cs) (i n : Nat) : SlOK w ((cs.drop i).take n) := fun v hv => h v (List.mem_of_mem_drop (List.mem_of_mem_take hv))
theorem rp_oneF {f : α → List PV} {ok : α → Prop} {off tot : Nat} (h : RdF P t f ok) (hz : off + P.cellsOf t = tot) : RdPF P [(t, off)] off tot f ok := by
  intro H enc w base spare held fuel cs xs hl hx
  simp only [tparts, List.mapM_cons, List.mapM_nil] at hx
  cases hq : DataW.trod enc P w base spare held fuel t ((cs.drop off).take (P.cellsOf t)) with
  | none => rw [hq] at hx; simp at hx
  | some y =>
    obtain ⟨x, h1, h2⟩ := h enc w base spare held fuel _ y.1 y.2 hq
    refine ⟨x, h1, fun hh X => ?_⟩
    have := h2 hh X
    rwa [List.take_of_length_le (by simp; omega)] at this
theorem rp_consF {f : α → List PV} {ok : α → Prop} {g : β → List PV} {ok2 : β → Prop} {off off2 tot : Nat} {l : List (TypeId × Nat)} (h : RdF P t f ok) (hz : off + P.cellsOf t = off2) (hr : RdPF P l off2 tot g ok2) :
    RdPF P ((t, off) :: l) off tot (fun p : α × β => f p.1 ++ g p.2) (fun p => ok p.1 ∧ ok2 p.2) := by
  intro H enc w base spare held fuel cs xs hl hx
  simp only [tparts, List.mapM_cons] at hx
  cases hq : DataW.trod enc P w base spare held fuel t ((cs.drop off).take (P.cellsOf t)) with
  | none => rw [hq] at hx; simp at hx
  | some y =>
    rw [hq] at hx
    simp only [Option.pure_def, Option.bind_eq_bind, Option.bind_some] at hx
    cases hr2 : l.mapM fun q => DataW.trod enc P w base spare held fuel q.1 ((cs.drop q.2).take (P.cellsOf q.1)) with
    | none => rw [hr2] at hx; simp at hx
    | some ys =>
      obtain ⟨x, h1, h2⟩ := h enc w base spare held fuel _ y.1 y.2 hq
      obtain ⟨z, h3, h4⟩ := hr enc w base spare held fuel cs ys hl hr2
      refine ⟨(x, z), ⟨h1, h3⟩, fun hh X => ?_⟩
      have := (h2 hh X).append (h4 hh X)
      rw [← hz, ← List.drop_drop, List.take_append_drop] at this
      exact this
theorem mapM_of {γ δ ε : Type} (f : γ → δ) (g : δ → Option ε) : ∀ (l : List γ), (l.mapM fun x => g (f x)) = (l.map f).mapM g
  | [] => rfl
  | x :: l => by simp only [List.mapM_cons, List.map_cons, mapM_of f g l]
theorem rd_stF {f : α → List PV} {ok : α → Prop} {fs : Array Field} {tot : Nat} (l : List (TypeId × Nat)) (hu : P.underlying t = some (.struct fs)) (hl : fs.toList.map (fun f => (f.type, f.offset)) = l) (hz : P.cellsOf t = tot) (h : RdPF P l 0 tot f ok) : RdF P t f ok := by
  intro H enc w base spare held fuel cs d ps hd
  cases fuel with
  | zero => simp [DataW.trod] at hd
  | succ fuel =>
    have key : cs.length = P.cellsOf t ∧ ∃ xs, (fs.toList.mapM fun f => DataW.trod enc P w base spare held fuel f.type ((cs.drop f.offset).take (P.cellsOf f.type))) = some xs := by
      simp only [DataW.trod, hu] at hd
      split at hd
      all_goals first
        | (rename_i heq; cases heq; done)
        | (cases hd; done)
        | skip
      all_goals try (split at hd)
      all_goals first
        | (cases hd; done)
        | skip
      rename_i hh
      refine ⟨hh, ?_⟩
      cases hx : (fs.toList.mapM fun f => DataW.trod enc P w base spare held fuel f.type ((cs.drop f.offset).take (P.cellsOf f.type))) with
      | none => rw [hx] at hd; cases hd
      | some xs => exact ⟨xs, rfl⟩
    obtain ⟨h1, xs, h2⟩ := key
    rw [mapM_of (fun f : Field => (f.type, f.offset)) (fun q => DataW.trod enc P w base spare held fuel q.1 ((cs.drop q.2).take (P.cellsOf q.1))), hl] at h2
    obtain ⟨x, g1, g2⟩ := h enc w base spare held fuel cs xs (by omega) h2
    exact ⟨x, g1, fun hh X => by have := g2 hh X; rwa [List.drop_zero] at this⟩
end
end Go.Idl
set_option linter.unusedSimpArgs false
set_option linter.unusedVariables false
namespace Go.Idl
open Go
open Go.RowKit (Below)
theorem mapM_get {γ δ : Type} (f : γ → Option δ) : ∀ (l : List γ) (ys : List δ), l.mapM f = some ys → ys.length = l.length ∧ ∀ (i : Nat) (x : γ), l[i]? = some x → ∃ y, ys[i]? = some y ∧ f x = some y
  | [], ys, h => by
    simp at h; subst h; exact ⟨rfl, fun i x hx => by simp at hx⟩
  | a :: l, ys, h => by
    rw [List.mapM_cons] at h
    cases h1 : f a with
    | none => rw [h1] at h; cases h
    | some y =>
      cases h2 : l.mapM f with
      | none => rw [h1, h2] at h; cases h
      | some zs =>
        rw [h1, h2] at h
        cases h
        obtain ⟨g1, g2⟩ := mapM_get f l zs h2
        refine ⟨by simp [g1], fun i x hx => ?_⟩
        cases i with
        | zero => simp at hx; subst hx; exact ⟨y, rfl, h1⟩
        | succ i => simpa using g2 i x (by simpa using hx)
theorem add_pl (b off i : Nat) : (⟨b, off, none⟩ : Addr).add i = ⟨b, off + i, none⟩ := by
  unfold Addr.add
  split
  · subst i; rfl
  · rfl
theorem cells_get {w : World} {a : Addr} {arr : Array Value} {ty : TypeId} {fr : Nat × Nat} (hs : a.spot = none) (hb : w.heap[a.block]? = some (.cells arr ty fr)) {k n : Nat} {cs : List Value} (h : w.cells? 0 (a.add k) n = some cs) :
    cs.length = n ∧ ∀ (j : Nat) (v : Value), cs[j]? = some v → arr[a.off + k + j]? = some v := by
  obtain ⟨b, off, spot⟩ := a
  subst hs
  rw [add_pl] at h
  simp only [World.cells?, Nat.zero_le, if_true] at h
  obtain ⟨h1, h2⟩ := mapM_get _ _ _ h
  rw [List.length_range] at h1
  refine ⟨h1, fun j v hv => ?_⟩
  have hj : j < n := by have := (List.getElem?_eq_some_iff.1 hv).1; omega
  obtain ⟨y, e1, e2⟩ := h2 j j (by rw [List.getElem?_range hj])
  rw [hv] at e1
  cases e1
  rw [add_pl] at e2
  simp only [World.cell?, hb] at e2
  simpa using e2
theorem sl_run {α : Type} {f : α → List PV} {ok : α → Prop} {es off : Nat} {arr : Array Value} : ∀ (n start : Nat),
    (∀ i, start ≤ i → i < start + n → ∃ (x : α) (cs : List Value), ok x ∧ (∀ (h : Hp) (X : Nat → Prop), RPL h X (f x) cs) ∧ cs.length = es ∧ ∀ (j : Nat) (v : Value), cs[j]? = some v → arr[off + i * es + j]? = some v) →
    ∃ (L : List α) (vs : List Value), L.length = n ∧ (∀ x ∈ L, ok x) ∧ (∀ (h : Hp) (X : Nat → Prop), RPL h X (L.flatMap f) vs) ∧ ∀ (j : Nat) (v : Value), vs[j]? = some v → arr[off + start * es + j]? = some v
  | 0, start, _ => ⟨[], [], rfl, fun _ h => (by cases h), fun _ _ => .nil, fun j v hv => by simp at hv⟩
  | n + 1, start, h => by
    obtain ⟨L, vs, h1, h2, h3, h4⟩ := sl_run n (start + 1) (fun i hi hj => h i (by omega) (by omega))
    obtain ⟨x, cs, g1, g2, g3, g4⟩ := h start (Nat.le_refl _) (by omega)
    refine ⟨x :: L, cs ++ vs, by simp [h1], fun y hy => ?_, fun hh X => ?_, fun j v hv => ?_⟩
    · rcases List.mem_cons.1 hy with rfl | hy
      · exact g1
      · exact h2 y hy
    · rw [List.flatMap_cons]; exact (g2 hh X).append (h3 hh X)
    · by_cases hj : j < es
      · rw [List.getElem?_append_left (by omega)] at hv
        exact g4 j v hv
      · rw [List.getElem?_append_right (by omega), g3] at hv
        have := h4 _ v hv
        have e : off + (start + 1) * es + (j - es) = off + start * es + j := by rw [Nat.add_mul]; omega
        rwa [e] at this
def structL : TypeDesc → Option (List (TypeId × Nat))
  | .struct fs => some (fs.toList.map fun f => (f.type, f.offset))
  | _ => none
section
variable {P : Program} {t : TypeId} {α : Type}
theorem structL_of {l : List (TypeId × Nat)} (hu : (P.underlying t).bind structL = some l) : ∃ fs, P.underlying t = some (.struct fs) ∧ fs.toList.map (fun f => (f.type, f.offset)) = l := by
  cases h : P.underlying t with
  | none => rw [h] at hu; cases hu
  | some d =>
    rw [h] at hu
    cases d <;> simp [structL] at hu
    exact ⟨_, rfl, hu⟩
theorem rd_stF' {f : α → List PV} {ok : α → Prop} {tot : Nat} (l : List (TypeId × Nat)) (hu : (P.underlying t).bind structL = some l) (hz : P.cellsOf t = tot) (h : RdPF P l 0 tot f ok) : RdF P t f ok := by
  obtain ⟨fs, h1, h2⟩ := structL_of hu
  exact rd_stF l h1 h2 hz h
end
section
variable {P : Program} {t e : TypeId} {α β : Type}
theorem rd_sl {f : α → List PV} {g : α → PV} {ok : α → Prop} {es : Nat} (hu : P.underlying t = some (.slice e)) (hc : P.cellsOf e = es) (he : RdF P e f ok) (hg : ∀ x, (g x).cells = f x) (hl : ∀ x, (f x).length = es) :
    RdC P t (fun L : List α => [.sl (L.map g) false]) (fun L => (∀ x ∈ L, ok x) ∧ L.length ≤ maxLen) := by
  intro H enc w spare held fuel cs d ps hd hs
  cases fuel with
  | zero => simp [DataW.trod] at hd
  | succ fuel =>
    simp only [DataW.trod, hu] at hd
    split at hd
    all_goals first
      | (rename_i heq; cases heq; done)
      | (cases hd; done)
      | skip
    · exact ⟨[], ⟨fun _ h => (by cases h), Nat.zero_le _⟩, .cons _ _ _ _ (.sl0 _) .nil⟩
    · rename_i e' a len cap heq
      cases heq
      split at hd
      case isFalse => cases hd
      rename_i hh
      obtain ⟨_, hh1, hh2⟩ := hh
      obtain ⟨hsp, arr, ty, fr, hb⟩ := hs _ (by simp) a len cap rfl
      cases hm : ((List.range len).mapM fun i => (w.cells? 0 (a.add (i * P.cellsOf e)) (P.cellsOf e)).bind (DataW.trod enc P w 0 spare held fuel e)) with
      | none => rw [hm] at hd; cases hd
      | some elems =>
        obtain ⟨m1, m2⟩ := mapM_get _ _ _ hm
        obtain ⟨L, vs, h1, h2, h3, h4⟩ := sl_run (f := f) (ok := ok) (es := es) (off := a.off) (arr := arr) len 0 (fun i _ hi => by
          obtain ⟨y, _, e2⟩ := m2 i i (by rw [List.getElem?_range (by omega)])
          rw [hc] at e2
          cases hcs : w.cells? 0 (a.add (i * es)) es with
          | none => rw [hcs] at e2; cases e2
          | some cs =>
            rw [hcs] at e2
            obtain ⟨c1, c2⟩ := cells_get hsp hb hcs
            obtain ⟨x, q1, q2⟩ := he enc w 0 spare held fuel cs y.1 y.2 (by simpa using e2)
            exact ⟨x, cs, q1, q2, c1, c2⟩)
        subst h1
        refine ⟨L, ⟨h2, by omega⟩, .cons _ _ _ _ ?_ .nil⟩
        have hlm : (L.map g).length = L.length := List.length_map ..
        have := RP.sl (h := w.heap) (X := NoX) (L.map g) false a cap es vs ⟨hsp, arr, ty, fr, hb, fun i v hv => by have := h4 i v hv; simpa using this⟩ (fun h => h) (by
            rw [List.flatMap_map]; simp only [hg]; exact h3 _ _) (fun y hy => by
            obtain ⟨x, _, rfl⟩ := List.mem_map.1 hy
            rw [hg, hl]) (by omega) (fun h => by cases h)
        rwa [hlm] at this
def RdA (P : Program) (t : TypeId) (g : α → PV) (ok : α → Prop) : Prop :=
  ∀ {H : Type} (enc : TypeId × Value → H) (w : World) (spare : Nat → Bool) (held : Bool) (base : Nat) (v : Value) (d : DataW H) (ps : List MemPlace),
    DataW.Trod enc P w 0 spare held t v d ps → Value.okWide P w .any base t v → ∃ x, ok x ∧ RP w.heap NoX (g x) v
theorem slok_cell {w : World} {base : Nat} {v : Value} (h : Cell.okWide P w .any base t v) : ∀ a len cap, v = .slice (some a) len cap → a.spot = none ∧ ∃ arr t fr, w.heap[a.block]? = some (.cells arr t fr) := by
  intro a len cap hv
  subst hv
  unfold Cell.okWide at h
  split at h
  all_goals first
    | (rename_i h1 h2; cases h2; done)
    | skip
  unfold Cell.ok at h
  split at h
  all_goals first
    | (rename_i h1 h2; cases h2; done)
    | (cases h; done)
    | skip
  rename_i h2
  cases h2
  obtain ⟨_, _, _, hsp, row, cells, hsh, _⟩ := h
  refine ⟨hsp, ?_⟩
  unfold World.shape? at hsh
  split at hsh
  · rename_i arr ty fr hb
    exact ⟨arr, ty, fr, hb⟩
  · cases hsh
theorem rd_arg1 {g : α → PV} {ok : α → Prop} (hu : (match P.underlying t with | some (.struct _) | some (.array _ _) | none => false | some _ => true) = true) (h : RdC P t (fun x => [g x]) ok) : RdA P t g ok := by
  intro H enc w spare held base v d ps ⟨fuel, hd⟩ hv
  have hcell : Cell.okWide P w .any base t v := by
    unfold Value.okWide at hv
    split at hv
    · rename_i hh; rw [hh] at hu; cases hu
    · rename_i hh; rw [hh] at hu; cases hu
    · exact hv
  have hvc : v.cells = #[v] := by
    cases v
    case agg cs =>
      exfalso
      unfold Cell.okWide at hcell
      split at hcell
      all_goals first
        | (rename_i h1 h2; cases h2; done)
        | skip
      unfold Cell.ok at hcell
      split at hcell
      all_goals first
        | (rename_i h1 h2; cases h2; done)
        | (rename_i h2; cases h2; done)
        | (cases hcell; done)
        | skip
    all_goals rfl
  rw [hvc] at hd
  obtain ⟨x, h1, h2⟩ := h enc w spare held fuel _ d ps hd (fun u hu2 a len cap e => by
    simp at hu2
    subst hu2
    exact slok_cell hcell a len cap e)
  cases h2 with
  | cons _ _ _ _ h3 _ => exact ⟨x, h1, h3⟩
end
end Go.Idl
set_option linter.unusedSimpArgs false
set_option linter.unusedVariables false
namespace Go.Idl
open Go
open Go.RowKit Go.ChangeShapes
section
variable {P : Program} {α : Type}
def ArgsOK (P : Program) (ts : List TypeId) (Good : List PV → Prop) : Prop :=
  ∀ {H : Type} (enc : TypeId × Value → H) (w : World) (spare : Nat → Bool) (held : Bool) (base : Nat) (vs : List Value) (ds : List (DataW H)) (q : List MemPlace),
    DataW.TrodAll enc P w 0 spare held ts vs ds q → (∀ (j : Nat) t v, ts[j]? = some t → vs[j]? = some v → Value.okWide P w .any base t v) → ∃ ps, Good ps ∧ RPL w.heap NoX ps vs
theorem args_nil : ArgsOK P [] (fun ps => ps = []) := by
  intro H enc w spare held base vs ds q h _
  obtain ⟨rfl, _, _⟩ := trodAll_nil h
  exact ⟨[], rfl, .nil⟩
theorem args_cons {t : TypeId} {ts : List TypeId} {g : α → PV} {ok : α → Prop} {Good : List PV → Prop} (h : RdA P t g ok) (hr : ArgsOK P ts Good) : ArgsOK P (t :: ts) (fun ps => ∃ x qs, ok x ∧ Good qs ∧ ps = g x :: qs) := by
  intro H enc w spare held base vs ds q hh hok
  obtain ⟨v, vs', d, ds', p, q', rfl, _, _, h1, h2⟩ := trodAll_cons hh
  obtain ⟨x, k1, k2⟩ := h enc w spare held base v d p h1 (hok 0 t v rfl rfl)
  obtain ⟨qs, k3, k4⟩ := hr enc w spare held base vs' ds' q' h2 (fun j t v a b => hok (j + 1) t v (by simpa using a) (by simpa using b))
  exact ⟨g x :: qs, ⟨x, qs, k1, k3, rfl⟩, .cons _ _ _ _ k2 k4⟩
theorem trodAll_keep {H : Type} {enc : TypeId × Value → H} (hl : laidOutB P = true) {W W' : World} (hb : Below W.heap.size W W') : ∀ (ts : List TypeId) (hr : ts.all (fun t => P.readableRec t && decide (t < P.types.size)) = true) (vs : List Value) (ds : List (DataW H)) (ps : List MemPlace),
    DataW.TrodAll enc P W 0 (fun _ => true) true ts vs ds ps → (∀ x ∈ ps, x.block < W.heap.size) → DataW.TrodAll enc P W' 0 (fun b => decide (b < W.heap.size)) true ts vs ds ps
  | [], _, vs, ds, ps, h, _ => by
    obtain ⟨rfl, rfl, rfl⟩ := trodAll_nil h
    exact rfl
  | t :: ts, hr, vs, ds, ps, h, hlt => by
    obtain ⟨v, vs', d, ds', p, q, rfl, rfl, rfl, h1, h2⟩ := trodAll_cons h
    simp only [List.all_cons, Bool.and_eq_true, decide_eq_true_eq] at hr
    exact ⟨p, q, Below.trod hl hr.1.1 hr.1.2 h1 hb (fun x hx => hlt x (List.mem_append_left _ hx)), trodAll_keep hl hb ts (by simpa using hr.2) vs' ds' q h2 (fun x hx => hlt x (List.mem_append_right _ hx)), rfl⟩
end
theorem trodAll_len {H : Type} {enc : TypeId × Value → H} {P : Program} {w : World} {base : Nat} {spare : Nat → Bool} {held : Bool} : ∀ {ts : List TypeId} {vs : List Value} {ds : List (DataW H)} {ps : List MemPlace}, DataW.TrodAll enc P w base spare held ts vs ds ps → ds.length = ts.length
  | [], _, _, _, h => by
    obtain ⟨rfl, rfl, _⟩ := trodAll_nil h
    rfl
  | _ :: _, _, _, _, h => by
    obtain ⟨v, vs1, d, ds1, a, b, rfl, rfl, rfl, _, h2⟩ := trodAll_cons h
    simp [trodAll_len h2]
theorem lifted_of {H : Type} {enc : TypeId × Value → H} {C : Checked} {os : Os} (started : os.Started) {f : FuncId} {fn : Func} {s : ChangeSpec} {conds : List PathCond} {tb : TypeId} {Good : List PV → Prop}
    (own : ownKnob C.prog.godebug = none) (noInit : C.prog.inits.idxOf? f = none) (hfn : C.prog.funcs[f]? = some fn)
    (witness : ∃ (w : World) (tape : Tape) (i : Input), w.os = os ∧ (w.forCall tape i).Shaped C.prog ∧ i.vars = [] ∧ Input.okWide C.prog (w.forCall tape i) .any w.heap.size f i ∧
      s.pre6 enc C.prog fn conds false (w.forCall tape i).memory i.args ∧ ({} : Assume).holds C.prog (lone (Frame.enter C.prog f i.args .normal) [] (w.forCall tape i)))
    (hl : laidOutB C.prog = true) (hts : fn.params.toList.all (fun t => C.prog.readableRec t && decide (t < C.prog.types.size)) = true)
    (hres : fn.resultTypes = #[tb]) (htb : C.prog.underlying tb = some .bool) (hvars : s.vars = [])
    (hs : ∀ ds : List (DataW H), ds.length = fn.params.toList.length → (s.fn H ds).results = [.lit (.bool true)] ∧ (s.fn H ds).args = ds ∧ (s.fn H ds).vars = [])
    (hargs : ArgsOK C.prog fn.params.toList Good)
    (hcall : ∀ ps, Good ps → CallP C.prog f ps (.bool true)) :
    ReturnsInHanded {} C os f .any (s.pre6 enc C.prog fn conds false) (s.post enc C.prog fn false true false false) := by
  refine returnsInHanded_of_change_sized own started noInit hfn witness ?_
  intro W base args ds gs before hval hW _ _ _
  have hW' := hW
  obtain ⟨p, q, hA, hV, rfl, _, _⟩ := hW
  rw [hvars] at hV
  obtain ⟨rfl, rfl⟩ := trodVars_none hV
  obtain ⟨ps, g1, g2⟩ := hargs enc W (fun _ => true) true base args.toList ds p hA (fun j t v a b => hval j t v (by simpa using a) (by simpa using b))
  obtain ⟨_, hrun⟩ := hcall ps g1
  have hlen := trodAll_len hA
  refine (hrun NoX W args.toList (fun _ h => h.elim) g2).mono fun e W' hh => ?_
  obtain ⟨v, rfl, r, rfl, hr, hb⟩ := hh
  have hlt : ∀ x ∈ p, x.block < W.heap.size := fun x hx => hW'.lt x (List.mem_append_left _ hx)
  obtain ⟨e1, e2, e3⟩ := hs ds hlen
  simp only [List.append_nil] at hW' ⊢
  cases hr
  refine ⟨_, rfl, ds, [], p, [], p, [], by simpa [hvars] using hW', ?_, ?_, by rw [hvars, List.append_nil, e3]; rfl, hb.frame _, fun h => by cases h⟩
  · rw [List.append_nil, e1, hres]
    exact trodAll_mk1 ⟨1, by simp [DataW.trod, Value.cells, htb]⟩
  · rw [List.append_nil, e2]
    exact trodAll_keep hl hb _ hts _ _ _ hA hlt
end Go.Idl
set_option linter.unusedSimpArgs false
set_option linter.unusedVariables false
namespace Go.Idl
open Go
section
variable {α : Type} {f : α → PV} {n sz len : Nat} {L : List α}
theorem rowI_app (f : α → PV) (A B : List α) : rowI f (A ++ B) = rowI f A ++ rowI f B := by rw [row_app, ← row_src]
theorem rowI_put (he : Elem f n) (A B C V : List α) (h : V.length = B.length) : putCells (rowI f (A ++ (B ++ C))) (A.length * n) (rowI f V) = rowI f (A ++ (V ++ C)) := by
  have e1 : A.length * n = (rowI f A).length + 0 := by rw [row_len he, Nat.add_zero]
  have e2 : (rowI f V).length = (rowI f B).length := by rw [row_len he, row_len he, h]
  rw [rowI_app, rowI_app, e1, putCells_skip, putCells_app _ _ _ _ (by omega), putCells_all _ _ e2, rowI_app, rowI_app]
theorem row_cut3 (L : List α) {a m : Nat} : L = L.take a ++ ((L.drop a).take m ++ L.drop (a + m)) := by
  rw [← List.drop_drop, List.take_append_drop, List.take_append_drop]
theorem row_pfit (he : Elem f n) {k m : Nat} (hz : sz = len * n) (h : k + m ≤ len) : 0 + k * n + m * n ≤ sz := by
  subst hz
  rw [Nat.zero_add, ← Nat.add_mul]
  exact Nat.mul_le_mul_right _ h
def clrL (L : List α) (a m : Nat) (z : α) : List α := L.take a ++ (List.replicate m z ++ L.drop (a + m))
theorem clrL_len {a m : Nat} {z : α} (h : a + m ≤ L.length) : (clrL L a m z).length = L.length := by simp [clrL]; omega
theorem row_clr (he : Elem f n) {a m : Nat} (z : α) (hl : L.length = len) (h : a + m ≤ len) : putCells (rowI f L) (0 + a * n) (zerosI (f z).cells (m * n)) = rowI f (clrL L a m z) := by
  subst hl
  rw [zeros_row he, Nat.zero_add]
  have hi : (L.take a).length = a := by rw [List.length_take]; omega
  have := rowI_put he (L.take a) ((L.drop a).take m) (L.drop (a + m)) (List.replicate m z) (by simp; omega)
  rw [← row_cut3, hi] at this
  exact this
theorem row_clrlen (he : Elem f n) {a m : Nat} (z : α) (hl : L.length = len) (h : a + m ≤ len) : (rowI f (clrL L a m z)).length = (rowI f L).length := by rw [row_len he, row_len he, clrL_len (by omega)]
theorem row_putf (he : Elem f n) {k : Int} {x v : α} {L' : List α} {o : Nat} {vs : List IV} (hx : sg L k = some x) (hs : stL L k v = some L') (hv : putCells ((f x).cells.map .p) o vs = (f v).cells.map .p) (hf : o + vs.length ≤ n) :
    putCells (rowI f L) (0 + k.toNat * n + o) vs = rowI f L' := by
  obtain ⟨h1, h2, rfl⟩ := stL_spec hs
  have hL : L = L.take k.toNat ++ ([x] ++ L.drop (k.toNat + 1)) := by
    have hg := sg_get hx
    have : L[k.toNat] = x := by rw [List.getElem?_eq_getElem h2] at hg; exact Option.some.inj hg
    rw [List.singleton_append, ← this, ← List.drop_eq_getElem_cons, List.take_append_drop]
  have hL' : L.set k.toNat v = L.take k.toNat ++ ([v] ++ L.drop (k.toNat + 1)) := by
    rw [List.set_eq_take_append_cons_drop, if_pos h2]; rfl
  have hi : (L.take k.toNat).length = k.toNat := by rw [List.length_take]; omega
  have hone : ∀ u : α, rowI f [u] = (f u).cells.map .p := fun u => by simp [rowI, rowP]
  have e1 : 0 + k.toNat * n + o = (rowI f (L.take k.toNat)).length + o := by rw [row_len he, hi]; omega
  have hxl : ((f x).cells.map IV.p).length = n := by rw [List.length_map, he.len]
  conv => lhs; rw [hL]
  rw [hL', rowI_app, rowI_app, e1, putCells_skip, putCells_app _ _ _ _ (by rw [hone, hxl]; exact hf), hone x, hv, rowI_app, rowI_app, hone v]
theorem row_fitf (he : Elem f n) {k : Int} {o m : Nat} (h0 : 0 ≤ k) (h : k < (L.length : Int)) (ho : o + m ≤ n) : 0 + k.toNat * n + o + m ≤ (rowI f L).length := by
  have := row_fit he h0 h; omega
theorem row_pos (he : Elem f n) (hn : 0 < n) (h : 0 < L.length) : 0 < (rowI f L).length := by rw [row_len he]; exact Nat.mul_pos h hn
end
theorem piece_lt {lo : Int} {len : Nat} (h0 : 0 ≤ lo) (h : lo < (len : Int)) : lo.toNat = 0 ∨ lo.toNat < len := .inr (by omega)
theorem piece_end {lo : Int} {len : Nat} (h0 : 0 ≤ lo) (h1 : lo ≤ (len : Int)) (h : decide (lo < (len : Int)) = false) : lo.toNat = len := by have := of_decide_eq_false h; omega
end Go.Idl
set_option linter.unusedSimpArgs false
set_option linter.unusedVariables false
namespace Go.Idl
open Go
def SemQ (P : Program) (md : Md) (its : List Item) (σ : St) (Q : Cx → Org → Ex → Act → World → Prop) : Prop :=
  ∀ (Γ : Cx) (w0 : Org) (r : Option Nat) (a : Act) (w : World), OKm md Γ w0 r → NowS Γ w0 σ a w → WT P r its (Q Γ w0) a w
section
variable {P : Program} {md : Md} {b rest : Code} {σ σ' τ τ' : St} {e : Ex} {Γ : Cx} {w0 : Org} {r : Option Nat} {a : Act} {w : World}
theorem SemQ.of_next {Q : Cx → Org → Ex → Act → World → Prop} {id : Nat} {ops : Array Oper} (hs : ∀ (Γ : Cx) (w0 : Org) (r : Option Nat) (a : Act) (w : World), OKm md Γ w0 r → NowS Γ w0 σ a w →
      W P r (.region id ops false) (fun e1 a1 w1 => e1 = .normal ∧ ∃ τ, SemQ P md [.code rest, .inLoop (.seq (.region id ops false) rest)] τ Q ∧ NowS Γ w0 τ a1 w1) a w) : SemQ P md [.code (.seq (.region id ops false) rest), .inLoop (.seq (.region id ops false) rest)] σ Q := by
  intro Γ w0 r a w hnt hn bb k cs
  obtain ⟨e1, a1, w1, ⟨rfl, τ, ht, hn1⟩, harr⟩ := hs Γ w0 r a w hnt hn bb (.code rest :: .inLoop (.seq (.region id ops false) rest) :: k) cs
  obtain ⟨e2, a2, w2, hq, harr2⟩ := ht Γ w0 r a1 w1 hnt hn1 bb k cs
  exact ⟨e2, a2, w2, hq, .of_steps (.head st_seq harr) harr2⟩
theorem SemQ.nextP {Q : Cx → Org → Ex → Act → World → Prop} {ti d0 d1 li : Nat} {seen : List Nat} {ks vs : List PV} (hb : nextOf b = some (ti, d0, d1, rest)) (h0 : Nat.blt d0 md.nt = true) (h1 : Nat.blt d1 md.nt = true) (hi : lookE ti σ.env = some (.iter li)) (hl : σ.heap[li]? = some (.iterP ks vs seen))
    (over : (∀ j, j < ks.length → j ∈ seen) → SemQ P md [.code rest, .inLoop b] ⟨nextE d0 d1 none σ.env, σ.heap⟩ Q)
    (step : ∀ (j : Nat) (k v : PV), ks[j]? = some k → vs[j]? = some v → j ∉ seen → SemQ P md [.code rest, .inLoop b] ⟨nextE d0 d1 (some (k, v)) σ.env, σ.heap.set li (.iterP ks vs (seen ++ [j]))⟩ Q) : SemQ P md [.code b, .inLoop b] σ Q := by
  obtain ⟨id, ops, rfl⟩ := nextOf_form hb
  refine SemQ.of_next fun Γ w0 r a w hok hn => ?_
  rw [Nat.blt_eq] at h0 h1
  obtain ⟨φ, n1, n2, n3, n4, n5, n6, n7, n8⟩ := hn
  have hnt := hok.nt
  obtain ⟨u, hu, hr⟩ := n1 ti _ hi
  cases hr with
  | iter _ rr hd hc =>
    have := hc _ hl rfl rfl
    subst this
    have hev : a.eval (.tmp ti) = .pointer (some ⟨(φ li).1, 0, none⟩) := by simp [Act.eval, Array.getD_eq_getD_getElem?, hu]
    obtain ⟨rm, es, cc, ss, g1, m1, mx, m2, m3, m4, hold, m6⟩ := n2.obj li _ hl
    have hsize : d0 < a.tmps.size := by omega
    have hnow : NowS Γ w0 σ a w := ⟨φ, n1, n2, n3, n4, n5, n6, n7, n8⟩
    have hlenk := RPL.length m2
    have hlenv := RPL.length m3
    simp at hlenk hlenv
    have hmem : ∀ j (x : MapEntry), es.toList[j]? = some x → (x.born ∈ ss ↔ j ∈ seen) := by
      intro j x hj
      constructor
      · intro hs
        have : some x.born ∈ ss.map some := List.mem_map.2 ⟨_, hs, rfl⟩
        rw [← m6, List.mem_map] at this
        obtain ⟨i, hi1, hi2⟩ := this
        cases hy : es.toList[i]? with
        | none => rw [hy] at hi2; cases hi2
        | some y =>
          rw [hy] at hi2
          have hyb : y.born = x.born := Option.some.inj hi2
          have e1 : (es.toList.map (·.born))[i]? = some x.born := by rw [List.getElem?_map, hy]; simp [hyb]
          have e2 : (es.toList.map (·.born))[j]? = some x.born := by rw [List.getElem?_map, hj]; rfl
          rw [nodup_inj m4 e2 e1]; exact hi1
      · intro hs
        have : (es.toList[j]?).map (·.born) ∈ seen.map fun i => (es.toList[i]?).map (·.born) := List.mem_map.2 ⟨j, hs, rfl⟩
        rw [m6, hj, List.mem_map] at this
        obtain ⟨y, hy1, hy2⟩ := this
        cases hy2; exact hy1
    rcases (by
      by_cases hz : (leftOf es ⟨ss⟩).size = 0
      · left
        exact ⟨hz, fun ty => ((run_next_at (P := P) w ty (φ li).1 rm cc cc ⟨ss⟩ es cc g1 m1 hold (Nat.le_refl _)).resolve_right (fun ⟨x, hx, _⟩ => by
          have : (leftOf es ⟨ss⟩).toList.length = 0 := by simpa using hz
          rw [List.eq_nil_of_length_eq_zero this] at hx; cases hx)).2⟩
      · right
        rcases run_next_at (P := P) w 0 (φ li).1 rm cc cc ⟨ss⟩ es cc g1 m1 hold (Nat.le_refl _) with ⟨hh, _⟩ | ⟨x, hx, w1, hw1, hrun⟩
        · exact absurd hh hz
        · exact ⟨x, hx, w1, hw1, fun ty => hrun⟩ : ((leftOf es ⟨ss⟩).size = 0 ∧ ∀ ty, (Instr.next (.pointer (some ⟨(φ li).1, 0, none⟩)) false ty).run P w = .ok (.tuple #[.bool false]) w) ∨
        ∃ x ∈ (leftOf es ⟨ss⟩).toList, ∃ w1 : World, (w1 = w ∨ w1 = w.drew) ∧ ∀ ty, (Instr.next (.pointer (some ⟨(φ li).1, 0, none⟩)) false ty).run P w = .ok (.tuple #[.bool true, x.key, x.val]) (ChangeMaps.setBlock w1 (φ li).1 (.mapIter (some rm) cc ((⟨ss⟩ : Array Nat).push x.born) cc))) with ⟨hz, hrun⟩ | ⟨x, hx, w1, hw1, hrun⟩
    · refine WT_next hb hev (vs := []) hrun hsize ⟨rfl, _, over fun j hj => ?_, ?_⟩
      · have : (leftOf es ⟨ss⟩).toList.length = 0 := by simpa using hz
        have hnil := List.eq_nil_of_length_eq_zero this
        refine Classical.byContradiction fun hns => ?_
        have hjl : j < es.toList.length := by simp; omega
        have hj2 := List.getElem?_eq_getElem hjl
        have : es.toList[j] ∈ (leftOf es ⟨ss⟩).toList := by
          unfold leftOf
          simp only [Array.toList_filter, List.mem_filter]
          refine ⟨List.getElem_mem hjl, ?_⟩
          have : es.toList[j].born ∉ ss := fun hh => hns ((hmem j _ hj2).1 hh)
          simpa using this
        rw [hnil] at this; cases this
      · have s1 := Now.put (d := d0) (iv := .p (nextV none)) (x := .tuple ⟨[.bool false]⟩) hnow (by omega) fun φ _ => .p _ _ (.tup _ [.bool false] (.cons _ _ _ _ (.bool _) .nil))
        have s2 := Now.put (d := d1) (iv := .p (.bool false)) (x := .bool false) s1 (by omega) fun φ _ => .p _ _ (.bool _)
        exact s2.mono fun t iv ht => by rw [nextE_get] at ht; exact ht
    · have hx' : x ∈ es.toList ∧ x.born ∉ ss := by
        unfold leftOf at hx
        simp only [Array.toList_filter, List.mem_filter] at hx
        exact ⟨hx.1, by simpa using hx.2⟩
      obtain ⟨j, hj⟩ := List.getElem?_of_mem hx'.1
      have hjlt := lt_of_lget hj
      simp at hjlt
      obtain ⟨ku, hk1, hk2⟩ := RPL.get m2 j ks[j] (List.getElem?_eq_getElem (by omega))
      obtain ⟨vu, hv1, hv2⟩ := RPL.get m3 j vs[j] (List.getElem?_eq_getElem (by omega))
      rw [List.getElem?_map, hj] at hk1 hv1
      cases hk1; cases hv1
      refine WT_next hb hev (vs := [x.key, x.val]) hrun hsize ⟨rfl, _, step j _ _ (List.getElem?_eq_getElem (by omega)) (List.getElem?_eq_getElem (by omega)) (fun hh => hx'.2 ((hmem j x hj).2 hh)), ?_⟩
      have hlt := lt_of_get g1
      obtain ⟨k1, e1⟩ := n2.put (h' := w.heap.setIfInBounds (φ li).1 (.mapIter (some rm) cc ((⟨ss⟩ : Array Nat).push x.born) cc)) (o' := .iterP ks vs (seen ++ [j])) (pl := φ li) n3 hl (by simp) rfl (by simp)
        (fun b hb hne => Array.getElem?_setIfInBounds_ne (fun h => hne ⟨rfl, h.symm⟩)) (fun _ arr t fr hc => by rw [g1] at hc; cases hc) (.inl ⟨rfl, rfl⟩) (fun _ => ⟨rfl, Nat.le_refl _, fun _ => rfl⟩)
        (fun e => by
          obtain ⟨q1, q2⟩ := e.keeps (Γ := Γ) rm _ m1 mx
          exact ⟨rm, es, cc, ss ++ [x.born], by rw [upd_same, Array.getElem?_setIfInBounds_self_of_lt hlt]; simp, q1, q2, m2.keeps e.keeps, m3.keeps e.keeps, m4, hold, by rw [List.map_append, List.map_append, m6]; simp only [List.map_cons, List.map_nil, hj, Option.map_some]⟩)
      have s1 : Now Γ w0 (fun t => match Nat.beq d0 t with | true => some (.p (nextV (some (ks[j], vs[j])))) | false => lookE t σ.env) (σ.heap.set li (.iterP ks vs (seen ++ [j]))) (a.put (some d0) (.tuple ⟨.bool true :: [x.key, x.val]⟩)) (ChangeMaps.setBlock w1 (φ li).1 (.mapIter (some rm) cc ((⟨ss⟩ : Array Nat).push x.born) cc)) := by
        rcases hw1 with rfl | rfl
        · exact Now.step (d := some d0) (φ' := upd φ li (φ li)) n1 n3 n4 n5 n6 n7 n8 k1 e1 (.p _ _ (.tup _ [.bool true, x.key, x.val] (.cons _ _ _ _ (.bool _) (.cons _ _ _ _ (hk2.keeps e1.keeps) (.cons _ _ _ _ (hv2.keeps e1.keeps) .nil))))) ⟨rfl, rfl, rfl⟩ (fun t ht => by cases ht; omega) (fun t => rfl)
        · exact Now.step (d := some d0) (φ' := upd φ li (φ li)) n1 n3 n4 n5 n6 n7 n8 k1 e1 (.p _ _ (.tup _ [.bool true, x.key, x.val] (.cons _ _ _ _ (.bool _) (.cons _ _ _ _ (hk2.keeps e1.keeps) (.cons _ _ _ _ (hv2.keeps e1.keeps) .nil))))) ⟨rfl, rfl, rfl⟩ (fun t ht => by cases ht; omega) (fun t => rfl)
      have s2 := Now.put (d := d1) (iv := .p (.bool true)) (x := .bool true) s1 (by omega) fun φ _ => .p _ _ (.bool _)
      exact s2.mono fun t iv ht => by rw [nextE_get] at ht; exact ht
theorem SemQ.again {Q : Cx → Org → Ex → Act → World → Prop} (h : SemC P md [.code rest] τ .normal τ') (hj : SemQ P md [.code b, .inLoop b] τ' Q) : SemQ P md [.code rest, .inLoop b] τ Q := fun Γ w0 r a w hnt hn => by
  intro bb k cs
  obtain ⟨e1, a1, w1, ⟨rfl, hn1⟩, harr⟩ := h Γ w0 r a w hnt hn bb (.inLoop b :: k) cs
  obtain ⟨e2, a2, w2, hq, harr2⟩ := hj Γ w0 r a1 w1 hnt hn1 bb k cs
  exact ⟨e2, a2, w2, hq, .of_steps (Steps.trans harr (.one st_inLoop)) harr2⟩
theorem SemQ.out {Q : Cx → Org → Ex → Act → World → Prop} (h : SemC P md [.code rest] τ e τ') (he : e ≠ .normal) (hq : ∀ Γ w0 a' w', NowS Γ w0 τ' a' w' → Q Γ w0 e a' w') : SemQ P md [.code rest, .inLoop b] τ Q := fun Γ w0 r a w hnt hn => by
  intro bb k cs
  obtain ⟨e1, a1, w1, ⟨rfl, hn1⟩, harr⟩ := h Γ w0 r a w hnt hn bb (.inLoop b :: k) cs
  cases e1 with
  | normal => exact absurd rfl he
  | exit id => obtain ⟨t, h1, h2⟩ := harr; exact ⟨.exit id, a1, w1, hq _ _ _ _ hn1, t, by rw [h1]; simp [exitTo], h2⟩
  | ret => obtain ⟨t, h2⟩ := harr; exact ⟨.ret, a1, w1, hq _ _ _ _ hn1, t, h2⟩
end
section
variable {K V S R : Type} {P : Program} {md : Md} {b rest : Code} {ek : K → PV} {ev : V → PV} {ti d0 d1 li : Nat}
theorem leftM_all (L : List (K × V)) : leftM L (List.range L.length) [] = L := by
  unfold leftM
  rw [List.filter_eq_self.2 (fun _ _ => by simp), List.map_fst_zip (by simp)]
theorem mapLoopP {body : K → V → S → Option (S ⊕ R)} {fin : S → Option R} (L : List (K × V)) (E : S → Env) (H : S → List Nat → List MObj) (Q : R → Cx → Org → Ex → Act → World → Prop)
    (hb : nextOf b = some (ti, d0, d1, rest)) (h0 : Nat.blt d0 md.nt = true) (h1 : Nat.blt d1 md.nt = true) (hi : ∀ s, lookE ti (E s) = some (.iter li)) (hl : ∀ s x, (H s x)[li]? = some (.iterP (mapK ek L) (mapV ev L) x))
    (hset : ∀ s x y, (H s x).set li (.iterP (mapK ek L) (mapV ev L) y) = H s y)
    (hfin : ∀ (s : S) (x : List Nat) (r : R), fin s = some r → SemQ P md [.code rest, .inLoop b] ⟨nextE d0 d1 none (E s), H s x⟩ (Q r))
    (hbody : ∀ (k : K) (v : V) (s : S) (x : List Nat) (j : Nat) (s' : S), L[j]? = some (k, v) → body k v s = some (.inl s') → SemC P md [.code rest] ⟨nextE d0 d1 (some (ek k, ev v)) (E s), H s (x ++ [j])⟩ .normal ⟨E s', H s' (x ++ [j])⟩)
    (hout : ∀ (k : K) (v : V) (s : S) (x : List Nat) (j : Nat) (r : R), L[j]? = some (k, v) → body k v s = some (.inr r) → SemQ P md [.code rest, .inLoop b] ⟨nextE d0 d1 (some (ek k, ev v)) (E s), H s (x ++ [j])⟩ (Q r)) :
    ∀ (n : Nat) (s : S) (x : List Nat) (r : R) (items : List (K × V)), items.length = n → items.Perm (leftM L (List.range L.length) x) → (∀ p, p.Perm items → mfold body fin p s = some r) → SemQ P md [.code b, .inLoop b] ⟨E s, H s x⟩ (Q r) := by
  have hnb : (List.range L.length).Nodup := List.nodup_range
  intro n
  induction n with
  | zero =>
    intro s x r items hlen hperm hp
    have hnil := List.eq_nil_of_length_eq_zero hlen
    subst hnil
    refine SemQ.nextP (σ := ⟨E s, H s x⟩) hb h0 h1 (hi s) (hl s x) (fun _ => hfin s x r (hp [] (.refl _))) fun j k v hk hv hs => ?_
    have hjlt : j < L.length := by have := lt_of_lget hk; rwa [mapK_len] at this
    have := (leftM_pick (items := []) hnb (by simp) (List.getElem?_eq_getElem hjlt) (List.getElem?_range hjlt) hs).length_eq
    rw [← hperm.length_eq] at this
    simp at this
  | succ n ih =>
    intro s x r items hlen hperm0 hp
    refine SemQ.nextP (σ := ⟨E s, H s x⟩) hb h0 h1 (hi s) (hl s x) (fun hall => ?_) fun j k v hk hv hs => ?_
    · exfalso
      have : leftM L (List.range L.length) x = [] := by
        unfold leftM
        rw [List.map_eq_nil_iff, List.filter_eq_nil_iff]
        intro z hz
        have hz2 := (List.of_mem_zip hz).2
        rw [List.mem_range] at hz2
        have := hall z.2 (by rw [mapK_len]; exact hz2)
        simp [this]
      have hl := hperm0.length_eq
      rw [this, hlen] at hl
      simp at hl
    · have hjlt : j < L.length := by have := lt_of_lget hk; rwa [mapK_len] at this
      have hj := List.getElem?_eq_getElem hjlt
      generalize hkv : L[j] = kv at hj
      obtain ⟨kn, vn⟩ := kv
      have ek1 : k = ek kn := by rw [mapK_at ek hj] at hk; exact (Option.some.inj hk).symm
      have ev1 : v = ev vn := by rw [mapV_at ev hj] at hv; exact (Option.some.inj hv).symm
      subst ek1 ev1
      have hpick := leftM_pick (items := []) hnb (by simp) hj (List.getElem?_range hjlt) hs
      obtain ⟨q, hq⟩ : ∃ q, q = leftM L (List.range L.length) (x ++ [j]) := ⟨_, rfl⟩
      rw [← hq] at hpick
      have hperm : items.Perm ((kn, vn) :: q) := hperm0.trans hpick
      have hfold : ∀ p, p.Perm q → mfold body fin ((kn, vn) :: p) s = some r := fun p hpq => hp _ ((List.Perm.cons _ hpq).trans hperm.symm)
      rw [hset]
      have h0 := hfold q (.refl _)
      simp only [mfold] at h0
      refine obind_elim h0 fun o ho hr => ?_
      cases o with
      | inr y =>
        cases hr
        exact hout kn vn s x j _ hj ho
      | inl s' =>
        have hsem := hbody kn vn s x j s' hj ho
        refine SemQ.again hsem (ih s' (x ++ [j]) r q ?_ ?_ fun p hpq => ?_)
        · have := hperm.length_eq; simp at this; omega
        · rw [hq]
        · have := hfold p hpq
          simp only [mfold, ho, obind] at this
          exact this
theorem SemC.collect {id : Nat} {y : Code} {T : Type} {σ σ' : St} {e : Ex} {good : T → Prop} {τ : T → St} (hl : SemQ P md [.code b, .inLoop b] σ (fun Γ w0 e' a' w' => (e' = .exit id ∧ ∃ t, good t ∧ NowS Γ w0 (τ t) a' w') ∨ (e' = e ∧ e ≠ .normal ∧ e ≠ .exit id ∧ NowS Γ w0 σ' a' w')))
    (hr : ∀ t, good t → SemC P md [.code y] (τ t) e σ') : SemC P md [.code (.block id (.loop b)), .code y] σ e σ' := by
  intro Γ w0 r a w hok hn
  refine WT_seq (its := [.code (.block id (.loop b))]) (its' := [.code y]) (fun id k => exitTo_code id y k) (W_block (W_loop ((hl Γ w0 r a w hok hn).mono fun e' a' w' hh => ?_)))
  rcases hh with ⟨rfl, t, ht, hn'⟩ | ⟨rfl, h1, h2, hn'⟩
  · simp only [Ex.inBlock, if_true]
    exact hr t ht Γ w0 r a' w' hok hn'
  · cases e' with
    | normal => exact absurd rfl h1
    | ret => exact ⟨rfl, hn'⟩
    | exit id' =>
      have : id' ≠ id := fun h => h2 (by rw [h])
      simp only [Ex.inBlock, this, if_false]
      exact ⟨rfl, hn'⟩
def outE (e : Ex) (id : Nat) : Bool := match e with
  | .normal => false
  | .ret => true
  | .exit id' => !(Nat.beq id' id)
theorem mapCollect {y z : Code} {id : Nat} {body : K → V → S → Option (S ⊕ R)} {fin : S → Option R} (L : List (K × V)) (E : S → Env) (H : S → List Nat → List MObj) (τ : S → St) (post : R → Ex × St)
    (hc : z = .block id (.loop b)) (hb : nextOf b = some (ti, d0, d1, rest)) (h0 : Nat.blt d0 md.nt = true) (h1 : Nat.blt d1 md.nt = true) (hi : ∀ s, lookE ti (E s) = some (.iter li)) (hl : ∀ s x, (H s x)[li]? = some (.iterP (mapK ek L) (mapV ev L) x))
    (hset : ∀ s x y, (H s x).set li (.iterP (mapK ek L) (mapV ev L) y) = H s y)
    (hfin : ∀ (s : S) (x : List Nat) (r : R), fin s = some r → SemC P md [.code rest] ⟨nextE d0 d1 none (E s), H s x⟩ (.exit id) (τ s))
    (hbody : ∀ (k : K) (v : V) (s : S) (x : List Nat) (j : Nat) (s' : S), L[j]? = some (k, v) → body k v s = some (.inl s') → SemC P md [.code rest] ⟨nextE d0 d1 (some (ek k, ev v)) (E s), H s (x ++ [j])⟩ .normal ⟨E s', H s' (x ++ [j])⟩)
    (hout : ∀ (k : K) (v : V) (s : S) (x : List Nat) (j : Nat) (r : R), L[j]? = some (k, v) → body k v s = some (.inr r) → SemC P md [.code rest] ⟨nextE d0 d1 (some (ek k, ev v)) (E s), H s (x ++ [j])⟩ (post r).1 (post r).2 ∧ outE (post r).1 id = true)
    (hy : ∀ (s : S) (r : R), fin s = some r → SemC P md [.code y] (τ s) (post r).1 (post r).2)
    (s0 : S) (r : R) (hp : ∀ p, p.Perm L → mfold body fin p s0 = some r) : SemC P md [.code z, .code y] ⟨E s0, H s0 []⟩ (post r).1 (post r).2 := by
  subst hc
  refine SemC.collect (T := S) (good := fun s => fin s = some r) (τ := τ) ?_ (fun s h => hy s r h)
  refine mapLoopP (fin := fin) L E H (fun r Γ w0 e' a' w' => (e' = .exit id ∧ ∃ t, fin t = some r ∧ NowS Γ w0 (τ t) a' w') ∨ (e' = (post r).1 ∧ (post r).1 ≠ .normal ∧ (post r).1 ≠ .exit id ∧ NowS Γ w0 (post r).2 a' w')) hb h0 h1 hi hl hset
    (fun s x r h => SemQ.out (hfin s x r h) (by simp) fun Γ w0 a' w' hn => .inl ⟨rfl, s, h, hn⟩) hbody (fun k v s x j r hk h => ?_) L.length s0 [] r L rfl (by rw [leftM_all]) hp
  obtain ⟨h1, h2⟩ := hout k v s x j r hk h
  have g1 : (post r).1 ≠ .normal := fun h => by rw [h] at h2; cases h2
  have g2 : (post r).1 ≠ .exit id := fun h => by rw [h] at h2; simp [outE] at h2
  exact SemQ.out h1 g1 fun Γ w0 a' w' hn => .inr ⟨rfl, g1, g2, hn⟩
end
theorem SemC.cast0 {P : Program} {md : Md} {its : List Item} {σ σ1 σ' : St} {e : Ex} (h : SemC P md its σ e σ') (hs : σ = σ1) : SemC P md its σ1 e σ' := hs ▸ h
theorem SemC.rot {P : Program} {md : Md} {x y z : Code} {σ σ1 σ' : St} {e : Ex} (h1 : SemC P md [.code x] σ .normal σ1) (h2 : SemC P md [.code y, .code z] σ1 e σ') : SemC P md [.code (.seq (.seq x y) z)] σ e σ' := fun Γ w0 r a w hok hn =>
  WT_step (its' := [.code (.seq x y), .code z]) (fun b k cs => .one st_seq) (WT_step (its' := [.code x] ++ [.code y, .code z]) (fun b k cs => .one st_seq)
    (WT_seq (its := [.code x]) (its' := [.code y, .code z]) (fun id k => by simp [exitTo]) ((h1 Γ w0 r a w hok hn).mono fun e1 a1 w1 hh => by
      obtain ⟨rfl, hn1⟩ := hh
      exact h2 Γ w0 r a1 w1 hok hn1)))
theorem Weak.prune {m : Nat} {E : Env} {H : List MObj} {σ : St} (ks : List Nat) (h : (⟨Go.Idl.prune E ks, H⟩ : St) = σ) : Weak m ⟨E, H⟩ σ := h ▸ fun Γ w0 a w _ hn => Now.mono hn fun t iv ht => prune_spec ht
end Go.Idl
set_option linter.unusedSimpArgs false
set_option linter.unusedVariables false
namespace Go.Idl
open Go
theorem Weak.rebase {m : Nat} {E : Env} {H : List MObj} (t : Nat) {l off len sz sz' g : Nat} {x : Bool} {cs cs' : List IV} (hE : lookE t E = some (.msl l off len sz x)) (hl : H[l]? = some (.cells cs g)) (hs : cs.length = sz) (hg : 0 < g)
    (hc : (cs.drop off).take (len * g) = cs') (hn : cs'.length = len * g) (hz : cs'.length = sz') (ho : off ≤ sz) : Weak m ⟨E, H⟩ ⟨setE t (.msl H.length 0 len sz' x) E, H.set l .dead ++ [.cells cs' g]⟩ := by
  intro Γ w0 a w hle ⟨φ, h1, h2, h3, h4, h5, h6, h7, h8⟩
  obtain ⟨v, hv, hr⟩ := h1 t _ hE
  obtain ⟨arr, ty, ho1, ho2, ho3⟩ := h2.obj l _ hl
  have hlt := lt_of_lget hl
  have hlive := h2.lt l _ hl rfl
  have hget : ∀ (k : Nat) (o : MObj), (H.set l .dead ++ [MObj.cells cs' g])[k]? = some o → (k = H.length ∧ o = .cells cs' g) ∨ (k = l ∧ o = .dead) ∨ (k < H.length ∧ k ≠ l ∧ H[k]? = some o) := by
    intro k o hk
    by_cases hkl : k < H.length
    · rw [List.getElem?_append_left (by simpa using hkl), get_set] at hk
      split at hk
      · rename_i he
        cases hk
        exact .inr (.inl ⟨he.symm, rfl⟩)
      · rename_i he
        exact .inr (.inr ⟨hkl, fun h => he h.symm, hk⟩)
    · rw [List.getElem?_append_right (by simpa using hkl)] at hk
      simp only [List.length_set] at hk
      have : k - H.length = 0 := by
        rcases Nat.eq_zero_or_pos (k - H.length) with h | h
        · exact h
        · rw [List.getElem?_eq_none (by simp; omega)] at hk; cases hk
      rw [this] at hk
      simp at hk
      exact .inl ⟨by omega, hk.symm⟩
  have hnew : (H.set l .dead ++ [MObj.cells cs' g])[H.length]? = some (.cells cs' g) := by
    rw [List.getElem?_append_right (by simp)]; simp
  let φ' : Plc := upd φ H.length ((φ l).1, (φ l).2 + off)
  have hφN : φ' H.length = ((φ l).1, (φ l).2 + off) := upd_same ..
  have hφ : ∀ k, k ≠ H.length → φ' k = φ k := fun k hk => upd_ne φ _ hk
  have hown : ∀ b, Own φ' (H.set l .dead ++ [MObj.cells cs' g]) b → Own φ H b := by
    rintro b ⟨k, o, hk, hlv, hb⟩
    rcases hget k o hk with ⟨rfl, rfl⟩ | ⟨rfl, rfl⟩ | ⟨k1, k2, k3⟩
    · rw [hφN] at hb
      exact ⟨l, _, hl, rfl, hb⟩
    · cases hlv
    · rw [hφ k (by omega)] at hb
      exact ⟨k, o, k3, hlv, hb⟩
  have e : Ext φ H w.heap φ' (H.set l .dead ++ [MObj.cells cs' g]) w.heap := by
    refine ⟨Nat.le_refl _, fun _ _ _ => rfl, fun b hb _ => hown b hb, fun _ arr _ _ hb => ⟨arr, hb, rfl⟩, fun k o hk hh => ?_⟩
    have hkl := lt_of_lget hk
    by_cases he : l = k
    · subst he
      refine ⟨.dead, ?_, by simp, fun h => by cases h⟩
      rw [List.getElem?_append_left (by simpa using hkl), get_set, if_pos rfl, if_pos hkl]
    · refine ⟨o, ?_, hh, fun hlv => ⟨hlv, rfl, Nat.le_refl _, fun _ => hφ k (by omega)⟩⟩
      rw [List.getElem?_append_left (by simpa using hkl), get_set, if_neg he]; exact hk
  have hcell : ∀ (i : Nat) (iv : IV), cs'[i]? = some iv → cs[off + i]? = some iv ∧ i < len * g := by
    intro i iv hi
    have hlt2 : i < len * g := by rw [← hn]; exact lt_of_lget hi
    rw [← hc, List.getElem?_take_of_lt hlt2, List.getElem?_drop] at hi
    exact ⟨hi, hlt2⟩
  have hoff : len * g ≤ cs.length - off := by
    have := congrArg List.length hc
    rw [hn, List.length_take, List.length_drop] at this
    have := Nat.min_le_right (len * g) (cs.length - off)
    omega
  refine ⟨φ', fun u iv hu => ?_, ⟨fun k o hk => ?_, fun k k' o o' hk hk' hlv hlv' he => ?_, fun k o hk hlv => ?_⟩, h3, h4.ext e, h5, h6, h7, h8.trans e⟩
  · change lookE u (setE t (IV.msl H.length 0 len sz' x) E) = some iv at hu
    rw [lookE_setE] at hu
    split at hu
    · rename_i hb
      have := Nat.eq_of_beq_eq_true hb
      subst this
      cases hu
      refine ⟨v, hv, ?_⟩
      cases hr with
      | msl _ _ _ _ _ a cap hd hc2 hle2 hx =>
        obtain ⟨g1, g2⟩ := hc2 cs g hl
        obtain ⟨g3, g4⟩ := g2 hs
        obtain ⟨arr2, t2, fr2, k1, k2, k3⟩ := g4 hg
        refine .msl _ 0 len sz' x a cap ⟨_, hnew, by simp⟩ (fun ds g' hds => ?_) hle2 hx
        rw [hnew] at hds
        cases hds
        refine ⟨by omega, fun _ => ⟨by rw [hφN, g3]; simp, fun _ => ⟨arr2, t2, fr2, by rw [hφN]; exact k1, k2, fun _ => ?_⟩⟩⟩
        have := Nat.mul_le_mul_right g hle2
        omega
    · obtain ⟨v2, hv2, hr2⟩ := h1 u iv hu
      exact ⟨v2, hv2, hr2.ext e⟩
  · rcases hget k o hk with ⟨rfl, rfl⟩ | ⟨rfl, rfl⟩ | ⟨k1, k2, k3⟩
    · refine ⟨arr, ty, by rw [hφN]; exact ho1, by rw [hφN, hn]; simp only []; rcases Nat.eq_zero_or_pos (len * g) with hz0 | hz0 <;> omega, fun i iv hi => ?_⟩
      obtain ⟨q1, q2⟩ := hcell i iv hi
      obtain ⟨v2, hv2, hr2⟩ := ho3 _ _ q1
      exact ⟨v2, by rw [hφN]; simp only []; rw [Nat.add_assoc]; exact hv2, hr2.ext e⟩
    · trivial
    · exact (h2.obj k o k3).ext e (hφ k (by omega)) rfl
  · rcases hget k o hk with ⟨rfl, rfl⟩ | ⟨rfl, rfl⟩ | ⟨k1, k2, k3⟩
    · rcases hget k' o' hk' with ⟨rfl, rfl⟩ | ⟨rfl, rfl⟩ | ⟨q1, q2, q3⟩
      · rfl
      · cases hlv'
      · rw [hφN, hφ k' (by omega)] at he
        exact absurd (h2.inj l k' _ _ hl q3 rfl hlv' he).symm q2
    · cases hlv
    · rcases hget k' o' hk' with ⟨rfl, rfl⟩ | ⟨rfl, rfl⟩ | ⟨q1, q2, q3⟩
      · rw [hφN, hφ k (by omega)] at he
        exact absurd (h2.inj k l _ _ k3 hl hlv rfl he) k2
      · cases hlv'
      · rw [hφ k (by omega), hφ k' (by omega)] at he
        exact h2.inj k k' o o' k3 q3 hlv hlv' he
  · rcases hget k o hk with ⟨rfl, rfl⟩ | ⟨rfl, rfl⟩ | ⟨k1, k2, k3⟩
    · rw [hφN]; exact hlive
    · cases hlv
    · rw [hφ k (by omega)]; exact h2.lt k o k3 hlv
section
variable {α : Type} {f : α → PV} {n a len sz : Nat} {L : List α}
theorem row_take (he : Elem f n) (L : List α) (k : Nat) : (rowI f L).take (k * n) = rowI f (L.take k) := by
  induction L generalizing k with
  | nil => simp [rowI, rowP]
  | cons v r ih =>
    cases k with
    | zero => simp [rowI, rowP]
    | succ k =>
      have e1 : rowI f (v :: r) = (f v).cells.map .p ++ rowI f r := by unfold rowI rowP; rw [List.flatMap_cons, List.map_append]
      have e2 : rowI f ((v :: r).take (k + 1)) = (f v).cells.map .p ++ rowI f (r.take k) := by rw [List.take_succ_cons]; unfold rowI rowP; rw [List.flatMap_cons, List.map_append]
      have hl : ((f v).cells.map IV.p).length = n := by rw [List.length_map, he.len]
      rw [e1, e2, List.take_append, List.take_of_length_le (by rw [hl, Nat.succ_mul]; omega), hl, show (k + 1) * n - n = k * n from by rw [Nat.succ_mul]; omega, ih]
theorem row_dropn (he : Elem f n) (L : List α) (k : Nat) : (rowI f L).drop (k * n) = rowI f (L.drop k) := by
  induction L generalizing k with
  | nil => simp [rowI, rowP]
  | cons v r ih =>
    cases k with
    | zero => simp
    | succ k =>
      have e1 : rowI f (v :: r) = (f v).cells.map .p ++ rowI f r := by unfold rowI rowP; rw [List.flatMap_cons, List.map_append]
      have hl : ((f v).cells.map IV.p).length = n := by rw [List.length_map, he.len]
      rw [e1, List.drop_succ_cons, List.drop_append, List.drop_of_length_le (by rw [hl, Nat.succ_mul]; omega), hl, show (k + 1) * n - n = k * n from by rw [Nat.succ_mul]; omega, ih]; rfl
theorem part_row (he : Elem f n) (L : List α) (a len : Nat) : ((rowI f L).drop (0 + a * n)).take (len * n) = rowI f ((L.drop a).take len) := by
  rw [Nat.zero_add, row_dropn he, row_take he]
theorem part_row0 (he : Elem f n) (L : List α) (len : Nat) : ((rowI f L).drop 0).take (len * n) = rowI f (L.take len) := by
  rw [List.drop_zero, row_take he]
theorem row_eqlen {M : List α} (he : Elem f n) (h : M.length = L.length) : (rowI f M).length = (rowI f L).length := by rw [row_len he, row_len he, h]
theorem part_ln (h : a + len ≤ L.length) : ((L.drop a).take len).length = len := by rw [List.length_take, List.length_drop]; omega
theorem part_ln0 (h : len ≤ L.length) : (L.take len).length = len := by rw [List.length_take]; omega
theorem part_off (he : Elem f n) (hz : (rowI f L).length = sz) (h : a + len ≤ L.length) : 0 + a * n ≤ sz := by
  rw [← hz, row_len he, Nat.zero_add]; exact Nat.mul_le_mul_right n (by omega)
theorem part_len (he : Elem f n) (h : a + len ≤ L.length) : (rowI f ((L.drop a).take len)).length = len * n := by rw [row_len he, part_ln h]
theorem part_len0 (he : Elem f n) (h : len ≤ L.length) : (rowI f (L.take len)).length = len * n := by rw [row_len he, part_ln0 h]
end
theorem nat_at {i : Int} {j : Nat} (h : (i == (j : Int)) = true) : Int.toNat i = j := by rw [eq_of_beq h]; simp
theorem cell_at {cs : List IV} {v : IV} {i : Int} {o j n : Nat} (h : (i == (j : Int)) = true) (hv : cs[o + j * n]? = some v) : cs[o + Int.toNat i * n]? = some v := by rw [nat_at h]; exact hv
theorem put_at {cs cs' vs : List IV} {i : Int} {o j n : Nat} (h : (i == (j : Int)) = true) (hv : putCells cs (o + j * n) vs = cs') : putCells cs (o + Int.toNat i * n) vs = cs' := by rw [nat_at h]; exact hv
theorem fit_at {i : Int} {o j n k s : Nat} (h : (i == (j : Int)) = true) (hv : o + j * n + k ≤ s) : o + Int.toNat i * n + k ≤ s := by rw [nat_at h]; exact hv
theorem ge_at {i : Int} {j : Nat} (h : (i == (j : Int)) = true) : (0 : Int) ≤ i := by rw [eq_of_beq h]; omega
theorem lt_at {i : Int} {j n : Nat} (h : (i == (j : Int)) = true) (hn : j < n) : i < ((n : Nat) : Int) := by rw [eq_of_beq h]; omega
end Go.Idl
set_option linter.unusedSimpArgs false
set_option linter.unusedVariables false
namespace Go.Idl
open Go
theorem obind_some {α β : Type} (x : α) (f : α → Option β) : obind (some x) f = f x := rfl
theorem oif_t {β : Type} (x y : Option β) : oif true x y = x := rfl
theorem oif_f {β : Type} (x y : Option β) : oif false x y = y := rfl
theorem oif_pos {β : Type} {c : Bool} {x y : Option β} (h : c = true) : oif c x y = x := by subst h; rfl
theorem oif_neg {β : Type} {c : Bool} {x y : Option β} (h : c = false) : oif c x y = y := by subst h; rfl
theorem oif_ite {β : Type} (c : Bool) (x y : Option β) : oif c x y = if c = true then x else y := by cases c <;> rfl
theorem oif_dec {β : Type} (p : Prop) [Decidable p] (x y : Option β) : oif (decide p) x y = if p then x else y := by by_cases h : p <;> simp [h, oif]
theorem oif_bool (c : Bool) : oif c (some true) (some false) = some c := by cases c <;> rfl
theorem sg_nat {α : Type} (xs : List α) (i : Nat) : sg xs (i : Int) = xs[i]? := by simp [sg]
theorem sg_ge {α : Type} {xs : List α} {i : Nat} (h : i < xs.length) : sg xs (i : Int) = some xs[i] := by rw [sg_nat]; exact List.getElem?_eq_getElem h
theorem sg_int {α : Type} {xs : List α} {i : Int} (h0 : 0 ≤ i) (h : i < xs.length) : sg xs i = some (xs[i.toNat]'(by omega)) := by
  unfold sg; rw [if_pos h0]; exact List.getElem?_eq_getElem (by omega)
theorem stL_int {α : Type} {xs : List α} {i : Int} {v : α} (h0 : 0 ≤ i) (h : i < xs.length) : stL xs i v = some (xs.set i.toNat v) := by unfold stL; rw [if_pos ⟨h0, h⟩]
theorem wrap_id {n : Int} (h1 : -9223372036854775808 ≤ n) (h2 : n < 9223372036854775808) : IntKind.wrap .i64 n = n := by
  have e1 : (2:Int) ^ 64 = 18446744073709551616 := rfl
  have e2 : (2:Int) ^ (64 - 1) = 9223372036854775808 := rfl
  simp only [IntKind.wrap, IntKind.bits, IntKind.signed, Bool.true_and, decide_eq_true_eq, e1, e2]
  split <;> omega
theorem wrap_succ {k : Nat} (h : k < 1000000000000000000) : IntKind.wrap .i64 ((k : Int) + 1) = ((k + 1 : Nat) : Int) := by rw [wrap_id (by omega) (by omega)]; omega
theorem maxL1 (a b : Int) : maxL a [b] = if b > a then b else a := rfl
end Go.Idl
set_option linter.unusedSimpArgs false
set_option linter.unusedVariables false
set_option linter.unusedSectionVars false
namespace Go.Idl
open Go
theorem ai {a b : Prop} (x : a) (y : b) : a ∧ b := And.intro x y
theorem od {p : Prop} [d : Decidable p] (h : decide p = true) : p := of_decide_eq_true h
theorem rl {α : Type} (a : α) : a = a := rfl
section
variable {K V R : Type} [BEq K] [LawfulBEq K]
end
def keyR {V : Type} (p : Int × V) : Bool := decide (-9223372036854775808 ≤ p.1) && decide (p.1 < 9223372036854775808)
section
variable {K V S R : Type}
theorem mfold_comm {body : K → V → S → Option (S ⊕ R)} {fin : S → Option R} (good : K × V → Prop) (step : K → V → S → Option S) (hb : ∀ k v s, good (k, v) → body k v s = (step k v s).map .inl)
    (hc : ∀ k v k' v' s, good (k, v) → good (k', v') → k ≠ k' → (step k v s).bind (step k' v') = (step k' v' s).bind (step k v)) {p q : List (K × V)} (hp : p.Perm q) :
    (∀ x ∈ q, good x) → (q.map (·.1)).Nodup → ∀ s, mfold body fin p s = mfold body fin q s := by
  have run : ∀ (x : K × V) (l : List (K × V)) (s : S), good x → mfold body fin (x :: l) s = (step x.1 x.2 s).bind (mfold body fin l) := by
    rintro ⟨k, v⟩ l s hg
    show obind (body k v s) _ = _
    rw [hb k v s hg]
    cases step k v s <;> rfl
  induction hp with
  | nil => intro _ _ s; rfl
  | cons x h ih =>
    intro hg hn s
    simp only [List.map_cons, List.nodup_cons] at hn
    rw [run x _ s (hg x (List.mem_cons_self ..)), run x _ s (hg x (List.mem_cons_self ..))]
    congr 1
    funext t
    exact ih (fun y hy => hg y (List.mem_cons_of_mem _ hy)) hn.2 t
  | swap x y l =>
    intro hg hn s
    have gx := hg x (List.mem_cons_self ..)
    have gy := hg y (by simp)
    simp only [List.map_cons, List.nodup_cons, List.mem_cons, not_or] at hn
    rw [run y _ s gy, run x _ s gx]
    have e1 : (fun t => mfold body fin (x :: l) t) = fun t => (step x.1 x.2 t).bind (mfold body fin l) := by funext t; exact run x l t gx
    have e2 : (fun t => mfold body fin (y :: l) t) = fun t => (step y.1 y.2 t).bind (mfold body fin l) := by funext t; exact run y l t gy
    rw [show mfold body fin (x :: l) = fun t => (step x.1 x.2 t).bind (mfold body fin l) from e1, show mfold body fin (y :: l) = fun t => (step y.1 y.2 t).bind (mfold body fin l) from e2, ← Option.bind_assoc, ← Option.bind_assoc, hc y.1 y.2 x.1 x.2 s gy gx (fun h => hn.1.1 h.symm)]
  | trans h1 h2 ih1 ih2 =>
    intro hg hn s
    rw [ih1 (fun y hy => hg y (h2.mem_iff.1 hy)) ((h2.map _).nodup_iff.2 hn) s, ih2 hg hn s]
end
end Go.Idl
