/-
  Part B of a proof: the framework: an evaluator of straight code and loops, and its soundness.
-/
import Derived.Test.YtmkkkahidonnjaaA
import Derived.Below
import Derived.Orders
import Derived.RangeFuncRecord
import Derived.KernelRfl
import Derived.Maps.RangeRun
set_option linter.unusedSimpArgs false
set_option linter.unusedVariables false
namespace Go.Idl
open Go
def opndO (e : Env) : Option Operand → Option (Option IV)
  | none => some none
  | some x => match opnd e x with | some v => some (some v) | none => none
def opndPL (e : Env) : List (Nat × Operand) → Option (List (Nat × IV))
  | [] => some []
  | (k, x) :: r => match opnd e x, opndPL e r with | some v, some l => some ((k, v) :: l) | _, _ => none
def builtinC (P : Program) (hp : Nat → Option MObj) (n : Nat) (b : Builtin) (ats : List TypeId) (xs : List IV) (cl : Cl) : OR :=
  match b with
  | .len => match ats, xs with | [t], [x] => lenC P hp t x cl | _, _ => none
  | .append => match ats, xs with | [t, tx], [s, x] => (match sliceForm s with | true => appendC P hp n t tx s x cl | false => none) | _, _ => none
  | .copy => match ats, xs with | [t, _], [d, s] => copyC P hp t d s cl | _, _ => none
  | .clear => match ats, xs with | [t], [x] => clearC P hp t x cl | _, _ => none
  | .min => minmaxC false xs cl
  | .max => minmaxC true xs cl
  | .delete => match ats, xs with | [t, _], [x, k] => deleteC P hp t x k cl | _, _ => none
  | _ => none
def opC (P : Program) (hp : Nat → Option MObj) (n : Nat) (E : Env) (op : Op) (cl : Cl) : OR :=
  match op with
  | .move x => match opnd E x with | some v => some (v, .none, []) | none => none
  | .assign x => match opnd E x with | some v => some (v, .none, []) | none => none
  | .pick c a b => match opnd E c with
    | some (.p (.bool true)) => (match opnd E a with | some v => some (v, .none, []) | none => none)
    | some (.p (.bool false)) => (match opnd E b with | some v => some (v, .none, []) | none => none)
    | _ => none
  | .alloc t => allocC P n t
  | .box _ x => match opnd E x with | some v => boxC n v cl | none => none
  | .build t ps => match opndPL E ps.toList with | some l => buildC P t l cl | none => none
  | .buildSlice t len ps => match opndPL E ps.toList with | some l => buildSliceC P t len l | none => none
  | .load t x => match opnd E x with | some v => loadC P hp t v cl | none => none
  | .store t a x => match opnd E a, opnd E x with | some a, some v => storeC P hp t a v cl | _, _ => none
  | .nilCheck x => match opnd E x with | some v => nilCheckC v | none => none
  | .binOp op t x y _ => match opnd E x, opnd E y with | some a, some b => binC P op t a b cl | _, _ => none
  | .unOp op _ x => match opnd E x with | some v => unC op v cl | none => none
  | .convert src dst x => match opnd E x with | some v => convC P src dst v cl | none => none
  | .makeFunc (.func f) first cap => match opnds E first.toList, opnds E cap.toList with | some a, some b => some (mkFn f a b, .none, []) | _, _ => none
  | .makeSlice t l c => match opnd E l, opnd E c with | some a, some b => makeSliceC P n t a b cl | _, _ => none
  | .slice t x lo hi mx => match opnd E x, opndO E lo, opndO E hi, opndO E mx with | some v, some a, some b, some c => sliceC P hp t v a b c cl | _, _, _, _ => none
  | .fieldAddr s x f => match opnd E x with | some v => fieldAddrC P s v f | none => none
  | .field t x f => match opnd E x with | some v => fieldC P t v f | none => none
  | .indexAddr t x i => match opnd E x, opnd E i with | some a, some b => indexAddrC P t a b cl | _, _ => none
  | .index t x i => match opnd E x, opnd E i with | some a, some b => indexC P t a b cl | _, _ => none
  | .extract x i => match opnd E x with | some v => extractC v i | none => none
  | .makeMap t none => makeMapC P n t cl
  | .lookup t x k ok => match opnd E x, opnd E k with | some a, some b => lookupC P hp t a b ok cl | _, _ => none
  | .mapUpdate t m k x => match opnd E m, opnd E k, opnd E x with | some a, some b, some c => mapUpdateC P hp t a b c cl | _, _, _ => none
  | .mapEntry t m k => match opnd E m, opnd E k with | some a, some b => mapEntryC P hp t a b cl | _, _ => none
  | .entryStore t m s x => match opnd E m, opnd E s, opnd E x with | some a, some b, some c => entryStoreC hp a b c cl | _, _, _ => none
  | .range t x => match opnd E x with | some a => rangeC P hp n t a | none => none
  | .entry x => match opnd E x with | some a => entryC hp a cl | none => none
  | .call { callee := .builtin b, args, argTypes } => match opnds E args.toList with | some l => builtinC P hp n b argTypes.toList l cl | none => none
  | _ => none
section
variable {P : Program} {Γ : Cx} {φ : Plc} {H : List MObj} {w : World} {n : Nat} {E : Env} {ρ : Operand → Value}
def EOK (Γ : Cx) (h : Hp) (φ : Plc) (H : List MObj) (E : Env) (ρ : Operand → Value) : Prop := ∀ x iv, opnd E x = some iv → RI Γ h φ H iv (ρ x)
theorem opnds_sound (he : EOK Γ w.heap φ H E ρ) : ∀ (xs : List Operand) (l : List IV), opnds E xs = some l → RIL Γ w.heap φ H l (xs.map ρ)
  | [], l, h => by simp [opnds] at h; subst h; exact .nil
  | x :: xs, l, h => by
    simp only [opnds] at h
    split at h
    · rename_i v l' h1 h2
      cases h
      exact .cons _ _ _ _ (he x v h1) (opnds_sound he xs l' h2)
    · cases h
theorem opndPL_sound (he : EOK Γ w.heap φ H E ρ) : ∀ (xs : List (Nat × Operand)) (l : List (Nat × IV)), opndPL E xs = some l → PL Γ w.heap φ H l (xs.map fun (i, x) => (i, ρ x))
  | [], l, h => by simp [opndPL] at h; subst h; exact .nil
  | (k, x) :: xs, l, h => by
    simp only [opndPL] at h
    split at h
    · rename_i v l' h1 h2
      cases h
      exact .cons _ _ _ _ _ (he x v h1) (opndPL_sound he xs l' h2)
    · cases h
theorem opndO_sound (he : EOK Γ w.heap φ H E ρ) {x : Option Operand} {o : Option IV} (h : opndO E x = some o) : RIO Γ w.heap φ H o (x.map ρ) := by
  cases x with
  | none => simp [opndO] at h; subst h; trivial
  | some y =>
    simp only [opndO] at h
    split at h
    · rename_i v h1; cases h; exact he y v h1
    · cases h
theorem step_map {s t : Result Next} {iv : IV} {eff : Eff} (h : Step Γ φ H w s n iv eff) (e : t = s) : Step Γ φ H w t n iv eff := e ▸ h
theorem builtinC_sound {b : Builtin} {ats : Array TypeId} {ty : TypeId} {consts : Array Bool} {xs : List IV} {vs : List Value} {iv : IV} {cl : Cl} {eff : Eff} {obs : List Prop} {hp : Nat → Option MObj}
    (hhp : ∀ l o, hp l = some o → H[l]? = some o) (hk : HOK Γ w.heap φ H) (hX : ∀ b, Γ.X b → b < w.heap.size) (hf : Free n H) (hx : RIL Γ w.heap φ H xs vs)
    (hc : builtinC P hp n b ats.toList xs cl = some (iv, eff, obs)) (ho : All obs) : Step Γ φ H w ((builtin b ats ty consts ⟨vs⟩).run P w) n iv eff := by
  have one : ∀ (t : TypeId), ats.toList = [t] → ats = #[t] := fun t h => by rw [← Array.toArray_toList (xs := ats), h]
  have two : ∀ (t u : TypeId), ats.toList = [t, u] → ats = #[t, u] := fun t u h => by rw [← Array.toArray_toList (xs := ats), h]
  unfold builtinC at hc
  split at hc
  · split at hc
    · rename_i t x hats
      obtain rfl := one _ hats
      cases hx with
      | cons _ v _ _ h1 h2 => cases h2; exact lenC_sound hhp hk h1 hc ho
    · cases hc
  · split at hc
    · rename_i t tx s x hats
      obtain rfl := two _ _ hats
      split at hc
      · rename_i hform
        cases hx with
        | cons _ v _ _ h1 h2 => cases h2 with
          | cons _ v2 _ _ h3 h4 => cases h4; exact appendC_sound hhp hk hX hf h1 h3 hform hc ho
      · cases hc
    · cases hc
  · split at hc
    · rename_i t tx d s hats
      obtain rfl := two _ _ hats
      cases hx with
      | cons _ v _ _ h1 h2 => cases h2 with
        | cons _ v2 _ _ h3 h4 => cases h4; exact copyC_sound hhp hk hX h1 h3 hc ho
    · cases hc
  · split at hc
    · rename_i t x hats
      obtain rfl := one _ hats
      cases hx with
      | cons _ v _ _ h1 h2 => cases h2; exact clearC_sound hhp hk hX h1 hc ho
    · cases hc
  · exact minmaxC_sound (mx := false) hk hx hc ho
  · exact minmaxC_sound (mx := true) hk hx hc ho
  · split at hc
    · rename_i t tk x k hats
      obtain rfl := two _ _ hats
      cases hx with
      | cons _ v _ _ h1 h2 => cases h2 with
        | cons _ v2 _ _ h3 h4 => cases h4; exact deleteC_sound hhp hk hX h1 h3 hc ho
    · cases hc
  · cases hc
theorem opC_sound {o : Oper} {iv : IV} {cl : Cl} {eff : Eff} {obs : List Prop} {hp : Nat → Option MObj} (he : EOK Γ w.heap φ H E ρ) (hhp : ∀ l o, hp l = some o → H[l]? = some o) (hk : HOK Γ w.heap φ H)
    (hX : ∀ b, Γ.X b → b < w.heap.size) (hf : Free n H) (hc : opC P hp n E o.op cl = some (iv, eff, obs)) (ho : All obs) : Step Γ φ H w ((execOp ρ o).run P w) n iv eff := by
  obtain ⟨dst, op, ty, pos, after, guard⟩ := o
  simp only at hc
  unfold opC at hc
  split at hc
  · split at hc
    · rename_i v hv; cases hc; exact Step.same hk (he _ _ hv)
    · cases hc
  · split at hc
    · rename_i v hv; cases hc; exact Step.same hk (he _ _ hv)
    · cases hc
  · rename_i c a b
    split at hc
    · rename_i hcv
      split at hc
      · rename_i v hv
        cases hc
        have hcc := (he _ _ hcv).p_inv
        refine step_map (Step.same hk (he _ _ hv)) ?_
        simp only [execOp]
        generalize ρ c = u at hcc ⊢
        cases hcc
        rfl
      · cases hc
    · rename_i hcv
      split at hc
      · rename_i v hv
        cases hc
        have hcc := (he _ _ hcv).p_inv
        refine step_map (Step.same hk (he _ _ hv)) ?_
        simp only [execOp]
        generalize ρ c = u at hcc ⊢
        cases hcc
        rfl
      · cases hc
    · cases hc
  · exact allocC_sound hk hX hf hc
  · split at hc
    · rename_i v hv; exact boxC_sound hk hX hf (he _ _ hv) hc
    · cases hc
  · rename_i t ps
    split at hc
    · rename_i l hl
      have := buildC_sound (n := n) (vparts := ps.map fun (i, x) => (i, ρ x)) hk (by simpa using opndPL_sound he _ _ hl) hc ho
      exact this
    · cases hc
  · rename_i t len ps
    split at hc
    · rename_i l hl
      have := buildSliceC_sound (n := n) (vparts := ps.map fun (i, x) => (i, ρ x)) hk hX (by simpa using opndPL_sound he _ _ hl) hc
      exact this
    · cases hc
  · split at hc
    · rename_i v hv; exact loadC_sound hhp hk (he _ _ hv) hc ho
    · cases hc
  · split at hc
    · rename_i a v ha hv; exact storeC_sound hhp hk hX (he _ _ ha) (he _ _ hv) hc ho
    · cases hc
  · split at hc
    · rename_i v hv; exact nilCheckC_sound hk rfl (he _ _ hv) hc
    · cases hc
  · split at hc
    · rename_i a b ha hb; exact binC_sound hk (he _ _ ha) (he _ _ hb) hc ho
    · cases hc
  · split at hc
    · rename_i v hv; exact unC_sound hk (he _ _ hv) hc ho
    · cases hc
  · split at hc
    · rename_i v hv; exact convC_sound hk (he _ _ hv) hc ho
    · cases hc
  · rename_i f first cap
    split at hc
    · rename_i a b ha hb
      cases hc
      have h1 := opnds_sound he _ _ ha
      have h2 := opnds_sound he _ _ hb
      have := mkFn_sound (f := f) h1 h2
      refine step_map (Step.same hk this) ?_
      simp only [execOp]
      have e1 : first.map ρ = ⟨first.toList.map ρ⟩ := by apply Array.ext'; simp
      have e2 : cap.map ρ = ⟨cap.toList.map ρ⟩ := by apply Array.ext'; simp
      rw [e1, e2]; rfl
    · cases hc
  · split at hc
    · rename_i a b ha hb; exact makeSliceC_sound hk hX hf (he _ _ ha) (he _ _ hb) hc ho
    · cases hc
  · split at hc
    · rename_i v a b c hv ha hb hc'; exact sliceC_sound hhp hk (he _ _ hv) (opndO_sound he ha) (opndO_sound he hb) (opndO_sound he hc') hc ho
    · cases hc
  · split at hc
    · rename_i v hv; exact fieldAddrC_sound hk (he _ _ hv) hc
    · cases hc
  · split at hc
    · rename_i v hv; exact fieldC_sound hk (he _ _ hv) hc
    · cases hc
  · split at hc
    · rename_i a b ha hb; exact indexAddrC_sound hk (he _ _ ha) (he _ _ hb) hc ho
    · cases hc
  · split at hc
    · rename_i a b ha hb; exact indexC_sound hk (he _ _ ha) (he _ _ hb) hc ho
    · cases hc
  · split at hc
    · rename_i v hv; exact extractC_sound hk (he _ _ hv) hc
    · cases hc
  · exact makeMapC_sound hk hX hf hc
  · split at hc
    · rename_i a b ha hb; exact lookupC_sound hhp hk (he _ _ ha) (he _ _ hb) hc ho
    · cases hc
  · split at hc
    · rename_i a b c ha hb hcc; exact mapUpdateC_sound hhp hk hX (he _ _ ha) (he _ _ hb) (he _ _ hcc) hc ho
    · cases hc
  · split at hc
    · rename_i a b ha hb; exact mapEntryC_sound hhp hk hX (he _ _ ha) (he _ _ hb) hc ho
    · cases hc
  · split at hc
    · rename_i a b c ha hb hcc; exact entryStoreC_sound (t := 0) hhp hk hX (he _ _ ha) (he _ _ hb) (he _ _ hcc) hc ho
    · cases hc
  · split at hc
    · rename_i a ha; exact rangeC_sound hhp hk hX hf (he _ _ ha) hc
    · cases hc
  · split at hc
    · rename_i a ha; exact entryC_sound hhp hk (he _ _ ha) hc ho
    · cases hc
  · rename_i b args ats
    split at hc
    · rename_i l hl
      have h1 := opnds_sound he _ _ hl
      have := builtinC_sound (P := P) (ty := ty) (consts := args.map fun | .const _ => true | _ => false) hhp hk hX hf h1 hc ho
      refine step_map this ?_
      have e1 : args.map ρ = ⟨args.toList.map ρ⟩ := by apply Array.ext'; simp
      rw [← e1]
      simp only [execOp]
      rw [run_bnd (show (resolve ρ { callee := .builtin b, args := args, argTypes := ats } ty).run P w = .ok { target := .builtin b ats ty (args.map fun | .const _ => true | _ => false), args := args.map ρ } w from rfl)]
      rfl
    · cases hc
  · cases hc
end
end Go.Idl
set_option linter.unusedSimpArgs false
set_option linter.unusedVariables false
namespace Go.Idl
open Go
inductive Ex where
  | normal
  | exit (id : Nat)
  | ret
def atR (b : Frame) (r : Option Nat) (a : Act) (todo : List Item) : Frame :=
  { fn := b.fn, tmps := a.tmps, todo, defers := a.defers, mode := .run, kind := b.kind, roundOf := r }
def Arr (P : Program) (r : Option Nat) (m : Machine) (b : Frame) (k : List Item) (cs : List Frame) : Ex → Act → World → Prop
  | .normal, a, w => Steps P m (lone (atR b r a k) cs w)
  | .exit id, a, w => ∃ todo, exitTo id todo = exitTo id k ∧ Steps P m (lone (atR b r a (.code (.exit id) :: todo)) cs w)
  | .ret, a, w => ∃ todo, Steps P m (lone (atR b r a (.code .ret :: todo)) cs w)
theorem Arr.of_steps {P : Program} {r : Option Nat} {m m₁ : Machine} {b : Frame} {k : List Item} {cs : List Frame} {e : Ex} {a : Act} {w : World}
    (h : Steps P m m₁) (h' : Arr P r m₁ b k cs e a w) : Arr P r m b k cs e a w := by
  cases e with
  | normal => exact h.trans h'
  | exit id => obtain ⟨t, h1, h2⟩ := h'; exact ⟨t, h1, h.trans h2⟩
  | ret => obtain ⟨t, h2⟩ := h'; exact ⟨t, h.trans h2⟩
def WT (P : Program) (r : Option Nat) (its : List Item) (Q : Ex → Act → World → Prop) (a : Act) (w : World) : Prop :=
  ∀ (b : Frame) (k : List Item) (cs : List Frame), ∃ e a' w', Q e a' w' ∧ Arr P r (lone (atR b r a (its ++ k)) cs w) b k cs e a' w'
abbrev W (P : Program) (r : Option Nat) (c : Code) (Q : Ex → Act → World → Prop) (a : Act) (w : World) : Prop := WT P r [.code c] Q a w
section
variable {P : Program} {r : Option Nat} {b : Frame} {a : Act} {k : List Item} {cs : List Frame} {w : World} {Q : Ex → Act → World → Prop}
theorem evalR (b : Frame) (a : Act) (todo : List Item) : (atR b r a todo).eval = a.eval := by funext x; cases x <;> rfl
theorem st_skip : step P (lone (atR b r a (.code .skip :: k)) cs w) = .next (lone (atR b r a k) cs w) := step_lone_go (by simp [stepG, stepG.exec, atR])
theorem st_label {l : Nat} : step P (lone (atR b r a (.code (.label l) :: k)) cs w) = .next (lone (atR b r a k) cs w) := step_lone_go (by simp [stepG, stepG.exec, atR])
theorem st_inBlock {id : Nat} : step P (lone (atR b r a (.inBlock id :: k)) cs w) = .next (lone (atR b r a k) cs w) := step_lone_go (by simp [stepG, stepG.exec, atR])
theorem st_inScope {c : Code} : step P (lone (atR b r a (.inScope c :: k)) cs w) = .next (lone (atR b r a k) cs w) := step_lone_go (by simp [stepG, stepG.exec, atR])
theorem st_seq {x y : Code} : step P (lone (atR b r a (.code (.seq x y) :: k)) cs w) = .next (lone (atR b r a (.code x :: .code y :: k)) cs w) := step_lone_go (by simp [stepG, stepG.exec, atR])
theorem st_scope {x : Code} : step P (lone (atR b r a (.code (.scope x) :: k)) cs w) = .next (lone (atR b r a (.code x :: .inScope x :: k)) cs w) := step_lone_go (by simp [stepG, stepG.exec, atR])
theorem st_cond {c : Operand} {x y : Code} {t : Bool} (h : a.eval c = .bool t) :
    step P (lone (atR b r a (.code (.cond c x y) :: k)) cs w) = .next (lone (atR b r a (.code (if t then x else y) :: k)) cs w) :=
  step_lone_go (by
    have := congrFun (evalR (r := r) b a (.code (.cond c x y) :: k)) c
    simp only [atR] at this
    simp [stepG, stepG.exec, atR, this, h])
theorem st_block {id : Nat} {c : Code} : step P (lone (atR b r a (.code (.block id c) :: k)) cs w) = .next (lone (atR b r a (.code c :: .inBlock id :: k)) cs w) := step_lone_go (by simp [stepG, stepG.exec, atR])
theorem st_loop {c : Code} : step P (lone (atR b r a (.code (.loop c) :: k)) cs w) = .next (lone (atR b r a (.code c :: .inLoop c :: k)) cs w) := step_lone_go (by simp [stepG, stepG.exec, atR])
theorem st_inLoop {c : Code} : step P (lone (atR b r a (.inLoop c :: k)) cs w) = .next (lone (atR b r a (.code c :: .inLoop c :: k)) cs w) := step_lone_go (by simp [stepG, stepG.exec, atR])
theorem st_exit {id : Nat} {k' : List Item} (h : exitTo id k = some k') : step P (lone (atR b r a (.code (.exit id) :: k)) cs w) = .next (lone (atR b r a k') cs w) := step_lone_go (by simp [stepG, stepG.exec, atR, h])
theorem st_region {id : Nat} {ops : Array Oper} : step P (lone (atR b r a (.code (.region id ops false) :: k)) cs w) = .next (lone (atR b r a (.inRegion ops (List.range ops.size) :: k)) cs w) :=
  step_lone_go (by simp [stepG, stepG.exec, atR])
theorem st_region_draw {id : Nat} {ops : Array Oper} : step P (lone (atR b r a (.code (.region id ops true) :: k)) cs w) =
      .next (lone (atR b r a (.inRegion ops (Region.schedule (P.follows .mixedOrders) ops (w.tape w.drawn (.order b.fn id))) :: k)) cs { w with drawn := w.drawn + 1 }) :=
  step_lone_go (by simp [stepG, stepG.exec, atR, choose, Sem.run, Question.forced, Question.cut])
theorem st_region_end {ops : Array Oper} : step P (lone (atR b r a (.inRegion ops [] :: k)) cs w) = .next (lone (atR b r a k) cs w) := step_lone_go (by simp [stepG, stepG.exec, atR])
theorem finishR (b : Frame) (a : Act) (ops : Array Oper) (i : Nat) (rest : List Nat) (k : List Item) (v : Value) :
    (atR b r a (.inRegion ops (i :: rest) :: k)).finish v = atR b r (a.put ((ops[i]?).bind (·.dst)) v) (.inRegion ops rest :: k) := by
  cases h : (ops[i]?).bind (·.dst) <;> simp [Frame.finish, atR, Act.put, h]
theorem st_op_skip {ops : Array Oper} {i : Nat} {rest : List Nat} (h : ((ops[i]?).map (Region.wanted · (yielded ops a.tmps))).getD false = false) :
    step P (lone (atR b r a (.inRegion ops (i :: rest) :: k)) cs w) = .next (lone (atR b r (a.put ((ops[i]?).bind (·.dst)) undef) (.inRegion ops rest :: k)) cs w) := by
  rw [← finishR]
  exact step_lone_go (by
    have h' := h
    simp only [atR] at *
    simp [stepG, stepG.exec, h'])
def isDefer : Op → Bool
  | .defer _ => true
  | _ => false
theorem stepG_opR {ops : Array Oper} {i : Nat} {rest : List Nat} {o : Oper} (ho : ops[i]? = some o) (hw : Region.wanted o (yielded ops a.tmps) = true) (hd : isDefer o.op = false) :
    stepG P true { frame := atR b r a (.inRegion ops (i :: rest) :: k), callers := cs, status := .running, dying := none } w =
      stepG.apply P true (atR b r a (.inRegion ops (i :: rest) :: k)) cs none (execOp a.eval o) w := by
  have he := evalR (r := r) b a (.inRegion ops (i :: rest) :: k)
  simp only [atR] at he
  have : stepG P true { frame := atR b r a (.inRegion ops (i :: rest) :: k), callers := cs, status := .running, dying := none } w =
      stepG.oper P true (atR b r a (.inRegion ops (i :: rest) :: k)) cs none w := by
    simp [stepG, stepG.exec, atR, ho, hw]
  rw [this]
  unfold stepG.oper
  have ho' : (atR b r a (.inRegion ops (i :: rest) :: k)).oper? = some o := by simp [Frame.oper?, atR, ho]
  simp only [ho']
  split
  · rename_i l c h1 h2; rw [h2] at hd; cases hd
  · rw [evalR]
theorem st_op_value {ops : Array Oper} {i : Nat} {rest : List Nat} {o : Oper} {nx : Next} {v : Value} {w' : World} (ho : ops[i]? = some o) (hw : Region.wanted o (yielded ops a.tmps) = true) (hd : isDefer o.op = false)
    (hr : (execOp a.eval o).run P w = .ok nx w') (hn : nextVal nx = some v) :
    step P (lone (atR b r a (.inRegion ops (i :: rest) :: k)) cs w) = .next (lone (atR b r (a.put o.dst v) (.inRegion ops rest :: k)) cs w') := by
  have hfin : (atR b r a (.inRegion ops (i :: rest) :: k)).finish v = atR b r (a.put o.dst v) (.inRegion ops rest :: k) := by rw [finishR, ho]; rfl
  refine step_lone_go ?_
  rw [stepG_opR ho hw hd, ← hfin]
  cases nx <;> simp [nextVal] at hn <;> subst hn <;> simp [stepG.apply, hr]
theorem st_op_enter {ops : Array Oper} {i : Nat} {rest : List Nat} {o : Oper} {f : FuncId} {args : Array Value} {w' : World} (ho : ops[i]? = some o) (hw : Region.wanted o (yielded ops a.tmps) = true) (hd : isDefer o.op = false)
    (hr : (execOp a.eval o).run P w = .ok (.enter f args) w') :
    step P (lone (atR b r a (.inRegion ops (i :: rest) :: k)) cs w) = .next (lone (Frame.enter P f args .normal) (atR b r a (.inRegion ops (i :: rest) :: k) :: cs) w') := by
  refine step_lone_go ?_
  rw [stepG_opR ho hw hd]
  simp [stepG.apply, hr, atR]
theorem steps_op_call {ops : Array Oper} {i : Nat} {rest : List Nat} {o : Oper} {f : FuncId} {args : Array Value} {w' : World} {R : Value → World → Prop} (ho : ops[i]? = some o) (hw : Region.wanted o (yielded ops a.tmps) = true)
    (hd : isDefer o.op = false) (hr : (execOp a.eval o).run P w = .ok (.enter f args) w') (hc : Calls P f args w' fun e w'' => ∃ v, e = .returned v ∧ R v w'') :
    ∃ v w'', R v w'' ∧ Steps P (lone (atR b r a (.inRegion ops (i :: rest) :: k)) cs w) (lone (atR b r (a.put o.dst v) (.inRegion ops rest :: k)) cs w'') := by
  obtain ⟨e, w'', fr, ⟨v, rfl, hR⟩, hs, _, hl⟩ := hc (atR b r a (.inRegion ops (i :: rest) :: k) :: cs)
  refine ⟨v, w'', hR, .head (st_op_enter ho hw hd hr) (Steps.trans hs (.one ?_))⟩
  have hfin : (atR b r a (.inRegion ops (i :: rest) :: k)).finish v = atR b r (a.put o.dst v) (.inRegion ops rest :: k) := by rw [finishR, ho]; rfl
  rw [← hfin]
  exact step_leave_returned hl
theorem WT.mono {its : List Item} {Q' : Ex → Act → World → Prop} (h : WT P r its Q a w) (hq : ∀ e a w, Q e a w → Q' e a w) : WT P r its Q' a w :=
  fun b k cs => let ⟨e, a', w', q, s⟩ := h b k cs; ⟨e, a', w', hq _ _ _ q, s⟩
theorem W_skip (h : Q .normal a w) : W P r .skip Q a w := fun _ _ _ => ⟨.normal, a, w, h, .one st_skip⟩
theorem W_label {l : Nat} (h : Q .normal a w) : W P r (.label l) Q a w := fun _ _ _ => ⟨.normal, a, w, h, .one st_label⟩
theorem W_exit {id : Nat} (h : Q (.exit id) a w) : W P r (.exit id) Q a w := fun _ k _ => ⟨.exit id, a, w, h, k, rfl, .refl _ _⟩
theorem W_ret (h : Q .ret a w) : W P r .ret Q a w := fun _ k _ => ⟨.ret, a, w, h, k, .refl _ _⟩
def Ex.andThen (next : Act → World → Prop) (Q : Ex → Act → World → Prop) : Ex → Act → World → Prop
  | .normal, a, w => next a w
  | e, a, w => Q e a w
theorem exitTo_code (id : Nat) (c : Code) (k : List Item) : exitTo id (.code c :: k) = exitTo id k := by simp [exitTo]
theorem WT_seq {its its' : List Item} (hpl : ∀ (id : Nat) (k : List Item), exitTo id (its' ++ k) = exitTo id k) (h : WT P r its (Ex.andThen (WT P r its' Q) Q) a w) : WT P r (its ++ its') Q a w := by
  intro b k cs
  obtain ⟨e, a₁, w₁, hq, harr⟩ := h b (its' ++ k) cs
  rw [List.append_assoc]
  cases e with
  | normal =>
    obtain ⟨e₂, a₂, w₂, hq₂, harr₂⟩ := hq b k cs
    exact ⟨e₂, a₂, w₂, hq₂, .of_steps harr harr₂⟩
  | exit id => obtain ⟨t, h1, h2⟩ := harr; exact ⟨.exit id, a₁, w₁, hq, t, h1.trans (hpl id k), h2⟩
  | ret => exact ⟨.ret, a₁, w₁, hq, harr⟩
theorem WT_step {its its' : List Item} {a' : Act} {w' : World} (hs : ∀ (b : Frame) (k : List Item) (cs : List Frame), Steps P (lone (atR b r a (its ++ k)) cs w) (lone (atR b r a' (its' ++ k)) cs w')) (h : WT P r its' Q a' w') : WT P r its Q a w :=
  fun b k cs => let ⟨e, a₂, w₂, q, s⟩ := h b k cs; ⟨e, a₂, w₂, q, .of_steps (hs b k cs) s⟩
theorem W_seq {x y : Code} (h : W P r x (Ex.andThen (W P r y Q) Q) a w) : W P r (.seq x y) Q a w :=
  WT_step (its' := [.code x, .code y]) (fun b k cs => .one st_seq) (WT_seq (its := [.code x]) (its' := [.code y]) (fun id k => exitTo_code id y k) h)
theorem W_cond {c : Operand} {x y : Code} {t : Bool} (hc : a.eval c = .bool t) (h : W P r (if t then x else y) Q a w) : W P r (.cond c x y) Q a w :=
  WT_step (its' := [.code (if t then x else y)]) (fun b k cs => .one (st_cond hc)) h
def Ex.inBlock (id : Nat) (Q : Ex → Act → World → Prop) : Ex → Act → World → Prop
  | .exit id', a, w => if id' = id then Q .normal a w else Q (.exit id') a w
  | e, a, w => Q e a w
theorem W_block {id : Nat} {c : Code} (h : W P r c (Ex.inBlock id Q) a w) : W P r (.block id c) Q a w := by
  intro b k cs
  obtain ⟨e, a₁, w₁, hq, harr⟩ := h b (.inBlock id :: k) cs
  cases e with
  | normal => exact ⟨.normal, a₁, w₁, hq, .head st_block (Steps.trans harr (.one st_inBlock))⟩
  | exit id' =>
    obtain ⟨t, h1, h2⟩ := harr
    by_cases hid : id' = id
    · simp only [Ex.inBlock, hid, if_true] at hq
      subst hid
      exact ⟨.normal, a₁, w₁, hq, .head st_block (Steps.trans h2 (.one (st_exit (by rw [h1]; simp [exitTo]))))⟩
    · simp only [Ex.inBlock, hid, if_false] at hq
      have : (id == id') = false := by simp; exact fun h => hid h.symm
      exact ⟨.exit id', a₁, w₁, hq, t, by rw [h1]; simp [exitTo, this], .head st_block h2⟩
  | ret => obtain ⟨t, h2⟩ := harr; exact ⟨.ret, a₁, w₁, hq, t, .head st_block h2⟩
theorem W_scope {c : Code} (h : W P r c Q a w) : W P r (.scope c) Q a w := by
  intro b k cs
  obtain ⟨e, a₁, w₁, hq, harr⟩ := h b (.inScope c :: k) cs
  cases e with
  | normal => exact ⟨.normal, a₁, w₁, hq, .head st_scope (Steps.trans harr (.one st_inScope))⟩
  | exit id' => obtain ⟨t, h1, h2⟩ := harr; exact ⟨.exit id', a₁, w₁, hq, t, by rw [h1]; simp [exitTo], .head st_scope h2⟩
  | ret => obtain ⟨t, h2⟩ := harr; exact ⟨.ret, a₁, w₁, hq, t, .head st_scope h2⟩
def WJ (P : Program) (r : Option Nat) (c : Code) (Q : Ex → Act → World → Prop) (a : Act) (w : World) : Prop := WT P r [.code c, .inLoop c] Q a w
theorem W_loop {c : Code} (h : WJ P r c Q a w) : W P r (.loop c) Q a w := WT_step (its' := [.code c, .inLoop c]) (fun b k cs => .one st_loop) h
theorem WJ_round {c : Code} (h : W P r c (Ex.andThen (WJ P r c Q) Q) a w) : WJ P r c Q a w := by
  intro b k cs
  obtain ⟨e, a₁, w₁, hq, harr⟩ := h b (.inLoop c :: k) cs
  cases e with
  | normal =>
    obtain ⟨e₂, a₂, w₂, hq₂, harr₂⟩ := hq b k cs
    exact ⟨e₂, a₂, w₂, hq₂, .of_steps (Steps.trans harr (.one st_inLoop)) harr₂⟩
  | exit id => obtain ⟨t, h1, h2⟩ := harr; exact ⟨.exit id, a₁, w₁, hq, t, by rw [h1]; simp [exitTo], h2⟩
  | ret => exact ⟨.ret, a₁, w₁, hq, harr⟩
theorem W_region {id : Nat} {ops : Array Oper} (h : WT P r [.inRegion ops (List.range ops.size)] Q a w) : W P r (.region id ops false) Q a w :=
  WT_step (its' := [.inRegion ops (List.range ops.size)]) (fun b k cs => .one st_region) h
theorem W_region_draw {id : Nat} {ops : Array Oper} (h : ∀ t, WT P r [.inRegion ops (Region.schedule (P.follows .mixedOrders) ops t)] Q a w.drew) : W P r (.region id ops true) Q a w :=
  fun b k cs => let ⟨e, a', w', q, s⟩ := h _ b k cs; ⟨e, a', w', q, .of_steps (.one st_region_draw) s⟩
theorem WT_regionEnd {ops : Array Oper} (h : Q .normal a w) : WT P r [.inRegion ops []] Q a w := fun _ _ _ => ⟨.normal, a, w, h, .one st_region_end⟩
end
def Rounds (P : Program) (l : Nat) (f : FuncId) (tm : Array Value) (as bo : Code) (w : World) (Q : Value → World → Prop) : Prop :=
  ∀ (c : Frame) (cs : List Frame), ∃ v w', Q v w' ∧ Steps P (lone (Frame.round l f tm as bo .normal) (c :: cs) w) (lone (c.finish v) cs w')
theorem Rounds.imp {P : Program} {l : Nat} {f : FuncId} {tm : Array Value} {as bo : Code} {w : World} {Q Q' : Value → World → Prop} (h : Rounds P l f tm as bo w Q) (hq : ∀ v w', Q v w' → Q' v w') : Rounds P l f tm as bo w Q' :=
  fun c cs => let ⟨v, w', q, s⟩ := h c cs; ⟨v, w', hq _ _ q, s⟩
section
variable {P : Program} {r : Option Nat} {b : Frame} {a : Act} {k : List Item} {cs : List Frame} {w : World}
theorem steps_op_round {ops : Array Oper} {i : Nat} {rest : List Nat} {o : Oper} {l : Nat} {f : FuncId} {tm : Array Value} {as bo : Code} {Q : Value → World → Prop} (ho : ops[i]? = some o) (hw : Region.wanted o (yielded ops a.tmps) = true)
    (hd : isDefer o.op = false) (hr : (execOp a.eval o).run P w = .ok (.round l f tm as bo) w) (hc : Rounds P l f tm as bo w Q) :
    ∃ v w'', Q v w'' ∧ Steps P (lone (atR b r a (.inRegion ops (i :: rest) :: k)) cs w) (lone (atR b r (a.put o.dst v) (.inRegion ops rest :: k)) cs w'') := by
  obtain ⟨v, w'', hq, hs⟩ := hc (atR b r a (.inRegion ops (i :: rest) :: k)) cs
  have hfin : (atR b r a (.inRegion ops (i :: rest) :: k)).finish v = atR b r (a.put o.dst v) (.inRegion ops rest :: k) := by rw [finishR, ho]; rfl
  rw [hfin] at hs
  have hstep : step P (lone (atR b r a (.inRegion ops (i :: rest) :: k)) cs w) = .next (lone (Frame.round l f tm as bo .normal) (atR b r a (.inRegion ops (i :: rest) :: k) :: cs) w) := by
    refine step_lone_go ?_
    rw [stepG_opR ho hw hd]
    simp [stepG.apply, hr, atR]
  exact ⟨v, w'', hq, .head hstep hs⟩
theorem st_beginRound {l : Nat} {w' : World} (hr : (Instr.beginRound l).run P w = .ok () w') :
    step P (lone (atR b (some l) a (.beginRound :: k)) cs w) = .next (lone (atR b (some l) a k) cs w') :=
  step_lone_go (by simp [stepG, stepG.exec, stepG.apply, atR, Sem.runT_eq, hr, Result.andThen, Frame.finish])
variable {c : Frame}
theorem st_round_end {l : Nat} {v : Value} {w' : World} (hk : b.kind = .normal) (hr : (Instr.endRound l none).run P w = .ok v w') :
    step P (lone (atR b (some l) a []) (c :: cs) w) = .next (lone (c.finish v) cs w') :=
  step_lone_go (by simp [stepG, stepG.exec, atR, hk, Sem.runT_eq, hr, doReturn])
theorem st_round_ret {l : Nat} {v : Value} {w' : World} (hk : b.kind = .normal) (hr : (Instr.endRound l (some .ret)).run P w = .ok v w') :
    step P (lone (atR b (some l) a (.code .ret :: k)) (c :: cs) w) = .next (lone (c.finish v) cs w') :=
  step_lone_go (by simp [stepG, stepG.exec, atR, hk, Sem.runT_eq, hr, doReturn])
theorem st_round_exit {l id : Nat} {v : Value} {w' : World} (hk : b.kind = .normal) (hx : exitTo id k = none) (hr : (Instr.endRound l (some (.exit id))).run P w = .ok v w') :
    step P (lone (atR b (some l) a (.code (.exit id) :: k)) (c :: cs) w) = .next (lone (c.finish v) cs w') :=
  step_lone_go (by simp [stepG, stepG.exec, atR, hk, hx, Sem.runT_eq, hr, doReturn])
def jumpOf : Ex → Option Code
  | .normal => none
  | .ret => some .ret
  | .exit id => some (.exit id)
theorem rounds_of {l : Nat} {f : FuncId} {tm : Array Value} {as bo : Code} {w : World} {Q : Value → World → Prop}
    (h : W P (some l) as (fun e a1 w1 => e = .normal ∧ ∃ w2, (Instr.beginRound l).run P w1 = .ok () w2 ∧ W P (some l) bo (fun e2 _ w3 => ∃ v w4, (Instr.endRound l (jumpOf e2)).run P w3 = .ok v w4 ∧ Q v w4) a1 w2) ⟨tm, []⟩ w) :
    Rounds P l f tm as bo w Q := by
  intro c cs
  let b : Frame := { (default : Frame) with fn := f, kind := .normal, roundOf := some l }
  have hb : Frame.round l f tm as bo .normal = atR b (some l) ⟨tm, []⟩ ([.code as] ++ [.beginRound, .code bo]) := by simp [Frame.round, atR, b]
  obtain ⟨e, a1, w1, ⟨rfl, w2, h1, h2⟩, harr⟩ := h b [.beginRound, .code bo] (c :: cs)
  obtain ⟨e2, a2, w3, ⟨v, w4, h3, h4⟩, harr2⟩ := h2 b [] (c :: cs)
  refine ⟨v, w4, h4, ?_⟩
  rw [hb]
  refine Steps.trans harr (.head (st_beginRound h1) ?_)
  cases e2 with
  | normal => exact Steps.trans harr2 (.one (st_round_end rfl h3))
  | ret => obtain ⟨todo, hs⟩ := harr2; exact Steps.trans hs (.one (st_round_ret rfl h3))
  | exit id => obtain ⟨todo, hx, hs⟩ := harr2; exact Steps.trans hs (.one (st_round_exit rfl (by rw [hx]; rfl) h3))
abbrev rCall (g : Operand) (l : Nat) : Call := { callee := .value g, args := #[.const (.func (.yield l) #[] #[])], argTypes := #[] }
theorem finish_inRangeFunc (l : Nat) (v : Value) : (atR b r a (.inRangeFunc l :: k)).finish v = atR b r a (.endRangeFunc l :: k) := by
  simp [Frame.finish, atR]
theorem st_endRangeFunc {l : Nat} {jump : Option Code} {w' : World} (h : (Instr.endLoop l).run P w = .ok jump w') :
    step P (lone (atR b r a (.endRangeFunc l :: k)) cs w) = .next (lone (atR b r a ((jump.map Item.code).toList ++ k)) cs w') :=
  step_lone_go (by simp [stepG, stepG.exec, atR, Sem.runT_eq, h, GStep.bare_after])
theorem st_rangeFunc {g : Operand} {ps : Array Tmp} {assign body : Code} {l : Nat} {mark : List Deferred} {w₁ w₁' w₂ : World} {d : Deferred} {f : FuncId} {args : Array Value}
    (he : (Instr.enterLoop b.fn a.tmps ps assign body r).run P w = .ok (l, mark) w₁)
    (hres : (resolve a.eval (rCall g l) 0).run P w₁ = .ok d w₁') (hinv : (invoke d.target d.args).run P w₁' = .ok (.enter f args) w₂) :
    step P (lone (atR b r a (.code (.rangeFunc g ps assign body) :: k)) cs w) =
      .next (lone (Frame.enter P f args .normal) (atR b r { a with defers := mark ++ a.defers } (.inRangeFunc l :: k) :: cs) w₂) :=
  step_lone_go (by
    have hev := evalR (r := r) b { a with defers := mark ++ a.defers } (.inRangeFunc l :: k)
    simp only [atR] at hev
    have hres' : Sem.run P (resolve ({ tmps := a.tmps, defers := mark ++ a.defers } : Act).eval { callee := .value g, args := #[.const (.func (.yield l) #[] #[])], argTypes := #[] } 0) w₁ = .ok d w₁' := hres
    simp [stepG, stepG.exec, atR, Sem.runT_eq, he, GStep.bare_after, stepG.apply, hev, Sem.run_bind, hres', hinv, Result.andThen])
theorem W_rangeFunc {g : Operand} {ps : Array Tmp} {assign body : Code} {Q : Ex → Act → World → Prop}
    (h : ∀ fn, ∃ (l : Nat) (mark : List Deferred) (w₁ : World) (d : Deferred) (w₁' : World) (f : FuncId) (args : Array Value) (w₂ : World),
      (Instr.enterLoop fn a.tmps ps assign body r).run P w = .ok (l, mark) w₁ ∧ (resolve a.eval (rCall g l) 0).run P w₁ = .ok d w₁' ∧ (invoke d.target d.args).run P w₁' = .ok (.enter f args) w₂ ∧
      Calls P f args w₂ fun e w₃ => ∃ v e' w₄, e = .returned v ∧ (Instr.endLoop l).run P w₃ = .ok (jumpOf e') w₄ ∧ Q e' { a with defers := mark ++ a.defers } w₄) :
    W P r (.rangeFunc g ps assign body) Q a w := by
  intro b k cs
  obtain ⟨l, mark, w₁, d, w₁', f, args, w₂, he, hres, hinv, hcall⟩ := h b.fn
  have henter := st_rangeFunc (P := P) (b := b) (a := a) (r := r) (k := k) (cs := cs) (w := w) he hres hinv
  obtain ⟨e, w₃, fr, ⟨v, e', w₄, rfl, hend, hq⟩, hs, _, hl⟩ := hcall (atR b r { a with defers := mark ++ a.defers } (.inRangeFunc l :: k) :: cs)
  have sback : Steps P (lone (atR b r a (.code (.rangeFunc g ps assign body) :: k)) cs w) (lone (atR b r { a with defers := mark ++ a.defers } (((jumpOf e').map Item.code).toList ++ k)) cs w₄) := by
    refine .head henter (Steps.trans hs (.head ?_ (.one (st_endRangeFunc hend))))
    rw [← finish_inRangeFunc l v]; exact step_leave_returned hl
  refine ⟨e', _, w₄, hq, ?_⟩
  cases e' with
  | normal => exact sback
  | ret => exact ⟨k, sback⟩
  | exit id => exact ⟨k, rfl, sback⟩
end
end Go.Idl
set_option linter.unusedSimpArgs false
set_option linter.unusedVariables false
namespace Go.Idl
open Go
structure Rel (Γ : Cx) (φ : Plc) (σ : St) (a : Act) (w : World) : Prop where
  env : ∀ t iv, lookE t σ.env = some iv → ∃ v : Value, a.tmps[t]? = some v ∧ RI Γ w.heap φ σ.heap iv v
  hok : HOK Γ w.heap φ σ.heap
  xlt : ∀ b, Γ.X b → b < w.heap.size
  dfr : Defs Γ φ σ.heap w.heap a.defers
  n0 : Γ.n0 ≤ w.heap.size
  nt : Γ.nt ≤ a.tmps.size
def Runs (P : Program) (f : FuncId) (args : List PV) (Q : PV → Prop) : Prop :=
  ∀ (X : Nat → Prop) (w : World) (vs : List Value), (∀ b, X b → b < w.heap.size) → RPL w.heap X args vs →
    Calls P f ⟨vs⟩ w fun e w' => ∃ v, e = .returned v ∧ ∃ r, Q r ∧ RP w'.heap X r v ∧ RowKit.Below w.heap.size w w'
def FnOK (P : Program) (f : FuncId) : Prop := ∃ fn, P.funcs[f]? = some fn ∧ (fn.name == "runtime.NumGoroutine") = false ∧ fn.body.isSome = true
def CallP (P : Program) (f : FuncId) (args : List PV) (r : PV) : Prop := FnOK P f ∧ Runs P f args (· = r)
def RunsO (P : Program) (f : FuncId) (args : List PV) (cs : List PV) (len es : Nat) : Prop :=
  ∀ (X : Nat → Prop) (w : World) (vs : List Value), (∀ b, X b → b < w.heap.size) → RPL w.heap X args vs →
    Calls P f ⟨vs⟩ w fun e w' => ∃ v, e = .returned v ∧ RowKit.Below w.heap.size w w' ∧ ∃ (b off cap : Nat) (arr : Array Value) (t : TypeId) (us : List Value), v = .slice (some ⟨b, off, none⟩) len cap ∧ len ≤ cap ∧ w.heap.size ≤ b ∧
      w'.heap[b]? = some (.cells arr t (0, 0)) ∧ off + cap * es ≤ arr.size ∧ RPL w'.heap (fun k => X k ∨ k = b) cs us ∧ us.length = len * es ∧ ∀ (i : Nat) (u : Value), us[i]? = some u → arr[off + i]? = some u
def CallO (P : Program) (f : FuncId) (args : List PV) (cs : List IV) (len es : Nat) : Prop := FnOK P f ∧ 0 < es ∧ ∃ ps, cs = ps.map IV.p ∧ RunsO P f args ps len es
mutual
inductive PVle : PV → PV → Prop
  | refl (v : PV) : PVle v v
  | nil (x : Bool) : PVle .nilsl (.sl [] x)
  | sle (x y : Bool) (h : y = true → x = true) : PVle (.sle x) (.sl [] y)
  | flag (xs : List PV) (x y : Bool) (h : y = true → x = true) : PVle (.sl xs x) (.sl xs y)
  | ref (cs ds : List PV) (h : PVleL cs ds) : PVle (.ref cs) (.ref ds)
  | agg (cs ds : List PV) (h : PVleL cs ds) : PVle (.agg cs) (.agg ds)
  | tup (cs ds : List PV) (h : PVleL cs ds) : PVle (.tup cs) (.tup ds)
  | junk (v : PV) : PVle v .junk
  | fn (f : FuncId) (a a' b b' : List PV) (ha : PVleL a a') (hb : PVleL b b') : PVle (.fn f a b) (.fn f a' b')
inductive PVleL : List PV → List PV → Prop
  | nil : PVleL [] []
  | cons (v v' : PV) (vs vs' : List PV) (h1 : PVle v v') (h2 : PVleL vs vs') : PVleL (v :: vs) (v' :: vs')
end
theorem PVle.sound {h : Hp} {X : Nat → Prop} {p q : PV} (hle : PVle p q) : ∀ {v : Value}, RP h X p v → RP h X q v := by
  refine PVle.rec (motive_1 := fun p q _ => ∀ {v : Value}, RP h X p v → RP h X q v) (motive_2 := fun ps qs _ => ∀ {vs : List Value}, RPL h X ps vs → RPL h X qs vs) ?_ ?_ ?_ ?_ ?_ ?_ ?_ ?_ ?_ ?_ ?_ hle
  · intro v x hr; exact hr
  · intro x v hr; cases hr; exact .sl0 x
  · intro x y hxy v hr
    cases hr with
    | sle _ a cap hr hx hxc => exact .sl [] y a cap 0 [] hr hx .nil (fun _ h => by cases h) (Nat.zero_le _) (fun h => hxc (hxy h))
  · intro xs x y hxy v hr
    cases hr with
    | sl _ _ a cap es vs hr hx hl he hc hxc => exact .sl _ _ a cap es vs hr hx hl he hc (fun h => hxc (hxy h))
    | sl0 _ => exact .sl0 y
  · intro cs ds _ ih v hr
    cases hr with
    | ref _ a vs hr hx hl => exact .ref _ a vs hr hx (ih hl)
  · intro cs ds _ ih v hr
    cases hr with
    | agg _ vs hl => exact .agg _ vs (ih hl)
  · intro cs ds _ ih v hr
    cases hr with
    | tup _ vs hl => exact .tup _ vs (ih hl)
  · intro v x _; exact .junk _
  · intro f a a' b b' _ _ ih1 ih2 v hr
    cases hr with
    | fn _ _ _ u w h1 h2 => exact .fn _ _ _ u w (ih1 h1) (ih2 h2)
  · intro vs hr; cases hr; exact .nil
  · intro v v' vs vs' _ _ ih1 ih2 xs hr
    cases hr with
    | cons _ x _ xs h1 h2 => exact .cons _ _ _ _ (ih1 h1) (ih2 h2)
theorem PVleL.sound {h : Hp} {X : Nat → Prop} : ∀ {p q : List PV}, PVleL p q → ∀ {v : List Value}, RPL h X p v → RPL h X q v
  | _, _, .nil, _, hr => hr
  | _, _, .cons v v' vs vs' h1 h2, _, .cons _ x _ xs r1 r2 => .cons _ _ _ _ (h1.sound r1) (PVleL.sound h2 r2)
mutual
inductive SnapR (h : Nat → Option MObj) : IV → PV → Prop
  | p (v v' : PV) (hle : PVle v v') : SnapR h (.p v) v'
  | ptr (l off sz : Nat) (cs : List IV) (g : Nat) (ps : List PV) (hl : h l = some (.cells cs g)) (hs : cs.length = sz) (hc : SnapL h (cs.drop off) ps) : SnapR h (.ptr l off sz) (.ref ps)
  | msl (l off len sz : Nat) (x x' : Bool) (cs : List IV) (g es : Nat) (xs : List PV) (hl : h l = some (.cells cs g)) (hs : cs.length = sz) (hn : xs.length = len) (he : ∀ y ∈ xs, y.cells.length = es)
      (hle : off + len * es ≤ sz) (hx : x' = true → x = true) (hc : SnapL h ((cs.drop off).take (len * es)) (xs.flatMap PV.cells)) : SnapR h (.msl l off len sz x) (.sl xs x')
  | mmap (l : Nat) (ks vs : List PV) (hl : h l = some (.map ks vs)) : SnapR h (.mmap l) (.map ks vs)
  | fn (f : FuncId) (a b : List IV) (pa pb : List PV) (ha : SnapL h a pa) (hb : SnapL h b pb) : SnapR h (.fn f a b) (.fn f pa pb)
  | agg (cs : List IV) (ps : List PV) (hc : SnapL h cs ps) : SnapR h (.agg cs) (.agg ps)
  | tup (cs : List IV) (ps : List PV) (hc : SnapL h cs ps) : SnapR h (.tup cs) (.tup ps)
  | junk (v : IV) : SnapR h v .junk
inductive SnapL (h : Nat → Option MObj) : List IV → List PV → Prop
  | nil : SnapL h [] []
  | cons (v : IV) (p : PV) (vs : List IV) (ps : List PV) (h1 : SnapR h v p) (h2 : SnapL h vs ps) : SnapL h (v :: vs) (p :: ps)
end
theorem SnapL.pure (h : Nat → Option MObj) : ∀ (l : List PV), SnapL h (l.map .p) l
  | [] => .nil
  | p :: l => .cons _ _ _ _ (.p p p (.refl p)) (SnapL.pure h l)
section
variable {P : Program} {Γ : Cx} {φ : Plc} {H : List MObj} {w : World} {n : Nat}
theorem snap_sound {hp : Nat → Option MObj} (hk : HOK Γ w.heap φ H) (hhp : ∀ l o, hp l = some o → H[l]? = some o) {Y : Nat → Prop} (hY : ∀ b, Y b → Γ.X b ∨ Own φ H b)
    (hfree : ∀ l o, hp l = some o → o.live = true → ¬ Y (φ l).1) {v : IV} {p : PV} (hsn : SnapR hp v p) : ∀ {x : Value}, RI Γ w.heap φ H v x → RP w.heap Y p x := by
  refine SnapR.rec (motive_1 := fun v p _ => ∀ {x : Value}, RI Γ w.heap φ H v x → RP w.heap Y p x) (motive_2 := fun vs ps _ => ∀ {xs : List Value}, RIL Γ w.heap φ H vs xs → RPL w.heap Y ps xs)
    ?_ ?_ ?_ ?_ ?_ ?_ ?_ ?_ ?_ ?_ hsn
  · intro v v' hle x hr
    exact hle.sound (hr.p_inv.keeps fun b o hb hx => ⟨hb, fun hy => hx (hY b hy)⟩)
  · intro l off sz cs g ps hl hs hc ih x hr
    cases hr with
    | ptr _ _ _ a hd hcc =>
      have ha := (hcc cs g (hhp _ _ hl)).2 hs
      subst ha
      obtain ⟨arr, t, h1, h2, h3⟩ := hk.obj l _ (hhp _ _ hl)
      obtain ⟨vs, hvs, hcell⟩ := hk.cells (hhp _ _ hl)
      refine .ref _ _ (vs.drop off) ⟨rfl, arr, t, _, h1, fun i v hi => ?_⟩ (hfree l _ hl rfl) (ih (RIL.drop off hvs))
      simp only [List.getElem?_drop] at hi
      have := hcell _ _ hi
      rw [cell_of (h := ⟨(φ l).1, (φ l).2 + (off + i), none⟩) h1 rfl] at this
      rw [show (φ l).2 + off + i = (φ l).2 + (off + i) from by omega]; exact this
  · intro l off len sz x x' cs g es xs hl hs hn he hle hx hc ih y hr
    cases hr with
    | msl _ _ _ _ _ a cap hd hcc hlc hxx =>
      have ha := ((hcc cs g (hhp _ _ hl)).2 hs).1
      subst ha
      obtain ⟨arr, t, h1, h2, h3⟩ := hk.obj l _ (hhp _ _ hl)
      obtain ⟨vs, hvs, hcell⟩ := hk.cells (hhp _ _ hl)
      subst hn
      refine .sl _ _ _ _ es ((vs.drop off).take (xs.length * es)) ⟨rfl, arr, t, _, h1, fun i v hi => ?_⟩ (hfree l _ hl rfl) (ih (RIL.take _ (RIL.drop off hvs))) he hlc (fun h => hxx (hx h))
      simp only [List.getElem?_drop, List.getElem?_take] at hi
      split at hi
      · have := hcell _ _ hi
        rw [cell_of (h := ⟨(φ l).1, (φ l).2 + (off + i), none⟩) h1 rfl] at this
        rw [show (φ l).2 + off + i = (φ l).2 + (off + i) from by omega]; exact this
      · cases hi
  · intro l ks vs hl x hr
    cases hr with
    | mmap _ r hd hcc =>
      obtain ⟨es, clock, h1, h2, h3, h4, h5⟩ := hk.obj l _ (hhp _ _ hl)
      have := hcc _ (hhp _ _ hl) rfl
      subst this
      exact .map _ _ _ es clock h1 (hfree l _ hl rfl) (h2.keeps fun b o hb hx => ⟨hb, fun hy => hx (hY b hy)⟩) (h3.keeps fun b o hb hx => ⟨hb, fun hy => hx (hY b hy)⟩) h4 h5
  · intro f a b pa pb ha hb iha ihb x hr
    cases hr with
    | fn _ _ _ va vb h1 h2 => exact .fn f _ _ va vb (iha h1) (ihb h2)
  · intro cs ps hc ih x hr
    cases hr with
    | agg _ vs h1 => exact .agg _ vs (ih h1)
  · intro cs ps hc ih x hr
    cases hr with
    | tup _ vs h1 => exact .tup _ vs (ih h1)
  · intro v x hr
    exact .junk _
  · intro xs hr
    cases hr; exact .nil
  · intro v p vs ps h1 h2 ih1 ih2 xs hr
    cases hr with
    | cons _ u _ us r1 r2 => exact .cons _ _ _ _ (ih1 r1) (ih2 r2)
theorem snapL_sound {hp : Nat → Option MObj} (hk : HOK Γ w.heap φ H) (hhp : ∀ l o, hp l = some o → H[l]? = some o) {Y : Nat → Prop} (hY : ∀ b, Y b → Γ.X b ∨ Own φ H b)
    (hfree : ∀ l o, hp l = some o → o.live = true → ¬ Y (φ l).1) : ∀ {v : List IV} {p : List PV} {x : List Value}, SnapL hp v p → RIL Γ w.heap φ H v x → RPL w.heap Y p x
  | [], [], _, .nil, .nil => .nil
  | _ :: _, _ :: _, _, .cons v p vs ps h1 h2, .cons _ u _ us r1 r2 => .cons _ _ _ _ (snap_sound hk hhp hY hfree h1 r1) (snapL_sound hk hhp hY hfree h2 r2)
end
def flatS : PV → Bool
  | .bool _ => true
  | .int _ _ => true
  | .str _ => true
  | _ => false
def flatL : List PV → Bool
  | [] => true
  | v :: r => match flatS v with | true => flatL r | false => false
def flatV : PV → Bool
  | .agg cs => flatL cs
  | .tup cs => flatL cs
  | v => flatS v
section
variable {h h' : Hp} {X Y : Nat → Prop}
theorem flatS_any {v : PV} {x : Value} (hf : flatS v = true) (hr : RP h X v x) : RP h' Y v x := by
  cases hr <;> simp [flatS] at hf
  · exact .bool _
  · exact .int _ _
  · exact .str _
theorem flatL_any : ∀ {l : List PV} {xs : List Value}, flatL l = true → RPL h X l xs → RPL h' Y l xs
  | [], _, _, .nil => .nil
  | v :: r, _, hf, .cons _ x _ xs h1 h2 => by
    simp only [flatL] at hf
    split at hf
    · rename_i hv; exact .cons _ _ _ _ (flatS_any hv h1) (flatL_any hf h2)
    · cases hf
theorem flatV_any {v : PV} {x : Value} (hf : flatV v = true) (hr : RP h X v x) : RP h' Y v x := by
  cases hr with
  | agg cs vs hl => exact .agg _ _ (flatL_any hf hl)
  | tup cs vs hl => exact .tup _ _ (flatL_any hf hl)
  | bool b => exact .bool _
  | int k n => exact .int _ _
  | str s => exact .str _
  | _ => simp [flatV, flatS] at hf
end
def kill (ls : List Nat) (H : List MObj) : List MObj := match ls with
  | [] => H
  | l :: r => kill r (H.set l .dead)
def memL (l : Nat) : List Nat → Bool
  | [] => false
  | k :: r => match Nat.beq k l with | true => true | false => memL l r
section
variable {Γ : Cx} {φ : Plc} {H : List MObj} {h : Hp}
theorem kill_one (hk : HOK Γ h φ H) (l : Nat) (hd : H[l]? ≠ some .hole) : HOK Γ h φ (H.set l .dead) ∧ Ext φ H h φ (H.set l .dead) h := by
  have pick : ∀ (k : Nat) (q : MObj), (H.set l .dead)[k]? = some q → q.live = true → H[k]? = some q ∧ k ≠ l := by
    intro k q hq hl
    rw [get_set] at hq
    split at hq
    · split at hq
      · cases hq; cases hl
      · cases hq
    · rename_i hne; exact ⟨hq, fun he => hne he.symm⟩
  have e : Ext φ H h φ (H.set l .dead) h := by
    refine ⟨Nat.le_refl _, fun _ _ _ => rfl, fun b ⟨k, q, hq, hlq, hb⟩ _ => ⟨k, q, (pick k q hq hlq).1, hlq, hb⟩, fun b arr t fr hb => ⟨arr, hb, rfl⟩, fun k q hq hh => ?_⟩
    by_cases hkl : l = k
    · subst hkl
      exact ⟨.dead, by rw [get_set, if_pos rfl, if_pos (lt_of_lget hq)], by simp, fun hl => by cases hl⟩
    · exact ⟨q, by rw [get_set, if_neg hkl]; exact hq, hh, fun hl => ⟨hl, rfl, Nat.le_refl _, fun _ => rfl⟩⟩
  refine ⟨⟨fun k q hq => ?_, fun k k' q q' hq hq' hlq hlq' heq => hk.inj k k' q q' (pick k q hq hlq).1 (pick k' q' hq' hlq').1 hlq hlq' heq, fun k q hq hlq => hk.lt k q (pick k q hq hlq).1 hlq⟩, e⟩
  by_cases hlq : q.live = true
  · exact ObjOK.ext e rfl rfl (hk.obj k q (pick k q hq hlq).1)
  · cases q <;> simp [MObj.live] at hlq <;> trivial
end
end Go.Idl
set_option linter.unusedSimpArgs false
set_option linter.unusedVariables false
namespace Go.Idl
open Go
section fold
variable {β : Type}
def fold (W : Nat → Nat → Option β) (S : Nat → Bool) : Nat → (Nat → Option β) → Nat → Option β
  | 0, f, t => f t
  | n + 1, f, t => match S n with
    | true => (match W n t with | some v => some v | none => fold W S n f t)
    | false => fold W S n f t
theorem fold_congr {W W' : Nat → Nat → Option β} {S S' : Nat → Bool} {f : Nat → Option β} {t : Nat} : ∀ {n : Nat}, (∀ k, k < n → W k t = W' k t) → (∀ k, k < n → (W k t).isSome = true → S k = S' k) → fold W S n f t = fold W' S' n f t
  | 0, _, _ => rfl
  | n + 1, h1, h2 => by
    have ih := fold_congr (f := f) (n := n) (fun k hk => h1 k (by omega)) (fun k hk => h2 k (by omega))
    simp only [fold]
    rw [← h1 n (by omega)]
    cases hw : W n t with
    | none =>
      cases S n <;> cases S' n <;> simp [ih]
    | some v =>
      rw [h2 n (by omega) (by simp [hw])]
      cases S' n <;> simp [ih]
theorem fold_cut {W : Nat → Nat → Option β} {S : Nat → Bool} {f : Nat → Option β} {t m : Nat} : ∀ {n : Nat}, m ≤ n → (∀ k, m ≤ k → k < n → S k = true → W k t = none) → fold W S n f t = fold W S m f t
  | 0, h, _ => by simp at h; subst h; rfl
  | n + 1, h, hh => by
    by_cases he : m = n + 1
    · subst he; rfl
    · have ih := fold_cut (f := f) (n := n) (show m ≤ n by omega) (fun k h1 h2 => hh k h1 (by omega))
      simp only [fold]
      cases hs : S n with
      | false => exact ih
      | true => simp only; rw [hh n (by omega) (by omega) hs]; exact ih
def addS (S : Nat → Bool) (i : Nat) : Nat → Bool := fun k => if k = i then true else S k
theorem fold_sees {W : Nat → Nat → Option β} {S : Nat → Bool} {f : Nat → Option β} {t i n : Nat} {before : Nat → Nat → Prop} (hi : i ≤ n) (hS : S i = false) (hdown : ∀ k j, S j = true → before k j → S k = true)
    (hanc : ∀ j, before j i → S j = true) (hlt : ∀ j k, before j k → j < k) (hord : ∀ j, j < n → j ≠ i → (W j t).isSome = true → before j i ∨ before i j) (hself : i < n → W i t = none ∨ True) :
    fold W S n f t = fold W (fun _ => true) i f t := by
  rw [fold_cut hi]
  · refine fold_congr (fun _ _ => rfl) fun k hk hw => ?_
    rcases hord k (by omega) (by omega) hw with h | h
    · exact hanc k h
    · have := hlt _ _ h; omega
  · intro k h1 h2 h3
    cases hw : W k t with
    | none => rfl
    | some v =>
      by_cases hki : k = i
      · subst hki; rw [hS] at h3; cases h3
      · rcases hord k h2 hki (by simp [hw]) with h | h
        · have := hlt _ _ h; omega
        · have := hdown i k h3 h; rw [hS] at this; cases this
theorem fold_add {W : Nat → Nat → Option β} {S : Nat → Bool} {f : Nat → Option β} {t i n : Nat} {before : Nat → Nat → Prop} (hi : i < n) (hS : S i = false) (hdown : ∀ k j, S j = true → before k j → S k = true)
    (hlt : ∀ j k, before j k → j < k) (hord : (W i t).isSome = true → ∀ j, j < n → j ≠ i → (W j t).isSome = true → before j i ∨ before i j) :
    fold W (addS S i) n f t = match W i t with | some v => some v | none => fold W S n f t := by
  cases hw : W i t with
  | none =>
    simp only
    refine fold_congr (fun _ _ => rfl) fun k hk hh => ?_
    simp only [addS]
    split
    · rename_i he; subst he; rw [hw] at hh; cases hh
    · rfl
  | some v =>
    simp only
    rw [fold_cut (m := i + 1) (by omega)]
    · simp [fold, addS, hw]
    · intro k h1 h2 h3
      cases hk : W k t with
      | none => rfl
      | some u =>
        simp only [addS, if_neg (show k ≠ i by omega)] at h3
        rcases hord (by simp [hw]) k h2 (by omega) (by simp [hk]) with h | h
        · have := hlt _ _ h; omega
        · have := hdown i k h3 h; rw [hS] at this; cases this
end fold
end Go.Idl
set_option linter.unusedSimpArgs false
set_option linter.unusedVariables false
namespace Go.Idl
open Go
def callTarget (E : Env) (op : Op) : Option (FuncId × List IV) := match op with
  | .call { callee := .value f, args := args, argTypes := _ } => match opnd E f, opnds E args.toList with
    | some (.p (.fn g a b)), some l => some (g, (a.map .p ++ l) ++ b.map .p)
    | some (.fn g a b), some l => some (g, (a ++ l) ++ b)
    | _, _ => none
  | _ => none
def killable (hp : Nat → Option MObj) : List Nat → Bool
  | [] => true
  | l :: r => match hp l with
    | some .hole => false
    | some _ => killable hp r
    | none => false
def only (ks : List Nat) (hp : Nat → Option MObj) : Nat → Option MObj := fun l => match memL l ks with | true => hp l | false => none
def dieW : List Nat → List (Nat × MObj)
  | [] => []
  | l :: r => (l, .dead) :: dieW r
def one (l : Nat) (o : MObj) : Nat → Option MObj := fun k => match Nat.beq k l with | true => some o | false => none
def snapObs (hp : Nat → Option MObj) : List IV → List PV → Option (List Prop)
  | [], [] => some []
  | v :: vs, p :: ps => match snapObs hp vs ps with
    | some r => (match v with
      | .p q => some (PVle q p :: r)
      | .msl l off len sz x => (match hp l with | some o => some (SnapR (one l o) (.msl l off len sz x) p :: r) | none => none)
      | .ptr l off sz => (match hp l with | some o => some (SnapR (one l o) (.ptr l off sz) p :: r) | none => none)
      | .mmap l => (match hp l with | some o => some (SnapR (one l o) (.mmap l) p :: r) | none => none)
      | _ => none)
    | none => none
  | _, _ => none
theorem SnapR.mono {h h' : Nat → Option MObj} (hh : ∀ l o, h l = some o → h' l = some o) {v : IV} {p : PV} (hs : SnapR h v p) : SnapR h' v p := by
  refine SnapR.rec (motive_1 := fun v p _ => SnapR h' v p) (motive_2 := fun vs ps _ => SnapL h' vs ps) ?_ ?_ ?_ ?_ ?_ ?_ ?_ ?_ ?_ ?_ hs
  · intro v v' hle; exact .p v v' hle
  · intro l off sz cs g ps hl hs _ ih; exact .ptr l off sz cs g ps (hh _ _ hl) hs ih
  · intro l off len sz x x' cs g es xs hl hs hn he hle hx _ ih; exact .msl l off len sz x x' cs g es xs (hh _ _ hl) hs hn he hle hx ih
  · intro l ks vs hl; exact .mmap l ks vs (hh _ _ hl)
  · intro f a b pa pb _ _ ih1 ih2; exact .fn f a b pa pb ih1 ih2
  · intro cs ps _ ih; exact .agg cs ps ih
  · intro cs ps _ ih; exact .tup cs ps ih
  · intro v; exact .junk v
  · exact .nil
  · intro v p vs ps _ _ ih1 ih2; exact .cons v p vs ps ih1 ih2
theorem one_sub {hp : Nat → Option MObj} {l : Nat} {o : MObj} (h : hp l = some o) : ∀ k q, one l o k = some q → hp k = some q := by
  intro k q hk
  unfold one at hk
  split at hk
  · rename_i hb; have := Nat.eq_of_beq_eq_true hb; subst this; rw [h]; exact hk
  · cases hk
theorem snapObs_sound {hp : Nat → Option MObj} : ∀ {vs : List IV} {ps : List PV} {obs : List Prop}, snapObs hp vs ps = some obs → All obs → SnapL hp vs ps
  | [], [], _, _, _ => .nil
  | v :: vs, p :: ps, obs, h, ho => by
    simp only [snapObs] at h
    split at h
    · rename_i r hr
      split at h
      · cases h; exact .cons _ _ _ _ (.p _ _ ho.1) (snapObs_sound hr ho.2)
      · split at h
        · rename_i o ho2; cases h; exact .cons _ _ _ _ (SnapR.mono (one_sub ho2) ho.1) (snapObs_sound hr ho.2)
        · cases h
      · split at h
        · rename_i o ho2; cases h; exact .cons _ _ _ _ (SnapR.mono (one_sub ho2) ho.1) (snapObs_sound hr ho.2)
        · cases h
      · split at h
        · rename_i o ho2; cases h; exact .cons _ _ _ _ (SnapR.mono (one_sub ho2) ho.1) (snapObs_sound hr ho.2)
        · cases h
      · cases h
    · cases h
  | [], _ :: _, _, h, _ => by simp [snapObs] at h
  | _ :: _, [], _, h, _ => by simp [snapObs] at h
abbrev CR := Option (IV × List (Nat × MObj) × List Prop)
def callC (P : Program) (hp : Nat → Option MObj) (E : Env) (op : Op) (cl : Cl) : CR := match callTarget E op with
  | some (g, l) => match cl with
    | .call r => (match allP l with | some ps => some (.p r, [], [CallP P g ps r]) | none => none)
    | .cw as r => (match allP l with | some ps => some (.p r, [], [PVleL ps as, CallP P g as r]) | none => none)
    | .bor [] as r => (match flatV r, snapObs hp l as with | true, some so => some (.p r, [], so ++ [CallP P g as r]) | _, _ => none)
    | .bor (k :: ks) as r => (match killable hp (k :: ks), snapObs (only (k :: ks) hp) l as with | true, some so => some (.p r, dieW (k :: ks), so ++ [CallP P g as r]) | _, _ => none)
    | _ => none
  | none => none
def callO (P : Program) (n : Option Nat) (E : Env) (op : Op) (cs : List IV) (len es : Nat) : CR := match callTarget E op, n with
  | some (g, l), some k => (match allP l with | some ps => some (.msl k 0 len cs.length false, [(k, .cells cs es)], [CallO P g ps cs len es]) | none => none)
  | _, _ => none
def isCall : Op → Bool
  | .call { callee := .value _, args := _, argTypes := _ } => true
  | _ => false
def effW (n : Option Nat) : Eff → Option (List (Nat × MObj))
  | .none => some []
  | .new o => match n with | some k => some [(k, o)] | none => none
  | .set l o => some [(l, o)]
def listHp (hp : Nat → Option MObj) : Nat → Option (List MObj)
  | 0 => some []
  | n + 1 => match listHp hp n, hp n with | some l, some o => some (l ++ [o]) | _, _ => none
def yieldTarget (E : Env) (op : Op) : Option (Nat × List IV) := match op with
  | .call { callee := .value f, args := args, argTypes := _ } => match opnd E f, opnds E args.toList with
    | some (.yld l), some as => some (l, as)
    | _, _ => none
  | _ => none
def CallI (P : Program) (f : FuncId) (args : List IV) (H : List MObj) (v : IV) (H' : List MObj) : Prop :=
  FnOK P f ∧ ∀ (Γ : Cx) (φ : Plc) (w : World) (vs : List Value), HOK Γ w.heap φ H → (∀ b, Γ.X b → b < w.heap.size) → RIL Γ w.heap φ H args vs →
    Calls P f ⟨vs⟩ w fun e w' => ∃ x, e = .returned x ∧ ∃ φ', HOK Γ w'.heap φ' H' ∧ Ext φ H w.heap φ' H' w'.heap ∧ RI Γ w'.heap φ' H' v x ∧ WSame w w'
def RoundI (P : Program) (l : Nat) (args : List IV) (H : List MObj) (v : IV) (H' : List MObj) : Prop :=
  (∃ o, H[l]? = some o ∧ o.kind = (6, 0)) ∧ ∀ (Γ : Cx) (φ : Plc) (w : World) (vs : List Value), HOK Γ w.heap φ H → (∀ b, Γ.X b → b < w.heap.size) → RIL Γ w.heap φ H args vs →
    ∃ f tm as bo, (Instr.yield (φ l).1 ⟨vs⟩).run P w = .ok (.round (φ l).1 f tm as bo) w ∧
      Rounds P (φ l).1 f tm as bo w fun x w' => ∃ φ', HOK Γ w'.heap φ' H' ∧ Ext φ H w.heap φ' H' w'.heap ∧ RI Γ w'.heap φ' H' v x ∧ WSame w w'
def puts : List (Nat × MObj) → List MObj → List MObj
  | [], H => H
  | (l, o) :: r, H => (puts r H).set l o
def callI (P : Program) (hp : Nat → Option MObj) (big : Nat) (E : Env) (op : Op) (v : IV) (wr : List (Nat × MObj)) : CR := match listHp hp big with
  | some H => (match callTarget E op with
    | some (g, l) => some (v, wr, [CallI P g l H v (puts wr H)])
    | none => (match yieldTarget E op with
      | some (l, as) => some (v, wr, [RoundI P l as H v (puts wr H)])
      | none => none))
  | none => none
def slot (n : Option Nat) (big : Nat) : Nat := match n with | some k => k | none => big
def opR (P : Program) (hp : Nat → Option MObj) (n : Option Nat) (big : Nat) (E : Env) (op : Op) (cl : Cl) : CR := match isCall op with
  | true => (match cl with | .ap cs len es => callO P n E op cs len es | .ci v wr => callI P hp big E op v wr | cl => callC P hp E op cl)
  | false => match opC P hp (slot n big) E op cl with
    | some (v, eff, obs) => (match effW n eff with | some wr => some (v, wr, obs) | none => none)
    | none => none
theorem puts_length : ∀ (wr : List (Nat × MObj)) (H : List MObj), (puts wr H).length = H.length
  | [], H => rfl
  | (l, o) :: r, H => by simp [puts, puts_length r H]
def StepW (Γ : Cx) (φ : Plc) (H : List MObj) (w : World) (iv : IV) (wr : List (Nat × MObj)) (v : Value) (w' : World) : Prop :=
  ∃ φ', HOK Γ w'.heap φ' (puts wr H) ∧ Ext φ H w.heap φ' (puts wr H) w'.heap ∧ RI Γ w'.heap φ' (puts wr H) iv v ∧ WSame w w'
section
variable {P : Program} {Γ : Cx} {φ : Plc} {H : List MObj} {w : World} {n : Nat} {E : Env} {ρ : Operand → Value}
theorem RIL.ofPure {h : Hp} : ∀ {l : List PV} {vs : List Value}, RPL h (fun b => Γ.X b ∨ Own φ H b) l vs → RIL Γ h φ H (l.map .p) vs
  | _, _, .nil => .nil
  | _, _, .cons p v _ _ h1 h2 => .cons _ _ _ _ (.p p v h1) (RIL.ofPure h2)
theorem callTarget_sound {o : Oper} {g : FuncId} {l : List IV} (he : EOK Γ w.heap φ H E ρ) (hc : callTarget E o.op = some (g, l)) (hg : FnOK P g) :
    ∃ vs, RIL Γ w.heap φ H l vs ∧ (execOp ρ o).run P w = .ok (.enter g ⟨vs⟩) w := by
  obtain ⟨fn, hf, hn, hb⟩ := hg
  have hb' : fn.body.isNone = false := by cases h : fn.body <;> simp_all
  obtain ⟨dst, op, ty, pos, after, guard⟩ := o
  simp only at hc
  have run : ∀ (first captured : Array Value) (f : Operand) (args : Array Operand) (ats : Array TypeId), ρ f = .func (.func g) first captured →
      (execOp ρ ⟨dst, .call { callee := .value f, args := args, argTypes := ats }, ty, pos, after, guard⟩).run P w = .ok (.enter g ((first ++ args.map ρ) ++ captured)) w := by
    intro first captured f args ats hv
    simp only [execOp]
    rw [run_bnd (show (resolve ρ { callee := .value f, args := args, argTypes := ats } ty).run P w = .ok { target := .fn (.func g) captured, args := first ++ args.map ρ } w by
      simp only [resolve, hv, Deferred.ofValue]; rfl)]
    simp only [invoke]
    unfold callFunc
    rw [run_bnd (show (Go.program : Sem Program).run P w = .ok P w from rfl)]
    simp only [hf, hn, hb', Bool.false_eq_true, if_false]
    rfl
  unfold callTarget at hc
  split at hc
  · rename_i f args ats
    split at hc
    · rename_i g' a b l' h1 h2
      cases hc
      have hfv := (he _ _ h1).p_inv
      generalize hq : ρ f = q at hfv
      cases hfv with
      | fn _ _ _ va vb ha hb2 =>
        refine ⟨(va ++ args.toList.map ρ) ++ vb, ((RIL.ofPure ha).append (opnds_sound he _ _ h2)).append (RIL.ofPure hb2), ?_⟩
        rw [run _ _ _ _ _ hq]
        congr 2
        apply Array.ext'
        simp
    · rename_i g' a b l' h1 h2
      cases hc
      have hfv := he _ _ h1
      generalize hq : ρ f = q at hfv
      cases hfv with
      | fn _ _ _ va vb ha hb2 =>
        refine ⟨(va ++ args.toList.map ρ) ++ vb, (ha.append (opnds_sound he _ _ h2)).append hb2, ?_⟩
        rw [run _ _ _ _ _ hq]
        congr 2
        apply Array.ext'
        simp
    · cases hc
  · cases hc
theorem allP_spec : ∀ {l : List IV} {ps : List PV}, allP l = some ps → l = ps.map .p
  | [], _, h => by simp [allP] at h; subst h; rfl
  | v :: r, _, h => by
    unfold allP at h
    split at h
    · cases h; rename_i he; cases he
    · rename_i v' r' he
      cases he
      split at h
      · rename_i l' hl; cases h; simp [allP_spec hl]
      · cases h
    · cases h
theorem dieW_get {l : Nat} {o : MObj} : ∀ (ks : List Nat) {H : List MObj}, (puts (dieW ks) H)[l]? = some o → o = .dead ∨ (H[l]? = some o ∧ memL l ks = false)
  | [], H, h => .inr ⟨h, rfl⟩
  | k :: ks, H, h => by
    simp only [dieW, puts, get_set] at h
    split at h
    · split at h
      · cases h; exact .inl rfl
      · cases h
    · rename_i hkl
      rcases dieW_get ks h with h | ⟨h1, h2⟩
      · exact .inl h
      · refine .inr ⟨h1, ?_⟩
        simp only [memL]
        have : Nat.beq k l = false := by cases hb : Nat.beq k l with | false => rfl | true => exact absurd (Nat.eq_of_beq_eq_true hb) hkl
        rw [this]; exact h2
theorem die_sound {h : Hp} : ∀ (ks : List Nat) {H : List MObj}, (∀ l, memL l ks = true → H[l]? ≠ some .hole) → HOK Γ h φ H → HOK Γ h φ (puts (dieW ks) H) ∧ Ext φ H h φ (puts (dieW ks) H) h
  | [], H, _, hk => ⟨hk, Ext.refl _ _ _⟩
  | l :: r, H, hn, hk => by
    obtain ⟨h1, h2⟩ := die_sound r (H := H) (fun k hm => hn k (by simp only [memL]; split <;> simp [hm])) hk
    obtain ⟨g1, g2⟩ := kill_one h1 l (fun hh => by
      rcases dieW_get r hh with h | ⟨h, _⟩
      · cases h
      · exact hn l (by simp [memL, Nat.beq_refl]) h)
    exact ⟨g1, h2.trans g2⟩
theorem killable_spec {hp : Nat → Option MObj} : ∀ {ks : List Nat}, killable hp ks = true → ∀ l, memL l ks = true → ∃ o, hp l = some o ∧ o ≠ .hole
  | [], _, l, h => by simp [memL] at h
  | k :: ks, hk, l, hm => by
    unfold killable at hk
    split at hk
    · cases hk
    · rename_i o ho hne
      simp only [memL] at hm
      split at hm
      · rename_i hb
        have := Nat.eq_of_beq_eq_true hb
        subst this
        exact ⟨o, hne, fun he => ho he⟩
      · exact killable_spec hk l hm
    · cases hk
theorem callC_sound {o : Oper} {iv : IV} {cl : Cl} {wr : List (Nat × MObj)} {obs : List Prop} {hp : Nat → Option MObj} (he : EOK Γ w.heap φ H E ρ) (hhp : ∀ l o, hp l = some o → H[l]? = some o) (hk : HOK Γ w.heap φ H)
    (hX : ∀ b, Γ.X b → b < w.heap.size) (hc : callC P hp E o.op cl = some (iv, wr, obs)) (ho : All obs) :
    ∃ g vs, (execOp ρ o).run P w = .ok (.enter g vs) w ∧ Calls P g vs w fun e w' => ∃ x, e = .returned x ∧ StepW Γ φ H w iv wr x w' := by
  have hYlt : ∀ b, (Γ.X b ∨ Own φ H b) → b < w.heap.size := fun b hb => hb.elim (hX b) fun ⟨l, q, h1, h2, h3⟩ => h3 ▸ (hk.lt l q h1 h2).1
  unfold callC at hc
  split at hc
  · rename_i g l htar
    split at hc
    · rename_i r
      split at hc
      · rename_i ps hps
        cases hc
        obtain ⟨vs, hvs, hrun⟩ := callTarget_sound he htar ho.1.1
        rw [allP_spec hps] at hvs
        refine ⟨g, ⟨vs⟩, hrun, (ho.1.2 _ w vs hYlt hvs.pure).mono fun e w' hh => ?_⟩
        obtain ⟨x, rfl, _, rfl, hr, hb⟩ := hh
        obtain ⟨k1, k2⟩ := hk.keepAll hb.size hb.block
        exact ⟨x, rfl, φ, k1, k2, .p _ _ hr, ⟨hb.os, hb.tape, hb.output⟩⟩
      · cases hc
    · rename_i as r
      split at hc
      · rename_i ps hps
        cases hc
        obtain ⟨vs, hvs, hrun⟩ := callTarget_sound he htar ho.2.1.1
        rw [allP_spec hps] at hvs
        refine ⟨g, ⟨vs⟩, hrun, (ho.2.1.2 _ w vs hYlt (ho.1.sound hvs.pure)).mono fun e w' hh => ?_⟩
        obtain ⟨x, rfl, _, rfl, hr, hb⟩ := hh
        obtain ⟨k1, k2⟩ := hk.keepAll hb.size hb.block
        exact ⟨x, rfl, φ, k1, k2, .p _ _ hr, ⟨hb.os, hb.tape, hb.output⟩⟩
      · cases hc
    · rename_i as r
      split at hc
      · rename_i so hfl hso
        cases hc
        obtain ⟨ho1, ho2⟩ := ho.append
        replace ho : SnapL hp l as ∧ CallP P g as r ∧ True := ⟨snapObs_sound hso ho1, ho2⟩
        obtain ⟨vs, hvs, hrun⟩ := callTarget_sound he htar ho.2.1.1
        have hY := snapL_sound (Y := fun b => Γ.X b ∨ ∃ k q, H[k]? = some q ∧ q.live = true ∧ (φ k).1 = b ∧ hp k = none) hk hhp (fun b hb => hb.imp id fun ⟨k, q, h1, h2, h3, _⟩ => ⟨k, q, h1, h2, h3⟩)
          (fun k q h1 h2 h3 => by
            rcases h3 with h3 | ⟨k', q', g1, g2, g3, g4⟩
            · exact (hk.lt k q (hhp k q h1) h2).2 h3
            · have := hk.inj k' k q' q g1 (hhp k q h1) g2 h2 g3
              subst this; rw [h1] at g4; cases g4) ho.1 hvs
        refine ⟨g, ⟨vs⟩, hrun, (ho.2.1.2 _ w vs (fun b hb => hYlt b (hb.imp id fun ⟨k, q, h1, h2, h3, _⟩ => ⟨k, q, h1, h2, h3⟩)) hY).mono fun e w' hh => ?_⟩
        obtain ⟨x, rfl, _, rfl, hr, hb⟩ := hh
        obtain ⟨k1, k2⟩ := hk.keepAll hb.size hb.block
        exact ⟨x, rfl, φ, k1, k2, .p _ _ (flatV_any hfl hr), ⟨hb.os, hb.tape, hb.output⟩⟩
      · cases hc
    · rename_i k ks as r
      split at hc
      · rename_i so hkl hso
        cases hc
        obtain ⟨ho1, ho2⟩ := ho.append
        replace ho : SnapL (only (k :: ks) hp) l as ∧ CallP P g as r ∧ True := ⟨snapObs_sound hso ho1, ho2⟩
        obtain ⟨vs, hvs, hrun⟩ := callTarget_sound he htar ho.2.1.1
        have honly : ∀ l o, only (k :: ks) hp l = some o → memL l (k :: ks) = true ∧ hp l = some o := by
          intro l o h
          unfold only at h
          split at h
          · rename_i hm; exact ⟨hm, h⟩
          · cases h
        have hY := snapL_sound (Y := fun b => Γ.X b ∨ ∃ l q, H[l]? = some q ∧ q.live = true ∧ (φ l).1 = b ∧ memL l (k :: ks) = false) hk (fun l o h => hhp l o (honly l o h).2) (fun b hb => hb.imp id fun ⟨k, q, h1, h2, h3, _⟩ => ⟨k, q, h1, h2, h3⟩)
          (fun l q h1 h2 h3 => by
            obtain ⟨hm, h1⟩ := honly l q h1
            rcases h3 with h3 | ⟨k', q', g1, g2, g3, g4⟩
            · exact (hk.lt l q (hhp l q h1) h2).2 h3
            · have := hk.inj k' l q' q g1 (hhp l q h1) g2 h2 g3
              subst this; rw [hm] at g4; cases g4) ho.1 hvs
        refine ⟨g, ⟨vs⟩, hrun, (ho.2.1.2 _ w vs (fun b hb => hYlt b (hb.imp id fun ⟨k, q, h1, h2, h3, _⟩ => ⟨k, q, h1, h2, h3⟩)) hY).mono fun e w' hh => ?_⟩
        obtain ⟨x, rfl, _, rfl, hr, hb⟩ := hh
        obtain ⟨k1, k2⟩ := hk.keepAll hb.size hb.block
        obtain ⟨d1, d2⟩ := die_sound (k :: ks) (fun l hm => by
          obtain ⟨o, h1, h2⟩ := killable_spec hkl l hm
          rw [hhp l o h1]; intro hh; cases hh; exact h2 rfl) k1
        refine ⟨x, rfl, φ, d1, k2.trans d2, .p _ _ (hr.keeps fun b o hb hx => ⟨hb, fun hy => hx ?_⟩), ⟨hb.os, hb.tape, hb.output⟩⟩
        rcases hy with hy | ⟨l, q, h1, h2, h3⟩
        · exact .inl hy
        · rcases dieW_get _ h1 with h | ⟨h, hm⟩
          · subst h; cases h2
          · exact .inr ⟨l, q, h, h2, h3, hm⟩
      · cases hc
    · cases hc
  · cases hc
theorem callO_sound {o : Oper} {iv : IV} {wr : List (Nat × MObj)} {obs : List Prop} {n : Option Nat} {cs : List IV} {len es : Nat} (he : EOK Γ w.heap φ H E ρ) (hk : HOK Γ w.heap φ H)
    (hX : ∀ b, Γ.X b → b < w.heap.size) (hn : ∀ k, n = some k → H[k]? = some .hole) (hc : callO P n E o.op cs len es = some (iv, wr, obs)) (ho : All obs) :
    ∃ g vs, (execOp ρ o).run P w = .ok (.enter g vs) w ∧ Calls P g vs w fun e w' => ∃ x, e = .returned x ∧ StepW Γ φ H w iv wr x w' := by
  have hYlt : ∀ b, (Γ.X b ∨ Own φ H b) → b < w.heap.size := fun b hb => hb.elim (hX b) fun ⟨l, q, h1, h2, h3⟩ => h3 ▸ (hk.lt l q h1 h2).1
  unfold callO at hc
  split at hc
  · rename_i g l k htar
    split at hc
    · rename_i ps hps
      cases hc
      obtain ⟨⟨hfn, hes, pcs, rfl, hrun⟩, _⟩ := ho
      obtain ⟨vs, hvs, hex⟩ := callTarget_sound he htar hfn
      rw [allP_spec hps] at hvs
      refine ⟨g, ⟨vs⟩, hex, (hrun _ w vs hYlt hvs.pure).mono fun e w' hh => ?_⟩
      obtain ⟨x, rfl, hb, b, off, cap, arr, t, us, rfl, h1, h2, h3, h4, h5, h6, h7⟩ := hh
      have hlen := RPL.length h5
      have hhole := hn k rfl
      have hlt := lt_of_lget hhole
      have hes2 : len * es ≤ cap * es := Nat.mul_le_mul_right _ h1
      obtain ⟨k1, k2⟩ := hk.new (h' := w'.heap) (n := k) (o' := .cells (pcs.map .p) es) (pl := (b, off)) hX (.inr hhole) rfl hb.size hb.block ⟨h2, lt_of_get h3⟩ (fun e => by
        refine ⟨arr, t, by rw [upd_same]; exact h3, by rw [upd_same, List.length_map, hlen, h6]; simp only; omega, fun i iv hi => ?_⟩
        rw [List.getElem?_map] at hi
        cases hp : pcs[i]? with
        | none => rw [hp] at hi; cases hi
        | some p =>
          rw [hp] at hi; cases hi
          obtain ⟨u, hu, hr⟩ := RPL.get h5 i p hp
          refine ⟨u, by rw [upd_same]; exact h7 i u hu, .p _ _ (hr.keeps fun c o hc hx => ⟨hc, fun hy => hx ?_⟩)⟩
          rcases hy with hy | ⟨m, q, m1, m2, m3⟩
          · exact .inl (.inl hy)
          · rw [putAt_set hlt, get_set] at m1
            split at m1
            · rename_i hkm; subst hkm; rw [upd_same] at m3; exact .inr m3.symm
            · rename_i hkm
              rw [upd_ne φ _ (fun h => hkm h.symm)] at m3
              exact .inl (.inr ⟨m, q, m1, m2, m3⟩))
      have hput : putAt k (.cells (pcs.map .p) es) H = puts [(k, .cells (pcs.map .p) es)] H := putAt_set hlt
      rw [hput] at k1 k2
      refine ⟨_, rfl, _, k1, k2, .msl _ _ _ _ _ _ _ ⟨_, by simp only [puts]; rw [get_set, if_pos rfl, if_pos hlt], by simp⟩ (fun cs' g' hc' => ?_) h1 (fun h => by cases h), ⟨hb.os, hb.tape, hb.output⟩⟩
      simp only [puts] at hc'
      rw [get_set, if_pos rfl, if_pos hlt] at hc'
      cases hc'
      exact ⟨Nat.le_refl _, fun _ => ⟨by rw [upd_same]; rfl, fun _ => ⟨arr, t, _, by rw [upd_same]; exact h3, h4, fun _ => by rw [List.length_map, hlen, h6, Nat.zero_add]; exact hes2⟩⟩⟩
    · cases hc
  · cases hc
theorem listHp_spec {hp : Nat → Option MObj} (hhp : ∀ l o, hp l = some o → H[l]? = some o) : ∀ {n : Nat} {l : List MObj}, listHp hp n = some l → l = H.take n
  | 0, l, h => by cases h; simp
  | n + 1, l, h => by
    simp only [listHp] at h
    split at h
    · rename_i l' o h1 h2
      cases h
      rw [listHp_spec hhp h1]
      have := hhp _ _ h2
      rw [List.take_add_one, this]; rfl
    · cases h
theorem callI_sound {o : Oper} {iv v : IV} {wr0 wr : List (Nat × MObj)} {obs : List Prop} {hp : Nat → Option MObj} {big : Nat} (he : EOK Γ w.heap φ H E ρ) (hhp : ∀ l o, hp l = some o → H[l]? = some o) (hk : HOK Γ w.heap φ H)
    (hX : ∀ b, Γ.X b → b < w.heap.size) (hb : big = H.length) (hc : callI P hp big E o.op v wr0 = some (iv, wr, obs)) (ho : All obs) :
    (∃ g vs, (execOp ρ o).run P w = .ok (.enter g vs) w ∧ Calls P g vs w fun e w' => ∃ x, e = .returned x ∧ StepW Γ φ H w iv wr x w') ∨
    (∃ l f tm as bo, (execOp ρ o).run P w = .ok (.round l f tm as bo) w ∧ Rounds P l f tm as bo w fun x w' => StepW Γ φ H w iv wr x w') := by
  unfold callI at hc
  split at hc
  · rename_i H1 hH
    have := listHp_spec hhp hH
    rw [hb, List.take_length] at this
    subst this
    split at hc
    · rename_i g l htar
      cases hc
      obtain ⟨⟨hf, hc⟩, _⟩ := ho
      obtain ⟨vs, hvs, hrun⟩ := callTarget_sound he htar hf
      refine .inl ⟨g, ⟨vs⟩, hrun, (hc Γ φ w vs hk hX hvs).mono fun e w' hh => ?_⟩
      obtain ⟨x, rfl, φ', h1, h2, h3, h4⟩ := hh
      exact ⟨x, rfl, φ', h1, h2, h3, h4⟩
    · split at hc
      · rename_i l as htar
        cases hc
        obtain ⟨⟨⟨o', ho', hk'⟩, hc⟩, _⟩ := ho
        unfold yieldTarget at htar
        split at htar
        · rename_i f args ats hop
          split at htar
          · rename_i l' as' h1 h2
            cases htar
            have hfv := he _ _ h1
            generalize hq : ρ f = q at hfv
            cases hfv with
            | yld _ r hd hcc =>
              have := hcc o' ho' hk'
              subst this
              obtain ⟨fi, tm, asn, bo, g1, g2⟩ := hc Γ φ w _ hk hX (opnds_sound he _ _ h2)
              refine .inr ⟨_, fi, tm, asn, bo, ?_, g2.imp fun x w' hh => ?_⟩
              rotate_left
              · exact hh
              · obtain ⟨dst, op, ty, pos, after, guard⟩ := o
                simp only at hop
                subst hop
                simp only [execOp]
                rw [run_bnd (show (resolve ρ { callee := .value f, args := args, argTypes := ats } ty).run P w = .ok { target := .fn (.yield (φ l).1) #[], args := args.map ρ } w by
                  simp only [resolve, hq, Deferred.ofValue]
                  have : (#[] : Array Value) ++ args.map ρ = args.map ρ := by simp
                  rw [this]; rfl)]
                simp only [invoke]
                have : (args.map ρ) = ⟨args.toList.map ρ⟩ := by apply Array.ext'; simp
                rw [this]; exact g1
          · cases htar
        · cases htar
      · cases hc
  · cases hc
def OpDoes (P : Program) (Γ : Cx) (φ : Plc) (H : List MObj) (w : World) (s : Result Next) (iv : IV) (wr : List (Nat × MObj)) : Prop :=
  (∃ nx v w', s = .ok nx w' ∧ nextVal nx = some v ∧ StepW Γ φ H w iv wr v w') ∨
  (∃ g vs, s = .ok (.enter g vs) w ∧ Calls P g vs w fun e w' => ∃ x, e = .returned x ∧ StepW Γ φ H w iv wr x w') ∨
  (∃ l f tm as bo, s = .ok (.round l f tm as bo) w ∧ Rounds P l f tm as bo w fun x w' => StepW Γ φ H w iv wr x w')
theorem opR_sound {o : Oper} {iv : IV} {cl : Cl} {wr : List (Nat × MObj)} {obs : List Prop} {hp : Nat → Option MObj} {n : Option Nat} {big : Nat} (he : EOK Γ w.heap φ H E ρ) (hhp : ∀ l o, hp l = some o → H[l]? = some o)
    (hk : HOK Γ w.heap φ H) (hX : ∀ b, Γ.X b → b < w.heap.size) (hb : big = H.length) (hn : ∀ k, n = some k → H[k]? = some .hole) (hc : opR P hp n big E o.op cl = some (iv, wr, obs)) (ho : All obs) :
    OpDoes P Γ φ H w ((execOp ρ o).run P w) iv wr := by
  unfold opR at hc
  split at hc
  · split at hc
    · exact .inr (.inl (callO_sound he hk hX hn hc ho))
    · exact .inr (callI_sound he hhp hk hX hb hc ho)
    · exact .inr (.inl (callC_sound he hhp hk hX hc ho))
  · split at hc
    · rename_i v eff obs' hop
      split at hc
      · rename_i wr' hwr
        cases hc
        have hf : Free (slot n big) H := by
          cases n with
          | none => exact .inl hb
          | some k => exact .inr (hn k rfl)
        obtain ⟨nx, x, φ', w', h1, h2, h3, h4, h5, h6⟩ := opC_sound he hhp hk hX hf hop ho
        have heq : applyEff (slot n big) eff H = puts wr H := by
          cases eff with
          | none => simp [effW] at hwr; subst hwr; rfl
          | set l o => simp [effW] at hwr; subst hwr; rfl
          | new o =>
            cases n with
            | none => simp [effW] at hwr
            | some k => simp [effW] at hwr; subst hwr; simp only [applyEff, puts]; exact putAt_set (lt_of_lget (hn k rfl))
        rw [heq] at h3 h4 h5
        exact .inl ⟨nx, x, w', h1, h2, φ', h3, h4, h5, h6⟩
      · cases hc
    · cases hc
end
end Go.Idl
set_option linter.unusedSimpArgs false
set_option linter.unusedVariables false
namespace Go.Idl
open Go
structure RD where
  draw : Bool
  ops : List Oper
  masks : List Nat
  wo : List (Nat × Nat)
  nt : Nat
  alt : Option (Nat × MObj × Nat)
def nthN (l : List Nat) (i : Nat) : Nat := match l with
  | [] => 0
  | m :: r => match i with | 0 => m | j + 1 => nthN r j
def bef (D : RD) (j i : Nat) : Bool := match D.draw with
  | false => Nat.blt j i
  | true => Nat.testBit (nthN D.masks i) j
def ordB (D : RD) (i j : Nat) : Bool := match bef D j i with | true => true | false => bef D i j
def isDst (d : Option Nat) (t : Nat) : Bool := match d with | some u => Nat.beq u t | none => false
def visTl (D : RD) (i t : Nat) : Nat → List Oper → Bool
  | _, [] => true
  | j, o :: r => match isDst o.dst t with
    | false => visTl D i t (j + 1) r
    | true => match Nat.beq j i with
      | true => visTl D i t (j + 1) r
      | false => match ordB D i j with | true => visTl D i t (j + 1) r | false => false
def visT (D : RD) (i t : Nat) : Bool := match D.draw with | false => true | true => visTl D i t 0 D.ops
def visOl (D : RD) (i l : Nat) : List (Nat × Nat) → Bool
  | [] => true
  | (k, j) :: r => match Nat.beq k l with
    | false => visOl D i l r
    | true => match Nat.beq j i with
      | true => visOl D i l r
      | false => match ordB D i j with | true => visOl D i l r | false => false
def visO (D : RD) (i l : Nat) : Bool := match D.draw with | false => true | true => visOl D i l D.wo
def inWol (i l : Nat) : List (Nat × Nat) → Bool
  | [] => false
  | (k, j) :: r => match Nat.beq k l with
    | false => inWol i l r
    | true => match Nat.beq j i with | true => true | false => inWol i l r
def inWo (D : RD) (i l : Nat) : Bool := match D.draw with | false => true | true => inWol i l D.wo
def pickE (D : RD) (i : Nat) (E : Env) : List Operand → Env
  | [] => []
  | .tmp t :: r => match visT D i t with
    | true => (match lookE t E with | some v => (t, v) :: pickE D i E r | none => pickE D i E r)
    | false => pickE D i E r
  | _ :: r => pickE D i E r
def hpV (D : RD) (i : Nat) (H : List MObj) : Nat → Option MObj := fun l => match visO D i l with | true => H[l]? | false => none
def dstOf (ops : List Oper) (j : Nat) : Option Nat := match ops[j]? with | some o => o.dst | none => none
def guardC (D : RD) (i : Nat) (E : Env) : Option (Nat × Bool) → Option Bool
  | none => some true
  | some (j, want) => match dstOf D.ops j with
    | some t => (match visT D i t with
      | true => (match lookE t E with
        | some (.p (.bool b)) => some (match b with | true => want | false => (match want with | true => false | false => true))
        | some (.p (.tup [])) => some false
        | _ => none)
      | false => none)
    | none => none
abbrev Cls := List (Nat × Option Nat × Cl)
def clAt (i : Nat) : Cls → Option Nat × Cl
  | [] => (none, .a)
  | (j, n, c) :: r => match Nat.beq j i with | true => (n, c) | false => (none, .a)
def clRest (i : Nat) : Cls → Cls
  | [] => []
  | (j, n, c) :: r => match Nat.beq j i with | true => r | false => (j, n, c) :: r
def isHole : Option MObj → Bool
  | some .hole => true
  | _ => false
def newOK (D : RD) (i : Nat) (H : List MObj) : Option Nat → Bool
  | none => true
  | some k => isHole (hpV D i H k)
def lookW (l : Nat) : List (Nat × MObj) → Option MObj
  | [] => none
  | (k, o) :: r => match Nat.beq k l with | true => some o | false => lookW l r
def altOK (D : RD) (i l j0 : Nat) : List (Nat × Nat) → Bool
  | [] => true
  | (k, j) :: r => match Nat.beq k l with
    | false => altOK D i l j0 r
    | true => match Nat.blt i j with
      | false => false
      | true => match Nat.beq j j0 with
        | true => altOK D i l j0 r
        | false => match bef D i j with | true => altOK D i l j0 r | false => false
def hpA (D : RD) (i : Nat) (H : List MObj) (l : Nat) (o : Option MObj) : Nat → Option MObj := fun k => match Nat.beq k l with | true => o | false => hpV D i H k
def altOut (D : RD) (i : Nat) (wr : List (Nat × MObj)) : List Prop := match D.alt with
  | some (l, ob, j0) => (match Nat.beq j0 i with | true => [lookW l wr = some ob] | false => [])
  | none => []
def evAlt (P : Program) (D : RD) (i : Nat) (o : Oper) (E : Env) (H : List MObj) (c1 c2 : Cl) : CR := match D.draw, D.alt with
  | true, some (l, ob, j0) => (match altOK D i l j0 D.wo, opR P (hpA D i H l H[l]?) none H.length (pickE D i E o.op.operands.toList) o.op c1, opR P (hpA D i H l (some ob)) none H.length (pickE D i E o.op.operands.toList) o.op c2 with
    | true, some (v1, [], o1), some (v2, [], o2) => some (v1, [], o1 ++ (o2 ++ ([v1 = v2, i ≠ j0])))
    | _, _, _ => none)
  | _, _ => none
def evOp (P : Program) (D : RD) (i : Nat) (o : Oper) (E : Env) (H : List MObj) (c : Option Nat × Cl) : CR := match guardC D i E o.guard with
  | some false => some (.p (.tup []), [], altOut D i [])
  | some true => (match c.2 with
    | .alt _ _ _ c1 c2 => evAlt P D i o E H c1 c2
    | cl => (match newOK D i H c.1 with
      | true => (match opR P (hpV D i H) c.1 H.length (pickE D i E o.op.operands.toList) o.op cl with
        | some (v, wr, obs) => some (v, wr, obs ++ altOut D i wr)
        | none => none)
      | false => none))
  | none => none
def altOf : List (Nat × Option Nat × Cl) → Option (Nat × MObj × Nat)
  | [] => none
  | (_, _, c) :: r => match c with | .alt l o j _ _ => some (l, o, j) | _ => altOf r
def wrOK (D : RD) (i len : Nat) : List (Nat × MObj) → Bool
  | [] => true
  | (l, _) :: r => match Nat.blt l len, visO D i l, inWo D i l with
    | true, true, true => wrOK D i len r
    | _, _, _ => false
def dstOK (D : RD) (i : Nat) : Option Nat → Bool
  | none => true
  | some t => match Nat.blt t D.nt with | true => visT D i t | false => false
abbrev Tr := List (IV × List (Nat × MObj))
def evOps (P : Program) (D : RD) : Nat → List Oper → Env → List MObj → Cls → Option (Tr × Env × List MObj × List Prop)
  | _, [], E, H, _ => some ([], E, H, [])
  | i, o :: r, E, H, cs => match evOp P D i o E H (clAt i cs) with
    | some (v, wr, obs) => (match wrOK D i H.length wr, dstOK D i o.dst with
      | true, true => (match evOps P D (i + 1) r (setD o.dst v E) (puts wr H) (clRest i cs) with
        | some (tr, E', H', obs') => some ((v, wr) :: tr, E', H', obs ++ obs')
        | none => none)
      | _, _ => none)
    | none => none
def WrT (ops : List Oper) (tr : Tr) (k t : Nat) : Option IV := match isDst (dstOf ops k) t with | true => (match tr[k]? with | some e => some e.1 | none => none) | false => none
def WrO (tr : Tr) (k l : Nat) : Option MObj := match tr[k]? with | some e => lookW l e.2 | none => none
theorem lookE_setE {t u : Nat} {v : IV} : ∀ (E : Env), lookE u (setE t v E) = match Nat.beq t u with | true => some v | false => lookE u E
  | [] => by simp only [setE, lookE]; cases Nat.beq t u <;> rfl
  | (k, x) :: r => by
    have ih := lookE_setE (t := t) (u := u) (v := v) r
    cases hk : Nat.beq k t with
    | true =>
      have := Nat.eq_of_beq_eq_true hk
      subst this
      simp only [setE, hk, lookE]
      cases Nat.beq k u <;> rfl
    | false =>
      simp only [setE, hk, lookE]
      rw [ih]
      cases hku : Nat.beq k u <;> cases htu : Nat.beq t u <;> simp only
      have h1 := Nat.eq_of_beq_eq_true hku
      have h2 := Nat.eq_of_beq_eq_true htu
      subst h1; subst h2; rw [Nat.beq_refl] at hk; cases hk
theorem lookE_setD {d : Option Nat} {u : Nat} {v : IV} {E : Env} : lookE u (setD d v E) = match isDst d u with | true => some v | false => lookE u E := by
  cases d with
  | none => rfl
  | some t => exact lookE_setE E
theorem puts_get {l : Nat} : ∀ (wr : List (Nat × MObj)) {H : List MObj}, (∀ k o, (k, o) ∈ wr → k < H.length) → (puts wr H)[l]? = match lookW l wr with | some o => some o | none => H[l]?
  | [], H, _ => rfl
  | (k, o) :: r, H, hlt => by
    simp only [puts, lookW, get_set, puts_length]
    cases hb : Nat.beq k l with
    | true =>
      have := Nat.eq_of_beq_eq_true hb
      subst this
      rw [if_pos rfl, if_pos (hlt k o (by simp))]
    | false =>
      rw [if_neg (fun h => by subst h; rw [Nat.beq_refl] at hb; cases hb)]
      exact puts_get r fun k' o' h => hlt k' o' (by simp [h])
theorem wrOK_spec {D : RD} {i len : Nat} : ∀ {wr : List (Nat × MObj)}, wrOK D i len wr = true → ∀ k o, (k, o) ∈ wr → k < len ∧ visO D i k = true ∧ inWo D i k = true
  | [], _, k, o, h => by cases h
  | (l, q) :: r, hw, k, o, h => by
    unfold wrOK at hw
    split at hw
    · rename_i h1 h2 h3
      cases h with
      | head => exact ⟨by rw [Nat.blt_eq] at h1; exact h1, h2, h3⟩
      | tail _ h => exact wrOK_spec hw k o h
    · cases hw
theorem lookW_mem {l : Nat} {o : MObj} : ∀ {wr : List (Nat × MObj)}, lookW l wr = some o → (l, o) ∈ wr
  | [], h => by cases h
  | (k, q) :: r, h => by
    simp only [lookW] at h
    split at h
    · rename_i hb; cases h; have := Nat.eq_of_beq_eq_true hb; subst this; simp
    · exact List.mem_cons_of_mem _ (lookW_mem h)
def OpFact (P : Program) (D : RD) (tr : Tr) (f0 : Nat → Option IV) (g0 : Nat → Option MObj) (len : Nat) (k : Nat) : Prop :=
  ∃ (o : Oper) (E : Env) (H : List MObj) (c : Option Nat × Cl) (v : IV) (wr : List (Nat × MObj)) (obs : List Prop), D.ops[k]? = some o ∧ tr[k]? = some (v, wr) ∧ (∀ t, lookE t E = fold (WrT D.ops tr) (fun _ => true) k f0 t) ∧
    (∀ l : Nat, H[l]? = fold (WrO tr) (fun _ => true) k g0 l) ∧ H.length = len ∧ evOp P D k o E H c = some (v, wr, obs) ∧ All obs ∧ wrOK D k len wr = true ∧ dstOK D k o.dst = true
theorem evOps_facts {P : Program} {D : RD} {tr : Tr} {f0 : Nat → Option IV} {g0 : Nat → Option MObj} {len : Nat} : ∀ {r : List Oper} {i : Nat} {E : Env} {H : List MObj} {cs : Cls} {tr' : Tr} {E' : Env} {H' : List MObj} {obs : List Prop},
    evOps P D i r E H cs = some (tr', E', H', obs) → All obs → D.ops.drop i = r → tr.drop i = tr' → (∀ t, lookE t E = fold (WrT D.ops tr) (fun _ => true) i f0 t) → (∀ l : Nat, H[l]? = fold (WrO tr) (fun _ => true) i g0 l) → H.length = len →
    (∀ k, i ≤ k → k < i + r.length → OpFact P D tr f0 g0 len k) ∧ (∀ t, lookE t E' = fold (WrT D.ops tr) (fun _ => true) (i + r.length) f0 t) ∧ (∀ l : Nat, H'[l]? = fold (WrO tr) (fun _ => true) (i + r.length) g0 l) ∧ H'.length = len
  | [], i, E, H, cs, tr', E', H', obs, hev, ho, hd, ht, hE, hH, hl => by
    simp only [evOps, Option.some.injEq, Prod.mk.injEq] at hev
    obtain ⟨-, rfl, rfl, -⟩ := hev
    exact ⟨fun k h1 h2 => by simp at h2; omega, hE, hH, hl⟩
  | o :: r, i, E, H, cs, tr', E', H', obs, hev, ho, hd, ht, hE, hH, hl => by
    have hoi : D.ops[i]? = some o := by have := congrArg (·[0]?) hd; simpa using this
    have hdr : D.ops.drop (i + 1) = r := by have := congrArg (List.drop 1) hd; simpa [List.drop_drop] using this
    simp only [evOps] at hev
    split at hev
    · rename_i v wr obs1 hop
      split at hev
      · rename_i hwr hdst
        split at hev
        · rename_i tr1 E1 H1 obs2 hrest
          cases hev
          have hti : tr[i]? = some (v, wr) := by have := congrArg (·[0]?) ht; simpa using this
          have htr : tr.drop (i + 1) = tr1 := by have := congrArg (List.drop 1) ht; simpa [List.drop_drop] using this
          obtain ⟨ho1, ho2⟩ := ho.append
          have hdo : dstOf D.ops i = o.dst := by simp [dstOf, hoi]
          obtain ⟨f1, f2, f3, f4⟩ := evOps_facts (f0 := f0) (g0 := g0) (len := len) hrest ho2 hdr htr (fun t => by
              rw [lookE_setD, hE t]
              simp only [fold, WrT, hdo, hti]
              cases isDst o.dst t <;> rfl) (fun l => by
              rw [puts_get wr (fun k q hm => (wrOK_spec hwr k q hm).1), hH l]
              simp only [fold, WrO, hti]
              try (cases lookW l wr <;> rfl)) (by rw [puts_length, hl])
          have harith : i + 1 + r.length = i + (o :: r).length := by simp; omega
          rw [harith] at f1 f2 f3
          refine ⟨fun k h1 h2 => ?_, f2, f3, f4⟩
          by_cases hk : k = i
          · subst hk
            exact ⟨o, E, H, _, v, wr, obs1, hoi, hti, hE, hH, hl, hop, ho1, by rw [← hl]; exact hwr, hdst⟩
          · exact f1 k (by omega) h2
        · cases hev
      · cases hev
    · cases hev
end Go.Idl
set_option linter.unusedSimpArgs false
set_option linter.unusedVariables false
namespace Go.Idl
open Go
structure Org where
  w : World
  φ : Plc
  H : List MObj
def Now (Γ : Cx) (w0 : Org) (f : Nat → Option IV) (H : List MObj) (a : Act) (w : World) : Prop :=
  ∃ φ, (∀ t iv, f t = some iv → ∃ v : Value, a.tmps[t]? = some v ∧ RI Γ w.heap φ H iv v) ∧ HOK Γ w.heap φ H ∧ (∀ b, Γ.X b → b < w.heap.size) ∧ Defs Γ φ H w.heap a.defers ∧ Γ.n0 ≤ w.heap.size ∧ Γ.nt ≤ a.tmps.size ∧
    WSame w0.w w ∧ Ext w0.φ w0.H w0.w.heap φ H w.heap
section
variable {P : Program} {Γ : Cx} {w0 : Org} {w : World} {f : Nat → Option IV} {H : List MObj} {a : Act}
theorem Now.mono {f' : Nat → Option IV} (h : Now Γ w0 f H a w) (hf : ∀ t iv, f' t = some iv → f t = some iv) : Now Γ w0 f' H a w := by
  obtain ⟨φ, h1, h2⟩ := h
  exact ⟨φ, fun t iv ht => h1 t iv (hf t iv ht), h2⟩
theorem Now.drew (h : Now Γ w0 f H a w) : Now Γ w0 f H a w.drew := by
  obtain ⟨φ, h1, h2, h3, h4, h5, h6, h7, h8⟩ := h
  exact ⟨φ, h1, h2, h3, h4, h5, h6, ⟨h7.os, h7.tape, h7.output⟩, h8⟩
theorem Now.step {f' : Nat → Option IV} {H' : List MObj} {w' : World} {d : Option Nat} {v : IV} {x : Value} {φ φ' : Plc} (h1 : ∀ t iv, f t = some iv → ∃ v : Value, a.tmps[t]? = some v ∧ RI Γ w.heap φ H iv v)
    (h3 : ∀ b, Γ.X b → b < w.heap.size) (h4 : Defs Γ φ H w.heap a.defers) (h5 : Γ.n0 ≤ w.heap.size) (h6 : Γ.nt ≤ a.tmps.size) (h7 : WSame w0.w w) (h8 : Ext w0.φ w0.H w0.w.heap φ H w.heap)
    (hk : HOK Γ w'.heap φ' H') (e : Ext φ H w.heap φ' H' w'.heap) (hv : RI Γ w'.heap φ' H' v x) (hw : WSame w w') (hd : ∀ t, d = some t → t < Γ.nt)
    (hf : ∀ t, f' t = match isDst d t with | true => some v | false => f t) : Now Γ w0 f' H' (a.put d x) w' := by
  have hsz : (a.put d x).tmps.size = a.tmps.size := by cases d <;> simp [Act.put]
  refine ⟨φ', fun t iv ht => ?_, hk, fun b hb => Nat.lt_of_lt_of_le (h3 b hb) e.size, ?_, Nat.le_trans h5 e.size, by rw [hsz]; exact h6, h7.trans hw, h8.trans e⟩
  · rw [hf t] at ht
    cases d with
    | none =>
      simp only [isDst] at ht
      obtain ⟨u, hu, hr⟩ := h1 t iv ht
      exact ⟨u, hu, hr.ext e⟩
    | some k =>
      simp only [isDst] at ht
      cases hb : Nat.beq k t with
      | true =>
        rw [hb] at ht
        have := Nat.eq_of_beq_eq_true hb
        subst this
        cases ht
        refine ⟨x, ?_, hv⟩
        have := hd k rfl
        simp only [Act.put, Array.getElem?_setIfInBounds]
        simp; omega
      | false =>
        rw [hb] at ht
        obtain ⟨u, hu, hr⟩ := h1 t iv ht
        refine ⟨u, ?_, hr.ext e⟩
        have hne : k ≠ t := fun h => by subst h; rw [Nat.beq_refl] at hb; cases hb
        simp only [Act.put]
        rw [Array.getElem?_setIfInBounds_ne hne]; exact hu
  · have : (a.put d x).defers = a.defers := by cases d <;> rfl
    rw [this]; exact h4.ext e
theorem eok_of {φ : Plc} {E : Env} (h1 : ∀ t iv, lookE t E = some iv → ∃ v : Value, a.tmps[t]? = some v ∧ RI Γ w.heap φ H iv v) : EOK Γ w.heap φ H E a.eval := by
  intro x iv hx
  cases x with
  | tmp t =>
    obtain ⟨v, hv, hr⟩ := h1 t iv hx
    have : a.eval (.tmp t) = v := by simp [Act.eval, Array.getD_eq_getD_getElem?, hv]
    rw [this]; exact hr
  | const v =>
    simp only [opnd] at hx
    split at hx
    · rename_i p hp; cases hx; exact .p _ _ (constV_sound _ _ _ _ hp)
    · cases hx
  | func f => cases hx; exact .p _ _ (.fn f [] [] [] [] .nil .nil)
  | global g => cases hx
end
structure DOK (D : RD) : Prop where
  lt : ∀ j i, bef D j i = true → j < i
  closed : ∀ i o, D.ops[i]? = some o → D.draw = true → ∀ j, bef D j i = true → ∃ e ∈ o.after.toList, Region.binds .any e = true ∧ (j = e.on ∨ bef D j e.on = true)
  edge : ∀ i o, D.ops[i]? = some o → D.draw = true → ∀ e ∈ o.after.toList, Region.binds .any e = true → e.on < i
theorem ordB_spec {D : RD} {i j : Nat} (h : ordB D i j = true) : bef D j i = true ∨ bef D i j = true := by
  unfold ordB at h
  split at h
  · rename_i h1; exact .inl h1
  · exact .inr h
theorem visTl_spec {D : RD} {i t : Nat} : ∀ {r : List Oper} {n : Nat}, visTl D i t n r = true → ∀ j o, r[j]? = some o → isDst o.dst t = true → n + j = i ∨ ordB D i (n + j) = true
  | [], n, h, j, o, ho, hd => by simp at ho
  | q :: r, n, h, j, o, ho, hd => by
    unfold visTl at h
    cases j with
    | zero =>
      simp at ho; subst ho
      rw [hd] at h
      simp only at h
      split at h
      · rename_i hb; exact .inl (Nat.eq_of_beq_eq_true hb)
      · split at h
        · rename_i ho; exact .inr ho
        · cases h
    | succ j =>
      have hrest : visTl D i t (n + 1) r = true := by
        split at h
        · exact h
        · split at h
          · exact h
          · split at h
            · exact h
            · cases h
      have := visTl_spec hrest j o (by simpa using ho) hd
      rwa [show n + 1 + j = n + (j + 1) from by omega] at this
theorem visT_spec {D : RD} {i t : Nat} (h : visT D i t = true) {j : Nat} {o : Oper} (ho : D.ops[j]? = some o) (hd : isDst o.dst t = true) (hne : j ≠ i) : bef D j i = true ∨ bef D i j = true := by
  unfold visT at h
  split at h
  · rename_i hdr
    unfold bef; rw [hdr]; simp only [Nat.blt_eq]; omega
  · rcases visTl_spec h j o ho hd with h | h
    · omega
    · exact ordB_spec (by simpa using h)
theorem visOl_spec {D : RD} {i l : Nat} : ∀ {r : List (Nat × Nat)}, visOl D i l r = true → ∀ j, (l, j) ∈ r → j = i ∨ ordB D i j = true
  | [], _, j, hm => by cases hm
  | (k, q) :: r, h, j, hm => by
    unfold visOl at h
    cases hm with
    | head =>
      rw [Nat.beq_refl] at h
      simp only at h
      split at h
      · rename_i hb; exact .inl (Nat.eq_of_beq_eq_true hb)
      · split at h
        · rename_i ho; exact .inr ho
        · cases h
    | tail _ hm =>
      split at h
      · exact visOl_spec h j hm
      · split at h
        · exact visOl_spec h j hm
        · split at h
          · exact visOl_spec h j hm
          · cases h
theorem inWol_spec {i l : Nat} : ∀ {r : List (Nat × Nat)}, inWol i l r = true → (l, i) ∈ r
  | [], h => by cases h
  | (k, j) :: r, h => by
    unfold inWol at h
    split at h
    · exact List.mem_cons_of_mem _ (inWol_spec h)
    · rename_i hb
      split at h
      · rename_i hb2
        have h1 := Nat.eq_of_beq_eq_true hb
        have h2 := Nat.eq_of_beq_eq_true hb2
        subst h1; subst h2; simp
      · exact List.mem_cons_of_mem _ (inWol_spec h)
theorem visO_spec {D : RD} {i l j : Nat} (h : visO D i l = true) (hw : inWo D j l = true) (hne : j ≠ i) : bef D j i = true ∨ bef D i j = true := by
  unfold visO at h
  unfold inWo at hw
  split at h
  · rename_i hdr
    unfold bef; rw [hdr]; simp only [Nat.blt_eq]; omega
  · rename_i hdr
    rw [hdr] at hw
    rcases visOl_spec h j (inWol_spec hw) with h | h
    · omega
    · exact ordB_spec h
end Go.Idl
set_option linter.unusedSimpArgs false
set_option linter.unusedVariables false
namespace Go.Idl
open Go
section
variable {P : Program} {Γ : Cx} {w0 : Org} {w : World} {a : Act} {D : RD} {tr : Tr} {f0 : Nat → Option IV} {g0 : Nat → Option MObj} {len : Nat} {ops : Array Oper} {r : Option Nat} {Q : Ex → Act → World → Prop}
def Inv (Γ : Cx) (w0 : Org) (D : RD) (tr : Tr) (f0 : Nat → Option IV) (g0 : Nat → Option MObj) (len : Nat) (S : Nat → Bool) (a : Act) (w : World) : Prop :=
  ∃ H : List MObj, H.length = len ∧ (∀ l : Nat, H[l]? = fold (WrO tr) S D.ops.length g0 l) ∧ Now Γ w0 (fun t => fold (WrT D.ops tr) S D.ops.length f0 t) H a w
structure SOK (D : RD) (S : Nat → Bool) : Prop where
  down : ∀ k j, S j = true → bef D k j = true → S k = true
theorem pickE_spec {D : RD} {i : Nat} {E : Env} {t : Nat} {v : IV} : ∀ {l : List Operand}, lookE t (pickE D i E l) = some v → visT D i t = true ∧ lookE t E = some v
  | [], h => by cases h
  | x :: l, h => by
    cases x with
    | tmp u =>
      unfold pickE at h
      split at h
      · rename_i hvis
        split at h
        · rename_i iv hiv
          simp only [lookE] at h
          split at h
          · rename_i hb
            have := Nat.eq_of_beq_eq_true hb
            subst this
            cases h
            exact ⟨hvis, hiv⟩
          · exact pickE_spec h
        · exact pickE_spec h
      · exact pickE_spec h
    | const u => exact pickE_spec (l := l) h
    | func u => exact pickE_spec (l := l) h
    | global u => exact pickE_spec (l := l) h
theorem region_op (hops : ops.toList = D.ops) (hnt : D.nt = Γ.nt) (hD : DOK D) (hfacts : ∀ k, k < D.ops.length → OpFact P D tr f0 g0 len k) {S : Nat → Bool} (hS : SOK D S) {k : Nat} (hk : k < D.ops.length) (hkS : S k = false)
    (hanc : ∀ j, bef D j k = true → S j = true) (hinv : Inv Γ w0 D tr f0 g0 len S a w) (hnod : ∀ o ∈ D.ops, isDefer o.op = false) {rest : List Nat}
    (cont : ∀ a' w', Inv Γ w0 D tr f0 g0 len (addS S k) a' w' → WT P r [.inRegion ops rest] Q a' w') : WT P r [.inRegion ops (k :: rest)] Q a w := by
  obtain ⟨o, E, Hk, c, v, wr, obs, hok, htk, hE, hHk, hlk, hev, hobs, hwr, hdst⟩ := hfacts k hk
  obtain ⟨H, hlen, hH, φ, h1, h2, h3, h4, h5, h6, h7, h8⟩ := hinv
  have hoa : ops[k]? = some o := by rw [← Array.getElem?_toList, hops]; exact hok
  have hwriters : ∀ j l, (WrO tr j l).isSome = true → j < D.ops.length → inWo D j l = true := by
    intro j l hj hlt
    obtain ⟨o', E', H', c', v', wr', obs', _, htj, _, _, _, _, _, hwr', _⟩ := hfacts j hlt
    unfold WrO at hj
    rw [htj] at hj
    simp only at hj
    cases hq : lookW l wr' with
    | none => rw [hq] at hj; cases hj
    | some q => exact (wrOK_spec hwr' l q (lookW_mem hq)).2.2
  have hTord : ∀ t, visT D k t = true → ∀ j, j < D.ops.length → j ≠ k → (WrT D.ops tr j t).isSome = true → bef D j k = true ∨ bef D k j = true := by
    intro t hvis j hj hne hsome
    unfold WrT at hsome
    split at hsome
    · rename_i hd
      have hoj : ∃ oj, D.ops[j]? = some oj := ⟨D.ops[j], List.getElem?_eq_getElem hj⟩
      obtain ⟨oj, hoj⟩ := hoj
      unfold dstOf at hd
      rw [hoj] at hd
      exact visT_spec hvis hoj hd hne
    · cases hsome
  have hOord : ∀ l, visO D k l = true → ∀ j, j < D.ops.length → j ≠ k → (WrO tr j l).isSome = true → bef D j k = true ∨ bef D k j = true :=
    fun l hvis j hj hne hsome => visO_spec hvis (hwriters j l hsome hj) hne
  have seeT : ∀ t, visT D k t = true → fold (WrT D.ops tr) S D.ops.length f0 t = lookE t E := fun t hvis => by
    rw [hE t]
    exact fold_sees (before := fun j i => bef D j i = true) (Nat.le_of_lt hk) hkS (fun k' j hs hb => hS.down k' j hs hb) hanc hD.lt (hTord t hvis) (fun _ => .inr trivial)
  have seeO : ∀ l, visO D k l = true → H[l]? = Hk[l]? := fun l hvis => by
    rw [hHk l, hH l]
    exact fold_sees (before := fun j i => bef D j i = true) (Nat.le_of_lt hk) hkS (fun k' j hs hb => hS.down k' j hs hb) hanc hD.lt (hOord l hvis) (fun _ => .inr trivial)
  have hhp : ∀ l q, hpV D k Hk l = some q → H[l]? = some q := by
    intro l q hq
    unfold hpV at hq
    split at hq
    · rename_i hvis; rw [seeO l hvis]; exact hq
    · cases hq
  have tmpOK : ∀ t iv, visT D k t = true → lookE t E = some iv → ∃ u : Value, a.tmps[t]? = some u ∧ RI Γ w.heap φ H iv u := fun t iv hvis hl => h1 t iv ((seeT t hvis).trans hl)
  have hdt : ∀ t, o.dst = some t → t < Γ.nt ∧ visT D k t = true := by
    intro t ht
    rw [ht] at hdst
    unfold dstOK at hdst
    split at hdst
    · cases ‹some t = none›
    · rename_i t' heq
      cases heq
      split at hdst
      · rename_i hb; rw [Nat.blt_eq] at hb; exact ⟨hnt ▸ hb, hdst⟩
      · cases hdst
  have next : ∀ (x : Value) (w' : World), StepW Γ φ H w v wr x w' → Inv Γ w0 D tr f0 g0 len (addS S k) (a.put o.dst x) w' := by
    intro x w' ⟨φ', g1, g2, g3, g4⟩
    refine ⟨puts wr H, by rw [puts_length, hlen], fun l => ?_, Now.step (f := fun t => fold (WrT D.ops tr) S D.ops.length f0 t) h1 h3 h4 h5 h6 h7 h8 g1 g2 g3 g4 (fun t ht => (hdt t ht).1) fun t => ?_⟩
    · rw [puts_get wr (fun k' q hm => by rw [hlen]; exact (wrOK_spec hwr k' q hm).1),
        fold_add (before := fun j i => bef D j i = true) hk hkS (fun k' j hs hb => hS.down k' j hs hb) hD.lt (fun hsome => hOord l (by
          unfold WrO at hsome
          rw [htk] at hsome
          simp only at hsome
          cases hq : lookW l wr with
          | none => rw [hq] at hsome; cases hsome
          | some q => exact (wrOK_spec hwr l q (lookW_mem hq)).2.1)), hH l]
      have : WrO tr k l = lookW l wr := by unfold WrO; rw [htk]
      rw [this]
      cases lookW l wr <;> rfl
    · have hw' : WrT D.ops tr k t = match isDst o.dst t with | true => some v | false => none := by unfold WrT dstOf; rw [hok, htk]; all_goals (first | rfl | (simp only; cases isDst o.dst t <;> rfl) | (cases isDst o.dst t <;> rfl))
      rw [fold_add (before := fun j i => bef D j i = true) hk hkS (fun k' j hs hb => hS.down k' j hs hb) hD.lt (fun hsome => hTord t (by
          rw [hw'] at hsome
          cases hd : isDst o.dst t with
          | false => rw [hd] at hsome; cases hsome
          | true =>
            cases hdd : o.dst with
            | none => rw [hdd] at hd; cases hd
            | some u =>
              rw [hdd] at hd
              have := Nat.eq_of_beq_eq_true hd
              subst this
              exact (hdt u hdd).2)), hw']
      cases isDst o.dst t <;> rfl
  have hguard : ∀ b, guardC D k E o.guard = some b → Region.wanted o (yielded ops a.tmps) = b := by
    intro b hb
    unfold guardC at hb
    unfold Region.wanted
    split at hb
    · rename_i hg; rw [hg]; simpa using hb
    · rename_i j want hg
      rw [hg]
      split at hb
      · rename_i t ht
        split at hb
        · rename_i hvis
          have hdj : ((ops[j]?).bind (·.dst)) = some t := by
            rw [← Array.getElem?_toList, hops]
            unfold dstOf at ht
            split at ht
            · rename_i oj hoj; rw [hoj]; exact ht
            · cases ht
          split at hb
          · rename_i bb hbb
            obtain ⟨u, hu, hr⟩ := tmpOK t _ hvis hbb
            cases hr.p_inv
            have : yielded ops a.tmps j = some bb := by unfold yielded; rw [hdj]; simp [hu]
            simp only [this]
            cases bb <;> cases want <;> simp_all
          · rename_i hbb
            obtain ⟨u, hu, hr⟩ := tmpOK t _ hvis hbb
            cases hr.p_inv with
            | tup _ vs hl =>
              have : yielded ops a.tmps j = none := by unfold yielded; rw [hdj]; simp [hu]
              simp only [this]
              cases hb; rfl
          · cases hb
        · cases hb
      · cases hb
  have done : ∀ (hev2 : OpDoes P Γ φ H w ((execOp a.eval o).run P w) v wr) (hw : Region.wanted o (yielded ops a.tmps) = true), WT P r [.inRegion ops (k :: rest)] Q a w := by
    intro hdo hw b kk cs
    have hd : isDefer o.op = false := hnod o (List.mem_of_getElem? hok)
    rcases hdo with ⟨nx, x, w', hrun, hnx, hst⟩ | ⟨g, vs, hrun, hcall⟩ | ⟨l, f, tm, asn, bo, hrun, hcall⟩
    · obtain ⟨e, a', w'', hq, harr⟩ := cont _ _ (next x w' hst) b kk cs
      exact ⟨e, a', w'', hq, .of_steps (.one (st_op_value hoa hw hd hrun hnx)) harr⟩
    · obtain ⟨x, w', hst, hsteps⟩ := steps_op_call (r := r) (b := b) (a := a) (k := kk) (cs := cs) hoa hw hd hrun hcall (rest := rest)
      obtain ⟨e, a', w'', hq, harr⟩ := cont _ _ (next x w' hst) b kk cs
      exact ⟨e, a', w'', hq, .of_steps hsteps harr⟩
    · obtain ⟨x, w', hst, hsteps⟩ := steps_op_round (r := r) (b := b) (a := a) (k := kk) (cs := cs) hoa hw hd hrun hcall (rest := rest)
      obtain ⟨e, a', w'', hq, harr⟩ := cont _ _ (next x w' hst) b kk cs
      exact ⟨e, a', w'', hq, .of_steps hsteps harr⟩
  unfold evOp at hev
  split at hev
  · rename_i hg
    simp only [Option.some.injEq, Prod.mk.injEq] at hev
    obtain ⟨rfl, rfl, rfl⟩ := hev
    have hw := hguard _ hg
    intro b kk cs
    have hstep := st_op_skip (P := P) (r := r) (b := b) (a := a) (k := kk) (cs := cs) (w := w) (ops := ops) (i := k) (rest := rest) (by rw [hoa]; exact hw)
    have hdo : ((ops[k]?).bind (·.dst)) = o.dst := by rw [hoa]; rfl
    rw [hdo] at hstep
    obtain ⟨e, a', w', hq, harr⟩ := cont _ _ (next undef w ⟨φ, h2, Ext.refl _ _ _, .p _ _ (.tup [] [] .nil), WSame.refl w⟩) b kk cs
    exact ⟨e, a', w', hq, .of_steps (.one hstep) harr⟩
  · rename_i hg
    have hw := hguard _ hg
    have hE' : EOK Γ w.heap φ H (pickE D k E o.op.operands.toList) a.eval := eok_of fun t iv hl => tmpOK t iv (pickE_spec hl).1 (pickE_spec hl).2
    split at hev
    · rename_i c1 c2
      unfold evAlt at hev
      split at hev
      · rename_i l ob j0 hdraw halt
        split at hev
        · rename_i v1 o1 v2 o2 hak hr1 hr2
          cases hev
          obtain ⟨p1, p2⟩ := hobs.append
          obtain ⟨p4, p3⟩ := p2.append
          obtain ⟨hv12, hkj, _⟩ := p3
          subst hv12
          have hwr : ∀ j, j < D.ops.length → (WrO tr j l).isSome = true → k < j ∧ (j = j0 ∨ bef D k j = true) := by
            intro j hj hsome
            have := hwriters j l hsome hj
            unfold inWo at this
            rw [hdraw] at this
            have hmem := inWol_spec this
            clear this
            have key : ∀ wo : List (Nat × Nat), altOK D k l j0 wo = true → (l, j) ∈ wo → k < j ∧ (j = j0 ∨ bef D k j = true) := by
              intro wo
              induction wo with
              | nil => intro _ h; cases h
              | cons p wo ih =>
                obtain ⟨q, jj⟩ := p
                intro h hm
                unfold altOK at h
                cases hm with
                | head =>
                  rw [Nat.beq_refl] at h
                  simp only at h
                  split at h
                  · cases h
                  · rename_i hlt
                    rw [Nat.blt_eq] at hlt
                    split at h
                    · rename_i hb; exact ⟨hlt, .inl (Nat.eq_of_beq_eq_true hb)⟩
                    · split at h
                      · rename_i hb; exact ⟨hlt, .inr hb⟩
                      · cases h
                | tail _ hm =>
                  split at h
                  · exact ih h hm
                  · split at h
                    · cases h
                    · split at h
                      · exact ih h hm
                      · split at h
                        · exact ih h hm
                        · cases h
            exact key D.wo hak hmem
          have hSj : ∀ j, j < D.ops.length → S j = true → (WrO tr j l).isSome = true → j = j0 := by
            intro j hj hs hsome
            rcases (hwr j hj hsome).2 with h | h
            · exact h
            · have := hS.down k j hs h; rw [hkS] at this; cases this
          have hHkl : Hk[l]? = g0 l := by
            rw [hHk l]
            exact fold_cut (m := 0) (Nat.zero_le _) fun j _ hj _ => by
              cases hq : WrO tr j l with
              | none => rfl
              | some q => have := (hwr j (by omega) (by rw [hq]; rfl)).1; omega
          have hcase : H[l]? = Hk[l]? ∨ H[l]? = some ob := by
            by_cases hs0 : S j0 = true ∧ j0 < D.ops.length ∧ (WrO tr j0 l).isSome = true
            · right
              obtain ⟨g1, g2, g3⟩ := hs0
              rw [hH l, fold_cut (m := j0 + 1) (by omega) fun j h1 h2 h3 => by
                cases hq : WrO tr j l with
                | none => rfl
                | some q => have := hSj j h2 h3 (by rw [hq]; rfl); omega]
              simp only [fold, g1]
              obtain ⟨o0, E0, H0, c0, v0, wr0, obs0, _, htj, _, _, _, hev0, hobs0, _, _⟩ := hfacts j0 g2
              have : lookW l wr0 = some ob := by
                unfold evOp at hev0
                have haout : altOut D j0 wr0 = [lookW l wr0 = some ob] := by unfold altOut; rw [halt]; simp [Nat.beq_refl]
                split at hev0
                · cases hev0; unfold altOut at hobs0; rw [halt] at hobs0; simp only [Nat.beq_refl] at hobs0; exact hobs0.1
                · split at hev0
                  · exfalso
                    unfold evAlt at hev0
                    split at hev0
                    · rename_i l' ob' j0' _ halt'
                      rw [halt] at halt'; cases halt'
                      split at hev0
                      · cases hev0
                        exact (hobs0.append.2.append.2).2.1 rfl
                      · cases hev0
                    · cases hev0
                  · split at hev0
                    · split at hev0
                      · cases hev0
                        have := hobs0.append.2
                        rw [haout] at this; exact this.1
                      · cases hev0
                    · cases hev0
                · cases hev0
              have hw0 : WrO tr j0 l = some ob := by unfold WrO; rw [htj]; exact this
              rw [hw0]
            · left
              rw [hHkl, hH l]
              exact fold_cut (m := 0) (Nat.zero_le _) fun j _ hj hs => by
                cases hq : WrO tr j l with
                | none => rfl
                | some q =>
                  have he := hSj j hj hs (by rw [hq]; rfl)
                  subst he
                  exact absurd ⟨hs, hj, by rw [hq]; rfl⟩ hs0
          have hsub : ∀ (x : Option MObj), H[l]? = x → ∀ m q, hpA D k Hk l x m = some q → H[m]? = some q := by
            intro x hx m q hq
            unfold hpA at hq
            split at hq
            · rename_i hb; have := Nat.eq_of_beq_eq_true hb; subst this; rw [hx]; exact hq
            · exact hhp m q hq
          rcases hcase with hx | hx
          · exact done (opR_sound hE' (hsub _ hx) h2 h3 (by rw [hlk, hlen]) (fun n hn => by cases hn) hr1 p1) hw
          · exact done (opR_sound hE' (hsub _ hx) h2 h3 (by rw [hlk, hlen]) (fun n hn => by cases hn) hr2 p4) hw
        · cases hev
      · cases hev
    · split at hev
      · rename_i hnew
        split at hev
        · rename_i v' wr' obs' hop
          cases hev
          exact done (opR_sound (P := P) (Γ := Γ) (w := w) (φ := φ) (H := H) hE' hhp h2 h3 (by rw [hlk, hlen]) (fun n hn => by
            rw [hn] at hnew
            unfold newOK isHole at hnew
            simp only at hnew
            split at hnew
            · rename_i heq; exact hhp _ _ heq
            · cases hnew) hop hobs.append.1) hw
        · cases hev
      · cases hev
  · cases hev
end
end Go.Idl
set_option linter.unusedSimpArgs false
set_option linter.unusedVariables false
namespace Go.Idl
open Go
def edgeM (masks : List Nat) (i : Nat) : List Edge → Option Nat
  | [] => some 0
  | e :: r => match Region.binds .any e with
    | true => (match Nat.blt e.on i, edgeM masks i r with | true, some m => some (Nat.lor m (Nat.lor (nthN masks e.on) (Nat.shiftLeft 1 e.on))) | _, _ => none)
    | false => edgeM masks i r
def masksOK (all : List Nat) : Nat → List Oper → List Nat → Bool
  | _, [], [] => true
  | i, o :: r, m :: ms => match edgeM all i o.after.toList with | some k => (match Nat.beq k m with | true => masksOK all (i + 1) r ms | false => false) | none => false
  | _, _, _ => false
def rdOK (D : RD) : Bool := match D.draw with | false => true | true => masksOK D.masks 0 D.ops D.masks
def noDefer : List Oper → Bool
  | [] => true
  | o :: r => match isDefer o.op with | true => false | false => noDefer r
theorem noDefer_spec : ∀ {l : List Oper}, noDefer l = true → ∀ o ∈ l, isDefer o.op = false
  | [], _, o, ho => by cases ho
  | q :: r, h, o, ho => by
    unfold noDefer at h
    split at h
    · cases h
    · rename_i hq
      cases ho with
      | head => exact hq
      | tail _ ho => exact noDefer_spec h o ho
theorem edgeM_spec {masks : List Nat} {i : Nat} : ∀ {l : List Edge} {m : Nat}, edgeM masks i l = some m → (∀ e ∈ l, Region.binds .any e = true → e.on < i) ∧
    ∀ j, Nat.testBit m j = true ↔ ∃ e ∈ l, Region.binds .any e = true ∧ (j = e.on ∨ Nat.testBit (nthN masks e.on) j = true)
  | [], m, h => by simp [edgeM] at h; subst h; simp
  | e :: r, m, h => by
    unfold edgeM at h
    split at h
    · rename_i hb
      split at h
      · rename_i m' h1 h2
        rw [Nat.blt_eq] at h1
        obtain ⟨g1, g2⟩ := edgeM_spec h2
        cases h
        refine ⟨fun e' he' hb' => ?_, fun j => ?_⟩
        · cases he' with
          | head => exact h1
          | tail _ he' => exact g1 e' he' hb'
        · have hor : Nat.lor m' (Nat.lor (nthN masks e.on) (Nat.shiftLeft 1 e.on)) = m' ||| (nthN masks e.on ||| (1 <<< e.on)) := rfl
          rw [hor, Nat.testBit_or, Nat.testBit_or, Bool.or_eq_true, Bool.or_eq_true, g2 j]
          have hsh : Nat.testBit (1 <<< e.on) j = true ↔ j = e.on := by
            rw [Nat.one_shiftLeft, Nat.testBit_two_pow]; simp; omega
          rw [hsh]
          constructor
          · rintro (⟨e', h1, h2, h3⟩ | h | h)
            · exact ⟨e', by simp [h1], h2, h3⟩
            · exact ⟨e, by simp, hb, .inr h⟩
            · exact ⟨e, by simp, hb, .inl h⟩
          · rintro ⟨e', h1, h2, h3⟩
            cases h1 with
            | head => rcases h3 with h3 | h3 <;> simp [h3]
            | tail _ h1 => exact .inl ⟨e', h1, h2, h3⟩
      · cases h
    · rename_i hb
      obtain ⟨g1, g2⟩ := edgeM_spec h
      refine ⟨fun e' he' hb' => ?_, fun j => (g2 j).trans ⟨fun ⟨e', h1, h2⟩ => ⟨e', by simp [h1], h2⟩, fun ⟨e', h1, h2, h3⟩ => ?_⟩⟩
      · cases he' with
        | head => rw [hb] at hb'; cases hb'
        | tail _ he' => exact g1 e' he' hb'
      · cases h1 with
        | head => rw [hb] at h2; cases h2
        | tail _ h1 => exact ⟨e', h1, h2, h3⟩
theorem masksOK_spec {all : List Nat} : ∀ {l : List Oper} {ms : List Nat} {i : Nat}, masksOK all i l ms = true → ms.length = l.length ∧ ∀ (j : Nat) o, l[j]? = some o → ∃ m, ms[j]? = some m ∧ edgeM all (i + j) o.after.toList = some m
  | [], [], i, h => ⟨rfl, fun j o ho => by simp at ho⟩
  | o :: r, m :: ms, i, h => by
    unfold masksOK at h
    split at h
    · rename_i k hk
      split at h
      · rename_i hb
        have := Nat.eq_of_beq_eq_true hb
        subst this
        obtain ⟨g1, g2⟩ := masksOK_spec h
        refine ⟨by simp [g1], fun j q hq => ?_⟩
        cases j with
        | zero => simp at hq; subst hq; exact ⟨k, rfl, hk⟩
        | succ j =>
          obtain ⟨m', h1, h2⟩ := g2 j q (by simpa using hq)
          exact ⟨m', by simpa using h1, by rw [show i + (j + 1) = i + 1 + j from by omega]; exact h2⟩
      · cases h
    · cases h
  | [], _ :: _, i, h => by simp [masksOK] at h
  | _ :: _, [], i, h => by simp [masksOK] at h
theorem nthN_get : ∀ (l : List Nat) (i : Nat), nthN l i = (l[i]?).getD 0
  | [], i => by simp [nthN]
  | m :: r, 0 => by simp [nthN]
  | m :: r, i + 1 => by simp [nthN, nthN_get r i]
theorem dok_of {D : RD} (h : rdOK D = true) : DOK D := by
  cases hd : D.draw with
  | false =>
    refine ⟨fun j i hb => ?_, fun i o ho hdr => absurd (hd.symm.trans hdr) (by simp), fun i o ho hdr => absurd (hd.symm.trans hdr) (by simp)⟩
    unfold bef at hb; rw [hd] at hb; simp only [Nat.blt_eq] at hb; exact hb
  | true =>
    unfold rdOK at h
    rw [hd] at h
    obtain ⟨g1, g2⟩ := masksOK_spec h
    have key : ∀ i o, D.ops[i]? = some o → edgeM D.masks i o.after.toList = some (nthN D.masks i) := by
      intro i o ho
      obtain ⟨m, h1, h2⟩ := g2 i o ho
      rw [Nat.zero_add] at h2
      rw [nthN_get, h1]; exact h2
    have edge : ∀ i o, D.ops[i]? = some o → D.draw = true → ∀ e ∈ o.after.toList, Region.binds .any e = true → e.on < i := fun i o ho _ => (edgeM_spec (key i o ho)).1
    have hbef : ∀ j i, bef D j i = Nat.testBit (nthN D.masks i) j := fun j i => by unfold bef; rw [hd]
    have closed : ∀ i o, D.ops[i]? = some o → D.draw = true → ∀ j, bef D j i = true → ∃ e ∈ o.after.toList, Region.binds .any e = true ∧ (j = e.on ∨ bef D j e.on = true) := by
      intro i o ho _ j hb
      rw [hbef] at hb
      obtain ⟨e, h1, h2, h3⟩ := ((edgeM_spec (key i o ho)).2 j).1 hb
      exact ⟨e, h1, h2, by rw [hbef]; exact h3⟩
    refine ⟨fun j i => ?_, closed, edge⟩
    induction i using Nat.strongRecOn with
    | ind i ih =>
      intro hb
      cases ho : D.ops[i]? with
      | none =>
        rw [hbef, nthN_get] at hb
        have : D.masks[i]? = none := by
          rw [List.getElem?_eq_none_iff] at ho ⊢; omega
        rw [this] at hb; simp at hb
      | some o =>
        obtain ⟨e, h1, h2, h3⟩ := closed i o ho hd j hb
        have := edge i o ho hd e h1 h2
        rcases h3 with h3 | h3
        · omega
        · have := ih e.on this h3; omega
section
variable {P : Program} {Γ : Cx} {w0 : Org} {w : World} {a : Act} {D : RD} {tr : Tr} {f0 : Nat → Option IV} {g0 : Nat → Option MObj} {len : Nat} {ops : Array Oper} {r : Option Nat} {Q : Ex → Act → World → Prop}
theorem text_order (hops : ops.toList = D.ops) (hnt : D.nt = Γ.nt) (hD : DOK D) (hdr : D.draw = false) (hfacts : ∀ k, k < D.ops.length → OpFact P D tr f0 g0 len k) (hnod : ∀ o ∈ D.ops, isDefer o.op = false)
    (fin : ∀ a' w', Inv Γ w0 D tr f0 g0 len (fun k => Nat.blt k D.ops.length) a' w' → Q .normal a' w') : ∀ (m i : Nat) (a : Act) (w : World), i + m = D.ops.length → Inv Γ w0 D tr f0 g0 len (fun k => Nat.blt k i) a w →
      WT P r [.inRegion ops (List.range' i m)] Q a w
  | 0, i, a, w, he, hi => by
    simp only [Nat.add_zero] at he
    subst he
    exact WT_regionEnd (fin a w hi)
  | m + 1, i, a, w, he, hi => by
    rw [List.range'_succ]
    have hb : ∀ j i, bef D j i = Nat.blt j i := fun j i => by unfold bef; rw [hdr]
    refine region_op hops hnt hD hfacts (S := fun k => Nat.blt k i) ⟨fun k j h1 h2 => ?_⟩ (by omega) (by cases h : Nat.blt i i with | false => rfl | true => (rw [Nat.blt_eq] at h; omega)) (fun j h => by rw [hb] at h; exact h) hi hnod fun a' w' hi' => ?_
    · rw [hb, Nat.blt_eq] at h2
      simp only [Nat.blt_eq] at h1 ⊢; omega
    · refine text_order hops hnt hD hdr hfacts hnod fin m (i + 1) a' w' (by omega) ?_
      have : addS (fun k => Nat.blt k i) i = fun k => Nat.blt k (i + 1) := by
        funext k
        simp only [addS]
        split
        · rename_i h; subst h; symm; rw [Nat.blt_eq]; omega
        · rename_i h
          rw [Bool.eq_iff_iff, Nat.blt_eq, Nat.blt_eq]; omega
      rw [this] at hi'; exact hi'
def left (n : Nat) (listed : Array Bool) : List Nat := (List.range n).filter fun i => !listed.getD i true
theorem filter_le {α : Type} (p q : α → Bool) : ∀ (l : List α), (∀ x ∈ l, q x = true → p x = true) → (l.filter q).length ≤ (l.filter p).length
  | [], _ => by simp
  | z :: l, hsub => by
    have ih := filter_le p q l fun x hx => hsub x (List.mem_cons_of_mem _ hx)
    have hz := hsub z (by simp)
    simp only [List.filter_cons]
    cases hq : q z <;> cases hp : p z <;> simp_all <;> omega
theorem filter_lt {α : Type} (p q : α → Bool) : ∀ (l : List α), (∀ x ∈ l, q x = true → p x = true) → (∃ x ∈ l, p x = true ∧ q x = false) → (l.filter q).length < (l.filter p).length
  | [], _, h => by obtain ⟨x, h1, _⟩ := h; cases h1
  | y :: l, hsub, hex => by
    have hle := filter_le p q l fun x hx => hsub x (List.mem_cons_of_mem _ hx)
    obtain ⟨x, h1, h2, h3⟩ := hex
    cases h1 with
    | head => simp only [List.filter_cons, h2, h3]; simp; omega
    | tail _ h1 =>
      have := filter_lt p q l (fun z hz => hsub z (List.mem_cons_of_mem _ hz)) ⟨x, h1, h2, h3⟩
      have hy := hsub y (by simp)
      simp only [List.filter_cons]
      cases hq : q y <;> cases hp : p y <;> simp_all <;> omega
theorem least {p : Nat → Prop} (n : Nat) (h : p n) : ∃ m, p m ∧ ∀ k, k < m → ¬ p k := by
  classical
  by_cases hh : ∀ n, p n → ∃ k, k < n ∧ p k
  · exfalso
    have : ∀ n, ¬ p n := fun n => by
      induction n using Nat.strongRecOn with
      | ind n ih => intro hp; obtain ⟨k, h1, h2⟩ := hh n hp; exact ih k h1 h2
    exact this n h
  · have ⟨m, hm⟩ := Classical.not_forall.1 hh
    have ⟨h1, h2⟩ := Classical.not_imp.1 hm
    exact ⟨m, h1, fun k hk hp => h2 ⟨k, hk, hp⟩⟩
theorem any_order (hops : ops.toList = D.ops) (hnt : D.nt = Γ.nt) (hD : DOK D) (hdr : D.draw = true) (hfacts : ∀ k, k < D.ops.length → OpFact P D tr f0 g0 len k) (hnod : ∀ o ∈ D.ops, isDefer o.op = false)
    (fin : ∀ a' w', Inv Γ w0 D tr f0 g0 len (fun k => Nat.blt k D.ops.length) a' w' → Q .normal a' w') : ∀ (fuel t : Nat) (listed : Array Bool) (a : Act) (w : World), listed.size = ops.size → (left ops.size listed).length ≤ fuel →
      (∀ i, listed.getD i false = true → ∀ k, bef D k i = true → listed.getD k false = true) → Inv Γ w0 D tr f0 g0 len (fun k => listed.getD k false) a w →
      WT P r [.inRegion ops (Region.linearise.go .any ops fuel t listed [])] Q a w := by
  have hsz : ops.size = D.ops.length := by rw [← hops]; simp
  have getD2 : ∀ (listed : Array Bool) (i : Nat), i < listed.size → listed.getD i true = listed.getD i false := fun listed i hi => by
    simp [Array.getD_eq_getD_getElem?, Array.getElem?_eq_getElem hi]
  have done : ∀ (listed : Array Bool) (a : Act) (w : World), listed.size = ops.size → (∀ i, i < ops.size → listed.getD i false = true) → Inv Γ w0 D tr f0 g0 len (fun k => listed.getD k false) a w → Inv Γ w0 D tr f0 g0 len (fun k => Nat.blt k D.ops.length) a w := by
    intro listed a w h1 h2 h3
    have : (fun k => listed.getD k false) = fun k => Nat.blt k D.ops.length := by
      funext k
      rw [Bool.eq_iff_iff, Nat.blt_eq]
      constructor
      · intro h
        rcases Nat.lt_or_ge k listed.size with hh | hh
        · omega
        · rw [Array.getD_eq_getD_getElem?, Array.getElem?_eq_none hh] at h; cases h
      · intro h; exact h2 k (by omega)
    rw [this] at h3; exact h3
  have ready : ∀ (listed : Array Bool), listed.size = ops.size → Region.ready .any ops listed = [] → ∀ i, i < ops.size → listed.getD i false = true := by
    intro listed hl hr i hi
    rcases hc : listed.getD i false with _ | _
    · exfalso
      obtain ⟨m, ⟨hm1, hm2⟩, hm3⟩ := least (p := fun i => i < ops.size ∧ listed.getD i false = false) i ⟨hi, hc⟩
      have : m ∈ Region.ready .any ops listed := by
        unfold Region.ready
        rw [List.mem_filter]
        refine ⟨by simpa using hm1, ?_⟩
        have ho : ops[m]? = some ops[m] := Array.getElem?_eq_getElem hm1
        have ho' : D.ops[m]? = some ops[m] := by rw [← hops, Array.getElem?_toList]; exact ho
        rw [getD2 listed m (by omega), hm2, ho]
        simp only [Bool.not_false, Bool.true_and, Option.map_some, Option.getD_some]
        rw [Array.all_eq_true_iff_forall_mem]
        intro e he
        cases hb : Region.binds .any e with
        | false => rfl
        | true =>
          have hlt := hD.edge m _ ho' hdr e (by simpa using he) hb
          have : ¬ (e.on < ops.size ∧ listed.getD e.on false = false) := hm3 e.on hlt
          have h2 : listed.getD e.on false = true := by
            cases hh : listed.getD e.on false with
            | true => rfl
            | false => exact absurd ⟨by omega, hh⟩ this
          simpa using h2
      rw [hr] at this; cases this
    · rfl
  intro fuel
  induction fuel with
  | zero =>
    intro t listed a w hl hf hc hi
    simp only [Region.linearise.go, List.reverse_nil]
    refine WT_regionEnd (fin a w (done listed a w hl (fun i hi' => ?_) hi))
    cases h : listed.getD i false with
    | true => rfl
    | false =>
      have : i ∈ left ops.size listed := by unfold left; rw [List.mem_filter]; exact ⟨by simpa using hi', by rw [getD2 listed i (by omega), h]; rfl⟩
      have : 0 < (left ops.size listed).length := List.length_pos_of_mem this
      omega
  | succ fuel ih =>
    intro t listed a w hl hf hc hi
    simp only [Region.linearise.go]
    change WT P r [.inRegion ops (match (Region.ready .any ops listed)[t % (Region.ready .any ops listed).length]? with
      | some i => Region.linearise.go .any ops fuel (t / (Region.ready .any ops listed).length) (listed.setIfInBounds i true) [i]
      | none => [].reverse)] Q a w
    cases hi' : (Region.ready .any ops listed)[t % (Region.ready .any ops listed).length]? with
    | none =>
      have hnil : Region.ready .any ops listed = [] := by
        cases hr : Region.ready .any ops listed with
        | nil => rfl
        | cons x xs =>
          rw [hr] at hi'
          have hlt : t % (x :: xs).length < (x :: xs).length := Nat.mod_lt _ (by simp)
          simp at hi'
          simp at hlt
          omega
      simp only [List.reverse_nil]
      exact WT_regionEnd (fin a w (done listed a w hl (ready listed hl hnil) hi))
    | some i =>
      simp only
      rw [linearise_go_acc, List.reverse_singleton, List.singleton_append]
      have hmem := List.mem_of_getElem? hi'
      unfold Region.ready at hmem
      rw [List.mem_filter] at hmem
      obtain ⟨hm1, hm2⟩ := hmem
      have hlt : i < ops.size := by simpa using hm1
      have ho : ops[i]? = some ops[i] := Array.getElem?_eq_getElem hlt
      have ho' : D.ops[i]? = some ops[i] := by rw [← hops, Array.getElem?_toList]; exact ho
      rw [ho] at hm2
      simp only [Option.map_some, Option.getD_some, Bool.and_eq_true] at hm2
      obtain ⟨hm2, hm3⟩ := hm2
      have hnl : listed.getD i false = false := by rw [← getD2 listed i (by omega)]; simpa using hm2
      rw [Array.all_eq_true_iff_forall_mem] at hm3
      have hanc : ∀ j, bef D j i = true → listed.getD j false = true := by
        intro j hb
        obtain ⟨e, h1, h2, h3⟩ := hD.closed i _ ho' hdr j hb
        have h4 := hm3 e (by simpa using h1)
        rw [h2] at h4
        simp only [Bool.not_true, Bool.false_or] at h4
        rcases h3 with h3 | h3
        · subst h3; exact h4
        · exact hc e.on h4 j h3
      have hadd : (fun k => (listed.setIfInBounds i true).getD k false) = addS (fun k => listed.getD k false) i := by
        funext k
        simp only [addS, Array.getD_eq_getD_getElem?, Array.getElem?_setIfInBounds]
        split
        · rename_i h; subst h; rw [if_pos rfl, if_pos (by omega)]; rfl
        · rename_i h; rw [if_neg (fun h' => h h'.symm)]
      refine region_op hops hnt hD hfacts (S := fun k => listed.getD k false) ⟨fun k j h1 h2 => hc j h1 k h2⟩ (by omega) hnl hanc hi hnod fun a' w' hinv => ?_
      refine ih _ _ a' w' (by simp [hl]) ?_ ?_ (by rw [hadd]; exact hinv)
      · have : (left ops.size (listed.setIfInBounds i true)).length < (left ops.size listed).length := by
          unfold left
          refine filter_lt _ _ _ (fun x hx hq => ?_) ⟨i, hm1, by rw [getD2 listed i (by omega), hnl]; rfl, ?_⟩
          · simp only [Array.getD_eq_getD_getElem?, Array.getElem?_setIfInBounds] at hq ⊢
            split at hq
            · split at hq
              · simp at hq
              · simp at hq
            · exact hq
          · rw [Array.getD_eq_getD_getElem?, Array.getElem?_setIfInBounds, if_pos rfl, if_pos (by omega)]; rfl
        omega
      · intro j hj k hb
        have h1 := congrFun hadd j
        have h2 := congrFun hadd k
        rw [h1] at hj
        rw [h2]
        simp only [addS] at hj ⊢
        split
        · rfl
        · split at hj
          · rename_i h; subst h; exact hanc k hb
          · exact hc j hj k hb
abbrev NowS (Γ : Cx) (w0 : Org) (σ : St) (a : Act) (w : World) : Prop := Now Γ w0 (fun t => lookE t σ.env) σ.heap a w
theorem region_sound {id : Nat} {E E' : Env} {H H' : List MObj} {cls : Cls} {obs : List Prop} {draw : Bool} (hm : P.follows .mixedOrders = true) (hops : ops.toList = D.ops) (hnt : D.nt = Γ.nt) (hdr : D.draw = draw) (hok : rdOK D = true)
    (hnod : noDefer D.ops = true) (hev : evOps P D 0 D.ops E H cls = some (tr, E', H', obs)) (ho : All obs) (h : NowS Γ w0 ⟨E, H⟩ a w) (fin : ∀ a' w', NowS Γ w0 ⟨E', H'⟩ a' w' → Q .normal a' w') :
    W P r (.region id ops draw) Q a w := by
  obtain ⟨h1, h2, h3, h4⟩ := evOps_facts (tr := tr) (f0 := fun t => lookE t E) (g0 := fun l : Nat => H[l]?) (len := H.length) hev ho rfl rfl (fun _ => rfl) (fun _ => rfl) rfl
  simp only [Nat.zero_add, Nat.zero_le, true_implies] at h1 h2 h3
  have hD := dok_of hok
  have fin' : ∀ a' w', Inv Γ w0 D tr (fun t => lookE t E) (fun l : Nat => H[l]?) H.length (fun k => Nat.blt k D.ops.length) a' w' → Q .normal a' w' := by
    rintro a' w' ⟨H2, g1, g2, g3⟩
    have hfull : ∀ {β : Type} (W : Nat → Nat → Option β) (f : Nat → Option β) (t : Nat), fold W (fun k => Nat.blt k D.ops.length) D.ops.length f t = fold W (fun _ => true) D.ops.length f t :=
      fun W f t => fold_congr (fun _ _ => rfl) fun k hk _ => by rw [Nat.blt_eq]; exact hk
    have hH : H2 = H' := by
      apply List.ext_getElem?
      intro l
      rw [g2 l, hfull, h3 l]
    subst hH
    exact fin a' w' (g3.mono fun t iv ht => by rw [hfull, ← h2 t]; exact ht)
  have start : ∀ (S : Nat → Bool) (w : World), (∀ k, k < D.ops.length → S k = false) → NowS Γ w0 ⟨E, H⟩ a w → Inv Γ w0 D tr (fun t => lookE t E) (fun l : Nat => H[l]?) H.length S a w := by
    intro S w hS hn
    have hnone : ∀ {β : Type} (W : Nat → Nat → Option β) (f : Nat → Option β) (t : Nat), fold W S D.ops.length f t = f t := fun W f t =>
      fold_cut (m := 0) (Nat.zero_le _) fun k _ hk hs => by rw [hS k hk] at hs; cases hs
    exact ⟨H, rfl, fun l => by rw [hnone], hn.mono fun t iv ht => by rw [hnone] at ht; exact ht⟩
  have hsz : ops.size = D.ops.length := by rw [← hops]; simp
  cases draw with
  | false =>
    refine W_region ?_
    rw [List.range_eq_range', hsz]
    exact text_order hops hnt hD hdr (fun k hk => h1 k hk) (noDefer_spec hnod) fin' D.ops.length 0 a w (by omega) (start _ w (fun k hk => by cases h : Nat.blt k 0 with | false => rfl | true => (rw [Nat.blt_eq] at h; omega)) h)
  | true =>
    refine W_region_draw fun t => ?_
    simp only [Region.schedule, hm, Bool.true_or, if_true, Region.linearise]
    have hfalse : ∀ k, (Array.replicate ops.size false).getD k false = false := fun k => by
      simp only [Array.getD_eq_getD_getElem?, Array.getElem?_replicate]
      split <;> rfl
    refine any_order hops hnt hD hdr (fun k hk => h1 k hk) (noDefer_spec hnod) fin' ops.size t _ a w.drew (by simp) ?_ (fun i hi => by rw [hfalse] at hi; cases hi) (start _ w.drew (fun k _ => hfalse k) h.drew)
    unfold left
    exact Nat.le_trans (List.length_filter_le _ _) (by simp)
end
end Go.Idl
set_option linter.unusedSimpArgs false
set_option linter.unusedVariables false
namespace Go.Idl
open Go
inductive FrzE (hp : Nat → Option MObj) : Env → Env → Prop
  | nil : FrzE hp [] []
  | keep (t : Nat) (v : IV) (r r' : Env) (h : FrzE hp r r') : FrzE hp ((t, v) :: r) ((t, v) :: r')
  | snap (t : Nat) (v : IV) (p : PV) (r r' : Env) (hs : SnapR hp v p) (h : FrzE hp r r') : FrzE hp ((t, v) :: r) ((t, .p p) :: r')
theorem FrzE.get {hp : Nat → Option MObj} {t : Nat} {v' : IV} : ∀ {E E' : Env}, FrzE hp E E' → lookE t E' = some v' → lookE t E = some v' ∨ ∃ v p, lookE t E = some v ∧ v' = .p p ∧ SnapR hp v p
  | _, _, .nil, h => by cases h
  | _, _, .keep u v r r' hf, h => by
    simp only [lookE] at h ⊢
    split
    · rename_i hb; rw [hb] at h; exact .inl h
    · rename_i hb; rw [hb] at h; exact FrzE.get hf h
  | _, _, .snap u v p r r' hs hf, h => by
    simp only [lookE] at h ⊢
    split
    · rename_i hb; rw [hb] at h; cases h; exact .inr ⟨v, p, rfl, rfl, hs⟩
    · rename_i hb; rw [hb] at h; exact FrzE.get hf h
theorem NowS.freeze {Γ : Cx} {w0 : Org} {a : Act} {w : World} {E E' : Env} {H : List MObj} (ks : List Nat) (hk : killable (fun l : Nat => H[l]?) ks = true) (hf : FrzE (only ks (fun l : Nat => H[l]?)) E E') : NowS Γ w0 ⟨E, H⟩ a w → NowS Γ w0 ⟨E', puts (dieW ks) H⟩ a w := by
  intro ⟨φ, h1, h2, h3, h4, h5, h6, h7, h8⟩
  obtain ⟨d1, d2⟩ := die_sound ks (fun l hm => by
    obtain ⟨o, g1, g2⟩ := killable_spec hk l hm
    rw [g1]; intro hh; cases hh; exact g2 rfl) h2
  have honly : ∀ l o, only ks (fun l : Nat => H[l]?) l = some o → memL l ks = true ∧ H[l]? = some o := by
    intro l o h
    unfold only at h
    split at h
    · rename_i hm; exact ⟨hm, h⟩
    · cases h
  refine ⟨φ, fun t iv ht => ?_, d1, h3, h4.ext d2, h5, h6, h7, h8.trans d2⟩
  · rcases hf.get ht with h | ⟨v, p, g1, rfl, g2⟩
    · obtain ⟨x, hx, hr⟩ := h1 t iv h
      exact ⟨x, hx, hr.ext d2⟩
    · obtain ⟨x, hx, hr⟩ := h1 t v g1
      have := snap_sound (Y := fun b => Γ.X b ∨ ∃ l q, H[l]? = some q ∧ q.live = true ∧ (φ l).1 = b ∧ memL l ks = false) h2 (fun l o h => (honly l o h).2) (fun b hb => hb.imp id fun ⟨k, q, h1, h2, h3, _⟩ => ⟨k, q, h1, h2, h3⟩)
        (fun l q k1 k2 k3 => by
          obtain ⟨hm, k1⟩ := honly l q k1
          rcases k3 with k3 | ⟨k', q', g1, g2, g3, g4⟩
          · exact (h2.lt l q k1 k2).2 k3
          · have := h2.inj k' l q' q g1 k1 g2 k2 g3
            subst this; rw [hm] at g4; cases g4) g2 hr
      refine ⟨x, hx, .p _ _ (this.keeps fun b o hb hx => ⟨hb, fun hy => hx ?_⟩)⟩
      rcases hy with hy | ⟨l, q, k1, k2, k3⟩
      · exact .inl hy
      · rcases dieW_get _ k1 with h | ⟨h, hm⟩
        · subst h; cases k2
        · exact .inr ⟨l, q, h, k2, k3, hm⟩
inductive CC where
  | reg (masks : List Nat) (wo : List (Nat × Nat)) (holes : Nat) (cls : Cls) (keep : List Nat)
  | leaf (e : Ex) (σ : St)
  | frz (E : Env) (ks : List Nat)
  | cut (e : Ex) (σ : St)
structure Md where
  nt : Nat
  m : Nat
  rd : Bool
structure OKm (md : Md) (Γ : Cx) (w0 : Org) (r : Option Nat) : Prop where
  nt : Γ.nt = md.nt
  m : w0.H.length ≤ md.m
  r : md.rd = false → r = none
def SemC (P : Program) (nt : Md) (its : List Item) (σ : St) (e : Ex) (σ' : St) : Prop :=
  ∀ (Γ : Cx) (w0 : Org) (r : Option Nat) (a : Act) (w : World), OKm nt Γ w0 r → NowS Γ w0 σ a w → WT P r its (fun e' a' w' => e' = e ∧ NowS Γ w0 σ' a' w') a w
def addHoles : Nat → List MObj → List MObj
  | 0, H => H
  | n + 1, H => addHoles n (H ++ [.hole])
abbrev CO := Option (Ex × St × List Prop × List CC)
def evC (P : Program) (nt : Md) : Code → St → List CC → CO
  | .skip, σ, cc => some (.normal, σ, [], cc)
  | .label _, σ, cc => some (.normal, σ, [], cc)
  | .region _ ops draw, σ, cc => match cc with
    | .reg masks wo holes cls keep :: cc' => (match rdOK ⟨draw, ops.toList, masks, wo, nt.nt, altOf cls⟩, noDefer ops.toList with
      | true, true => (match evOps P ⟨draw, ops.toList, masks, wo, nt.nt, altOf cls⟩ 0 ops.toList σ.env (addHoles holes σ.heap) cls with
        | some (_, E, H, obs) => (match cc' with
          | .frz E' ks :: cc'' => (match killable (fun l : Nat => H[l]?) ks with
            | true => some (.normal, ⟨E', puts (dieW ks) H⟩, obs ++ [FrzE (only ks (fun l : Nat => H[l]?)) (prune E keep) E'], cc'')
            | false => none)
          | cc' => some (.normal, ⟨prune E keep, H⟩, obs, cc'))
        | none => none)
      | _, _ => none)
    | _ => none
  | .seq x y, σ, cc => match cc with
   | .cut e σ' :: cc' => some (e, σ', [SemC P nt [.code (.seq x y)] σ e σ'], cc')
   | cc => match evC P nt x σ cc with
    | some (.normal, σ1, o1, cc1) => (match evC P nt y σ1 cc1 with
      | some (e, σ2, o2, cc2) => some (e, σ2, o1 ++ o2, cc2)
      | none => none)
    | r => r
  | .cond c x y, σ, cc => match opnd σ.env c with
    | some (.p (.bool true)) => evC P nt x σ cc
    | some (.p (.bool false)) => evC P nt y σ cc
    | _ => none
  | .block id x, σ, cc => match evC P nt x σ cc with
    | some (.exit id', σ1, o1, cc1) => (match Nat.beq id' id with | true => some (.normal, σ1, o1, cc1) | false => some (.exit id', σ1, o1, cc1))
    | r => r
  | .scope x, σ, cc => evC P nt x σ cc
  | .exit id, σ, cc => some (.exit id, σ, [], cc)
  | .ret, σ, cc => some (.ret, σ, [], cc)
  | .loop b, σ, cc => match cc with
    | .leaf e σ' :: cc' => some (e, σ', [SemC P nt [.code (.loop b)] σ e σ'], cc')
    | _ => none
  | .rangeFunc f ps s b, σ, cc => match cc with
    | .leaf e σ' :: cc' => some (e, σ', [SemC P nt [.code (.rangeFunc f ps s b)] σ e σ'], cc')
    | _ => none
  | _, _, _ => none
section
variable {P : Program} {Γ : Cx} {w0 : Org} {w : World} {a : Act} {nt : Md} {r : Option Nat}
theorem addHoles_sound : ∀ (n : Nat) {H : List MObj} {f : Nat → Option IV}, Now Γ w0 f H a w → Now Γ w0 f (addHoles n H) a w
  | 0, _, _, h => h
  | n + 1, H, f, h => by
    refine addHoles_sound n ?_
    obtain ⟨φ, h1, h2, h3, h4, h5, h6, h7, h8⟩ := h
    obtain ⟨k, e⟩ := h2.addHole
    refine ⟨φ, fun t iv ht => ?_, k, h3, h4.ext e, h5, h6, h7, h8.trans e⟩
    obtain ⟨v, hv, hr⟩ := h1 t iv ht; exact ⟨v, hv, hr.ext e⟩
theorem prune_spec {E : Env} {t : Nat} {v : IV} : ∀ {ks : List Nat}, lookE t (prune E ks) = some v → lookE t E = some v
  | [], h => by cases h
  | k :: ks, h => by
    unfold prune at h
    split at h
    · rename_i u hu
      simp only [lookE] at h
      split at h
      · rename_i hb; have := Nat.eq_of_beq_eq_true hb; subst this; rw [hu]; exact h
      · exact prune_spec h
    · exact prune_spec h
theorem andThen_of {R : Ex → Act → World → Prop} {N : Act → World → Prop} {e : Ex} {a : Act} {w : World} (hn : e = .normal → N a w) (he : e ≠ .normal → R e a w) : Ex.andThen N R e a w := by
  cases e with
  | normal => exact hn rfl
  | exit id => exact he (by simp)
  | ret => exact he (by simp)
theorem evC_sound (hm : P.follows .mixedOrders = true) : ∀ (c : Code) {σ σ' : St} {cc cc' : List CC} {e : Ex} {obs : List Prop}, evC P nt c σ cc = some (e, σ', obs, cc') → All obs → SemC P nt [.code c] σ e σ' := by
  intro c
  induction c with
  | skip => intro σ σ' cc cc' e obs h _; cases h; intro Γ w0 r a w _ hn; exact W_skip ⟨rfl, hn⟩
  | label l => intro σ σ' cc cc' e obs h _; cases h; intro Γ w0 r a w _ hn; exact W_label ⟨rfl, hn⟩
  | exit id => intro σ σ' cc cc' e obs h _; cases h; intro Γ w0 r a w _ hn; exact W_exit ⟨rfl, hn⟩
  | ret => intro σ σ' cc cc' e obs h _; cases h; intro Γ w0 r a w _ hn; exact W_ret ⟨rfl, hn⟩
  | region id ops draw =>
    intro σ σ' cc cc' e obs h ho
    simp only [evC] at h
    split at h
    · rename_i masks wo holes cls keep cc1
      split at h
      · rename_i h1 h2
        split at h
        · rename_i tr E H obs1 hev
          split at h
          · rename_i E' ks cc''
            split at h
            · rename_i hkl
              cases h
              obtain ⟨p1, p2, _⟩ := ho.append
              intro Γ w0 r a w hnt hn
              exact region_sound (D := ⟨draw, ops.toList, masks, wo, nt.nt, altOf cls⟩) hm rfl hnt.nt.symm rfl h1 h2 hev p1 (addHoles_sound holes hn) fun a' w' hn' => ⟨rfl, NowS.freeze ks hkl p2 (hn'.mono fun t iv ht => prune_spec ht)⟩
            · cases h
          cases h
          intro Γ w0 r a w hnt hn
          exact region_sound (D := ⟨draw, ops.toList, masks, wo, nt.nt, altOf cls⟩) hm rfl hnt.nt.symm rfl h1 h2 hev ho (addHoles_sound holes hn) fun a' w' hn' => ⟨rfl, hn'.mono fun t iv ht => prune_spec ht⟩
        · cases h
      · cases h
    · cases h
  | seq x y ihx ihy =>
    intro σ σ' cc cc' e obs h ho
    simp only [evC] at h
    split at h
    · cases h; exact ho.1
    split at h
    · rename_i σ1 o1 cc1 hx
      split at h
      · rename_i e2 σ2 o2 cc2 hy
        cases h
        obtain ⟨p1, p2⟩ := ho.append
        intro Γ w0 r a w hnt hn
        refine W_seq ((ihx hx p1 Γ w0 r a w hnt hn).mono fun e a w hh => ?_)
        obtain ⟨rfl, hn'⟩ := hh
        exact ihy hy p2 Γ w0 r a w hnt hn'
      · cases h
    · rename_i hne
      intro Γ w0 r a w hnt hn
      refine W_seq ((ihx h ho Γ w0 r a w hnt hn).mono fun e2 a w hh => ?_)
      obtain ⟨rfl, hn'⟩ := hh
      refine andThen_of (fun he => ?_) (fun he => ⟨rfl, hn'⟩)
      subst he
      exact (hne _ _ _ h).elim
  | cond c x y ihx ihy =>
    intro σ σ' cc cc' e obs h ho
    simp only [evC] at h
    have key : ∀ {Γ : Cx} {w0 : Org} {a : Act} {w : World} {b : Bool}, NowS Γ w0 σ a w → opnd σ.env c = some (.p (.bool b)) → a.eval c = .bool b := by
      intro Γ w0 a w b hn hb
      obtain ⟨φ, h1, _⟩ := hn
      have := (eok_of (E := σ.env) h1 _ _ hb).p_inv
      generalize a.eval c = u at this
      cases this; rfl
    split at h
    · rename_i hb
      intro Γ w0 r a w hnt hn
      exact W_cond (t := true) (key hn hb) (ihx h ho Γ w0 r a w hnt hn)
    · rename_i hb
      intro Γ w0 r a w hnt hn
      exact W_cond (t := false) (key hn hb) (ihy h ho Γ w0 r a w hnt hn)
    · cases h
  | block id x ih =>
    intro σ σ' cc cc' e obs h ho
    simp only [evC] at h
    split at h
    · rename_i id' σ1 o1 cc1 hx
      split at h
      · rename_i hb
        cases h
        have := Nat.eq_of_beq_eq_true hb
        subst this
        intro Γ w0 r a w hnt hn
        refine W_block ((ih hx ho Γ w0 r a w hnt hn).mono fun e a w hh => ?_)
        obtain ⟨rfl, hn'⟩ := hh
        simp only [Ex.inBlock, if_true]; exact ⟨trivial, hn'⟩
      · rename_i hb
        cases h
        intro Γ w0 r a w hnt hn
        refine W_block ((ih hx ho Γ w0 r a w hnt hn).mono fun e a w hh => ?_)
        obtain ⟨rfl, hn'⟩ := hh
        have hne : id' ≠ id := fun h => by subst h; rw [Nat.beq_refl] at hb; cases hb
        simp only [Ex.inBlock, hne, if_false]; exact ⟨trivial, hn'⟩
    · rename_i hne
      intro Γ w0 r a w hnt hn
      refine W_block ((ih h ho Γ w0 r a w hnt hn).mono fun e2 a w hh => ?_)
      obtain ⟨rfl, hn'⟩ := hh
      cases e2 with
      | normal => exact ⟨rfl, hn'⟩
      | ret => exact ⟨rfl, hn'⟩
      | exit id' => exact (hne _ _ _ _ h).elim
  | scope x ih =>
    intro σ σ' cc cc' e obs h ho
    intro Γ w0 r a w hnt hn
    exact W_scope (ih (by simpa only [evC] using h) ho Γ w0 r a w hnt hn)
  | loop b ih =>
    intro σ σ' cc cc' e obs h ho
    simp only [evC] at h
    split at h
    · cases h; exact ho.1
    · cases h
  | rangeFunc f ps s b ih1 ih2 =>
    intro σ σ' cc cc' e obs h ho
    simp only [evC] at h
    split at h
    · cases h; exact ho.1
    · cases h
  | _ => intro σ σ' cc cc' e obs h ho; simp [evC] at h
end
abbrev SemJ (P : Program) (nt : Md) (c : Code) (σ : St) (e : Ex) (σ' : St) : Prop := SemC P nt [.code c, .inLoop c] σ e σ'
def Weak (m : Nat) (σ σ' : St) : Prop := ∀ (Γ : Cx) (w0 : Org) (a : Act) (w : World), w0.H.length ≤ m → NowS Γ w0 σ a w → NowS Γ w0 σ' a w
theorem Weak.refl (m : Nat) (σ : St) : Weak m σ σ := fun _ _ _ _ _ h => h
theorem Weak.trans {m : Nat} {a b c : St} (h : Weak m a b) (k : Weak m b c) : Weak m a c := fun _ _ _ _ hm hh => k _ _ _ _ hm (h _ _ _ _ hm hh)
section
variable {P : Program} {nt : Md} {b : Code} {its : List Item} {σ σ1 σ' σ2 : St} {e : Ex}
theorem SemC.pre (h : SemC P nt its σ1 e σ') (hw : Weak nt.m σ σ1) : SemC P nt its σ e σ' := fun Γ w0 r a w hnt hn => h Γ w0 r a w hnt (hw _ _ _ _ hnt.m hn)
theorem SemC.post (h : SemC P nt its σ e σ1) (hw : Weak nt.m σ1 σ') : SemC P nt its σ e σ' := fun Γ w0 r a w hnt hn => (h Γ w0 r a w hnt hn).mono fun _ _ _ hh => ⟨hh.1, hw _ _ _ _ hnt.m hh.2⟩
theorem SemJ.loop (h : SemJ P nt b σ e σ') : SemC P nt [.code (.loop b)] σ e σ' := fun Γ w0 r a w hnt hn => W_loop (h Γ w0 r a w hnt hn)
theorem SemJ.again (h : SemC P nt [.code b] σ .normal σ1) (hj : SemJ P nt b σ1 e σ') : SemJ P nt b σ e σ' := fun Γ w0 r a w hnt hn =>
  WJ_round ((h Γ w0 r a w hnt hn).mono fun e a w hh => by obtain ⟨rfl, hn'⟩ := hh; exact hj Γ w0 r a w hnt hn')
theorem SemJ.out (h : SemC P nt [.code b] σ e σ') (he : e ≠ .normal) : SemJ P nt b σ e σ' := fun Γ w0 r a w hnt hn =>
  WJ_round ((h Γ w0 r a w hnt hn).mono fun e a w hh => by obtain ⟨rfl, hn'⟩ := hh; exact andThen_of (fun h => absurd h he) fun _ => ⟨rfl, hn'⟩)
end
end Go.Idl
set_option linter.unusedSimpArgs false
set_option linter.unusedVariables false
namespace Go.Idl
open Go
def KeepsC (h : Hp) (X : Nat → Prop) (h' : Hp) (X' : Nat → Prop) : Prop := ∀ b o, h[b]? = some o → ¬ X b → (∀ ds, o ≠ .deferred ds) → h'[b]? = some o ∧ ¬ X' b
theorem ReadsAt.keepsC {h : Hp} {X : Nat → Prop} {h' : Hp} {X' : Nat → Prop} (k : KeepsC h X h' X') {a : Addr} {vs : List Value} (hr : ReadsAt h a vs) (hx : ¬ X a.block) : ReadsAt h' a vs ∧ ¬ X' a.block := by
  obtain ⟨hs, arr, t, fr, hb, hv⟩ := hr
  obtain ⟨h1, h2⟩ := k _ _ hb hx (fun ds h => by cases h)
  exact ⟨⟨hs, arr, t, fr, h1, hv⟩, h2⟩
mutual
theorem RP.keepsC {h : Hp} {X : Nat → Prop} {h' : Hp} {X' : Nat → Prop} (k : KeepsC h X h' X') : ∀ {p : PV} {v : Value}, RP h X p v → RP h' X' p v
  | _, _, .bool b => .bool b
  | _, _, .int a n => .int a n
  | _, _, .str s => .str s
  | _, _, .nilp => .nilp
  | _, _, .ref cs a vs hr hx hl => .ref cs a vs (hr.keepsC k hx).1 (hr.keepsC k hx).2 (RPL.keepsC k hl)
  | _, _, .nilsl => .nilsl
  | _, _, .sl xs x a cap es vs hr hx hl he hc hxc => .sl xs x a cap es vs (hr.keepsC k hx).1 (hr.keepsC k hx).2 (RPL.keepsC k hl) he hc hxc
  | _, _, .sl0 x => .sl0 x
  | _, _, .sle x a cap hr hx hxc => .sle x a cap (hr.keepsC k hx).1 (hr.keepsC k hx).2 hxc
  | _, _, .nilmap => .nilmap
  | _, _, .map ks vs r es clock hr hx hk hv hn hb => .map ks vs r es clock (k _ _ hr hx (fun ds h => by cases h)).1 (k _ _ hr hx (fun ds h => by cases h)).2 (RPL.keepsC k hk) (RPL.keepsC k hv) hn hb
  | _, _, .fn f first cap a b ha hb => .fn f first cap a b (RPL.keepsC k ha) (RPL.keepsC k hb)
  | _, _, .nilfn => .nilfn
  | _, _, .agg cs vs hl => .agg cs vs (RPL.keepsC k hl)
  | _, _, .tup cs vs hl => .tup cs vs (RPL.keepsC k hl)
  | _, _, .junk v => .junk v
theorem RPL.keepsC {h : Hp} {X : Nat → Prop} {h' : Hp} {X' : Nat → Prop} (k : KeepsC h X h' X') : ∀ {p : List PV} {v : List Value}, RPL h X p v → RPL h' X' p v
  | _, _, .nil => .nil
  | _, _, .cons p v ps vs h1 h2 => .cons p v ps vs (RP.keepsC k h1) (RPL.keepsC k h2)
end
def resC (P : Program) (hp : Nat → Option MObj) (E : Env) : List ResultVar → Option (List IV × List Prop)
  | [] => some ([], [])
  | .tmp t :: r => match lookE t E, resC P hp E r with
    | some v, some (l, o) => some (v :: l, o)
    | _, _ => none
  | .cell a t :: r => match lookE a E, resC P hp E r with
    | some (.ptr l off sz), some (vs, o) => (match hp l, td P t with
      | some (.cells cs g), some (d, i) => (match isAggD d with
        | true => some (.agg ((cs.drop off).take i.size) :: vs, (cs.length = sz) :: (off + i.size ≤ sz) :: o)
        | false => (match cs[off]? with | some v => some (v :: vs, (cs.length = sz) :: o) | none => none))
      | _, _ => none)
    | _, _ => none
def resV : List IV → IV
  | [v] => v
  | vs => .tup vs
section
variable {P : Program} {Γ : Cx} {φ : Plc} {H : List MObj} {w : World}
def resSem (tmps : Array Value) : ResultVar → Sem Value
  | .tmp t => pure (tmps.getD t undef)
  | .cell a t => do loadVar t (← asAddr (tmps.getD a undef))
theorem cell_same {w w2 : World} {a : Addr} {v : Value} (hw : ∀ (b : Nat) arr t fr, w.heap[b]? = some (.cells arr t fr) → w2.heap[b]? = some (.cells arr t fr)) (h : w.cell? a = some v) : w2.cell? a = some v := by
  unfold World.cell? at *
  split at h
  · rename_i heq; rw [hw _ _ _ _ heq]; exact h
  · cases h
theorem resC_sound {tmps : Array Value} {hp : Nat → Option MObj} (hk : HOK Γ w.heap φ H) (hhp : ∀ l o, hp l = some o → H[l]? = some o) {E : Env} (he : ∀ t iv, lookE t E = some iv → ∃ v : Value, tmps[t]? = some v ∧ RI Γ w.heap φ H iv v) :
    ∀ {rs : List ResultVar} {vs : List IV} {obs : List Prop}, resC P hp E rs = some (vs, obs) → All obs → ∃ xs, RIL Γ w.heap φ H vs xs ∧ ∀ w2 : World, (∀ (b : Nat) arr t fr, w.heap[b]? = some (.cells arr t fr) → w2.heap[b]? = some (.cells arr t fr)) → (rs.mapM (resSem tmps)).run P w2 = .ok xs w2
  | [], vs, obs, h, _ => by cases h; exact ⟨[], .nil, fun w2 _ => by simp⟩
  | .tmp t :: r, vs, obs, h, ho => by
    simp only [resC] at h
    split at h
    · rename_i v l o h1 h2
      cases h
      obtain ⟨xs, g1, g2⟩ := resC_sound hk hhp he h2 ho
      obtain ⟨u, hu, hr⟩ := he t v h1
      refine ⟨u :: xs, .cons _ _ _ _ hr g1, fun w2 hw2 => ?_⟩
      rw [List.mapM_cons]
      rw [run_bnd (show (resSem tmps (.tmp t)).run P w2 = .ok u w2 by simp [resSem, Array.getD_eq_getD_getElem?, hu]), run_bnd (g2 w2 hw2)]
      rfl
    · cases h
  | .cell a t :: r, vs, obs, h, ho => by
    simp only [resC] at h
    split at h
    · rename_i l off sz vs' o h1 h2
      split at h
      · rename_i cs g d i hl htd
        obtain ⟨hd, hi⟩ := td_spec htd
        obtain ⟨u, hu, hr⟩ := he a _ h1
        have hl := hhp _ _ hl
        cases hr with
        | ptr _ _ _ ad hdf hc =>
          obtain ⟨us, hus, hcell⟩ := hk.cells hl
          have hlen := RIL.length hus
          have hget : tmps.getD a undef = .pointer (some ad) := by simp [Array.getD_eq_getD_getElem?, hu]
          split at h
          · rename_i hg
            cases h
            obtain ⟨o1, o2, o3⟩ := ho
            obtain ⟨xs, g1, g2⟩ := resC_sound hk hhp he h2 o3
            have ha := (hc cs g hl).2 o1
            subst ha
            refine ⟨.agg ⟨(us.drop off).take i.size⟩ :: xs, .cons _ _ _ _ (.agg _ _ (RIL.take _ (RIL.drop _ hus))) g1, fun w2 hw2 => ?_⟩
            rw [List.mapM_cons]
            rw [run_bnd (a := .agg ⟨(us.drop off).take i.size⟩) (w' := w2) (by
              simp only [resSem, hget]
              rw [run_bnd (show (asAddr (.pointer (some ⟨(φ l).1, (φ l).2 + off, none⟩))).run P w2 = .ok ⟨(φ l).1, (φ l).2 + off, none⟩ w2 from rfl)]
              refine run_loadVar_agg hd hi (by rw [isAggT_of hd]; exact hg) (by simp; omega) fun j v hj => ?_
              rw [addr_add _ _ rfl]
              simp only [List.getElem?_take, List.getElem?_drop] at hj
              split at hj
              · rw [show (φ l).2 + off + j = (φ l).2 + (off + j) from by omega]; exact cell_same hw2 (hcell _ _ hj)
              · cases hj), run_bnd (g2 w2 hw2)]
            rfl
          · rename_i hg
            split at h
            · rename_i v hv
              cases h
              obtain ⟨o1, o3⟩ := ho
              obtain ⟨xs, g1, g2⟩ := resC_sound hk hhp he h2 o3
              have ha := (hc cs g hl).2 o1
              subst ha
              obtain ⟨q, hq, hrq⟩ := RIL.get hus off v hv
              refine ⟨q :: xs, .cons _ _ _ _ hrq g1, fun w2 hw2 => ?_⟩
              rw [List.mapM_cons]
              rw [run_bnd (a := q) (w' := w2) (by
                simp only [resSem, hget]
                rw [run_bnd (show (asAddr (.pointer (some ⟨(φ l).1, (φ l).2 + off, none⟩))).run P w2 = .ok ⟨(φ l).1, (φ l).2 + off, none⟩ w2 from rfl)]
                exact run_loadVar_one hd (by rw [isAggT_of hd]; exact hg) (cell_same hw2 (hcell _ _ hq))), run_bnd (g2 w2 hw2)]
              rfl
            · cases h
      · cases h
    · cases h
def oneOr : List Value → Value
  | [v] => v
  | vs => .tuple ⟨vs⟩
theorem results_run {fn : Func} {tmps : Array Value} {xs : List Value} (h : (fn.results.toList.mapM (resSem tmps)).run P w = .ok xs w) :
    (results fn tmps).run P w = .ok (oneOr xs) w := by
  have e : (fn.results.mapM (resSem tmps)) = List.toArray <$> fn.results.toList.mapM (resSem tmps) := by
    rw [Array.mapM_eq_mapM_toList]
  have e2 : results fn tmps = (do let vs ← fn.results.mapM (resSem tmps); pure (if h : vs.size = 1 then vs[0] else .tuple vs)) := by
    unfold results
    congr 1
  rw [e2, e, map_eq_pure_bind]
  rw [run_bnd (show ((fn.results.toList.mapM (resSem tmps)) >>= fun a => pure a.toArray).run P w = .ok xs.toArray w by rw [run_bnd h]; rfl)]
  match xs with
  | [] => rfl
  | [v] => rfl
  | a :: b :: r => simp [Sem.run, oneOr]
theorem st_ret {b : Frame} {a : Act} {k : List Item} {cs : List Frame} : step P (lone (atR b none a (.code .ret :: k)) cs w) = .next (lone { atR b none a (.code .ret :: k) with mode := .returning } cs w) :=
  step_lone_go (by simp [stepG, stepG.exec, atR])
theorem st_end {b : Frame} {a : Act} {cs : List Frame} : step P (lone (atR b none a []) cs w) = .next (lone { atR b none a [] with mode := .returning } cs w) :=
  step_lone_go (by simp [stepG, stepG.exec, atR])
theorem st_unwind {fr : Frame} {cs : List Frame} {b : Nat} {ds : List Deferred} (hm : fr.mode = .returning) (hd : fr.defers = { target := .collected b, args := #[] } :: ds) (h : w.heap[b]? = some (.deferred (some []))) :
    step P (lone fr cs w) = .next (lone { fr with defers := ds } cs (w.putObj b (.deferred none))) := by
  have hr := run_takeDeferred (P := P) h
  exact step_lone_go (by simp [stepG, unwind, hm, hd, hr])
theorem steps_unwind : ∀ (bs : List Nat) {fr : Frame} {cs : List Frame} {w : World}, fr.mode = .returning → fr.defers = bs.map (fun b => { target := .collected b, args := #[] }) → bs.Nodup → (∀ b ∈ bs, w.heap[b]? = some (.deferred (some []))) →
    ∃ w', Steps P (lone fr cs w) (lone { fr with defers := [] } cs w') ∧ w'.os = w.os ∧ w'.tape = w.tape ∧ w'.output = w.output ∧ w'.heap.size = w.heap.size ∧ ∀ b : Nat, b ∉ bs → w'.heap[b]? = w.heap[b]?
  | [], fr, cs, w, hm, hd, _, _ => ⟨w, by
      have : { fr with defers := [] } = fr := by cases fr; simp_all
      rw [this]; exact .refl _ _, rfl, rfl, rfl, rfl, fun _ _ => rfl⟩
  | b :: bs, fr, cs, w, hm, hd, hn, hb => by
    rw [List.nodup_cons] at hn
    have h0 := hb b (by simp)
    obtain ⟨w', h1, h2, h3, h4, h5, h6⟩ := steps_unwind bs (fr := { fr with defers := bs.map (fun b => { target := .collected b, args := #[] }) }) (cs := cs) (w := w.putObj b (.deferred none)) hm rfl hn.2 (fun k hk => by
      rw [World.putObj_heap_other (fun he : k = b => hn.1 (by rw [← he]; exact hk))]; exact hb k (by simp [hk]))
    refine ⟨w', .head (st_unwind hm hd h0) h1, h2, h3, h4, by rw [h5]; simp [World.putObj], fun k hk => ?_⟩
    simp only [List.mem_cons, not_or] at hk
    rw [h6 k hk.2, World.putObj_heap_other hk.1]
def paramEnv (i : Nat) : List PV → Env
  | [] => []
  | p :: r => (i, .p p) :: paramEnv (i + 1) r
theorem paramEnv_spec {t : Nat} {iv : IV} : ∀ {l : List PV} {i : Nat}, lookE t (paramEnv i l) = some iv → i ≤ t ∧ ∃ p, l[t - i]? = some p ∧ iv = .p p
  | [], i, h => by cases h
  | p :: r, i, h => by
    simp only [paramEnv, lookE] at h
    split at h
    · rename_i hb
      have := Nat.eq_of_beq_eq_true hb
      subst this; cases h
      exact ⟨Nat.le_refl _, p, by simp, rfl⟩
    · obtain ⟨h1, q, h2, h3⟩ := paramEnv_spec h
      exact ⟨by omega, q, by rw [show t - i = (t - (i + 1)) + 1 from by omega]; simpa using h2, h3⟩
def isEnd : Ex → Bool
  | .exit _ => false
  | _ => true
theorem runs_of {f : FuncId} {fn : Func} {c : Code} {args : List PV} {e : Ex} {σ : St} {vs : List IV} {o : List Prop} {p : PV} (hf : P.funcs[f]? = some fn) (hb : fn.body = some c) (ha : args.length ≤ fn.ntmps)
    (hs : SemC P ⟨fn.ntmps, 0, false⟩ [.code c] ⟨paramEnv 0 args, []⟩ e σ) (he : isEnd e = true) (hr : resC P (fun l : Nat => σ.heap[l]?) σ.env fn.results.toList = some (vs, o)) (ho : All o) (hp : SnapR (fun l : Nat => σ.heap[l]?) (resV vs) p) :
    Runs P f args (· = p) := by
  intro X w xs hX hargs cs
  have hal := RPL.length hargs
  let Γ : Cx := ⟨X, w.heap.size, fn.ntmps⟩
  let a0 : Act := ⟨(⟨xs⟩ : Array Value) ++ Array.replicate (fn.ntmps - xs.length) undef, []⟩
  let φ0 : Plc := fun _ => (0, 0)
  have hown : ∀ b, ¬ Own φ0 [] b := fun b ⟨l, o, h, _⟩ => by simp at h
  have start : NowS Γ ⟨w, φ0, []⟩ ⟨paramEnv 0 args, []⟩ a0 w := by
    refine ⟨φ0, fun t iv ht => ?_, ⟨fun l o h => by simp at h, fun l l' o o' h => by simp at h, fun l o h => by simp at h⟩, hX, .nil _ _ _ _, Nat.le_refl _, by simp [a0, Γ]; omega, .refl _, Ext.refl _ _ _⟩
    obtain ⟨_, q, h1, rfl⟩ := paramEnv_spec ht
    obtain ⟨v, h2, h3⟩ := RPL.get hargs _ _ h1
    refine ⟨v, ?_, .p _ _ (h3.keeps fun b o hb hx => ⟨hb, fun hh => hh.elim hx (hown b)⟩)⟩
    simp only [Nat.sub_zero] at h2
    have hlt : t < xs.length := by
      rcases Nat.lt_or_ge t xs.length with h | h
      · exact h
      · rw [List.getElem?_eq_none h] at h2; cases h2
    simp only [a0]
    rw [Array.getElem?_append_left (by simpa using hlt)]
    simpa using h2
  let fr0 : Frame := Frame.enter P f ⟨xs⟩ .normal
  have hfr : lone fr0 cs w = lone (atR fr0 none a0 ([.code c] ++ [])) cs w := by
    simp [fr0, atR, Frame.enter, hf, hb, a0]
  obtain ⟨e', a', w', ⟨rfl, φ, h1, h2, h3, h4, h5, h6, h7', h8'⟩, harr⟩ := hs Γ ⟨w, φ0, []⟩ none a0 w ⟨rfl, Nat.le_refl _, fun _ => rfl⟩ start fr0 [] cs
  have h7 : RowKit.Below w.heap.size w w' := ⟨h7'.os, h7'.tape, h7'.output, h8'.size, fun b hb => h8'.keep b hb (hown b)⟩
  have h8 : ∀ b, Own φ σ.heap b → w.heap.size ≤ b := fun b hb => by
    rcases Nat.lt_or_ge b w.heap.size with h | h
    · exact absurd (h8'.own b hb h) (hown b)
    · exact h
  have hend : ∃ fr, Steps P (lone fr0 cs w) (lone fr cs w') ∧ fr.mode = .returning ∧ fr.defers = a'.defers ∧ fr.tmps = a'.tmps ∧ fr.kind = .normal ∧ fr.fn = f := by
    rw [hfr]
    cases e' with
    | exit id => cases he
    | normal => exact ⟨_, Steps.trans harr (.one st_end), rfl, rfl, rfl, rfl, rfl⟩
    | ret => obtain ⟨todo, hh⟩ := harr; exact ⟨_, Steps.trans hh (.one st_ret), rfl, rfl, rfl, rfl, rfl⟩
  obtain ⟨fr, hsteps, hm, hd, htm, hkind, hfn⟩ := hend
  obtain ⟨bs, hbs, hnd, hdef⟩ := h4
  obtain ⟨w2, g1, g2, g3, g4, g5, g6⟩ := steps_unwind (P := P) bs (fr := fr) (cs := cs) (w := w') hm (by rw [hd]; exact hbs) hnd (fun b hb => (hdef b hb).2.1)
  have hsame : ∀ (b : Nat) (o : Obj), w'.heap[b]? = some o → (∀ ds, o ≠ .deferred ds) → w2.heap[b]? = some o := by
    intro b o hb hne
    rw [g6 b (fun hm => by have := (hdef b hm).2.1; rw [hb] at this; cases this; exact hne _ rfl)]; exact hb
  have hownlt : ∀ b, Own φ σ.heap b → b < w'.heap.size := fun b ⟨l, q, k1, k2, k3⟩ => k3 ▸ (h2.lt l q k1 k2).1
  obtain ⟨vals, r1, r2⟩ := resC_sound (P := P) (w := w') h2 (fun l o h => h) h1 hr ho
  have hw2 : (fn.results.toList.mapM (resSem a'.tmps)).run P w2 = .ok vals w2 := r2 w2 fun b arr t fr hb => hsame b _ hb (fun ds h => by cases h)
  have hrun := results_run hw2
  have hRI : RI Γ w'.heap φ σ.heap (resV vs) (oneOr vals) := by
    cases r1 with
    | nil => exact .tup _ _ .nil
    | cons v x vs' xs' k1 k2 =>
      cases k2 with
      | nil => exact k1
      | cons v2 x2 vs2 xs2 k3 k4 => exact .tup _ _ (.cons _ _ _ _ k1 (.cons _ _ _ _ k3 k4))
  have hRP := snap_sound (Y := X) h2 (fun l o h => h) (fun b hb => .inl hb) (fun l o hl hlive => (h2.lt l o hl hlive).2) hp hRI
  refine ⟨.returned _, w2, { fr with defers := [] }, ⟨_, rfl, p, rfl, hRP.keepsC fun b o hb hx hne => ⟨hsame b o hb hne, hx⟩, ?_⟩, Steps.trans hsteps g1, hfn, hm, rfl, hkind, fn, by simp only; rw [hfn]; exact hf, by simp only; rw [htm]; exact hrun⟩
  refine h7.trans ⟨g2, g3, g4, by rw [g5]; exact Nat.le_refl _, fun b hb => g6 b fun hm => ?_⟩
  have := (hdef b hm).1
  simp only [Γ] at this; omega
theorem runsO_of {f : FuncId} {fn : Func} {c : Code} {args : List PV} {e : Ex} {σ : St} {l len sz es : Nat} {x : Bool} {o : List Prop} {ps : List PV} (hf : P.funcs[f]? = some fn) (hb : fn.body = some c) (ha : args.length ≤ fn.ntmps)
    (hs : SemC P ⟨fn.ntmps, 0, false⟩ [.code c] ⟨paramEnv 0 args, []⟩ e σ) (he : isEnd e = true) (hr : resC P (fun l : Nat => σ.heap[l]?) σ.env fn.results.toList = some ([.msl l 0 len sz x], o)) (ho : All o)
    (hl : σ.heap[l]? = some (.cells (ps.map .p) es)) (hes : 0 < es) (hsz : (ps.map IV.p).length = sz) (hlen : ps.length = len * es) :
    RunsO P f args ps len es := by
  intro X w xs hX hargs cs
  have hal := RPL.length hargs
  let Γ : Cx := ⟨X, w.heap.size, fn.ntmps⟩
  let a0 : Act := ⟨(⟨xs⟩ : Array Value) ++ Array.replicate (fn.ntmps - xs.length) undef, []⟩
  let φ0 : Plc := fun _ => (0, 0)
  have hown : ∀ b, ¬ Own φ0 [] b := fun b ⟨l, o, h, _⟩ => by simp at h
  have start : NowS Γ ⟨w, φ0, []⟩ ⟨paramEnv 0 args, []⟩ a0 w := by
    refine ⟨φ0, fun t iv ht => ?_, ⟨fun l o h => by simp at h, fun l l' o o' h => by simp at h, fun l o h => by simp at h⟩, hX, .nil _ _ _ _, Nat.le_refl _, by simp [a0, Γ]; omega, .refl _, Ext.refl _ _ _⟩
    obtain ⟨_, q, h1, rfl⟩ := paramEnv_spec ht
    obtain ⟨v, h2, h3⟩ := RPL.get hargs _ _ h1
    refine ⟨v, ?_, .p _ _ (h3.keeps fun b o hb hx => ⟨hb, fun hh => hh.elim hx (hown b)⟩)⟩
    simp only [Nat.sub_zero] at h2
    have hlt : t < xs.length := by
      rcases Nat.lt_or_ge t xs.length with h | h
      · exact h
      · rw [List.getElem?_eq_none h] at h2; cases h2
    simp only [a0]
    rw [Array.getElem?_append_left (by simpa using hlt)]
    simpa using h2
  let fr0 : Frame := Frame.enter P f ⟨xs⟩ .normal
  have hfr : lone fr0 cs w = lone (atR fr0 none a0 ([.code c] ++ [])) cs w := by
    simp [fr0, atR, Frame.enter, hf, hb, a0]
  obtain ⟨e', a', w', ⟨rfl, φ, h1, h2, h3, h4, h5, h6, h7', h8'⟩, harr⟩ := hs Γ ⟨w, φ0, []⟩ none a0 w ⟨rfl, Nat.le_refl _, fun _ => rfl⟩ start fr0 [] cs
  have h7 : RowKit.Below w.heap.size w w' := ⟨h7'.os, h7'.tape, h7'.output, h8'.size, fun b hb => h8'.keep b hb (hown b)⟩
  have h8 : ∀ b, Own φ σ.heap b → w.heap.size ≤ b := fun b hb => by
    rcases Nat.lt_or_ge b w.heap.size with h | h
    · exact absurd (h8'.own b hb h) (hown b)
    · exact h
  have hend : ∃ fr, Steps P (lone fr0 cs w) (lone fr cs w') ∧ fr.mode = .returning ∧ fr.defers = a'.defers ∧ fr.tmps = a'.tmps ∧ fr.kind = .normal ∧ fr.fn = f := by
    rw [hfr]
    cases e' with
    | exit id => cases he
    | normal => exact ⟨_, Steps.trans harr (.one st_end), rfl, rfl, rfl, rfl, rfl⟩
    | ret => obtain ⟨todo, hh⟩ := harr; exact ⟨_, Steps.trans hh (.one st_ret), rfl, rfl, rfl, rfl, rfl⟩
  obtain ⟨fr, hsteps, hm, hd, htm, hkind, hfn⟩ := hend
  obtain ⟨bs, hbs, hnd, hdef⟩ := h4
  obtain ⟨w2, g1, g2, g3, g4, g5, g6⟩ := steps_unwind (P := P) bs (fr := fr) (cs := cs) (w := w') hm (by rw [hd]; exact hbs) hnd (fun b hb => (hdef b hb).2.1)
  have hsame : ∀ (b : Nat) (o : Obj), w'.heap[b]? = some o → (∀ ds, o ≠ .deferred ds) → w2.heap[b]? = some o := by
    intro b o hb hne
    rw [g6 b (fun hm => by have := (hdef b hm).2.1; rw [hb] at this; cases this; exact hne _ rfl)]; exact hb
  have hownlt : ∀ b, Own φ σ.heap b → b < w'.heap.size := fun b ⟨l, q, k1, k2, k3⟩ => k3 ▸ (h2.lt l q k1 k2).1
  obtain ⟨vals, r1, r2⟩ := resC_sound (P := P) (w := w') h2 (fun l o h => h) h1 hr ho
  have hw2 : (fn.results.toList.mapM (resSem a'.tmps)).run P w2 = .ok vals w2 := r2 w2 fun b arr t fr hb => hsame b _ hb (fun ds h => by cases h)
  have hrun := results_run hw2
  cases r1 with
  | cons _ u _ _ q1 q2 =>
    cases q2
    cases q1 with
    | msl _ _ _ _ _ ad cap hdf hcc hle hxx =>
      obtain ⟨c1, c2⟩ := hcc _ _ hl
      obtain ⟨ha, c3⟩ := c2 hsz
      obtain ⟨arr, t, fr', hb, harr, _⟩ := c3 hes
      obtain ⟨arr', t', y1, y2, y3⟩ := h2.obj l _ hl
      rw [hb] at y1; cases y1
      subst ha
      have hbelow : RowKit.Below w.heap.size w w2 := h7.trans ⟨g2, g3, g4, by rw [g5]; exact Nat.le_refl _, fun b hb => g6 b fun hm => by have := (hdef b hm).1; simp only [Γ] at this; omega⟩
      have hcells : RIL Γ w'.heap φ σ.heap (ps.map .p) ((arr.toList.drop (φ l).2).take ps.length) := by
        have hfit : (φ l).2 + ps.length ≤ arr.size := by simpa using y2
        refine RIL.of_get _ _ (by simp; omega) fun i iv v hi hv => ?_
        obtain ⟨v', hv', hr'⟩ := y3 i iv hi
        simp only [List.getElem?_take, List.getElem?_drop] at hv
        split at hv
        · rw [Array.getElem?_toList] at hv; rw [hv'] at hv; cases hv; exact hr'
        · cases hv
      refine ⟨.returned _, w2, { fr with defers := [] }, ⟨_, rfl, hbelow, (φ l).1, (φ l).2 + 0, cap, arr, t, (arr.toList.drop (φ l).2).take ps.length, rfl, hle, h8 _ ⟨l, _, hl, rfl, rfl⟩, hsame _ _ hb (fun ds h => by cases h), by simpa using harr,
        hcells.pure.keepsC fun b o hb hx hne => ⟨hsame b o hb hne, fun hy => hx (hy.imp id fun h => ⟨l, _, hl, rfl, h.symm⟩)⟩, by rw [← RPL.length hcells.pure, hlen], fun i u hi => ?_⟩, Steps.trans hsteps g1, hfn, hm, rfl, hkind, fn, by simp only; rw [hfn]; exact hf, by simp only; rw [htm]; exact hrun⟩
      simp only [List.getElem?_take, List.getElem?_drop] at hi
      split at hi
      · rw [Nat.add_zero, ← Array.getElem?_toList]; exact hi
      · cases hi
end
end Go.Idl
set_option linter.unusedSimpArgs false
set_option linter.unusedVariables false
namespace Go.Idl
open Go
def codeAt : List Nat → Code → Code
  | [], c => c
  | k :: r, c => match c with
    | .seq x y => (match k with | 0 => codeAt r x | _ => codeAt r y)
    | .cond _ x y => (match k with | 0 => codeAt r x | _ => codeAt r y)
    | .block _ x => codeAt r x
    | .loop x => codeAt r x
    | .scope x => codeAt r x
    | .rangeFunc _ _ x y => (match k with | 0 => codeAt r x | _ => codeAt r y)
    | c => c
def bodyOf (f : Func) : Code := match f.body with | some c => c | none => .skip
def okC (r : CO) (ks : List Nat) (e : Ex) (σ' : St) (R : Prop) : Prop := match r with
  | some (e', σ1, obs, _) => (e', (⟨prune σ1.env ks, σ1.heap⟩ : St), All obs) = (e, σ', R)
  | none => False
theorem path {P : Program} {nt : Md} {c : Code} {σ σ' : St} {cc : List CC} {ks : List Nat} {e : Ex} {R : Prop} (hm : P.follows .mixedOrders = true) (p : R) (k : ((e, σ', R) = (e, σ', R)) = okC (evC P nt c σ cc) ks e σ' R) : SemC P nt [.code c] σ e σ' := by
  have h : okC (evC P nt c σ cc) ks e σ' R := k ▸ rfl
  unfold okC at h
  split at h
  · rename_i e' σ1 obs cc' heq
    simp only [Prod.mk.injEq] at h
    obtain ⟨rfl, rfl, h3⟩ := h
    exact (evC_sound hm c heq (h3 ▸ p)).post fun Γ w0 a w _ hn => hn.mono fun t iv ht => prune_spec ht
  · exact h.elim
def okR (r : Option (List IV × List Prop)) (vs : List IV) (R : Prop) : Prop := match r with
  | some (l, obs) => (l, All obs) = (vs, R)
  | none => False
structure IsFn (P : Program) (f : FuncId) (fn : Func) : Prop where
  get : P.funcs[f]? = some fn
  name : (fn.name == "runtime.NumGoroutine") = false
  body : fn.body.isSome = true
theorem callP_of {P : Program} {f : FuncId} {fn : Func} {args : List PV} {e : Ex} {σ : St} {vs : List IV} {R : Prop} {p : PV} (hf : IsFn P f fn) (ha : Nat.ble args.length fn.ntmps = true)
    (hs : SemC P ⟨fn.ntmps, 0, false⟩ [.code (bodyOf fn)] ⟨paramEnv 0 args, []⟩ e σ) (he : isEnd e = true) (q : R) (k : ((vs, R) = (vs, R)) = okR (resC P (fun l : Nat => σ.heap[l]?) σ.env fn.results.toList) vs R)
    (hp : SnapR (fun l : Nat => σ.heap[l]?) (resV vs) p) : CallP P f args p := by
  refine ⟨⟨fn, hf.get, hf.name, hf.body⟩, ?_⟩
  have h : okR (resC P (fun l : Nat => σ.heap[l]?) σ.env fn.results.toList) vs R := k ▸ rfl
  unfold okR at h
  split at h
  · rename_i l obs heq
    simp only [Prod.mk.injEq] at h
    obtain ⟨rfl, h3⟩ := h
    have hb : fn.body = some (bodyOf fn) := by
      unfold bodyOf
      cases hh : fn.body with
      | none => have := hf.body; rw [hh] at this; cases this
      | some c => rfl
    exact runs_of hf.get hb (Nat.le_of_ble_eq_true ha) hs he heq (h3 ▸ q) hp
  · exact h.elim
theorem callO_at {P : Program} {f : FuncId} {fn : Func} {args : List PV} {e : Ex} {σ : St} {l len sz es : Nat} {x : Bool} {ps : List PV} {R : Prop} (hf : IsFn P f fn) (ha : Nat.ble args.length fn.ntmps = true)
    (hs : SemC P ⟨fn.ntmps, 0, false⟩ [.code (bodyOf fn)] ⟨paramEnv 0 args, []⟩ e σ) (he : isEnd e = true) (q : R) (k : (([IV.msl l 0 len sz x], R) = ([IV.msl l 0 len sz x], R)) = okR (resC P (fun l : Nat => σ.heap[l]?) σ.env fn.results.toList) [.msl l 0 len sz x] R)
    (hl : σ.heap[l]? = some (.cells (ps.map .p) es)) (hes : 0 < es) (hsz : (ps.map IV.p).length = sz) (hlen : ps.length = len * es) : CallO P f args (ps.map .p) len es := by
  refine ⟨⟨fn, hf.get, hf.name, hf.body⟩, hes, ps, rfl, ?_⟩
  have h : okR (resC P (fun l : Nat => σ.heap[l]?) σ.env fn.results.toList) [.msl l 0 len sz x] R := k ▸ rfl
  unfold okR at h
  split at h
  · rename_i l' obs heq
    simp only [Prod.mk.injEq] at h
    obtain ⟨rfl, h3⟩ := h
    have hb : fn.body = some (bodyOf fn) := by
      unfold bodyOf
      cases hh : fn.body with
      | none => have := hf.body; rw [hh] at this; cases this
      | some c => rfl
    exact runsO_of hf.get hb (Nat.le_of_ble_eq_true ha) hs he heq (h3 ▸ q) hl hes hsz hlen
  · exact h.elim
def obind {α β : Type} (x : Option α) (f : α → Option β) : Option β := match x with | some v => f v | none => none
def oif {β : Type} (c : Bool) (x y : Option β) : Option β := match c with | true => x | false => y
theorem obind_elim {α β : Type} {x : Option α} {f : α → Option β} {r : β} {C : Prop} (h : obind x f = some r) (k : ∀ v, x = some v → f v = some r → C) : C := by
  cases x with
  | none => cases h
  | some v => exact k v rfl h
theorem oif_elim {β : Type} {c : Bool} {x y : Option β} {r : β} {C : Prop} (h : oif c x y = some r) (kt : c = true → x = some r → C) (kf : c = false → y = some r → C) : C := by
  cases c with
  | true => exact kt rfl h
  | false => exact kf rfl h
theorem leaf {β : Type} {x r : β} {C : β → Prop} (h : some x = some r) (k : C x) : C r := by cases h; exact k
def sg {α : Type} (xs : List α) (k : Int) : Option α := if 0 ≤ k then xs[k.toNat]? else none
theorem sg_map {α : Type} {f : α → PV} {xs : List α} {k : Int} {v : α} (h : sg xs k = some v) : slGet (xs.map f) k = some (f v) := by
  unfold sg at h
  unfold slGet
  split at h
  · rename_i hk; rw [if_pos hk]; simp [h]
  · cases h
theorem len_map {α : Type} (f : α → PV) (xs : List α) : (((xs.map f).length : Nat) : Int) = (xs.length : Int) := by simp
end Go.Idl
set_option linter.unusedSimpArgs false
set_option linter.unusedVariables false
namespace Go.Idl
open Go
def rowP {α : Type} (f : α → PV) (L : List α) : List PV := L.flatMap fun v => PV.cells (f v)
def rowI {α : Type} (f : α → PV) (L : List α) : List IV := (rowP f L).map IV.p
section
variable {α : Type} {f : α → PV} {n : Nat} {L M L' : List α} {k : Int} {v : α}
structure Elem (f : α → PV) (n : Nat) : Prop where
  len : ∀ v, (f v).cells.length = n
  sc : ∀ v, scalars ((f v).cells.map .p) = true
  pos : 0 < n
theorem rowP_len (he : Elem f n) : ∀ (L : List α), (rowP f L).length = L.length * n
  | [] => by simp [rowP]
  | v :: L => by
    have := rowP_len he L
    unfold rowP at *
    rw [List.flatMap_cons, List.length_append, this, he.len v, List.length_cons, Nat.succ_mul]; omega
theorem row_len (he : Elem f n) (L : List α) : (rowI f L).length = L.length * n := by unfold rowI; rw [List.length_map, rowP_len he]
theorem rowP_map (f : α → PV) (L : List α) : rowP f L = (L.map f).flatMap PV.cells := by unfold rowP; rw [List.flatMap_map]
theorem row_src (f : α → PV) (M : List α) : rowI f M = ((M.map f).flatMap PV.cells).map IV.p := by unfold rowI; rw [rowP_map]
theorem row_app (f : α → PV) (L M : List α) : rowI f (L ++ M) = rowI f L ++ ((M.map f).flatMap PV.cells).map IV.p := by
  rw [← row_src]; unfold rowI rowP; rw [List.flatMap_append, List.map_append]
theorem row_es (he : Elem f n) (M : List α) : ∀ y ∈ M.map f, y.cells.length = n := by
  intro y hy
  rw [List.mem_map] at hy
  obtain ⟨v, _, rfl⟩ := hy
  exact he.len v
theorem row_sc (he : Elem f n) (M : List α) : ∀ y ∈ ((M.map f).flatMap PV.cells).map IV.p, scalarI y = true := by
  intro y hy
  rw [← row_src] at hy
  unfold rowI rowP at hy
  rw [List.mem_map] at hy
  obtain ⟨p, hp, rfl⟩ := hy
  rw [List.mem_flatMap] at hp
  obtain ⟨v, _, hv⟩ := hp
  exact (scalars_iff _).2 (he.sc v) _ (List.mem_map.2 ⟨p, hv, rfl⟩)
theorem app_c2 {k m b : Nat} (hb : 1 ≤ b) (h : (k + m) * b ≤ 140737488355328) : k + m ≤ 4611686018427387904 := by
  have : (k + m) * 1 ≤ (k + m) * b := Nat.mul_le_mul_left _ hb
  omega
def stL (L : List α) (k : Int) (v : α) : Option (List α) := if 0 ≤ k ∧ k < (L.length : Int) then some (L.set k.toNat v) else none
theorem stL_spec (h : stL L k v = some L') : 0 ≤ k ∧ k.toNat < L.length ∧ L' = L.set k.toNat v := by
  unfold stL at h
  split at h
  · rename_i hh; cases h; exact ⟨hh.1, by omega, rfl⟩
  · cases h
theorem stL_len (h : stL L k v = some L') : L'.length = L.length := by obtain ⟨_, _, rfl⟩ := stL_spec h; simp
theorem stL_0 (h : stL L k v = some L') : 0 ≤ k := (stL_spec h).1
theorem stL_lt (h : stL L k v = some L') : k < (L.length : Int) := by have := (stL_spec h); omega
theorem sg_0 (h : sg L k = some v) : 0 ≤ k := by unfold sg at h; split at h <;> simp_all
theorem sg_get (h : sg L k = some v) : L[k.toNat]? = some v := by unfold sg at h; split at h <;> simp_all
theorem row_setlen (he : Elem f n) (h : stL L k v = some L') : (rowI f L').length = (rowI f L).length := by rw [row_len he, row_len he, stL_len h]
theorem rowP_at (he : Elem f n) : ∀ (L : List α) (i : Nat) (v : α), L[i]? = some v → ((rowP f L).drop (i * n)).take n = (f v).cells
  | [], i, v, h => by simp at h
  | x :: L, 0, v, h => by
    simp at h; subst h
    simp only [Nat.zero_mul, List.drop_zero]
    unfold rowP
    rw [List.flatMap_cons]
    rw [← he.len x]; exact List.take_left
  | x :: L, i + 1, v, h => by
    unfold rowP
    rw [List.flatMap_cons, show (i + 1) * n = (f x).cells.length + i * n from by rw [he.len x, Nat.succ_mul]; omega, ← List.drop_drop, List.drop_left]
    exact rowP_at he L i v (by simpa using h)
theorem row_at (he : Elem f n) (h : sg L k = some v) : ((rowI f L).drop (0 + k.toNat * n)).take n = (f v).cells.map .p := by
  unfold rowI
  rw [Nat.zero_add, ← List.map_drop, ← List.map_take, rowP_at he L _ v (sg_get h)]
theorem row_get (he : Elem f 1) (h : sg L k = some v) {c : PV} (hc : (f v).cells = [c]) : (rowI f L)[0 + k.toNat * 1]? = some (.p c) := by
  have h1 := row_at he h
  rw [hc] at h1
  have := congrArg (·[0]?) h1
  simp at this
  simpa using this
theorem row_fit (he : Elem f n) (h0 : 0 ≤ k) (h : k < (L.length : Int)) : 0 + k.toNat * n + n ≤ (rowI f L).length := by
  rw [row_len he]
  have : (k.toNat + 1) * n ≤ L.length * n := Nat.mul_le_mul_right _ (by omega)
  rw [Nat.add_mul] at this; omega
theorem putCells_app : ∀ (vs cs ds : List IV) (off : Nat), off + vs.length ≤ cs.length → putCells (cs ++ ds) off vs = putCells cs off vs ++ ds
  | [], cs, ds, off, h => rfl
  | v :: vs, cs, ds, off, h => by
    simp only [List.length_cons] at h
    simp only [putCells]
    rw [List.set_append_left _ _ (by omega)]
    exact putCells_app vs (cs.set off v) ds (off + 1) (by rw [List.length_set]; omega)
theorem putCells_skip : ∀ (vs cs ds : List IV) (off : Nat), putCells (cs ++ ds) (cs.length + off) vs = cs ++ putCells ds off vs
  | [], cs, ds, off => rfl
  | v :: vs, cs, ds, off => by
    simp only [putCells]
    rw [List.set_append_right _ _ (by omega), show cs.length + off - cs.length = off from by omega, show cs.length + off + 1 = cs.length + (off + 1) from by omega]
    exact putCells_skip vs cs (ds.set off v) (off + 1)
theorem putCells_all : ∀ (vs cs : List IV), vs.length = cs.length → putCells cs 0 vs = vs := by
  have key : ∀ (vs cs pre : List IV), vs.length = cs.length → putCells (pre ++ cs) pre.length vs = pre ++ vs := by
    intro vs
    induction vs with
    | nil => intro cs pre h; have : cs = [] := by simpa using h.symm
             subst this; rfl
    | cons v vs ih =>
      intro cs pre h
      cases cs with
      | nil => simp at h
      | cons c cs =>
        simp only [putCells]
        rw [List.set_append_right _ _ (by omega)]
        simp only [Nat.sub_self, List.set_cons_zero]
        have := ih cs (pre ++ [v]) (by simpa using h)
        simp only [List.append_assoc, List.length_append, List.length_cons, List.length_nil, List.singleton_append] at this
        exact this
  intro vs cs h
  simpa using key vs cs [] h
theorem row_put' (he : Elem f n) : ∀ (L : List α) (i : Nat) (v : α), i < L.length → putCells (rowI f L) (i * n) ((f v).cells.map .p) = rowI f (L.set i v)
  | [], i, v, h => by simp at h
  | x :: L, 0, v, h => by
    simp only [Nat.zero_mul, List.set_cons_zero]
    unfold rowI rowP
    rw [List.flatMap_cons, List.flatMap_cons, List.map_append, List.map_append, putCells_app _ _ _ _ (by simp [he.len]), putCells_all _ _ (by simp [he.len])]
  | x :: L, i + 1, v, h => by
    have ih := row_put' he L i v (by simpa using h)
    unfold rowI rowP at *
    rw [List.set_cons_succ, List.flatMap_cons, List.flatMap_cons, List.map_append, List.map_append, show (i + 1) * n = ((f x).cells.map IV.p).length + i * n from by rw [List.length_map, he.len, Nat.succ_mul]; omega, putCells_skip, ih]
theorem row_put (he : Elem f n) (h : stL L k v = some L') : putCells (rowI f L) (0 + k.toNat * n) ((f v).cells.map .p) = rowI f L' := by
  obtain ⟨_, h2, rfl⟩ := stL_spec h
  rw [Nat.zero_add]; exact row_put' he L _ v h2
end
theorem Weak.eq {m : Nat} {σ σ' : St} (h : σ = σ') : Weak m σ σ' := h ▸ Weak.refl m σ
section
variable {Γ : Cx} {h : Hp} {φ : Plc} {H : List MObj} {n : Nat}
end
theorem Weak.freeze {m : Nat} {E E' : Env} {H : List MObj} (ks : List Nat) (hk : killable (fun l : Nat => H[l]?) ks = true) (hf : FrzE (only ks (fun l : Nat => H[l]?)) E E') : Weak m ⟨E, H⟩ ⟨E', puts (dieW ks) H⟩ :=
  fun Γ w0 a w _ h => NowS.freeze ks hk hf h
theorem snap_row {α : Type} {f : α → PV} {n : Nat} (he : Elem f n) {hp : Nat → Option MObj} {l g len sz : Nat} {L : List α} {x : Bool} (hl : hp l = some (.cells (rowI f L) g)) (hs : (rowI f L).length = sz) (hn : L.length = len) :
    SnapR hp (.msl l 0 len sz x) (.sl (L.map f) false) := by
  subst hs hn
  refine .msl l 0 L.length _ x false (rowI f L) g n (L.map f) hl rfl (by simp) (row_es he L) (by rw [row_len he]; omega) (fun h => by cases h) ?_
  have : ((rowI f L).drop 0).take (L.length * n) = ((L.map f).flatMap PV.cells).map IV.p := by
    rw [List.drop_zero, List.take_of_length_le (by rw [row_len he]; exact Nat.le_refl _), row_src]
  rw [this]
  exact SnapL.pure hp _
end Go.Idl
set_option linter.unusedSimpArgs false
set_option linter.unusedVariables false
namespace Go.Idl
open Go
section
variable {α : Type} {f : α → PV} {n : Nat} {L M L' : List α} {k : Int} {v : α}
theorem zeros_row (he : Elem f n) (z : α) (m : Nat) : zerosI (f z).cells (m * n) = rowI f (List.replicate m z) := by
  apply List.ext_getElem?
  intro j
  have hn := he.pos
  have hz := he.len z
  unfold zerosI
  by_cases hj : j < m * n
  · have hd : j / n < m := by rw [Nat.div_lt_iff_lt_mul hn]; exact hj
    have hat := rowP_at he (List.replicate m z) (j / n) z (by rw [List.getElem?_replicate, if_pos hd])
    have hmod : j % n < n := Nat.mod_lt _ hn
    have h1 := congrArg (·[j % n]?) hat
    simp only [List.getElem?_take, List.getElem?_drop, hmod, if_true] at h1
    rw [show j / n * n + j % n = j from by rw [Nat.mul_comm]; exact Nat.div_add_mod j n] at h1
    unfold rowI
    rw [List.getElem?_map, List.getElem?_map, List.getElem?_range hj, h1, hz]
    simp only [Option.map_some]
    rw [List.getElem?_eq_getElem (by rw [hz]; exact hmod)]
    simp
  · rw [List.getElem?_eq_none (by simp; omega), List.getElem?_eq_none (by rw [row_len he]; simp; omega)]
theorem row_whole (he : Elem f n) {len : Nat} (h : L.length = len) : ((rowI f L).drop 0).take (len * n) = rowI f L := by
  rw [List.drop_zero, List.take_of_length_le (by rw [row_len he, h]; exact Nat.le_refl _)]
theorem row_whole_le (he : Elem f n) {len sz : Nat} (h : L.length = len) (hs : (rowI f L).length = sz) : 0 + len * n ≤ sz := by
  rw [← hs, row_len he, h]; omega
def subL (L : List α) (lo hi : Option Int) : Option (List α) :=
  if (∀ v, lo = some v → 0 ≤ v ∧ v ≤ (natO hi L.length : Int)) ∧ (∀ v, hi = some v → 0 ≤ v ∧ v ≤ (L.length : Int)) then some ((L.take (natO hi L.length)).drop (natO lo 0)) else none
theorem subL_spec {lo hi : Option Int} (h : subL L lo hi = some L') : ((∀ v, lo = some v → 0 ≤ v ∧ v ≤ (natO hi L.length : Int)) ∧ (∀ v, hi = some v → 0 ≤ v ∧ v ≤ (L.length : Int))) ∧ L' = (L.take (natO hi L.length)).drop (natO lo 0) := by
  unfold subL at h
  split at h
  · rename_i hh; cases h; exact ⟨hh, rfl⟩
  · cases h
theorem sub_lo0 {hi : Option Int} (h : subL L (some k) hi = some L') : 0 ≤ k := ((subL_spec h).1.1 k rfl).1
theorem sub_lo1 {hi : Option Int} (f : α → PV) (h : subL L (some k) hi = some L') : k ≤ ((natO hi (L.map f).length : Nat) : Int) := by
  rw [List.length_map]; exact ((subL_spec h).1.1 k rfl).2
theorem sub_eq {lo hi : Option Int} (f : α → PV) (h : subL L lo hi = some L') : ((L.map f).take (natO hi (L.map f).length)).drop (natO lo 0) = L'.map f := by
  obtain ⟨_, rfl⟩ := subL_spec h
  rw [List.length_map, ← List.map_take, ← List.map_drop]
theorem wcast {m : Nat} {a b c : St} (h : Weak m a b) (k : b = c) : Weak m a c := k ▸ h
end
end Go.Idl
namespace Go.Idl
open Go
section
variable {α : Type} {f : α → PV} {n : Nat} {L M L' : List α} {k : Int} {v : α}
theorem isEmpty_len (f : α → PV) (h : List.isEmpty M = true) : (M.map f).length = 0 := by cases M with | nil => rfl | cons _ _ => cases h
theorem notEmpty_len (f : α → PV) (h : List.isEmpty M = false) : 0 < (M.map f).length := by cases M with | nil => cases h | cons _ _ => simp
theorem app_c0 {m b : Nat} (hb : 1 ≤ b) (h : m * b ≤ 140737488355328) : m ≤ 4611686018427387904 := by
  have : m * 1 ≤ m * b := Nat.mul_le_mul_left _ hb
  omega
theorem len_map2 (f : α → PV) (M : List α) : M.length = (M.map f).length := by simp
theorem app_len (f : α → PV) (M : List α) {len : Nat} (h : L.length = len) : (L ++ M).length = len + (M.map f).length := by rw [List.length_append, h, List.length_map]
theorem row_sz (he : Elem f n) {sz len : Nat} (hs : (rowI f L).length = sz) (hl : L.length = len) : sz = len * n := by rw [← hs, row_len he, hl]
end
end Go.Idl
namespace Go.Idl
open Go
theorem SemC.cast {P : Program} {nt : Md} {its : List Item} {σ : St} {e e' : Ex} {σ1 σ' : St} (h : SemC P nt its σ e σ1) (k1 : e = e') (k2 : σ1 = σ') : SemC P nt its σ e' σ' := by subst k1; subst k2; exact h
end Go.Idl
namespace Go.Idl
theorem app_e1 {m b : Nat} (h : m * b ≤ 140737488355328) : (0 + m) * b ≤ 140737488355328 := by rw [Nat.zero_add]; exact h
theorem app_e2 {m b : Nat} (hb : 1 ≤ b) (h : m * b ≤ 140737488355328) : 0 + m ≤ 4611686018427387904 := by rw [Nat.zero_add]; exact app_c0 hb h
theorem app_e3 {α : Type} (f : α → PV) (M : List α) : M.length = 0 + (M.map f).length := by simp
end Go.Idl
namespace Go.Idl
section
variable {α : Type} {f : α → PV} {n m s sz : Nat} {L M : List α} {k : Int} {v : α}
theorem rowP_get (he : Elem f n) (h : sg L k = some v) : ((rowP f L).drop (k.toNat * n)).take n = (f v).cells := rowP_at he L _ v (sg_get h)
end
end Go.Idl
namespace Go.Idl
theorem idx_list {α : Type} {f : α → PV} {L : List α} {k : Int} {v : α} (he : Elem f 1) (hc : (f v).cells = [f v]) (h : sg L k = some v) : (rowP f L)[k.toNat * 1]? = some (f v) := by
  have h1 := rowP_get he h
  rw [hc] at h1
  have := congrArg (·[0]?) h1
  simp at this
  simpa using this
end Go.Idl
namespace Go.Idl
section
variable {α : Type} {n len sz : Nat} {L M : List α}
theorem app_len2 (f : α → PV) (L M : List α) : (L ++ M).length = (L.map f).length + (M.map f).length := by simp
theorem row_app2 (f : α → PV) (L M : List α) : rowI f (L ++ M) = ((L.map f).flatMap PV.cells).map IV.p ++ ((M.map f).flatMap PV.cells).map IV.p := by rw [row_app, ← row_src f L]
theorem row_app3 {f : α → PV} (he : Elem f n) (M : List α) (h : L.length = len) : rowI f (L ++ M) = ((rowI f L).drop 0).take (len * n) ++ ((M.map f).flatMap PV.cells).map IV.p := by rw [row_app, row_whole he h]
end
end Go.Idl
namespace Go.Idl
open Go
theorem callO_of {α : Type} {g : α → PV} {L : List α} {P : Program} {f : FuncId} {fn : Func} {args : List PV} {e : Ex} {σ : St} {l len sz es : Nat} {x : Bool} {R : Prop} (hg : Elem g es) (hf : IsFn P f fn) (ha : Nat.ble args.length fn.ntmps = true)
    (hs : SemC P ⟨fn.ntmps, 0, false⟩ [.code (bodyOf fn)] ⟨paramEnv 0 args, []⟩ e σ) (he : isEnd e = true) (q : R) (k : (([IV.msl l 0 len sz x], R) = ([IV.msl l 0 len sz x], R)) = okR (resC P (fun l : Nat => σ.heap[l]?) σ.env fn.results.toList) [.msl l 0 len sz x] R)
    (hl : σ.heap[l]? = some (.cells (rowI g L) es)) (hsz : (rowI g L).length = sz) (hn : L.length = len) : CallO P f args (rowI g L) L.length es := by
  subst hn
  exact callO_at (ps := rowP g L) hf ha hs he q k hl hg.pos hsz (rowP_len hg L)
end Go.Idl
namespace Go.Idl
open Go
end Go.Idl
namespace Go.Idl
theorem map_ne {α : Type} {f : α → PV} {L : List α} (h : List.isEmpty L = false) : L.map f ≠ [] := by cases L with | nil => cases h | cons _ _ => simp
end Go.Idl
namespace Go.Idl
open Go
section
variable {α : Type} {f : α → PV} {n m s sz len k : Nat} {L M : List α}
def copyL (L M : List α) : List α := M.take (Nat.min M.length L.length) ++ L.drop (Nat.min M.length L.length)
theorem copyL_len (L M : List α) : (copyL L M).length = L.length := by unfold copyL; simp; have : Nat.min M.length L.length = min M.length L.length := rfl; omega
end
end Go.Idl
namespace Go.Idl
open Go
section
variable {α : Type} {f : α → PV} {n m s sz len k : Nat} {L M : List α}
theorem row_cut (f : α → PV) (L : List α) (k : Nat) : rowI f L = rowI f (L.take k) ++ rowI f (L.drop k) := by
  unfold rowI rowP; rw [← List.map_append, ← List.flatMap_append, List.take_append_drop]
theorem row_taken (he : Elem f n) (h : k ≤ L.length) : (rowI f L).take (k * n) = rowI f (L.take k) := by
  rw [row_cut f L k, List.take_left' (by rw [row_len he, List.length_take, Nat.min_eq_left h])]
theorem row_copy (he : Elem f n) (L M : List α) {k : Nat} (hk : k = Nat.min M.length L.length) : putCells (rowI f L) 0 ((((M.map f).flatMap PV.cells).map IV.p).take (k * n)) = rowI f (copyL L M) := by
  subst hk
  have h1 : Nat.min M.length L.length ≤ M.length := Nat.min_le_left _ _
  have h2 : Nat.min M.length L.length ≤ L.length := Nat.min_le_right _ _
  have a1 : (rowI f (M.take (Nat.min M.length L.length))).length = Nat.min M.length L.length * n := by rw [row_len he, List.length_take, Nat.min_eq_left h1]
  have a2 : (rowI f (L.take (Nat.min M.length L.length))).length = Nat.min M.length L.length * n := by rw [row_len he, List.length_take, Nat.min_eq_left h2]
  rw [← row_src, row_taken he h1]
  rw [row_cut f L (Nat.min M.length L.length), putCells_app _ _ _ _ (by rw [a1, a2]; omega), putCells_all _ _ (by rw [a1, a2])]
  unfold copyL rowI rowP
  rw [List.flatMap_append, List.map_append]
theorem row_copylen (he : Elem f n) (L M : List α) : (rowI f (copyL L M)).length = (rowI f L).length := by rw [row_len he, row_len he, copyL_len]
end
end Go.Idl
set_option linter.unusedSimpArgs false
set_option linter.unusedVariables false
namespace Go.Idl
open Go
structure KD (B : Nat → Prop) (h h2 : Hp) : Prop where
  size : h.size ≤ h2.size
  keep : ∀ (b : Nat) (o : Obj), h[b]? = some o → ¬ B b → h2[b]? = some o
  nod : ∀ (b : Nat) (o : Obj), B b → h[b]? = some o → (∀ arr t fr, o ≠ .cells arr t fr) ∧ (∀ es c, o ≠ .map es c)
section
variable {B : Nat → Prop} {h h2 : Hp} {X : Nat → Prop} {Γ : Cx} {φ : Plc} {H : List MObj}
theorem KD.cells (k : KD B h h2) {b : Nat} {arr : Array Value} {t : TypeId} {fr : Nat × Nat} (hb : h[b]? = some (.cells arr t fr)) : h2[b]? = some (.cells arr t fr) :=
  k.keep b _ hb fun hB => (k.nod b _ hB hb).1 _ _ _ rfl
theorem KD.map (k : KD B h h2) {b : Nat} {es : Array MapEntry} {c : Nat} (hb : h[b]? = some (.map es c)) : h2[b]? = some (.map es c) :=
  k.keep b _ hb fun hB => (k.nod b _ hB hb).2 _ _ rfl
theorem ReadsAt.kd (k : KD B h h2) {a : Addr} {vs : List Value} (hr : ReadsAt h a vs) : ReadsAt h2 a vs := by
  obtain ⟨hs, arr, t, fr, hb, hv⟩ := hr
  exact ⟨hs, arr, t, fr, k.cells hb, hv⟩
mutual
theorem RP.kd (k : KD B h h2) : ∀ {p : PV} {v : Value}, RP h X p v → RP h2 X p v
  | _, _, .bool b => .bool b
  | _, _, .int a n => .int a n
  | _, _, .str s => .str s
  | _, _, .nilp => .nilp
  | _, _, .ref cs a vs hr hx hl => .ref cs a vs (hr.kd k) hx (RPL.kd k hl)
  | _, _, .nilsl => .nilsl
  | _, _, .sl xs x a cap es vs hr hx hl he hc hxc => .sl xs x a cap es vs (hr.kd k) hx (RPL.kd k hl) he hc hxc
  | _, _, .sl0 x => .sl0 x
  | _, _, .sle x a cap hr hx hxc => .sle x a cap (hr.kd k) hx hxc
  | _, _, .nilmap => .nilmap
  | _, _, .map ks vs r es clock hr hx hk hv hn hb => .map ks vs r es clock (k.map hr) hx (RPL.kd k hk) (RPL.kd k hv) hn hb
  | _, _, .fn f first cap a b ha hb => .fn f first cap a b (RPL.kd k ha) (RPL.kd k hb)
  | _, _, .nilfn => .nilfn
  | _, _, .agg cs vs hl => .agg cs vs (RPL.kd k hl)
  | _, _, .tup cs vs hl => .tup cs vs (RPL.kd k hl)
  | _, _, .junk v => .junk v
theorem RPL.kd (k : KD B h h2) : ∀ {p : List PV} {v : List Value}, RPL h X p v → RPL h2 X p v
  | _, _, .nil => .nil
  | _, _, .cons p v ps vs h1 h2 => .cons p v ps vs (RP.kd k h1) (RPL.kd k h2)
end
mutual
theorem RI.kd (k : KD B h h2) : ∀ {p : IV} {v : Value}, RI Γ h φ H p v → RI Γ h2 φ H p v
  | _, _, .p v x hp => .p v x (hp.kd k)
  | _, _, .ptr l off sz a hd hc => .ptr l off sz a hd hc
  | _, _, .msl l off len sz x a cap hd hc hle hx => .msl l off len sz x a cap hd (fun cs g ho => by
      obtain ⟨h1, h2⟩ := hc cs g ho
      refine ⟨h1, fun he => ?_⟩
      obtain ⟨h3, h4⟩ := h2 he
      refine ⟨h3, fun hg => ?_⟩
      obtain ⟨arr, t, fr, hb, hz⟩ := h4 hg
      exact ⟨arr, t, fr, k.cells hb, hz⟩) hle hx
  | _, _, .mmap l r hd hc => .mmap l r hd hc
  | _, _, .iter l r hd hc => .iter l r hd hc
  | _, _, .fn f first cap a b ha hb => .fn f first cap a b (RIL.kd k ha) (RIL.kd k hb)
  | _, _, .agg cs vs hl => .agg cs vs (RIL.kd k hl)
  | _, _, .tup cs vs hl => .tup cs vs (RIL.kd k hl)
  | _, _, .yld l r hd hc => .yld l r hd hc
theorem RIL.kd (k : KD B h h2) : ∀ {p : List IV} {v : List Value}, RIL Γ h φ H p v → RIL Γ h2 φ H p v
  | _, _, .nil => .nil
  | _, _, .cons p v ps vs h1 h2 => .cons p v ps vs (RI.kd k h1) (RIL.kd k h2)
end
theorem HOK.kd (k : KD B h h2) (hB : ∀ b, B b → ¬ Own φ H b) (hk : HOK Γ h φ H) : HOK Γ h2 φ H := by
  refine ⟨fun l o ho => ?_, hk.inj, fun l o ho hl => ⟨Nat.lt_of_lt_of_le (hk.lt l o ho hl).1 k.size, (hk.lt l o ho hl).2⟩⟩
  have hq := hk.obj l o ho
  cases o with
  | hole => trivial
  | dead => trivial
  | cells cs g =>
    obtain ⟨arr, t, g1, g2, g3⟩ := hq
    refine ⟨arr, t, k.cells g1, g2, fun i iv hi => ?_⟩
    obtain ⟨v, hv, hr⟩ := g3 i iv hi
    exact ⟨v, hv, hr.kd k⟩
  | map ks vs =>
    obtain ⟨es, clock, g1, g2, g3, g4, g5⟩ := hq
    exact ⟨es, clock, k.map g1, g2.kd k, g3.kd k, g4, g5⟩
  | mapS ks vs bs c =>
    obtain ⟨es, g1, g2, g3, g4⟩ := hq
    exact ⟨es, k.map g1, g2.kd k, g3.kd k, g4⟩
  | iter m seen c =>
    obtain ⟨r, g1, g2⟩ := hq
    exact ⟨r, k.keep _ _ g1 fun hb => hB _ hb ⟨l, _, ho, rfl, rfl⟩, g2.kd k⟩
  | iterP ks vs seen =>
    obtain ⟨r, es, c, ss, g1, g2, g3, g4, g5, g6⟩ := hq
    exact ⟨r, es, c, ss, k.keep _ _ g1 fun hb => hB _ hb ⟨l, _, ho, rfl, rfl⟩, k.map g2, g3, g4.kd k, g5.kd k, g6⟩
  | loop st R env j =>
    obtain ⟨r, g1, g2, g3, g4, g5, g6, g7, g8⟩ := hq
    refine ⟨r, k.keep _ _ g1 fun hb => hB _ hb ⟨l, _, ho, rfl, rfl⟩, g2, g3, g4, g5, g6, g7, fun t iv ht => ?_⟩
    obtain ⟨v, hv, hr⟩ := g8 t iv ht
    exact ⟨v, hv, hr.kd k⟩
theorem Ext.kd {φ0 : Plc} {H0 : List MObj} {h0 : Hp} (e : Ext φ0 H0 h0 φ H h) (k : KD B h h2) (hB : ∀ b, B b → h0.size ≤ b) : Ext φ0 H0 h0 φ H h2 := by
  refine ⟨Nat.le_trans e.size k.size, fun b hb hn => ?_, fun b hb => e.own b hb, fun b arr t fr hb => ?_, e.loc⟩
  · rw [← e.keep b hb hn]
    have hlt : b < h.size := Nat.lt_of_lt_of_le hb e.size
    have hg : h[b]? = some h[b] := Array.getElem?_eq_getElem hlt
    rw [hg]
    exact k.keep b _ hg fun hh => by have := hB b hh; omega
  · obtain ⟨arr', g1, g2⟩ := e.shape b arr t fr hb
    exact ⟨arr', k.cells g1, g2⟩
end
section
variable {X : Nat → Prop} {n t n' t' : Nat} {h : Hp} {φ : Plc} {H : List MObj}
mutual
theorem RI.cx : ∀ {p : IV} {v : Value}, RI ⟨X, n, t⟩ h φ H p v → RI ⟨X, n', t'⟩ h φ H p v
  | _, _, .p v x hp => .p v x hp
  | _, _, .ptr l off sz a hd hc => .ptr l off sz a hd hc
  | _, _, .msl l off len sz x a cap hd hc hle hx => .msl l off len sz x a cap hd hc hle hx
  | _, _, .mmap l r hd hc => .mmap l r hd hc
  | _, _, .iter l r hd hc => .iter l r hd hc
  | _, _, .fn f first cap a b ha hb => .fn f first cap a b (RIL.cx ha) (RIL.cx hb)
  | _, _, .agg cs vs hl => .agg cs vs (RIL.cx hl)
  | _, _, .tup cs vs hl => .tup cs vs (RIL.cx hl)
  | _, _, .yld l r hd hc => .yld l r hd hc
theorem RIL.cx : ∀ {p : List IV} {v : List Value}, RIL ⟨X, n, t⟩ h φ H p v → RIL ⟨X, n', t'⟩ h φ H p v
  | _, _, .nil => .nil
  | _, _, .cons p v ps vs h1 h2 => .cons p v ps vs (RI.cx h1) (RIL.cx h2)
end
theorem HOK.cx (hk : HOK ⟨X, n, t⟩ h φ H) : HOK ⟨X, n', t'⟩ h φ H := by
  refine ⟨fun l o ho => ?_, hk.inj, hk.lt⟩
  have hq := hk.obj l o ho
  cases o with
  | hole => trivial
  | dead => trivial
  | cells cs g =>
    obtain ⟨arr, t, g1, g2, g3⟩ := hq
    exact ⟨arr, t, g1, g2, fun i iv hi => by obtain ⟨v, hv, hr⟩ := g3 i iv hi; exact ⟨v, hv, hr.cx⟩⟩
  | map ks vs => exact hq
  | mapS ks vs bs c => exact hq
  | iter m seen c =>
    obtain ⟨r, g1, g2⟩ := hq
    exact ⟨r, g1, g2.cx⟩
  | iterP ks vs seen => exact hq
  | loop st R env j =>
    obtain ⟨r, g1, g2, g3, g4, g5, g6, g7, g8⟩ := hq
    exact ⟨r, g1, g2, g3, g4, g5, g6, g7, fun t iv ht => by obtain ⟨v, hv, hr⟩ := g8 t iv ht; exact ⟨v, hv, hr.cx⟩⟩
end
def argEnv (i : Nat) : List IV → Env
  | [] => []
  | p :: r => (i, p) :: argEnv (i + 1) r
theorem argEnv_spec {t : Nat} {iv : IV} : ∀ {l : List IV} {i : Nat}, lookE t (argEnv i l) = some iv → i ≤ t ∧ l[t - i]? = some iv
  | [], i, h => by cases h
  | p :: r, i, h => by
    simp only [argEnv, lookE] at h
    split at h
    · rename_i hb
      have := Nat.eq_of_beq_eq_true hb
      subst this; cases h
      exact ⟨Nat.le_refl _, by simp⟩
    · obtain ⟨h1, h2⟩ := argEnv_spec h
      exact ⟨by omega, by rw [show t - i = (t - (i + 1)) + 1 from by omega]; simpa using h2⟩
theorem runsI_of {P : Program} {f : FuncId} {fn : Func} {c : Code} {args : List IV} {H : List MObj} {m : Nat} {e : Ex} {σ : St} {vs : List IV} {o : List Prop} (hf : P.funcs[f]? = some fn) (hb : fn.body = some c) (ha : args.length ≤ fn.ntmps) (hm : H.length ≤ m)
    (hs : SemC P ⟨fn.ntmps, m, false⟩ [.code c] ⟨argEnv 0 args, H⟩ e σ) (he : isEnd e = true) (hr : resC P (fun l : Nat => σ.heap[l]?) σ.env fn.results.toList = some (vs, o)) (ho : All o)
    (Γ0 : Cx) (φ0 : Plc) (w : World) (xs : List Value) (hk0 : HOK Γ0 w.heap φ0 H) (hX : ∀ b, Γ0.X b → b < w.heap.size) (hargs : RIL Γ0 w.heap φ0 H args xs) :
    Calls P f ⟨xs⟩ w fun e w' => ∃ x, e = .returned x ∧ ∃ φ', HOK Γ0 w'.heap φ' σ.heap ∧ Ext φ0 H w.heap φ' σ.heap w'.heap ∧ RI Γ0 w'.heap φ' σ.heap (resV vs) x ∧ WSame w w' := by
  obtain ⟨X, nn, tt⟩ := Γ0
  intro cs
  have hal := RIL.length hargs
  let Γ : Cx := ⟨X, w.heap.size, fn.ntmps⟩
  let a0 : Act := ⟨(⟨xs⟩ : Array Value) ++ Array.replicate (fn.ntmps - xs.length) undef, []⟩
  have start : NowS Γ ⟨w, φ0, H⟩ ⟨argEnv 0 args, H⟩ a0 w := by
    refine ⟨φ0, fun t iv ht => ?_, hk0.cx, hX, .nil _ _ _ _, Nat.le_refl _, by simp [a0, Γ]; omega, .refl _, Ext.refl _ _ _⟩
    obtain ⟨_, h1⟩ := argEnv_spec ht
    obtain ⟨v, h2, h3⟩ := RIL.get hargs _ _ h1
    refine ⟨v, ?_, h3.cx⟩
    simp only [Nat.sub_zero] at h2
    have hlt : t < xs.length := lt_of_lget h2
    simp only [a0]
    rw [Array.getElem?_append_left (by simpa using hlt)]
    simpa using h2
  let fr0 : Frame := Frame.enter P f ⟨xs⟩ .normal
  have hfr : lone fr0 cs w = lone (atR fr0 none a0 ([.code c] ++ [])) cs w := by
    simp [fr0, atR, Frame.enter, hf, hb, a0]
  obtain ⟨e', a', w', ⟨rfl, φ, h1, h2, h3, h4, h5, h6, h7, h8⟩, harr⟩ := hs Γ ⟨w, φ0, H⟩ none a0 w ⟨rfl, hm, fun _ => rfl⟩ start fr0 [] cs
  have hend : ∃ fr, Steps P (lone fr0 cs w) (lone fr cs w') ∧ fr.mode = .returning ∧ fr.defers = a'.defers ∧ fr.tmps = a'.tmps ∧ fr.kind = .normal ∧ fr.fn = f := by
    rw [hfr]
    cases e' with
    | exit id => cases he
    | normal => exact ⟨_, Steps.trans harr (.one st_end), rfl, rfl, rfl, rfl, rfl⟩
    | ret => obtain ⟨todo, hh⟩ := harr; exact ⟨_, Steps.trans hh (.one st_ret), rfl, rfl, rfl, rfl, rfl⟩
  obtain ⟨fr, hsteps, hm, hd, htm, hkind, hfn⟩ := hend
  obtain ⟨bs, hbs, hnd, hdef⟩ := h4
  obtain ⟨w2, g1, g2, g3, g4, g5, g6⟩ := steps_unwind (P := P) bs (fr := fr) (cs := cs) (w := w') hm (by rw [hd]; exact hbs) hnd (fun b hb => (hdef b hb).2.1)
  have kd : KD (fun b => b ∈ bs) w'.heap w2.heap := ⟨by rw [g5]; exact Nat.le_refl _, fun b o hb hn => by rw [g6 b hn]; exact hb, fun b o hB hb => by
    have := (hdef b hB).2.1
    rw [hb] at this; cases this
    exact ⟨fun _ _ _ h => (by cases h), fun _ _ h => (by cases h)⟩⟩
  obtain ⟨vals, r1, r2⟩ := resC_sound (P := P) (w := w') h2 (fun l o h => h) h1 hr ho
  have hw2 : (fn.results.toList.mapM (resSem a'.tmps)).run P w2 = .ok vals w2 := r2 w2 fun b arr t fr hb => kd.cells hb
  have hrun := results_run hw2
  have hRI : RI Γ w'.heap φ σ.heap (resV vs) (oneOr vals) := by
    cases r1 with
    | nil => exact .tup _ _ .nil
    | cons v x vs' xs' k1 k2 =>
      cases k2 with
      | nil => exact k1
      | cons v2 x2 vs2 xs2 k3 k4 => exact .tup _ _ (.cons _ _ _ _ k1 (.cons _ _ _ _ k3 k4))
  refine ⟨.returned _, w2, { fr with defers := [] }, ⟨_, rfl, φ, (h2.kd kd fun b hb => (hdef b hb).2.2.1).cx, h8.kd kd fun b hb => (hdef b hb).1, (hRI.kd kd).cx, h7.trans ⟨g2, g3, g4⟩⟩, Steps.trans hsteps g1, hfn, hm, rfl, hkind, fn, by simp only; rw [hfn]; exact hf, by simp only; rw [htm]; exact hrun⟩
theorem callI_of {P : Program} {f : FuncId} {fn : Func} {args : List IV} {H : List MObj} {m : Nat} {e : Ex} {σ : St} {vs : List IV} {R : Prop} (hf : IsFn P f fn) (ha : Nat.ble args.length fn.ntmps = true) (hm : Nat.ble H.length m = true)
    (hs : SemC P ⟨fn.ntmps, m, false⟩ [.code (bodyOf fn)] ⟨argEnv 0 args, H⟩ e σ) (he : isEnd e = true) (q : R) (k : ((vs, R) = (vs, R)) = okR (resC P (fun l : Nat => σ.heap[l]?) σ.env fn.results.toList) vs R) :
    CallI P f args H (resV vs) σ.heap := by
  refine ⟨⟨fn, hf.get, hf.name, hf.body⟩, ?_⟩
  have h : okR (resC P (fun l : Nat => σ.heap[l]?) σ.env fn.results.toList) vs R := k ▸ rfl
  unfold okR at h
  split at h
  · rename_i l obs heq
    simp only [Prod.mk.injEq] at h
    obtain ⟨rfl, h3⟩ := h
    have hb : fn.body = some (bodyOf fn) := by
      unfold bodyOf
      cases hh : fn.body with
      | none => have := hf.body; rw [hh] at this; cases this
      | some c => rfl
    exact runsI_of hf.get hb (Nat.le_of_ble_eq_true ha) (Nat.le_of_ble_eq_true hm) hs he heq (h3 ▸ q)
  · exact h.elim
theorem CallI.cast {P : Program} {f : FuncId} {args : List IV} {H : List MObj} {v v' : IV} {H1 H' : List MObj} (h : CallI P f args H v H1) (k : (v, H1) = (v', H')) : CallI P f args H v' H' := by cases k; exact h
def bindP : List Nat → List IV → Env → Env
  | p :: ps, v :: vs, E => bindP ps vs (setE p v E)
  | _, _, E => E
def psOK (nt : Nat) : List Nat → Bool
  | [] => true
  | p :: r => match Nat.blt p nt with | true => psOK nt r | false => false
def isNorm : Ex → Bool
  | .normal => true
  | _ => false
def roundSt (e : Ex) : Nat := match e with | .normal => 0 | _ => 2
theorem bindP_sound {Γ : Cx} {h : Hp} {φ : Plc} {H : List MObj} {nt : Nat} : ∀ (ps : List Nat) (as : List IV) (vs : List Value) (E : Env) (tm : Array Value), psOK nt ps = true → nt ≤ tm.size → RIL Γ h φ H as vs →
    (∀ t iv, lookE t E = some iv → ∃ v : Value, tm[t]? = some v ∧ RI Γ h φ H iv v) →
    nt ≤ ((ps.zip vs).foldl (fun (tm : Array Value) (x : Nat × Value) => tm.setIfInBounds x.1 x.2) tm).size ∧ ∀ t iv, lookE t (bindP ps as E) = some iv → ∃ v : Value, ((ps.zip vs).foldl (fun (tm : Array Value) (x : Nat × Value) => tm.setIfInBounds x.1 x.2) tm)[t]? = some v ∧ RI Γ h φ H iv v
  | [], _, _, E, tm, _, hn, _, he => by simp [bindP]; exact ⟨hn, he⟩
  | _ :: _, [], _, E, tm, _, hn, .nil, he => by simp [bindP]; exact ⟨hn, he⟩
  | p :: ps, a :: as, _, E, tm, hp, hn, .cons _ v _ vs h1 h2, he => by
    unfold psOK at hp
    split at hp
    · rename_i hlt
      rw [Nat.blt_eq] at hlt
      simp only [List.zip_cons_cons, List.foldl_cons, bindP]
      refine bindP_sound ps as vs (setE p a E) (tm.setIfInBounds p v) hp (by simpa using hn) h2 fun t iv ht => ?_
      rw [lookE_setE] at ht
      split at ht
      · rename_i hb
        have := Nat.eq_of_beq_eq_true hb
        subst this; cases ht
        exact ⟨v, by rw [Array.getElem?_setIfInBounds_self_of_lt (by omega)], h1⟩
      · rename_i hb
        obtain ⟨u, hu, hr⟩ := he t iv ht
        refine ⟨u, ?_, hr⟩
        rw [Array.getElem?_setIfInBounds_ne (fun hh => by subst hh; rw [Nat.beq_refl] at hb; cases hb)]; exact hu
    · cases hp
theorem Now.setLoop {Γ : Cx} {w0 : Org} {f : Nat → Option IV} {H : List MObj} {a : Act} {w : World} {l st st' : Nat} {R : Rng} {env : Env} {j j' : Option Code} (hn : Now Γ w0 f H a w) (hl : H[l]? = some (.loop st R env j)) :
    ∃ (b : Nat) (r : Loop), w.heap[b]? = some (.loop r) ∧ r.state = loopSt st ∧ r.pending = j ∧ r.params = ⟨R.ps⟩ ∧ (∀ st0 R0 env0 j0, w0.H[l]? = some (.loop st0 R0 env0 j0) → b = (w0.φ l).1) ∧
      Now Γ w0 f (H.set l (.loop st' R env j')) a (w.putObj b (.loop { r with state := loopSt st', pending := j' })) := by
  obtain ⟨φ, h1, h2, h3, h4, h5, h6, h7, h8⟩ := hn
  obtain ⟨r, g1, g2, g3, g4, g5, g6, g7, g8⟩ := h2.obj l _ hl
  have hlt := lt_of_get g1
  refine ⟨(φ l).1, r, g1, g2, g3, g4, fun st0 R0 env0 j0 h0 => ?_, ?_⟩
  · obtain ⟨o', q1, q2, q3⟩ := h8.loc l _ h0 (by simp)
    rw [hl] at q1; cases q1
    rw [(q3 rfl).2.2.2 rfl]
  obtain ⟨k, e⟩ := h2.put (h' := (w.putObj (φ l).1 (.loop { r with state := loopSt st', pending := j' })).heap) (o' := .loop st' R env j') (pl := φ l) h3 hl (by simp) rfl (by simp)
    (fun b hb hne => World.putObj_heap_other fun he => hne ⟨rfl, he⟩)
    (fun _ arr t fr hc => by rw [g1] at hc; cases hc) (.inl ⟨rfl, rfl⟩) (fun _ => ⟨rfl, Nat.le_refl _, fun _ => rfl⟩)
    (fun e => ⟨{ r with state := loopSt st', pending := j' }, by rw [upd_same]; exact World.putObj_heap_same hlt, rfl, rfl, g4, g5, g6, g7, fun t iv ht => by
      obtain ⟨v, hv, hr⟩ := g8 t iv ht
      exact ⟨v, hv, hr.ext e⟩⟩)
  exact ⟨_, fun t iv ht => by obtain ⟨v, hv, hr⟩ := h1 t iv ht; exact ⟨v, hv, hr.ext e⟩, k, fun b hb => by simpa using h3 b hb, h4.ext e, by simpa using h5, h6, ⟨h7.os, h7.tape, h7.output⟩, h8.trans e⟩
theorem zip_fold (ps : List Nat) (vs : List Value) (tm : Array Value) : ((⟨ps⟩ : Array Nat).zip ⟨vs⟩).foldl (fun tmps (x : Nat × Value) => tmps.setIfInBounds x.1 x.2) tm = (ps.zip vs).foldl (fun (tm : Array Value) (x : Nat × Value) => tm.setIfInBounds x.1 x.2) tm := by
  rw [← Array.foldl_toList, Array.toList_zip]
theorem roundI_of {P : Program} {l : Nat} {args : List IV} {H : List MObj} {R : Rng} {env : Env} {m : Nat} {E1 : Env} {H1 : List MObj} {env1 : Env} {e : Ex} {E2 : Env} {H2 : List MObj} {env2 : Env} {v : IV} {H' : List MObj}
    (hl : H[l]? = some (.loop 0 R env none)) (hp : psOK R.nt R.ps = true) (hlen : Nat.beq args.length R.ps.length = true) (hm : Nat.ble H.length m = true)
    (h1 : SemC P ⟨R.nt, m, true⟩ [.code R.assign] ⟨bindP R.ps args env, H⟩ .normal ⟨E1, H1⟩) (hl1 : H1[l]? = some (.loop 0 R env1 none))
    (h2 : SemC P ⟨R.nt, m, true⟩ [.code R.body] ⟨E1, H1.set l (.loop 1 R env1 none)⟩ e ⟨E2, H2⟩) (hl2 : H2[l]? = some (.loop 1 R env2 none))
    (k : (IV.p (.bool (isNorm e)), H2.set l (.loop (roundSt e) R env2 (jumpOf e))) = (v, H')) : RoundI P l args H v H' := by
  cases k
  refine ⟨⟨_, hl, rfl⟩, ?_⟩
  rintro ⟨X, nn, tt⟩ φ w vs hk hX hargs
  obtain ⟨r, g1, g2, g3, g4, g5, g6, g7, g8⟩ := hk.obj l _ hl
  have hal := RIL.length hargs
  have hlen' := Nat.eq_of_beq_eq_true hlen
  refine ⟨r.fn, (R.ps.zip vs).foldl (fun (tm : Array Value) (x : Nat × Value) => tm.setIfInBounds x.1 x.2) r.tmps, R.assign, R.body, ?_, ?_⟩
  · have := run_yield (P := P) (args := ⟨vs⟩) g1 (by rw [g4]; simp; omega)
    rw [this, g4, g5, g6]
    congr 2
    exact zip_fold R.ps vs r.tmps
  let Γ : Cx := ⟨X, w.heap.size, R.nt⟩
  obtain ⟨b1, b2⟩ := bindP_sound R.ps args vs env r.tmps hp g7 hargs g8
  have start : NowS Γ ⟨w, φ, H⟩ ⟨bindP R.ps args env, H⟩ ⟨(R.ps.zip vs).foldl (fun (tm : Array Value) (x : Nat × Value) => tm.setIfInBounds x.1 x.2) r.tmps, []⟩ w :=
    ⟨φ, fun t iv ht => by obtain ⟨u, hu, hr⟩ := b2 t iv ht; exact ⟨u, hu, hr.cx⟩, hk.cx, hX, .nil _ _ _ _, Nat.le_refl _, b1, .refl _, Ext.refl _ _ _⟩
  refine rounds_of ((h1 Γ ⟨w, φ, H⟩ (some (φ l).1) _ w ⟨rfl, Nat.le_of_ble_eq_true hm, fun h => by cases h⟩ start).mono ?_)
  rintro e1 a1 w1 ⟨rfl, hn1⟩
  refine ⟨rfl, ?_⟩
  obtain ⟨b, r1, q1, q2, q3, q4, q5, q6⟩ := Now.setLoop (st' := 1) (j' := none) hn1 hl1
  have hb := q5 _ _ _ _ hl
  simp only at hb
  subst hb
  refine ⟨_, by rw [run_beginRound q1 q2], ?_⟩
  have e0 : ({ r1 with state := .busy } : Loop) = { r1 with state := loopSt 1, pending := none } := by cases r1; simp only at q3; subst q3; rfl
  rw [e0]
  refine (h2 Γ ⟨w, φ, H⟩ (some (φ l).1) _ _ ⟨rfl, Nat.le_of_ble_eq_true hm, fun h => by cases h⟩ q6).mono ?_
  rintro e2 a2 w3 ⟨rfl, hn2⟩
  obtain ⟨b', r2, p1, p2, p3, p4, p5, φ', _, k2, _, _, _, _, k7, k8⟩ := Now.setLoop (st' := roundSt e2) (j' := jumpOf e2) hn2 hl2
  have hb := p5 _ _ _ _ hl
  simp only at hb
  subst hb
  refine ⟨_, _, run_endRound (jumpOf e2) p1, φ', ?_⟩
  have e3 : ({ r2 with state := if (jumpOf e2).isNone then .ready else .done, pending := jumpOf e2 } : Loop) = { r2 with state := loopSt (roundSt e2), pending := jumpOf e2 } := by cases e2 <;> rfl
  have e4 : (jumpOf e2).isNone = isNorm e2 := by cases e2 <;> rfl
  rw [e3, e4]
  exact ⟨k2.cx, k8, .p _ _ (.bool _), k7⟩
def rangeArgs (E : Env) (g : Operand) (n : Nat) : Option (FuncId × List IV) := match opnd E g with
  | some (.p (.fn f a b)) => some (f, (a.map .p ++ [.yld n]) ++ b.map .p)
  | some (.fn f a b) => some (f, (a ++ [.yld n]) ++ b)
  | _ => none
theorem range_call {P : Program} {Γ : Cx} {φ : Plc} {H : List MObj} {w : World} {E : Env} {ρ : Operand → Value} {g : Operand} {f : FuncId} {args : List IV} {n l : Nat} (he : EOK Γ w.heap φ H E ρ) (hc : rangeArgs E g n = some (f, args)) (hf : FnOK P f) (hρ : ρ (.const (.func (.yield l) #[] #[])) = .func (.yield l) #[] #[])
    (hy : RI Γ w.heap φ H (.yld n) (.func (.yield l) #[] #[])) : ∃ d vs, RIL Γ w.heap φ H args vs ∧ (∀ w', (resolve ρ (rCall g l) 0).run P w' = .ok d w') ∧ ∀ w', (invoke d.target d.args).run P w' = .ok (.enter f ⟨vs⟩) w' := by
  obtain ⟨fn, hf, hn, hb⟩ := hf
  have hb' : fn.body.isNone = false := by cases h : fn.body <;> simp_all
  have run : ∀ (first captured : Array Value), ρ g = .func (.func f) first captured →
      (∀ w', (resolve ρ (rCall g l) 0).run P w' = .ok { target := .fn (.func f) captured, args := first ++ #[.func (.yield l) #[] #[]] } w') ∧
      ∀ w', (invoke (.fn (.func f) captured) (first ++ #[.func (.yield l) #[] #[]])).run P w' = .ok (.enter f ((first ++ #[.func (.yield l) #[] #[]]) ++ captured)) w' := by
    intro first captured hv
    refine ⟨fun w' => ?_, fun w' => ?_⟩
    · simp only [resolve, hv, Deferred.ofValue]
      have : Array.map ρ #[.const (.func (.yield l) #[] #[])] = #[.func (.yield l) #[] #[]] := by simp [hρ]
      rw [this]; rfl
    · simp only [invoke]
      unfold callFunc
      rw [run_bnd (show (Go.program : Sem Program).run P w' = .ok P w' from rfl)]
      simp only [hf, hn, hb', Bool.false_eq_true, if_false]
      rfl
  unfold rangeArgs at hc
  split at hc
  · rename_i g' a b h1
    cases hc
    have hfv := (he _ _ h1).p_inv
    generalize hq : ρ g = q at hfv
    cases hfv with
    | fn _ _ _ va vb ha hb2 =>
      obtain ⟨r1, r2⟩ := run _ _ hq
      refine ⟨_, (va ++ [.func (.yield l) #[] #[]]) ++ vb, ((RIL.ofPure ha).append (.cons _ _ _ _ hy .nil)).append (RIL.ofPure hb2), r1, fun w' => ?_⟩
      rw [r2]
      congr 2
      apply Array.ext'; simp
  · rename_i g' a b h1
    cases hc
    have hfv := he _ _ h1
    generalize hq : ρ g = q at hfv
    cases hfv with
    | fn _ _ _ va vb ha hb2 =>
      obtain ⟨r1, r2⟩ := run _ _ hq
      refine ⟨_, (va ++ [.func (.yield l) #[] #[]]) ++ vb, (ha.append (.cons _ _ _ _ hy .nil)).append hb2, r1, fun w' => ?_⟩
      rw [r2]
      congr 2
      apply Array.ext'; simp
  · cases hc
def isRF : Code → Bool
  | .rangeFunc _ _ _ _ => true
  | _ => false
def rngOf (c : Code) (nt : Nat) : Rng := match c with
  | .rangeFunc _ ps asn body => ⟨ps.toList, asn, body, nt⟩
  | _ => default
def rfFun (c : Code) : Operand := match c with
  | .rangeFunc g _ _ _ => g
  | _ => default
theorem range_of {P : Program} {nt m n : Nat} {c : Code} {σ : St} {f : FuncId} {args : List IV} {v : IV} {H2 H3 : List MObj} {e : Ex} {s : Nat} {R R' : Rng} {env' : Env} (ks : List Nat) (hrf : isRF c = true) (hn : Nat.beq σ.heap.length n = true)
    (hg : rangeArgs σ.env (rfFun c) n = some (f, args)) (hR : rngOf c nt = R) (hc : CallI P f args (σ.heap ++ [.loop 0 R (prune σ.env ks) none]) v H2)
    (hl : H2[n]? = some (.loop s R' env' (jumpOf e))) (hs : Nat.beq s 1 = false) (k : H2.set n .dead = H3) : SemC P ⟨nt, m, false⟩ [.code c] σ e ⟨σ.env, H3⟩ := by
  obtain ⟨g, ps, asn, body, rfl⟩ : ∃ g ps asn body, c = .rangeFunc g ps asn body := by
    cases c with
    | rangeFunc g ps asn body => exact ⟨g, ps, asn, body, rfl⟩
    | _ => cases hrf
  have hn' := Nat.eq_of_beq_eq_true hn
  subst hn' k hR
  simp only [rngOf, rfFun] at *
  obtain ⟨E, H⟩ := σ
  simp only at *
  intro Γ w0 r a w hok ⟨φ, h1, h2, h3, h4, h5, h6, h7, h8⟩
  have hr := hok.r rfl
  subst hr
  have hnt := hok.nt
  simp only at hnt
  obtain ⟨hfn, hc⟩ := hc
  refine W_rangeFunc fun fn => ?_
  let rec0 : Loop := { state := .ready, pending := none, fn, tmps := a.tmps, params := ps, assign := asn, body, defers := w.heap.size }
  let wA := w.alloc (.deferred (some []))
  let wB := wA.alloc (.loop rec0)
  have sA : wA.heap.size = w.heap.size + 1 := World.size_alloc _ _
  have sB : wB.heap.size = w.heap.size + 2 := by rw [show wB.heap.size = wA.heap.size + 1 from World.size_alloc _ _, sA]
  have keepA : ∀ b : Nat, b < w.heap.size → wA.heap[b]? = w.heap[b]? := fun b hb => RowKit.Below.heap_alloc w _ b hb
  have keepB : ∀ b : Nat, b < wA.heap.size → wB.heap[b]? = wA.heap[b]? := fun b hb => RowKit.Below.heap_alloc wA _ b hb
  have hdA : wA.heap[w.heap.size]? = some (.deferred (some [])) := World.alloc_heap_new w _
  have hlB : wB.heap[w.heap.size + 1]? = some (.loop rec0) := by rw [← sA]; exact World.alloc_heap_new wA _
  have hdB : wB.heap[w.heap.size]? = some (.deferred (some [])) := by rw [keepB _ (by omega)]; exact hdA
  obtain ⟨kA, eA⟩ := h2.keepAll (h' := wA.heap) (by omega) keepA
  obtain ⟨kB, eB⟩ := kA.new (h' := wB.heap) (n := H.length) (o' := .loop 0 ⟨ps.toList, asn, body, nt⟩ (prune E ks) none) (pl := (w.heap.size + 1, 0)) (fun b hb => by have := h3 b hb; omega) (.inl rfl) rfl (by omega) keepB ⟨by omega, by simp only; omega⟩
    (fun e => ⟨rec0, by rw [upd_same]; exact hlB, rfl, rfl, rfl, rfl, rfl, hnt ▸ h6, fun t iv ht => by obtain ⟨u, hu, hr⟩ := h1 t iv (prune_spec ht); exact ⟨u, hu, (hr.ext eA).ext e⟩⟩)
  rw [putAt_end] at kB eB
  obtain ⟨φB, hφB⟩ : ∃ q, q = upd φ H.length (w.heap.size + 1, 0) := ⟨_, rfl⟩
  rw [← hφB] at kB eB
  have hφn : φB H.length = (w.heap.size + 1, 0) := by rw [hφB, upd_same]
  have hget : (H ++ [MObj.loop 0 ⟨ps.toList, asn, body, nt⟩ (prune E ks) none])[H.length]? = some (.loop 0 ⟨ps.toList, asn, body, nt⟩ (prune E ks) none) := by simp
  have hy : RI Γ wB.heap φB (H ++ [.loop 0 ⟨ps.toList, asn, body, nt⟩ (prune E ks) none]) (.yld H.length) (.func (.yield (w.heap.size + 1)) #[] #[]) :=
    .yld _ _ ⟨_, hget, by simp⟩ fun o ho hk => by rw [hφn]
  obtain ⟨d, vs, hvs, hres, hinv⟩ := range_call (P := P) (w := wB) (ρ := a.eval) (eok_of fun t iv ht => by obtain ⟨u, hu, hr⟩ := h1 t iv ht; exact ⟨u, hu, (hr.ext eA).ext eB⟩) hg hfn rfl hy
  refine ⟨w.heap.size + 1, [{ target := .collected w.heap.size, args := #[] }], wB, d, wB, f, ⟨vs⟩, wB, run_enterLoop_outer _ _ _ _ _, hres wB, hinv wB, ?_⟩
  refine (hc Γ φB wB vs kB (fun b hb => by have := h3 b hb; omega) hvs).mono fun e1 w' hh => ?_
  obtain ⟨x, rfl, φ2, k2, e2, hx, hw2⟩ := hh
  obtain ⟨r2, g1, g2, g3, g4, g5, g6, g7, g8⟩ := k2.obj _ _ hl
  have hφ2 : φ2 H.length = (w.heap.size + 1, 0) := by
    obtain ⟨o', q1, q2, q3⟩ := e2.loc _ _ hget (by simp)
    rw [hl] at q1; cases q1
    rw [(q3 rfl).2.2.2 rfl, hφn]
  rw [hφ2] at g1
  have hlt2 := lt_of_get g1
  obtain ⟨kD, eD⟩ := kill_one k2 H.length (by rw [hl]; simp)
  have eT : Ext φ H w.heap φ2 (H2.set H.length .dead) w'.heap := by
    refine Ext.trans (Ext.trans (Ext.trans eA ?_) e2) eD
    exact eB
  have hend : (Instr.endLoop (w.heap.size + 1)).run P w' = .ok (jumpOf e) (w'.putObj (w.heap.size + 1) (.loop { r2 with state := .exhausted })) := by
    rw [run_endLoop g1 (by rw [g2]; match s, hs with | 0, _ => (intro h; cases h) | 1, h => cases h | n + 2, _ => (intro h; cases h)), g3]
  have hown : ¬ Own φ2 (H2.set H.length .dead) (w.heap.size + 1) := by
    rintro ⟨i, o, ho, hlive, hb⟩
    rw [get_set] at ho
    split at ho
    · split at ho
      · cases ho; cases hlive
      · cases ho
    · rename_i hne
      exact hne (k2.inj _ _ _ _ hl ho rfl hlive (by rw [hφ2, hb]))
  have kd : KD (fun b => b = w.heap.size + 1) w'.heap (w'.putObj (w.heap.size + 1) (.loop { r2 with state := .exhausted })).heap :=
    ⟨by simp, fun b o hb hne => by rw [World.putObj_heap_other hne]; exact hb, fun b o hb hg => by subst hb; rw [g1] at hg; cases hg; exact ⟨fun _ _ _ h => (by cases h), fun _ _ h => (by cases h)⟩⟩
  refine ⟨x, e, _, rfl, hend, rfl, φ2, fun t iv ht => ?_, kD.kd kd fun b hb => hb ▸ hown, fun b hb => ?_, ?_, ?_, h6, ?_, (h8.trans eT).kd kd fun b hb => ?_⟩
  · obtain ⟨u, hu, hr⟩ := h1 t iv ht
    exact ⟨u, hu, (hr.ext eT).kd kd⟩
  · have := h3 b hb
    have := eT.size
    simp; omega
  · -- what has been collected
    obtain ⟨bs, y1, y2, y3⟩ := h4.ext eT
    have hnB : ¬ Own φB (H ++ [MObj.loop 0 ⟨ps.toList, asn, body, nt⟩ (prune E ks) none]) w.heap.size := by
      rintro ⟨i, o, ho, hlive, hb⟩
      rw [get_append1] at ho
      split at ho
      · rw [hφB, upd_ne φ _ (by omega)] at hb
        have := (h2.lt i o ho hlive).1
        omega
      · split at ho
        · rename_i hi; subst hi; rw [hφn] at hb; simp only at hb; omega
        · cases ho
    have hdw' : w'.heap[w.heap.size]? = some (.deferred (some [])) := by
      rw [e2.keep _ (by omega) hnB]; exact hdB
    have hno : ¬ Own φ2 (H2.set H.length .dead) w.heap.size := fun ho => hnB (e2.own _ (eD.own _ ho (lt_of_get hdw')) (by omega))
    have hmem : ∀ b ∈ bs, b ≠ w.heap.size := by
      intro b hb he
      subst he
      obtain ⟨bs', z1, z2, z3⟩ := h4
      have hmap : List.map (fun b => ({ target := .collected b, args := #[] } : Deferred)) bs = List.map (fun b => { target := .collected b, args := #[] }) bs' := y1.symm.trans z1
      have : bs = bs' := by
        have hinj : ∀ (l l' : List Nat), List.map (fun b => ({ target := .collected b, args := #[] } : Deferred)) l = List.map (fun b => { target := .collected b, args := #[] }) l' → l = l' := by
          intro l
          induction l with
          | nil => intro l' h; cases l' with | nil => rfl | cons _ _ => simp at h
          | cons x l ih =>
            intro l' h
            cases l' with
            | nil => simp at h
            | cons y l' =>
              simp only [List.map_cons, List.cons.injEq, Deferred.mk.injEq, Target.collected.injEq, and_true] at h
              rw [h.1, ih l' h.2]
        exact hinj _ _ hmap
      subst this
      have := lt_of_get (z3 _ hb).2.1
      omega
    refine ⟨w.heap.size :: bs, by simp [y1], List.nodup_cons.2 ⟨fun hh => hmem _ hh rfl, y2⟩, fun b hb => ?_⟩
    rcases List.mem_cons.1 hb with rfl | hb
    · exact ⟨h5, by rw [World.putObj_heap_other (by omega)]; exact hdw', hno, fun hx => by have := h3 _ hx; omega⟩
    · obtain ⟨q1, q2, q3, q4⟩ := y3 b hb
      refine ⟨q1, ?_, q3, q4⟩
      rw [World.putObj_heap_other (fun he => by subst he; rw [g1] at q2; cases q2)]; exact q2
  · have := eT.size
    simp; omega
  · exact h7.trans (WSame.trans (b := wB) ⟨rfl, rfl, rfl⟩ (hw2.trans ⟨rfl, rfl, rfl⟩))
  · have := h8.size
    omega
end Go.Idl
set_option linter.unusedSimpArgs false
set_option linter.unusedVariables false
namespace Go.Idl
open Go
section
variable {α : Type} {f : α → PV} {n m s sz len k : Nat} {L M : List α}
structure ElEq [BEq α] (P : Program) (f : α → PV) (e : TypeId) (d : Nat) : Prop where
  part : ∀ (xs : List PV) (off : Nat), partPV P e xs off = xs[off]?
  one : ∀ v, (f v).cells = [f v]
  eq : ∀ a b, eqPV P d e (f a) (f b) = some (a == b)
theorem row_copy' (he : Elem f n) {k len : Nat} (hk : k = Nat.min (M.map f).length len) (hl : L.length = len) : putCells (rowI f L) 0 ((((M.map f).flatMap PV.cells).map IV.p).take (k * n)) = rowI f (copyL L M) :=
  row_copy he L M (by rw [hk, List.length_map, hl])
theorem row_clear (he : Elem f n) (z : α) (hl : L.length = len) : putCells (rowI f L) 0 (zerosI (f z).cells (len * n)) = rowI f (List.replicate len z) := by
  rw [zeros_row he z len]
  exact putCells_all _ _ (by rw [row_len he, row_len he, List.length_replicate, hl])
theorem row_scO (he : Elem f n) (M : List α) (m : Nat) : ∀ y ∈ ((rowI f M).drop 0).take m, scalarI y = true := by
  intro y hy
  exact row_sc he M y (by rw [← row_src]; exact List.mem_of_mem_drop (List.mem_of_mem_take hy))
theorem row_appO (he : Elem f n) (L : List α) (hm : M.length = m) : rowI f (L ++ M) = rowI f L ++ ((rowI f M).drop 0).take (m * n) := by
  rw [row_whole he hm]; unfold rowI rowP; rw [List.flatMap_append, List.map_append]
theorem row_app2O (he : Elem f n) (L : List α) (hm : M.length = m) : rowI f (L ++ M) = ((L.map f).flatMap PV.cells).map IV.p ++ ((rowI f M).drop 0).take (m * n) := by
  rw [row_appO he L hm, ← row_src f L]
theorem row_srcO (he : Elem f n) (hm : M.length = m) : rowI f M = ((rowI f M).drop 0).take (m * n) := (row_whole he hm).symm
theorem app_len2O (f : α → PV) (hM : M.length = m) : (L ++ M).length = (L.map f).length + m := by rw [List.length_append, hM, List.length_map]
theorem isEmpty_lenO (h : List.isEmpty M = true) (hM : M.length = m) : m = 0 := by rw [← hM]; cases M with | nil => rfl | cons _ _ => cases h
theorem notEmpty_lenO (h : List.isEmpty M = false) (hM : M.length = m) : 0 < m := by rw [← hM]; cases M with | nil => cases h | cons _ _ => simp
end
end Go.Idl
namespace Go.Idl
theorem sl_lo0 (mx : Option Int) (h cap : Nat) : (0:Nat) = 0 ∨ (0:Nat) < mxCap mx h cap := .inl rfl
end Go.Idl
namespace Go.Idl
end Go.Idl
set_option linter.unusedSimpArgs false
set_option linter.unusedVariables false
namespace Go.Idl
open Go
def idxS (l : Nat) : Nat → List Nat → Option Nat
  | _, [] => none
  | i, j :: r => match Nat.beq j l with | true => some i | false => idxS l (i + 1) r
mutual
def selI (js : List Nat) : IV → Option IV
  | .p v => some (.p v)
  | .ptr l off sz => match idxS l 0 js with | some i => some (.ptr i off sz) | none => none
  | .msl l off len sz x => match idxS l 0 js with | some i => some (.msl i off len sz x) | none => none
  | .mmap l => match idxS l 0 js with | some i => some (.mmap i) | none => none
  | .iter l => match idxS l 0 js with | some i => some (.iter i) | none => none
  | .fn f a b => match selL js a with | some a' => (match selL js b with | some b' => some (.fn f a' b') | none => none) | none => none
  | .agg cs => match selL js cs with | some cs' => some (.agg cs') | none => none
  | .tup cs => match selL js cs with | some cs' => some (.tup cs') | none => none
  | .yld l => match idxS l 0 js with | some i => some (.yld i) | none => none
def selL (js : List Nat) : List IV → Option (List IV)
  | [] => some []
  | v :: r => match selI js v with | some v' => (match selL js r with | some r' => some (v' :: r') | none => none) | none => none
end
def selE (js : List Nat) : Env → Option Env
  | [] => some []
  | (t, v) :: r => match selI js v with | some v' => (match selE js r with | some r' => some ((t, v') :: r') | none => none) | none => none
def SelO (js : List Nat) : MObj → MObj → Prop
  | .cells cs g, o => ∃ cs', selL js cs = some cs' ∧ o = .cells cs' g
  | .iter mm seen c, o => ∃ i, idxS mm 0 js = some i ∧ o = .iter i seen c
  | .loop st R env jj, o => ∃ env', selE js env = some env' ∧ o = .loop st R env' jj
  | o, o' => o' = o
def SelH (js : List Nat) (H : List MObj) : List Nat → List MObj → Prop
  | [], [] => True
  | j :: r, o' :: r' => (∃ o, H[j]? = some o ∧ SelO js o o') ∧ SelH js H r r'
  | _, _ => False
def nodupS : List Nat → Bool
  | [] => true
  | j :: r => match idxS j 0 r with | none => nodupS r | some _ => false
def initS (H : List MObj) : Nat → Nat → List Nat → Bool
  | _, 0, _ => true
  | _, _ + 1, [] => false
  | i, m + 1, j :: r => match Nat.beq j i with
    | true => initS H (i + 1) m r
    | false => match isHole H[i]? with | true => initS H (i + 1) m r | false => false
theorem idxS_spec {l : Nat} : ∀ {js : List Nat} {i p : Nat}, idxS l i js = some p → ∃ q, p = i + q ∧ js[q]? = some l
  | [], i, p, h => by cases h
  | j :: r, i, p, h => by
    simp only [idxS] at h
    split at h
    · rename_i hb; cases h; exact ⟨0, by omega, by simp [Nat.eq_of_beq_eq_true hb]⟩
    · obtain ⟨q, h1, h2⟩ := idxS_spec h; exact ⟨q + 1, by omega, by simpa using h2⟩
theorem idxS_none {l : Nat} : ∀ {js : List Nat} {i : Nat}, idxS l i js = none → l ∉ js
  | [], i, _ => by simp
  | j :: r, i, h => by
    simp only [idxS] at h
    split at h
    · cases h
    · rename_i hb
      have := idxS_none h
      simp only [List.mem_cons, not_or]
      exact ⟨fun he => (by subst he; rw [Nat.beq_refl] at hb; cases hb), this⟩
theorem nodupS_spec : ∀ {js : List Nat}, nodupS js = true → js.Nodup
  | [], _ => .nil
  | j :: r, h => by
    unfold nodupS at h
    split at h
    · rename_i hn; exact List.nodup_cons.2 ⟨idxS_none hn, nodupS_spec h⟩
    · cases h
theorem nodup_inj : ∀ {js : List Nat} {l l' j : Nat}, js.Nodup → js[l]? = some j → js[l']? = some j → l = l'
  | [], l, l', j, _, h, _ => by simp at h
  | x :: r, 0, 0, j, _, _, _ => rfl
  | x :: r, 0, l' + 1, j, hn, h, h' => by
    have e : x = j := by simpa using h
    have h2 : r[l']? = some j := by simpa using h'
    exact absurd (e ▸ List.mem_of_getElem? h2) (List.nodup_cons.1 hn).1
  | x :: r, l + 1, 0, j, hn, h, h' => by
    have e : x = j := by simpa using h'
    have h2 : r[l]? = some j := by simpa using h
    exact absurd (e ▸ List.mem_of_getElem? h2) (List.nodup_cons.1 hn).1
  | x :: r, l + 1, l' + 1, j, hn, h, h' => by
    have h1 : r[l]? = some j := by simpa using h
    have h2 : r[l']? = some j := by simpa using h'
    have := nodup_inj (List.nodup_cons.1 hn).2 h1 h2
    omega
theorem initS_spec {H : List MObj} : ∀ {m i : Nat} {js : List Nat}, initS H i m js = true → ∀ l, l < m → ∃ j, js[l]? = some j ∧ (j = i + l ∨ H[i + l]? = some .hole)
  | 0, i, js, _, l, hl => by omega
  | m + 1, i, [], h, _, _ => by simp [initS] at h
  | m + 1, i, j :: r, h, l, hl => by
    unfold initS at h
    cases l with
    | zero =>
      refine ⟨j, by simp, ?_⟩
      split at h
      · rename_i hb; exact .inl (Nat.eq_of_beq_eq_true hb)
      · split at h
        · rename_i hh
          refine .inr ?_
          unfold isHole at hh
          split at hh
          · rename_i heq; exact heq
          · cases hh
        · cases h
    | succ l =>
      have hr : initS H (i + 1) m r = true := by
        split at h
        · exact h
        · split at h
          · exact h
          · cases h
      obtain ⟨j', h1, h2⟩ := initS_spec hr l (by omega)
      exact ⟨j', by simpa using h1, by rw [show i + (l + 1) = i + 1 + l from by omega]; exact h2⟩
theorem SelH_get {js0 : List Nat} {H : List MObj} : ∀ {js : List Nat} {H' : List MObj} {l : Nat} {o' : MObj}, SelH js0 H js H' → H'[l]? = some o' → ∃ j o, js[l]? = some j ∧ H[j]? = some o ∧ SelO js0 o o'
  | [], [], l, o', _, h => by simp at h
  | j :: r, q :: r', 0, o', hr, h => by simp at h; subst h; obtain ⟨o, h1, h2⟩ := hr.1; exact ⟨j, o, by simp, h1, h2⟩
  | j :: r, q :: r', l + 1, o', hr, h => by simp only [List.getElem?_cons_succ] at h ⊢; exact SelH_get hr.2 h
  | [], _ :: _, _, _, hr, _ => hr.elim
  | _ :: _, [], _, _, hr, _ => hr.elim
theorem SelH_get2 {js0 : List Nat} {H : List MObj} : ∀ {js : List Nat} {H' : List MObj} {l j : Nat}, SelH js0 H js H' → js[l]? = some j → ∃ o o', H'[l]? = some o' ∧ H[j]? = some o ∧ SelO js0 o o'
  | [], [], l, j, _, h => by simp at h
  | j :: r, q :: r', 0, k, hr, h => by simp at h; subst h; obtain ⟨o, h1, h2⟩ := hr.1; exact ⟨o, q, by simp, h1, h2⟩
  | j :: r, q :: r', l + 1, k, hr, h => by simp only [List.getElem?_cons_succ] at h ⊢; exact SelH_get2 hr.2 h
  | [], _ :: _, _, _, hr, _ => hr.elim
  | _ :: _, [], _, _, hr, _ => hr.elim
theorem selL_len {js : List Nat} : ∀ {l l' : List IV}, selL js l = some l' → l'.length = l.length
  | [], _, h => by cases h; rfl
  | v :: r, _, h => by
    simp only [selL] at h
    split at h
    · split at h
      · rename_i r' hr; cases h; simp [selL_len hr]
      · cases h
    · cases h
theorem selL_get {js : List Nat} : ∀ {l l' : List IV} {i : Nat} {v' : IV}, selL js l = some l' → l'[i]? = some v' → ∃ v, l[i]? = some v ∧ selI js v = some v'
  | [], _, i, v', h, hi => by cases h; simp at hi
  | v :: r, _, i, v', h, hi => by
    simp only [selL] at h
    split at h
    · rename_i u hu
      split at h
      · rename_i r' hr
        cases h
        cases i with
        | zero => simp at hi; subst hi; exact ⟨v, by simp, hu⟩
        | succ i => simp only [List.getElem?_cons_succ] at hi ⊢; exact selL_get hr hi
      · cases h
    · cases h
theorem selE_get {js : List Nat} {t : Nat} {v' : IV} : ∀ {E E' : Env}, selE js E = some E' → lookE t E' = some v' → ∃ v, lookE t E = some v ∧ selI js v = some v'
  | [], _, h, hl => by cases h; cases hl
  | (u, v) :: r, _, h, hl => by
    simp only [selE] at h
    split at h
    · rename_i x hx
      split at h
      · rename_i r' hr
        cases h
        simp only [lookE] at hl ⊢
        split at hl
        · cases hl; exact ⟨v, rfl, hx⟩
        · exact selE_get hr hl
      · cases h
    · cases h
theorem SelO.same {js : List Nat} {o o' : MObj} (h : SelO js o o') : o'.kind = o.kind ∧ o'.csize = o.csize ∧ o'.live = o.live ∧ (o' = .hole ↔ o = .hole) := by
  cases o with
  | cells cs g => obtain ⟨cs', h1, rfl⟩ := h; exact ⟨rfl, selL_len h1, rfl, by simp⟩
  | loop st R env jj => obtain ⟨env', h1, rfl⟩ := h; exact ⟨rfl, rfl, rfl, by simp⟩
  | hole => cases h; exact ⟨rfl, rfl, rfl, Iff.rfl⟩
  | dead => cases h; exact ⟨rfl, rfl, rfl, Iff.rfl⟩
  | map ks vs => cases h; exact ⟨rfl, rfl, rfl, Iff.rfl⟩
  | mapS ks vs bs c => cases h; exact ⟨rfl, rfl, rfl, Iff.rfl⟩
  | iterP ks vs seen => cases h; exact ⟨rfl, rfl, rfl, Iff.rfl⟩
  | iter mm seen c => obtain ⟨i, h1, rfl⟩ := h; exact ⟨rfl, rfl, rfl, by simp⟩
section
variable {Γ : Cx} {h : Hp} {φ : Plc} {H H' : List MObj} {js : List Nat}
def selP (φ : Plc) (js : List Nat) : Plc := fun i => φ (js.getD i 0)
theorem selP_at {l j : Nat} (hj : js[l]? = some j) : selP φ js l = φ j := by simp [selP, List.getD_eq_getElem?_getD, hj]
theorem Sel.get (m : SelH js H js H') {l i : Nat} (hi : idxS l 0 js = some i) : ∃ o o', H'[i]? = some o' ∧ H[l]? = some o ∧ SelO js o o' ∧ selP φ js i = φ l := by
  obtain ⟨q, h1, h2⟩ := idxS_spec hi
  rw [Nat.zero_add] at h1
  subst h1
  obtain ⟨o, o', g1, g2, g3⟩ := SelH_get2 m h2
  exact ⟨o, o', g1, g2, g3, selP_at h2⟩
theorem Sel.own (m : SelH js H js H') {b : Nat} (ho : Own (selP φ js) H' b) : Own φ H b := by
  obtain ⟨l, o', h1, h2, h3⟩ := ho
  obtain ⟨j, o, g1, g2, g3⟩ := SelH_get m h1
  exact ⟨j, o, g2, by rw [← g3.same.2.2.1]; exact h2, by rw [← h3, selP_at g1]⟩
theorem Sel.dfd (m : SelH js H js H') {l i : Nat} (hd : Def H l) (hi : idxS l 0 js = some i) : Def H' i := by
  obtain ⟨o, h1, h2⟩ := hd
  obtain ⟨o2, o', g1, g2, g3, _⟩ := Sel.get (φ := fun _ => (0, 0)) m hi
  rw [h1] at g2; cases g2
  exact ⟨o', g1, fun he => h2 (g3.same.2.2.2.1 he)⟩
theorem Sel.rp (m : SelH js H js H') {p : PV} {v : Value} (hr : RP h (fun b => Γ.X b ∨ Own φ H b) p v) : RP h (fun b => Γ.X b ∨ Own (selP φ js) H' b) p v :=
  hr.keeps fun b o hb hx => ⟨hb, fun hy => hx (hy.imp id (Sel.own m))⟩
theorem Sel.rpl (m : SelH js H js H') {p : List PV} {v : List Value} (hr : RPL h (fun b => Γ.X b ∨ Own φ H b) p v) : RPL h (fun b => Γ.X b ∨ Own (selP φ js) H' b) p v :=
  hr.keeps fun b o hb hx => ⟨hb, fun hy => hx (hy.imp id (Sel.own m))⟩
mutual
theorem RI.sel (m : SelH js H js H') : ∀ {p p' : IV} {v : Value}, RI Γ h φ H p v → selI js p = some p' → RI Γ h (selP φ js) H' p' v
  | _, _, _, .p v x hp, hs => by simp only [selI] at hs; cases hs; exact .p v x (Sel.rp m hp)
  | _, _, _, .ptr l off sz a hd hc, hs => by
    simp only [selI] at hs
    split at hs
    · rename_i i hi
      cases hs
      refine .ptr _ off sz a (Sel.dfd m hd hi) fun cs g ho => ?_
      obtain ⟨o, o', g1, g2, g3, g4⟩ := Sel.get (φ := φ) m hi
      rw [g1] at ho; cases ho
      obtain ⟨cs0, rfl⟩ := MObj.kind_cells (o := o) (g := g) (by rw [← g3.same.1]; rfl)
      have hz := g3.same.2.1
      simp only [MObj.csize] at hz
      rw [g4, hz]; exact hc cs0 g g2
    · cases hs
  | _, _, _, .msl l off len sz x a cap hd hc hle hx, hs => by
    simp only [selI] at hs
    split at hs
    · rename_i i hi
      cases hs
      refine .msl _ off len sz x a cap (Sel.dfd m hd hi) (fun cs g ho => ?_) hle hx
      obtain ⟨o, o', g1, g2, g3, g4⟩ := Sel.get (φ := φ) m hi
      rw [g1] at ho; cases ho
      obtain ⟨cs0, rfl⟩ := MObj.kind_cells (o := o) (g := g) (by rw [← g3.same.1]; rfl)
      have hz := g3.same.2.1
      simp only [MObj.csize] at hz
      rw [g4, hz]; exact hc cs0 g g2
    · cases hs
  | _, _, _, .mmap l r hd hc, hs => by
    simp only [selI] at hs
    split at hs
    · rename_i i hi
      cases hs
      refine .mmap _ r (Sel.dfd m hd hi) fun q ho hk => ?_
      obtain ⟨o, o', g1, g2, g3, g4⟩ := Sel.get (φ := φ) m hi
      rw [g1] at ho; cases ho
      rw [g4]; exact hc o g2 (by rw [← g3.same.1]; exact hk)
    · cases hs
  | _, _, _, .iter l r hd hc, hs => by
    simp only [selI] at hs
    split at hs
    · rename_i i hi
      cases hs
      refine .iter _ r (Sel.dfd m hd hi) fun q ho hl hz => ?_
      obtain ⟨o, o', g1, g2, g3, g4⟩ := Sel.get (φ := φ) m hi
      rw [g1] at ho; cases ho
      rw [g4]; exact hc o g2 (by rw [← g3.same.2.2.1]; exact hl) (by rw [← g3.same.2.1]; exact hz)
    · cases hs
  | _, _, _, .fn f first cap a b ha hb, hs => by
    simp only [selI] at hs
    split at hs
    · rename_i a' h1
      split at hs
      · rename_i b' h2; cases hs; exact .fn f _ _ a b (RIL.sel m ha h1) (RIL.sel m hb h2)
      · cases hs
    · cases hs
  | _, _, _, .agg cs vs hl, hs => by
    simp only [selI] at hs
    split at hs
    · rename_i a' h1; cases hs; exact .agg _ vs (RIL.sel m hl h1)
    · cases hs
  | _, _, _, .tup cs vs hl, hs => by
    simp only [selI] at hs
    split at hs
    · rename_i a' h1; cases hs; exact .tup _ vs (RIL.sel m hl h1)
    · cases hs
  | _, _, _, .yld l r hd hc, hs => by
    simp only [selI] at hs
    split at hs
    · rename_i i hi
      cases hs
      refine .yld _ r (Sel.dfd m hd hi) fun q ho hk => ?_
      obtain ⟨o, o', g1, g2, g3, g4⟩ := Sel.get (φ := φ) m hi
      rw [g1] at ho; cases ho
      rw [g4]; exact hc o g2 (by rw [← g3.same.1]; exact hk)
    · cases hs
theorem RIL.sel (m : SelH js H js H') : ∀ {p p' : List IV} {v : List Value}, RIL Γ h φ H p v → selL js p = some p' → RIL Γ h (selP φ js) H' p' v
  | _, _, _, .nil, hs => by simp only [selL] at hs; cases hs; exact .nil
  | _, _, _, .cons p v ps vs h1 h2, hs => by
    simp only [selL] at hs
    split at hs
    · rename_i a' g1
      split at hs
      · rename_i b' g2; cases hs; exact .cons _ v _ vs (RI.sel m h1 g1) (RIL.sel m h2 g2)
      · cases hs
    · cases hs
end
theorem ObjOK.sel (m : SelH js H js H') {l i : Nat} {o o' : MObj} (hr : SelO js o o') (hp : selP φ js i = φ l) (hq : ObjOK Γ h φ H l o) : ObjOK Γ h (selP φ js) H' i o' := by
  cases o with
  | hole => cases hr; trivial
  | dead => cases hr; trivial
  | cells cs g =>
    obtain ⟨cs', h1, rfl⟩ := hr
    obtain ⟨arr, t, g1, g2, g3⟩ := hq
    refine ⟨arr, t, by rw [hp]; exact g1, by rw [hp, selL_len h1]; exact g2, fun i iv hi => ?_⟩
    obtain ⟨v0, hv0, hs⟩ := selL_get h1 hi
    obtain ⟨v, hv, hr⟩ := g3 i v0 hv0
    exact ⟨v, by rw [hp]; exact hv, hr.sel m hs⟩
  | map ks vs =>
    cases hr
    obtain ⟨es, clock, g1, g2, g3, g4, g5⟩ := hq
    exact ⟨es, clock, by rw [hp]; exact g1, Sel.rpl m g2, Sel.rpl m g3, g4, g5⟩
  | mapS ks vs bs c =>
    cases hr
    obtain ⟨es, g1, g2, g3, g4⟩ := hq
    exact ⟨es, by rw [hp]; exact g1, Sel.rpl m g2, Sel.rpl m g3, g4⟩
  | iter mm seen c =>
    obtain ⟨j, h1, rfl⟩ := hr
    obtain ⟨r, g1, g2⟩ := hq
    exact ⟨r, by rw [hp]; exact g1, g2.sel m (by simp only [selI, h1])⟩
  | iterP ks vs seen =>
    cases hr
    obtain ⟨r, es, c, ss, g1, g2, g3, g4, g5, g6⟩ := hq
    exact ⟨r, es, c, ss, by rw [hp]; exact g1, g2, fun hh => g3 (hh.imp id (Sel.own m)), Sel.rpl m g4, Sel.rpl m g5, g6⟩
  | loop st R env jj =>
    obtain ⟨env', h1, rfl⟩ := hr
    obtain ⟨r, g1, g2, g3, g4, g5, g6, g7, g8⟩ := hq
    refine ⟨r, by rw [hp]; exact g1, g2, g3, g4, g5, g6, g7, fun t iv ht => ?_⟩
    obtain ⟨v0, hv0, hs⟩ := selE_get h1 ht
    obtain ⟨v, hv, hr⟩ := g8 t v0 hv0
    exact ⟨v, hv, hr.sel m hs⟩
end
theorem Weak.sel {m : Nat} {E E' : Env} {H H' : List MObj} (js : List Nat) (hH : SelH js H js H') (hE : selE js E = some E') (hn : nodupS js = true) (hi : initS H 0 m js = true := by kernel_rfl) : Weak m ⟨E, H⟩ ⟨E', H'⟩ := by
  intro Γ w0 a w hle ⟨φ, h1, h2, h3, h4, h5, h6, h7, h8⟩
  have hnd := nodupS_spec hn
  refine ⟨selP φ js, fun t iv ht => ?_, ⟨fun l o ho => ?_, fun l l' o o' ho ho' hl hl' he => ?_, fun l o ho hl => ?_⟩, h3, ?_, h5, h6, h7, ?_⟩
  · obtain ⟨v0, hv0, hs⟩ := selE_get hE ht
    obtain ⟨v, hv, hr⟩ := h1 t v0 hv0
    exact ⟨v, hv, hr.sel hH hs⟩
  · obtain ⟨j, o0, g1, g2, g3⟩ := SelH_get hH ho
    exact ObjOK.sel hH g3 (selP_at g1) (h2.obj j o0 g2)
  · obtain ⟨j, o0, g1, g2, g3⟩ := SelH_get hH ho
    obtain ⟨j', o1, k1, k2, k3⟩ := SelH_get hH ho'
    rw [selP_at g1, selP_at k1] at he
    have := h2.inj j j' o0 o1 g2 k2 (by rw [← g3.same.2.2.1]; exact hl) (by rw [← k3.same.2.2.1]; exact hl') he
    subst this
    exact nodup_inj hnd g1 k1
  · obtain ⟨j, o0, g1, g2, g3⟩ := SelH_get hH ho
    rw [selP_at g1]; exact h2.lt j o0 g2 (by rw [← g3.same.2.2.1]; exact hl)
  · obtain ⟨bs, g1, g2, g3⟩ := h4
    exact ⟨bs, g1, g2, fun b hb => by obtain ⟨k1, k2, k3, k4⟩ := g3 b hb; exact ⟨k1, k2, fun ho => k3 (Sel.own hH ho), k4⟩⟩
  · refine ⟨h8.size, h8.keep, fun b hb => h8.own b (Sel.own hH hb), h8.shape, fun l o ho hh => ?_⟩
    obtain ⟨o1, q1, q2, q3⟩ := h8.loc l o ho hh
    obtain ⟨j, r1, r2⟩ := initS_spec hi l (Nat.lt_of_lt_of_le (lt_of_lget ho) hle)
    rw [Nat.zero_add] at r2
    rcases r2 with r2 | r2
    · subst r2
      obtain ⟨o2, o', g1, g2, g3⟩ := SelH_get2 hH r1
      rw [q1] at g2; cases g2
      refine ⟨o', g1, fun he => q2 (g3.same.2.2.2.1 he), fun hl => ?_⟩
      obtain ⟨y1, y2, y3, y4⟩ := q3 (by rw [← g3.same.2.2.1]; exact hl)
      exact ⟨y1, by rw [g3.same.1]; exact y2, by rw [g3.same.2.1]; exact y3, fun he => by rw [selP_at r1]; exact y4 (by rw [← g3.same.2.1]; exact he)⟩
    · rw [q1] at r2; cases r2; exact (q2 rfl).elim
theorem sel_row {α : Type} {js : List Nat} {f : α → PV} {L : List α} {g : Nat} : SelO js (.cells (rowI f L) g) (.cells (rowI f L) g) := by
  refine ⟨rowI f L, ?_, rfl⟩
  unfold rowI
  generalize rowP f L = l
  induction l with
  | nil => rfl
  | cons x l ih => simp only [List.map_cons, selL, ih, selI]
theorem sel_x {js : List Nat} {cs cs' : List IV} {g : Nat} (h : selL js cs = some cs') : SelO js (.cells cs g) (.cells cs' g) := ⟨cs', h, rfl⟩
theorem sel_loop {js : List Nat} {st : Nat} {R : Rng} {env env' : Env} {jj : Option Code} (h : selE js env = some env') : SelO js (.loop st R env jj) (.loop st R env' jj) := ⟨env', h, rfl⟩
theorem selH_cons {js : List Nat} {H : List MObj} {j : Nat} {r : List Nat} {o o' : MObj} {r' : List MObj} (h : H[j]? = some o) (h1 : SelO js o o') (h2 : SelH js H r r') : SelH js H (j :: r) (o' :: r') := ⟨⟨o, h, h1⟩, h2⟩
end Go.Idl
set_option linter.unusedSimpArgs false
set_option linter.unusedVariables false
namespace Go.Idl
open Go
def nextOf (b : Code) : Option (Nat × Nat × Nat × Code) := match b with
  | .seq (.region _ ops false) rest => (match ops.toList with
    | [⟨some d0, .next (.tmp ti) false, _, _, _, none⟩, ⟨some d1, .extract (.tmp d2) 0, _, _, _, none⟩] => (match Nat.beq d0 d2 with
      | true => some (ti, d0, d1, rest)
      | false => none)
    | _ => none)
  | _ => none
def nextV : Option (PV × PV) → PV
  | none => .tup [.bool false]
  | some (k, v) => .tup [.bool true, k, v]
def nextB : Option (PV × PV) → Bool
  | none => false
  | some _ => true
def nextE (d0 d1 : Nat) (x : Option (PV × PV)) (E : Env) : Env := setE d1 (.p (.bool (nextB x))) (setE d0 (.p (nextV x)) E)
section
variable {P : Program} {md : Md} {b rest : Code} {σ σ' τ τ' : St} {e : Ex} {Γ : Cx} {w0 : Org} {r : Option Nat} {a : Act} {w : World}
theorem Now.put {f : Nat → Option IV} {H : List MObj} {d : Nat} {iv : IV} {x : Value} (hn : Now Γ w0 f H a w) (hd : d < Γ.nt) (hx : ∀ φ, HOK Γ w.heap φ H → RI Γ w.heap φ H iv x) :
    Now Γ w0 (fun t => match Nat.beq d t with | true => some iv | false => f t) H (a.put (some d) x) w := by
  obtain ⟨φ, h1, h2, h3, h4, h5, h6, h7, h8⟩ := hn
  exact Now.step (d := some d) h1 h3 h4 h5 h6 h7 h8 h2 (Ext.refl _ _ _) (hx φ h2) (WSame.refl w) (fun t ht => by cases ht; exact hd) (fun t => rfl)
theorem WT_next {id : Nat} {ops : Array Oper} {ti d0 d1 : Nat} {Q : Ex → Act → World → Prop} (hb : nextOf (.seq (.region id ops false) rest) = some (ti, d0, d1, rest)) {itv : Value} (hit : a.eval (.tmp ti) = itv) {vs : List Value} {w' : World} {p : Bool}
    (hrun : ∀ ty, (Instr.next itv false ty).run P w = .ok (.tuple ⟨.bool p :: vs⟩) w') (hd0 : d0 < a.tmps.size)
    (hq : Q .normal ((a.put (some d0) (.tuple ⟨.bool p :: vs⟩)).put (some d1) (.bool p)) w') : W P r (.region id ops false) Q a w := by
  unfold nextOf at hb
  simp only at hb
  split at hb
  · rename_i d0' ti' x1 x2 x3 d1' d2' y1 y2 y3 hops
    split at hb
    · rename_i hbeq
      have := Nat.eq_of_beq_eq_true hbeq
      subst this
      simp only [Option.some.injEq, Prod.mk.injEq] at hb
      obtain ⟨rfl, rfl, rfl, _⟩ := hb
      have hsz : ops.size = 2 := by rw [← Array.length_toList, hops]; rfl
      have g0 : ops[0]? = some ⟨some d0', .next (.tmp ti') false, x1, x2, x3, none⟩ := by rw [← Array.getElem?_toList, hops]; rfl
      have g1 : ops[1]? = some ⟨some d1', .extract (.tmp d0') 0, y1, y2, y3, none⟩ := by rw [← Array.getElem?_toList, hops]; rfl
      refine W_region ?_
      rw [hsz]
      intro bb k cs
      refine ⟨.normal, _, w', hq, ?_⟩
      have s0 : step P (lone (atR bb r a ([.inRegion ops (List.range 2)] ++ k)) cs w) = .next (lone (atR bb r (a.put (some d0') (.tuple ⟨.bool p :: vs⟩)) (.inRegion ops [1] :: k)) cs w') :=
        st_op_value (o := ⟨some d0', .next (.tmp ti') false, x1, x2, x3, none⟩) (nx := .value (.tuple ⟨.bool p :: vs⟩)) g0 rfl rfl (by
          simp only [execOp]
          rw [hit]
          exact run_v (hrun _)) rfl
      have s1 : step P (lone (atR bb r (a.put (some d0') (.tuple ⟨.bool p :: vs⟩)) (.inRegion ops [1] :: k)) cs w') = .next (lone (atR bb r ((a.put (some d0') (.tuple ⟨.bool p :: vs⟩)).put (some d1') (.bool p)) (.inRegion ops [] :: k)) cs w') :=
        st_op_value (o := ⟨some d1', .extract (.tmp d0') 0, y1, y2, y3, none⟩) (nx := .value (.bool p)) g1 rfl rfl (by
          simp only [execOp]
          have : (a.put (some d0') (.tuple ⟨.bool p :: vs⟩)).eval (.tmp d0') = .tuple ⟨.bool p :: vs⟩ := by
            simp [Act.eval, Act.put, Array.getD_eq_getD_getElem?, Array.getElem?_setIfInBounds_self_of_lt hd0]
          rw [this]
          exact run_v (by rfl)) rfl
      exact .head s0 (.head s1 (.one st_region_end))
    · cases hb
  · cases hb
theorem SemK.again (h : SemC P md [.code rest] τ .normal τ') (hj : SemJ P md b τ' e σ') : SemC P md [.code rest, .inLoop b] τ e σ' := fun Γ w0 r a w hnt hn => by
  intro bb k cs
  obtain ⟨e1, a1, w1, ⟨rfl, hn1⟩, harr⟩ := h Γ w0 r a w hnt hn bb (.inLoop b :: k) cs
  obtain ⟨e2, a2, w2, hq, harr2⟩ := hj Γ w0 r a1 w1 hnt hn1 bb k cs
  exact ⟨e2, a2, w2, hq, .of_steps (Steps.trans harr (.one st_inLoop)) harr2⟩
theorem SemK.out (h : SemC P md [.code rest] τ e σ') (he : e ≠ .normal) : SemC P md [.code rest, .inLoop b] τ e σ' := fun Γ w0 r a w hnt hn => by
  intro bb k cs
  obtain ⟨e1, a1, w1, ⟨rfl, hn1⟩, harr⟩ := h Γ w0 r a w hnt hn bb (.inLoop b :: k) cs
  cases e1 with
  | normal => exact absurd rfl he
  | exit id => obtain ⟨t, h1, h2⟩ := harr; exact ⟨.exit id, a1, w1, ⟨rfl, hn1⟩, t, by rw [h1]; simp [exitTo], h2⟩
  | ret => obtain ⟨t, h2⟩ := harr; exact ⟨.ret, a1, w1, ⟨rfl, hn1⟩, t, h2⟩
theorem SemJ.of_next {id : Nat} {ops : Array Oper} (hs : ∀ (Γ : Cx) (w0 : Org) (r : Option Nat) (a : Act) (w : World), OKm md Γ w0 r → NowS Γ w0 σ a w →
      W P r (.region id ops false) (fun e1 a1 w1 => e1 = .normal ∧ ∃ τ, SemC P md [.code rest, .inLoop (.seq (.region id ops false) rest)] τ e σ' ∧ NowS Γ w0 τ a1 w1) a w) : SemJ P md (.seq (.region id ops false) rest) σ e σ' := by
  intro Γ w0 r a w hnt hn bb k cs
  obtain ⟨e1, a1, w1, ⟨rfl, τ, ht, hn1⟩, harr⟩ := hs Γ w0 r a w hnt hn bb (.code rest :: .inLoop (.seq (.region id ops false) rest) :: k) cs
  obtain ⟨e2, a2, w2, hq, harr2⟩ := ht Γ w0 r a1 w1 hnt hn1 bb k cs
  exact ⟨e2, a2, w2, hq, .of_steps (.head st_seq harr) harr2⟩
theorem nextOf_form {ti d0 d1 : Nat} (h : nextOf b = some (ti, d0, d1, rest)) : ∃ id ops, b = .seq (.region id ops false) rest := by
  unfold nextOf at h
  split at h
  · split at h
    · split at h
      · simp only [Option.some.injEq, Prod.mk.injEq] at h; obtain ⟨_, _, _, rfl⟩ := h; exact ⟨_, _, rfl⟩
      · cases h
    · cases h
  · cases h
theorem nextE_get {d0 d1 t : Nat} {x : Option (PV × PV)} {E : Env} : lookE t (nextE d0 d1 x E) = match Nat.beq d1 t with | true => some (.p (.bool (nextB x))) | false => (match Nat.beq d0 t with | true => some (.p (nextV x)) | false => lookE t E) := by
  unfold nextE; rw [lookE_setE, lookE_setE]
  all_goals (cases Nat.beq d1 t <;> rfl)
theorem SemJ.next {ti d0 d1 li m c : Nat} {seen bs : List Nat} {ks vs : List PV} (hb : nextOf b = some (ti, d0, d1, rest)) (h0 : Nat.blt d0 md.nt = true) (h1 : Nat.blt d1 md.nt = true) (hi : lookE ti σ.env = some (.iter li)) (hl : σ.heap[li]? = some (.iter m seen c))
    (hm : σ.heap[m]? = some (.mapS ks vs bs c)) (over : (∀ s ∈ bs, s ∈ seen) → SemC P md [.code rest, .inLoop b] ⟨nextE d0 d1 none σ.env, σ.heap⟩ e σ')
    (step : ∀ (j : Nat) (k v : PV) (s : Nat), ks[j]? = some k → vs[j]? = some v → bs[j]? = some s → s ∉ seen → SemC P md [.code rest, .inLoop b] ⟨nextE d0 d1 (some (k, v)) σ.env, σ.heap.set li (.iter m (seen ++ [s]) c)⟩ e σ') : SemJ P md b σ e σ' := by
  obtain ⟨id, ops, rfl⟩ := nextOf_form hb
  refine SemJ.of_next fun Γ w0 r a w hok hn => ?_
  rw [Nat.blt_eq] at h0 h1
  obtain ⟨φ, n1, n2, n3, n4, n5, n6, n7, n8⟩ := hn
  have hnt := hok.nt
  obtain ⟨u, hu, hr⟩ := n1 ti _ hi
  cases hr with
  | iter _ rr hd hc =>
    have := hc _ hl rfl rfl
    subst this
    have hev : a.eval (.tmp ti) = .pointer (some ⟨(φ li).1, 0, none⟩) := by simp [Act.eval, Array.getD_eq_getD_getElem?, hu]
    obtain ⟨mb, g1, g2⟩ := n2.obj li _ hl
    obtain ⟨hmb, es, cc, m1, m2, m3, m4, m5, m6⟩ := map_at n2 hm rfl g2
    cases hmb
    obtain ⟨m7, rfl⟩ := m6 ⟨_, _, _, _, rfl⟩
    have hold : ∀ x ∈ es.toList, x.born < cc := fun x hx => m5 _ (List.mem_map.2 ⟨x, hx, rfl⟩)
    have hsize : d0 < a.tmps.size := by omega
    have hnow : NowS Γ w0 σ a w := ⟨φ, n1, n2, n3, n4, n5, n6, n7, n8⟩
    rcases (by
      by_cases hz : (leftOf es ⟨seen⟩).size = 0
      · left
        exact ⟨hz, fun ty => ((run_next_at (P := P) w ty (φ li).1 (φ m).1 cc cc ⟨seen⟩ es cc g1 m1 hold (Nat.le_refl _)).resolve_right (fun ⟨x, hx, _⟩ => by
          have : (leftOf es ⟨seen⟩).toList.length = 0 := by simpa using hz
          rw [List.eq_nil_of_length_eq_zero this] at hx; cases hx)).2⟩
      · right
        rcases run_next_at (P := P) w 0 (φ li).1 (φ m).1 cc cc ⟨seen⟩ es cc g1 m1 hold (Nat.le_refl _) with ⟨hh, _⟩ | ⟨x, hx, w1, hw1, hrun⟩
        · exact absurd hh hz
        · exact ⟨x, hx, w1, hw1, fun ty => hrun⟩ : ((leftOf es ⟨seen⟩).size = 0 ∧ ∀ ty, (Instr.next (.pointer (some ⟨(φ li).1, 0, none⟩)) false ty).run P w = .ok (.tuple #[.bool false]) w) ∨
        ∃ x ∈ (leftOf es ⟨seen⟩).toList, ∃ w1 : World, (w1 = w ∨ w1 = w.drew) ∧ ∀ ty, (Instr.next (.pointer (some ⟨(φ li).1, 0, none⟩)) false ty).run P w = .ok (.tuple #[.bool true, x.key, x.val]) (ChangeMaps.setBlock w1 (φ li).1 (.mapIter (some (φ m).1) cc ((⟨seen⟩ : Array Nat).push x.born) cc))) with ⟨hz, hrun⟩ | ⟨x, hx, w1, hw1, hrun⟩
    · refine WT_next hb hev (vs := []) hrun hsize ⟨rfl, _, over fun s hs => ?_, ?_⟩
      · rw [← m7, List.mem_map] at hs
        obtain ⟨x, hx, rfl⟩ := hs
        have : (leftOf es ⟨seen⟩).toList.length = 0 := by simpa using hz
        have hnil := List.eq_nil_of_length_eq_zero this
        refine Classical.byContradiction fun hns => ?_
        have : x ∈ (leftOf es ⟨seen⟩).toList := by
          unfold leftOf
          simp only [Array.toList_filter, List.mem_filter]
          exact ⟨hx, by simpa using hns⟩
        rw [hnil] at this; cases this
      · have s1 := Now.put (d := d0) (iv := .p (nextV none)) (x := .tuple ⟨[.bool false]⟩) hnow (by omega) fun φ _ => .p _ _ (.tup _ [.bool false] (.cons _ _ _ _ (.bool _) .nil))
        have s2 := Now.put (d := d1) (iv := .p (.bool false)) (x := .bool false) s1 (by omega) fun φ _ => .p _ _ (.bool _)
        exact s2.mono fun t iv ht => by rw [nextE_get] at ht; exact ht
    · have hx' : x ∈ es.toList ∧ x.born ∉ seen := by
        unfold leftOf at hx
        simp only [Array.toList_filter, List.mem_filter] at hx
        exact ⟨hx.1, by simpa using hx.2⟩
      obtain ⟨j, hj⟩ := List.getElem?_of_mem hx'.1
      have hlenk := RPL.length m2
      have hlenv := RPL.length m3
      simp at hlenk hlenv
      have hjlt := lt_of_lget hj
      simp at hjlt
      obtain ⟨ku, hk1, hk2⟩ := RPL.get m2 j ks[j] (List.getElem?_eq_getElem (by omega))
      obtain ⟨vu, hv1, hv2⟩ := RPL.get m3 j vs[j] (List.getElem?_eq_getElem (by omega))
      rw [List.getElem?_map, hj] at hk1 hv1
      cases hk1; cases hv1
      have hbs : bs[j]? = some x.born := by rw [← m7, List.getElem?_map, hj]; rfl
      refine WT_next hb hev (vs := [x.key, x.val]) hrun hsize ⟨rfl, _, step j _ _ _ (List.getElem?_eq_getElem (by omega)) (List.getElem?_eq_getElem (by omega)) hbs hx'.2, ?_⟩
      have hlt := lt_of_get g1
      obtain ⟨k1, e1⟩ := n2.put (h' := w.heap.setIfInBounds (φ li).1 (.mapIter (some (φ m).1) cc ((⟨seen⟩ : Array Nat).push x.born) cc)) (o' := .iter m (seen ++ [x.born]) cc) (pl := φ li) n3 hl (by simp) rfl (by simp)
        (fun b hb hne => Array.getElem?_setIfInBounds_ne (fun h => hne ⟨rfl, h.symm⟩)) (fun _ arr t fr hc => by rw [g1] at hc; cases hc) (.inl ⟨rfl, rfl⟩) (fun _ => ⟨rfl, Nat.le_refl _, fun _ => rfl⟩)
        (fun e => ⟨(φ m).1, by rw [upd_same, Array.getElem?_setIfInBounds_self_of_lt hlt]; simp, g2.ext e⟩)
      have s1 : Now Γ w0 (fun t => match Nat.beq d0 t with | true => some (.p (nextV (some (ks[j], vs[j])))) | false => lookE t σ.env) (σ.heap.set li (.iter m (seen ++ [x.born]) cc)) (a.put (some d0) (.tuple ⟨.bool true :: [x.key, x.val]⟩)) (ChangeMaps.setBlock w1 (φ li).1 (.mapIter (some (φ m).1) cc ((⟨seen⟩ : Array Nat).push x.born) cc)) := by
        rcases hw1 with rfl | rfl
        · exact Now.step (d := some d0) (φ' := upd φ li (φ li)) n1 n3 n4 n5 n6 n7 n8 k1 e1 (.p _ _ (.tup _ [.bool true, x.key, x.val] (.cons _ _ _ _ (.bool _) (.cons _ _ _ _ (hk2.keeps e1.keeps) (.cons _ _ _ _ (hv2.keeps e1.keeps) .nil))))) ⟨rfl, rfl, rfl⟩ (fun t ht => by cases ht; omega) (fun t => rfl)
        · exact Now.step (d := some d0) (φ' := upd φ li (φ li)) n1 n3 n4 n5 n6 n7 n8 k1 e1 (.p _ _ (.tup _ [.bool true, x.key, x.val] (.cons _ _ _ _ (.bool _) (.cons _ _ _ _ (hk2.keeps e1.keeps) (.cons _ _ _ _ (hv2.keeps e1.keeps) .nil))))) ⟨rfl, rfl, rfl⟩ (fun t ht => by cases ht; omega) (fun t => rfl)
      have s2 := Now.put (d := d1) (iv := .p (.bool true)) (x := .bool true) s1 (by omega) fun φ _ => .p _ _ (.bool _)
      exact s2.mono fun t iv ht => by rw [nextE_get] at ht; exact ht
theorem SemJ.nextP {ti d0 d1 li : Nat} {seen : List Nat} {ks vs : List PV} (hb : nextOf b = some (ti, d0, d1, rest)) (h0 : Nat.blt d0 md.nt = true) (h1 : Nat.blt d1 md.nt = true) (hi : lookE ti σ.env = some (.iter li)) (hl : σ.heap[li]? = some (.iterP ks vs seen))
    (over : (∀ j, j < ks.length → j ∈ seen) → SemC P md [.code rest, .inLoop b] ⟨nextE d0 d1 none σ.env, σ.heap⟩ e σ')
    (step : ∀ (j : Nat) (k v : PV), ks[j]? = some k → vs[j]? = some v → j ∉ seen → SemC P md [.code rest, .inLoop b] ⟨nextE d0 d1 (some (k, v)) σ.env, σ.heap.set li (.iterP ks vs (seen ++ [j]))⟩ e σ') : SemJ P md b σ e σ' := by
  obtain ⟨id, ops, rfl⟩ := nextOf_form hb
  refine SemJ.of_next fun Γ w0 r a w hok hn => ?_
  rw [Nat.blt_eq] at h0 h1
  obtain ⟨φ, n1, n2, n3, n4, n5, n6, n7, n8⟩ := hn
  have hnt := hok.nt
  obtain ⟨u, hu, hr⟩ := n1 ti _ hi
  cases hr with
  | iter _ rr hd hc =>
    have := hc _ hl rfl rfl
    subst this
    have hev : a.eval (.tmp ti) = .pointer (some ⟨(φ li).1, 0, none⟩) := by simp [Act.eval, Array.getD_eq_getD_getElem?, hu]
    obtain ⟨rm, es, cc, ss, g1, m1, mx, m2, m3, m4, hold, m6⟩ := n2.obj li _ hl
    have hsize : d0 < a.tmps.size := by omega
    have hnow : NowS Γ w0 σ a w := ⟨φ, n1, n2, n3, n4, n5, n6, n7, n8⟩
    have hlenk := RPL.length m2
    have hlenv := RPL.length m3
    simp at hlenk hlenv
    have hmem : ∀ j (x : MapEntry), es.toList[j]? = some x → (x.born ∈ ss ↔ j ∈ seen) := by
      intro j x hj
      constructor
      · intro hs
        have : some x.born ∈ ss.map some := List.mem_map.2 ⟨_, hs, rfl⟩
        rw [← m6, List.mem_map] at this
        obtain ⟨i, hi1, hi2⟩ := this
        cases hy : es.toList[i]? with
        | none => rw [hy] at hi2; cases hi2
        | some y =>
          rw [hy] at hi2
          have hyb : y.born = x.born := Option.some.inj hi2
          have e1 : (es.toList.map (·.born))[i]? = some x.born := by rw [List.getElem?_map, hy]; simp [hyb]
          have e2 : (es.toList.map (·.born))[j]? = some x.born := by rw [List.getElem?_map, hj]; rfl
          rw [nodup_inj m4 e2 e1]; exact hi1
      · intro hs
        have : (es.toList[j]?).map (·.born) ∈ seen.map fun i => (es.toList[i]?).map (·.born) := List.mem_map.2 ⟨j, hs, rfl⟩
        rw [m6, hj, List.mem_map] at this
        obtain ⟨y, hy1, hy2⟩ := this
        cases hy2; exact hy1
    rcases (by
      by_cases hz : (leftOf es ⟨ss⟩).size = 0
      · left
        exact ⟨hz, fun ty => ((run_next_at (P := P) w ty (φ li).1 rm cc cc ⟨ss⟩ es cc g1 m1 hold (Nat.le_refl _)).resolve_right (fun ⟨x, hx, _⟩ => by
          have : (leftOf es ⟨ss⟩).toList.length = 0 := by simpa using hz
          rw [List.eq_nil_of_length_eq_zero this] at hx; cases hx)).2⟩
      · right
        rcases run_next_at (P := P) w 0 (φ li).1 rm cc cc ⟨ss⟩ es cc g1 m1 hold (Nat.le_refl _) with ⟨hh, _⟩ | ⟨x, hx, w1, hw1, hrun⟩
        · exact absurd hh hz
        · exact ⟨x, hx, w1, hw1, fun ty => hrun⟩ : ((leftOf es ⟨ss⟩).size = 0 ∧ ∀ ty, (Instr.next (.pointer (some ⟨(φ li).1, 0, none⟩)) false ty).run P w = .ok (.tuple #[.bool false]) w) ∨
        ∃ x ∈ (leftOf es ⟨ss⟩).toList, ∃ w1 : World, (w1 = w ∨ w1 = w.drew) ∧ ∀ ty, (Instr.next (.pointer (some ⟨(φ li).1, 0, none⟩)) false ty).run P w = .ok (.tuple #[.bool true, x.key, x.val]) (ChangeMaps.setBlock w1 (φ li).1 (.mapIter (some rm) cc ((⟨ss⟩ : Array Nat).push x.born) cc))) with ⟨hz, hrun⟩ | ⟨x, hx, w1, hw1, hrun⟩
    · refine WT_next hb hev (vs := []) hrun hsize ⟨rfl, _, over fun j hj => ?_, ?_⟩
      · have : (leftOf es ⟨ss⟩).toList.length = 0 := by simpa using hz
        have hnil := List.eq_nil_of_length_eq_zero this
        refine Classical.byContradiction fun hns => ?_
        have hjl : j < es.toList.length := by simp; omega
        have hj2 := List.getElem?_eq_getElem hjl
        have : es.toList[j] ∈ (leftOf es ⟨ss⟩).toList := by
          unfold leftOf
          simp only [Array.toList_filter, List.mem_filter]
          refine ⟨List.getElem_mem hjl, ?_⟩
          have : es.toList[j].born ∉ ss := fun hh => hns ((hmem j _ hj2).1 hh)
          simpa using this
        rw [hnil] at this; cases this
      · have s1 := Now.put (d := d0) (iv := .p (nextV none)) (x := .tuple ⟨[.bool false]⟩) hnow (by omega) fun φ _ => .p _ _ (.tup _ [.bool false] (.cons _ _ _ _ (.bool _) .nil))
        have s2 := Now.put (d := d1) (iv := .p (.bool false)) (x := .bool false) s1 (by omega) fun φ _ => .p _ _ (.bool _)
        exact s2.mono fun t iv ht => by rw [nextE_get] at ht; exact ht
    · have hx' : x ∈ es.toList ∧ x.born ∉ ss := by
        unfold leftOf at hx
        simp only [Array.toList_filter, List.mem_filter] at hx
        exact ⟨hx.1, by simpa using hx.2⟩
      obtain ⟨j, hj⟩ := List.getElem?_of_mem hx'.1
      have hjlt := lt_of_lget hj
      simp at hjlt
      obtain ⟨ku, hk1, hk2⟩ := RPL.get m2 j ks[j] (List.getElem?_eq_getElem (by omega))
      obtain ⟨vu, hv1, hv2⟩ := RPL.get m3 j vs[j] (List.getElem?_eq_getElem (by omega))
      rw [List.getElem?_map, hj] at hk1 hv1
      cases hk1; cases hv1
      refine WT_next hb hev (vs := [x.key, x.val]) hrun hsize ⟨rfl, _, step j _ _ (List.getElem?_eq_getElem (by omega)) (List.getElem?_eq_getElem (by omega)) (fun hh => hx'.2 ((hmem j x hj).2 hh)), ?_⟩
      have hlt := lt_of_get g1
      obtain ⟨k1, e1⟩ := n2.put (h' := w.heap.setIfInBounds (φ li).1 (.mapIter (some rm) cc ((⟨ss⟩ : Array Nat).push x.born) cc)) (o' := .iterP ks vs (seen ++ [j])) (pl := φ li) n3 hl (by simp) rfl (by simp)
        (fun b hb hne => Array.getElem?_setIfInBounds_ne (fun h => hne ⟨rfl, h.symm⟩)) (fun _ arr t fr hc => by rw [g1] at hc; cases hc) (.inl ⟨rfl, rfl⟩) (fun _ => ⟨rfl, Nat.le_refl _, fun _ => rfl⟩)
        (fun e => by
          obtain ⟨q1, q2⟩ := e.keeps (Γ := Γ) rm _ m1 mx
          exact ⟨rm, es, cc, ss ++ [x.born], by rw [upd_same, Array.getElem?_setIfInBounds_self_of_lt hlt]; simp, q1, q2, m2.keeps e.keeps, m3.keeps e.keeps, m4, hold, by rw [List.map_append, List.map_append, m6]; simp only [List.map_cons, List.map_nil, hj, Option.map_some]⟩)
      have s1 : Now Γ w0 (fun t => match Nat.beq d0 t with | true => some (.p (nextV (some (ks[j], vs[j])))) | false => lookE t σ.env) (σ.heap.set li (.iterP ks vs (seen ++ [j]))) (a.put (some d0) (.tuple ⟨.bool true :: [x.key, x.val]⟩)) (ChangeMaps.setBlock w1 (φ li).1 (.mapIter (some rm) cc ((⟨ss⟩ : Array Nat).push x.born) cc)) := by
        rcases hw1 with rfl | rfl
        · exact Now.step (d := some d0) (φ' := upd φ li (φ li)) n1 n3 n4 n5 n6 n7 n8 k1 e1 (.p _ _ (.tup _ [.bool true, x.key, x.val] (.cons _ _ _ _ (.bool _) (.cons _ _ _ _ (hk2.keeps e1.keeps) (.cons _ _ _ _ (hv2.keeps e1.keeps) .nil))))) ⟨rfl, rfl, rfl⟩ (fun t ht => by cases ht; omega) (fun t => rfl)
        · exact Now.step (d := some d0) (φ' := upd φ li (φ li)) n1 n3 n4 n5 n6 n7 n8 k1 e1 (.p _ _ (.tup _ [.bool true, x.key, x.val] (.cons _ _ _ _ (.bool _) (.cons _ _ _ _ (hk2.keeps e1.keeps) (.cons _ _ _ _ (hv2.keeps e1.keeps) .nil))))) ⟨rfl, rfl, rfl⟩ (fun t ht => by cases ht; omega) (fun t => rfl)
      have s2 := Now.put (d := d1) (iv := .p (.bool true)) (x := .bool true) s1 (by omega) fun φ _ => .p _ _ (.bool _)
      exact s2.mono fun t iv ht => by rw [nextE_get] at ht; exact ht
end
end Go.Idl
set_option linter.unusedSimpArgs false
set_option linter.unusedVariables false
set_option linter.unusedSectionVars false
namespace Go.Idl
open Go
section
variable {K V : Type}
def mapK (f : K → PV) (L : List (K × V)) : List PV := L.map fun p => f p.1
def mapV (g : V → PV) (L : List (K × V)) : List PV := L.map fun p => g p.2
def midx [BEq K] (L : List (K × V)) (k : K) : Nat := L.findIdx fun p => k == p.1
def mhas [BEq K] (L : List (K × V)) (k : K) : Bool := L.any fun p => k == p.1
def mget [BEq K] (L : List (K × V)) (k : K) : Option V := (L[midx L k]?).map (·.2)
def mset [BEq K] (L : List (K × V)) (k : K) (v : V) : List (K × V) := L.set (midx L k) (k, v)
def mdel [BEq K] (L : List (K × V)) (k : K) : List (K × V) := L.eraseIdx (midx L k)
structure KEq [BEq K] (P : Program) (f : K → PV) (t : TypeId) (ok : K → Bool) : Prop where
  eq : ∀ a b, ok a = true → ok b = true → eqPV P 10000 t (f a) (f b) = some (a == b)
  flat : ∀ a, KeyF (f a)
variable {P : Program} {f : K → PV} {g : V → PV} {t : TypeId} {ok : K → Bool} {L : List (K × V)} {k : K} {v : V}
theorem mapK_len (f : K → PV) (L : List (K × V)) : (mapK f L).length = L.length := by simp [mapK]
theorem mapK_at {j : Nat} (f : K → PV) (h : L[j]? = some (k, v)) : (mapK f L)[j]? = some (f k) := by simp [mapK, h]
theorem mapV_at {j : Nat} (g : V → PV) (h : L[j]? = some (k, v)) : (mapV g L)[j]? = some (g v) := by simp [mapV, h]
theorem mapK_snoc (f : K → PV) (L : List (K × V)) (k : K) (v : V) : mapK f L ++ [f k] = mapK f (L ++ [(k, v)]) := by simp [mapK]
theorem mapV_snoc (g : V → PV) (L : List (K × V)) (k : K) (v : V) : mapV g L ++ [g v] = mapV g (L ++ [(k, v)]) := by simp [mapV]
variable [BEq K] [LawfulBEq K]
theorem eqD_of (he : KEq P f t ok) (hk : ok k = true) : EqD P t (f k) := ⟨_, he.eq k k hk hk⟩
theorem find_yes (he : KEq P f t ok) (hk : ok k = true) (hL : ∀ p ∈ L, ok p.1 = true) (h : mhas L k = true) : FindL P t (f k) (mapK f L) 0 (some (midx L k)) := by
  have key : ∀ (L : List (K × V)) (i : Nat), (∀ p ∈ L, ok p.1 = true) → mhas L k = true → FindL P t (f k) (mapK f L) i (some (i + midx L k)) := by
    intro L
    induction L with
    | nil => intro i _ h; simp [mhas] at h
    | cons p L ih =>
      intro i hL h
      have e := he.eq k p.1 hk (hL p (by simp))
      simp only [mapK, List.map_cons, FindL]
      cases hp : (k == p.1) with
      | true =>
        left
        rw [hp] at e
        exact ⟨e, by simp [midx, List.findIdx_cons, hp]⟩
      | false =>
        right
        rw [hp] at e
        refine ⟨e, ?_⟩
        have h' : mhas L k = true := by simpa [mhas, hp] using h
        have := ih (i + 1) (fun q hq => hL q (by simp [hq])) h'
        simp only [midx, List.findIdx_cons, hp, cond_false]
        have e2 : i + (List.findIdx (fun p => k == p.1) L + 1) = i + 1 + midx L k := by simp only [midx]; omega
        rw [e2]; exact this
  have := key L 0 hL h
  rwa [Nat.zero_add] at this
theorem find_no (he : KEq P f t ok) (hk : ok k = true) (hL : ∀ p ∈ L, ok p.1 = true) (h : mhas L k = false) : FindL P t (f k) (mapK f L) 0 none := by
  have key : ∀ (L : List (K × V)) (i : Nat), (∀ p ∈ L, ok p.1 = true) → mhas L k = false → FindL P t (f k) (mapK f L) i none := by
    intro L
    induction L with
    | nil => intro i _ h; rfl
    | cons p L ih =>
      intro i hL h
      have e := he.eq k p.1 hk (hL p (by simp))
      simp only [mhas, List.any_cons, Bool.or_eq_false_iff] at h
      simp only [mapK, List.map_cons, FindL]
      right
      rw [h.1] at e
      exact ⟨e, ih (i + 1) (fun q hq => hL q (by simp [hq])) h.2⟩
  exact key L 0 hL h
theorem midx_lt (h : mhas L k = true) : midx L k < L.length := by
  unfold midx
  refine List.findIdx_lt_length_of_exists ?_
  simp only [mhas, List.any_eq_true] at h
  exact h
theorem midx_key (h : mhas L k = true) : ∃ v, L[midx L k]? = some (k, v) := by
  have hlt := midx_lt h
  have : (k == (L[midx L k]).1) = true := @List.findIdx_getElem (K × V) (fun p : K × V => k == p.1) L hlt
  refine ⟨(L[midx L k]).2, ?_⟩
  rw [List.getElem?_eq_getElem hlt]
  have e : k = (L[midx L k]).1 := by simpa using this
  congr 1
  exact Prod.ext e.symm rfl
theorem key_at (f : K → PV) (h : mhas L k = true) : (mapK f L)[midx L k]? = some (f k) := by
  obtain ⟨v, hv⟩ := midx_key h; exact mapK_at f hv
theorem val_at (g : V → PV) (h : mget L k = some v) : (mapV g L)[midx L k]? = some (g v) := by
  unfold mget at h
  cases hl : L[midx L k]? with
  | none => rw [hl] at h; cases h
  | some p => rw [hl] at h; cases h; exact mapV_at (k := p.1) g hl
theorem mapK_set (f : K → PV) (v : V) (h : mhas L k = true) : mapK f L = mapK f (mset L k v) := by
  obtain ⟨u, hu⟩ := midx_key h
  unfold mapK mset
  apply List.ext_getElem?
  intro i
  rw [List.getElem?_map, List.getElem?_map, List.getElem?_set]
  split
  · rename_i hi; subst hi; rw [hu, if_pos (midx_lt h)]; rfl
  · rfl
theorem mapV_set (g : V → PV) (L : List (K × V)) (k : K) (v : V) : (mapV g L).set (midx L k) (g v) = mapV g (mset L k v) := by
  unfold mapV mset; rw [List.map_set]
theorem mapK_del (f : K → PV) (L : List (K × V)) (k : K) : (mapK f L).eraseIdx (midx L k) = mapK f (mdel L k) := by
  unfold mapK mdel
  induction L generalizing k with
  | nil => rfl
  | cons p L ih =>
    simp only [midx, List.findIdx_cons]
    cases (k == p.1) with
    | true => rfl
    | false => simp only [cond_false, List.map_cons, List.eraseIdx_cons_succ]; congr 1; exact ih k
theorem mapV_del (g : V → PV) (L : List (K × V)) (k : K) : (mapV g L).eraseIdx (midx L k) = mapV g (mdel L k) := by
  unfold mapV mdel
  induction L generalizing k with
  | nil => rfl
  | cons p L ih =>
    simp only [midx, List.findIdx_cons]
    cases (k == p.1) with
    | true => rfl
    | false => simp only [cond_false, List.map_cons, List.eraseIdx_cons_succ]; congr 1; exact ih k
end
section
variable {K V : Type} {L : List (K × V)} {k : K} {v : V}
def FlatL : List PV → Prop
  | [] => True
  | c :: r => ((∃ kk n, c = .int kk n) ∨ (∃ b, c = .bool b)) ∧ FlatL r
theorem FlatL.mem : ∀ {cs : List PV}, FlatL cs → ∀ c ∈ cs, (∃ kk n, c = .int kk n) ∨ (∃ b, c = .bool b)
  | [], _, c, h => by cases h
  | _ :: _, hf, c, h => by
    cases h with
    | head => exact hf.1
    | tail _ h => exact FlatL.mem hf.2 c h
theorem keyF_of {k : PV} (cs : List PV) (h : k.cells = cs) (hf : FlatL cs) : KeyF k := by intro c hc; rw [h] at hc; exact hf.mem c hc
theorem last_snoc {x : List Nat} {st : Nat} : (x ++ [st]).getLast? = some st := by simp
end
section
variable {K V S R : Type}
def mfold (body : K → V → S → Option (S ⊕ R)) (fin : S → Option R) : List (K × V) → S → Option R
  | [], s => fin s
  | (k, v) :: r, s => obind (body k v s) fun o => match o with | .inl s' => mfold body fin r s' | .inr x => some x
def leftM (L : List (K × V)) (B seen : List Nat) : List (K × V) := ((L.zip B).filter fun x => !seen.contains x.2).map (·.1)
structure WFm (L : List (K × V)) (B seen : List Nat) (items : List (K × V)) : Prop where
  len : B.length = L.length
  nb : B.Nodup
  nk : (L.map (·.1)).Nodup
  perm : items.Perm (leftM L B seen)
def Stp [BEq K] (k : K) (L : List (K × V)) (B : List Nat) (L' : List (K × V)) (B' : List Nat) : Prop := (L' = L ∧ B' = B) ∨ (L' = mdel L k ∧ B' = B.eraseIdx (midx L k))
theorem zip_pick {α : Type} : ∀ (Z : List (α × Nat)) (seen : List Nat) (j : Nat) (x : α) (s : Nat), (Z.map (·.2)).Nodup → Z[j]? = some (x, s) → s ∉ seen →
    (Z.filter fun z => !seen.contains z.2).Perm ((x, s) :: Z.filter fun z => !(seen ++ [s]).contains z.2)
  | [], seen, j, x, s, _, h, _ => by simp at h
  | z :: Z, seen, j, x, s, hn, h, hs => by
    simp only [List.map_cons, List.nodup_cons] at hn
    cases j with
    | zero =>
      simp at h; subst h
      have e1 : (Z.filter fun z => !(seen ++ [s]).contains z.2) = Z.filter fun z => !seen.contains z.2 := by
        apply List.filter_congr
        intro y hy
        have : y.2 ≠ s := fun he => hn.1 (by simp only; rw [← he]; exact List.mem_map.2 ⟨y, hy, rfl⟩)
        simp [this]
      rw [List.filter_cons, List.filter_cons, if_pos (by simpa using hs), if_neg (by simp), e1]
    | succ j =>
      simp only [List.getElem?_cons_succ] at h
      have ih := zip_pick Z seen j x s hn.2 h hs
      have hne : z.2 ≠ s := fun he => hn.1 (by rw [he]; exact List.mem_map.2 ⟨(x, s), List.mem_of_getElem? h, rfl⟩)
      rw [List.filter_cons, List.filter_cons]
      by_cases hz : z.2 ∈ seen
      · rw [if_neg (by simpa using hz), if_neg (by simp [hz])]; exact ih
      · rw [if_pos (by simpa using hz), if_pos (by simp [hz, hne])]
        exact (List.Perm.cons z ih).trans (List.Perm.swap _ _ _)
theorem leftM_pick {L : List (K × V)} {B seen items : List Nat} {j s : Nat} {x : K × V} (hb : B.Nodup) (hlen : B.length = L.length) (hj : L[j]? = some x) (hB : B[j]? = some s) (hs : s ∉ seen) :
    (leftM L B seen).Perm (x :: leftM L B (seen ++ [s])) := by
  unfold leftM
  have hz : (L.zip B)[j]? = some (x, s) := by rw [List.getElem?_zip_eq_some]; exact ⟨hj, hB⟩
  have hn : ((L.zip B).map (·.2)).Nodup := by
    rw [show (L.zip B).map (fun x => x.2) = B from by rw [List.map_snd_zip (by omega)]]; exact hb
  exact (zip_pick _ seen j x s hn hz hs).map (·.1)
theorem filter_erase {α : Type} (p : α → Bool) : ∀ (l : List α) (j : Nat) (x : α), l[j]? = some x → p x = false → (l.eraseIdx j).filter p = l.filter p
  | [], j, x, h, _ => by simp at h
  | y :: l, 0, x, h, hp => by simp at h; subst h; simp [hp]
  | y :: l, j + 1, x, h, hp => by
    simp only [List.getElem?_cons_succ] at h
    rw [List.eraseIdx_cons_succ, List.filter_cons, List.filter_cons, filter_erase p l j x h hp]
theorem zip_erase {α β : Type} : ∀ (l : List α) (m : List β) (j : Nat), l.length = m.length → (l.eraseIdx j).zip (m.eraseIdx j) = (l.zip m).eraseIdx j
  | [], [], _, _ => rfl
  | [], _ :: _, _, h => by simp at h
  | _ :: _, [], _, h => by simp at h
  | x :: l, y :: m, 0, _ => rfl
  | x :: l, y :: m, j + 1, h => by simp [zip_erase l m j (by simpa using h)]
theorem nodupA_inj {α : Type} : ∀ {js : List α} {l l' : Nat} {j : α}, js.Nodup → js[l]? = some j → js[l']? = some j → l = l'
  | [], l, l', j, _, h, _ => by simp at h
  | x :: r, 0, 0, j, _, _, _ => rfl
  | x :: r, 0, l' + 1, j, hn, h, h' => by
    have e : x = j := by simpa using h
    have h2 : r[l']? = some j := by simpa using h'
    exact absurd (e ▸ List.mem_of_getElem? h2) (List.nodup_cons.1 hn).1
  | x :: r, l + 1, 0, j, hn, h, h' => by
    have e : x = j := by simpa using h'
    have h2 : r[l]? = some j := by simpa using h
    exact absurd (e ▸ List.mem_of_getElem? h2) (List.nodup_cons.1 hn).1
  | x :: r, l + 1, l' + 1, j, hn, h, h' => by
    have h1 : r[l]? = some j := by simpa using h
    have h2 : r[l']? = some j := by simpa using h'
    have := nodupA_inj (List.nodup_cons.1 hn).2 h1 h2
    omega
theorem Stp.left [BEq K] [LawfulBEq K] {k : K} {v : V} {L L' : List (K × V)} {B B' seen : List Nat} {j s : Nat} (hst : Stp k L B L' B') (hlen : B.length = L.length) (hb : B.Nodup) (hk : (L.map (·.1)).Nodup) (hj : L[j]? = some (k, v)) (hB : B[j]? = some s) (hs : s ∈ seen) :
    B'.length = L'.length ∧ B'.Nodup ∧ (L'.map (·.1)).Nodup ∧ leftM L' B' seen = leftM L B seen := by
  rcases hst with ⟨rfl, rfl⟩ | ⟨rfl, rfl⟩
  · exact ⟨hlen, hb, hk, rfl⟩
  · have hhas : mhas L k = true := by simp only [mhas, List.any_eq_true]; exact ⟨(k, v), List.mem_of_getElem? hj, by simp⟩
    obtain ⟨u, hu⟩ := midx_key hhas
    have e1 : (L.map (·.1))[midx L k]? = some k := by rw [List.getElem?_map, hu]; rfl
    have e2 : (L.map (·.1))[j]? = some k := by rw [List.getElem?_map, hj]; rfl
    have hij : midx L k = j := nodupA_inj hk e1 e2
    unfold mdel
    rw [hij]
    refine ⟨?_, hb.sublist (List.eraseIdx_sublist _ _), ?_, ?_⟩
    · rw [List.length_eraseIdx, List.length_eraseIdx, hlen]
    · exact hk.sublist ((List.eraseIdx_sublist L j).map _)
    · unfold leftM
      rw [zip_erase L B j hlen.symm, filter_erase _ _ j ((k, v), s) (by rw [List.getElem?_zip_eq_some]; exact ⟨hj, hB⟩) (by simpa using hs)]
variable [BEq K] [LawfulBEq K] {P : Program} {md : Md} {b rest : Code} {ek : K → PV} {ev : V → PV} {ti d0 d1 li m c : Nat}
end
end Go.Idl
namespace Go.Idl
section
variable {K V : Type} [BEq K] [LawfulBEq K] {L : List (K × V)} {k : K} {v : V}
end
end Go.Idl
