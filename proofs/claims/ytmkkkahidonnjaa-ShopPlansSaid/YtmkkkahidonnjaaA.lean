/-
  Part A of a proof: the framework: an evaluator of straight code and loops, and its soundness.
-/
import GoSem.Step
import Derived.Calls
import Derived.ChangeKeysEq
import Derived.Laws.StructEq
import Derived.Laws.Tables
import Derived.Laws.MakeOwn
import Derived.Deep.AppendSrc
import Derived.Laws.World
namespace Go.Idl
open Go
inductive PV where
  | bool (b : Bool)
  | int (k : IntKind) (n : Int)
  | str (s : List UInt8)
  | nilp
  | ref (cs : List PV)
  | nilsl
  | sl (xs : List PV) (x : Bool)
  | sle (x : Bool)
  | nilmap
  | map (ks vs : List PV)
  | fn (f : FuncId) (first captured : List PV)
  | nilfn
  | agg (cs : List PV)
  | tup (vs : List PV)
  | junk
  deriving Inhabited
inductive IV where
  | p (v : PV)
  | ptr (l off sz : Nat)
  | msl (l off len sz : Nat) (x : Bool)
  | mmap (l : Nat)
  | iter (l : Nat)
  | fn (f : FuncId) (first captured : List IV)
  | agg (cs : List IV)
  | tup (vs : List IV)
  | yld (l : Nat)
  deriving Inhabited
structure Rng where
  ps : List Nat
  assign : Code
  body : Code
  nt : Nat
  deriving Inhabited
inductive MObj where
  | hole
  | dead
  | cells (cs : List IV) (g : Nat)
  | map (ks vs : List PV)
  | mapS (ks vs : List PV) (bs : List Nat) (c : Nat)
  | iter (m : Nat) (seen : List Nat) (c : Nat)
  | iterP (ks vs : List PV) (seen : List Nat)
  | loop (st : Nat) (R : Rng) (env : List (Nat × IV)) (j : Option Code)
  deriving Inhabited
abbrev Env := List (Nat × IV)
structure St where
  env : Env
  heap : List MObj
def PV.cells : PV → List PV
  | .agg cs => cs
  | v => [v]
def IV.cells : IV → List IV
  | .p v => v.cells.map .p
  | .agg cs => cs
  | v => [v]
def allP : List IV → Option (List PV)
  | [] => some []
  | .p v :: r => match allP r with | some l => some (v :: l) | none => none
  | _ :: _ => none
def mkAgg (cs : List IV) : IV := match allP cs with | some l => .p (.agg l) | none => .agg cs
def mkFn (f : FuncId) (a b : List IV) : IV := match allP a, allP b with | some x, some y => .p (.fn f x y) | _, _ => .fn f a b
def lookE (t : Nat) : Env → Option IV
  | [] => none
  | (u, v) :: r => match Nat.beq u t with | true => some v | false => lookE t r
def setE (t : Nat) (v : IV) : Env → Env
  | [] => [(t, v)]
  | (u, w) :: r => match Nat.beq u t with | true => (t, v) :: r | false => (u, w) :: setE t v r
def setD (d : Option Nat) (v : IV) (e : Env) : Env := match d with | some t => setE t v e | none => e
def prune (e : Env) : List Nat → Env
  | [] => []
  | t :: ts => match lookE t e with | some v => (t, v) :: prune e ts | none => prune e ts
def slGet (xs : List PV) (i : Int) : Option PV := if 0 ≤ i then xs[i.toNat]? else none
def seq (a b : List UInt8) : Bool := a == b
inductive Cl where
  | a
  | iv (v : IV)
  | b (d : Bool)
  | n (i : Int)
  | cs (l : List IV)
  | call (r : PV)
  | cw (l : List PV) (r : PV)
  | bor (kill : List Nat) (l : List PV) (r : PV)
  | ci (v : IV) (wr : List (Nat × MObj))
  | imm
  | ap (cs : List IV) (len sz : Nat)
  | pvs (l : List PV)
  | mp (i : Int) (ks vs : List PV) (bs : List Nat) (c : Nat) (v : PV)
  | alt (l : Nat) (o : MObj) (j : Nat) (c1 c2 : Cl)
inductive Eff where
  | none
  | new (o : MObj)
  | set (l : Nat) (o : MObj)
abbrev OR := Option (IV × Eff × List Prop)
def tdesc (P : Program) (t : TypeId) : TypeDesc := match P.underlying t with | some d => d | none => .invalid
def isAggT (P : Program) (t : TypeId) : Bool := match tdesc P t with | .struct _ => true | .array _ _ => true | _ => false
def constS : Value → Option PV
  | .bool b => some (.bool b)
  | .int k n => some (.int k n)
  | .string s => some (.str s.data.toList)
  | .pointer none => some .nilp
  | .slice none 0 0 => some .nilsl
  | .map none => some .nilmap
  | .nilFunc => some .nilfn
  | _ => none
def constL : List Value → Option (List PV)
  | [] => some []
  | v :: r => match constS v, constL r with | some a, some l => some (a :: l) | _, _ => none
def constV : Value → Option PV
  | .agg cs => match constL cs.toList with | some l => some (.agg l) | none => none
  | v => constS v
def tzero (P : Program) (t : TypeId) : Option PV := match P.info? t with | some i => (match i.zero with | some v => constV v | none => none) | none => none
def opnd (e : Env) : Operand → Option IV
  | .tmp t => lookE t e
  | .const v => match constV v with | some x => some (.p x) | none => none
  | .func f => some (.p (.fn f [] []))
  | .global _ => none
def opnds (e : Env) : List Operand → Option (List IV)
  | [] => some []
  | o :: r => match opnd e o, opnds e r with | some v, some l => some (v :: l) | _, _ => none
def putCells (cs : List IV) (off : Nat) : List IV → List IV
  | [] => cs
  | v :: r => putCells (cs.set off v) (off + 1) r
end Go.Idl
namespace Go.Idl
open Go
abbrev Hp := Array Obj
abbrev Plc := Nat → Nat × Nat
def ReadsAt (h : Hp) (a : Addr) (vs : List Value) : Prop :=
  a.spot = none ∧ ∃ arr t fr, h[a.block]? = some (.cells arr t fr) ∧ ∀ i v, vs[i]? = some v → arr[a.off + i]? = some v
mutual
inductive RP (h : Hp) (X : Nat → Prop) : PV → Value → Prop
  | bool (b : Bool) : RP h X (.bool b) (.bool b)
  | int (k : IntKind) (n : Int) : RP h X (.int k n) (.int k n)
  | str (s : List UInt8) : RP h X (.str s) (.string ⟨⟨s⟩⟩)
  | nilp : RP h X .nilp (.pointer none)
  | ref (cs : List PV) (a : Addr) (vs : List Value) (hr : ReadsAt h a vs) (hx : ¬ X a.block) (hl : RPL h X cs vs) : RP h X (.ref cs) (.pointer (some a))
  | nilsl : RP h X .nilsl (.slice none 0 0)
  | sl (xs : List PV) (x : Bool) (a : Addr) (cap es : Nat) (vs : List Value) (hr : ReadsAt h a vs) (hx : ¬ X a.block) (hl : RPL h X (xs.flatMap PV.cells) vs)
      (he : ∀ y ∈ xs, y.cells.length = es) (hc : xs.length ≤ cap) (hxc : x = true → cap = xs.length) : RP h X (.sl xs x) (.slice (some a) xs.length cap)
  | sl0 (x : Bool) : RP h X (.sl [] x) (.slice none 0 0)
  | sle (x : Bool) (a : Addr) (cap : Nat) (hr : ReadsAt h a []) (hx : ¬ X a.block) (hxc : x = true → cap = 0) : RP h X (.sle x) (.slice (some a) 0 cap)
  | nilmap : RP h X .nilmap (.map none)
  | map (ks vs : List PV) (r : Nat) (es : Array MapEntry) (clock : Nat) (hr : h[r]? = some (.map es clock)) (hx : ¬ X r)
      (hk : RPL h X ks (es.toList.map (·.key))) (hv : RPL h X vs (es.toList.map (·.val))) (hn : (es.toList.map (·.born)).Nodup) (hb : ∀ e ∈ es.toList, e.born < clock) :
      RP h X (.map ks vs) (.map (some r))
  | fn (f : FuncId) (first cap : List PV) (a b : List Value) (ha : RPL h X first a) (hb : RPL h X cap b) : RP h X (.fn f first cap) (.func (.func f) ⟨a⟩ ⟨b⟩)
  | nilfn : RP h X .nilfn .nilFunc
  | agg (cs : List PV) (vs : List Value) (hl : RPL h X cs vs) : RP h X (.agg cs) (.agg ⟨vs⟩)
  | tup (cs : List PV) (vs : List Value) (hl : RPL h X cs vs) : RP h X (.tup cs) (.tuple ⟨vs⟩)
  | junk (v : Value) : RP h X .junk v
inductive RPL (h : Hp) (X : Nat → Prop) : List PV → List Value → Prop
  | nil : RPL h X [] []
  | cons (p : PV) (v : Value) (ps : List PV) (vs : List Value) (h1 : RP h X p v) (h2 : RPL h X ps vs) : RPL h X (p :: ps) (v :: vs)
end
def Keeps (h : Hp) (X : Nat → Prop) (h' : Hp) (X' : Nat → Prop) : Prop := ∀ b o, h[b]? = some o → ¬ X b → h'[b]? = some o ∧ ¬ X' b
theorem ReadsAt.keeps {h : Hp} {X : Nat → Prop} {h' : Hp} {X' : Nat → Prop} (k : Keeps h X h' X') {a : Addr} {vs : List Value} (hr : ReadsAt h a vs) (hx : ¬ X a.block) : ReadsAt h' a vs ∧ ¬ X' a.block := by
  obtain ⟨hs, arr, t, fr, hb, hv⟩ := hr
  obtain ⟨h1, h2⟩ := k _ _ hb hx
  exact ⟨⟨hs, arr, t, fr, h1, hv⟩, h2⟩
mutual
theorem RP.keeps {h : Hp} {X : Nat → Prop} {h' : Hp} {X' : Nat → Prop} (k : Keeps h X h' X') : ∀ {p : PV} {v : Value}, RP h X p v → RP h' X' p v
  | _, _, .bool b => .bool b
  | _, _, .int a n => .int a n
  | _, _, .str s => .str s
  | _, _, .nilp => .nilp
  | _, _, .ref cs a vs hr hx hl => .ref cs a vs (hr.keeps k hx).1 (hr.keeps k hx).2 (RPL.keeps k hl)
  | _, _, .nilsl => .nilsl
  | _, _, .sl xs x a cap es vs hr hx hl he hc hxc => .sl xs x a cap es vs (hr.keeps k hx).1 (hr.keeps k hx).2 (RPL.keeps k hl) he hc hxc
  | _, _, .sl0 x => .sl0 x
  | _, _, .sle x a cap hr hx hxc => .sle x a cap (hr.keeps k hx).1 (hr.keeps k hx).2 hxc
  | _, _, .nilmap => .nilmap
  | _, _, .map ks vs r es clock hr hx hk hv hn hb => .map ks vs r es clock (k _ _ hr hx).1 (k _ _ hr hx).2 (RPL.keeps k hk) (RPL.keeps k hv) hn hb
  | _, _, .fn f first cap a b ha hb => .fn f first cap a b (RPL.keeps k ha) (RPL.keeps k hb)
  | _, _, .nilfn => .nilfn
  | _, _, .agg cs vs hl => .agg cs vs (RPL.keeps k hl)
  | _, _, .tup cs vs hl => .tup cs vs (RPL.keeps k hl)
  | _, _, .junk v => .junk v
theorem RPL.keeps {h : Hp} {X : Nat → Prop} {h' : Hp} {X' : Nat → Prop} (k : Keeps h X h' X') : ∀ {p : List PV} {v : List Value}, RPL h X p v → RPL h' X' p v
  | _, _, .nil => .nil
  | _, _, .cons p v ps vs h1 h2 => .cons p v ps vs (RP.keeps k h1) (RPL.keeps k h2)
end
theorem RPL.length {h : Hp} {X : Nat → Prop} : ∀ {ps : List PV} {vs : List Value}, RPL h X ps vs → ps.length = vs.length
  | _, _, .nil => rfl
  | _, _, .cons _ _ _ _ _ h2 => by simp [RPL.length h2]
theorem RPL.get {h : Hp} {X : Nat → Prop} : ∀ {ps : List PV} {vs : List Value}, RPL h X ps vs → ∀ (i : Nat) (p : PV), ps[i]? = some p → ∃ v, vs[i]? = some v ∧ RP h X p v
  | _, _, .nil, i, p, hp => by simp at hp
  | _, _, .cons p' v ps vs h1 h2, 0, p, hp => by simp at hp; subst hp; exact ⟨v, rfl, h1⟩
  | _, _, .cons p' v ps vs h1 h2, i + 1, p, hp => by
    simp only [List.getElem?_cons_succ] at hp
    obtain ⟨u, hu, hr⟩ := RPL.get h2 i p hp
    exact ⟨u, by simpa using hu, hr⟩
theorem RPL.append {h : Hp} {X : Nat → Prop} : ∀ {ps : List PV} {vs : List Value} {qs : List PV} {us : List Value}, RPL h X ps vs → RPL h X qs us → RPL h X (ps ++ qs) (vs ++ us)
  | _, _, _, _, .nil, h2 => h2
  | _, _, _, _, .cons p v ps vs h1 h3, h2 => .cons p v _ _ h1 (RPL.append h3 h2)
theorem RPL.drop {h : Hp} {X : Nat → Prop} : ∀ (n : Nat) {ps : List PV} {vs : List Value}, RPL h X ps vs → RPL h X (ps.drop n) (vs.drop n)
  | 0, _, _, hh => by simpa using hh
  | _ + 1, _, _, .nil => by simpa using RPL.nil
  | n + 1, _, _, .cons p v ps vs h1 h2 => by simpa using RPL.drop n h2
theorem RPL.take {h : Hp} {X : Nat → Prop} : ∀ (n : Nat) {ps : List PV} {vs : List Value}, RPL h X ps vs → RPL h X (ps.take n) (vs.take n)
  | 0, _, _, _ => by simpa using RPL.nil
  | _ + 1, _, _, .nil => by simpa using RPL.nil
  | n + 1, _, _, .cons p v ps vs h1 h2 => by simpa using RPL.cons p v _ _ h1 (RPL.take n h2)
def MObj.live : MObj → Bool
  | .hole => false
  | .dead => false
  | _ => true
def MObj.kind : MObj → Nat × Nat
  | .hole => (0, 0)
  | .dead => (1, 0)
  | .cells _ g => (2, g)
  | .map _ _ => (3, 0)
  | .mapS _ _ _ _ => (3, 0)
  | .iter _ _ _ => (4, 0)
  | .iterP _ _ _ => (5, 0)
  | .loop _ _ _ _ => (6, 0)
def MObj.csize : MObj → Nat
  | .cells cs _ => cs.length
  | _ => 0
theorem MObj.kind_cells {o : MObj} {g : Nat} (h : o.kind = (2, g)) : ∃ cs, o = .cells cs g := by
  cases o <;> simp [MObj.kind] at h
  case cells cs g' => subst h; exact ⟨cs, rfl⟩
def Own (φ : Plc) (H : List MObj) (b : Nat) : Prop := ∃ l o, H[l]? = some o ∧ o.live = true ∧ (φ l).1 = b
structure Cx where
  X : Nat → Prop
  n0 : Nat
  nt : Nat
def Def (H : List MObj) (l : Nat) : Prop := ∃ o, H[l]? = some o ∧ o ≠ .hole
mutual
inductive RI (Γ : Cx) (h : Hp) (φ : Plc) (H : List MObj) : IV → Value → Prop
  | p (v : PV) (x : Value) (hp : RP h (fun b => Γ.X b ∨ Own φ H b) v x) : RI Γ h φ H (.p v) x
  | ptr (l off sz : Nat) (a : Addr) (hd : Def H l)
      (hc : ∀ cs g, H[l]? = some (.cells cs g) → sz ≤ cs.length ∧ (cs.length = sz → a = ⟨(φ l).1, (φ l).2 + off, none⟩)) : RI Γ h φ H (.ptr l off sz) (.pointer (some a))
  | msl (l off len sz : Nat) (x : Bool) (a : Addr) (cap : Nat) (hd : Def H l)
      (hc : ∀ cs g, H[l]? = some (.cells cs g) → sz ≤ cs.length ∧ (cs.length = sz → a = ⟨(φ l).1, (φ l).2 + off, none⟩ ∧
        (0 < g → ∃ arr t fr, h[(φ l).1]? = some (.cells arr t fr) ∧ a.off + cap * g ≤ arr.size ∧ (x = false → sz ≤ off + cap * g))))
      (hle : len ≤ cap) (hx : x = true → cap = len) : RI Γ h φ H (.msl l off len sz x) (.slice (some a) len cap)
  | mmap (l r : Nat) (hd : Def H l) (hc : ∀ o, H[l]? = some o → o.kind = (3, 0) → r = (φ l).1) : RI Γ h φ H (.mmap l) (.map (some r))
  | iter (l r : Nat) (hd : Def H l) (hc : ∀ o, H[l]? = some o → o.live = true → o.csize = 0 → r = (φ l).1) : RI Γ h φ H (.iter l) (.pointer (some ⟨r, 0, none⟩))
  | fn (f : FuncId) (first cap : List IV) (a b : List Value) (ha : RIL Γ h φ H first a) (hb : RIL Γ h φ H cap b) : RI Γ h φ H (.fn f first cap) (.func (.func f) ⟨a⟩ ⟨b⟩)
  | agg (cs : List IV) (vs : List Value) (hl : RIL Γ h φ H cs vs) : RI Γ h φ H (.agg cs) (.agg ⟨vs⟩)
  | tup (cs : List IV) (vs : List Value) (hl : RIL Γ h φ H cs vs) : RI Γ h φ H (.tup cs) (.tuple ⟨vs⟩)
  | yld (l r : Nat) (hd : Def H l) (hc : ∀ o, H[l]? = some o → o.kind = (6, 0) → r = (φ l).1) : RI Γ h φ H (.yld l) (.func (.yield r) #[] #[])
inductive RIL (Γ : Cx) (h : Hp) (φ : Plc) (H : List MObj) : List IV → List Value → Prop
  | nil : RIL Γ h φ H [] []
  | cons (p : IV) (v : Value) (ps : List IV) (vs : List Value) (h1 : RI Γ h φ H p v) (h2 : RIL Γ h φ H ps vs) : RIL Γ h φ H (p :: ps) (v :: vs)
end
theorem RIL.length {Γ : Cx} {h : Hp} {φ : Plc} {H : List MObj} : ∀ {ps : List IV} {vs : List Value}, RIL Γ h φ H ps vs → ps.length = vs.length
  | _, _, .nil => rfl
  | _, _, .cons _ _ _ _ _ h2 => by simp [RIL.length h2]
theorem RIL.get {Γ : Cx} {h : Hp} {φ : Plc} {H : List MObj} : ∀ {ps : List IV} {vs : List Value}, RIL Γ h φ H ps vs → ∀ (i : Nat) (p : IV), ps[i]? = some p → ∃ v : Value, vs[i]? = some v ∧ RI Γ h φ H p v
  | _, _, .nil, i, p, hp => by simp at hp
  | _, _, .cons p' v ps vs h1 h2, 0, p, hp => by simp at hp; subst hp; exact ⟨v, rfl, h1⟩
  | _, _, .cons p' v ps vs h1 h2, i + 1, p, hp => by
    simp only [List.getElem?_cons_succ] at hp
    obtain ⟨u, hu, hr⟩ := RIL.get h2 i p hp
    exact ⟨u, by simpa using hu, hr⟩
theorem RIL.append {Γ : Cx} {h : Hp} {φ : Plc} {H : List MObj} : ∀ {ps : List IV} {vs : List Value} {qs : List IV} {us : List Value}, RIL Γ h φ H ps vs → RIL Γ h φ H qs us → RIL Γ h φ H (ps ++ qs) (vs ++ us)
  | _, _, _, _, .nil, h2 => h2
  | _, _, _, _, .cons p v ps vs h1 h3, h2 => .cons p v _ _ h1 (RIL.append h3 h2)
theorem RIL.drop {Γ : Cx} {h : Hp} {φ : Plc} {H : List MObj} : ∀ (n : Nat) {ps : List IV} {vs : List Value}, RIL Γ h φ H ps vs → RIL Γ h φ H (ps.drop n) (vs.drop n)
  | 0, _, _, hh => by simpa using hh
  | _ + 1, _, _, .nil => by simpa using RIL.nil
  | n + 1, _, _, .cons p v ps vs h1 h2 => by simpa using RIL.drop n h2
theorem RIL.take {Γ : Cx} {h : Hp} {φ : Plc} {H : List MObj} : ∀ (n : Nat) {ps : List IV} {vs : List Value}, RIL Γ h φ H ps vs → RIL Γ h φ H (ps.take n) (vs.take n)
  | 0, _, _, _ => by simpa using RIL.nil
  | _ + 1, _, _, .nil => by simpa using RIL.nil
  | n + 1, _, _, .cons p v ps vs h1 h2 => by simpa using RIL.cons p v _ _ h1 (RIL.take n h2)
theorem RIL.of_get {Γ : Cx} {h : Hp} {φ : Plc} {H : List MObj} : ∀ (ps : List IV) (vs : List Value), ps.length = vs.length → (∀ (i : Nat) (p : IV) (v : Value), ps[i]? = some p → vs[i]? = some v → RI Γ h φ H p v) → RIL Γ h φ H ps vs
  | [], [], _, _ => .nil
  | [], _ :: _, hl, _ => by simp at hl
  | _ :: _, [], hl, _ => by simp at hl
  | p :: ps, v :: vs, hl, hh => .cons p v ps vs (hh 0 p v rfl rfl) (RIL.of_get ps vs (by simpa using hl) fun i q u h1 h2 => hh (i + 1) q u (by simpa using h1) (by simpa using h2))
structure Ext (φ : Plc) (H : List MObj) (h : Hp) (φ' : Plc) (H' : List MObj) (h' : Hp) : Prop where
  size : h.size ≤ h'.size
  keep : ∀ b : Nat, b < h.size → ¬ Own φ H b → h'[b]? = h[b]?
  own : ∀ b : Nat, Own φ' H' b → b < h.size → Own φ H b
  shape : ∀ (b : Nat) (arr : Array Value) (t : TypeId) (fr : Nat × Nat), h[b]? = some (.cells arr t fr) → ∃ arr' : Array Value, h'[b]? = some (.cells arr' t fr) ∧ arr'.size = arr.size
  loc : ∀ (l : Nat) (o : MObj), H[l]? = some o → o ≠ .hole → ∃ o', H'[l]? = some o' ∧ o' ≠ .hole ∧ (o'.live = true → o.live = true ∧ o.kind = o'.kind ∧ o.csize ≤ o'.csize ∧ (o.csize = o'.csize → φ' l = φ l))
theorem Ext.refl (φ : Plc) (H : List MObj) (h : Hp) : Ext φ H h φ H h :=
  ⟨Nat.le_refl _, fun _ _ _ => rfl, fun _ h _ => h, fun _ arr _ _ hb => ⟨arr, hb, rfl⟩, fun _ o ho hh => ⟨o, ho, hh, fun hl => ⟨hl, rfl, Nat.le_refl _, fun _ => rfl⟩⟩⟩
theorem lt_of_get {h : Hp} {b : Nat} {o : Obj} (hb : h[b]? = some o) : b < h.size := by
  rcases Nat.lt_or_ge b h.size with hh | hh
  · exact hh
  · rw [Array.getElem?_eq_none hh] at hb; cases hb
theorem Ext.trans {φ φ' φ'' : Plc} {H H' H'' : List MObj} {h h' h'' : Hp} (e : Ext φ H h φ' H' h') (f : Ext φ' H' h' φ'' H'' h'') : Ext φ H h φ'' H'' h'' where
  size := Nat.le_trans e.size f.size
  keep b hb hn := by
    rw [f.keep b (Nat.lt_of_lt_of_le hb e.size) (fun ho => hn (e.own b ho hb)), e.keep b hb hn]
  own b ho hb := e.own b (f.own b ho (Nat.lt_of_lt_of_le hb e.size)) hb
  shape b arr t fr hb := by
    obtain ⟨a1, h1, s1⟩ := e.shape b arr t fr hb
    obtain ⟨a2, h2, s2⟩ := f.shape b a1 t fr h1
    exact ⟨a2, h2, s2.trans s1⟩
  loc l o ho hh := by
    obtain ⟨o1, h1, n1, k1⟩ := e.loc l o ho hh
    obtain ⟨o2, h2, n2, k2⟩ := f.loc l o1 h1 n1
    refine ⟨o2, h2, n2, fun hl => ?_⟩
    obtain ⟨l1, c2, m2, r2⟩ := k2 hl
    obtain ⟨l0, c1, m1, r1⟩ := k1 l1
    exact ⟨l0, c1.trans c2, Nat.le_trans m1 m2, fun e => (r2 (by omega)).trans (r1 (by omega))⟩
theorem Ext.keeps {Γ : Cx} {φ φ' : Plc} {H H' : List MObj} {h h' : Hp} (e : Ext φ H h φ' H' h') : Keeps h (fun b => Γ.X b ∨ Own φ H b) h' (fun b => Γ.X b ∨ Own φ' H' b) := by
  intro b o hb hx
  have hl := lt_of_get hb
  exact ⟨by rw [e.keep b hl fun ho => hx (.inr ho)]; exact hb, fun hx' => hx'.elim (fun g => hx (.inl g)) fun g => hx (.inr (e.own b g hl))⟩
theorem Ext.dfd {φ φ' : Plc} {H H' : List MObj} {h h' : Hp} (e : Ext φ H h φ' H' h') {l : Nat} (hd : Def H l) : Def H' l := by
  obtain ⟨o, ho, hh⟩ := hd
  obtain ⟨o', h1, h2, _⟩ := e.loc l o ho hh
  exact ⟨o', h1, h2⟩
theorem Ext.back {φ φ' : Plc} {H H' : List MObj} {h h' : Hp} (e : Ext φ H h φ' H' h') {l : Nat} (hd : Def H l) {o' : MObj} (ho' : H'[l]? = some o') (hl : o'.live = true) :
    ∃ o, H[l]? = some o ∧ o.live = true ∧ o.kind = o'.kind ∧ o.csize ≤ o'.csize ∧ (o.csize = o'.csize → φ' l = φ l) := by
  obtain ⟨o, ho, hh⟩ := hd
  obtain ⟨o1, h1, _, h3⟩ := e.loc l o ho hh
  rw [ho'] at h1; cases h1
  exact ⟨o, ho, h3 hl⟩
mutual
theorem RI.ext {Γ : Cx} {φ φ' : Plc} {H H' : List MObj} {h h' : Hp} (e : Ext φ H h φ' H' h') : ∀ {p : IV} {v : Value}, RI Γ h φ H p v → RI Γ h' φ' H' p v
  | _, _, .p v x hp => .p v x (hp.keeps e.keeps)
  | _, _, .ptr l off sz a hd hc => .ptr l off sz a (e.dfd hd) (by
      intro cs g ho'
      obtain ⟨o, ho, hl, hk, hs, hp⟩ := e.back hd ho' rfl
      obtain ⟨ds, rfl⟩ := MObj.kind_cells hk
      obtain ⟨h1, h2⟩ := hc ds g ho
      simp only [MObj.csize] at hs hp
      exact ⟨by omega, fun heq => by rw [hp (by omega)]; exact h2 (by omega)⟩)
  | _, _, .msl l off len sz x a cap hd hc hle hx => .msl l off len sz x a cap (e.dfd hd) (by
      intro cs g ho'
      obtain ⟨o, ho, hl, hk, hs, hp⟩ := e.back hd ho' rfl
      obtain ⟨ds, rfl⟩ := MObj.kind_cells hk
      obtain ⟨h1, h2⟩ := hc ds g ho
      simp only [MObj.csize] at hs hp
      refine ⟨by omega, fun heq => ?_⟩
      obtain ⟨h3, h4⟩ := h2 (by omega)
      rw [hp (by omega)]
      refine ⟨h3, fun hg => ?_⟩
      obtain ⟨arr, t, fr, hb, hz⟩ := h4 hg
      obtain ⟨arr', hb', hz'⟩ := e.shape _ _ _ _ hb
      exact ⟨arr', t, fr, hb', by have := hz.1; omega, hz.2⟩) hle hx
  | _, _, .mmap l r hd hc => .mmap l r (e.dfd hd) (by
      intro o' ho' hk'
      have hl' : o'.live = true := by cases o' <;> simp_all [MObj.kind, MObj.live]
      obtain ⟨o, ho, hl, hk, hs, hp⟩ := e.back hd ho' hl'
      have hk2 := hk.trans hk'
      have hz : o.csize = o'.csize := by cases o <;> cases o' <;> simp_all [MObj.kind, MObj.csize]
      rw [hp hz]; exact hc o ho hk2)
  | _, _, .iter l r hd hc => .iter l r (e.dfd hd) (by
      intro o' ho' hl' hz
      obtain ⟨o, ho, hl, hk, hs, hp⟩ := e.back hd ho' hl'
      rw [hp (by omega)]; exact hc o ho hl (by omega))
  | _, _, .fn f first cap a b ha hb => .fn f first cap a b (RIL.ext e ha) (RIL.ext e hb)
  | _, _, .agg cs vs hl => .agg cs vs (RIL.ext e hl)
  | _, _, .tup cs vs hl => .tup cs vs (RIL.ext e hl)
  | _, _, .yld l r hd hc => .yld l r (e.dfd hd) (by
      intro o' ho' hk'
      have hl' : o'.live = true := by cases o' <;> simp_all [MObj.kind, MObj.live]
      obtain ⟨o, ho, hl, hk, hs, hp⟩ := e.back hd ho' hl'
      have hk2 := hk.trans hk'
      have hz : o.csize = o'.csize := by cases o <;> cases o' <;> simp_all [MObj.kind, MObj.csize]
      rw [hp hz]; exact hc o ho hk2)
theorem RIL.ext {Γ : Cx} {φ φ' : Plc} {H H' : List MObj} {h h' : Hp} (e : Ext φ H h φ' H' h') : ∀ {p : List IV} {v : List Value}, RIL Γ h φ H p v → RIL Γ h' φ' H' p v
  | _, _, .nil => .nil
  | _, _, .cons p v ps vs h1 h2 => .cons p v ps vs (RI.ext e h1) (RIL.ext e h2)
end
end Go.Idl
namespace Go.Idl
open Go
def loopSt : Nat → LoopState
  | 0 => .ready
  | 1 => .busy
  | _ => .done
def ObjOK (Γ : Cx) (h : Hp) (φ : Plc) (H : List MObj) (l : Nat) : MObj → Prop
  | .hole => True
  | .dead => True
  | .cells cs _ => ∃ (arr : Array Value) (t : TypeId), h[(φ l).1]? = some (.cells arr t (0, 0)) ∧ (φ l).2 + cs.length ≤ arr.size ∧
      ∀ (i : Nat) (iv : IV), cs[i]? = some iv → ∃ v : Value, arr[(φ l).2 + i]? = some v ∧ RI Γ h φ H iv v
  | .map ks vs => ∃ (es : Array MapEntry) (clock : Nat), h[(φ l).1]? = some (.map es clock) ∧ RPL h (fun b => Γ.X b ∨ Own φ H b) ks (es.toList.map (·.key)) ∧
      RPL h (fun b => Γ.X b ∨ Own φ H b) vs (es.toList.map (·.val)) ∧ (es.toList.map (·.born)).Nodup ∧ ∀ e ∈ es.toList, e.born < clock
  | .mapS ks vs bs c => ∃ (es : Array MapEntry), h[(φ l).1]? = some (.map es c) ∧ RPL h (fun b => Γ.X b ∨ Own φ H b) ks (es.toList.map (·.key)) ∧
      RPL h (fun b => Γ.X b ∨ Own φ H b) vs (es.toList.map (·.val)) ∧ es.toList.map (·.born) = bs ∧ bs.Nodup ∧ ∀ b ∈ bs, b < c
  | .iter m seen c => ∃ r : Nat, h[(φ l).1]? = some (.mapIter (some r) c ⟨seen⟩ c) ∧ RI Γ h φ H (.mmap m) (.map (some r))
  | .iterP ks vs seen => ∃ (r : Nat) (es : Array MapEntry) (c : Nat) (ss : List Nat), h[(φ l).1]? = some (.mapIter (some r) c ⟨ss⟩ c) ∧ h[r]? = some (.map es c) ∧ ¬ (Γ.X r ∨ Own φ H r) ∧
      RPL h (fun b => Γ.X b ∨ Own φ H b) ks (es.toList.map (·.key)) ∧ RPL h (fun b => Γ.X b ∨ Own φ H b) vs (es.toList.map (·.val)) ∧ (es.toList.map (·.born)).Nodup ∧ (∀ e ∈ es.toList, e.born < c) ∧
      seen.map (fun i => (es.toList[i]?).map (·.born)) = ss.map some
  | .loop st R env j => ∃ r : Loop, h[(φ l).1]? = some (.loop r) ∧ r.state = loopSt st ∧ r.pending = j ∧ r.params = ⟨R.ps⟩ ∧ r.assign = R.assign ∧ r.body = R.body ∧ R.nt ≤ r.tmps.size ∧
      ∀ (t : Nat) (iv : IV), lookE t env = some iv → ∃ v : Value, r.tmps[t]? = some v ∧ RI Γ h φ H iv v
structure HOK (Γ : Cx) (h : Hp) (φ : Plc) (H : List MObj) : Prop where
  obj : ∀ (l : Nat) (o : MObj), H[l]? = some o → ObjOK Γ h φ H l o
  inj : ∀ (l l' : Nat) (o o' : MObj), H[l]? = some o → H[l']? = some o' → o.live = true → o'.live = true → (φ l).1 = (φ l').1 → l = l'
  lt : ∀ (l : Nat) (o : MObj), H[l]? = some o → o.live = true → (φ l).1 < h.size ∧ ¬ Γ.X (φ l).1
theorem ObjOK.ext {Γ : Cx} {φ φ' : Plc} {H H' : List MObj} {h h' : Hp} (e : Ext φ H h φ' H' h') {l : Nat} {o : MObj} (hp : φ' l = φ l) (hb : h'[(φ l).1]? = h[(φ l).1]?)
    (hh : ObjOK Γ h φ H l o) : ObjOK Γ h' φ' H' l o := by
  cases o with
  | hole => trivial
  | dead => trivial
  | cells cs g =>
    obtain ⟨arr, t, h1, h2, h3⟩ := hh
    refine ⟨arr, t, by rw [hp, hb]; exact h1, by rw [hp]; exact h2, fun i iv hi => ?_⟩
    obtain ⟨v, hv, hr⟩ := h3 i iv hi
    exact ⟨v, by rw [hp]; exact hv, hr.ext e⟩
  | map ks vs =>
    obtain ⟨es, clock, h1, h2, h3, h4, h5⟩ := hh
    exact ⟨es, clock, by rw [hp, hb]; exact h1, h2.keeps e.keeps, h3.keeps e.keeps, h4, h5⟩
  | mapS ks vs bs c =>
    obtain ⟨es, h1, h2, h3, h4, h5⟩ := hh
    exact ⟨es, by rw [hp, hb]; exact h1, h2.keeps e.keeps, h3.keeps e.keeps, h4, h5⟩
  | iter m seen c =>
    obtain ⟨r, h1, h2⟩ := hh
    exact ⟨r, by rw [hp, hb]; exact h1, h2.ext e⟩
  | iterP ks vs seen =>
    obtain ⟨r, es, c, ss, h1, h2, h3, h4, h5, h6⟩ := hh
    obtain ⟨k1, k2⟩ := e.keeps (Γ := Γ) r _ h2 h3
    exact ⟨r, es, c, ss, by rw [hp, hb]; exact h1, k1, k2, h4.keeps e.keeps, h5.keeps e.keeps, h6⟩
  | loop st R env j =>
    obtain ⟨r, h1, h2, h3, h4, h5, h6, h7, h8⟩ := hh
    refine ⟨r, by rw [hp, hb]; exact h1, h2, h3, h4, h5, h6, h7, fun t iv ht => ?_⟩
    obtain ⟨v, hv, hr⟩ := h8 t iv ht
    exact ⟨v, hv, hr.ext e⟩
def upd (φ : Plc) (l : Nat) (pl : Nat × Nat) : Plc := fun k => if k = l then pl else φ k
@[simp] theorem upd_same (φ : Plc) (l : Nat) (pl : Nat × Nat) : upd φ l pl l = pl := by simp [upd]
theorem upd_ne (φ : Plc) {l k : Nat} (pl : Nat × Nat) (h : k ≠ l) : upd φ l pl k = φ k := by simp [upd, h]
theorem HOK.keepAll {Γ : Cx} {h h' : Hp} {φ : Plc} {H : List MObj} (hk : HOK Γ h φ H) (hs : h.size ≤ h'.size) (keep : ∀ b : Nat, b < h.size → h'[b]? = h[b]?) :
    HOK Γ h' φ H ∧ Ext φ H h φ H h' := by
  have e : Ext φ H h φ H h' := ⟨hs, fun b hb _ => keep b hb, fun _ ho _ => ho, fun b arr t fr hb => ⟨arr, by rw [keep b (lt_of_get hb)]; exact hb, rfl⟩,
    fun l o ho hh => ⟨o, ho, hh, fun hl => ⟨hl, rfl, Nat.le_refl _, fun _ => rfl⟩⟩⟩
  refine ⟨⟨fun l o ho => ?_, hk.inj, fun l o ho hl => ⟨Nat.lt_of_lt_of_le (hk.lt l o ho hl).1 hs, (hk.lt l o ho hl).2⟩⟩, e⟩
  by_cases hl : o.live = true
  · exact ObjOK.ext e rfl (keep _ (hk.lt l o ho hl).1) (hk.obj l o ho)
  · cases o <;> simp [MObj.live] at hl <;> trivial
theorem get_set {α : Type} (H : List α) (l k : Nat) (o : α) : (H.set l o)[k]? = if l = k then (if l < H.length then some o else none) else H[k]? := by
  rw [List.getElem?_set]
theorem lt_of_lget {α : Type} {H : List α} {l : Nat} {o : α} (h : H[l]? = some o) : l < H.length := by
  rcases Nat.lt_or_ge l H.length with hh | hh
  · exact hh
  · rw [List.getElem?_eq_none hh] at h; cases h
theorem HOK.put {Γ : Cx} {h h' : Hp} {φ : Plc} {H : List MObj} (hk : HOK Γ h φ H) (hX : ∀ b, Γ.X b → b < h.size) {l : Nat} {o o' : MObj} {pl : Nat × Nat} (hl : H[l]? = some o) (hnd : o ≠ .dead) (hlive : o'.live = true)
    (hs : h.size ≤ h'.size) (keep : ∀ b : Nat, b < h.size → ¬ (o.live = true ∧ b = (φ l).1) → h'[b]? = h[b]?)
    (shape : o.live = true → ∀ (arr : Array Value) (t : TypeId) (fr : Nat × Nat), h[(φ l).1]? = some (.cells arr t fr) → ∃ arr' : Array Value, h'[(φ l).1]? = some (.cells arr' t fr) ∧ arr'.size = arr.size)
    (place : (pl = φ l ∧ o.live = true) ∨ (h.size ≤ pl.1 ∧ pl.1 < h'.size))
    (kin : o.live = true → o.kind = o'.kind ∧ o.csize ≤ o'.csize ∧ (o.csize = o'.csize → pl = φ l))
    (ok : Ext φ H h (upd φ l pl) (H.set l o') h' → ObjOK Γ h' (upd φ l pl) (H.set l o') l o') :
    HOK Γ h' (upd φ l pl) (H.set l o') ∧ Ext φ H h (upd φ l pl) (H.set l o') h' := by
  have hlt := lt_of_lget hl
  have e : Ext φ H h (upd φ l pl) (H.set l o') h' := by
    refine ⟨hs, fun b hb ho => keep b hb fun ⟨h1, h2⟩ => ho ⟨l, o, hl, h1, h2.symm⟩, ?_, ?_, ?_⟩
    · rintro b ⟨k, q, hq, hlq, hb⟩ hbs
      rw [get_set] at hq
      by_cases hkl : l = k
      · subst hkl
        simp only [if_true, if_pos hlt, Option.some.injEq] at hq
        subst hq
        rw [upd_same] at hb
        rcases place with ⟨hp, hlo⟩ | ⟨hp, _⟩
        · exact ⟨l, o, hl, hlo, by rw [← hp]; exact hb⟩
        · omega
      · rw [if_neg hkl] at hq
        rw [upd_ne φ pl (Ne.symm hkl)] at hb
        exact ⟨k, q, hq, hlq, hb⟩
    · intro b arr t fr hb
      by_cases hh : o.live = true ∧ b = (φ l).1
      · obtain ⟨h1, rfl⟩ := hh; exact shape h1 arr t fr hb
      · exact ⟨arr, by rw [keep b (lt_of_get hb) hh]; exact hb, rfl⟩
    · intro k q hq hh
      by_cases hkl : l = k
      · subst hkl
        rw [hl] at hq; cases hq
        refine ⟨o', by rw [get_set, if_pos rfl, if_pos hlt], (fun hc => by rw [hc] at hlive; cases hlive), fun _ => ?_⟩
        have hlo : o.live = true := by cases o <;> simp_all [MObj.live]
        obtain ⟨k1, k2, k3⟩ := kin hlo
        exact ⟨hlo, k1, k2, fun he => by rw [upd_same]; exact k3 he⟩
      · exact ⟨q, by rw [get_set, if_neg hkl]; exact hq, hh, fun hlq => ⟨hlq, rfl, Nat.le_refl _, fun _ => upd_ne φ pl (Ne.symm hkl)⟩⟩
  have others : ∀ (k : Nat) (q : MObj), H[k]? = some q → q.live = true → k ≠ l → ¬ (o.live = true ∧ (φ k).1 = (φ l).1) := fun k q hq hlq hkl ⟨h1, h2⟩ => hkl (hk.inj k l q o hq hl hlq h1 h2)
  refine ⟨⟨fun k q hq => ?_, fun k k' q q' hq hq' hlq hlq' heq => ?_, fun k q hq hlq => ?_⟩, e⟩
  · rw [get_set] at hq
    by_cases hkl : l = k
    · subst hkl
      simp only [if_true, if_pos hlt, Option.some.injEq] at hq
      subst hq
      exact ok e
    · rw [if_neg hkl] at hq
      by_cases hlq : q.live = true
      · exact ObjOK.ext e (upd_ne φ pl (Ne.symm hkl)) (keep _ (hk.lt k q hq hlq).1 fun hc => others k q hq hlq (Ne.symm hkl) hc) (hk.obj k q hq)
      · cases q <;> simp [MObj.live] at hlq <;> trivial
  · rw [get_set] at hq hq'
    have newp : ∀ (k : Nat) (q : MObj), H[k]? = some q → q.live = true → l ≠ k → (upd φ l pl l).1 ≠ (upd φ l pl k).1 := by
      intro k q hq hlq hkl
      rw [upd_same, upd_ne φ pl (Ne.symm hkl)]
      rcases place with ⟨hp, hlo⟩ | ⟨hp, _⟩
      · rw [hp]; intro hc; exact hkl (hk.inj l k o q hl hq hlo hlq hc)
      · have := (hk.lt k q hq hlq).1; omega
    by_cases h1 : l = k <;> by_cases h2 : l = k'
    · omega
    · rw [if_neg h2] at hq'; subst h1; exact absurd heq (newp k' q' hq' hlq' h2)
    · rw [if_neg h1] at hq; subst h2; exact absurd heq.symm (newp k q hq hlq h1)
    · rw [if_neg h1] at hq; rw [if_neg h2] at hq'
      rw [upd_ne φ pl (Ne.symm h1), upd_ne φ pl (Ne.symm h2)] at heq
      exact hk.inj k k' q q' hq hq' hlq hlq' heq
  · rw [get_set] at hq
    by_cases hkl : l = k
    · subst hkl
      rw [upd_same]
      rcases place with ⟨hp, hlo⟩ | ⟨hp, hp2⟩
      · rw [hp]; exact ⟨Nat.lt_of_lt_of_le (hk.lt l o hl hlo).1 hs, (hk.lt l o hl hlo).2⟩
      · exact ⟨hp2, fun hx => by have := hX _ hx; omega⟩
    · rw [if_neg hkl] at hq
      rw [upd_ne φ pl (Ne.symm hkl)]
      exact ⟨Nat.lt_of_lt_of_le (hk.lt k q hq hlq).1 hs, (hk.lt k q hq hlq).2⟩
theorem get_append1 {α : Type} (H : List α) (o : α) (k : Nat) : (H ++ [o])[k]? = if k < H.length then H[k]? else if k = H.length then some o else none := by
  rw [List.getElem?_append]
  split
  · rfl
  · split
    · rename_i h1 h2; subst h2; simp
    · rw [List.getElem?_eq_none]; simp; omega
theorem HOK.addHole {Γ : Cx} {h : Hp} {φ : Plc} {H : List MObj} (hk : HOK Γ h φ H) : HOK Γ h φ (H ++ [.hole]) ∧ Ext φ H h φ (H ++ [.hole]) h := by
  have pick : ∀ (k : Nat) (q : MObj), (H ++ [.hole])[k]? = some q → q.live = true → H[k]? = some q := by
    intro k q hq hl
    rw [get_append1] at hq
    split at hq
    · exact hq
    · split at hq
      · cases hq; cases hl
      · cases hq
  have e : Ext φ H h φ (H ++ [.hole]) h := ⟨Nat.le_refl _, fun _ _ _ => rfl, fun b ⟨k, q, hq, hlq, hb⟩ _ => ⟨k, q, pick k q hq hlq, hlq, hb⟩, fun b arr t fr hb => ⟨arr, hb, rfl⟩,
    fun k q hq hh => ⟨q, by rw [get_append1, if_pos (lt_of_lget hq)]; exact hq, hh, fun hl => ⟨hl, rfl, Nat.le_refl _, fun _ => rfl⟩⟩⟩
  refine ⟨⟨fun k q hq => ?_, fun k k' q q' hq hq' hlq hlq' heq => hk.inj k k' q q' (pick k q hq hlq) (pick k' q' hq' hlq') hlq hlq' heq, fun k q hq hlq => hk.lt k q (pick k q hq hlq) hlq⟩, e⟩
  by_cases hlq : q.live = true
  · exact ObjOK.ext e rfl rfl (hk.obj k q (pick k q hq hlq))
  · cases q <;> simp [MObj.live] at hlq <;> trivial
def putAt (n : Nat) (o : MObj) (H : List MObj) : List MObj := match Nat.blt n H.length with | true => H.set n o | false => H ++ [o]
def Free (n : Nat) (H : List MObj) : Prop := n = H.length ∨ H[n]? = some .hole
theorem putAt_set {n : Nat} {o : MObj} {H : List MObj} (h : n < H.length) : putAt n o H = H.set n o := by
  unfold putAt; rw [show Nat.blt n H.length = true from by simpa [Nat.blt_eq] using h]
theorem putAt_end {o : MObj} {H : List MObj} : putAt H.length o H = H ++ [o] := by
  unfold putAt; rw [show Nat.blt H.length H.length = false from by cases h : Nat.blt H.length H.length with | false => rfl | true => (rw [Nat.blt_eq] at h; omega)]
theorem HOK.new {Γ : Cx} {h h' : Hp} {φ : Plc} {H : List MObj} (hk : HOK Γ h φ H) (hX : ∀ b, Γ.X b → b < h.size) {n : Nat} (hf : Free n H) {o' : MObj} {pl : Nat × Nat} (hlive : o'.live = true)
    (hs : h.size ≤ h'.size) (keep : ∀ b : Nat, b < h.size → h'[b]? = h[b]?) (place : h.size ≤ pl.1 ∧ pl.1 < h'.size)
    (ok : Ext φ H h (upd φ n pl) (putAt n o' H) h' → ObjOK Γ h' (upd φ n pl) (putAt n o' H) n o') :
    HOK Γ h' (upd φ n pl) (putAt n o' H) ∧ Ext φ H h (upd φ n pl) (putAt n o' H) h' := by
  rcases hf with rfl | hf
  · obtain ⟨k1, e1⟩ := hk.addHole
    have hset : (H ++ [MObj.hole]).set H.length o' = H ++ [o'] := by simp
    rw [putAt_end] at *
    have hh := k1.put (o' := o') (l := H.length) (o := .hole) (pl := pl) hX (by simp) (by simp) hlive hs (fun b hb _ => keep b hb) (fun hc => by cases hc) (.inr place) (fun hc => by cases hc)
      (fun e => by rw [hset] at e ⊢; exact ok (e1.trans e))
    rw [hset] at hh
    exact ⟨hh.1, e1.trans hh.2⟩
  · have hlt := lt_of_lget hf
    rw [putAt_set hlt] at *
    exact hk.put (o' := o') (pl := pl) hX hf (by simp) hlive hs (fun b hb _ => keep b hb) (fun hc => by cases hc) (.inr place) (fun hc => by cases hc) ok
structure WSame (w w' : World) : Prop where
  os : w'.os = w.os
  tape : w'.tape = w.tape
  output : w'.output = w.output
theorem WSame.refl (w : World) : WSame w w := ⟨rfl, rfl, rfl⟩
theorem WSame.trans {a b c : World} (h : WSame a b) (k : WSame b c) : WSame a c := ⟨k.os.trans h.os, k.tape.trans h.tape, k.output.trans h.output⟩
def Defs (Γ : Cx) (φ : Plc) (H : List MObj) (h : Hp) (ds : List Deferred) : Prop :=
  ∃ bs : List Nat, ds = bs.map (fun b => { target := .collected b, args := #[] }) ∧ bs.Nodup ∧ ∀ b ∈ bs, Γ.n0 ≤ b ∧ h[b]? = some (.deferred (some [])) ∧ ¬ Own φ H b ∧ ¬ Γ.X b
theorem Defs.ext {Γ : Cx} {φ φ' : Plc} {H H' : List MObj} {h h' : Hp} (e : Ext φ H h φ' H' h') {ds : List Deferred} (hd : Defs Γ φ H h ds) : Defs Γ φ' H' h' ds := by
  obtain ⟨bs, h1, h2, h3⟩ := hd
  refine ⟨bs, h1, h2, fun b hb => ?_⟩
  obtain ⟨g1, g2, g3, g4⟩ := h3 b hb
  exact ⟨g1, by rw [e.keep b (lt_of_get g2) g3]; exact g2, fun ho => g3 (e.own b ho (lt_of_get g2)), g4⟩
theorem Defs.nil (Γ : Cx) (φ : Plc) (H : List MObj) (h : Hp) : Defs Γ φ H h [] := ⟨[], rfl, .nil, fun _ hb => by cases hb⟩
end Go.Idl
set_option linter.unusedSimpArgs false
set_option linter.unusedVariables false
namespace Go.Idl
open Go
theorem run_bind {α β : Type} (P : Program) (s : Sem α) (f : α → Sem β) : ∀ (w : World), (s.bind f).run P w = match s.run P w with | .ok a w' => (f a).run P w' | .halt h w' => .halt h w' := by
  induction s with
  | pure a => intro w; simp [Sem.bind, Sem.run]
  | load m a k ih =>
    intro w; simp only [Sem.bind, Sem.run]
    split
    · exact ih _ _
    · split
      · exact ih _ _
      · rfl
  | store m a v k ih =>
    intro w
    cases v <;> simp only [Sem.bind, Sem.run] <;> first
      | rfl
      | (split
         · split
           · rfl
           · exact ih _
         · split
           · exact ih _
           · rfl)
  | new o k ih => intro w; simp only [Sem.bind, Sem.run]; exact ih _ _
  | shape r k ih => intro w; simp only [Sem.bind, Sem.run]; exact ih _ _
  | freeze a n k ih => intro w; simp only [Sem.bind, Sem.run]; exact ih _
  | frozen a k ih => intro w; simp only [Sem.bind, Sem.run]; exact ih _ _
  | getObj r k ih =>
    intro w; simp only [Sem.bind, Sem.run]
    split
    · rfl
    · exact ih _ _
    · rfl
  | setObj r o k ih =>
    intro w; simp only [Sem.bind, Sem.run]
    split
    · rfl
    · exact ih _
    · rfl
  | choose q k ih =>
    intro w; simp only [Sem.bind, Sem.run]
    split
    · exact ih _ _
    · exact ih _ _
  | sys c k ih => intro w; simp only [Sem.bind, Sem.run]; exact ih _ _
  | program k ih => intro w; simp only [Sem.bind, Sem.run]; exact ih _ _
  | mark m k ih => intro w; simp only [Sem.bind, Sem.run]; exact ih _
  | halt h => intro w; simp [Sem.bind, Sem.run]
section
variable {P : Program} {w : World}
theorem run_bnd {α β : Type} {s : Sem α} {f : α → Sem β} {a : α} {w' : World} (h : s.run P w = .ok a w') : (s >>= f).run P w = (f a).run P w' := by
  show (s.bind f).run P w = _
  rw [run_bind, h]
theorem run_pur {α : Type} (a : α) : (pure a : Sem α).run P w = .ok a w := rfl
theorem run_underlying {t : TypeId} {d : TypeDesc} (h : P.underlying t = some d) : (underlying t).run P w = .ok d w := by
  show (Sem.bind program _).run P w = _
  rw [run_bind]; simp only [program, Sem.run, h]; rfl
theorem run_typeInfo {t : TypeId} {i : TypeInfo} (h : P.info? t = some i) : (typeInfo t).run P w = .ok i w := by
  show (Sem.bind program _).run P w = _
  rw [run_bind]; simp only [program, Sem.run, h]; rfl
theorem run_sizeOf {t : TypeId} {i : TypeInfo} (h : P.info? t = some i) : (sizeOf t).run P w = .ok i.size w := by
  unfold sizeOf; rw [run_bnd (run_typeInfo h)]; rfl
theorem run_zeroValue {t : TypeId} {i : TypeInfo} {v : Value} (h : P.info? t = some i) (hz : i.zero = some v) : (zeroValue t).run P w = .ok v w := by
  unfold zeroValue; rw [run_bnd (run_typeInfo h)]; simp only [hz]; rfl
theorem run_isAgg {t : TypeId} {d : TypeDesc} (h : P.underlying t = some d) : (isAgg t).run P w = .ok (isAggT P t) w := by
  unfold isAgg isAggT tdesc; rw [run_bnd (run_underlying h), h]
  cases d <;> rfl
theorem run_load {a : Addr} {v : Value} (h : w.cell? a = some v) : (load a).run P w = .ok v w := by simp [load, Sem.run, h]
theorem addr_add (a : Addr) (n : Nat) (h : a.spot = none) : a.add n = ⟨a.block, a.off + n, none⟩ := by
  unfold Addr.add; split
  · rename_i h0; subst h0; cases a; simp_all
  · rfl
theorem cell_of {h : Addr} {arr : Array Value} {t : TypeId} {fr : Nat × Nat} (hb : w.heap[h.block]? = some (.cells arr t fr)) (hs : h.spot = none) : w.cell? h = arr[h.off]? := by
  unfold World.cell?; rw [hb]; simp [hs]
theorem ReadsAt.cell {a : Addr} {vs : List Value} (h : ReadsAt w.heap a vs) (i : Nat) (v : Value) (hi : vs[i]? = some v) : w.cell? (a.add i) = some v := by
  obtain ⟨hs, arr, t, fr, hb, hv⟩ := h
  rw [addr_add a i hs, cell_of (h := ⟨a.block, a.off + i, none⟩) hb rfl]
  exact hv i v hi
theorem run_loadCellsFrom (a : Addr) : ∀ (n i : Nat) (vs : List Value) (acc : Array Value), vs.length = n → (∀ j v, vs[j]? = some v → w.cell? (a.add (i + j)) = some v) → (loadCellsFrom a i n acc).run P w = .ok (acc ++ vs.toArray) w
  | 0, i, vs, acc, hl, _ => by
    have : vs = [] := List.length_eq_zero_iff.1 hl
    subst this; simp [loadCellsFrom, run_pur]
  | n + 1, i, [], acc, hl, _ => by simp at hl
  | n + 1, i, v :: vs, acc, hl, hc => by
    unfold loadCellsFrom
    rw [run_bnd (run_load (show w.cell? (a.add i) = some v from hc 0 v rfl)), run_loadCellsFrom a n (i + 1) vs (acc.push v) (by simpa using hl) (fun j u hj => by
      have := hc (j + 1) u (by simpa using hj)
      rwa [show i + 1 + j = i + (j + 1) from by omega])]
    congr 1
    apply Array.ext'
    simp
theorem run_loadCells {a : Addr} {n : Nat} {vs : List Value} (hl : vs.length = n) (hc : ∀ j v, vs[j]? = some v → w.cell? (a.add j) = some v) : (loadCells a n).run P w = .ok vs.toArray w := by
  unfold loadCells; rw [run_loadCellsFrom a n 0 vs #[] hl (fun j v hj => by simpa using hc j v hj)]; simp
theorem run_loadVar_agg {t : TypeId} {d : TypeDesc} {i : TypeInfo} {a : Addr} {vs : List Value} (hd : P.underlying t = some d) (hi : P.info? t = some i) (hg : isAggT P t = true) (hl : vs.length = i.size)
    (hc : ∀ j v, vs[j]? = some v → w.cell? (a.add j) = some v) : (loadVar t a).run P w = .ok (.agg vs.toArray) w := by
  unfold loadVar; rw [run_bnd (run_isAgg hd), hg]; simp only [if_true]
  rw [run_bnd (run_sizeOf hi), run_bnd (run_loadCells hl hc)]; rfl
theorem run_loadVar_one {t : TypeId} {d : TypeDesc} {a : Addr} {v : Value} (hd : P.underlying t = some d) (hg : isAggT P t = false) (hc : w.cell? a = some v) : (loadVar t a).run P w = .ok v w := by
  unfold loadVar; rw [run_bnd (run_isAgg hd), hg]; exact run_load hc
def arrPut (arr : Array Value) (off : Nat) : List Value → Array Value
  | [] => arr
  | v :: r => arrPut (arr.setIfInBounds off v) (off + 1) r
theorem arrPut_size : ∀ (vs : List Value) (arr : Array Value) (off : Nat), (arrPut arr off vs).size = arr.size
  | [], _, _ => rfl
  | v :: r, arr, off => by simp [arrPut, arrPut_size r]
theorem arrPut_get : ∀ (vs : List Value) (arr : Array Value) (off k : Nat), off + vs.length ≤ arr.size → (arrPut arr off vs)[k]? = if off ≤ k then (if k < off + vs.length then vs[k - off]? else arr[k]?) else arr[k]?
  | [], arr, off, k, _ => by
    simp only [arrPut, List.length_nil, Nat.add_zero]
    split
    · rw [if_neg (by omega)]
    · rfl
  | v :: r, arr, off, k, hle => by
    simp only [List.length_cons] at hle
    rw [arrPut, arrPut_get r _ _ _ (by simp; omega)]
    simp only [List.length_cons]
    by_cases h1 : off ≤ k
    · rw [if_pos h1]
      by_cases h2 : off = k
      · subst h2
        rw [if_neg (by omega), if_pos (by omega)]
        simp [Array.getElem?_setIfInBounds]
        omega
      · rw [if_pos (by omega)]
        by_cases h3 : k < off + 1 + r.length
        · rw [if_pos h3, if_pos (by omega), show k - off = (k - (off + 1)) + 1 from by omega]; simp
        · rw [if_neg h3, if_neg (by omega)]
          simp [Array.getElem?_setIfInBounds, h2]
    · rw [if_neg h1, if_neg (by omega)]
      simp [Array.getElem?_setIfInBounds]
      omega
def scalarV : Value → Bool
  | .agg _ => false
  | .tuple _ => false
  | _ => true
theorem run_store {a : Addr} {v x : Value} {arr : Array Value} {t : TypeId} (hv : scalarV v = true) (hb : w.heap[a.block]? = some (.cells arr t (0, 0))) (hs : a.spot = none) (hx : arr[a.off]? = some x) :
    (store a v).run P w = .ok () (w.setCell a v) := by
  have hc : w.cell? a = some x := by rw [cell_of hb hs]; exact hx
  have hf : w.frozen? a = false := by unfold World.frozen?; rw [hb]; simp
  cases v <;> simp_all [store, Sem.run, scalarV]
theorem setCell_heap {a : Addr} {v : Value} {arr : Array Value} {t : TypeId} {fr : Nat × Nat} (hb : w.heap[a.block]? = some (.cells arr t fr)) (hs : a.spot = none) :
    (w.setCell a v).heap[a.block]? = some (.cells (arr.setIfInBounds a.off v) t fr) ∧ (∀ b : Nat, b ≠ a.block → (w.setCell a v).heap[b]? = w.heap[b]?) ∧ (w.setCell a v).heap.size = w.heap.size := by
  unfold World.setCell
  refine ⟨?_, fun b hb' => ?_, ?_⟩
  · simp [Array.getElem?_modify, hb, hs]
  · simp only [Array.getElem?_modify]; rw [if_neg (fun h => hb' h.symm)]
  · simp
theorem run_storeCells (a : Addr) (hs : a.spot = none) : ∀ (vs : List Value) (i : Nat) (w : World) (arr : Array Value) (t : TypeId), (∀ v ∈ vs, scalarV v = true) → w.heap[a.block]? = some (.cells arr t (0, 0)) →
    a.off + i + vs.length ≤ arr.size → ∃ w', (storeCells a vs i).run P w = .ok () w' ∧ w'.heap[a.block]? = some (.cells (arrPut arr (a.off + i) vs) t (0, 0)) ∧
      (∀ b : Nat, b ≠ a.block → w'.heap[b]? = w.heap[b]?) ∧ w'.heap.size = w.heap.size ∧ WSame w w'
  | [], i, w, arr, t, _, hb, _ => ⟨w, rfl, hb, fun _ _ => rfl, rfl, WSame.refl w⟩
  | v :: vs, i, w, arr, t, hv, hb, hle => by
    simp only [List.length_cons] at hle
    have ha : a.add i = ⟨a.block, a.off + i, none⟩ := addr_add a i hs
    have hx : ∃ x, arr[a.off + i]? = some x := ⟨_, Array.getElem?_eq_getElem (by omega)⟩
    obtain ⟨x, hx⟩ := hx
    have h1 := run_store (P := P) (w := w) (a := ⟨a.block, a.off + i, none⟩) (hv v (by simp)) hb rfl hx
    obtain ⟨g1, g2, g3⟩ := setCell_heap (w := w) (a := ⟨a.block, a.off + i, none⟩) (v := v) hb rfl
    obtain ⟨w', k1, k2, k3, k4, k5⟩ := run_storeCells a hs vs (i + 1) (w.setCell ⟨a.block, a.off + i, none⟩ v) (arr.setIfInBounds (a.off + i) v) t (fun u hu => hv u (by simp [hu])) g1 (by simp; omega)
    refine ⟨w', ?_, ?_, fun b hb' => (k3 b hb').trans (g2 b hb'), k4.trans g3, ⟨k5.os, k5.tape, k5.output⟩⟩
    · unfold storeCells; rw [ha, run_bnd h1]; exact k1
    · rw [k2]; rfl
theorem run_storeVar {t : TypeId} {i : TypeInfo} {a : Addr} {v : Value} (hi : P.info? t = some i) (hl : v.cells.size = i.size) : (storeVar t a v).run P w = (storeCells a v.cells.toList).run P w := by
  unfold storeVar; rw [run_bnd (run_sizeOf hi)]
  simp [hl]
theorem run_newRow (t : TypeId) (cells : Array Value) : (newRow t cells).run P w = .ok ⟨w.heap.size, 0, none⟩ { w with heap := w.heap.push (.cells cells t) } := rfl
theorem run_newVar (t : TypeId) (v : Value) : (newVar t v).run P w = .ok ⟨w.heap.size, 0, none⟩ { w with heap := w.heap.push (.cells v.cells t) } := rfl
end
end Go.Idl
set_option linter.unusedSimpArgs false
set_option linter.unusedVariables false
namespace Go.Idl
open Go
def td (P : Program) (t : TypeId) : Option (TypeDesc × TypeInfo) := match P.underlying t, P.info? t with | some d, some i => some (d, i) | _, _ => none
theorem td_spec {P : Program} {t : TypeId} {d : TypeDesc} {i : TypeInfo} (h : td P t = some (d, i)) : P.underlying t = some d ∧ P.info? t = some i := by
  unfold td at h
  split at h
  · rename_i d' i' h1 h2; cases h; exact ⟨h1, h2⟩
  · cases h
def isAggD : TypeDesc → Bool
  | .struct _ => true
  | .array _ _ => true
  | _ => false
theorem isAggT_of {P : Program} {t : TypeId} {d : TypeDesc} (h : P.underlying t = some d) : isAggT P t = isAggD d := by
  unfold isAggT tdesc; rw [h]; cases d <;> rfl
def All : List Prop → Prop
  | [] => True
  | p :: r => p ∧ All r
theorem All.append {l r : List Prop} (h : All (l ++ r)) : All l ∧ All r := by
  induction l with
  | nil => exact ⟨trivial, h⟩
  | cons p l ih => exact ⟨⟨h.1, (ih h.2).1⟩, (ih h.2).2⟩
def applyEff (n : Nat) (e : Eff) (H : List MObj) : List MObj := match e with
  | .none => H
  | .new o => putAt n o H
  | .set l o => H.set l o
def nextVal : Next → Option Value
  | .value v => some v
  | .skip => some undef
  | _ => none
def Step (Γ : Cx) (φ : Plc) (H : List MObj) (w : World) (r : Result Next) (n : Nat) (iv : IV) (eff : Eff) : Prop :=
  ∃ nx v φ' w', r = .ok nx w' ∧ nextVal nx = some v ∧ HOK Γ w'.heap φ' (applyEff n eff H) ∧ Ext φ H w.heap φ' (applyEff n eff H) w'.heap ∧ RI Γ w'.heap φ' (applyEff n eff H) iv v ∧ WSame w w'
section
variable {P : Program} {Γ : Cx} {φ : Plc} {H : List MObj} {w : World} {n : Nat}
theorem Step.same {v : Value} {iv : IV} (hk : HOK Γ w.heap φ H) (hv : RI Γ w.heap φ H iv v) : Step Γ φ H w (.ok (.value v) w) n iv .none :=
  ⟨_, v, φ, w, rfl, rfl, hk, Ext.refl _ _ _, hv, WSame.refl w⟩
theorem run_v {s : Sem Value} {v : Value} {w' : World} (h : s.run P w = .ok v w') : (do pure (Next.value (← s)) : Sem Next).run P w = .ok (.value v) w' := by
  rw [run_bnd h]; rfl
theorem run_u {s : Sem Unit} {w' : World} (h : s.run P w = .ok () w') : (do s; pure Next.skip : Sem Next).run P w = .ok .skip w' := by
  rw [run_bnd h]; rfl
end
theorem constS_sound (h : Hp) (X : Nat → Prop) (v : Value) (p : PV) (e : constS v = some p) : RP h X p v := by
  unfold constS at e
  split at e <;> first
    | (cases e; first | exact .bool _ | exact .int _ _ | exact .str _ | exact .nilp | exact .nilsl | exact .nilmap | exact .nilfn)
    | cases e
theorem constL_sound (h : Hp) (X : Nat → Prop) : ∀ (vs : List Value) (l : List PV), constL vs = some l → RPL h X l vs
  | [], l, e => by simp [constL] at e; subst e; exact .nil
  | v :: r, l, e => by
    simp only [constL] at e
    split at e
    · rename_i a l' h1 h2
      cases e
      exact .cons a v l' r (constS_sound h X v a h1) (constL_sound h X r l' h2)
    · cases e
theorem constV_sound (h : Hp) (X : Nat → Prop) (v : Value) (p : PV) (e : constV v = some p) : RP h X p v := by
  unfold constV at e
  split at e
  · rename_i cs
    split at e
    · rename_i l hl
      cases e
      exact .agg l cs.toList (constL_sound h X cs.toList l hl)
    · cases e
  · exact constS_sound h X _ _ e
section
variable {P : Program} {Γ : Cx} {φ : Plc} {H : List MObj} {w : World} {h : Hp} {n : Nat}
theorem allP_map : ∀ {cs : List IV} {l : List PV}, allP cs = some l → cs = l.map .p
  | [], l, e => by simp [allP] at e; subst e; rfl
  | .p v :: r, l, e => by
    simp only [allP] at e
    split at e
    · rename_i l' hl; cases e; simp [allP_map hl]
    · cases e
  | .ptr .. :: r, l, e => by simp [allP] at e
  | .msl .. :: r, l, e => by simp [allP] at e
  | .mmap .. :: r, l, e => by simp [allP] at e
  | .iter .. :: r, l, e => by simp [allP] at e
  | .fn .. :: r, l, e => by simp [allP] at e
  | .agg .. :: r, l, e => by simp [allP] at e
  | .tup .. :: r, l, e => by simp [allP] at e
  | .yld _ :: r, l, e => by simp [allP] at e
theorem RI.p_inv {v : PV} {x : Value} (hh : RI Γ h φ H (.p v) x) : RP h (fun b => Γ.X b ∨ Own φ H b) v x := by cases hh; assumption
theorem RIL.pure : ∀ {l : List PV} {vs : List Value}, RIL Γ h φ H (l.map .p) vs → RPL h (fun b => Γ.X b ∨ Own φ H b) l vs
  | [], _, .nil => .nil
  | p :: l, _, .cons _ v _ vs h1 h2 => .cons p v l vs h1.p_inv (RIL.pure h2)
theorem RPL.toRIL : ∀ {l : List PV} {vs : List Value}, RPL h (fun b => Γ.X b ∨ Own φ H b) l vs → RIL Γ h φ H (l.map .p) vs
  | [], _, .nil => .nil
  | p :: l, _, .cons _ v _ vs h1 h2 => .cons _ v _ vs (.p p v h1) (RPL.toRIL h2)
theorem mkAgg_sound {cs : List IV} {vs : List Value} (hh : RIL Γ h φ H cs vs) : RI Γ h φ H (mkAgg cs) (.agg ⟨vs⟩) := by
  unfold mkAgg
  split
  · rename_i l hl
    have := allP_map hl; subst this
    exact .p _ _ (.agg l vs (RIL.pure hh))
  · exact .agg cs vs hh
theorem mkFn_sound {f : FuncId} {a b : List IV} {va vb : List Value} (ha : RIL Γ h φ H a va) (hb : RIL Γ h φ H b vb) : RI Γ h φ H (mkFn f a b) (.func (.func f) ⟨va⟩ ⟨vb⟩) := by
  unfold mkFn
  split
  · rename_i x y hx hy
    have := allP_map hx; subst this
    have := allP_map hy; subst this
    exact .p _ _ (.fn f x y va vb (RIL.pure ha) (RIL.pure hb))
  · exact .fn f a b va vb ha hb
def solid : IV → Bool
  | .p .junk => false
  | _ => true
theorem RI.cells {iv : IV} {v : Value} (hh : RI Γ h φ H iv v) (hs : solid iv = true) : RIL Γ h φ H iv.cells v.cells.toList := by
  cases hh with
  | p p x hp =>
    cases hp with
    | agg cs vs hl => exact RPL.toRIL hl
    | junk => simp [solid] at hs
    | _ => exact .cons _ _ _ _ (.p _ _ (by first | exact .bool _ | exact .int _ _ | exact .str _ | exact .nilp | exact .nilsl | exact .nilmap | exact .nilfn | (constructor <;> assumption))) .nil
  | agg cs vs hl => exact hl
  | _ => exact .cons _ _ _ _ (by first | exact .yld | (constructor <;> assumption)) .nil
theorem HOK.cells {w : World} (hk : HOK Γ w.heap φ H) {l : Nat} {cs : List IV} {g : Nat} (hl : H[l]? = some (.cells cs g)) :
    ∃ vs : List Value, RIL Γ w.heap φ H cs vs ∧ ∀ j v, vs[j]? = some v → w.cell? ⟨(φ l).1, (φ l).2 + j, none⟩ = some v := by
  obtain ⟨arr, t, h1, h2, h3⟩ := hk.obj l _ hl
  refine ⟨((arr.toList.drop (φ l).2).take cs.length), RIL.of_get _ _ (by simp; omega) fun i p v hp hv => ?_, fun j v hj => ?_⟩
  · obtain ⟨u, hu, hr⟩ := h3 i p hp
    simp only [List.getElem?_take, List.getElem?_drop] at hv
    split at hv
    · rw [Array.getElem?_toList] at hv; rw [hu] at hv; cases hv; exact hr
    · cases hv
  · simp only [List.getElem?_take, List.getElem?_drop] at hj
    split at hj
    · rw [Array.getElem?_toList] at hj
      rw [cell_of (h := ⟨(φ l).1, (φ l).2 + j, none⟩) h1 rfl]; exact hj
    · cases hj
end
def aggForm : IV → Bool
  | .p (.agg _) => true
  | .agg _ => true
  | _ => false
theorem aggForm_sound {Γ : Cx} {h : Hp} {φ : Plc} {H : List MObj} {v : IV} {vs : List Value} (hf : aggForm v = true) (hh : RIL Γ h φ H v.cells vs) : RI Γ h φ H v (.agg ⟨vs⟩) := by
  cases v with
  | p p => cases p <;> simp [aggForm] at hf; exact .p _ _ (.agg _ vs (RIL.pure hh))
  | agg cs => exact .agg cs vs hh
  | _ => simp [aggForm] at hf
def loadC (P : Program) (hp : Nat → Option MObj) (t : TypeId) (x : IV) (cl : Cl) : OR :=
  match td P t with
  | none => none
  | some (d, i) => match isAggD d with
    | true => match x with
      | .p (.ref cs) => match cl with
        | .pvs ys => some (.p (.agg ys), .none, [i.size ≤ cs.length, cs.take i.size = ys])
        | _ => match Nat.ble i.size cs.length with
          | true => some (.p (.agg (cs.take i.size)), .none, [])
          | false => none
      | .ptr l off sz => match hp l with
        | some (.cells cs _) => match cl with
          | .iv v => match aggForm v with
            | true => some (v, .none, [cs.length = sz, off + i.size ≤ sz, (cs.drop off).take i.size = v.cells])
            | false => none
          | _ => match Nat.beq cs.length sz, Nat.ble (off + i.size) sz with
            | true, true => some (mkAgg ((cs.drop off).take i.size), .none, [])
            | _, _ => none
        | _ => none
      | _ => none
    | false => match x with
      | .p (.ref (c :: _)) => some (.p c, .none, [])
      | .ptr l off sz => match hp l with
        | some (.cells cs _) => match cl with
          | .iv v => some (v, .none, [cs.length = sz, cs[off]? = some v])
          | _ => match Nat.beq cs.length sz, cs[off]? with
            | true, some v => some (v, .none, [])
            | _, _ => none
        | _ => none
      | _ => none
section
variable {P : Program} {Γ : Cx} {φ : Plc} {H : List MObj} {w : World} {n : Nat}
theorem load_agg {t : TypeId} {d : TypeDesc} {i : TypeInfo} {x : Value} {l off sz : Nat} {cs : List IV} {g : Nat} {v : IV} (hk : HOK Γ w.heap φ H) (hd : P.underlying t = some d) (hi : P.info? t = some i)
    (hg : isAggD d = true) (hx : RI Γ w.heap φ H (.ptr l off sz) x) (hl : H[l]? = some (.cells cs g)) (h1 : cs.length = sz) (h2 : off + i.size ≤ sz)
    (hv : ∀ vs, RIL Γ w.heap φ H ((cs.drop off).take i.size) vs → RI Γ w.heap φ H v (.agg ⟨vs⟩)) :
    Step Γ φ H w ((do pure (Next.value (← Instr.loadAt t x)) : Sem Next).run P w) n v .none := by
  cases hx with
  | ptr _ _ _ a hdf hc =>
    have ha := (hc cs g hl).2 h1
    subst ha
    obtain ⟨vs, hr, hcell⟩ := hk.cells hl
    have hlen := RIL.length hr
    have hload : (loadVar t ⟨(φ l).1, (φ l).2 + off, none⟩).run P w = .ok (.agg ((vs.drop off).take i.size).toArray) w := by
      refine run_loadVar_agg hd hi (by rw [isAggT_of hd]; exact hg) (by simp; omega) fun j v hj => ?_
      rw [addr_add _ _ rfl]
      simp only [List.getElem?_take, List.getElem?_drop] at hj
      split at hj
      · rw [show (φ l).2 + off + j = (φ l).2 + (off + j) from by omega]; exact hcell _ _ hj
      · cases hj
    rw [run_v (s := Instr.loadAt t _) (v := .agg ((vs.drop off).take i.size).toArray) (w' := w) (by unfold Instr.loadAt Instr.sureAddr; rw [run_bnd (run_pur _)]; exact hload)]
    exact Step.same hk (hv _ (RIL.take _ (RIL.drop _ hr)))
theorem load_one {t : TypeId} {d : TypeDesc} {x : Value} {l off sz : Nat} {cs : List IV} {g : Nat} {v : IV} (hk : HOK Γ w.heap φ H) (hd : P.underlying t = some d)
    (hg : isAggD d = false) (hx : RI Γ w.heap φ H (.ptr l off sz) x) (hl : H[l]? = some (.cells cs g)) (h1 : cs.length = sz) (h2 : cs[off]? = some v) :
    Step Γ φ H w ((do pure (Next.value (← Instr.loadAt t x)) : Sem Next).run P w) n v .none := by
  cases hx with
  | ptr _ _ _ a hdf hc =>
    have ha := (hc cs g hl).2 h1
    subst ha
    obtain ⟨vs, hr, hcell⟩ := hk.cells hl
    obtain ⟨u, hu, hru⟩ := RIL.get hr off v h2
    rw [run_v (s := Instr.loadAt t _) (v := u) (w' := w) (by unfold Instr.loadAt Instr.sureAddr; rw [run_bnd (run_pur _)]; exact run_loadVar_one hd (by rw [isAggT_of hd]; exact hg) (hcell _ _ hu))]
    exact Step.same hk hru
theorem loadC_sound {t : TypeId} {iv v : IV} {x : Value} {cl : Cl} {eff : Eff} {obs : List Prop} {hp : Nat → Option MObj} (hhp : ∀ l o, hp l = some o → H[l]? = some o) (hk : HOK Γ w.heap φ H) (hx : RI Γ w.heap φ H iv x)
    (hc : loadC P hp t iv cl = some (v, eff, obs)) (ho : All obs) : Step Γ φ H w ((do pure (Next.value (← Instr.loadAt t x)) : Sem Next).run P w) n v eff := by
  unfold loadC at hc
  split at hc
  · cases hc
  · rename_i d i htd
    obtain ⟨hd, hi⟩ := td_spec htd
    split at hc
    · rename_i hg
      split at hc
      · rename_i cs
        have key : i.size ≤ cs.length → Step Γ φ H w ((do pure (Next.value (← Instr.loadAt t x)) : Sem Next).run P w) n (.p (.agg (cs.take i.size))) .none := by
          intro hle'
          cases hx with
          | p _ _ hr =>
            cases hr with
            | ref _ a vs hread hnx hl =>
              have hlen := RPL.length hl
              rw [run_v (s := Instr.loadAt t _) (v := .agg (vs.take i.size).toArray) (w' := w) (by
                unfold Instr.loadAt Instr.sureAddr; rw [run_bnd (run_pur _)]
                exact run_loadVar_agg hd hi (by rw [isAggT_of hd]; exact hg) (by simp; omega) fun j v hj => by
                  simp only [List.getElem?_take] at hj
                  split at hj
                  · exact hread.cell j v hj
                  · cases hj)]
              exact Step.same hk (.p _ _ (.agg _ _ (RPL.take _ hl)))
        split at hc
        · cases hc
          obtain ⟨o1, o2, _⟩ := ho
          have := key o1
          rw [o2] at this; exact this
        · split at hc
          · rename_i hle
            cases hc
            exact key (Nat.le_of_ble_eq_true hle)
          · cases hc
      · rename_i l off sz
        split at hc
        · rename_i cs g hl
          split at hc
          · rename_i v'
            split at hc
            · rename_i haf
              cases hc
              obtain ⟨o1, o2, o3, _⟩ := ho
              exact load_agg hk hd hi hg hx (hhp _ _ hl) o1 o2 fun vs hvs => aggForm_sound haf (by rw [← o3]; exact hvs)
            · cases hc
          · split at hc
            · rename_i hb1 hb2
              cases hc
              exact load_agg hk hd hi hg hx (hhp _ _ hl) (Nat.eq_of_beq_eq_true hb1) (Nat.le_of_ble_eq_true hb2) fun vs hvs => mkAgg_sound hvs
            · cases hc
        · cases hc
      · cases hc
    · rename_i hg
      split at hc
      · rename_i c r
        cases hc
        cases hx with
        | p _ _ hr =>
          cases hr with
          | ref _ a vs hread hnx hl =>
            cases hl with
            | cons _ u _ us h1 h2 =>
              rw [run_v (s := Instr.loadAt t _) (v := u) (w' := w) (by
                unfold Instr.loadAt Instr.sureAddr; rw [run_bnd (run_pur _)]
                have := hread.cell 0 u rfl
                exact run_loadVar_one hd (by rw [isAggT_of hd]; exact hg) this)]
              exact Step.same hk (.p _ _ h1)
      · rename_i l off sz
        split at hc
        · rename_i cs g hl
          split at hc
          · cases hc
            obtain ⟨o1, o2, _⟩ := ho
            exact load_one hk hd hg hx (hhp _ _ hl) o1 o2
          · split at hc
            · rename_i hb1 hb2
              cases hc
              exact load_one hk hd hg hx (hhp _ _ hl) (Nat.eq_of_beq_eq_true hb1) hb2
            · cases hc
        · cases hc
      · cases hc
end
end Go.Idl
set_option linter.unusedSimpArgs false
set_option linter.unusedVariables false
namespace Go.Idl
open Go
section
variable {P : Program} {Γ : Cx} {φ : Plc} {H : List MObj} {w : World} {n : Nat}
theorem get_push {α : Type} (h : Array α) (o : α) (b : Nat) : (h.push o)[b]? = if b = h.size then some o else h[b]? := by
  rw [Array.getElem?_push]
theorem push_keep (o : Obj) (b : Nat) (hb : b < w.heap.size) : (w.heap.push o)[b]? = w.heap[b]? := by rw [get_push, if_neg (by omega)]
theorem step_newCells {nx : Next} {v : Value} {cs : List IV} {g : Nat} {arr : Array Value} {t : TypeId} {iv : IV} (hk : HOK Γ w.heap φ H) (hX : ∀ b, Γ.X b → b < w.heap.size) (hf : Free n H)
    (hn : nextVal nx = some v) (hcs : ∃ vs : List Value, RIL Γ w.heap φ H cs vs ∧ ∀ (j : Nat) (v : Value), vs[j]? = some v → arr[j]? = some v)
    (hle : cs.length ≤ arr.size)
    (hv : ∀ φ' H' h', Ext φ H w.heap φ' H' h' → H'[n]? = some (.cells cs g) → φ' n = (w.heap.size, 0) → h'[w.heap.size]? = some (.cells arr t (0, 0)) → RI Γ h' φ' H' iv v) :
    Step Γ φ H w (.ok nx { w with heap := w.heap.push (.cells arr t) }) n iv (.new (.cells cs g)) := by
  have hb : (w.heap.push (Obj.cells arr t))[w.heap.size]? = some (.cells arr t (0, 0)) := by rw [get_push, if_pos rfl]
  obtain ⟨hk', he⟩ := hk.new (h' := w.heap.push (.cells arr t)) (pl := (w.heap.size, 0)) hX hf (o' := .cells cs g) rfl (by simp) (fun b hb => push_keep _ b hb) (by simp) (fun e => by
    refine ⟨arr, t, by rw [upd_same]; exact hb, by rw [upd_same]; simpa using hle, fun i iv hi => ?_⟩
    obtain ⟨vs, h1, h2⟩ := hcs
    obtain ⟨u, hu, hr⟩ := RIL.get h1 i iv hi
    exact ⟨u, by rw [upd_same]; simpa using h2 i u hu, hr.ext e⟩)
  refine ⟨nx, v, _, _, rfl, hn, hk', he, hv _ _ _ he ?_ (by simp) hb, ⟨rfl, rfl, rfl⟩⟩
  show (putAt n (MObj.cells cs g) H)[n]? = _
  unfold putAt
  rcases hf with rfl | hf
  · rw [show Nat.blt H.length H.length = false from by cases h : Nat.blt H.length H.length with | false => rfl | true => (rw [Nat.blt_eq] at h; omega)]
    simp
  · have := lt_of_lget hf
    rw [show Nat.blt n H.length = true from by simpa [Nat.blt_eq] using this]
    simp [List.getElem?_set, this]
theorem step_newVar {cs : List IV} {arr : Array Value} {t : TypeId} (hk : HOK Γ w.heap φ H) (hX : ∀ b, Γ.X b → b < w.heap.size) (hf : Free n H) (hcs : RIL Γ w.heap φ H cs arr.toList) :
    Step Γ φ H w (.ok (.value (.pointer (some ⟨w.heap.size, 0, none⟩))) { w with heap := w.heap.push (.cells arr t) }) n (.ptr n 0 cs.length) (.new (.cells cs 0)) := by
  have hlen := RIL.length hcs
  refine step_newCells hk hX hf rfl ⟨arr.toList, hcs, fun j v hj => by simpa using hj⟩ (by rw [hlen]; simp) fun φ' H' h' e hn hp hb => ?_
  exact .ptr _ _ _ _ ⟨_, hn, by simp⟩ fun cs' g' hc => by rw [hn] at hc; cases hc; exact ⟨Nat.le_refl _, fun _ => by rw [hp]⟩
theorem step_imm {v : Value} {iv : IV} {arr : Array Value} {t : TypeId} (hk : HOK Γ w.heap φ H)
    (hv : ∀ h' : Hp, (∀ b : Nat, b < w.heap.size → h'[b]? = w.heap[b]?) → h'[w.heap.size]? = some (.cells arr t (0, 0)) → Ext φ H w.heap φ H h' → RI Γ h' φ H iv v) :
    Step Γ φ H w (.ok (.value v) { w with heap := w.heap.push (.cells arr t) }) n iv .none := by
  have hb : (w.heap.push (Obj.cells arr t))[w.heap.size]? = some (.cells arr t (0, 0)) := by rw [get_push, if_pos rfl]
  obtain ⟨hk', he⟩ := hk.keepAll (h' := w.heap.push (.cells arr t)) (by simp) fun b hb => push_keep _ b hb
  exact ⟨_, v, φ, _, rfl, rfl, hk', he, hv _ (fun b hb => push_keep _ b hb) hb he, ⟨rfl, rfl, rfl⟩⟩
theorem fresh_free (hk : HOK Γ w.heap φ H) (hX : ∀ b, Γ.X b → b < w.heap.size) : ¬ (Γ.X w.heap.size ∨ Own φ H w.heap.size) := by
  rintro (hx | ⟨l, o, h1, h2, h3⟩)
  · exact absurd (hX _ hx) (by omega)
  · have := (hk.lt l o h1 h2).1; omega
end
def allocC (P : Program) (n : Nat) (t : TypeId) : OR :=
  match tzero P t with
  | some z => match z with
    | .junk => none
    | z => some (.ptr n 0 z.cells.length, .new (.cells (z.cells.map .p) 0), [])
  | none => none
def boxC (n : Nat) (x : IV) (cl : Cl) : OR :=
  match solid x with
  | false => none
  | true => match x, cl with
    | .p v, .imm => some (.p (.ref v.cells), .none, [])
    | v, _ => some (.ptr n 0 v.cells.length, .new (.cells v.cells 0), [])
section
variable {P : Program} {Γ : Cx} {φ : Plc} {H : List MObj} {w : World} {n : Nat}
theorem tzero_spec {t : TypeId} {z : PV} (h : tzero P t = some z) : ∃ i v, P.info? t = some i ∧ i.zero = some v ∧ constV v = some z := by
  unfold tzero at h
  split at h
  · rename_i i hi
    split at h
    · rename_i v hv; exact ⟨i, v, hi, hv, h⟩
    · cases h
  · cases h
theorem allocC_sound {t : TypeId} {iv : IV} {eff : Eff} {obs : List Prop} (hk : HOK Γ w.heap φ H) (hX : ∀ b, Γ.X b → b < w.heap.size) (hf : Free n H) (hc : allocC P n t = some (iv, eff, obs)) :
    Step Γ φ H w ((do pure (Next.value (← Instr.alloc t true (.tuple #[]))) : Sem Next).run P w) n iv eff := by
  unfold allocC at hc
  split at hc
  · rename_i z hz
    split at hc
    · cases hc
    · rename_i hnj
      cases hc
      obtain ⟨i, v, hi, hv, hcv⟩ := tzero_spec hz
      have hr : RI Γ w.heap φ H (.p z) v := .p _ _ (constV_sound _ _ _ _ hcv)
      have hcells := RI.cells hr (by cases z <;> simp_all [solid])
      rw [run_v (s := Instr.alloc t true (.tuple #[])) (v := .pointer (some ⟨w.heap.size, 0, none⟩)) (w' := { w with heap := w.heap.push (.cells v.cells t) }) (by
        unfold Instr.alloc; rw [run_bnd (run_zeroValue hi hv)]
        simp only []
        rw [run_bnd (run_newVar t v)]; rfl)]
      have := step_newVar (t := t) hk hX hf hcells
      simpa [IV.cells] using this
  · cases hc
theorem boxC_sound {t : TypeId} {x : Value} {xi iv : IV} {cl : Cl} {eff : Eff} {obs : List Prop} (hk : HOK Γ w.heap φ H) (hX : ∀ b, Γ.X b → b < w.heap.size) (hf : Free n H) (hx : RI Γ w.heap φ H xi x)
    (hc : boxC n xi cl = some (iv, eff, obs)) : Step Γ φ H w ((do pure (Next.value (← Instr.box t x)) : Sem Next).run P w) n iv eff := by
  unfold boxC at hc
  have hrun : (do pure (Next.value (← Instr.box t x)) : Sem Next).run P w = .ok (.value (.pointer (some ⟨w.heap.size, 0, none⟩))) { w with heap := w.heap.push (.cells x.cells t) } :=
    run_v (by unfold Instr.box; rw [run_bnd (run_newVar t x)]; rfl)
  rw [hrun]
  split at hc
  · cases hc
  · rename_i hs
    have hcells := RI.cells hx hs
    split at hc
    · rename_i v
      cases hc
      refine step_imm hk fun h' keep hb e => .p _ _ (.ref _ _ x.cells.toList ⟨rfl, _, _, _, hb, fun i u hu => by simpa using hu⟩ ?_ ?_)
      · rintro (h1 | h1)
        · exact fresh_free hk hX (.inl h1)
        · exact fresh_free hk hX (.inr h1)
      · exact (RIL.pure hcells).keeps e.keeps
    · cases hc
      exact step_newVar hk hX hf hcells
end
def scalarI : IV → Bool
  | .p (.agg _) => false
  | .p (.tup _) => false
  | .p .junk => false
  | .agg _ => false
  | .tup _ => false
  | _ => true
def scalars : List IV → Bool
  | [] => true
  | v :: r => match scalarI v with | true => scalars r | false => false
def storeC (P : Program) (hp : Nat → Option MObj) (t : TypeId) (x v : IV) (cl : Cl) : OR :=
  match P.info? t with
  | none => none
  | some i => match cl with
   | .ap cs' _ _ => (match x, solid v with
    | .ptr l off sz, true => (match hp l with
      | some (.cells cs g) => some (.p .junk, .set l (.cells cs' g), [v.cells.length = i.size, scalars v.cells = true, cs.length = sz, off + i.size ≤ sz, putCells cs off v.cells = cs'])
      | _ => none)
    | _, _ => none)
   | _ => match solid v, Nat.beq v.cells.length i.size, scalars v.cells with
    | true, true, true => match x with
      | .ptr l off sz => match hp l with
        | some (.cells cs g) => match cl with
          | .cs cs' => some (.p .junk, .set l (.cells cs' g), [cs.length = sz, off + i.size ≤ sz, putCells cs off v.cells = cs'])
          | _ => match Nat.beq cs.length sz, Nat.ble (off + i.size) sz with
            | true, true => some (.p .junk, .set l (.cells (putCells cs off v.cells) g), [])
            | _, _ => none
        | _ => none
      | _ => none
    | _, _, _ => none
theorem putCells_length : ∀ (vs cs : List IV) (off : Nat), (putCells cs off vs).length = cs.length
  | [], _, _ => rfl
  | v :: r, cs, off => by rw [putCells, putCells_length r]; simp
theorem putCells_get : ∀ (vs cs : List IV) (off k : Nat), off + vs.length ≤ cs.length → (putCells cs off vs)[k]? = if off ≤ k then (if k < off + vs.length then vs[k - off]? else cs[k]?) else cs[k]?
  | [], cs, off, k, _ => by
    simp only [putCells, List.length_nil, Nat.add_zero]
    split
    · rw [if_neg (by omega)]
    · rfl
  | v :: r, cs, off, k, hle => by
    simp only [List.length_cons] at hle
    rw [putCells, putCells_get r _ _ _ (by simp; omega)]
    simp only [List.length_cons]
    by_cases h1 : off ≤ k
    · rw [if_pos h1]
      by_cases h2 : off = k
      · subst h2
        rw [if_neg (by omega), if_pos (by omega)]
        simp [List.getElem?_set]
        omega
      · rw [if_pos (by omega)]
        by_cases h3 : k < off + 1 + r.length
        · rw [if_pos h3, if_pos (by omega), show k - off = (k - (off + 1)) + 1 from by omega]; simp
        · rw [if_neg h3, if_neg (by omega)]
          simp [List.getElem?_set, h2]
    · rw [if_neg h1, if_neg (by omega)]
      simp [List.getElem?_set]
      omega
section
variable {P : Program} {Γ : Cx} {φ : Plc} {H : List MObj} {w : World} {n : Nat}
theorem scalarI_sound {iv : IV} {v : Value} (hs : scalarI iv = true) (hr : RI Γ w.heap φ H iv v) : scalarV v = true := by
  cases hr with
  | p p x hp => cases hp <;> simp_all [scalarI, scalarV]
  | _ => simp_all [scalarI, scalarV]
theorem scalars_sound : ∀ {cs : List IV} {vs : List Value}, scalars cs = true → RIL Γ w.heap φ H cs vs → ∀ v ∈ vs, scalarV v = true
  | [], _, _, .nil, v, hv => by cases hv
  | c :: cs, _, hs, .cons _ u _ us h1 h2, v, hv => by
    simp only [scalars] at hs
    split at hs
    · rename_i hc
      rcases List.mem_cons.1 hv with rfl | hv
      · exact scalarI_sound hc h1
      · exact scalars_sound hs h2 v hv
    · cases hs
theorem put_cells (hk : HOK Γ w.heap φ H) (hX : ∀ b, Γ.X b → b < w.heap.size) {l off : Nat} {cs vs : List IV} {g : Nat} {us : List Value} (hl : H[l]? = some (.cells cs g)) (hle : off + vs.length ≤ cs.length)
    (hv : RIL Γ w.heap φ H vs us) (hs : ∀ v ∈ us, scalarV v = true) :
    ∃ w', (storeCells ⟨(φ l).1, (φ l).2 + off, none⟩ us).run P w = .ok () w' ∧ HOK Γ w'.heap φ (H.set l (.cells (putCells cs off vs) g)) ∧
      Ext φ H w.heap φ (H.set l (.cells (putCells cs off vs) g)) w'.heap ∧ WSame w w' := by
  obtain ⟨arr, t, h1, h2, h3⟩ := hk.obj l _ hl
  have hlen := RIL.length hv
  obtain ⟨w', k1, k2, k3, k4, k5⟩ := run_storeCells (P := P) ⟨(φ l).1, (φ l).2 + off, none⟩ rfl us 0 w arr t hs h1 (by simp; omega)
  replace k2 : w'.heap[(φ l).1]? = some (.cells (arrPut arr ((φ l).2 + off) us) t (0, 0)) := k2
  have hupd : upd φ l (φ l) = φ := by funext k; unfold upd; split <;> simp_all
  have := hk.put (h' := w'.heap) (o' := .cells (putCells cs off vs) g) (pl := φ l) hX hl (by simp) rfl (by omega)
    (fun b hb hn => k3 b fun he => hn ⟨rfl, he⟩)
    (fun _ arr' t' fr' hb => by rw [h1] at hb; cases hb; exact ⟨_, k2, arrPut_size _ _ _⟩) (.inl ⟨rfl, rfl⟩)
    (fun _ => ⟨rfl, by simp [MObj.csize, putCells_length], fun _ => rfl⟩)
    (fun e => by
      rw [hupd] at e ⊢
      refine ⟨_, t, k2, by rw [arrPut_size, putCells_length]; exact h2, fun i iv hi => ?_⟩
      rw [putCells_get _ _ _ _ hle] at hi
      rw [arrPut_get _ _ _ _ (by omega)]
      by_cases c1 : off ≤ i
      · rw [if_pos c1] at hi
        by_cases c2 : i < off + vs.length
        · rw [if_pos c2] at hi
          obtain ⟨u, hu, hr⟩ := RIL.get hv _ _ hi
          refine ⟨u, ?_, hr.ext e⟩
          rw [if_pos (by omega), if_pos (by omega)]
          rw [← hu]; congr 1; omega
        · rw [if_neg c2] at hi
          obtain ⟨u, hu, hr⟩ := h3 i iv hi
          refine ⟨u, ?_, hr.ext e⟩
          rw [if_pos (by omega), if_neg (by omega)]; exact hu
      · rw [if_neg c1] at hi
        obtain ⟨u, hu, hr⟩ := h3 i iv hi
        refine ⟨u, ?_, hr.ext e⟩
        rw [if_neg (by omega)]; exact hu)
  rw [hupd] at this
  exact ⟨w', k1, this.1, this.2, k5⟩
theorem storeC_sound {t : TypeId} {x v : Value} {xi vi iv : IV} {cl : Cl} {eff : Eff} {obs : List Prop} {hp : Nat → Option MObj} (hhp : ∀ l o, hp l = some o → H[l]? = some o) (hk : HOK Γ w.heap φ H)
    (hX : ∀ b, Γ.X b → b < w.heap.size) (hx : RI Γ w.heap φ H xi x) (hv : RI Γ w.heap φ H vi v) (hc : storeC P hp t xi vi cl = some (iv, eff, obs)) (ho : All obs) :
    Step Γ φ H w ((do Instr.storeAt t x v; pure Next.skip : Sem Next).run P w) n iv eff := by
  unfold storeC at hc
  split at hc
  · cases hc
  · rename_i i hi
    have key : solid vi = true → vi.cells.length = i.size → scalars vi.cells = true → ∀ l off sz, xi = .ptr l off sz → ∀ cs g, H[l]? = some (.cells cs g) → cs.length = sz → off + i.size ≤ sz →
        Step Γ φ H w ((do Instr.storeAt t x v; pure Next.skip : Sem Next).run P w) n (.p .junk) (.set l (.cells (putCells cs off vi.cells) g)) := by
      intro hsol hsz' hsc l off sz hxi cs g hl h1 h2
      subst hxi
      have hcells := RI.cells hv hsol
      have hscal := scalars_sound hsc hcells
      cases hx with
      | ptr _ _ _ a hdf hc =>
        have ha := (hc cs g hl).2 h1
        subst ha
        obtain ⟨w', k1, k2, k3, k4⟩ := put_cells (P := P) (off := off) hk hX hl (by omega) hcells hscal
        rw [run_u (s := Instr.storeAt t _ v) (w' := w') (by
          unfold Instr.storeAt Instr.sureAddr; rw [run_bnd (run_pur _), run_storeVar hi (by rw [← hsz']; have := RIL.length hcells; simpa using this.symm)]; exact k1)]
        exact ⟨_, _, φ, w', rfl, rfl, k2, k3, .p _ _ (.junk _), k4⟩
    split at hc
    · split at hc
      · rename_i l off sz hsol
        split at hc
        · rename_i cs g hl
          cases hc
          obtain ⟨o1, o2, o3, o4, o5, _⟩ := ho
          have := key hsol o1 o2 l off sz rfl cs g (hhp _ _ hl) o3 o4
          rw [o5] at this; exact this
        · cases hc
      · cases hc
    · split at hc
      · rename_i hsol hsz hsc
        split at hc
        · rename_i l off sz
          have key := key hsol (Nat.eq_of_beq_eq_true hsz) hsc l off sz rfl
          split at hc
          · rename_i cs g hl
            split at hc
            · cases hc
              obtain ⟨o1, o2, o3, _⟩ := ho
              have := key cs g (hhp _ _ hl) o1 o2
              rw [o3] at this; exact this
            · split at hc
              · rename_i hb1 hb2
                cases hc
                exact key cs g (hhp _ _ hl) (Nat.eq_of_beq_eq_true hb1) (Nat.le_of_ble_eq_true hb2)
              · cases hc
          · cases hc
        · cases hc
      · cases hc
end
def fieldAddrC (P : Program) (s : TypeId) (x : IV) (f : Nat) : OR :=
  match P.underlying s with
  | some (.struct fs) => match fs[f]? with
    | some fd => match P.info? fd.type with
      | some i => match i.size with
        | 0 => none
        | _ + 1 => match x with
          | .p (.ref cs) => some (.p (.ref (cs.drop fd.offset)), .none, [])
          | .ptr l off sz => some (.ptr l (off + fd.offset) sz, .none, [])
          | _ => none
      | none => none
    | none => none
  | _ => none
section
variable {P : Program} {Γ : Cx} {φ : Plc} {H : List MObj} {w : World} {n : Nat}
theorem RI.ptr_add {l off sz k : Nat} {x : Value} (hx : RI Γ w.heap φ H (.ptr l off sz) x) : ∃ a : Addr, x = .pointer (some a) ∧ RI Γ w.heap φ H (.ptr l (off + k) sz) (.pointer (some (a.add k))) := by
  cases hx with
  | ptr _ _ _ a hdf hc =>
    refine ⟨a, rfl, .ptr _ _ _ _ hdf fun cs g hl => ⟨(hc cs g hl).1, fun he => ?_⟩⟩
    have := (hc cs g hl).2 he
    subst this
    rw [addr_add _ _ rfl]; simp; omega
theorem RI.ref_add {cs : List PV} {k : Nat} {x : Value} (hx : RI Γ w.heap φ H (.p (.ref cs)) x) : ∃ a : Addr, x = .pointer (some a) ∧ RI Γ w.heap φ H (.p (.ref (cs.drop k))) (.pointer (some (a.add k))) := by
  cases hx with
  | p _ _ hr =>
    cases hr with
    | ref _ a vs hread hnx hl =>
      refine ⟨a, rfl, .p _ _ (.ref _ _ (vs.drop k) ?_ ?_ (RPL.drop k hl))⟩
      · obtain ⟨hs, arr, t, fr, hb, hv⟩ := hread
        rw [addr_add a k hs]
        exact ⟨rfl, arr, t, fr, hb, fun i v hi => by rw [show a.off + k + i = a.off + (k + i) from by omega]; exact hv _ _ (by simpa using hi)⟩
      · obtain ⟨hs, _⟩ := hread
        rw [addr_add a k hs]; exact hnx
theorem fieldAddrC_sound {s : TypeId} {f : Nat} {x : Value} {xi iv : IV} {eff : Eff} {obs : List Prop} (hk : HOK Γ w.heap φ H) (hx : RI Γ w.heap φ H xi x) (hc : fieldAddrC P s xi f = some (iv, eff, obs)) :
    Step Γ φ H w ((do pure (Next.value (← Instr.fieldAt s x f)) : Sem Next).run P w) n iv eff := by
  unfold fieldAddrC at hc
  split at hc
  · rename_i fs hu
    split at hc
    · rename_i fd hf
      split at hc
      · rename_i i hi
        split at hc
        · cases hc
        · rename_i m hm
          have run : ∀ a : Addr, x = .pointer (some a) → (do pure (Next.value (← Instr.fieldAt s x f)) : Sem Next).run P w = .ok (.value (.pointer (some (a.add fd.offset)))) w := by
            rintro a rfl
            refine run_v ?_
            unfold Instr.fieldAt
            rw [run_bnd (run_underlying hu)]
            simp only [hf, Instr.sureAddr]
            rw [run_bnd (run_pur _)]
            have : (fieldPlace a fd).run P w = .ok (a.add fd.offset) w := by
              unfold fieldPlace; rw [run_bnd (run_sizeOf hi), hm]; rfl
            rw [run_bnd this]; rfl
          split at hc
          · cases hc
            obtain ⟨a, rfl, hr⟩ := RI.ref_add (k := fd.offset) hx
            rw [run a rfl]; exact Step.same hk hr
          · cases hc
            obtain ⟨a, rfl, hr⟩ := RI.ptr_add (k := fd.offset) hx
            rw [run a rfl]; exact Step.same hk hr
          · cases hc
      · cases hc
    · cases hc
  · cases hc
end
def indexAddrC (P : Program) (t : TypeId) (x ix : IV) (cl : Cl) : OR :=
  match P.underlying t, ix with
  | some (.slice e), .p (.int _ k) => match P.info? e with
    | some i => match x with
      | .p (.sl xs _) => match cl with
        | .iv (.p v) => match Nat.beq v.cells.length i.size with
          | true => some (.p (.ref v.cells), .none, [slGet xs k = some v])
          | false => none
        | _ => match slGet xs k with
          | some v => match Nat.beq v.cells.length i.size with
            | true => some (.p (.ref v.cells), .none, [])
            | false => none
          | none => none
      | .msl l off len sz _ => some (.ptr l (off + k.toNat * i.size) sz, .none, [0 ≤ k, k < (len : Int)])
      | _ => none
    | none => none
  | some (.array m e), .p (.int _ k) => match P.info? e with
    | some i => match x with
      | .p (.ref cs) => match cl with
        | .iv (.p v) => some (.p (.ref v.cells), .none, [0 ≤ k, k < (m : Int), (cs.drop (k.toNat * i.size)).take i.size = v.cells])
        | _ => some (.p (.ref (cs.drop (k.toNat * i.size))), .none, [0 ≤ k, k < (m : Int)])
      | .ptr l off sz => some (.ptr l (off + k.toNat * i.size) sz, .none, [0 ≤ k, k < (m : Int)])
      | _ => none
    | none => none
  | _, _ => none
theorem slGet_some {xs : List PV} {k : Int} {v : PV} (h : slGet xs k = some v) : 0 ≤ k ∧ xs[k.toNat]? = some v := by
  unfold slGet at h; split at h
  · rename_i hk; exact ⟨hk, h⟩
  · cases h
theorem flat_at {es : Nat} : ∀ (xs : List PV) (i : Nat) (v : PV), (∀ y ∈ xs, y.cells.length = es) → xs[i]? = some v → ((xs.flatMap PV.cells).drop (i * es)).take es = v.cells
  | [], i, v, _, h => by simp at h
  | x :: xs, 0, v, he, h => by
    simp at h; subst h
    have := he x (by simp)
    simp [List.flatMap_cons, ← this]
  | x :: xs, i + 1, v, he, h => by
    have hx := he x (by simp)
    rw [List.flatMap_cons, show (i + 1) * es = x.cells.length + i * es from by rw [hx, Nat.succ_mul]; omega, ← List.drop_drop, List.drop_left]
    exact flat_at xs i v (fun y hy => he y (by simp [hy])) (by simpa using h)
section
variable {P : Program} {Γ : Cx} {φ : Plc} {H : List MObj} {w : World} {n : Nat}
theorem RP.elem {X : Nat → Prop} {h : Hp} {xs : List PV} {x : Bool} {u : Value} {i es : Nat} {v : PV} (hr : RP h X (.sl xs x) u) (hv : xs[i]? = some v) (hes : v.cells.length = es) :
    ∃ (a : Addr) (cap : Nat), u = .slice (some a) xs.length cap ∧ RP h X (.ref v.cells) (.pointer (some (a.add (i * es)))) := by
  cases hr with
  | sl _ _ a cap es' vs hread hnx hl he hc hxc =>
    have he0 : es' = es := by rw [← hes]; exact (he v (List.mem_of_getElem? hv)).symm
    subst he0
    refine ⟨a, cap, rfl, .ref _ _ ((vs.drop (i * es')).take es') ?_ ?_ ?_⟩
    · obtain ⟨hs, arr, t, fr, hb, hv'⟩ := hread
      rw [addr_add a _ hs]
      refine ⟨rfl, arr, t, fr, hb, fun j z hj => ?_⟩
      simp only [List.getElem?_take, List.getElem?_drop] at hj
      split at hj
      · rw [show a.off + i * es' + j = a.off + (i * es' + j) from by omega]; exact hv' _ _ hj
      · cases hj
    · obtain ⟨hs, _⟩ := hread
      rw [addr_add a _ hs]; exact hnx
    · rw [← flat_at xs i v he hv]; exact RPL.take _ (RPL.drop _ hl)
  | sl0 _ => simp at hv
theorem run_indexAt_slice {t e : TypeId} {i : TypeInfo} {a : Addr} {len cap : Nat} {kk : IntKind} {k : Int} (hu : P.underlying t = some (.slice e)) (hi : P.info? e = some i) (h0 : 0 ≤ k) (h1 : k < len) :
    (do pure (Next.value (← Instr.indexAt t (.slice (some a) len cap) (.int kk k))) : Sem Next).run P w = .ok (.value (.pointer (some (a.add (k.toNat * i.size))))) w := by
  refine run_v ?_
  unfold Instr.indexAt
  rw [run_bnd (show (asIntOf (.int kk k)).run P w = .ok (kk, k) w from rfl)]
  simp only []
  rw [run_bnd (run_underlying hu)]
  simp only []
  rw [run_bnd (run_pur _)]
  simp only []
  rw [run_bnd (run_underlying hu)]
  simp only [h0, h1, and_self, if_true]
  rw [run_bnd (run_sizeOf hi)]; rfl
theorem run_indexAt_array {t e : TypeId} {i : TypeInfo} {a : Addr} {m : Nat} {kk : IntKind} {k : Int} (hu : P.underlying t = some (.array m e)) (hi : P.info? e = some i) (h0 : 0 ≤ k) (h1 : k < m) :
    (do pure (Next.value (← Instr.indexAt t (.pointer (some a)) (.int kk k))) : Sem Next).run P w = .ok (.value (.pointer (some (a.add (k.toNat * i.size))))) w := by
  refine run_v ?_
  unfold Instr.indexAt
  rw [run_bnd (show (asIntOf (.int kk k)).run P w = .ok (kk, k) w from rfl)]
  simp only []
  rw [run_bnd (run_underlying hu)]
  simp only [Instr.sureAddr]
  rw [run_bnd (run_bnd (run_pur _))]
  rw [run_bnd (run_pur _)]
  rw [run_bnd (run_underlying hu)]
  simp only [h0, h1, and_self, if_true]
  rw [run_bnd (run_sizeOf hi)]; rfl
theorem indexAddrC_sound {t : TypeId} {x ix : Value} {xi ii iv : IV} {cl : Cl} {eff : Eff} {obs : List Prop} (hk : HOK Γ w.heap φ H) (hx : RI Γ w.heap φ H xi x) (hix : RI Γ w.heap φ H ii ix)
    (hc : indexAddrC P t xi ii cl = some (iv, eff, obs)) (ho : All obs) : Step Γ φ H w ((do pure (Next.value (← Instr.indexAt t x ix)) : Sem Next).run P w) n iv eff := by
  unfold indexAddrC at hc
  split at hc
  · rename_i e kk k hu
    obtain rfl : ix = .int kk k := by cases hix.p_inv; rfl
    split at hc
    · rename_i i hi
      split at hc
      · rename_i xs b
        have key : ∀ v, slGet xs k = some v → v.cells.length = i.size → Step Γ φ H w ((do pure (Next.value (← Instr.indexAt t x (.int kk k))) : Sem Next).run P w) n (.p (.ref v.cells)) .none := by
          intro v hv hsz
          obtain ⟨h0, hg⟩ := slGet_some hv
          obtain ⟨a, cap, rfl, hr⟩ := RP.elem hx.p_inv hg hsz
          have hlt := lt_of_lget hg
          rw [run_indexAt_slice hu hi h0 (by omega)]
          exact Step.same hk (.p _ _ hr)
        split at hc
        · rename_i v
          split at hc
          · rename_i hsz
            cases hc
            exact key v ho.1 (Nat.eq_of_beq_eq_true hsz)
          · cases hc
        · split at hc
          · rename_i v hv
            split at hc
            · rename_i hsz
              cases hc
              exact key v hv (Nat.eq_of_beq_eq_true hsz)
            · cases hc
          · cases hc
      · rename_i l off len sz b
        cases hc
        obtain ⟨h0, h1, _⟩ := ho
        cases hx with
        | msl _ _ _ _ _ a cap hdf hcc hle hxx =>
          rw [run_indexAt_slice hu hi h0 h1]
          refine Step.same hk (.ptr _ _ _ _ hdf fun cs g hl => ⟨(hcc cs g hl).1, fun he => ?_⟩)
          have := ((hcc cs g hl).2 he).1
          subst this
          rw [addr_add _ _ rfl]; simp; omega
      · cases hc
    · cases hc
  · rename_i m e kk k hu
    obtain rfl : ix = .int kk k := by cases hix.p_inv; rfl
    split at hc
    · rename_i i hi
      split at hc
      · rename_i cs
        obtain ⟨a, rfl, hr⟩ := RI.ref_add (k := k.toNat * i.size) hx
        split at hc
        · rename_i v
          cases hc
          obtain ⟨h0, h1, h2, _⟩ := ho
          rw [run_indexAt_array hu hi h0 h1]
          refine Step.same hk ?_
          rw [← h2]
          have hr' := hr.p_inv
          cases hr' with
          | ref _ _ vs hread hnx hl => exact .p _ _ (.ref _ _ (vs.take i.size) ⟨hread.1, by
              obtain ⟨arr, t, fr, hb, hv⟩ := hread.2
              exact ⟨arr, t, fr, hb, fun j z hj => by
                simp only [List.getElem?_take] at hj
                split at hj
                · exact hv j z hj
                · cases hj⟩⟩ hnx (RPL.take _ hl))
        · cases hc
          obtain ⟨h0, h1, _⟩ := ho
          rw [run_indexAt_array hu hi h0 h1]
          exact Step.same hk hr
      · rename_i l off sz
        cases hc
        obtain ⟨h0, h1, _⟩ := ho
        obtain ⟨a, rfl, hr⟩ := RI.ptr_add (k := k.toNat * i.size) hx
        rw [run_indexAt_array hu hi h0 h1]
        exact Step.same hk hr
      · cases hc
    · cases hc
  · cases hc
end
end Go.Idl
set_option linter.unusedSimpArgs false
set_option linter.unusedVariables false
namespace Go.Idl
open Go
def intR (k : IntKind) (v : Int) (cl : Cl) (obs : List Prop) : OR := match cl with
  | .n r => some (.p (.int k r), .none, (v = r) :: obs)
  | _ => some (.p (.int k v), .none, obs)
def boolR (v : Bool) (cl : Cl) (obs : List Prop) : OR := match cl with
  | .b d => some (.p (.bool d), .none, (v = d) :: obs)
  | _ => some (.p (.bool v), .none, obs)
def ibits (op : BinOp) (k : IntKind) (x y : Int) : Int :=
  match op with
  | .and => k.wrap (BitVec.ofInt k.bits x &&& BitVec.ofInt k.bits y).toNat
  | .or => k.wrap (BitVec.ofInt k.bits x ||| BitVec.ofInt k.bits y).toNat
  | .xor => k.wrap (BitVec.ofInt k.bits x ^^^ BitVec.ofInt k.bits y).toNat
  | _ => k.wrap (BitVec.ofInt k.bits x &&& ~~~BitVec.ofInt k.bits y).toNat
def kindEq : IntKind → IntKind → Bool
  | .i8, .i8 => true | .i16, .i16 => true | .i32, .i32 => true | .i64, .i64 => true
  | .u8, .u8 => true | .u16, .u16 => true | .u32, .u32 => true | .u64, .u64 => true
  | _, _ => false
theorem kindEq_spec {a b : IntKind} (h : kindEq a b = true) : a = b := by cases a <;> cases b <;> simp_all [kindEq]
def intBinC (op : BinOp) (k : IntKind) (a b : Int) (cl : Cl) : OR :=
  match op with
  | .add => intR k (k.wrap (a + b)) cl []
  | .sub => intR k (k.wrap (a - b)) cl []
  | .mul => intR k (k.wrap (a * b)) cl []
  | .quo => intR k (k.wrap (a.tdiv b)) cl [b ≠ 0]
  | .rem => intR k (a.tmod b) cl [b ≠ 0]
  | .and => intR k (ibits .and k a b) cl []
  | .or => intR k (ibits .or k a b) cl []
  | .xor => intR k (ibits .xor k a b) cl []
  | .andNot => intR k (ibits .andNot k a b) cl []
  | .eql => boolR (a == b) cl []
  | .neq => boolR (a != b) cl []
  | .lss => boolR (decide (a < b)) cl []
  | .leq => boolR (decide (a ≤ b)) cl []
  | .gtr => boolR (decide (a > b)) cl []
  | .geq => boolR (decide (a ≥ b)) cl []
  | _ => none
def shiftC (op : BinOp) (k : IntKind) (a b : Int) (cl : Cl) : OR :=
  match op with
  | .shl => intR k (k.wrap (a * 2 ^ (min b.toNat k.bits))) cl [0 ≤ b]
  | .shr => intR k (a.fdiv (2 ^ (min b.toNat k.bits))) cl [0 ≤ b]
  | _ => none
def isEq : BinOp → Option Bool
  | .eql => some true
  | .neq => some false
  | _ => none
section
variable {P : Program} {Γ : Cx} {φ : Plc} {H : List MObj} {w : World} {n : Nat}
theorem intR_sound {k : IntKind} {v : Int} {cl : Cl} {obs : List Prop} {iv : IV} {eff : Eff} {o : List Prop} (hk : HOK Γ w.heap φ H) (hc : intR k v cl o = some (iv, eff, obs)) (ho : All obs) :
    Step Γ φ H w (.ok (.value (.int k v)) w) n iv eff ∧ All o := by
  unfold intR at hc
  split at hc
  · cases hc; obtain ⟨rfl, h2⟩ := ho; exact ⟨Step.same hk (.p _ _ (.int _ _)), h2⟩
  · cases hc; exact ⟨Step.same hk (.p _ _ (.int _ _)), ho⟩
theorem boolR_sound {v : Bool} {cl : Cl} {obs : List Prop} {iv : IV} {eff : Eff} {o : List Prop} (hk : HOK Γ w.heap φ H) (hc : boolR v cl o = some (iv, eff, obs)) (ho : All obs) :
    Step Γ φ H w (.ok (.value (.bool v)) w) n iv eff ∧ All o := by
  unfold boolR at hc
  split at hc
  · cases hc; obtain ⟨rfl, h2⟩ := ho; exact ⟨Step.same hk (.p _ _ (.bool _)), h2⟩
  · cases hc; exact ⟨Step.same hk (.p _ _ (.bool _)), ho⟩
theorem intBinC_sound {op : BinOp} {k : IntKind} {a b : Int} {t : TypeId} {cl : Cl} {obs : List Prop} {iv : IV} {eff : Eff} (hk : HOK Γ w.heap φ H) (hc : intBinC op k a b cl = some (iv, eff, obs)) (ho : All obs) :
    Step Γ φ H w ((do pure (Next.value (← binOp op t (.int k a) (.int k b))) : Sem Next).run P w) n iv eff := by
  cases op <;> simp only [intBinC] at hc <;> first
    | cases hc
    | (obtain ⟨h1, h2⟩ := intR_sound hk hc ho; rw [run_v (w' := w)]; exact h1; first | rfl | (simp [binOp, Op.intArith] <;> rfl) | (simp [binOp, Op.intBits, ibits] <;> rfl) | (simp only [All] at h2; simp [binOp, Op.intDiv, h2.1] <;> rfl))
    | (obtain ⟨h1, h2⟩ := boolR_sound hk hc ho; rw [run_v (w' := w)]; exact h1; simp [binOp, Op.intCmp] <;> rfl)
theorem shiftC_sound {op : BinOp} {k yk : IntKind} {a b : Int} {t : TypeId} {cl : Cl} {obs : List Prop} {iv : IV} {eff : Eff} (hk : HOK Γ w.heap φ H) (hc : shiftC op k a b cl = some (iv, eff, obs)) (ho : All obs) :
    Step Γ φ H w ((do pure (Next.value (← binOp op t (.int k a) (.int yk b))) : Sem Next).run P w) n iv eff := by
  cases op <;> simp only [shiftC] at hc <;> first
    | cases hc
    | (obtain ⟨h1, h2⟩ := intR_sound hk hc ho; simp only [All] at h2; rw [run_v (w' := w)]; exact h1; simp [binOp, Op.shift, show ¬ b < 0 from by omega] <;> rfl)
end
end Go.Idl
set_option linter.unusedSimpArgs false
set_option linter.unusedVariables false
namespace Go.Idl
open Go
def partPV (P : Program) (t : TypeId) (xs : List PV) (off : Nat) : Option PV := match td P t with
  | some (d, i) => match isAggD d with
    | true => match Nat.ble (off + i.size) xs.length with | true => some (.agg ((xs.drop off).take i.size)) | false => none
    | false => xs[off]?
  | none => none
def eqFs (P : Program) (eq : TypeId → PV → PV → Option Bool) : List Field → List PV → List PV → Option Bool
  | [], _, _ => some true
  | f :: r, xs, ys => match decide (f.name = "_") with
    | true => none
    | false => match partPV P f.type xs f.offset, partPV P f.type ys f.offset with
      | some a, some b => match eq f.type a b, eqFs P eq r xs ys with
        | some u, some v => some (u && v)
        | _, _ => none
      | _, _ => none
def eqEs (P : Program) (eq : TypeId → PV → PV → Option Bool) (e : TypeId) (n : Nat) : Nat → Nat → List PV → List PV → Option Bool
  | 0, _, _, _ => some true
  | k + 1, i, xs, ys => match partPV P e xs (i * n), partPV P e ys (i * n) with
    | some a, some b => match eq e a b, eqEs P eq e n k (i + 1) xs ys with
      | some u, some v => some (u && v)
      | _, _ => none
    | _, _ => none
def eqPV (P : Program) : Nat → TypeId → PV → PV → Option Bool
  | 0, _, _, _ => none
  | d + 1, t, x, y => match P.underlying t with
    | some .bool => match x, y with | .bool a, .bool b => some (a == b) | _, _ => none
    | some (.int _) => match x, y with | .int k a, .int k' b => (match kindEq k k' with | true => some (a == b) | false => none) | _, _ => none
    | some (.struct fs) => match P.stoodInHeld t with
      | true => none
      | false => match x, y with | .agg xs, .agg ys => eqFs P (eqPV P d) fs.toList xs ys | _, _ => none
    | some (.array len e) => match P.info? e, x, y with
      | some i, .agg xs, .agg ys => eqEs P (eqPV P d) e i.size len 0 xs ys
      | _, _, _ => none
    | _ => none
section
variable {P : Program} {h : Hp} {X : Nat → Prop} {w : World}
theorem run_part {t : TypeId} {xs : List PV} {us : List Value} {off : Nat} {a : PV} (hr : RPL h X xs us) (hp : partPV P t xs off = some a) :
    ∃ u, (part t ⟨us⟩ off).run P w = .ok u w ∧ RP h X a u := by
  unfold partPV at hp
  split at hp
  · rename_i d i htd
    obtain ⟨hd, hi⟩ := td_spec htd
    have hlen := RPL.length hr
    unfold part
    rw [run_bnd (run_isAgg hd), isAggT_of hd]
    split at hp
    · rename_i hg
      split at hp
      · rename_i hle
        cases hp
        have hle' := Nat.le_of_ble_eq_true hle
        simp only [hg, if_true]
        rw [run_bnd (run_sizeOf hi)]
        refine ⟨_, rfl, ?_⟩
        have : (Array.mk us).extract off (off + i.size) = ⟨(us.drop off).take i.size⟩ := by
          apply Array.ext'; simp [Array.toList_extract, List.extract]
        rw [this]
        exact .agg _ _ (RPL.take _ (RPL.drop _ hr))
      · cases hp
    · rename_i hg
      simp only [hg]
      obtain ⟨u, hu, hru⟩ := RPL.get hr off a hp
      refine ⟨u, ?_, hru⟩
      have : (Array.mk us)[off]? = some u := by simpa using hu
      simp [this, run_pur]
  · cases hp
def EqOK (P : Program) (h : Hp) (X : Nat → Prop) (d : Nat) (eq : TypeId → PV → PV → Option Bool) : Prop :=
  ∀ t x y b u v (w : World), eq t x y = some b → RP h X x u → RP h X y v → (Op.equalIn d t u v).run P w = .ok b w
theorem eqFs_sound {d : Nat} {eq : TypeId → PV → PV → Option Bool} (he : EqOK P h X d eq) {xs ys : List PV} {us vs : List Value} (hx : RPL h X xs us) (hy : RPL h X ys vs) :
    ∀ (fs : List Field) (b : Bool) (w : World), eqFs P eq fs xs ys = some b → (Op.eqFields d ⟨us⟩ ⟨vs⟩ fs).run P w = .ok b w
  | [], b, w, hb => by simp [eqFs] at hb; subst hb; rfl
  | f :: r, b, w, hb => by
    simp only [eqFs] at hb
    split at hb
    · cases hb
    · rename_i hn
      split at hb
      · rename_i a c ha hc
        split at hb
        · rename_i p q hp hq
          cases hb
          have ih := eqFs_sound he hx hy r q w hq
          obtain ⟨ua, h1, r1⟩ := run_part (P := P) (w := w) hx ha
          obtain ⟨uc, h2, r2⟩ := run_part (P := P) (w := w) hy hc
          have h3 := he _ _ _ _ _ _ w hp r1 r2
          have hn' : f.name ≠ "_" := by simpa using hn
          rw [Op.eqFields, if_pos hn', run_bnd h1, run_bnd h2, run_bnd h3]
          cases p
          · simp [run_pur]
          · simpa using ih
        · cases hb
      · cases hb
theorem eqEs_sound {d n : Nat} {e : TypeId} {eq : TypeId → PV → PV → Option Bool} (he : EqOK P h X d eq) {xs ys : List PV} {us vs : List Value} (hx : RPL h X xs us) (hy : RPL h X ys vs) :
    ∀ (k i : Nat) (b : Bool) (w : World), eqEs P eq e n k i xs ys = some b → (Op.eqItems d e n ⟨us⟩ ⟨vs⟩ (List.range' i k)).run P w = .ok b w
  | 0, i, b, w, hb => by simp [eqEs] at hb; subst hb; rfl
  | k + 1, i, b, w, hb => by
    simp only [eqEs] at hb
    split at hb
    · rename_i a c ha hc
      split at hb
      · rename_i p q hp hq
        cases hb
        have ih := eqEs_sound he hx hy k (i + 1) q w hq
        obtain ⟨ua, h1, r1⟩ := run_part (P := P) (w := w) hx ha
        obtain ⟨uc, h2, r2⟩ := run_part (P := P) (w := w) hy hc
        have h3 := he _ _ _ _ _ _ w hp r1 r2
        rw [List.range'_succ, Op.eqItems, run_bnd h1, run_bnd h2, run_bnd h3]
        cases p
        · simp [run_pur]
        · simpa using ih
      · cases hb
    · cases hb
theorem eqPV_sound : ∀ (d : Nat), EqOK P h X d (eqPV P d)
  | 0 => fun t x y b u v w hb => by simp [eqPV] at hb
  | d + 1 => fun t x y b u v w hb hu hv => by
    simp only [eqPV] at hb
    split at hb
    · rename_i ht
      split at hb
      · cases hb; cases hu; cases hv
        simp [Op.equalIn, run_underlying ht, Go.run_underlying ht, Sem.run_bind, Result.andThen]
      · cases hb
    · rename_i kk ht
      split at hb
      · split at hb
        · rename_i hkk
          cases hb; cases hu; cases hv
          have := kindEq_spec hkk; subst this
          exact run_equalIn_int w d t _ _ _ _ ht
        · cases hb
      · cases hb
    · rename_i fs ht
      split at hb
      · cases hb
      · rename_i hs
        split at hb
        · cases hu with
          | agg _ us hus =>
            cases hv with
            | agg _ vs hvs =>
              have hf : P.fieldsOf t = fs := by simp [Program.fieldsOf, ht]
              rw [run_equalIn_struct (P := P) w d t _ _ (by rw [hf]; exact ht) hs, hf]
              exact eqFs_sound (eqPV_sound d) hus hvs _ _ _ hb
        · cases hb
    · rename_i len e ht
      split at hb
      · rename_i i xs ys hi
        cases hu with
        | agg _ us hus =>
          cases hv with
          | agg _ vs hvs =>
            rw [run_equalIn_array w d _ _ ht hi, List.range_eq_range', show P.cellsOf e = i.size from by simp [Program.cellsOf, hi]]
            exact eqEs_sound (eqPV_sound d) hus hvs _ _ _ _ hb
      · cases hb
    · cases hb
end
def nilOf (d : TypeDesc) (a b : IV) : Option (Bool × List Prop) := match d, b with
  | .slice _, .p .nilsl => (match a with
    | .p .nilsl => some (true, [])
    | .p (.sl xs _) => some (false, [xs ≠ []])
    | .p (.sle _) => some (false, [])
    | .msl _ _ _ _ _ => some (false, [])
    | _ => none)
  | .pointer _, .p .nilp => (match a with
    | .p .nilp => some (true, [])
    | .p (.ref _) => some (false, [])
    | .ptr _ _ _ => some (false, [])
    | _ => none)
  | .map _ _, .p .nilmap => (match a with
    | .p .nilmap => some (true, [])
    | .p (.map _ _) => some (false, [])
    | .mmap _ => some (false, [])
    | _ => none)
  | .func _ _ _, .p .nilfn => (match a with
    | .p .nilfn => some (true, [])
    | .p (.fn _ _ _) => some (false, [])
    | .fn _ _ _ => some (false, [])
    | _ => none)
  | _, _ => none
def nilC (P : Program) (op : BinOp) (t : TypeId) (a b : IV) : OR := match P.underlying t, isEq op with
  | some d, some e => (match nilOf d a b with
    | some (r, obs) => some (.p (.bool (match e with | true => r | false => !r)), .none, obs)
    | none => none)
  | _, _ => none
def binC (P : Program) (op : BinOp) (t : TypeId) (a b : IV) (cl : Cl) : OR :=
  match a, b with
  | .p (.int k x), .p (.int k' y) => match op with
    | .shl => shiftC .shl k x y cl
    | .shr => shiftC .shr k x y cl
    | op => match kindEq k k' with
      | true => intBinC op k x y cl
      | false => none
  | .p (.agg xs), .p (.agg ys) => match cl with
    | .call (.bool r) => match isEq op, P.eqGuardType P.depth t with
      | some true, false => some (.p (.bool r), .none, [eqPV P 10000 t (.agg xs) (.agg ys) = some r])
      | some false, false => some (.p (.bool (!r)), .none, [eqPV P 10000 t (.agg xs) (.agg ys) = some r])
      | _, _ => none
    | cl => match isEq op, P.eqGuardType P.depth t, eqPV P 10000 t (.agg xs) (.agg ys) with
      | some true, false, some r => boolR r cl []
      | some false, false, some r => boolR (!r) cl []
      | _, _, _ => none
  | .p (.bool x), .p (.bool y) => match P.underlying t, isEq op with
    | some .bool, some true => boolR (x == y) cl []
    | some .bool, some false => boolR (!(x == y)) cl []
    | _, _ => none
  | a, b => nilC P op t a b
section
variable {P : Program} {Γ : Cx} {φ : Plc} {H : List MObj} {w : World} {n : Nat}
theorem nilOf_sound {d : TypeDesc} {t : TypeId} {a b : Value} {ai bi : IV} {r : Bool} {obs : List Prop} (hd : P.underlying t = some d) (ha : RI Γ w.heap φ H ai a) (hb : RI Γ w.heap φ H bi b) (hn : nilOf d ai bi = some (r, obs)) (ho : All obs) (k : Nat) :
    (Op.equalIn (k + 1) t a b).run P w = .ok r w ∧ (∀ op x y, (eqGuard op t x y a b).run P w = .ok () w) ∧ (∀ op, isEq op = some true → (binOp op t a b).run P w = (Op.equal t a b >>= fun r => pure (.bool r)).run P w) ∧
      (∀ op, isEq op = some false → (binOp op t a b).run P w = (Op.equal t a b >>= fun r => pure (.bool (!r))).run P w) := by
  have fin : ∀ (a b : Value), (Op.equalIn (k + 1) t a b).run P w = .ok r w → (∀ op x y, (eqGuard op t x y a b).run P w = .ok () w) → (∀ op, isEq op = some true → (binOp op t a b).run P w = (Op.equal t a b >>= fun r => pure (.bool r)).run P w) →
      (∀ op, isEq op = some false → (binOp op t a b).run P w = (Op.equal t a b >>= fun r => pure (.bool (!r))).run P w) → _ := fun a b h1 h2 h3 h4 => And.intro h1 (And.intro h2 (And.intro h3 h4))
  unfold nilOf at hn
  split at hn
  · cases hb.p_inv
    split at hn
    · cases hn; cases ha.p_inv
      refine fin _ _ ?_ ?_ ?_ ?_
      · simp [Op.equalIn, _root_.Go.run_underlying hd]
      all_goals (intro op; cases op <;> simp [eqGuard, binOp, isEq])
    · cases hn; cases ha.p_inv
      · refine fin _ _ ?_ ?_ ?_ ?_
        · simp [Op.equalIn, _root_.Go.run_underlying hd]
        all_goals (intro op; cases op <;> simp [eqGuard, binOp, isEq])
      · exact absurd rfl ho.1
    · cases hn; cases ha.p_inv
      refine fin _ _ ?_ ?_ ?_ ?_
      · simp [Op.equalIn, _root_.Go.run_underlying hd]
      all_goals (intro op; cases op <;> simp [eqGuard, binOp, isEq])
    · cases hn; cases ha
      refine fin _ _ ?_ ?_ ?_ ?_
      · simp [Op.equalIn, _root_.Go.run_underlying hd]
      all_goals (intro op; cases op <;> simp [eqGuard, binOp, isEq])
    · cases hn
  · cases hb.p_inv
    split at hn
    · cases hn; cases ha.p_inv
      refine fin _ _ ?_ ?_ ?_ ?_
      · simp [Op.equalIn, _root_.Go.run_underlying hd]
      all_goals (intro op; cases op <;> simp [eqGuard, binOp, isEq])
    · cases hn; cases ha.p_inv
      refine fin _ _ ?_ ?_ ?_ ?_
      · simp [Op.equalIn, _root_.Go.run_underlying hd]
      all_goals (intro op; cases op <;> simp [eqGuard, binOp, isEq])
    · cases hn; cases ha
      refine fin _ _ ?_ ?_ ?_ ?_
      · simp [Op.equalIn, _root_.Go.run_underlying hd]
      all_goals (intro op; cases op <;> simp [eqGuard, binOp, isEq])
    · cases hn
  · cases hb.p_inv
    split at hn
    · cases hn; cases ha.p_inv
      refine fin _ _ ?_ ?_ ?_ ?_
      · simp [Op.equalIn, _root_.Go.run_underlying hd]
      all_goals (intro op; cases op <;> simp [eqGuard, binOp, isEq])
    · cases hn; cases ha.p_inv
      refine fin _ _ ?_ ?_ ?_ ?_
      · simp [Op.equalIn, _root_.Go.run_underlying hd]
      all_goals (intro op; cases op <;> simp [eqGuard, binOp, isEq])
    · cases hn; cases ha
      refine fin _ _ ?_ ?_ ?_ ?_
      · simp [Op.equalIn, _root_.Go.run_underlying hd]
      all_goals (intro op; cases op <;> simp [eqGuard, binOp, isEq])
    · cases hn
  · cases hb.p_inv
    split at hn
    · cases hn; cases ha.p_inv
      refine fin _ _ ?_ ?_ ?_ ?_
      · simp [Op.equalIn, _root_.Go.run_underlying hd]
      all_goals (intro op; cases op <;> simp [eqGuard, binOp, isEq])
    · cases hn; cases ha.p_inv
      refine fin _ _ ?_ ?_ ?_ ?_
      · simp [Op.equalIn, _root_.Go.run_underlying hd]
      all_goals (intro op; cases op <;> simp [eqGuard, binOp, isEq])
    · cases hn; cases ha
      refine fin _ _ ?_ ?_ ?_ ?_
      · simp [Op.equalIn, _root_.Go.run_underlying hd]
      all_goals (intro op; cases op <;> simp [eqGuard, binOp, isEq])
    · cases hn
  · cases hn
theorem nilC_sound {op : BinOp} {t : TypeId} {x y : Operand} {a b : Value} {ai bi iv : IV} {eff : Eff} {obs : List Prop} (hk : HOK Γ w.heap φ H) (ha : RI Γ w.heap φ H ai a) (hb : RI Γ w.heap φ H bi b)
    (hc : nilC P op t ai bi = some (iv, eff, obs)) (ho : All obs) :
    Step Γ φ H w ((do pure (Next.value (← (do eqGuard op t x y a b; binOp op t a b : Sem Value))) : Sem Next).run P w) n iv eff := by
  unfold nilC at hc
  split at hc
  · rename_i d e hd he
    split at hc
    · rename_i r obs' hn
      cases hc
      obtain ⟨g1, g2, g3, g4⟩ := nilOf_sound hd ha hb hn ho (Op.maxDepth - 1)
      have h1 : (Op.equal t a b).run P w = .ok r w := g1
      cases e with
      | true =>
        rw [run_v (w' := w) (v := .bool r)]; exact Step.same hk (.p _ _ (.bool _))
        rw [run_bnd (g2 op x y), g3 op he, run_bnd h1]; rfl
      | false =>
        rw [run_v (w' := w) (v := .bool (!r))]; exact Step.same hk (.p _ _ (.bool _))
        rw [run_bnd (g2 op x y), g4 op he, run_bnd h1]; rfl
    · cases hc
  · cases hc
theorem binC_sound {op : BinOp} {t : TypeId} {x y : Operand} {a b : Value} {ai bi iv : IV} {cl : Cl} {eff : Eff} {obs : List Prop} (hk : HOK Γ w.heap φ H) (ha : RI Γ w.heap φ H ai a) (hb : RI Γ w.heap φ H bi b)
    (hc : binC P op t ai bi cl = some (iv, eff, obs)) (ho : All obs) :
    Step Γ φ H w ((do pure (Next.value (← (do eqGuard op t x y a b; binOp op t a b : Sem Value))) : Sem Next).run P w) n iv eff := by
  unfold binC at hc
  split at hc
  · rename_i k xx k' yy
    obtain rfl : a = .int k xx := by cases ha.p_inv; rfl
    obtain rfl : b = .int k' yy := by cases hb.p_inv; rfl
    have hg : (eqGuard op t x y (.int k xx) (.int k' yy)).run P w = .ok () w := by cases op <;> rfl
    have hgo : ∀ {nx : Result Next}, (do pure (Next.value (← (binOp op t (.int k xx) (.int k' yy)))) : Sem Next).run P w = nx →
        (do pure (Next.value (← (do eqGuard op t x y (.int k xx) (.int k' yy); binOp op t (.int k xx) (.int k' yy) : Sem Value))) : Sem Next).run P w = nx := by
      intro nx h
      rw [← h]
      show (Sem.bind (Sem.bind (eqGuard op t x y (.int k xx) (.int k' yy)) fun _ => binOp op t (.int k xx) (.int k' yy)) _).run P w = (Sem.bind (binOp op t (.int k xx) (.int k' yy)) _).run P w
      rw [run_bind, run_bind, run_bind, hg]
    rw [hgo rfl]
    split at hc
    · exact shiftC_sound hk hc ho
    · exact shiftC_sound hk hc ho
    · split at hc
      · rename_i hkk
        have := kindEq_spec hkk; subst this
        exact intBinC_sound hk hc ho
      · cases hc
  · rename_i xs ys
    cases ha with
    | p _ _ ha' =>
      cases hb with
      | p _ _ hb' =>
        cases ha' with
        | agg _ us hus =>
          cases hb' with
          | agg _ vs hvs =>
            split at hc
            · rename_i r
              split at hc
              · rename_i h1 h2
                cases hc
                have h3 := ho.1
                have hop : op = .eql := by cases op <;> simp_all [isEq]
                subst hop
                have he := eqPV_sound (P := P) 10000 _ _ _ _ _ _ w h3 (RP.agg xs us hus) (RP.agg ys vs hvs)
                rw [run_v (v := .bool r) (w' := w)]
                · exact Step.same hk (.p _ _ (.bool _))
                · rw [run_bnd (run_eqGuard_agg w _ _ _ _ _ _ h2), run_eql_struct, he]; rfl
              · rename_i h1 h2
                cases hc
                have h3 := ho.1
                have hop : op = .neq := by cases op <;> simp_all [isEq]
                subst hop
                have he := eqPV_sound (P := P) 10000 _ _ _ _ _ _ w h3 (RP.agg xs us hus) (RP.agg ys vs hvs)
                rw [run_v (v := .bool (!r)) (w' := w)]
                · exact Step.same hk (.p _ _ (.bool _))
                · rw [run_bnd (run_eqGuard_agg w _ _ _ _ _ _ h2), run_neq_struct, he]; rfl
              · cases hc
            split at hc
            · rename_i r h1 h2 h3
              obtain ⟨g1, _⟩ := boolR_sound (n := n) hk hc ho
              have hop : op = .eql := by cases op <;> simp_all [isEq]
              subst hop
              have he := eqPV_sound (P := P) 10000 _ _ _ _ _ _ w h3 (RP.agg xs us hus) (RP.agg ys vs hvs)
              rw [run_v (w' := w)]; exact g1
              rw [run_bnd (run_eqGuard_agg w _ _ _ _ _ _ h2), run_eql_struct, he]; rfl
            · rename_i r h1 h2 h3
              obtain ⟨g1, _⟩ := boolR_sound (n := n) hk hc ho
              have hop : op = .neq := by cases op <;> simp_all [isEq]
              subst hop
              have he := eqPV_sound (P := P) 10000 _ _ _ _ _ _ w h3 (RP.agg xs us hus) (RP.agg ys vs hvs)
              rw [run_v (w' := w)]; exact g1
              rw [run_bnd (run_eqGuard_agg w _ _ _ _ _ _ h2), run_neq_struct, he]; rfl
            · cases hc
  · rename_i xx yy
    obtain rfl : a = .bool xx := by cases ha.p_inv; rfl
    obtain rfl : b = .bool yy := by cases hb.p_inv; rfl
    split at hc
    · rename_i h1 h2
      have hop : op = .eql := by cases op <;> simp_all [isEq]
      subst hop
      obtain ⟨g1, _⟩ := boolR_sound (n := n) hk hc ho
      rw [run_v (w' := w)]; exact g1
      simp [eqGuard, binOp, Op.equal, Op.maxDepth, run_equalIn_bool' w _ t xx yy h1, Result.andThen]
    · rename_i h1 h2
      have hop : op = .neq := by cases op <;> simp_all [isEq]
      subst hop
      obtain ⟨g1, _⟩ := boolR_sound (n := n) hk hc ho
      rw [run_v (w' := w)]; exact g1
      simp [eqGuard, binOp, Op.equal, Op.maxDepth, run_equalIn_bool' w _ t xx yy h1, Result.andThen]
    · cases hc
  · exact nilC_sound hk ha hb hc ho
def unC (op : UnOp) (x : IV) (cl : Cl) : OR :=
  match op, x with
  | .not, .p (.bool b) => some (.p (.bool (!b)), .none, [])
  | .neg, .p (.int k a) => intR k (k.wrap (0 - a)) cl []
  | _, _ => none
theorem unC_sound {op : UnOp} {x : Value} {xi iv : IV} {cl : Cl} {eff : Eff} {obs : List Prop} (hk : HOK Γ w.heap φ H) (hx : RI Γ w.heap φ H xi x) (hc : unC op xi cl = some (iv, eff, obs)) (ho : All obs) :
    Step Γ φ H w ((do pure (Next.value (← Op.unary op x)) : Sem Next).run P w) n iv eff := by
  unfold unC at hc
  split at hc
  · cases hc
    cases hx.p_inv
    rw [run_v (w' := w) (v := .bool _)]; exact Step.same hk (.p _ _ (.bool _)); rfl
  · cases hx.p_inv
    obtain ⟨g1, _⟩ := intR_sound (n := n) hk hc ho
    rw [run_v (w' := w)]; exact g1; rfl
  · cases hc
def extractC (x : IV) (i : Nat) : OR := match x with
  | .p (.tup vs) => match vs[i]? with | some v => some (.p v, .none, []) | none => none
  | .tup vs => match vs[i]? with | some v => some (v, .none, []) | none => none
  | _ => none
theorem extractC_sound {x : Value} {xi iv : IV} {i : Nat} {eff : Eff} {obs : List Prop} (hk : HOK Γ w.heap φ H) (hx : RI Γ w.heap φ H xi x) (hc : extractC xi i = some (iv, eff, obs)) :
    Step Γ φ H w ((do pure (Next.value (← Instr.extract x i)) : Sem Next).run P w) n iv eff := by
  unfold extractC at hc
  split at hc
  · split at hc
    · rename_i v hv
      cases hc
      cases hx with
      | p _ _ hr =>
        cases hr with
        | tup _ us hl =>
          obtain ⟨u, hu, hru⟩ := RPL.get hl i v hv
          rw [run_v (w' := w) (v := u)]; exact Step.same hk (.p _ _ hru)
          simp [Instr.extract, hu]
    · cases hc
  · split at hc
    · rename_i v hv
      cases hc
      cases hx with
      | tup _ us hl =>
        obtain ⟨u, hu, hru⟩ := RIL.get hl i _ hv
        rw [run_v (w' := w) (v := u)]; exact Step.same hk hru
        simp [Instr.extract, hu]
    · cases hc
  · cases hc
end
end Go.Idl
set_option linter.unusedSimpArgs false
set_option linter.unusedVariables false
namespace Go.Idl
open Go
def placesC (P : Program) : List Field → Option (List (Nat × Nat))
  | [] => some []
  | f :: r => match P.info? f.type, placesC P r with | some i, some l => some ((f.offset, i.size) :: l) | _, _ => none
def fillI (place : Nat → Option (Nat × Nat)) (cs : List IV) : List (Nat × IV) → Option (List IV)
  | [] => some cs
  | (k, v) :: r => match place k with
    | some (off, size) => match solid v, Nat.beq v.cells.length size, Nat.ble (off + v.cells.length) cs.length with
      | true, true, true => fillI place (putCells cs off v.cells) r
      | _, _, _ => none
    | none => none
def buildC (P : Program) (t : TypeId) (parts : List (Nat × IV)) (cl : Cl) : OR :=
  match tzero P t, P.underlying t with
  | some (.agg z), some (.struct fs) => match placesC P fs.toList with
    | some pl => match cl with
     | .pvs ys => some (.p (.agg ys), .none, [fillI (pl[·]?) (z.map .p) parts = some (ys.map .p)])
     | _ => match fillI (pl[·]?) (z.map .p) parts with
      | some cs => some (mkAgg cs, .none, [])
      | none => none
    | none => none
  | some (.agg z), some (.array _ e) => match P.info? e with
    | some i => match fillI (fun k => some (k * i.size, i.size)) (z.map .p) parts with
      | some cs => some (mkAgg cs, .none, [])
      | none => none
    | none => none
  | _, _ => none
inductive PL (Γ : Cx) (h : Hp) (φ : Plc) (H : List MObj) : List (Nat × IV) → List (Nat × Value) → Prop
  | nil : PL Γ h φ H [] []
  | cons (k : Nat) (v : IV) (u : Value) (r : List (Nat × IV)) (r' : List (Nat × Value)) (h1 : RI Γ h φ H v u) (h2 : PL Γ h φ H r r') : PL Γ h φ H ((k, v) :: r) ((k, u) :: r')
theorem placesC_eq {P : Program} : ∀ (fs : List Field) (pl : List (Nat × Nat)), placesC P fs = some pl → fs.mapM (fun f => (P.info? f.type).map fun i => (f.offset, i.size)) = some pl
  | [], pl, h => by simp [placesC] at h; subst h; rfl
  | f :: r, pl, h => by
    simp only [placesC] at h
    split at h
    · rename_i i l hi hl
      cases h
      simp [List.mapM_cons, hi, placesC_eq r l hl]
    · cases h
theorem foldl_put : ∀ (vs : List Value) (arr : Array Value) (off k : Nat), (vs.zipIdx k).foldl (fun cs (x : Value × Nat) => cs.setIfInBounds (off + x.2) x.1) arr = arrPut arr (off + k) vs
  | [], arr, off, k => rfl
  | v :: r, arr, off, k => by
    rw [List.zipIdx_cons, List.foldl_cons, foldl_put r, arrPut]; rfl
section
variable {P : Program} {Γ : Cx} {φ : Plc} {H : List MObj} {w : World} {n : Nat} {h : Hp}
theorem RIL.put {cs vs : List IV} {us : List Value} {arr : Array Value} {off : Nat} (hc : RIL Γ h φ H cs arr.toList) (hv : RIL Γ h φ H vs us) (hle : off + vs.length ≤ cs.length) :
    RIL Γ h φ H (putCells cs off vs) (arrPut arr off us).toList := by
  have l1 := RIL.length hc
  have l2 := RIL.length hv
  simp at l1
  refine RIL.of_get _ _ (by simp [putCells_length, arrPut_size]; exact l1) fun i p v hp hvv => ?_
  rw [putCells_get _ _ _ _ hle] at hp
  rw [Array.getElem?_toList, arrPut_get _ _ _ _ (by omega)] at hvv
  have old : ∀ {p v}, cs[i]? = some p → arr[i]? = some v → RI Γ h φ H p v := by
    intro p v h1 h2
    obtain ⟨u, hu, hr⟩ := RIL.get hc i p h1
    rw [Array.getElem?_toList, h2] at hu; cases hu; exact hr
  by_cases c1 : off ≤ i
  · rw [if_pos c1] at hp hvv
    by_cases c2 : i < off + vs.length
    · rw [if_pos c2] at hp; rw [if_pos (by omega)] at hvv
      obtain ⟨u, hu, hr⟩ := RIL.get hv _ p hp
      rw [hvv] at hu; cases hu; exact hr
    · rw [if_neg c2] at hp; rw [if_neg (by omega)] at hvv; exact old hp hvv
  · rw [if_neg c1] at hp hvv; exact old hp hvv
theorem fillI_sound {place : Nat → Option (Nat × Nat)} : ∀ (parts : List (Nat × IV)) (vparts : List (Nat × Value)) (cs cs' : List IV) (arr : Array Value), RIL Γ h φ H cs arr.toList →
    fillI place cs parts = some cs' → PL Γ h φ H parts vparts →
    ∃ arr', Instr.fill place arr vparts = some arr' ∧ RIL Γ h φ H cs' arr'.toList
  | [], _, cs, cs', arr, hc, hf, .nil => by simp [fillI] at hf; subst hf; exact ⟨arr, rfl, hc⟩
  | (k, v) :: r, (_, u) :: r', cs, cs', arr, hc, hf, .cons _ _ _ _ _ hv hr => by
    simp only [fillI] at hf
    split at hf
    · rename_i off size hp
      split at hf
      · rename_i h1 h2 h3
        have hcells := RI.cells hv h1
        have l1 := RIL.length hcells
        have l2 := RIL.length hc
        simp at l1 l2
        have e2 := Nat.eq_of_beq_eq_true h2
        have e3 := Nat.le_of_ble_eq_true h3
        obtain ⟨arr', g1, g2⟩ := fillI_sound r r' _ cs' _ (RIL.put hc hcells e3) hf hr
        refine ⟨arr', ?_, g2⟩
        simp only [Instr.fill, hp]
        rw [if_neg (by simp; omega)]
        rw [← g1]
        congr 1
        have := foldl_put u.cells.toList arr off 0
        rw [Nat.add_zero] at this
        rw [← this, ← Array.foldl_toList]
        simp [Array.toList_zipIdx]
      · cases hf
    · cases hf
theorem buildC_sound {t : TypeId} {parts : List (Nat × IV)} {vparts : Array (Nat × Value)} {iv : IV} {eff : Eff} {obs : List Prop} (hk : HOK Γ w.heap φ H)
    (hp : PL Γ w.heap φ H parts vparts.toList) {cl : Cl} (hc : buildC P t parts cl = some (iv, eff, obs)) (ho : All obs) :
    Step Γ φ H w ((do pure (Next.value (← Instr.build t vparts)) : Sem Next).run P w) n iv eff := by
  unfold buildC at hc
  split at hc
  · rename_i z fs hz hu
    obtain ⟨i, v, hi, hv, hcv⟩ := tzero_spec hz
    have hzr : RP w.heap (fun b => Γ.X b ∨ Own φ H b) (.agg z) v := constV_sound _ _ _ _ hcv
    cases hzr with
    | agg _ us hus =>
      split at hc
      · rename_i pl hpl
        have fin : ∀ cs, fillI (pl[·]?) (z.map .p) parts = some cs → Step Γ φ H w ((do pure (Next.value (← Instr.build t vparts)) : Sem Next).run P w) n (mkAgg cs) .none := by
          intro cs hf
          obtain ⟨arr', g1, g2⟩ := fillI_sound parts vparts.toList _ cs ⟨us⟩ (RPL.toRIL hus) hf hp
          have hb : P.built t vparts.toList = some arr' := by
            unfold Program.built
            simp only [hi, hu, hv, placesC_eq _ _ hpl, Value.cells]
            simpa using g1
          rw [run_v (run_build w t vparts arr' hb)]
          exact Step.same hk (mkAgg_sound (vs := arr'.toList) g2)
        split at hc
        · rename_i ys
          cases hc
          have := fin _ ho.1
          have e : mkAgg (ys.map IV.p) = .p (.agg ys) := by
            unfold mkAgg
            have : allP (ys.map IV.p) = some ys := by
              clear fin ho this
              induction ys with
              | nil => rfl
              | cons y ys ih => simp [allP, ih]
            rw [this]
          rw [e] at this; exact this
        · split at hc
          · rename_i cs hf; cases hc; exact fin cs hf
          · cases hc
      · cases hc
  · rename_i z m e hz hu
    obtain ⟨i, v, hi, hv, hcv⟩ := tzero_spec hz
    have hzr : RP w.heap (fun b => Γ.X b ∨ Own φ H b) (.agg z) v := constV_sound _ _ _ _ hcv
    cases hzr with
    | agg _ us hus =>
      split at hc
      · rename_i ie hie
        split at hc
        · rename_i cs hf
          cases hc
          obtain ⟨arr', g1, g2⟩ := fillI_sound parts vparts.toList _ cs ⟨us⟩ (RPL.toRIL hus) hf hp
          have hb : P.built t vparts.toList = some arr' := by
            unfold Program.built
            simp only [hi, hu, hv, hie, Value.cells]
            exact g1
          rw [run_v (run_build w t vparts arr' hb)]
          exact Step.same hk (mkAgg_sound (vs := arr'.toList) g2)
        · cases hc
      · cases hc
  · cases hc
end
def seqParts : Nat → List (Nat × IV) → Option (List IV)
  | _, [] => some []
  | k, (j, v) :: r => match Nat.beq j k, seqParts (k + 1) r with | true, some l => some (v :: l) | _, _ => none
def sizesOK (n : Nat) : List PV → Bool
  | [] => true
  | v :: r => match v with
    | .junk => false
    | v => match Nat.beq v.cells.length n with | true => sizesOK n r | false => false
def buildSliceC (P : Program) (t : TypeId) (len : Nat) (parts : List (Nat × IV)) : OR :=
  match P.underlying t with
  | some (.slice e) => match P.info? e, tzero P e with
    | some i, some z => match seqParts 0 parts with
      | some l => match allP l with
        | some vs => match Nat.beq vs.length len, sizesOK i.size vs, Nat.ble (len * i.size) 1000, Nat.ble 1 i.size with
          | true, true, true, true => some (.p (.sl vs true), .none, [])
          | _, _, _, _ => none
        | none => none
      | none => none
    | _, _ => none
  | _ => none
section
variable {P : Program} {Γ : Cx} {φ : Plc} {H : List MObj} {w : World} {n : Nat} {h : Hp}
theorem sizesOK_spec {n : Nat} : ∀ {vs : List PV}, sizesOK n vs = true → ∀ v ∈ vs, v.cells.length = n ∧ v ≠ .junk
  | [], _, v, hv => by cases hv
  | x :: r, hs, v, hv => by
    unfold sizesOK at hs
    split at hs
    · cases hs
    · rename_i hnj
      split at hs
      · rename_i hb
        rcases List.mem_cons.1 hv with rfl | hv
        · exact ⟨Nat.eq_of_beq_eq_true hb, fun hc => hnj hc⟩
        · exact sizesOK_spec hs v hv
      · cases hs
theorem fill_seq {size : Nat} : ∀ (vs : List PV) (us : List Value) (k : Nat) (parts : List (Nat × IV)) (vparts : List (Nat × Value)) (arr : Array Value),
    (∀ v ∈ vs, v.cells.length = size ∧ v ≠ .junk) → seqParts k parts = some (vs.map .p) → PL Γ h φ H parts vparts →
    k * size + vs.length * size ≤ arr.size →
    ∃ arr' ws, Instr.fill (fun i => some (i * size, size)) arr vparts = some arr' ∧ arr'.size = arr.size ∧ (∀ j, j < k * size → arr'[j]? = arr[j]?) ∧
      RPL h (fun b => Γ.X b ∨ Own φ H b) (vs.flatMap PV.cells) ws ∧ ∀ j v, ws[j]? = some v → arr'[k * size + j]? = some v
  | vs, us, k, [], _, arr, hv, hs, .nil, hle => by
    simp only [seqParts, Option.some.injEq] at hs
    have : vs = [] := by cases vs <;> simp_all
    subst this
    exact ⟨arr, [], rfl, rfl, fun _ _ => rfl, .nil, fun j v hj => by simp at hj⟩
  | vs, us, k, (j, x) :: r, (_, u) :: r', arr, hv, hs, .cons _ _ _ _ _ hx hr, hle => by
    simp only [seqParts] at hs
    split at hs
    · rename_i l hb hl
      have hjk := Nat.eq_of_beq_eq_true hb
      subst hjk
      cases vs with
      | nil => simp at hs
      | cons v vs =>
        simp only [List.map_cons, Option.some.injEq, List.cons.injEq] at hs
        obtain ⟨rfl, rfl⟩ := hs
        obtain ⟨hvs, hvj⟩ := hv v (by simp)
        have hcells := RI.cells hx (by cases v <;> simp_all [solid])
        have hl1 := RIL.length hcells
        simp [IV.cells] at hl1
        simp only [List.length_cons, Nat.succ_mul] at hle
        obtain ⟨arr', ws, g1, g2, g3, g4, g5⟩ := fill_seq vs us (j + 1) r r' (arrPut arr (j * size) u.cells.toList) (fun y hy => hv y (by simp [hy])) hl hr (by rw [arrPut_size, Nat.succ_mul]; omega)
        refine ⟨arr', u.cells.toList ++ ws, ?_, by rw [g2, arrPut_size], fun i hi => ?_, ?_, fun i z hz => ?_⟩
        · simp only [Instr.fill]
          rw [if_neg (by simp; omega)]
          rw [← g1]; congr 1
          have := foldl_put u.cells.toList arr (j * size) 0
          rw [Nat.add_zero] at this
          rw [← this, ← Array.foldl_toList]
          simp [Array.toList_zipIdx]
        · rw [g3 i (by rw [Nat.succ_mul]; omega), arrPut_get _ _ _ _ (by simp; omega), if_neg (by omega)]
        · rw [List.flatMap_cons]
          exact RPL.append (RIL.pure hcells) g4
        · rw [List.getElem?_append] at hz
          split at hz
          · rename_i hlt
            simp at hlt
            rw [g3 _ (by rw [Nat.succ_mul]; omega), arrPut_get _ _ _ _ (by simp; omega), if_pos (by omega), if_pos (by simp; omega)]
            rw [← hz]; congr 1; omega
          · rename_i hge
            simp at hge hz
            have := g5 _ _ hz
            rw [← this]; congr 1; rw [Nat.succ_mul]; omega
    · cases hs
theorem buildSliceC_sound {t : TypeId} {len : Nat} {parts : List (Nat × IV)} {vparts : Array (Nat × Value)} {iv : IV} {eff : Eff} {obs : List Prop} (hk : HOK Γ w.heap φ H) (hX : ∀ b, Γ.X b → b < w.heap.size)
    (hp : PL Γ w.heap φ H parts vparts.toList) (hc : buildSliceC P t len parts = some (iv, eff, obs)) :
    Step Γ φ H w ((do pure (Next.value (← Instr.buildSlice t len vparts)) : Sem Next).run P w) n iv eff := by
  unfold buildSliceC at hc
  split at hc
  · rename_i e hu
    split at hc
    · rename_i i z hi hz
      split at hc
      · rename_i l hl
        split at hc
        · rename_i vs hvs
          split at hc
          · rename_i h1 h2 h3 h4
            cases hc
            have hmap := allP_map hvs
            subst hmap
            obtain ⟨i', v, hi', hv, hcv⟩ := tzero_spec hz
            rw [hi] at hi'; cases hi'
            have e1 := Nat.eq_of_beq_eq_true h1
            have e3 := Nat.le_of_ble_eq_true h3
            have e4 := Nat.le_of_ble_eq_true h4
            have hsz := sizesOK_spec h2
            have hrun : ∀ zero : Array Value, ∃ arr' ws, Instr.fill (fun i' => some (i' * i.size, i.size)) ((Array.range (len * i.size)).map (zero[· % zero.size]!)) vparts.toList = some arr' ∧
                arr'.size = len * i.size ∧ RPL w.heap (fun b => Γ.X b ∨ Own φ H b) (vs.flatMap PV.cells) ws ∧ ∀ (j : Nat) v, ws[j]? = some v → arr'[j]? = some v := by
              intro zero
              obtain ⟨arr', ws, g1, g2, g3, g4, g5⟩ := fill_seq (h := w.heap) (φ := φ) (H := H) (Γ := Γ) (size := i.size) vs [] 0 parts vparts.toList ((Array.range (len * i.size)).map (zero[· % zero.size]!)) hsz hl hp (by simp [e1])
              exact ⟨arr', ws, g1, by rw [g2]; simp, g4, fun j v hj => by simpa using g5 j v hj⟩
            have hbig : ¬ (len * i.size > 2 ^ 24) := by omega
            have main : ∃ arr' ws, (Instr.buildSlice t len vparts).run P w = .ok (.slice (some ⟨w.heap.size, 0, none⟩) len len) { w with heap := w.heap.push (.cells arr' e) } ∧
                RPL w.heap (fun b => Γ.X b ∨ Own φ H b) (vs.flatMap PV.cells) ws ∧ ∀ (j : Nat) v, ws[j]? = some v → arr'[j]? = some v := by
              by_cases h0 : len * i.size = 0
              · obtain ⟨arr', ws, g1, g2, g3, g4⟩ := hrun #[]
                refine ⟨arr', ws, ?_, g3, g4⟩
                unfold Instr.buildSlice
                rw [run_bnd (run_underlying hu)]
                simp only []
                rw [run_bnd (run_sizeOf hi), if_neg hbig]
                rw [if_pos h0, run_bnd (run_pur _)]
                simp only [g1]
                rw [run_bnd (run_newRow _ _)]; rfl
              · obtain ⟨arr', ws, g1, g2, g3, g4⟩ := hrun v.cells
                refine ⟨arr', ws, ?_, g3, g4⟩
                unfold Instr.buildSlice
                rw [run_bnd (run_underlying hu)]
                simp only []
                rw [run_bnd (run_sizeOf hi), if_neg hbig]
                rw [if_neg h0, run_bnd (run_zeroValue hi hv)]
                rw [run_bnd (run_pur _)]
                simp only [g1]
                rw [run_bnd (run_newRow _ _)]; rfl
            obtain ⟨arr', ws, m1, m2, m3⟩ := main
            rw [run_v m1]
            refine step_imm hk fun h' keep hb e' => ?_
            have := RP.sl (h := h') (X := fun b => Γ.X b ∨ Own φ H b) vs true ⟨w.heap.size, 0, none⟩ len i.size ws ⟨rfl, _, _, _, hb, fun j u hj => by simpa using m3 j u hj⟩
              (fun hc => hc.elim (fun hx => fresh_free hk hX (.inl hx)) fun hx => fresh_free hk hX (.inr hx)) (m2.keeps e'.keeps) (fun y hy => (hsz y hy).1) (by omega) (fun _ => e1.symm)
            rw [e1] at this
            exact .p _ _ this
          · cases hc
        · cases hc
      · cases hc
    · cases hc
  · cases hc
end
end Go.Idl
set_option linter.unusedSimpArgs false
set_option linter.unusedVariables false
namespace Go.Idl
open Go
theorem lt_of_aget {α : Type} {h : Array α} {b : Nat} {o : α} (hb : h[b]? = some o) : b < h.size := by
  rcases Nat.lt_or_ge b h.size with hh | hh
  · exact hh
  · rw [Array.getElem?_eq_none hh] at hb; cases hb
def zerosI (z : List PV) (n : Nat) : List IV := (List.range n).map fun j => .p ((z[j % z.length]?).getD .junk)
def makeSliceC (P : Program) (n : Nat) (t : TypeId) (l c : IV) (cl : Cl) : OR :=
  match P.underlying t, l, c with
  | some (.slice e), .p (.int _ l), .p (.int _ c) => match P.info? e, tzero P e with
    | some i, some z => match solid (.p z), Nat.beq z.cells.length i.size with
      | true, true => match cl with
        | .ap cs len sz => some (.msl n 0 len sz true, .new (.cells cs i.size), [0 ≤ l, l = c, (i.bytes : Int) * c ≤ 281474976710656, c ≤ 9223372036854775807, len = l.toNat, sz = cs.length, zerosI z.cells (l.toNat * i.size) = cs])
        | _ => some (.msl n 0 l.toNat (zerosI z.cells (l.toNat * i.size)).length true, .new (.cells (zerosI z.cells (l.toNat * i.size)) i.size), [0 ≤ l, l = c, (i.bytes : Int) * c ≤ 281474976710656, c ≤ 9223372036854775807])
      | _, _ => none
    | _, _ => none
  | _, _, _ => none
section
variable {P : Program} {Γ : Cx} {φ : Plc} {H : List MObj} {w : World} {n : Nat}
theorem makeSlice_key {t e : TypeId} {i : TypeInfo} {z : PV} {lv cv : Value} {kl kc : IntKind} {l c : Int} (hk : HOK Γ w.heap φ H) (hX : ∀ b, Γ.X b → b < w.heap.size) (hf : Free n H)
    (hu : P.underlying t = some (.slice e)) (hi : P.info? e = some i) (hz : tzero P e = some z) (hs : solid (.p z) = true) (hzl : z.cells.length = i.size) (h0 : 0 ≤ l) (hlc : l = c)
    (hb : (i.bytes : Int) * c ≤ 281474976710656) (h63 : c ≤ 9223372036854775807) (len sz : Nat) (cs : List IV) (hlen : len = l.toNat) (hsz : sz = cs.length) (hcs : zerosI z.cells (l.toNat * i.size) = cs) :
    Step Γ φ H w ((do pure (Next.value (← Instr.makeSlice t (.int kl l) (.int kc c))) : Sem Next).run P w) n (.msl n 0 len sz true) (.new (.cells cs i.size)) := by
  subst hlc
  obtain ⟨i', v, hi', hv, hcv⟩ := tzero_spec hz
  rw [hi] at hi'; cases hi'
  rw [run_v (run_make (P := P) w t e i v hu hi hv kl kc l l h0 (Int.le_refl _) hb h63)]
  have hzr : RI Γ w.heap φ H (.p z) v := .p _ _ (constV_sound _ _ _ _ hcv)
  have hcells := RIL.pure (RI.cells hzr hs)
  have hl2 := RPL.length hcells
  have hlm : (madeCells v.cells (l.toNat * i.size)).size = l.toNat * i.size := size_madeCells _ _
  refine step_newCells (t := e) hk hX hf rfl ⟨(madeCells v.cells (l.toNat * i.size)).toList, ?_, fun j u hj => by simpa using hj⟩ ?_ fun φ' H' h' e' hn hp hbk => ?_
  · subst hcs
    refine RIL.of_get _ _ (by simp [zerosI, hlm]) fun j p u hp hu => ?_
    simp only [zerosI, List.getElem?_map] at hp
    rw [Array.getElem?_toList] at hu
    have hj : j < l.toNat * i.size := by have := lt_of_aget hu; omega
    rw [List.getElem?_range hj] at hp
    simp only [Option.map_some, Option.some.injEq] at hp
    subst hp
    have hpos : 0 < z.cells.length := by
      rcases Nat.eq_zero_or_pos z.cells.length with h | h
      · rw [hzl] at h; rw [h] at hj; omega
      · exact h
    have hm : j % z.cells.length < z.cells.length := Nat.mod_lt _ hpos
    obtain ⟨x, hx, hr⟩ := RPL.get hcells (j % z.cells.length) _ (List.getElem?_eq_getElem hm)
    rw [List.getElem?_eq_getElem hm]
    have : u = x := by
      unfold madeCells at hu
      simp [Array.getElem?_map, hj] at hu
      rw [← hu]
      have hsz' : v.cells.size = z.cells.length := by simpa using hl2.symm
      rw [hsz']
      have : v.cells[j % z.cells.length]? = some x := by simpa using hx
      simp [getElem!_def, this]
    subst this
    exact .p _ _ hr
  · rw [hlm, ← hcs]; simp [zerosI]
  · subst hlen
    exact .msl _ _ _ _ _ _ _ ⟨_, hn, by simp⟩ (fun cs' g' hc => by rw [hn] at hc; cases hc; exact ⟨by omega, fun _ => ⟨by rw [hp], fun h => ⟨_, _, _, by rw [hp]; exact hbk, by simp [hlm], fun h => by cases h⟩⟩⟩) (Nat.le_refl _) (fun _ => rfl)
theorem makeSliceC_sound {t : TypeId} {lv cv : Value} {li ci iv : IV} {cl : Cl} {eff : Eff} {obs : List Prop} (hk : HOK Γ w.heap φ H) (hX : ∀ b, Γ.X b → b < w.heap.size) (hf : Free n H)
    (hl : RI Γ w.heap φ H li lv) (hcv : RI Γ w.heap φ H ci cv) (hc : makeSliceC P n t li ci cl = some (iv, eff, obs)) (ho : All obs) :
    Step Γ φ H w ((do pure (Next.value (← Instr.makeSlice t lv cv)) : Sem Next).run P w) n iv eff := by
  unfold makeSliceC at hc
  split at hc
  · rename_i e kl l kc c hu
    obtain rfl : lv = .int kl l := by cases hl.p_inv; rfl
    obtain rfl : cv = .int kc c := by cases hcv.p_inv; rfl
    split at hc
    · rename_i i z hi hz
      split at hc
      · rename_i h1 h2
        split at hc
        · cases hc
          obtain ⟨o1, o2, o3, o4, o5, o6, o7, _⟩ := ho
          exact makeSlice_key (lv := .int kl l) (cv := .int kc c) hk hX hf hu hi hz h1 (Nat.eq_of_beq_eq_true h2) o1 o2 o3 o4 _ _ _ o5 o6 o7
        · cases hc
          obtain ⟨o1, o2, o3, o4, _⟩ := ho
          exact makeSlice_key (lv := .int kl l) (cv := .int kc c) hk hX hf hu hi hz h1 (Nat.eq_of_beq_eq_true h2) o1 o2 o3 o4 _ _ _ rfl rfl rfl
      · cases hc
    · cases hc
  · cases hc
end
def srcOf (hp : Nat → Option MObj) (size : Nat) (x : IV) : Option (Nat × List IV × List Prop) :=
  match x with
  | .p .nilsl => some (0, [], [])
  | .p (.sl ys _) => some (ys.length, (ys.flatMap PV.cells).map .p, [∀ y ∈ ys, y.cells.length = size])
  | .p (.sle _) => some (0, [], [])
  | .msl l off len sz _ => match hp l with
    | some (.cells cs _) => some (len, (cs.drop off).take (len * size), [cs.length = sz, off + len * size ≤ sz])
    | _ => none
  | _ => none
section
variable {P : Program} {Γ : Cx} {φ : Plc} {H : List MObj} {w : World} {n : Nat}
theorem srcOf_sound {size m : Nat} {x : IV} {v : Value} {zs : List IV} {obs : List Prop} {hp : Nat → Option MObj} (hhp : ∀ l o, hp l = some o → H[l]? = some o) (hk : HOK Γ w.heap φ H) (hx : RI Γ w.heap φ H x v)
    (hs : srcOf hp size x = some (m, zs, obs)) (ho : All obs) :
    ∃ (a : Option Addr) (cap : Nat) (us : List Value), v = .slice a m cap ∧ m ≤ cap ∧ RIL Γ w.heap φ H zs us ∧ us.length = m * size ∧ ((a = none ∧ m = 0 ∧ cap = 0) ∨ ∃ b : Addr, a = some b ∧ ∀ j u, us[j]? = some u → w.cell? (b.add j) = some u) := by
  unfold srcOf at hs
  split at hs
  · cases hs
    cases hx.p_inv
    exact ⟨none, 0, [], rfl, Nat.le_refl _, .nil, by simp, .inl ⟨rfl, rfl, rfl⟩⟩
  · rename_i ys b
    cases hs
    cases hx with
    | p _ _ hr =>
      cases hr with
      | sl _ _ a cap es us hread hnx hl he hc hxc =>
        refine ⟨some a, cap, us, rfl, hc, RPL.toRIL hl, ?_, .inr ⟨a, rfl, fun j u hj => hread.cell j u hj⟩⟩
        rw [← RPL.length hl]
        have := ho.1
        clear hl hc hxc he hread ho
        induction ys with
        | nil => simp
        | cons y ys ih => rw [List.flatMap_cons, List.length_append, this y (by simp), ih (fun z hz => this z (by simp [hz])), List.length_cons, Nat.succ_mul]; omega
      | sl0 _ => exact ⟨none, 0, [], rfl, Nat.le_refl _, .nil, by simp, .inl ⟨rfl, rfl, rfl⟩⟩
  · cases hs
    cases hx.p_inv with
    | sle _ a cap hr hx hxc => exact ⟨some a, cap, [], rfl, Nat.zero_le _, .nil, by simp, .inr ⟨a, rfl, fun j u hj => by simp at hj⟩⟩
  · rename_i l off len sz b
    split at hs
    · rename_i cs g hl
      cases hs
      obtain ⟨o1, o2, _⟩ := ho
      cases hx with
      | msl _ _ _ _ _ a cap hdf hcc hle hxx =>
        obtain ⟨h1, h2⟩ := hcc cs g (hhp _ _ hl)
        obtain ⟨h3, _⟩ := h2 o1
        obtain ⟨us, hr, hcell⟩ := hk.cells (hhp _ _ hl)
        have hlen := RIL.length hr
        refine ⟨some a, cap, (us.drop off).take (m * size), rfl, hle, RIL.take _ (RIL.drop _ hr), by simp; omega, .inr ⟨a, rfl, fun j u hj => ?_⟩⟩
        subst h3
        rw [addr_add _ _ rfl]
        simp only [List.getElem?_take, List.getElem?_drop] at hj
        split at hj
        · rw [show (φ l).2 + off + j = (φ l).2 + (off + j) from by omega]; exact hcell _ _ hj
        · cases hj
    · cases hs
  · cases hs
end
def appendC (P : Program) (hp : Nat → Option MObj) (n : Nat) (t tx : TypeId) (s x : IV) (cl : Cl) : OR :=
  match P.underlying t, P.underlying tx with
  | some (.slice e), some (.slice _) => match P.info? e, tzero P e with
    | some i, some z => match cl with
     | .n _ => (match x with     -- nothing, whatever it is cut from
      | .msl _ _ len _ _ => some (s, .none, [len = 0])
      | _ => none)
     | _ => match i.size, srcOf hp i.size x with
      | size + 1, some (m, zs, obx0) => match solid (.p z), Nat.beq z.cells.length (size + 1), (∀ y ∈ zs, scalarI y = true) :: obx0 with
        | true, true, obx => match cl with
          | .b _ => some (s, .none, (m = 0) :: obx)     -- nothing is appended
          | .ap cs len sz => match s with
            | .p .nilsl => some (.msl n 0 len sz false, .new (.cells cs (size + 1)), [0 < m, m * i.bytes ≤ 140737488355328, m ≤ 4611686018427387904, len = m, sz = cs.length, cs = zs] ++ obx)
            | .p (.sl ys true) => match srcOf hp (size + 1) s with
              | some (k, ys', oby) => some (.msl n 0 len sz false, .new (.cells cs (size + 1)), [0 < m, (k + m) * i.bytes ≤ 140737488355328, k + m ≤ 4611686018427387904, len = k + m, sz = cs.length, cs = ys' ++ zs] ++ (obx ++ oby))
              | none => none
            | .p (.sle true) => match srcOf hp (size + 1) s with
              | some (k, ys', oby) => some (.msl n 0 len sz false, .new (.cells cs (size + 1)), [0 < m, (k + m) * i.bytes ≤ 140737488355328, k + m ≤ 4611686018427387904, len = k + m, sz = cs.length, cs = ys' ++ zs] ++ (obx ++ oby))
              | none => none
            | .msl l off k osz true => match srcOf hp (size + 1) s with
              | some (k, ys', oby) => some (.msl n 0 len sz false, .new (.cells cs (size + 1)), [0 < m, (k + m) * i.bytes ≤ 140737488355328, k + m ≤ 4611686018427387904, len = k + m, sz = cs.length, cs = ys' ++ zs] ++ (obx ++ oby))
              | none => none
            | .msl l 0 k osz false => match hp l with
              | some (.cells old g) => match Nat.beq g (size + 1) with
                | true => some (.msl l 0 len sz false, .set l (.cells cs g), [0 < m, (k + m) * i.bytes ≤ 140737488355328, k + m ≤ 4611686018427387904, len = k + m, sz = cs.length, cs = old ++ zs, old.length = osz, osz = k * (size + 1)] ++ obx)
                | false => none
              | _ => none
            | _ => none
          | .cs cs => match s with     -- in place
            | .msl l 0 k osz false => match hp l with
              | some (.cells old g) => match Nat.beq g (size + 1) with
                | true => some (.msl l 0 (k + m) osz false, .set l (.cells cs g), [0 < m, putCells old (k * (size + 1)) zs = cs, old.length = osz, k * (size + 1) + m * (size + 1) ≤ osz] ++ obx)
                | false => none
              | _ => none
            | _ => none
          | _ => none
        | _, _, _ => none
      | _, _ => none
    | _, _ => none
  | _, _ => none
theorem scalars_iff (zs : List IV) : (∀ y ∈ zs, scalarI y = true) ↔ scalars zs = true := by
  induction zs with
  | nil => simp [scalars]
  | cons z zs ih =>
    simp only [scalars, List.mem_cons, forall_eq_or_imp]
    cases scalarI z <;> simp [ih]
section
variable {P : Program} {Γ : Cx} {φ : Plc} {H : List MObj} {w : World} {n : Nat}
theorem oneCell_of_scalar {v : Value} (h : scalarV v = true) : v.oneCell' = true := by cases v <;> simp_all [scalarV, Value.oneCell']
theorem src_of {size m cap : Nat} {tx e' : TypeId} {a : Option Addr} {us : List Value} (hk : P.underlying tx = some (.slice e')) (hl : us.length = m * size) (h1 : ∀ u ∈ us, scalarV u = true)
    (ha : (a = none ∧ m = 0 ∧ cap = 0) ∨ ∃ b : Addr, a = some b ∧ ∀ (j : Nat) (u : Value), us[j]? = some u → w.cell? (b.add j) = some u) : Src P size tx (.slice a m cap) m us w := by
  rcases ha with ⟨rfl, rfl, rfl⟩ | ⟨b, rfl, hc⟩
  · have : us = [] := by simpa using hl
    subst this
    exact Src.ofNil w hk 0
  · exact Src.ofSlice w hk b m cap us hl hc fun u hu => oneCell_of_scalar (h1 u hu)
theorem append_new {t tx ty e : TypeId} {i : TypeInfo} {z : PV} {a : Option Addr} {k kcap m : Nat} {x : Value} {ys zs cs : List IV} {yu zu : List Value} {len sz : Nat} (hk : HOK Γ w.heap φ H)
    (hX : ∀ b, Γ.X b → b < w.heap.size) (hu : P.underlying t = some (.slice e)) (hi : P.info? e = some i) (hz : tzero P e = some z) (hs : solid (.p z) = true) (hzl : z.cells.length = i.size) (hpos : 0 < i.size)
    (hold : (Builtin.firstCells i.size k (.slice a k kcap)).run P w.drew = .ok yu.toArray w.drew) (hyl : yu.length = k * i.size) (hy : RIL Γ w.heap φ H ys yu)
    (hsrc : Src P i.size tx x m zu w) (hzr : RIL Γ w.heap φ H zs zu) (hg : kcap < k + m) (hb : (k + m) * i.bytes ≤ 140737488355328) (h63 : k + m ≤ 4611686018427387904) (hlen : len = k + m) (hsz : sz = cs.length) (hcs : cs = ys ++ zs)
    {lt : Nat} {oeff : Eff}
    (hfin : ∀ (cap : Nat) (arr : Array Value), len ≤ cap → arr.size = cap * i.size → (∀ (j : Nat) (u : Value), (yu ++ zu)[j]? = some u → arr[j]? = some u) →
      Step Γ φ H w.drew (.ok (.value (.slice (some ⟨w.heap.size, 0, none⟩) len cap)) { w.drew with heap := w.heap.push (.cells arr e) }) n (.msl lt 0 len sz false) oeff) :
    Step Γ φ H w ((do pure (Next.value (← Builtin.append_ #[t, tx] ty #[.slice a k kcap, x])) : Sem Next).run P w) n (.msl lt 0 len sz false) oeff := by
  obtain ⟨i', v, hi', hv, hcv⟩ := tzero_spec hz
  rw [hi] at hi'; cases hi'
  have hzr' : RI Γ w.heap φ H (.p z) v := .p _ _ (constV_sound _ _ _ _ hcv)
  have hcz := RIL.length (RI.cells hzr' hs)
  simp [IV.cells] at hcz
  have hr := run_append_grow_src (P := P) w t tx ty e i v hu hi hv a k kcap yu hold x m zu hsrc hg (by omega) (growslice_fits hg hb)
  have hge : k + m ≤ grownCap w (k + m) kcap e := by unfold grownCap; simp [Question.cut]
  rw [run_v hr]
  subst hlen
  have := hfin (grownCap w (k + m) kcap e) ((yu ++ zu).toArray ++ Builtin.zeroCells v.cells (grownCap w (k + m) kcap e - (k + m))) hge (by
    have hzu := hsrc.newsLen
    simp [Builtin.zeroCells, hyl, hzu]
    rw [← hcz, hzl, ← Nat.add_mul, ← Nat.add_mul]; congr 1; omega) (fun j u hj => by
      have hlt : j < (yu ++ zu).length := lt_of_lget hj
      rw [Array.getElem?_append_left (by simpa using hlt)]; simpa using hj)
  obtain ⟨nx, vv, φ', w2, h1, h2, h3, h4, h5, h6⟩ := this
  exact ⟨nx, vv, φ', w2, h1, h2, h3, h4, h5, ⟨h6.os, h6.tape, h6.output⟩⟩
theorem append_zero {t tx ty e : TypeId} {i : TypeInfo} {base : Option Addr} {k kcap : Nat} {x : Value} {zu : List Value} (hu : P.underlying t = some (.slice e)) (hi : P.info? e = some i)
    (hsrc : Src P i.size tx x 0 zu w) (hle : k ≤ kcap) : (Builtin.append_ #[t, tx] ty #[.slice base k kcap, x]).run P w = .ok (.slice base k kcap) w := by
  have h0 : zu = [] := by have := hsrc.newsLen; simpa using this
  subst h0
  rcases hsrc.kind with ⟨e', hk⟩ | hk <;> cases base <;>
    simp [Builtin.append_, _root_.Go.run_underlying hu, _root_.Go.run_underlying hk, sizeOf, typeInfo, hi, hsrc.len, hle, hsrc.cells, storeCells]
theorem append_room {t tx ty e : TypeId} {i : TypeInfo} {b off k kcap m : Nat} {x : Value} {zu : List Value} {w' : World} (hu : P.underlying t = some (.slice e)) (hi : P.info? e = some i)
    (hsrc : Src P i.size tx x m zu w) (hle : k + m ≤ kcap) (hst : (storeCells ⟨b, off + k * i.size, none⟩ zu).run P w = .ok () w') :
    (Builtin.append_ #[t, tx] ty #[.slice (some ⟨b, off, none⟩) k kcap, x]).run P w = .ok (.slice (some ⟨b, off, none⟩) (k + m) kcap) w' := by
  rcases hsrc.kind with ⟨e', hk⟩ | hk <;>
    simp [Builtin.append_, _root_.Go.run_underlying hu, _root_.Go.run_underlying hk, sizeOf, typeInfo, hi, hsrc.len, hle, hsrc.cells, Addr.add_lit, hst]
def sliceForm : IV → Bool
  | .p .nilsl => true
  | .p (.sl _ _) => true
  | .p (.sle _) => true
  | .msl _ _ _ _ _ => true
  | _ => false
theorem sliceForm_sound {s : IV} {v : Value} (hf : sliceForm s = true) (hs : RI Γ w.heap φ H s v) : ∃ a k cap, v = .slice a k cap ∧ k ≤ cap := by
  cases hs with
  | p p x hp =>
    cases hp with
    | nilsl => exact ⟨none, 0, 0, rfl, Nat.le_refl _⟩
    | sl xs x a cap es vs hr hx hl he hc hxc => exact ⟨_, _, _, rfl, hc⟩
    | sl0 x => exact ⟨none, 0, 0, rfl, Nat.le_refl _⟩
    | sle x a cap hr hx hxc => exact ⟨_, _, _, rfl, Nat.zero_le _⟩
    | _ => simp [sliceForm] at hf
  | msl l off len sz x a cap hd hc hle hx => exact ⟨_, _, _, rfl, hle⟩
  | _ => simp [sliceForm] at hf
theorem append_fin_new {e : TypeId} {size len : Nat} {cs : List IV} {yu : List Value} (hk : HOK Γ w.heap φ H) (hX : ∀ b, Γ.X b → b < w.heap.size) (hf : Free n H) (hcs : RIL Γ w.heap φ H cs yu)
    (hl : yu.length = len * (size + 1)) (cap : Nat) (arr : Array Value) (hle : len ≤ cap) (hsz : arr.size = cap * (size + 1)) (hc : ∀ (j : Nat) (u : Value), yu[j]? = some u → arr[j]? = some u) :
    Step Γ φ H w.drew (.ok (.value (.slice (some ⟨w.heap.size, 0, none⟩) len cap)) { w.drew with heap := w.heap.push (.cells arr e) }) n (.msl n 0 len cs.length false) (.new (.cells cs (size + 1))) := by
  have hlen := RIL.length hcs
  refine step_newCells (w := w.drew) (t := e) hk hX hf rfl ⟨yu, hcs, hc⟩ (by rw [hlen, hl, hsz]; exact Nat.mul_le_mul_right _ hle) fun φ' H' h' e' hn hp hbk => ?_
  exact .msl _ _ _ _ _ _ _ ⟨_, hn, by simp⟩ (fun cs' g' hc => by
    rw [hn] at hc; cases hc
    exact ⟨Nat.le_refl _, fun _ => ⟨by rw [hp]; rfl, fun _ => ⟨arr, e, _, by rw [hp]; exact hbk, by simp [hsz], fun _ => by rw [hlen, hl, Nat.zero_add]; exact Nat.mul_le_mul_right _ hle⟩⟩⟩) hle (fun h => by cases h)
theorem append_fin_move {e : TypeId} {size len l : Nat} {old cs : List IV} {yu : List Value} (hk : HOK Γ w.heap φ H) (hX : ∀ b, Γ.X b → b < w.heap.size) (hl0 : H[l]? = some (.cells old (size + 1)))
    (hlt : old.length < cs.length) (hcs : RIL Γ w.heap φ H cs yu)
    (hl : yu.length = len * (size + 1)) (cap : Nat) (arr : Array Value) (hle : len ≤ cap) (hsz : arr.size = cap * (size + 1)) (hc : ∀ (j : Nat) (u : Value), yu[j]? = some u → arr[j]? = some u) :
    Step Γ φ H w.drew (.ok (.value (.slice (some ⟨w.heap.size, 0, none⟩) len cap)) { w.drew with heap := w.heap.push (.cells arr e) }) n (.msl l 0 len cs.length false) (.set l (.cells cs (size + 1))) := by
  have hlen := RIL.length hcs
  have hb : (w.heap.push (Obj.cells arr e))[w.heap.size]? = some (.cells arr e (0, 0)) := by rw [get_push, if_pos rfl]
  obtain ⟨hk', he⟩ := hk.put (h' := w.heap.push (.cells arr e)) (o' := .cells cs (size + 1)) (pl := (w.heap.size, 0)) hX hl0 (by simp) rfl (by simp) (fun b hb _ => push_keep _ b hb)
    (fun _ a t fr hb => ⟨a, by rw [push_keep _ _ (lt_of_get hb)]; exact hb, rfl⟩) (.inr (by simp)) (fun _ => ⟨rfl, by simp [MObj.csize]; omega, by simp [MObj.csize]; omega⟩) (fun e1 => by
      refine ⟨arr, e, by rw [upd_same]; exact hb, by rw [upd_same, hsz, hlen, hl]; simpa using Nat.mul_le_mul_right _ hle, fun i iv hi => ?_⟩
      obtain ⟨u, hu, hr⟩ := RIL.get hcs i iv hi
      exact ⟨u, by rw [upd_same]; simpa using hc i u hu, hr.ext e1⟩)
  refine ⟨_, _, _, _, rfl, rfl, hk', he, .msl _ _ _ _ _ _ _ ⟨_, by rw [applyEff, get_set, if_pos rfl, if_pos (lt_of_lget hl0)], by simp⟩ (fun cs' g' hc' => ?_) hle (fun h => by cases h), ⟨rfl, rfl, rfl⟩⟩
  rw [applyEff, get_set, if_pos rfl, if_pos (lt_of_lget hl0)] at hc'
  cases hc'
  exact ⟨Nat.le_refl _, fun _ => ⟨by rw [upd_same], fun _ => ⟨arr, e, _, by rw [upd_same]; exact hb, by simp [hsz], fun _ => by rw [hlen, hl, Nat.zero_add]; exact Nat.mul_le_mul_right _ hle⟩⟩⟩
theorem appendC_sound {t tx : TypeId} {sv xv : Value} {si xi iv : IV} {cl : Cl} {eff : Eff} {obs : List Prop} {hp : Nat → Option MObj} {ty : TypeId} (hhp : ∀ l o, hp l = some o → H[l]? = some o) (hk : HOK Γ w.heap φ H)
    (hX : ∀ b, Γ.X b → b < w.heap.size) (hf : Free n H) (hs : RI Γ w.heap φ H si sv) (hx : RI Γ w.heap φ H xi xv) (hform : sliceForm si = true) (hc : appendC P hp n t tx si xi cl = some (iv, eff, obs)) (ho : All obs) :
    Step Γ φ H w ((do pure (Next.value (← Builtin.append_ #[t, tx] ty #[sv, xv])) : Sem Next).run P w) n iv eff := by
  unfold appendC at hc
  split at hc
  · rename_i e e' hu hux
    split at hc
    · rename_i i z hi hz
      split at hc
      · split at hc
        · rename_i l off len sz xc
          cases hc
          obtain ⟨o1, _⟩ := ho
          subst o1
          cases hx with
          | msl _ _ _ _ _ a cap hdf hcc hle hxx =>
            have s1 : Src P i.size tx (.slice (some a) 0 cap) 0 [] w := src_of (a := some a) hux (by simp) (fun _ h => by cases h) (.inr ⟨a, rfl, fun j u hj => by simp at hj⟩)
            obtain ⟨a', k, cap', rfl, hle'⟩ := sliceForm_sound hform hs
            rw [run_v (append_zero hu hi s1 hle')]
            exact Step.same hk hs
        · cases hc
      split at hc
      · rename_i size m zs obx0 hsize hsrc0
        replace hsize : i.size = size + 1 := hsize
        rw [hsize] at hsrc0
        split at hc
        · rename_i h1 h2
          have hzl : z.cells.length = i.size := by rw [hsize]; exact Nat.eq_of_beq_eq_true h2
          have src : All ((∀ y ∈ zs, scalarI y = true) :: obx0) → ∃ zu, Src P i.size tx xv m zu w ∧ RIL Γ w.heap φ H zs zu ∧ scalars zs = true := by
            rintro ⟨h3', hobx⟩
            have h3 := (scalars_iff zs).1 h3'
            obtain ⟨a, cap, us, rfl, g1, g2, g3, g4⟩ := srcOf_sound hhp hk hx hsrc0 hobx
            refine ⟨us, src_of hux (by rw [hsize]; exact g3) (scalars_sound h3 g2) ?_, g2, h3⟩
            exact g4
          split at hc
          · cases hc
            obtain ⟨o1, o2⟩ := ho
            subst o1
            obtain ⟨zu, s1, s2, h3⟩ := src o2
            obtain ⟨a, k, cap, rfl, hle⟩ := sliceForm_sound hform hs
            rw [run_v (append_zero hu hi s1 hle)]
            exact Step.same hk hs
          · rename_i cs len sz _
            have exact_case : ∀ k ys' oby, srcOf hp (size + 1) si = some (k, ys', oby) → (∀ a kk cap, sv = .slice a kk cap → cap = kk) →
                All ([0 < m, (k + m) * i.bytes ≤ 140737488355328, k + m ≤ 4611686018427387904, len = k + m, sz = cs.length, cs = ys' ++ zs] ++ (((∀ y ∈ zs, scalarI y = true) :: obx0) ++ oby)) →
                Step Γ φ H w ((do pure (Next.value (← Builtin.append_ #[t, tx] ty #[sv, xv])) : Sem Next).run P w) n (.msl n 0 len sz false) (.new (.cells cs (size + 1))) := by
              intro k ys' oby hsrc1 hcap hall
              obtain ⟨hobs, hrest⟩ := All.append hall
              obtain ⟨o1, o2, o3, o4, o5, o6, _⟩ := hobs
              obtain ⟨ox, oy⟩ := All.append hrest
              obtain ⟨zu, s1, s2, h3⟩ := src ox
              obtain ⟨a, cap, yu, rfl, g1, g2, g3, g4⟩ := srcOf_sound hhp hk hs hsrc1 oy
              have hcap' := hcap _ _ _ rfl
              have hold : (Builtin.firstCells i.size k (.slice a k cap)).run P w.drew = .ok yu.toArray w.drew := by
                rcases g4 with ⟨rfl, rfl, rfl⟩ | ⟨b, rfl, hcell⟩
                · have : yu = [] := by simpa using g3
                  subst this; exact run_firstCells_none w.drew i.size 0 0 0
                · exact run_firstCells_some w.drew i.size k b k cap yu (by rw [hsize]; exact g3) (by simpa using hcell)
              refine append_new (ys := ys') (zs := zs) (cs := cs) hk hX hu hi hz h1 hzl (by omega) hold (by rw [hsize]; exact g3) g2 s1 s2 (by omega) o2 o3 o4 o5 o6 fun cap' arr hle hsz hcc => ?_
              subst o5; subst o6
              have := s1.newsLen
              refine append_fin_new (yu := yu ++ zu) hk hX hf (RIL.append g2 s2) (by rw [List.length_append, g3, this, hsize, o4, Nat.add_mul]) cap' arr hle (by rw [hsz, hsize]) hcc
            split at hc
            · cases hc
              have hsrc1 : srcOf hp (size + 1) (.p .nilsl) = some (0, [], []) := rfl
              refine exact_case 0 [] [] hsrc1 (fun a kk cap he => ?_) ?_
              · cases hs.p_inv; cases he; rfl
              · simpa [All] using ho
            · rename_i ys
              split at hc
              · rename_i k ys' oby hsrc1
                cases hc
                refine exact_case k ys' oby hsrc1 (fun a kk cap he => ?_) ho
                cases hs with
                | p _ _ hr => cases hr with
                  | sl _ _ _ cap' _ _ _ _ _ _ _ hxc => cases he; exact hxc rfl
                  | sl0 _ => cases he; rfl
              · cases hc
            · split at hc
              · rename_i k ys' oby hsrc1
                cases hc
                refine exact_case k ys' oby hsrc1 (fun a kk cap he => ?_) ho
                cases hs with
                | p _ _ hr => cases hr with
                  | sle _ _ _ _ _ hxc => cases he; exact hxc rfl
              · cases hc
            · rename_i l off k osz
              split at hc
              · rename_i k ys' oby hsrc1
                cases hc
                refine exact_case k ys' oby hsrc1 (fun a kk cap he => ?_) ho
                cases hs with
                | msl _ _ _ _ _ _ cap' _ _ _ hxx => cases he; exact hxx rfl
              · cases hc
            · rename_i l k osz
              split at hc
              · rename_i old g hl
                split at hc
                · rename_i hg
                  have hg' := Nat.eq_of_beq_eq_true hg
                  subst hg'
                  cases hc
                  obtain ⟨hobs, hrest⟩ := All.append ho
                  obtain ⟨o1, o2, o3, o4, o5, o6, o7, o8, _⟩ := hobs
                  obtain ⟨zu, s1, s2, h3⟩ := src hrest
                  have hl' := hhp _ _ hl
                  obtain ⟨yu, y1, y2⟩ := hk.cells hl'
                  have ylen := RIL.length y1
                  have zlen := s1.newsLen
                  have zlen2 := RIL.length s2
                  have hpos : 0 < zu.length := by rw [zlen, hsize]; exact Nat.mul_pos o1 (by omega)
                  cases hs with
                  | msl _ _ _ _ _ a cap hdf hcc hle hxx =>
                    obtain ⟨c1, c2⟩ := hcc old _ hl'
                    obtain ⟨ha, c3⟩ := c2 o7
                    obtain ⟨arr, t0, fr, hb, hsz, hreach⟩ := c3 (by omega)
                    subst ha
                    simp only [Nat.add_zero] at hsz ⊢
                    by_cases hroom : k + m ≤ cap
                    · -- there is room
                      obtain ⟨arr1, t1, q1, q2, q3⟩ := hk.obj l _ hl'
                      rw [hb] at q1; cases q1
                      have hfit : (φ l).2 + k * (size + 1) + zu.length ≤ arr.size := by
                        have : (k + m) * (size + 1) ≤ cap * (size + 1) := Nat.mul_le_mul_right _ hroom
                        rw [Nat.add_mul] at this; rw [zlen, hsize]; omega
                      obtain ⟨w', k1, k2, k3, k4, k5⟩ := run_storeCells (P := P) ⟨(φ l).1, (φ l).2 + k * i.size, none⟩ rfl zu 0 w arr t0 (scalars_sound h3 s2) hb (by simp only [hsize, Nat.add_zero]; exact hfit)
                      replace k2 : w'.heap[(φ l).1]? = some (.cells (arrPut arr ((φ l).2 + k * i.size) zu) t0 (0, 0)) := k2
                      rw [run_v (append_room (b := (φ l).1) (off := (φ l).2) hu hi s1 hroom k1)]
                      have hupd : upd φ l (φ l) = φ := by funext q; unfold upd; split <;> simp_all
                      obtain ⟨p1, p2⟩ := hk.put (h' := w'.heap) (o' := .cells cs (size + 1)) (pl := φ l) hX hl' (by simp) rfl (by omega)
                        (fun b hb hn => k3 b fun he => hn ⟨rfl, he⟩)
                        (fun _ arr' t' fr' hb' => by rw [hb] at hb'; cases hb'; exact ⟨_, k2, arrPut_size _ _ _⟩) (.inl ⟨rfl, rfl⟩)
                        (fun _ => ⟨rfl, by simp [MObj.csize, o6], fun _ => rfl⟩)
                        (fun e1 => by
                          rw [hupd] at e1 ⊢
                          refine ⟨_, t0, k2, by rw [arrPut_size, o6, List.length_append]; rw [hsize] at *; omega, fun j iv hj => ?_⟩
                          rw [arrPut_get _ _ _ _ (by rw [hsize]; exact hfit)]
                          rw [o6, List.getElem?_append] at hj
                          split at hj
                          · rename_i hlt
                            obtain ⟨u, hu', hr⟩ := q3 j iv hj
                            refine ⟨u, ?_, hr.ext e1⟩
                            have : ¬ ((φ l).2 + k * i.size ≤ (φ l).2 + j) := by rw [hsize]; omega
                            rw [if_neg this]; exact hu'
                          · rename_i hge
                            obtain ⟨u, hu', hr⟩ := RIL.get s2 _ iv hj
                            refine ⟨u, ?_, hr.ext e1⟩
                            have hjl := lt_of_lget hu'
                            rw [if_pos (by rw [hsize]; omega), if_pos (by rw [hsize]; omega), ← hu']
                            congr 1; rw [hsize]; omega)
                      rw [hupd] at p1 p2
                      refine ⟨_, _, φ, w', rfl, rfl, p1, p2, ?_, k5⟩
                      subst o4
                      refine .msl _ _ _ _ _ _ _ ⟨_, by rw [applyEff, get_set, if_pos rfl, if_pos (lt_of_lget hl')], by simp⟩ (fun cs' g' hc' => ?_) hroom (fun h => by cases h)
                      rw [applyEff, get_set, if_pos rfl, if_pos (lt_of_lget hl')] at hc'
                      cases hc'
                      refine ⟨by omega, fun _ => ⟨by simp, fun _ => ⟨_, _, _, k2, ?_, fun _ => ?_⟩⟩⟩
                      · rw [arrPut_size]; exact hsz
                      · have hr1 : (k + m) * (size + 1) ≤ cap * (size + 1) := Nat.mul_le_mul_right _ hroom
                        have hz3 : zs.length = m * (size + 1) := by rw [zlen2, zlen, hsize]
                        rw [o5, o6, List.length_append, o7, o8]
                        rw [Nat.add_mul] at hr1
                        omega
                    · -- a new row
                      have hold : (Builtin.firstCells i.size k (.slice (some ⟨(φ l).1, (φ l).2, none⟩) k cap)).run P w.drew = .ok yu.toArray w.drew :=
                        run_firstCells_some w.drew i.size k _ k cap yu (by rw [hsize]; omega) (fun j u hj => by
                          rw [addr_add _ _ rfl]; simpa using y2 j u hj)
                      refine append_new (ys := old) (zs := zs) (cs := cs) hk hX hu hi hz h1 hzl (by omega) hold (by rw [hsize]; omega) y1 s1 s2 (by omega) o2 o3 o4 o5 o6 fun cap' arr' hle' hsz' hcc' => ?_
                      subst o5; subst o6
                      exact append_fin_move (yu := yu ++ zu) hk hX hl' (by rw [List.length_append]; omega) (RIL.append y1 s2) (by rw [List.length_append, zlen, hsize, o4, Nat.add_mul]; omega) cap' arr' hle' (by rw [hsz', hsize]) hcc'
                · cases hc
              · cases hc
            · cases hc
          · rename_i cs _
            split at hc
            · rename_i l k osz
              split at hc
              · rename_i old g hl
                split at hc
                · rename_i hg
                  have hg' := Nat.eq_of_beq_eq_true hg
                  subst hg'
                  cases hc
                  obtain ⟨hobs, hrest⟩ := All.append ho
                  obtain ⟨o1, o2, o3, o4, _⟩ := hobs
                  obtain ⟨zu, s1, s2, h3⟩ := src hrest
                  have hl' := hhp _ _ hl
                  have zlen := s1.newsLen
                  have zlen2 := RIL.length s2
                  have hz3 : zs.length = m * (size + 1) := by rw [zlen2, zlen, hsize]
                  cases hs with
                  | msl _ _ _ _ _ a cap hdf hcc hle hxx =>
                    obtain ⟨c1, c2⟩ := hcc old _ hl'
                    obtain ⟨ha, c3⟩ := c2 o3
                    obtain ⟨arr, t0, fr, hb, hsz, hreach⟩ := c3 (by omega)
                    subst ha
                    have hreach' := hreach rfl
                    simp only [Nat.add_zero] at hsz ⊢
                    have hroom : k + m ≤ cap := by
                      have : (k + m) * (size + 1) ≤ cap * (size + 1) := by rw [Nat.add_mul]; omega
                      exact Nat.le_of_mul_le_mul_right this (by omega)
                    obtain ⟨w', k1, k2, k3, k4⟩ := put_cells (P := P) (off := k * (size + 1)) (vs := zs) (us := zu) hk hX hl' (by omega) s2 (scalars_sound h3 s2)
                    rw [o2] at k2 k3
                    rw [← hsize] at k1
                    rw [run_v (append_room (b := (φ l).1) (off := (φ l).2) hu hi s1 hroom k1)]
                    refine ⟨_, _, φ, w', rfl, rfl, k2, k3, ?_, k4⟩
                    refine .msl _ _ _ _ _ _ _ ⟨_, by rw [applyEff, get_set, if_pos rfl, if_pos (lt_of_lget hl')], by simp⟩ (fun cs' g' hc' => ?_) hroom (fun h => by cases h)
                    rw [applyEff, get_set, if_pos rfl, if_pos (lt_of_lget hl')] at hc'
                    cases hc'
                    have hcl : cs.length = old.length := by rw [← o2, putCells_length]
                    obtain ⟨arr', hb', hz'⟩ := k3.shape _ _ _ _ hb
                    refine ⟨by omega, fun _ => ⟨by simp, fun _ => ⟨arr', t0, fr, hb', ?_, fun _ => by omega⟩⟩⟩
                    simp only [Nat.add_zero]; omega
                · cases hc
              · cases hc
            · cases hc
          · cases hc
        · cases hc
      · cases hc
    · cases hc
  · cases hc
end
end Go.Idl
set_option linter.unusedSimpArgs false
set_option linter.unusedVariables false
namespace Go.Idl
open Go
def optI : Option IV → Option (Option Int)
  | none => some none
  | some (.p (.int _ n)) => some (some n)
  | some _ => none
def bndO (v : Option Int) (top : Nat) : List Prop := match v with | some v => [0 ≤ v, v ≤ (top : Int)] | none => []
def natO (v : Option Int) (d : Nat) : Nat := match v with | some v => v.toNat | none => d
def flagO (hi mx : Option Int) (x : Bool) : Option Bool := match hi, mx with
  | none, none => some x
  | some _, none => some false
  | some _, some _ => some true
  | none, some _ => none
def mxCap (mx : Option Int) (h cap : Nat) : Nat := match mx with | some _ => h | none => cap
def rchO (xc fl : Bool) (g sz off len es : Nat) : List Prop := match xc, fl with | true, false => [g = 0 ∨ sz ≤ off + len * es] | _, _ => []
def mxO (hi mx : Option Int) : List Prop := match hi, mx with | some h, some m => [m = h] | _, _ => []
def sliceC (P : Program) (hp : Nat → Option MObj) (t : TypeId) (x : IV) (lo hi mx : Option IV) (cl : Cl) : OR :=
  match optI lo, optI hi, optI mx with
  | some lo, some hi, some mx => match P.underlying t with
    | some (.slice e) => match P.info? e with
      | some i => match x with
        | .p (.sl xs xc) => match flagO hi mx xc with
          | some fl => match cl with
            | .pvs ys => some (.p (.sl ys fl), .none, [(xs.take (natO hi xs.length)).drop (natO lo 0) = ys, ∀ y ∈ xs, y.cells.length = i.size] ++ (bndO lo (natO hi xs.length) ++ (bndO hi xs.length ++ mxO hi mx)))
            | _ => some (.p (.sl ((xs.take (natO hi xs.length)).drop (natO lo 0)) fl), .none, [∀ y ∈ xs, y.cells.length = i.size] ++ (bndO lo (natO hi xs.length) ++ (bndO hi xs.length ++ mxO hi mx)))
          | none => none
        | .p .nilsl => match flagO hi mx true with
          | some fl => some (.p .nilsl, .none, bndO lo (natO hi 0) ++ (bndO hi 0 ++ mxO hi mx))
          | none => none
        | .p (.sle xc) => match flagO hi mx xc with
          | some fl => some (.p (.sle fl), .none, bndO lo (natO hi 0) ++ (bndO hi 0 ++ mxO hi mx))
          | none => none
        | .msl l off len sz xc => match cl with
         | .cs _ => (match hp l, xc, hi, mx with     -- up to what there is room for
          | some (.cells cs g), false, some h, none => (match Nat.beq g i.size with
            | true => some (.msl l (off + natO lo 0 * i.size) (h.toNat - natO lo 0) sz false, .none, [0 < g, natO lo 0 = 0 ∨ natO lo 0 < h.toNat, cs.length = sz, off + h.toNat * g ≤ sz, 0 ≤ h] ++ bndO lo h.toNat)
            | false => none)
          | _, _, _, _ => none)
         | .b _ => (match hi, mx with     -- only that it can be done
          | some h, some m => some (.p .junk, .none, [0 ≤ h, h ≤ m, m ≤ (len : Int)] ++ bndO lo h.toNat)
          | _, _ => none)
         | .n _ => (match hp l with     -- an empty piece from the end on
          | some (.cells cs _) => (match flagO hi mx xc with
            | some _ => some (.msl l 0 0 0 false, .none, [natO lo 0 = natO hi len, 0 < cs.length] ++ (bndO lo (natO hi len) ++ (bndO hi len ++ mxO hi mx)))
            | none => none)
          | _ => none)
         | _ => match hp l, flagO hi mx xc with
          | some (.cells _ g), some fl => match Nat.beq g 0 || Nat.beq g i.size with
            | true => match cl with
              | .ap _ len' _ => some (.msl l (off + natO lo 0 * i.size) len' sz fl, .none, [natO lo 0 = 0 ∨ natO lo 0 < mxCap mx (natO hi len) len, natO hi len - natO lo 0 = len'] ++ (bndO lo (natO hi len) ++ (bndO hi len ++ (mxO hi mx ++ rchO xc fl g sz off len i.size))))
              | _ => some (.msl l (off + natO lo 0 * i.size) (natO hi len - natO lo 0) sz fl, .none, [natO lo 0 = 0 ∨ natO lo 0 < mxCap mx (natO hi len) len] ++ (bndO lo (natO hi len) ++ (bndO hi len ++ (mxO hi mx ++ rchO xc fl g sz off len i.size))))
            | false => none
          | _, _ => none
        | _ => none
      | none => none
    | some (.array m e) => match P.info? e with
      | some i => match x with
        | .ptr l off sz => match hp l, flagO hi mx true with
          | some (.cells _ 0), some fl => match cl with
            | .ap _ len' _ => some (.msl l (off + natO lo 0 * i.size) len' sz fl, .none, [natO lo 0 = 0 ∨ natO lo 0 < mxCap mx (natO hi m) m, natO hi m - natO lo 0 = len'] ++ (bndO lo (natO hi m) ++ (bndO hi m ++ mxO hi mx)))
            | _ => some (.msl l (off + natO lo 0 * i.size) (natO hi m - natO lo 0) sz fl, .none, [natO lo 0 = 0 ∨ natO lo 0 < mxCap mx (natO hi m) m] ++ (bndO lo (natO hi m) ++ (bndO hi m ++ mxO hi mx)))
          | _, _ => none
        | .p (.ref cs) => match flagO hi mx true, Nat.beq i.size 1, sizesOK 1 (cs.take m), scalars ((cs.take m).map .p), Nat.beq (cs.take m).length m with
          | some fl, true, true, true, true => some (.p (.sl (((cs.take m).take (natO hi m)).drop (natO lo 0)) fl), .none, bndO lo (natO hi m) ++ (bndO hi m ++ mxO hi mx))
          | _, _, _, _, _ => none
        | _ => none
      | none => none
    | _ => none
  | _, _, _ => none
def OV (o : Option Int) (v : Option Value) : Prop := match o, v with
  | none, none => True
  | some n, some u => ∃ k, u = .int k n
  | _, _ => False
section
variable {P : Program} {Γ : Cx} {φ : Plc} {H : List MObj} {w : World} {n : Nat}
def RIO (Γ : Cx) (h : Hp) (φ : Plc) (H : List MObj) (x : Option IV) (v : Option Value) : Prop := match x, v with
  | none, none => True
  | some i, some u => RI Γ h φ H i u
  | _, _ => False
theorem optI_sound {x : Option IV} {v : Option Value} {o : Option Int} (hx : RIO Γ w.heap φ H x v) (h : optI x = some o) : OV o v := by
  cases x with
  | none => cases v <;> simp_all [RIO, optI, OV]; subst h; trivial
  | some i =>
    cases v with
    | none => simp [RIO] at hx
    | some u =>
      cases i with
      | p p =>
        cases p <;> simp [optI] at h
        subst h
        cases hx.p_inv
        exact ⟨_, rfl⟩
      | _ => simp [optI] at h
theorem run_sliceBound {k : IntKind} {i : Int} {y : Nat} {c : BoundsCode} (h0 : 0 ≤ i) (h1 : i ≤ y) : (Instr.sliceBound (.int k i) y c).run P w = .ok i.toNat w := by
  unfold Instr.sliceBound
  rw [run_bnd (show (asIntOf (.int k i)).run P w = .ok (k, i) w from rfl)]
  simp [h0, h1]
theorem run_low {lo : Option Int} {lv : Option Value} (hl : OV lo lv) {β : Type} (f : Nat → Sem β) (top : Nat) (code : BoundsCode) (ho : All (bndO lo top)) :
    (match (generalizing := false) lv with | some v => (do let l ← Instr.sliceBound v top code; f l) | none => (do let l ← pure 0; f l) : Sem β).run P w = (f (natO lo 0)).run P w := by
  cases lo with
  | none => cases lv <;> simp [OV] at hl; exact run_bnd (run_pur _)
  | some n => cases lv <;> simp [OV] at hl; obtain ⟨k, rfl⟩ := hl; simp only [bndO, All] at ho; exact run_bnd (run_sliceBound ho.1 ho.2.1)
theorem run_sliceBounds {isS : Bool} {len cap : Nat} {lo hi mx : Option Int} {lv hv mv : Option Value} (hl : OV lo lv) (hh : OV hi hv) (hm : OV mx mv) {fl : Bool} {x : Bool} (hf : flagO hi mx x = some fl)
    (hle : len ≤ cap) (o1 : All (bndO lo (natO hi len))) (o2 : All (bndO hi len)) (o3 : All (mxO hi mx)) :
    (Instr.sliceBounds isS len cap lv hv mv).run P w = .ok (natO lo 0, natO hi len, mxCap mx (natO hi len) cap) w := by
  cases mx with
  | none =>
    cases mv <;> simp [OV] at hm
    cases hi with
    | none =>
      cases hv <;> simp [OV] at hh
      unfold Instr.sliceBounds
      simp only []
      rw [run_bnd (run_pur _), run_bnd (run_pur _)]; exact run_low hl _ _ _ o1
    | some hn =>
      cases hv <;> simp [OV] at hh
      obtain ⟨k, rfl⟩ := hh
      simp only [bndO, All] at o2
      unfold Instr.sliceBounds
      simp only []
      rw [run_bnd (run_pur _), run_bnd (run_sliceBound o2.1 (by omega))]; exact run_low hl _ _ _ o1
  | some m =>
    cases mv <;> simp [OV] at hm
    obtain ⟨km, rfl⟩ := hm
    cases hi with
    | none => simp [flagO] at hf
    | some hn =>
      cases hv <;> simp [OV] at hh
      obtain ⟨k, rfl⟩ := hh
      simp only [bndO, All] at o2
      simp only [mxO, All] at o3
      obtain ⟨rfl, _⟩ := o3
      unfold Instr.sliceBounds
      simp only []
      rw [run_bnd (run_sliceBound o2.1 (by omega)), run_bnd (run_sliceBound o2.1 (by omega))]; exact run_low hl _ _ _ o1
theorem natO_le {lo hi : Option Int} {len : Nat} (o1 : All (bndO lo (natO hi len))) (o2 : All (bndO hi len)) : natO lo 0 ≤ natO hi len ∧ natO hi len ≤ len := by
  have h2 : natO hi len ≤ len := by
    cases hi with
    | none => exact Nat.le_refl _
    | some v => simp only [bndO, All] at o2; simp only [natO]; omega
  refine ⟨?_, h2⟩
  cases lo with
  | none => simp [natO]
  | some v => simp only [bndO, All] at o1; simp only [natO] at *; omega
theorem run_sliceAt_sl {t e : TypeId} {i : TypeInfo} {a : Addr} {len cap : Nat} {lo hi mx : Option Int} {lv hv mv : Option Value} {fl x : Bool} (hu : P.underlying t = some (.slice e)) (hi' : P.info? e = some i)
    (hl : OV lo lv) (hh : OV hi hv) (hm : OV mx mv) (hf : flagO hi mx x = some fl) (hle : len ≤ cap) (o1 : All (bndO lo (natO hi len))) (o2 : All (bndO hi len)) (o3 : All (mxO hi mx)) :
    ∃ m, (do pure (Next.value (← Instr.sliceAt t (.slice (some a) len cap) lv hv mv)) : Sem Next).run P w =
      .ok (.value (.slice (some (if m = natO lo 0 then a else a.add (natO lo 0 * i.size))) (natO hi len - natO lo 0) (m - natO lo 0))) w ∧ natO hi len ≤ m ∧ m ≤ cap ∧ (fl = true → (x = true → cap = len) → m = natO hi len) ∧ (∀ {c : Nat}, c = cap → m = mxCap mx (natO hi len) c) := by
  refine ⟨mxCap mx (natO hi len) cap, run_v ?_, ?_, ?_, ?_, fun h => by subst h; rfl⟩
  · unfold Instr.sliceAt
    rw [run_bnd (run_underlying hu)]
    simp only []
    unfold Instr.slice
    rw [run_bnd (run_underlying hu)]
    simp only []
    rw [run_bnd (run_sliceBounds hl hh hm hf hle o1 o2 o3)]
    simp only []
    rw [run_bnd (run_sizeOf hi')]
    simp only [Option.map_some, run_pur]
    split <;> rename_i hq <;> simp [hq]
  · have := (natO_le o1 o2).2; cases mx <;> simp [mxCap] <;> omega
  · have := (natO_le o1 o2).2; cases mx <;> simp [mxCap] <;> omega
  · intro h1 h2
    cases mx with
    | some _ => rfl
    | none =>
      cases hi with
      | none => simp only [flagO, Option.some.injEq] at hf; subst hf; simp [natO, mxCap, h2 h1]
      | some v => simp only [flagO, Option.some.injEq] at hf; subst hf; cases h1
theorem run_sliceAt_hi {t e : TypeId} {i : TypeInfo} {a : Addr} {len cap : Nat} {lo : Option Int} {lv : Option Value} {k : IntKind} {h : Int} (hu : P.underlying t = some (.slice e)) (hi' : P.info? e = some i)
    (hl : OV lo lv) (h0 : 0 ≤ h) (h1 : h ≤ cap) (o1 : All (bndO lo h.toNat)) :
    (do pure (Next.value (← Instr.sliceAt t (.slice (some a) len cap) lv (some (.int k h)) none)) : Sem Next).run P w =
      .ok (.value (.slice (some (if cap = natO lo 0 then a else a.add (natO lo 0 * i.size))) (h.toNat - natO lo 0) (cap - natO lo 0))) w := by
  refine run_v ?_
  unfold Instr.sliceAt
  rw [run_bnd (run_underlying hu)]
  simp only []
  unfold Instr.slice
  rw [run_bnd (run_underlying hu)]
  simp only []
  have : (Instr.sliceBounds true len cap lv (some (.int k h)) none).run P w = .ok (natO lo 0, h.toNat, cap) w := by
    unfold Instr.sliceBounds
    simp only []
    rw [run_bnd (run_pur _), run_bnd (run_sliceBound h0 h1)]; exact run_low hl _ _ _ o1
  rw [run_bnd this]
  simp only []
  rw [run_bnd (run_sizeOf hi')]
  simp only [Option.map_some, run_pur]
  split <;> rename_i hq <;> simp [hq]
theorem run_sliceAt_3 {t e : TypeId} {i : TypeInfo} {a : Addr} {len cap : Nat} {lo : Option Int} {lv : Option Value} {k k' : IntKind} {h m : Int} (hu : P.underlying t = some (.slice e)) (hi' : P.info? e = some i)
    (hl : OV lo lv) (h0 : 0 ≤ h) (h1 : h ≤ m) (h2 : m ≤ cap) (o1 : All (bndO lo h.toNat)) :
    ∃ v, (do pure (Next.value (← Instr.sliceAt t (.slice (some a) len cap) lv (some (.int k h)) (some (.int k' m)))) : Sem Next).run P w = .ok (.value v) w := by
  have : (Instr.sliceBounds true len cap lv (some (.int k h)) (some (.int k' m))).run P w = .ok (natO lo 0, h.toNat, m.toNat) w := by
    unfold Instr.sliceBounds
    simp only []
    rw [run_bnd (run_sliceBound (by omega) h2), run_bnd (run_sliceBound h0 (by omega))]; exact run_low hl _ _ _ o1
  have : ∃ v, (Instr.sliceAt t (.slice (some a) len cap) lv (some (.int k h)) (some (.int k' m))).run P w = .ok v w := by
    unfold Instr.sliceAt
    rw [run_bnd (run_underlying hu)]
    simp only []
    unfold Instr.slice
    rw [run_bnd (run_underlying hu)]
    simp only []
    rw [run_bnd this]
    simp only []
    rw [run_bnd (run_sizeOf hi')]
    exact ⟨_, rfl⟩
  obtain ⟨v, hv⟩ := this
  exact ⟨v, run_v hv⟩
theorem run_sliceAt_nil {t e : TypeId} {i : TypeInfo} {lo hi mx : Option Int} {lv hv mv : Option Value} {fl x : Bool} (hu : P.underlying t = some (.slice e)) (hi' : P.info? e = some i)
    (hl : OV lo lv) (hh : OV hi hv) (hm : OV mx mv) (hf : flagO hi mx x = some fl) (o1 : All (bndO lo (natO hi 0))) (o2 : All (bndO hi 0)) (o3 : All (mxO hi mx)) :
    (do pure (Next.value (← Instr.sliceAt t (.slice none 0 0) lv hv mv)) : Sem Next).run P w = .ok (.value (.slice none 0 0)) w := by
  have hle := natO_le o1 o2
  have hm0 : mxCap mx (natO hi 0) 0 = 0 := by cases mx <;> simp [mxCap]; omega
  have hh0 : natO hi 0 = 0 := by omega
  have hl0 : natO lo 0 = 0 := by omega
  refine run_v ?_
  unfold Instr.sliceAt
  rw [run_bnd (run_underlying hu)]
  simp only []
  unfold Instr.slice
  rw [run_bnd (run_underlying hu)]
  simp only []
  rw [run_bnd (run_sliceBounds hl hh hm hf (Nat.le_refl 0) o1 o2 o3)]
  simp only []
  rw [run_bnd (run_sizeOf hi')]
  rw [hm0, hl0, hh0]
  simp [run_pur]
theorem run_sliceAt_arr {t e : TypeId} {i : TypeInfo} {a : Addr} {m : Nat} {lo hi mx : Option Int} {lv hv mv : Option Value} {fl : Bool} (hu : P.underlying t = some (.array m e)) (hi' : P.info? e = some i)
    (hl : OV lo lv) (hh : OV hi hv) (hm : OV mx mv) (hf : flagO hi mx true = some fl) (o1 : All (bndO lo (natO hi m))) (o2 : All (bndO hi m)) (o3 : All (mxO hi mx)) :
    ∃ c, (do pure (Next.value (← Instr.sliceAt t (.pointer (some a)) lv hv mv)) : Sem Next).run P w =
      .ok (.value (.slice (some (if c = natO lo 0 then a else a.add (natO lo 0 * i.size))) (natO hi m - natO lo 0) (c - natO lo 0))) w ∧ natO hi m ≤ c ∧ c ≤ m ∧ (fl = true → c = natO hi m) ∧ c = mxCap mx (natO hi m) m := by
  refine ⟨mxCap mx (natO hi m) m, run_v ?_, ?_, ?_, ?_, rfl⟩
  · unfold Instr.sliceAt
    rw [run_bnd (run_underlying hu)]
    simp only [Instr.sureAddr]
    rw [run_bnd (run_pur _), run_bnd (run_sliceBounds hl hh hm hf (Nat.le_refl _) o1 o2 o3)]
    simp only []
    rw [run_bnd (run_sizeOf hi')]; rfl
  · have := (natO_le o1 o2).2; cases mx <;> simp [mxCap] <;> omega
  · have := (natO_le o1 o2).2; cases mx <;> simp [mxCap] <;> omega
  · intro h1
    cases mx with
    | some _ => rfl
    | none =>
      cases hi with
      | none => rfl
      | some v => simp only [flagO, Option.some.injEq] at hf; subst hf; cases h1
theorem flat_take {es : Nat} : ∀ (xs : List PV) (k : Nat), (∀ y ∈ xs, y.cells.length = es) → (xs.take k).flatMap PV.cells = (xs.flatMap PV.cells).take (k * es)
  | [], k, _ => by simp
  | x :: xs, 0, _ => by simp
  | x :: xs, k + 1, he => by
    have hx := he x (by simp)
    rw [List.take_succ_cons, List.flatMap_cons, List.flatMap_cons, flat_take xs k (fun y hy => he y (by simp [hy])), Nat.succ_mul, List.take_append, hx]
    rw [List.take_of_length_le (by omega : x.cells.length ≤ k * es + es)]
    congr 2; omega
theorem flat_drop {es : Nat} : ∀ (xs : List PV) (k : Nat), (∀ y ∈ xs, y.cells.length = es) → (xs.drop k).flatMap PV.cells = (xs.flatMap PV.cells).drop (k * es)
  | [], k, _ => by simp
  | x :: xs, 0, _ => by simp
  | x :: xs, k + 1, he => by
    have hx := he x (by simp)
    rw [List.drop_succ_cons, List.flatMap_cons, flat_drop xs k (fun y hy => he y (by simp [hy])), Nat.succ_mul, show k * es + es = x.cells.length + k * es from by omega, ← List.drop_drop, List.drop_left]
theorem RP.cut {X : Nat → Prop} {h : Hp} {xs : List PV} {x fl : Bool} {l hh cap es m len : Nat} {a : Addr} {vs : List Value} (hread : ReadsAt h a vs) (hnx : ¬ X a.block) (hl : RPL h X (xs.flatMap PV.cells) vs)
    (he : ∀ y ∈ xs, y.cells.length = es) (h1 : l ≤ hh) (h2 : hh ≤ xs.length) (h3 : hh ≤ m) (hfl : fl = true → m = hh) :
    RP h X (.sl ((xs.take hh).drop l) fl) (.slice (some (if m = l then a else a.add (l * es))) (hh - l) (m - l)) := by
  have hlen : ((xs.take hh).drop l).length = hh - l := by simp; omega
  have hflat : ((xs.take hh).drop l).flatMap PV.cells = ((xs.flatMap PV.cells).take (hh * es)).drop (l * es) := by
    rw [flat_drop _ _ (fun y hy => he y (List.mem_of_mem_take hy)), flat_take _ _ he]
  rw [← hlen]
  by_cases hml : m = l
  · rw [if_pos hml]
    have h0 : (xs.take hh).drop l = [] := by apply List.length_eq_zero_iff.1; omega
    have hcells : ((xs.take hh).drop l).flatMap PV.cells = [] := by rw [h0]; rfl
    refine .sl _ _ _ _ es [] ⟨hread.1, ?_⟩ hnx (by rw [hcells]; exact .nil) (fun y hy => he y (List.mem_of_mem_take (List.mem_of_mem_drop hy))) (by omega) (fun h => by have := hfl h; omega)
    obtain ⟨arr, t, fr, hb, _⟩ := hread.2
    exact ⟨arr, t, fr, hb, fun i v hi => by simp at hi⟩
  · rw [if_neg hml]
    refine .sl _ _ _ _ es ((vs.take (hh * es)).drop (l * es)) ?_ ?_ (by rw [hflat]; exact RPL.drop _ (RPL.take _ hl)) (fun y hy => he y (List.mem_of_mem_take (List.mem_of_mem_drop hy))) (by omega) (fun h => by have := hfl h; omega)
    · obtain ⟨hs, arr, t, fr, hb, hv⟩ := hread
      rw [addr_add a _ hs]
      refine ⟨rfl, arr, t, fr, hb, fun i v hi => ?_⟩
      simp only [List.getElem?_drop, List.getElem?_take] at hi
      split at hi
      · rw [show a.off + l * es + i = a.off + (l * es + i) from by omega]; exact hv _ _ hi
      · cases hi
    · obtain ⟨hs, _⟩ := hread
      rw [addr_add a _ hs]; exact hnx
theorem RI.cut {l off sz lo hh m es : Nat} {fl : Bool} {a : Addr} {g : Nat} {cs : List IV} (hdf : Def H l) (hl : H[l]? = some (.cells cs g)) (hg : g = 0 ∨ g = es)
    (hcc : ∀ cs g, H[l]? = some (.cells cs g) → sz ≤ cs.length ∧ (cs.length = sz → a = ⟨(φ l).1, (φ l).2 + off, none⟩)) {cap : Nat}
    (hgr : cs.length = sz → 0 < g → ∃ (arr : Array Value) (t : TypeId) (fr : Nat × Nat), w.heap[(φ l).1]? = some (.cells arr t fr) ∧ a.off + cap * g ≤ arr.size) (hmc : m ≤ cap) (hre : fl = false → cs.length = sz → 0 < g → sz ≤ off + m * g)
    (hlo : lo = 0 ∨ lo < m) (h1 : lo ≤ hh) (h3 : hh ≤ m) (hfl : fl = true → m = hh) :
    RI Γ w.heap φ H (.msl l (off + lo * es) (hh - lo) sz fl) (.slice (some (if m = lo then a else a.add (lo * es))) (hh - lo) (m - lo)) := by
  refine .msl _ _ _ _ _ _ _ hdf (fun cs' g' hl' => ?_) (by omega) (fun h => by have := hfl h; omega)
  rw [hl] at hl'; cases hl'
  obtain ⟨c1, c2⟩ := hcc cs g hl
  refine ⟨c1, fun he => ?_⟩
  have ha := c2 he
  have haddr : (if m = lo then a else a.add (lo * es)) = ⟨(φ l).1, (φ l).2 + (off + lo * es), none⟩ := by
    split
    · rename_i hml
      have : lo = 0 := by omega
      subst this; rw [ha]; simp
    · rw [ha, addr_add _ _ rfl]; simp; omega
  refine ⟨haddr, fun hg0 => ?_⟩
  obtain ⟨arr, t, fr, hb, hsz⟩ := hgr he hg0
  have hge : g = es := hg.resolve_left (Nat.ne_of_gt hg0)
  subst hge
  refine ⟨arr, t, fr, hb, ?_, fun hfl0 => ?_⟩
  rotate_left
  · have e1 : lo * g + (m - lo) * g = m * g := by rw [← Nat.add_mul]; congr 1; omega
    have := hre hfl0 he hg0
    omega
  rw [haddr]
  rw [ha] at hsz
  simp only at hsz ⊢
  have e1 : lo * g + (m - lo) * g = m * g := by rw [← Nat.add_mul]; congr 1; omega
  have e2 : m * g ≤ cap * g := Nat.mul_le_mul_right _ hmc
  omega
theorem sliceC_sound {t : TypeId} {x : Value} {xi iv : IV} {lo hi mx : Option IV} {lv hv mv : Option Value} {cl : Cl} {eff : Eff} {obs : List Prop} {hp : Nat → Option MObj} (hhp : ∀ l o, hp l = some o → H[l]? = some o)
    (hk : HOK Γ w.heap φ H) (hx : RI Γ w.heap φ H xi x) (hlo : RIO Γ w.heap φ H lo lv) (hhi : RIO Γ w.heap φ H hi hv) (hmx : RIO Γ w.heap φ H mx mv)
    (hc : sliceC P hp t xi lo hi mx cl = some (iv, eff, obs)) (ho : All obs) : Step Γ φ H w ((do pure (Next.value (← Instr.sliceAt t x lv hv mv)) : Sem Next).run P w) n iv eff := by
  unfold sliceC at hc
  split at hc
  · rename_i lo' hi' mx' e1 e2 e3
    have ol := optI_sound hlo e1
    have oh := optI_sound hhi e2
    have om := optI_sound hmx e3
    split at hc
    · rename_i e hu
      split at hc
      · rename_i i hi0
        split at hc
        · rename_i xs xc
          split at hc
          · rename_i fl hf
            have key : (∀ y ∈ xs, y.cells.length = i.size) → All (bndO lo' (natO hi' xs.length) ++ (bndO hi' xs.length ++ mxO hi' mx')) →
                Step Γ φ H w ((do pure (Next.value (← Instr.sliceAt t x lv hv mv)) : Sem Next).run P w) n (.p (.sl ((xs.take (natO hi' xs.length)).drop (natO lo' 0)) fl)) .none := by
              intro hes hall
              obtain ⟨p1, hr⟩ := All.append hall
              obtain ⟨p2, p3⟩ := All.append hr
              have hle := natO_le p1 p2
              cases hx with
              | p _ _ hr =>
                cases hr with
                | sl _ _ a cap es vs hread hnx hl he hc hxc =>
                  obtain ⟨m, hrun, m1, m2, m3, m4⟩ := run_sliceAt_sl (P := P) (w := w) (a := a) (x := xc) hu hi0 ol oh om hf hc p1 p2 p3
                  rw [hrun]
                  exact Step.same hk (.p _ _ (RP.cut (fl := fl) (x := xc) (cap := cap) (len := xs.length) hread hnx hl hes hle.1 hle.2 m1 fun h => m3 h hxc))
                | sl0 _ =>
                  rw [run_sliceAt_nil (P := P) (w := w) hu hi0 ol oh om hf p1 p2 p3]
                  have : (([] : List PV).take (natO hi' ([] : List PV).length)).drop (natO lo' 0) = [] := by simp
                  rw [this]
                  exact Step.same hk (.p _ _ (.sl0 fl))
            split at hc
            · cases hc
              obtain ⟨⟨o1, o2, _⟩, o3⟩ := All.append ho
              have := key o2 o3
              rw [o1] at this; exact this
            · cases hc
              obtain ⟨⟨o2, _⟩, o3⟩ := All.append ho
              exact key o2 o3
          · cases hc
        · split at hc
          · rename_i fl hf
            cases hc
            obtain ⟨p1, hr⟩ := All.append ho
            obtain ⟨p2, p3⟩ := All.append hr
            cases hx.p_inv
            rw [run_sliceAt_nil (P := P) (w := w) hu hi0 ol oh om hf p1 p2 p3]
            exact Step.same hk (.p _ _ .nilsl)
          · cases hc
        · rename_i xc
          split at hc
          · rename_i fl hf
            cases hc
            obtain ⟨p1, hr⟩ := All.append ho
            obtain ⟨p2, p3⟩ := All.append hr
            have hle := natO_le p1 p2
            cases hx with
            | p _ _ hr =>
              cases hr with
              | sle _ a cap hread hnx hxc =>
                obtain ⟨m, hrun, m1, m2, m3, m4⟩ := run_sliceAt_sl (P := P) (w := w) (a := a) (x := xc) hu hi0 ol oh om hf (Nat.zero_le cap) p1 p2 p3
                have e1 : natO lo' 0 = 0 := by omega
                have e2 : natO hi' 0 = 0 := by omega
                rw [hrun, e1, e2]
                simp only [Nat.zero_mul, Nat.sub_zero]
                have e3 : (if m = 0 then a else a.add 0) = a := by split <;> simp [Addr.add]
                rw [e3]
                exact Step.same hk (.p _ _ (.sle fl a m hread hnx fun h => by rw [m3 h hxc, e2]))
          · cases hc
        · rename_i l off len sz xc
          split at hc
          · split at hc
            · rename_i cs g h hl
              split at hc
              · rename_i hg
                have hg := Nat.eq_of_beq_eq_true hg
                subst hg
                cases hc
                obtain ⟨⟨o1, o2, o3, o4, o5, _⟩, o6⟩ := All.append ho
                have hl' := hhp _ _ hl
                cases hx with
                | msl _ _ _ _ _ a cap hdf hcc hlc hxx =>
                  obtain ⟨arr, t0, fr, hb, hsz, hreach⟩ := ((hcc cs _ hl').2 o3).2 o1
                  have hr := hreach rfl
                  have hcap : h.toNat ≤ cap := by
                    have : h.toNat * i.size ≤ cap * i.size := by omega
                    exact Nat.le_of_mul_le_mul_right this o1
                  cases mv with
                  | some _ => simp [OV] at om
                  | none =>
                    cases hv with
                    | none => simp [OV] at oh
                    | some hv =>
                      obtain ⟨kk, rfl⟩ := oh
                      rw [run_sliceAt_hi (a := a) (len := len) hu hi0 ol o5 (by omega) o6]
                      have hlo : natO lo' 0 ≤ h.toNat := by cases lo' with | none => simp [natO] | some v => simp only [bndO, All] at o6; simp only [natO]; omega
                      exact Step.same hk (RI.cut (cap := cap) hdf hl' (.inr rfl) (fun cs g h => ⟨(hcc cs g h).1, fun he => ((hcc cs g h).2 he).1⟩) (fun _ _ => ⟨arr, t0, fr, hb, hsz⟩) (Nat.le_refl _) (fun _ _ _ => hr) (o2.imp id fun h => by omega) hlo hcap fun h => by cases h)
              · cases hc
            · cases hc
          · split at hc
            · rename_i h m
              cases hc
              obtain ⟨⟨o1, o2, o3, _⟩, o4⟩ := All.append ho
              cases hx with
              | msl _ _ _ _ _ a cap hdf hcc hlc hxx =>
                cases mv with
                | none => simp [OV] at om
                | some mv =>
                  cases hv with
                  | none => simp [OV] at oh
                  | some hv =>
                    obtain ⟨kk, rfl⟩ := oh
                    obtain ⟨kk', rfl⟩ := om
                    obtain ⟨v, hrun⟩ := run_sliceAt_3 (P := P) (w := w) (a := a) (len := len) (cap := cap) (k := kk) (k' := kk') hu hi0 ol o1 o2 (by omega) o4
                    rw [hrun]
                    exact Step.same hk (.p _ _ (.junk _))
            · cases hc
          · split at hc
            · rename_i cs g hl
              split at hc
              · rename_i fl hf
                cases hc
                obtain ⟨⟨o1, o2, _⟩, o3⟩ := All.append ho
                obtain ⟨p1, hr⟩ := All.append o3
                obtain ⟨p2, p3⟩ := All.append hr
                have hl' := hhp _ _ hl
                cases hx with
                | msl _ _ _ _ _ a cap hdf hcc hlc hxx =>
                  obtain ⟨m, hrun, m1, m2, m3, m4⟩ := run_sliceAt_sl (P := P) (w := w) (a := a) (x := xc) hu hi0 ol oh om hf hlc p1 p2 p3
                  rw [hrun, o1, Nat.sub_self]
                  exact Step.same hk (.msl _ _ _ _ _ _ _ hdf (fun cs' g' h => ⟨Nat.zero_le _, fun he => by rw [hl'] at h; cases h; omega⟩) (Nat.zero_le _) fun h => by cases h)
              · cases hc
            · cases hc
          split at hc
          · rename_i cs g fl hl hf
            have hl' := hhp _ _ hl
            split at hc
            · rename_i hg
              have hg' : g = 0 ∨ g = i.size := by
                rcases Bool.or_eq_true _ _ ▸ hg with h | h
                · exact .inl (Nat.eq_of_beq_eq_true h)
                · exact .inr (Nat.eq_of_beq_eq_true h)
              have key : (natO lo' 0 = 0 ∨ natO lo' 0 < mxCap mx' (natO hi' len) len) → All (bndO lo' (natO hi' len) ++ (bndO hi' len ++ (mxO hi' mx' ++ rchO xc fl g sz off len i.size))) →
                  Step Γ φ H w ((do pure (Next.value (← Instr.sliceAt t x lv hv mv)) : Sem Next).run P w) n (.msl l (off + natO lo' 0 * i.size) (natO hi' len - natO lo' 0) sz fl) .none := by
                intro hlo2 hall
                obtain ⟨p1, hr⟩ := All.append hall
                obtain ⟨p2, hr⟩ := All.append hr
                obtain ⟨p3, p4⟩ := All.append hr
                have hle := natO_le p1 p2
                cases hx with
                | msl _ _ _ _ _ a cap hdf hcc hlc hxx =>
                  obtain ⟨m, hrun, m1, m2, m3, m4⟩ := run_sliceAt_sl (P := P) (w := w) (a := a) (x := xc) hu hi0 ol oh om hf hlc p1 p2 p3
                  rw [hrun]
                  have hlm : natO lo' 0 = 0 ∨ natO lo' 0 < m := by
                    rcases hlo2 with h | h
                    · exact .inl h
                    · have := m4 rfl
                      cases mx' <;> simp only [mxCap] at * <;> omega
                  have hgr : cs.length = sz → 0 < g → ∃ (arr : Array Value) (t : TypeId) (fr : Nat × Nat), w.heap[(φ l).1]? = some (.cells arr t fr) ∧ a.off + cap * g ≤ arr.size := fun he h0 => by
                    obtain ⟨arr, t0, fr, hb, hsz, _⟩ := ((hcc cs g hl').2 he).2 h0
                    exact ⟨arr, t0, fr, hb, hsz⟩
                  have hre : fl = false → cs.length = sz → 0 < g → sz ≤ off + m * g := by
                    intro hfl he h0
                    have hmc := m4 (c := cap) rfl
                    have hmx : mx' = none := by
                      cases mx' with
                      | none => rfl
                      | some _ => cases hi' with
                        | none => simp [flagO] at hf
                        | some _ => simp [flagO] at hf; rw [hf] at hfl; cases hfl
                    subst hmx
                    simp only [mxCap] at hmc
                    rw [hmc]
                    obtain ⟨arr, t0, fr, hb, hsz, hreach⟩ := ((hcc cs g hl').2 he).2 h0
                    cases xc with
                    | false => exact hreach rfl
                    | true =>
                      subst hfl
                      simp only [rchO, All] at p4
                      rw [hxx rfl]
                      have hge : g = i.size := hg'.resolve_left (Nat.ne_of_gt h0)
                      rw [hge]
                      exact p4.1.resolve_left (Nat.ne_of_gt h0)
                  exact Step.same hk (RI.cut hdf hl' hg' (fun cs g h => ⟨(hcc cs g h).1, fun he => ((hcc cs g h).2 he).1⟩) hgr m2 hre hlm hle.1 m1 fun h => m3 h hxx)
              split at hc
              · cases hc
                obtain ⟨⟨o1, o2, _⟩, o3⟩ := All.append ho
                have := key o1 o3
                rw [o2] at this; exact this
              · cases hc
                obtain ⟨⟨o1, _⟩, o3⟩ := All.append ho
                exact key o1 o3
            · cases hc
          · cases hc
        · cases hc
      · cases hc
    · rename_i m e hu
      split at hc
      · rename_i i hi0
        split at hc
        · rename_i l off sz
          split at hc
          · rename_i cs fl hl hf
            have hl' := hhp _ _ hl
            have key : (natO lo' 0 = 0 ∨ natO lo' 0 < mxCap mx' (natO hi' m) m) → All (bndO lo' (natO hi' m) ++ (bndO hi' m ++ mxO hi' mx')) →
                Step Γ φ H w ((do pure (Next.value (← Instr.sliceAt t x lv hv mv)) : Sem Next).run P w) n (.msl l (off + natO lo' 0 * i.size) (natO hi' m - natO lo' 0) sz fl) .none := by
              intro hlo2 hall
              obtain ⟨p1, hr⟩ := All.append hall
              obtain ⟨p2, p3⟩ := All.append hr
              have hle := natO_le p1 p2
              cases hx with
              | ptr _ _ _ a hdf hcc =>
                obtain ⟨c, hrun, m1, m2, m3, m4⟩ := run_sliceAt_arr (P := P) (w := w) (a := a) hu hi0 ol oh om hf p1 p2 p3
                rw [hrun]
                have hlm : natO lo' 0 = 0 ∨ natO lo' 0 < c := by rw [m4]; exact hlo2
                exact Step.same hk (RI.cut (cap := c) hdf hl' (.inl rfl) hcc (fun _ h0 => absurd h0 (by omega)) (Nat.le_refl _) (fun _ _ h0 => absurd h0 (by omega)) hlm hle.1 m1 m3)
            split at hc
            · cases hc
              obtain ⟨⟨o1, o2, _⟩, o3⟩ := All.append ho
              have := key o1 o3
              rw [o2] at this; exact this
            · cases hc
              obtain ⟨⟨o1, _⟩, o3⟩ := All.append ho
              exact key o1 o3
          · cases hc
        · rename_i cs
          split at hc
          · rename_i fl hf hs1 hs2 hs3 hs4
            cases hc
            obtain ⟨p1, hr⟩ := All.append ho
            obtain ⟨p2, p3⟩ := All.append hr
            have hle := natO_le p1 p2
            have e1 := Nat.eq_of_beq_eq_true hs1
            have e4 := Nat.eq_of_beq_eq_true hs4
            cases hx with
            | p _ _ hr =>
              cases hr with
              | ref _ a vs hread hnx hl =>
                obtain ⟨c, hrun, m1, m2, m3, m4⟩ := run_sliceAt_arr (P := P) (w := w) (a := a) hu hi0 ol oh om hf p1 p2 p3
                rw [hrun]
                have hone : ∀ ys : List PV, scalars (ys.map .p) = true → ys.flatMap PV.cells = ys := by
                  intro ys
                  induction ys with
                  | nil => intro _; rfl
                  | cons y ys ih =>
                    intro h
                    simp only [List.map_cons, scalars] at h
                    split at h
                    · rename_i hy
                      rw [List.flatMap_cons, ih h]
                      cases y <;> simp_all [scalarI, PV.cells]
                    · cases h
                have hl2 : RPL w.heap (fun b => Γ.X b ∨ Own φ H b) ((cs.take m).flatMap PV.cells) (vs.take m) := by rw [hone _ hs3]; exact RPL.take _ hl
                refine Step.same hk (.p _ _ ?_)
                rw [e1]
                refine RP.cut (fl := fl) (x := true) (cap := m) (len := m) (vs := vs.take m) ⟨hread.1, ?_⟩ hnx hl2 (fun y hy => (sizesOK_spec hs2 y hy).1) hle.1 (by rw [e4]; exact hle.2) m1 m3
                obtain ⟨arr, t', fr, hb, hv'⟩ := hread.2
                exact ⟨arr, t', fr, hb, fun j z hj => by
                  simp only [List.getElem?_take] at hj
                  split at hj
                  · exact hv' j z hj
                  · cases hj⟩
          · cases hc
        · cases hc
      · cases hc
    · cases hc
  · cases hc
end
end Go.Idl
set_option linter.unusedSimpArgs false
set_option linter.unusedVariables false
namespace Go.Idl
open Go
def lenC (P : Program) (hp : Nat → Option MObj) (t : TypeId) (x : IV) (cl : Cl) : OR :=
  match P.underlying t with
  | some .string => match x with | .p (.str s) => intR .i64 s.length cl [] | _ => none
  | some (.array m _) => intR .i64 m cl []
  | some (.slice _) => match x with
    | .p .nilsl => intR .i64 0 cl []
    | .p (.sl xs _) => intR .i64 xs.length cl []
    | .p (.sle _) => intR .i64 0 cl []
    | .msl _ _ len _ _ => intR .i64 len cl []
    | _ => none
  | some (.map _ _) => match x with
    | .p .nilmap => intR .i64 0 cl []
    | .p (.map ks _) => intR .i64 ks.length cl []
    | .mmap l => match hp l with | some (.map ks _) => intR .i64 ks.length cl [] | some (.mapS ks _ _ _) => intR .i64 ks.length cl [] | _ => none
    | _ => none
  | _ => none
section
variable {P : Program} {Γ : Cx} {φ : Plc} {H : List MObj} {w : World} {n : Nat}
theorem lenC_sound {t ty : TypeId} {x : Value} {xi iv : IV} {cl : Cl} {eff : Eff} {obs : List Prop} {hp : Nat → Option MObj} (hhp : ∀ l o, hp l = some o → H[l]? = some o) (hk : HOK Γ w.heap φ H) (hx : RI Γ w.heap φ H xi x)
    (hc : lenC P hp t xi cl = some (iv, eff, obs)) (ho : All obs) : Step Γ φ H w ((do pure (Next.value (← Builtin.len_ #[t] ty #[x])) : Sem Next).run P w) n iv eff := by
  have fin : ∀ (k : Int), intR .i64 k cl [] = some (iv, eff, obs) → (Builtin.len_ #[t] ty #[x]).run P w = .ok (goInt k) w → Step Γ φ H w ((do pure (Next.value (← Builtin.len_ #[t] ty #[x])) : Sem Next).run P w) n iv eff := by
    intro k h1 h2
    rw [run_v h2]; exact (intR_sound hk h1 ho).1
  unfold lenC at hc
  split at hc
  · rename_i hu
    split at hc
    · cases hx.p_inv
      refine fin _ hc ?_
      simp [Builtin.len_, _root_.Go.run_underlying hu]; rfl
    · cases hc
  · rename_i m e hu
    refine fin _ hc ?_
    simp [Builtin.len_, _root_.Go.run_underlying hu]
  · rename_i e hu
    split at hc
    · cases hx.p_inv
      refine fin _ hc ?_
      simp [Builtin.len_, _root_.Go.run_underlying hu]
    · cases hx.p_inv
      · refine fin _ hc ?_
        simp [Builtin.len_, _root_.Go.run_underlying hu]
      · refine fin _ hc ?_
        simp [Builtin.len_, _root_.Go.run_underlying hu]
    · cases hx.p_inv
      refine fin _ hc ?_
      simp [Builtin.len_, _root_.Go.run_underlying hu]
    · cases hx
      refine fin _ hc ?_
      simp [Builtin.len_, _root_.Go.run_underlying hu]
    · cases hc
  · rename_i e e' hu
    split at hc
    · cases hx.p_inv
      refine fin _ hc ?_
      simp [Builtin.len_, _root_.Go.run_underlying hu]
    · rename_i ks vs
      cases hx with
      | p _ _ hr => cases hr with
        | map _ _ r es clock hb hnx hk1 hv1 hn1 hb1 =>
          refine fin _ hc ?_
          have := RPL.length hk1
          simp at this
          simp [Builtin.len_, _root_.Go.run_underlying hu, getObj, Sem.run, hb, this]
    · rename_i l
      split at hc
      · rename_i ks vs hl
        cases hx with
        | mmap _ r hd hcc =>
          obtain ⟨es, clock, h1, h2, h3, _⟩ := hk.obj l _ (hhp _ _ hl)
          have hr := hcc _ (hhp _ _ hl) rfl
          subst hr
          refine fin _ hc ?_
          have := RPL.length h2
          simp at this
          simp [Builtin.len_, _root_.Go.run_underlying hu, getObj, Sem.run, h1, this]
      · rename_i ks vs bs c hl
        cases hx with
        | mmap _ r hd hcc =>
          obtain ⟨es, h1, h2, h3, _⟩ := hk.obj l _ (hhp _ _ hl)
          have hr := hcc _ (hhp _ _ hl) rfl
          subst hr
          refine fin _ hc ?_
          have := RPL.length h2
          simp at this
          simp [Builtin.len_, _root_.Go.run_underlying hu, getObj, Sem.run, h1, this]
      · cases hc
    · cases hc
  · cases hc
end
def intsOf : List IV → Option (List Int)
  | [] => some []
  | .p (.int .i64 n) :: r => match intsOf r with | some l => some (n :: l) | none => none
  | _ :: _ => none
def minL (x : Int) (l : List Int) : Int := l.foldl (fun a y => if y < a then y else a) x
def maxL (x : Int) (l : List Int) : Int := l.foldl (fun a y => if y > a then y else a) x
def minmaxC (mx : Bool) (xs : List IV) (cl : Cl) : OR :=
  match intsOf xs with
  | some (a :: l) => match mx with
    | true => intR .i64 (maxL a l) cl []
    | false => intR .i64 (minL a l) cl []
  | _ => none
section
variable {P : Program} {Γ : Cx} {φ : Plc} {H : List MObj} {w : World} {n : Nat}
theorem intsOf_sound : ∀ {xs : List IV} {l : List Int} {vs : List Value}, intsOf xs = some l → RIL Γ w.heap φ H xs vs → vs = l.map (Value.int .i64)
  | [], l, _, h, .nil => by simp [intsOf] at h; subst h; rfl
  | .p (.int .i64 m) :: r, l, _, h, .cons _ v _ vs h1 h2 => by
    simp only [intsOf] at h
    split at h
    · rename_i l' hl'
      cases h
      cases h1.p_inv
      simp [intsOf_sound hl' h2]
    · cases h
  | .p (.int .i8 _) :: _, _, _, h, _ => by simp [intsOf] at h
  | .p (.int .i16 _) :: _, _, _, h, _ => by simp [intsOf] at h
  | .p (.int .i32 _) :: _, _, _, h, _ => by simp [intsOf] at h
  | .p (.int .u8 _) :: _, _, _, h, _ => by simp [intsOf] at h
  | .p (.int .u16 _) :: _, _, _, h, _ => by simp [intsOf] at h
  | .p (.int .u32 _) :: _, _, _, h, _ => by simp [intsOf] at h
  | .p (.int .u64 _) :: _, _, _, h, _ => by simp [intsOf] at h
  | .p (.bool _) :: _, _, _, h, _ => by simp [intsOf] at h
  | .p (.str _) :: _, _, _, h, _ => by simp [intsOf] at h
  | .p .nilp :: _, _, _, h, _ => by simp [intsOf] at h
  | .p (.ref _) :: _, _, _, h, _ => by simp [intsOf] at h
  | .p .nilsl :: _, _, _, h, _ => by simp [intsOf] at h
  | .p (.sl _ _) :: _, _, _, h, _ => by simp [intsOf] at h
  | .p .nilmap :: _, _, _, h, _ => by simp [intsOf] at h
  | .p (.map _ _) :: _, _, _, h, _ => by simp [intsOf] at h
  | .p (.fn _ _ _) :: _, _, _, h, _ => by simp [intsOf] at h
  | .p .nilfn :: _, _, _, h, _ => by simp [intsOf] at h
  | .p (.agg _) :: _, _, _, h, _ => by simp [intsOf] at h
  | .p (.tup _) :: _, _, _, h, _ => by simp [intsOf] at h
  | .p .junk :: _, _, _, h, _ => by simp [intsOf] at h
  | .ptr _ _ _ :: _, _, _, h, _ => by simp [intsOf] at h
  | .msl _ _ _ _ _ :: _, _, _, h, _ => by simp [intsOf] at h
  | .mmap _ :: _, _, _, h, _ => by simp [intsOf] at h
  | .iter _ :: _, _, _, h, _ => by simp [intsOf] at h
  | .fn _ _ _ :: _, _, _, h, _ => by simp [intsOf] at h
  | .agg _ :: _, _, _, h, _ => by simp [intsOf] at h
  | .tup _ :: _, _, _, h, _ => by simp [intsOf] at h
  | .yld _ :: _, _, _, h, _ => by simp [intsOf] at h
theorem run_foldMin : ∀ (l : List Int) (a : Int), ((l.map (Value.int .i64)).foldlM Builtin.min2 (Value.int .i64 a)).run P w = .ok (.int .i64 (minL a l)) w
  | [], a => rfl
  | b :: l, a => by
    rw [List.map_cons, List.foldlM_cons, run_bnd (show (Builtin.min2 (.int .i64 a) (.int .i64 b)).run P w = .ok (.int .i64 (if b < a then b else a)) w from rfl), run_foldMin l]; rfl
theorem run_foldMax : ∀ (l : List Int) (a : Int), ((l.map (Value.int .i64)).foldlM Builtin.max2 (Value.int .i64 a)).run P w = .ok (.int .i64 (maxL a l)) w
  | [], a => rfl
  | b :: l, a => by
    rw [List.map_cons, List.foldlM_cons, run_bnd (show (Builtin.max2 (.int .i64 a) (.int .i64 b)).run P w = .ok (.int .i64 (if b > a then b else a)) w from rfl), run_foldMax l]; rfl
theorem minmaxC_sound {mx : Bool} {ats : Array TypeId} {ty : TypeId} {vs : List Value} {xs : List IV} {iv : IV} {cl : Cl} {eff : Eff} {obs : List Prop} (hk : HOK Γ w.heap φ H) (hx : RIL Γ w.heap φ H xs vs)
    (hc : minmaxC mx xs cl = some (iv, eff, obs)) (ho : All obs) :
    Step Γ φ H w ((do pure (Next.value (← (match mx with | true => Builtin.max_ ats ty ⟨vs⟩ | false => Builtin.min_ ats ty ⟨vs⟩))) : Sem Next).run P w) n iv eff := by
  unfold minmaxC at hc
  split at hc
  · rename_i a l hi
    have := intsOf_sound hi hx
    subst this
    split at hc
    · rw [run_v (w' := w) (v := .int .i64 (maxL a l))]
      · exact (intR_sound hk hc ho).1
      · exact run_foldMax l a
    · rw [run_v (w' := w) (v := .int .i64 (minL a l))]
      · exact (intR_sound hk hc ho).1
      · exact run_foldMin l a
  · cases hc
end
def copyC (P : Program) (hp : Nat → Option MObj) (t : TypeId) (d s : IV) (cl : Cl) : OR :=
  match P.underlying t, d with
  | some (.slice e), .msl l off len sz _ => match P.info? e, hp l with
    | some i, some (.cells old g) => match srcOf hp i.size s, cl with
      | some (m, zs, obx), .ap cs k _ => some (.p (.int .i64 k), .set l (.cells cs g),
          [k = Nat.min m len, old.length = sz, off + len * i.size ≤ sz, ∀ y ∈ zs, scalarI y = true, putCells old off (zs.take (k * i.size)) = cs] ++ obx)
      | _, _ => none
    | _, _ => none
  | _, _ => none
def clearC (P : Program) (hp : Nat → Option MObj) (t : TypeId) (d : IV) (cl : Cl) : OR :=
  match P.underlying t, d with
  | some (.slice e), .p .nilsl => some (.p (.tup []), .none, [])
  | some (.slice e), .msl l off len sz _ => match cl with
   | .n _ => some (.p (.tup []), .none, [len = 0])
   | _ => match P.info? e, tzero P e, hp l, cl with
    | some i, some z, some (.cells old g), .cs cs => match solid (.p z), Nat.beq z.cells.length i.size, scalars (z.cells.map .p) with
      | true, true, true => some (.p (.tup []), .set l (.cells cs g), [old.length = sz, off + len * i.size ≤ sz, putCells old off (zerosI z.cells (len * i.size)) = cs])
      | _, _, _ => none
    | _, _, _, _ => none
  | _, _ => none
section
variable {P : Program} {Γ : Cx} {φ : Plc} {H : List MObj} {w : World} {n : Nat}
theorem copyC_sound {t ts ty : TypeId} {dv sv : Value} {di si iv : IV} {cl : Cl} {eff : Eff} {obs : List Prop} {hp : Nat → Option MObj} (hhp : ∀ l o, hp l = some o → H[l]? = some o) (hk : HOK Γ w.heap φ H)
    (hX : ∀ b, Γ.X b → b < w.heap.size) (hd : RI Γ w.heap φ H di dv) (hs : RI Γ w.heap φ H si sv) (hc : copyC P hp t di si cl = some (iv, eff, obs)) (ho : All obs) :
    Step Γ φ H w ((do pure (Next.value (← Builtin.copy_ #[t, ts] ty #[dv, sv])) : Sem Next).run P w) n iv eff := by
  unfold copyC at hc
  split at hc
  · rename_i e l off len sz xc hu
    split at hc
    · rename_i i old g hi hl
      split at hc
      · rename_i m zs obx cs k x hsrc
        cases hc
        obtain ⟨⟨o1, o2, o3, o4, o5, _⟩, ox⟩ := All.append ho
        have hl' := hhp _ _ hl
        obtain ⟨a, cap, us, rfl, g1, g2, g3, g4⟩ := srcOf_sound hhp hk hs hsrc ox
        cases hd with
        | msl _ _ _ _ _ b dcap hdf hcc hle hxx =>
          have hb := ((hcc old g hl').2 o2).1
          subst hb
          have hkm : k ≤ m := by rw [o1]; exact Nat.min_le_left _ _
          have hkl : k ≤ len := by rw [o1]; exact Nat.min_le_right _ _
          have e1 : k * i.size ≤ m * i.size := Nat.mul_le_mul_right _ hkm
          have e2 : k * i.size ≤ len * i.size := Nat.mul_le_mul_right _ hkl
          have zlen := RIL.length g2
          have hsc := scalars_sound ((scalars_iff zs).1 o4) g2
          obtain ⟨w', k1, k2, k3, k4⟩ := put_cells (P := P) (off := off) (vs := zs.take (k * i.size)) (us := us.take (k * i.size)) hk hX hl' (by simp; omega) (RIL.take _ g2) (fun v hv => hsc v (List.mem_of_mem_take hv))
          rw [o5] at k2 k3
          have hfirst : (Builtin.firstCells i.size k (.slice a m cap)).run P w = .ok (us.take (k * i.size)).toArray w := by
            rcases g4 with ⟨rfl, rfl, rfl⟩ | ⟨b, rfl, hcell⟩
            · have hk0 : k = 0 := by omega
              subst hk0
              have : us = [] := by simpa using g3
              subst this
              simpa using run_firstCells_none (P := P) w i.size 0 0 0
            · exact run_firstCells_some w i.size k b m cap _ (by simp; omega) fun j v hj => hcell j v (by
                simp only [List.getElem?_take] at hj
                split at hj
                · exact hj
                · cases hj)
          have hrun : (Builtin.copy_ #[t, ts] ty #[.slice (some ⟨(φ l).1, (φ l).2 + off, none⟩) len dcap, .slice a m cap]).run P w = .ok (goInt k) w' := by
            simp [Builtin.copy_, _root_.Go.run_underlying hu, Builtin.lenOf, sizeOf, typeInfo, hi, ← o1, hfirst, k1]
          rw [run_v hrun]
          exact ⟨_, _, φ, w', rfl, rfl, k2, k3, .p _ _ (.int _ _), k4⟩
      · cases hc
    · cases hc
  · cases hc
theorem clearC_sound {t ty : TypeId} {dv : Value} {di iv : IV} {cl : Cl} {eff : Eff} {obs : List Prop} {hp : Nat → Option MObj} (hhp : ∀ l o, hp l = some o → H[l]? = some o) (hk : HOK Γ w.heap φ H)
    (hX : ∀ b, Γ.X b → b < w.heap.size) (hd : RI Γ w.heap φ H di dv) (hc : clearC P hp t di cl = some (iv, eff, obs)) (ho : All obs) :
    Step Γ φ H w ((do pure (Next.value (← Builtin.clear_ #[t] ty #[dv])) : Sem Next).run P w) n iv eff := by
  unfold clearC at hc
  split at hc
  · rename_i e hu
    cases hc
    cases hd.p_inv
    have hrun : (Builtin.clear_ #[t] ty #[.slice none 0 0]).run P w = .ok (.tuple #[]) w := by
      simp [Builtin.clear_, _root_.Go.run_underlying hu]
    rw [run_v hrun]; exact Step.same hk (.p _ _ (.tup _ _ .nil))
  · rename_i e l off len sz xc hu
    split at hc
    · cases hc
      obtain ⟨o1, _⟩ := ho
      subst o1
      cases hd with
      | msl _ _ _ _ _ b dcap hdf hcc hle hxx =>
        have hrun : (Builtin.clear_ #[t] ty #[.slice (some b) 0 dcap]).run P w = .ok (.tuple #[]) w := by
          simp [Builtin.clear_, _root_.Go.run_underlying hu]
        rw [run_v hrun]; exact Step.same hk (.p _ _ (.tup _ _ .nil))
    split at hc
    · rename_i i z old g cs hi hz hl _
      split at hc
      · rename_i h1 h2 h3
        cases hc
        obtain ⟨o1, o2, o3, _⟩ := ho
        have hl' := hhp _ _ hl
        have hzl := Nat.eq_of_beq_eq_true h2
        obtain ⟨i', v, hi', hv, hcv⟩ := tzero_spec hz
        rw [hi] at hi'; cases hi'
        have hzr : RI Γ w.heap φ H (.p z) v := .p _ _ (constV_sound _ _ _ _ hcv)
        have hcells := RIL.pure (RI.cells hzr h1)
        have hl2 := RPL.length hcells
        have hsc0 := scalars_sound h3 (RPL.toRIL hcells)
        cases hd with
        | msl _ _ _ _ _ b dcap hdf hcc hle hxx =>
          have hb := ((hcc old g hl').2 o1).1
          subst hb
          let us : List Value := (Builtin.zeroCells v.cells len).toList
          have hvs : v.cells.size = i.size := by rw [← hzl]; simpa using hl2.symm
          have hus : us.length = len * i.size := by simp [us, Builtin.zeroCells, hvs]
          have hget : ∀ (j : Nat), j < len * i.size → ∃ x, us[j]? = some x ∧ RP w.heap (fun b => Γ.X b ∨ Own φ H b) ((z.cells[j % z.cells.length]?).getD .junk) x ∧ x ∈ v.cells.toList := by
            intro j hj
            have hpos : 0 < z.cells.length := by
              rcases Nat.eq_zero_or_pos z.cells.length with h | h
              · rw [hzl] at h; rw [h] at hj; omega
              · exact h
            have hm : j % z.cells.length < z.cells.length := Nat.mod_lt _ hpos
            obtain ⟨x, hx, hr⟩ := RPL.get hcells (j % z.cells.length) _ (List.getElem?_eq_getElem hm)
            refine ⟨x, ?_, by rw [List.getElem?_eq_getElem hm]; exact hr, List.mem_of_getElem? hx⟩
            simp only [us, Builtin.zeroCells, Array.getElem?_toList, Array.getElem?_map]
            rw [Array.getElem?_range]
            rw [if_pos (by rw [hvs]; exact hj)]
            simp only [Option.map_some, Option.some.injEq]
            rw [hvs, ← hzl]
            have : v.cells[j % z.cells.length]? = some x := by simpa using hx
            simp [getElem!_def, this]
          have hril : RIL Γ w.heap φ H (zerosI z.cells (len * i.size)) us := by
            refine RIL.of_get _ _ (by simp [zerosI, hus]) fun j p u hp hu' => ?_
            simp only [zerosI, List.getElem?_map] at hp
            have hj : j < len * i.size := by have := lt_of_lget hu'; omega
            rw [List.getElem?_range hj] at hp
            simp only [Option.map_some, Option.some.injEq] at hp
            subst hp
            obtain ⟨x, hx, hr, _⟩ := hget j hj
            rw [hu'] at hx; cases hx
            exact .p _ _ hr
          have hscal : ∀ u ∈ us, scalarV u = true := by
            intro u hu'
            obtain ⟨j, hj⟩ := List.getElem?_of_mem hu'
            obtain ⟨x, hx, _, hmem⟩ := hget j (by have := lt_of_lget hj; omega)
            rw [hj] at hx; cases hx
            exact hsc0 _ hmem
          obtain ⟨w', k1, k2, k3, k4⟩ := put_cells (P := P) (off := off) hk hX hl' (by simp [zerosI]; omega) hril hscal
          rw [o3] at k2 k3
          have hrun : (Builtin.clear_ #[t] ty #[.slice (some ⟨(φ l).1, (φ l).2 + off, none⟩) len dcap]).run P w = .ok (.tuple #[]) w' := by
            cases len with
            | zero =>
              have hu0 : us = [] := by apply List.length_eq_zero_iff.1; rw [hus]; simp
              rw [hu0] at k1
              simp only [storeCells] at k1
              cases k1
              simp [Builtin.clear_, _root_.Go.run_underlying hu]
            | succ len' =>
              simp [Builtin.clear_, _root_.Go.run_underlying hu, zeroValue, typeInfo, hi, hv]
              simp only [us] at k1
              simp [k1]
          rw [run_v hrun]
          exact ⟨_, _, φ, w', rfl, rfl, k2, k3, .p _ _ (.tup _ _ .nil), k4⟩
      · cases hc
    · cases hc
  · cases hc
end
def convC (P : Program) (src dst : TypeId) (x : IV) (cl : Cl) : OR :=
  match P.underlying src, P.underlying dst, x with
  | some _, some (.int k), .p (.int _ n) => intR k (k.wrap n) cl []
  | some _, some .string, .p (.str s) => some (.p (.str s), .none, [])
  | _, _, _ => none
def strAt (s : List UInt8) (k : Int) : Option Int := if 0 ≤ k then (s[k.toNat]?).map fun b => (b.toNat : Int) else none
def indexC (P : Program) (t : TypeId) (x ix : IV) (cl : Cl) : OR :=
  match P.underlying t, x, ix with
  | some (.array m e), .p (.agg cs), .p (.int _ k) => match P.info? e, cl with
    | some i, .iv (.p v) => some (.p v, .none, [0 ≤ k, k < (m : Int), partPV P e cs (k.toNat * i.size) = some v])
    | some i, _ => match partPV P e cs (k.toNat * i.size) with
      | some v => some (.p v, .none, [0 ≤ k, k < (m : Int)])
      | none => none
    | none, _ => none
  | some .string, .p (.str s), .p (.int _ k) => match cl with
    | .n r => some (.p (.int .u8 r), .none, [strAt s k = some r])
    | _ => none
  | _, _, _ => none
def fieldC (P : Program) (t : TypeId) (x : IV) (f : Nat) : OR :=
  match P.underlying t with
  | some (.struct fs) => match fs[f]?, x with
    | some fd, .p (.agg cs) => match partPV P fd.type cs fd.offset with
      | some v => some (.p v, .none, [])
      | none => none
    | some fd, .agg cs => match td P fd.type with
      | some (d, i) => match isAggD d with
        | true => match Nat.ble (fd.offset + i.size) cs.length with
          | true => some (mkAgg ((cs.drop fd.offset).take i.size), .none, [])
          | false => none
        | false => match cs[fd.offset]? with | some v => some (v, .none, []) | none => none
      | none => none
    | _, _ => none
  | _ => none
def nilCheckC (x : IV) : OR := match x with
  | .p (.ref cs) => some (.p (.ref cs), .none, [])
  | .ptr l off sz => some (.ptr l off sz, .none, [])
  | _ => none
section
variable {P : Program} {Γ : Cx} {φ : Plc} {H : List MObj} {w : World} {n : Nat}
theorem convC_sound {src dst : TypeId} {x : Value} {xi iv : IV} {cl : Cl} {eff : Eff} {obs : List Prop} (hk : HOK Γ w.heap φ H) (hx : RI Γ w.heap φ H xi x) (hc : convC P src dst xi cl = some (iv, eff, obs)) (ho : All obs) :
    Step Γ φ H w ((do pure (Next.value (← convert src dst x)) : Sem Next).run P w) n iv eff := by
  unfold convC at hc
  split at hc
  · rename_i d k kk m h1 h2
    cases hx.p_inv
    rw [run_v (w' := w) (v := .int k (k.wrap m))]
    · exact (intR_sound hk hc ho).1
    · unfold convert
      rw [run_bnd (run_underlying h1), run_bnd (run_underlying h2)]
      cases d <;> rfl
  · rename_i d s h1 h2
    cases hc
    have hr := hx.p_inv
    cases hr
    rw [run_v (w' := w) (v := .string ⟨⟨s⟩⟩)]
    · exact Step.same hk (.p _ _ (.str _))
    · unfold convert
      rw [run_bnd (run_underlying h1), run_bnd (run_underlying h2)]
      cases d <;> rfl
  · cases hc
theorem indexC_sound {t : TypeId} {x ix : Value} {xi ii iv : IV} {cl : Cl} {eff : Eff} {obs : List Prop} (hk : HOK Γ w.heap φ H) (hx : RI Γ w.heap φ H xi x) (hix : RI Γ w.heap φ H ii ix)
    (hc : indexC P t xi ii cl = some (iv, eff, obs)) (ho : All obs) : Step Γ φ H w ((do pure (Next.value (← Instr.index t x ix)) : Sem Next).run P w) n iv eff := by
  unfold indexC at hc
  split at hc
  · rename_i m e cs kk k hu
    obtain rfl : ix = .int kk k := by cases hix.p_inv; rfl
    cases hx with
    | p _ _ hr => cases hr with
      | agg _ us hus =>
        have key : ∀ i v, P.info? e = some i → 0 ≤ k → k < (m : Int) → partPV P e cs (k.toNat * i.size) = some v → Step Γ φ H w ((do pure (Next.value (← Instr.index t (.agg ⟨us⟩) (.int kk k))) : Sem Next).run P w) n (.p v) .none := by
          intro i v hi h0 h1 hp
          obtain ⟨u, hu', hru⟩ := run_part (P := P) (w := w) hus hp
          rw [run_v (w' := w) (v := u)]
          · exact Step.same hk (.p _ _ hru)
          · unfold Instr.index
            rw [run_bnd (show (asIntOf (.int kk k)).run P w = .ok (kk, k) w from rfl)]
            simp only []
            rw [run_bnd (run_underlying hu)]
            simp only [h0, h1, and_self, if_true]
            rw [run_bnd (run_sizeOf hi)]; exact hu'
        split at hc
        · rename_i i v hi
          cases hc
          obtain ⟨o1, o2, o3, _⟩ := ho
          exact key _ _ hi o1 o2 o3
        · rename_i i hi _
          split at hc
          · rename_i v hv
            cases hc
            obtain ⟨o1, o2, _⟩ := ho
            exact key _ _ hi o1 o2 hv
          · cases hc
        · cases hc
  · rename_i s kk k hu
    obtain rfl : ix = .int kk k := by cases hix.p_inv; rfl
    split at hc
    · rename_i r
      cases hc
      have hr := hx.p_inv
      cases hr
      obtain ⟨o1, _⟩ := ho
      unfold strAt at o1
      split at o1
      · rename_i h0
        simp only [Option.map_eq_some_iff] at o1
        obtain ⟨b, hb, rfl⟩ := o1
        rw [run_v (w' := w) (v := .int .u8 b.toNat)]
        · exact Step.same hk (.p _ _ (.int _ _))
        · unfold Instr.index
          rw [run_bnd (show (asIntOf (.int kk k)).run P w = .ok (kk, k) w from rfl)]
          simp only []
          rw [run_bnd (run_underlying hu)]
          have : (ByteArray.mk ⟨s⟩)[k.toNat]? = some b := by
            have hlt := lt_of_lget hb
            rw [getElem?_pos (ByteArray.mk ⟨s⟩) k.toNat (show k.toNat < s.length from hlt)]
            rw [List.getElem?_eq_getElem hlt] at hb
            exact hb
          simp only [if_pos h0, this]; rfl
      · cases o1
    · cases hc
  · cases hc
theorem fieldC_sound {t : TypeId} {x : Value} {xi iv : IV} {f : Nat} {eff : Eff} {obs : List Prop} (hk : HOK Γ w.heap φ H) (hx : RI Γ w.heap φ H xi x) (hc : fieldC P t xi f = some (iv, eff, obs)) :
    Step Γ φ H w ((do pure (Next.value (← Instr.field t x f)) : Sem Next).run P w) n iv eff := by
  unfold fieldC at hc
  split at hc
  · rename_i fs hu
    split at hc
    · rename_i fd cs hf
      split at hc
      · rename_i v hv
        cases hc
        cases hx with
        | p _ _ hr => cases hr with
          | agg _ us hus =>
            obtain ⟨u, hu', hru⟩ := run_part (P := P) (w := w) hus hv
            rw [run_v (w' := w) (v := u)]
            · exact Step.same hk (.p _ _ hru)
            · unfold Instr.field
              rw [run_bnd (run_underlying hu)]
              simp only [hf]
              rw [run_bnd (show (asAgg (.agg ⟨us⟩)).run P w = .ok ⟨us⟩ w from rfl)]; exact hu'
      · cases hc
    · rename_i fd cs hf
      split at hc
      · rename_i d i htd
        obtain ⟨hd, hi⟩ := td_spec htd
        cases hx with
        | agg _ us hus =>
          have hlen := RIL.length hus
          have hrun : ∀ u, (part fd.type ⟨us⟩ fd.offset).run P w = .ok u w → (Instr.field t (.agg ⟨us⟩) f).run P w = .ok u w := by
            intro u hu'
            unfold Instr.field
            rw [run_bnd (run_underlying hu)]
            simp only [hf]
            rw [run_bnd (show (asAgg (.agg ⟨us⟩)).run P w = .ok ⟨us⟩ w from rfl)]; exact hu'
          split at hc
          · rename_i hg
            split at hc
            · cases hc
              rw [run_v (hrun (.agg ⟨(us.drop fd.offset).take i.size⟩) ?_)]
              · exact Step.same hk (mkAgg_sound (RIL.take _ (RIL.drop _ hus)))
              · unfold part
                rw [run_bnd (run_isAgg hd), isAggT_of hd]
                simp only [hg, if_true]
                rw [run_bnd (run_sizeOf hi)]
                have : (Array.mk us).extract fd.offset (fd.offset + i.size) = ⟨(us.drop fd.offset).take i.size⟩ := by
                  apply Array.ext'; simp [Array.toList_extract, List.extract]
                rw [this]; rfl
            · cases hc
          · rename_i hg
            split at hc
            · rename_i v hv
              cases hc
              obtain ⟨u, hu', hru⟩ := RIL.get hus _ _ hv
              rw [run_v (hrun u ?_)]
              · exact Step.same hk hru
              · unfold part
                rw [run_bnd (run_isAgg hd), isAggT_of hd]
                simp only [hg]
                have : (Array.mk us)[fd.offset]? = some u := by simpa using hu'
                simp [this, run_pur]
            · cases hc
      · cases hc
    · cases hc
  · cases hc
theorem nilCheckC_sound {o : Oper} {x : Operand} {ρ : Operand → Value} {xi iv : IV} {eff : Eff} {obs : List Prop} (hk : HOK Γ w.heap φ H) (hop : o.op = .nilCheck x) (hx : RI Γ w.heap φ H xi (ρ x)) (hc : nilCheckC xi = some (iv, eff, obs)) :
    Step Γ φ H w ((execOp ρ o).run P w) n iv eff := by
  unfold nilCheckC at hc
  split at hc
  · cases hc
    have hx' := hx
    have hr := hx.p_inv
    generalize hv : ρ x = v at *
    cases hr with
    | ref _ a vs h1 h2 h3 =>
      have : (execOp ρ o).run P w = .ok (.value (.pointer (some a))) w := by unfold execOp; rw [hop]; simp only [hv]; rfl
      rw [this]; exact Step.same hk hx'
  · cases hc
    have hx' := hx
    generalize hv : ρ x = v at *
    cases hx with
    | ptr _ _ _ a hd hcc =>
      have : (execOp ρ o).run P w = .ok (.value (.pointer (some a))) w := by unfold execOp; rw [hop]; simp only [hv]; rfl
      rw [this]; exact Step.same hk hx'
  · cases hc
end
end Go.Idl
set_option linter.unusedSimpArgs false
set_option linter.unusedVariables false
namespace Go.Idl
open Go
def KeyF (k : PV) : Prop := ∀ c ∈ k.cells, (∃ kk n, c = .int kk n) ∨ (∃ b, c = .bool b)
def EqD (P : Program) (t : TypeId) (k : PV) : Prop := ∃ b, eqPV P 10000 t k k = some b
def FindL (P : Program) (t : TypeId) (k : PV) : List PV → Nat → Option Nat → Prop
  | [], _, r => r = none
  | x :: xs, i, r => (eqPV P 10000 t k x = some true ∧ r = some i) ∨ (eqPV P 10000 t k x = some false ∧ FindL P t k xs (i + 1) r)
section
variable {P : Program} {h : Hp} {X : Nat → Prop} {w : World}
theorem flatC_uniq {c : PV} {u v : Value} (hc : (∃ kk n, c = .int kk n) ∨ (∃ b, c = .bool b)) (hu : RP h X c u) (hv : RP h X c v) : u = v := by
  rcases hc with ⟨kk, n, rfl⟩ | ⟨b, rfl⟩
  · cases hu; cases hv; rfl
  · cases hu; cases hv; rfl
theorem flatL_uniq : ∀ {cs : List PV} {us vs : List Value}, (∀ c ∈ cs, (∃ kk n, c = .int kk n) ∨ (∃ b, c = .bool b)) → RPL h X cs us → RPL h X cs vs → us = vs
  | [], _, _, _, .nil, .nil => rfl
  | c :: cs, _, _, hc, .cons _ u _ us h1 h2, .cons _ v _ vs g1 g2 => by
    rw [flatC_uniq (hc c (by simp)) h1 g1, flatL_uniq (fun c hm => hc c (by simp [hm])) h2 g2]
theorem flatC_same {c : PV} {u : Value} (hc : (∃ kk n, c = .int kk n) ∨ (∃ b, c = .bool b)) (hu : RP h X c u) (n : Nat) : Instr.sameBits n u u = true := by
  rcases hc with ⟨kk, m, rfl⟩ | ⟨b, rfl⟩
  · cases hu; simp [Instr.sameBits]
  · cases hu; simp [Instr.sameBits]
theorem KeyF.one {k : PV} (hk : KeyF k) (hs : ∀ cs, k ≠ .agg cs) : (∃ kk n, k = .int kk n) ∨ (∃ b, k = .bool b) := by
  have : k.cells = [k] := by cases k <;> first | rfl | exact absurd rfl (hs _)
  exact hk k (by rw [this]; simp)
theorem KeyF.uniq {k : PV} {u v : Value} (hk : KeyF k) (hu : RP h X k u) (hv : RP h X k v) : u = v := by
  by_cases hs : ∃ cs, k = .agg cs
  · obtain ⟨cs, rfl⟩ := hs
    cases hu with
    | agg _ us hus =>
      cases hv with
      | agg _ vs hvs => rw [flatL_uniq hk hus hvs]
  · exact flatC_uniq (hk.one fun cs h => hs ⟨cs, h⟩) hu hv
theorem KeyF.same {k : PV} {u : Value} (hk : KeyF k) (hu : RP h X k u) : Instr.sameBits 10000 u u = true := by
  by_cases hs : ∃ cs, k = .agg cs
  · obtain ⟨cs, rfl⟩ := hs
    cases hu with
    | agg _ us hus =>
      simp only [Instr.sameBits, beq_self_eq_true, Bool.true_and, List.all_eq_true]
      intro p hp
      have key : ∀ {cs : List PV} {us : List Value}, (∀ c ∈ cs, (∃ kk n, c = .int kk n) ∨ (∃ b, c = .bool b)) → RPL h X cs us → ∀ p ∈ us.zip us, Instr.sameBits 9999 p.1 p.2 = true := by
        intro cs
        induction cs with
        | nil => intro us _ hr p hp; cases hr; simp at hp
        | cons c cs ih =>
          intro us hc hr p hp
          cases hr with
          | cons _ u _ us h1 h2 =>
            simp only [List.zip_cons_cons, List.mem_cons] at hp
            rcases hp with rfl | hp
            · exact flatC_same (hc c (by simp)) h1 _
            · exact ih (fun c hm => hc c (by simp [hm])) h2 p hp
      exact key hk hus p hp
  · exact flatC_same (hk.one fun cs h => hs ⟨cs, h⟩) hu _
theorem run_keyStays {k : PV} {u v : Value} (hk : KeyF k) (hu : RP h X k u) (hv : RP h X k v) : (Instr.keyThatStays u v).run P w = .ok v w := by
  have := hk.uniq hu hv; subst this
  unfold Instr.keyThatStays
  rw [hk.same hu]
  rfl
theorem chkFs {d : Nat} {em : Bool} {eq : TypeId → PV → PV → Option Bool} (he : ∀ t x y b u (w : World), eq t x y = some b → RP h X x u → (Instr.checkKey em d t u).run P w = .ok () w) {xs ys : List PV} {us : List Value} (hx : RPL h X xs us) :
    ∀ (fs : List Field) (b : Bool) (w : World), eqFs P eq fs xs ys = some b → (forIn fs PUnit.unit fun f r => (do
      if f.name ≠ "_" then Instr.checkKey em d f.type (← part f.type ⟨us⟩ f.offset)
      pure (ForInStep.yield PUnit.unit) : Sem (ForInStep PUnit))).run P w = .ok PUnit.unit w
  | [], b, w, hb => rfl
  | f :: r, b, w, hb => by
    simp only [eqFs] at hb
    split at hb
    · cases hb
    · rename_i hn
      split at hb
      · rename_i a c ha hc
        split at hb
        · rename_i p q hp hq
          cases hb
          obtain ⟨ua, h1, r1⟩ := run_part (P := P) (w := w) hx ha
          have h3 := he _ _ _ _ _ w hp r1
          have hn' : f.name ≠ "_" := by simpa using hn
          have ih := chkFs he hx r q w hq
          simp only [List.forIn_cons, Sem.run_bind, hn', ne_eq, not_false_eq_true, if_true, Result.andThen_ok, h1, h3, Sem.run_pure]
          exact ih
        · cases hb
      · cases hb
theorem chkEs {d n : Nat} {em : Bool} {e : TypeId} {i : TypeInfo} (hi : P.info? e = some i) (hn : i.size = n) {eq : TypeId → PV → PV → Option Bool} (he : ∀ t x y b u (w : World), eq t x y = some b → RP h X x u → (Instr.checkKey em d t u).run P w = .ok () w) {xs ys : List PV} {us : List Value} (hx : RPL h X xs us) :
    ∀ (k j : Nat) (b : Bool) (w : World), eqEs P eq e n k j xs ys = some b → (forIn (List.range' j k) PUnit.unit fun i r => (do
      Instr.checkKey em d e (← part e ⟨us⟩ (i * (← sizeOf e)))
      pure (ForInStep.yield PUnit.unit) : Sem (ForInStep PUnit))).run P w = .ok PUnit.unit w
  | 0, j, b, w, hb => rfl
  | k + 1, j, b, w, hb => by
    simp only [eqEs] at hb
    split at hb
    · rename_i a c ha hc
      split at hb
      · rename_i p q hp hq
        cases hb
        obtain ⟨ua, h1, r1⟩ := run_part (P := P) (w := w) hx ha
        have h3 := he _ _ _ _ _ w hp r1
        have ih := chkEs hi hn he hx k (j + 1) q w hq
        have hz : (sizeOf e).run P w = .ok n w := hn ▸ run_sizeOf hi
        simp only [List.range'_succ, List.forIn_cons, Sem.run_bind, Result.andThen_ok, hz, h1, h3, Sem.run_pure]
        exact ih
      · cases hb
    · cases hb
theorem run_chk (em : Bool) : ∀ (d : Nat) (t : TypeId) (x y : PV) (b : Bool) (u : Value) (w : World), eqPV P d t x y = some b → RP h X x u → (Instr.checkKey em d t u).run P w = .ok () w
  | 0, t, x, y, b, u, w, hb, _ => by simp [eqPV] at hb
  | d + 1, t, x, y, b, u, w, hb, hu => by
    simp only [eqPV] at hb
    split at hb
    · rename_i ht
      split at hb
      · cases hu; simp [Instr.checkKey, Go.run_underlying ht]
      · cases hb
    · rename_i kk ht
      split at hb
      · cases hu; simp [Instr.checkKey, Go.run_underlying ht]
      · cases hb
    · rename_i fs ht
      split at hb
      · cases hb
      · split at hb
        · rename_i xs ys
          cases hu with
          | agg _ us hus =>
            have := chkFs (em := em) (d := d) (fun t x y b u w => run_chk em d t x y b u w) hus fs.toList b w hb
            rw [Instr.checkKey]
            simp only [Sem.run_bind, Go.run_underlying ht, Result.andThen_ok]
            rw [← Array.forIn_toList]
            rw [this]; rfl
        · cases hb
    · rename_i len e ht
      split at hb
      · rename_i i xs ys hi
        cases hu with
        | agg _ us hus =>
          have := chkEs (em := em) (d := d) hi rfl (fun t x y b u w => run_chk em d t x y b u w) hus len 0 b w hb
          rw [Instr.checkKey]
          simp only [Sem.run_bind, Go.run_underlying ht, Result.andThen_ok]
          simp only [Std.Legacy.Range.forIn_eq_forIn_range', Std.Legacy.Range.size, Nat.sub_zero, Nat.add_one_sub_one, Nat.div_one]
          rw [this]; rfl
      · cases hb
    · cases hb
end
end Go.Idl
set_option linter.unusedSimpArgs false
set_option linter.unusedVariables false
namespace Go.Idl
open Go
section
variable {P : Program} {h : Hp} {X : Nat → Prop} {w : World}
theorem RPL.cons_inv {u : Value} {us : List Value} : ∀ {ks : List PV}, RPL h X ks (u :: us) → ∃ x xs, ks = x :: xs ∧ RP h X x u ∧ RPL h X xs us
  | _, .cons x _ xs _ h1 h2 => ⟨x, xs, rfl, h1, h2⟩
def FoundAt (i : Nat) (es : List MapEntry) (r : Option Nat) (a : Option (Nat × Value)) : Prop := match r with
  | none => a = none
  | some j => i ≤ j ∧ ∃ e, es[j - i]? = some e ∧ a = some (j, e.val)
theorem FoundAt.next {i : Nat} {e : MapEntry} {es : List MapEntry} {r : Option Nat} {a : Option (Nat × Value)} (h : FoundAt (i + 1) es r a) : FoundAt i (e :: es) r a := by
  cases r with
  | none => exact h
  | some j =>
    obtain ⟨k1, e', k2, k3⟩ := h
    exact ⟨by omega, e', by rw [show j - i = (j - (i + 1)) + 1 from by omega]; simpa using k2, k3⟩
theorem find_asking {t : TypeId} {k : PV} {kv : Value} (hk : RP h X k kv) : ∀ (es : List MapEntry) (ks : List PV) (i : Nat) (r : Option Nat), RPL h X ks (es.map (·.key)) → FindL P t k ks i r →
    ∃ a, (Instr.findAsking t kv es i).run P w = .ok a w ∧ FoundAt i es r a
  | [], ks, i, r, hl, hf => by
    cases hl
    simp only [FindL] at hf
    subst hf
    exact ⟨none, by simp [Instr.findAsking], rfl⟩
  | e :: es, ks, i, r, hl, hf => by
    obtain ⟨x, xs, rfl, h1, h2⟩ := hl.cons_inv
    simp only [FindL] at hf
    rcases hf with ⟨hq, rfl⟩ | ⟨hq, hf⟩
    · have := eqPV_sound (P := P) 10000 _ _ _ _ _ _ w hq hk h1
      refine ⟨some (i, e.val), ?_, by omega, e, by simp, rfl⟩
      simp only [Instr.findAsking]
      rw [run_bnd (show (Op.equal t kv e.key).run P w = .ok true w from this)]
      rfl
    · have := eqPV_sound (P := P) 10000 _ _ _ _ _ _ w hq hk h1
      obtain ⟨a, g1, g2⟩ := find_asking hk es xs (i + 1) r h2 hf
      refine ⟨a, ?_, g2.next⟩
      simp only [Instr.findAsking]
      rw [run_bnd (show (Op.equal t kv e.key).run P w = .ok false w from this)]
      simpa using g1
theorem sameNow_of {n : Nat} {t : TypeId} {d : TypeDesc} (hd : P.underlying t = some d) {k x : PV} {kv u : Value} {b : Bool} (hb : eqPV P (n + 1) t k x = some b) (hk : RP h X k kv) (hx : RP h X x u) :
    Instr.sameNow d kv u = none ∨ Instr.sameNow d kv u = some b := by
  simp only [eqPV, hd] at hb
  split at hb
  · rename_i heq; cases heq
    split at hb
    · cases hb; cases hk; cases hx; exact .inr rfl
    · cases hb
  · rename_i kk heq; cases heq
    split at hb
    · split at hb
      · rename_i hkk
        cases hb; cases hk; cases hx
        have := kindEq_spec hkk; subst this
        right; simp [Instr.sameNow]
      · cases hb
    · cases hb
  · rename_i fs heq; cases heq; left; cases kv <;> cases u <;> rfl
  · rename_i len e heq; cases heq; left; cases kv <;> cases u <;> rfl
  · cases hb
theorem find_now {t : TypeId} {d : TypeDesc} (hd : P.underlying t = some d) {k : PV} {kv : Value} (hk : RP h X k kv) : ∀ (es : List MapEntry) (ks : List PV) (i : Nat) (r : Option Nat), RPL h X ks (es.map (·.key)) → FindL P t k ks i r →
    ∀ a, Instr.findNow d kv es i = some a → FoundAt i es r a
  | [], ks, i, r, hl, hf, a, ha => by
    cases hl
    simp only [FindL] at hf
    subst hf
    simp [Instr.findNow] at ha
    exact ha.symm
  | e :: es, ks, i, r, hl, hf, a, ha => by
    obtain ⟨x, xs, rfl, h1, h2⟩ := hl.cons_inv
    simp only [FindL] at hf
    have hs : ∀ b, eqPV P 10000 t k x = some b → Instr.sameNow d kv e.key = none ∨ Instr.sameNow d kv e.key = some b := fun b hb => sameNow_of (n := 9999) hd hb hk h1
    simp only [Instr.findNow] at ha
    rcases hf with ⟨hq, rfl⟩ | ⟨hq, hf⟩
    · rcases hs _ hq with hn | hn
      · rw [hn] at ha; cases ha
      · rw [hn] at ha; cases ha
        exact ⟨by omega, e, by simp, rfl⟩
    · rcases hs _ hq with hn | hn
      · rw [hn] at ha; cases ha
      · rw [hn] at ha
        exact (find_now hd hk es xs (i + 1) r h2 hf a ha).next
theorem run_find {t : TypeId} {d : TypeDesc} (hd : P.underlying t = some d) {k : PV} {kv : Value} {es : List MapEntry} {ks : List PV} {r : Option Nat} (hk : RP h X k kv) (hl : RPL h X ks (es.map (·.key))) (hf : FindL P t k ks 0 r) :
    ∃ a, (Instr.findKey t kv es).run P w = .ok a w ∧ FoundAt 0 es r a := by
  obtain ⟨a, g1, g2⟩ := find_asking (P := P) (w := w) hk es ks 0 r hl hf
  unfold Instr.findKey
  rw [run_bnd (run_underlying hd)]
  cases hn : Instr.findNow d kv es 0 with
  | none => exact ⟨a, g1, g2⟩
  | some b => exact ⟨b, rfl, find_now hd hk es ks 0 r hl hf b hn⟩
end
end Go.Idl
set_option linter.unusedSimpArgs false
set_option linter.unusedVariables false
namespace Go.Idl
open Go
def mapOf (hp : Nat → Option MObj) : IV → Option (List PV × List PV)
  | .p .nilmap => some ([], [])
  | .p (.map ks vs) => some (ks, vs)
  | .mmap l => match hp l with | some (.map ks vs) => some (ks, vs) | some (.mapS ks vs _ _) => some (ks, vs) | _ => none
  | _ => none
def lkV (c : Bool) (v : PV) (ok : Bool) : PV := match c with | true => .tup [v, .bool ok] | false => v
def lookupC (P : Program) (hp : Nat → Option MObj) (t : TypeId) (x k : IV) (commaOk : Bool) (cl : Cl) : OR := match P.underlying t, cl, k, mapOf hp x with
  | some (.map kt vt), .mp i _ _ _ _ v, .p k, some (ks, vs) => (match i with
    | .ofNat j => some (.p (lkV commaOk v true), .none, [EqD P kt k, FindL P kt k ks 0 (some j), vs[j]? = some v])
    | .negSucc _ => (match tzero P vt with
      | some z => some (.p (lkV commaOk z false), .none, [EqD P kt k, FindL P kt k ks 0 none])
      | none => none))
  | _, _, _, _ => none
section
variable {P : Program} {Γ : Cx} {φ : Plc} {H : List MObj} {w : World} {n : Nat}
theorem run_getMap {r : Nat} {es : Array MapEntry} {c : Nat} (h : w.heap[r]? = some (.map es c)) : (getObj r).run P w = .ok (.map es c) w := by simp [getObj, Sem.run, h]
theorem run_setMap {r : Nat} {es : Array MapEntry} {c : Nat} (o : Obj) (h : w.heap[r]? = some (.map es c)) : (setObj r o).run P w = .ok () { w with heap := w.heap.setIfInBounds r o } := by simp [setObj, Sem.run, h]
theorem mapOf_sound {hp : Nat → Option MObj} (hhp : ∀ l o, hp l = some o → H[l]? = some o) (hk : HOK Γ w.heap φ H) {x : IV} {v : Value} {ks vs : List PV} (hx : RI Γ w.heap φ H x v) (hm : mapOf hp x = some (ks, vs)) :
    (v = .map none ∧ ks = [] ∧ vs = []) ∨ ∃ (r : Nat) (es : Array MapEntry) (c : Nat), v = .map (some r) ∧ w.heap[r]? = some (.map es c) ∧ RPL w.heap (fun b => Γ.X b ∨ Own φ H b) ks (es.toList.map (·.key)) ∧ RPL w.heap (fun b => Γ.X b ∨ Own φ H b) vs (es.toList.map (·.val)) := by
  unfold mapOf at hm
  split at hm
  · cases hm; cases hx.p_inv; exact .inl ⟨rfl, rfl, rfl⟩
  · cases hm
    cases hx.p_inv with
    | map _ _ r es clock hr hx hk hv hn hb => exact .inr ⟨r, es, clock, rfl, hr, hk, hv⟩
  · rename_i l
    split at hm
    · rename_i hl
      cases hm
      cases hx with
      | mmap _ r hd hc =>
        obtain ⟨es, c, h1, h2, h3, _⟩ := hk.obj l _ (hhp _ _ hl)
        have := hc _ (hhp _ _ hl) rfl
        subst this
        exact .inr ⟨_, es, c, rfl, h1, h2, h3⟩
    · rename_i hl
      cases hm
      cases hx with
      | mmap _ r hd hc =>
        obtain ⟨es, h1, h2, h3, _⟩ := hk.obj l _ (hhp _ _ hl)
        have := hc _ (hhp _ _ hl) rfl
        subst this
        exact .inr ⟨_, es, _, rfl, h1, h2, h3⟩
    · cases hm
  · cases hm
def lkTail (vt : TypeId) (commaOk : Bool) (a : Option (Nat × Value)) : Sem Value := do
  let (v, ok) ← match a with
    | some (_, v) => pure (v, true)
    | none => pure (← zeroValue vt, false)
  pure (if commaOk then .tuple #[v, .bool ok] else v)
def EsOf (w : World) (x : Value) (es : Array MapEntry) : Prop := (x = .map none ∧ es = #[]) ∨ ∃ r c, x = .map (some r) ∧ w.heap[r]? = some (.map es c)
theorem run_lookup {t kt vt : TypeId} {x k v : Value} {c : Bool} {es : Array MapEntry} {a : Option (Nat × Value)} (hu : P.underlying t = some (.map kt vt)) (hes : EsOf w x es) (h2 : (Instr.checkKey es.isEmpty 10000 kt k).run P w = .ok () w)
    (h3 : (Instr.findKey kt k es.toList).run P w = .ok a w) (h4 : (lkTail vt c a).run P w = .ok v w) : (Instr.lookup t x k c).run P w = .ok v w := by
  unfold Instr.lookup
  rw [run_bnd (run_underlying hu)]
  simp only
  rcases hes with ⟨rfl, rfl⟩ | ⟨r, cc, rfl, h1⟩
  · simp only
    rw [run_bnd (run_pur _), run_bnd h2, run_bnd h3]
    exact h4
  · simp only
    rw [run_bnd (run_getMap h1)]
    simp only
    rw [run_bnd (run_pur _), run_bnd h2, run_bnd h3]
    exact h4
theorem eq_und {n : Nat} {t : TypeId} {x y : PV} {b : Bool} (hb : eqPV P (n + 1) t x y = some b) : ∃ d, P.underlying t = some d := by
  cases hq : P.underlying t with
  | none => simp [eqPV, hq] at hb
  | some d => exact ⟨d, rfl⟩
theorem lookupC_sound {t : TypeId} {x k : Value} {xi ki iv : IV} {commaOk : Bool} {cl : Cl} {eff : Eff} {obs : List Prop} {hp : Nat → Option MObj} (hhp : ∀ l o, hp l = some o → H[l]? = some o)
    (hk : HOK Γ w.heap φ H) (hx : RI Γ w.heap φ H xi x) (hkk : RI Γ w.heap φ H ki k) (hc : lookupC P hp t xi ki commaOk cl = some (iv, eff, obs)) (ho : All obs) :
    Step Γ φ H w ((do pure (Next.value (← Instr.lookup t x k commaOk)) : Sem Next).run P w) n iv eff := by
  unfold lookupC at hc
  split at hc
  · rename_i kt vt i _ _ _ _ v kp ks vs hu hm
    have hkr := hkk.p_inv
    obtain ⟨es, hes, hks, hvs⟩ : ∃ es : Array MapEntry, EsOf w x es ∧ RPL w.heap (fun b => Γ.X b ∨ Own φ H b) ks (es.toList.map (·.key)) ∧ RPL w.heap (fun b => Γ.X b ∨ Own φ H b) vs (es.toList.map (·.val)) := by
      rcases mapOf_sound hhp hk hx hm with ⟨rfl, rfl, rfl⟩ | ⟨r, es, c, rfl, h1, h2, h3⟩
      · exact ⟨#[], .inl ⟨rfl, rfl⟩, .nil, .nil⟩
      · exact ⟨es, .inr ⟨r, c, rfl, h1⟩, h2, h3⟩
    have fin : ∀ (r : Option Nat) (a : Option (Nat × Value)) (u : Value) (ok : Bool) (p : PV), EqD P kt kp → FindL P kt kp ks 0 r → (∀ a, FoundAt 0 es.toList r a → (lkTail vt commaOk a).run P w = .ok (if commaOk then .tuple #[u, .bool ok] else u) w) → RP w.heap (fun b => Γ.X b ∨ Own φ H b) p u →
        Step Γ φ H w ((do pure (Next.value (← Instr.lookup t x k commaOk)) : Sem Next).run P w) n (.p (lkV commaOk p ok)) .none := by
      intro r a u ok p ⟨b, hb⟩ hf hrun hp
      obtain ⟨d, hd⟩ := eq_und (n := 9999) hb
      obtain ⟨a, g1, g2⟩ := run_find (P := P) (w := w) hd hkr hks hf
      rw [run_v (v := if commaOk then .tuple #[u, .bool ok] else u) (w' := w)]
      · refine Step.same hk ?_
        cases commaOk
        · exact .p _ _ hp
        · exact .p _ _ (.tup _ [u, .bool ok] (.cons _ _ _ _ hp (.cons _ _ _ _ (.bool _) .nil)))
      · exact run_lookup hu hes (run_chk _ 10000 _ _ _ _ _ w hb hkr) g1 (hrun a g2)
    split at hc
    · rename_i j
      cases hc
      obtain ⟨o1, o2, o3, _⟩ := ho
      obtain ⟨u, hu', hr⟩ := RPL.get hvs _ _ o3
      refine fin (some j) none u true v o1 o2 (fun a ha => ?_) hr
      obtain ⟨_, e, he, rfl⟩ := ha
      simp only [List.getElem?_map, Nat.sub_zero] at hu' he
      rw [he] at hu'
      cases hu'
      rfl
    · split at hc
      · rename_i z hz
        cases hc
        obtain ⟨o1, o2, _⟩ := ho
        obtain ⟨i', u, hi', hv, hcv⟩ := tzero_spec hz
        refine fin none none u false z o1 o2 (fun a ha => ?_) (constV_sound _ _ _ _ hcv)
        cases ha
        unfold lkTail
        rw [run_bnd (run_zeroValue hi' hv), run_bnd (run_pur _)]
        rfl
      · cases hc
  · cases hc
end
end Go.Idl
set_option linter.unusedSimpArgs false
set_option linter.unusedVariables false
namespace Go.Idl
open Go
def mapPart : MObj → Option (List PV × List PV × List Nat × Nat)
  | .map ks vs => some (ks, vs, [], 0)
  | .mapS ks vs bs c => some (ks, vs, bs, c)
  | _ => none
def updO (o : MObj) (ks vs : List PV) (bs : List Nat) (c : Nat) : MObj := match o with
  | .mapS _ _ _ _ => .mapS ks vs bs c
  | _ => .map ks vs
def makeMapC (P : Program) (n : Nat) (t : TypeId) (cl : Cl) : OR := match P.underlying t, cl with
  | some (.map _ _), .imm => some (.mmap n, .new (.map [] []), [])
  | some (.map _ _), _ => some (.mmap n, .new (.mapS [] [] [] 0), [])
  | _, _ => none
def mapUpdateC (P : Program) (hp : Nat → Option MObj) (t : TypeId) (x k v : IV) (cl : Cl) : OR := match P.underlying t, cl, x, k, v with
  | some (.map kt vt), .mp i ks' vs' bs' c' _, .mmap l, .p k, .p v => (match hp l with
    | some o => (match mapPart o with
      | some (ks, vs, bs, c) => (match i with
        | .ofNat j => some (.p .junk, .set l (updO o ks' vs' bs' c'), [EqD P kt k, KeyF k, FindL P kt k ks 0 (some j), ks[j]? = some k, vs.set j v = vs', ks = ks', bs = bs', c = c'])
        | .negSucc _ => some (.p .junk, .set l (updO o ks' vs' bs' c'), [EqD P kt k, FindL P kt k ks 0 none, ks ++ [k] = ks', vs ++ [v] = vs', bs ++ [c] = bs', c + 1 = c']))
      | none => none)
    | none => none)
  | _, _, _, _, _ => none
def mapEntryC (P : Program) (hp : Nat → Option MObj) (t : TypeId) (x k : IV) (cl : Cl) : OR := match P.underlying t, cl, x, k with
  | some (.map kt vt), .mp i ks' vs' bs' st v, .mmap l, .p k => (match hp l with
    | some (.mapS ks vs bs c) => (match i with
      | .ofNat j => some (.p (.tup [v, .int .i64 st]), .set l (.mapS ks vs bs c), [EqD P kt k, KeyF k, FindL P kt k ks 0 (some j), ks[j]? = some k, vs[j]? = some v, bs[j]? = some st])
      | .negSucc _ => (match tzero P vt with
        | some z => some (.p (.tup [z, .int .i64 c]), .set l (.mapS ks' vs' bs' st), [EqD P kt k, FindL P kt k ks 0 none, ks ++ [k] = ks', vs ++ [z] = vs', bs ++ [c] = bs', c + 1 = st])
        | none => none))
    | _ => none)
  | _, _, _, _ => none
def entryStoreC (hp : Nat → Option MObj) (x s v : IV) (cl : Cl) : OR := match cl, x, s, v with
  | .mp i ks' vs' bs' c' _, .mmap l, .p (.int .i64 s), .p v => (match hp l, i with
    | some (.mapS ks vs bs c), .ofNat j => some (.p .junk, .set l (.mapS ks' vs' bs' c'), [bs[j]? = some s.toNat, 0 ≤ s, vs.set j v = vs', ks = ks', bs = bs', c = c'])
    | _, _ => none)
  | _, _, _, _ => none
def deleteC (P : Program) (hp : Nat → Option MObj) (t : TypeId) (x k : IV) (cl : Cl) : OR := match P.underlying t, cl, x, k with
  | some (.map kt vt), .mp i ks' vs' bs' _ _, .mmap l, .p k => (match hp l with
    | some o => (match mapPart o with
      | some (ks, vs, bs, c) => (match i with
        | .ofNat j => some (.p (.tup []), .set l (updO o ks' vs' bs' c), [EqD P kt k, FindL P kt k ks 0 (some j), ks.eraseIdx j = ks', vs.eraseIdx j = vs', bs.eraseIdx j = bs'])
        | .negSucc _ => some (.p (.tup []), .set l o, [EqD P kt k, FindL P kt k ks 0 none]))
      | none => none)
    | none => none)
  | _, _, _, _ => none
def rangeC (P : Program) (hp : Nat → Option MObj) (n : Nat) (t : TypeId) (x : IV) : OR := match P.underlying t, x with
  | some (.map _ _), .mmap l => (match hp l with
    | some (.mapS _ _ _ c) => some (.iter n, .new (.iter l [] c), [])
    | _ => none)
  | some (.map _ _), .p (.map ks vs) => some (.iter n, .new (.iterP ks vs []), [])
  | _, _ => none
def entryC (hp : Nat → Option MObj) (it : IV) (cl : Cl) : OR := match it, cl with
  | .iter l, .mp (.ofNat j) [k] _ _ _ v => (match hp l with
    | some (.iter m seen c) => (match hp m with
      | some (.mapS ks vs bs c') => some (.p (.tup [k, v]), .none, [c' = c, ks[j]? = some k, vs[j]? = some v, ∃ b, bs[j]? = some b ∧ seen.getLast? = some b])
      | _ => none)
    | some (.iterP ks vs seen) => some (.p (.tup [k, v]), .none, [ks[j]? = some k, vs[j]? = some v, seen.getLast? = some j])
    | _ => none)
  | _, _ => none
section
variable {P : Program} {Γ : Cx} {φ : Plc} {H : List MObj} {w : World} {n : Nat}
theorem upd_self (φ : Plc) (l : Nat) : upd φ l (φ l) = φ := by funext k; unfold upd; split <;> simp_all
theorem map_kind {o : MObj} {ks vs : List PV} {bs : List Nat} {c : Nat} (h : mapPart o = some (ks, vs, bs, c)) : o.kind = (3, 0) ∧ o.live = true ∧ o.csize = 0 ∧ o ≠ .dead := by
  cases o <;> simp [mapPart] at h <;> exact ⟨rfl, rfl, rfl, by simp⟩
theorem map_put {l : Nat} {o o' : MObj} {es es' : Array MapEntry} {c c' : Nat} (hk : HOK Γ w.heap φ H) (hX : ∀ b, Γ.X b → b < w.heap.size) (hl : H[l]? = some o) (ho : o.kind = (3, 0) ∧ o.live = true ∧ o.csize = 0 ∧ o ≠ .dead) (ho' : o'.kind = (3, 0) ∧ o'.live = true ∧ o'.csize = 0)
    (h1 : w.heap[(φ l).1]? = some (.map es c)) (ok : Ext φ H w.heap φ (H.set l o') (w.heap.setIfInBounds (φ l).1 (.map es' c')) → (w.heap.setIfInBounds (φ l).1 (.map es' c'))[(φ l).1]? = some (.map es' c') →
      ObjOK Γ (w.heap.setIfInBounds (φ l).1 (.map es' c')) φ (H.set l o') l o') :
    HOK Γ (w.heap.setIfInBounds (φ l).1 (.map es' c')) φ (H.set l o') ∧ Ext φ H w.heap φ (H.set l o') (w.heap.setIfInBounds (φ l).1 (.map es' c')) := by
  have hlt := lt_of_get h1
  have := hk.put (h' := w.heap.setIfInBounds (φ l).1 (.map es' c')) (o' := o') (pl := φ l) hX hl ho.2.2.2 ho'.2.1 (by simp)
    (fun b hb hne => Array.getElem?_setIfInBounds_ne (fun h => hne ⟨ho.2.1, h.symm⟩))
    (fun _ arr t fr hc => by rw [h1] at hc; cases hc) (.inl ⟨rfl, ho.2.1⟩) (fun _ => ⟨by rw [ho.1, ho'.1], by rw [ho.2.2.1, ho'.2.2]; exact Nat.le_refl _, fun _ => rfl⟩)
  rw [upd_self] at this
  exact this fun e => ok e (by rw [Array.getElem?_setIfInBounds_self_of_lt hlt])
theorem RPL.set' {h : Hp} {X : Nat → Prop} {v : PV} {u : Value} (hv : RP h X v u) : ∀ {ks : List PV} {us : List Value} (j : Nat), RPL h X ks us → RPL h X (ks.set j v) (us.set j u)
  | _, _, _, .nil => .nil
  | _, _, 0, .cons p x ps xs h1 h2 => .cons _ _ _ _ hv h2
  | _, _, j + 1, .cons p x ps xs h1 h2 => .cons _ _ _ _ h1 (RPL.set' hv j h2)
theorem RPL.snoc {h : Hp} {X : Nat → Prop} {ks : List PV} {us : List Value} {v : PV} {u : Value} (hl : RPL h X ks us) (hv : RP h X v u) : RPL h X (ks ++ [v]) (us ++ [u]) := hl.append (.cons _ _ _ _ hv .nil)
theorem RPL.erase {h : Hp} {X : Nat → Prop} : ∀ {ks : List PV} {us : List Value} (j : Nat), RPL h X ks us → RPL h X (ks.eraseIdx j) (us.eraseIdx j)
  | _, _, _, .nil => .nil
  | _, _, 0, .cons p x ps xs h1 h2 => h2
  | _, _, j + 1, .cons p x ps xs h1 h2 => .cons _ _ _ _ h1 (RPL.erase j h2)
theorem modify_map {β : Type} (g : MapEntry → β) (f : MapEntry → MapEntry) (l : List MapEntry) (j : Nat) (b : β) (hb : ∀ e, l[j]? = some e → g (f e) = b) : (l.modify j f).map g = (l.map g).set j b := by
  apply List.ext_getElem?
  intro i
  simp only [List.getElem?_map, List.getElem?_modify, List.getElem?_set, List.length_map]
  by_cases hij : j = i
  · subst hij
    simp only [if_true]
    cases hl : l[j]? with
    | none => rw [if_neg (by intro hh; rw [List.getElem?_eq_getElem hh] at hl; cases hl)]; rfl
    | some e => rw [if_pos (lt_of_lget hl)]; simp [hb e hl]
  · simp only [if_neg hij]
    cases l[i]? <;> simp
theorem modify_same {β : Type} (g : MapEntry → β) (f : MapEntry → MapEntry) (hf : ∀ e, g (f e) = g e) (l : List MapEntry) (j : Nat) : (l.modify j f).map g = l.map g := by
  apply List.ext_getElem?
  intro i
  simp only [List.getElem?_map, List.getElem?_modify]
  cases l[i]? with
  | none => rfl
  | some e => by_cases h : j = i <;> simp [h, hf]
theorem map_at {l : Nat} {o : MObj} {v : Value} {ks vs : List PV} {bs : List Nat} {c : Nat} (hk : HOK Γ w.heap φ H) (hl : H[l]? = some o) (hp : mapPart o = some (ks, vs, bs, c)) (hx : RI Γ w.heap φ H (.mmap l) v) :
    v = .map (some (φ l).1) ∧ ∃ (es : Array MapEntry) (cc : Nat), w.heap[(φ l).1]? = some (.map es cc) ∧ RPL w.heap (fun b => Γ.X b ∨ Own φ H b) ks (es.toList.map (·.key)) ∧ RPL w.heap (fun b => Γ.X b ∨ Own φ H b) vs (es.toList.map (·.val)) ∧
      (es.toList.map (·.born)).Nodup ∧ (∀ b ∈ es.toList.map (·.born), b < cc) ∧ ((∃ a b c d, o = .mapS a b c d) → es.toList.map (·.born) = bs ∧ cc = c) := by
  cases hx with
  | mmap _ r hd hc =>
    have := hc o hl (map_kind hp).1
    subst this
    refine ⟨rfl, ?_⟩
    have ho := hk.obj l o hl
    cases o <;> simp [mapPart] at hp
    · obtain ⟨rfl, rfl, rfl, rfl⟩ := hp
      obtain ⟨es, clock, h1, h2, h3, h4, h5⟩ := ho
      refine ⟨es, clock, h1, h2, h3, h4, fun b hb => ?_, fun ⟨_, _, _, _, h⟩ => by cases h⟩
      rw [List.mem_map] at hb
      obtain ⟨e, he, rfl⟩ := hb
      exact h5 e he
    · obtain ⟨rfl, rfl, rfl, rfl⟩ := hp
      obtain ⟨es, h1, h2, h3, h4, h5, h6⟩ := ho
      exact ⟨es, _, h1, h2, h3, by rw [h4]; exact h5, by rw [h4]; exact h6, fun _ => ⟨h4, rfl⟩⟩
theorem updO_ok {h' : Hp} {φ' : Plc} {H' : List MObj} {l : Nat} {o : MObj} {ks vs : List PV} {bs : List Nat} {c cc : Nat} {es : Array MapEntry} (hb : h'[(φ' l).1]? = some (.map es cc)) (h1 : RPL h' (fun b => Γ.X b ∨ Own φ' H' b) ks (es.toList.map (·.key)))
    (h2 : RPL h' (fun b => Γ.X b ∨ Own φ' H' b) vs (es.toList.map (·.val))) (h3 : (es.toList.map (·.born)).Nodup) (h4 : ∀ b ∈ es.toList.map (·.born), b < cc) (h5 : (∃ a b c d, o = .mapS a b c d) → es.toList.map (·.born) = bs ∧ cc = c) :
    ObjOK Γ h' φ' H' l (updO o ks vs bs c) := by
  have key : ObjOK Γ h' φ' H' l (.map ks vs) := ⟨es, cc, hb, h1, h2, h3, fun e he => h4 _ (List.mem_map.2 ⟨e, he, rfl⟩)⟩
  cases o with
  | mapS a b c' d =>
    obtain ⟨g1, g2⟩ := h5 ⟨_, _, _, _, rfl⟩
    subst g2
    exact ⟨es, hb, h1, h2, g1, by rw [← g1]; exact h3, by rw [← g1]; exact h4⟩
  | _ => exact key
theorem updO_kind (o : MObj) (ks vs : List PV) (bs : List Nat) (c : Nat) : (updO o ks vs bs c).kind = (3, 0) ∧ (updO o ks vs bs c).live = true ∧ (updO o ks vs bs c).csize = 0 := by cases o <;> exact ⟨rfl, rfl, rfl⟩
end
end Go.Idl
set_option linter.unusedSimpArgs false
set_option linter.unusedVariables false
namespace Go.Idl
open Go
section
variable {P : Program} {Γ : Cx} {φ : Plc} {H : List MObj} {w : World} {n : Nat}
theorem step_put {l : Nat} {o' : MObj} {iv : IV} {nx : Next} {v : Value} {h' : Hp} (hx : HOK Γ h' φ (H.set l o') ∧ Ext φ H w.heap φ (H.set l o') h') (hn : nextVal nx = some v) (hv : RI Γ h' φ (H.set l o') iv v) : Step Γ φ H w (.ok nx { w with heap := h' }) n iv (.set l o') :=
  ⟨nx, v, φ, _, rfl, hn, hx.1, hx.2, hv, ⟨rfl, rfl, rfl⟩⟩
theorem makeMapC_sound {t : TypeId} {iv : IV} {eff : Eff} {obs : List Prop} (hk : HOK Γ w.heap φ H) (hX : ∀ b, Γ.X b → b < w.heap.size) (hf : Free n H) {cl : Cl} (hc : makeMapC P n t cl = some (iv, eff, obs)) :
    Step Γ φ H w ((do pure (Next.value (← Instr.makeMap t none)) : Sem Next).run P w) n iv eff := by
  unfold makeMapC at hc
  have key : ∀ o' : MObj, o'.live = true → ((∀ e : Ext φ H w.heap (upd φ n (w.heap.size, 0)) (putAt n o' H) (w.heap.push (.map #[] 0)), ObjOK Γ (w.heap.push (.map #[] 0)) (upd φ n (w.heap.size, 0)) (putAt n o' H) n o')) →
      Step Γ φ H w ((do pure (Next.value (← Instr.makeMap t none)) : Sem Next).run P w) n (.mmap n) (.new o') := by
    intro o' hlive ok
    have hrun : (Instr.makeMap t none).run P w = .ok (.map (some w.heap.size)) { w with heap := w.heap.push (.map #[] 0) } := rfl
    rw [run_v hrun]
    obtain ⟨k, e⟩ := hk.new (h' := w.heap.push (.map #[] 0)) (n := n) (o' := o') (pl := (w.heap.size, 0)) hX hf hlive (by simp) (fun b hb => Array.getElem?_push_lt hb ▸ (by rw [Array.getElem?_eq_getElem hb])) ⟨Nat.le_refl _, by simp⟩
      ok
    refine ⟨_, _, _, _, rfl, rfl, k, e, .mmap n _ ?_ fun o ho hk => by rw [upd_same], ⟨rfl, rfl, rfl⟩⟩
    have : (putAt n o' H)[n]? = some o' := by
      unfold putAt
      split
      · rename_i h; rw [Nat.blt_eq] at h; rw [get_set, if_pos rfl, if_pos h]
      · rename_i h
        have hle : ¬ n < H.length := fun hh => by rw [show Nat.blt n H.length = true from by rw [Nat.blt_eq]; exact hh] at h; cases h
        rcases hf with rfl | hf
        · simp
        · exact absurd (lt_of_lget hf) hle
    exact ⟨_, this, fun hh => by rw [hh] at hlive; cases hlive⟩
  split at hc
  · cases hc
    exact key _ rfl fun e => ⟨#[], 0, by rw [upd_same]; simp, .nil, .nil, .nil, fun b hb => by cases hb⟩
  · cases hc
    exact key _ rfl fun e => ⟨#[], by rw [upd_same]; simp, .nil, .nil, rfl, .nil, fun b hb => by cases hb⟩
  · cases hc
theorem mapUpdateC_sound {t : TypeId} {x k v : Value} {xi ki vi iv : IV} {cl : Cl} {eff : Eff} {obs : List Prop} {hp : Nat → Option MObj} (hhp : ∀ l o, hp l = some o → H[l]? = some o) (hk : HOK Γ w.heap φ H) (hX : ∀ b, Γ.X b → b < w.heap.size)
    (hx : RI Γ w.heap φ H xi x) (hkk : RI Γ w.heap φ H ki k) (hvv : RI Γ w.heap φ H vi v) (hc : mapUpdateC P hp t xi ki vi cl = some (iv, eff, obs)) (ho : All obs) :
    Step Γ φ H w ((do Instr.mapUpdate t x k v; pure Next.skip : Sem Next).run P w) n iv eff := by
  unfold mapUpdateC at hc
  split at hc
  · rename_i kt vt i ks' vs' bs' c' _ l kp vp hu
    split at hc
    · rename_i o hl
      have hl := hhp _ _ hl
      split at hc
      · rename_i ks vs bs c hpart
        obtain ⟨rfl, es, cc, h1, h2, h3, h4, h5, h6⟩ := map_at hk hl hpart hx
        have hkr := hkk.p_inv
        have hvr := hvv.p_inv
        have hstart : ∀ {a : Option (Nat × Value)}, EqD P kt kp → (Instr.findKey kt k es.toList).run P w = .ok a w →
            (Instr.mapUpdate t (.map (some (φ l).1)) k v).run P w = (match a with
              | some (i, _) => do
                let key ← Instr.keyThatStays (((es[i]?).map (·.key)).getD k) k
                setObj (φ l).1 (.map (es.modify i fun e => { e with key, val := v }) cc)
              | none => setObj (φ l).1 (.map (es.push { key := k, val := v, born := cc }) (cc + 1)) : Sem Unit).run P w := by
          intro a ⟨b, hb⟩ ha
          unfold Instr.mapUpdate
          rw [run_bnd (run_underlying hu)]
          simp only
          rw [run_bnd (run_getMap h1)]
          simp only
          rw [run_bnd (run_chk _ 10000 _ _ _ _ _ w hb hkr), run_bnd ha]
          cases a <;> rfl
        split at hc
        · rename_i j
          cases hc
          obtain ⟨o1, o2, o3, o4, o5, o6, o7, o8, _⟩ := ho
          subst o5 o6 o7 o8
          obtain ⟨d, hd⟩ := eq_und (n := 9999) o1.choose_spec
          obtain ⟨a, g1, _, e, g2, rfl⟩ := run_find (P := P) (w := w) hd hkr h2 o3
          obtain ⟨u, hu1, hu2⟩ := RPL.get h2 _ _ o4
          simp only [List.getElem?_map, Nat.sub_zero] at hu1 g2
          rw [g2] at hu1; cases hu1
          have hgd : (((es[j]?).map (·.key)).getD k) = e.key := by rw [← Array.getElem?_toList, g2]; rfl
          rw [run_u (w' := { w with heap := w.heap.setIfInBounds (φ l).1 (.map (es.modify j fun e => { e with key := k, val := v }) cc) }) (by
            rw [hstart o1 g1]
            simp only
            rw [hgd, run_bnd (run_keyStays o2 hu2 hkr)]
            exact run_setMap _ h1)]
          have hkeys : ((es.modify j fun e => { e with key := k, val := v }).toList.map (·.key)) = es.toList.map (·.key) := by
            rw [Array.toList_modify, modify_map (·.key) _ _ j k (fun e _ => rfl), ← o2.uniq hu2 hkr]
            apply List.ext_getElem?
            intro i
            rw [List.getElem?_set]
            split
            · rename_i hij; subst hij
              split
              · simp [g2]
              · rename_i hh; rw [List.getElem?_eq_none (by omega)]
            · rfl
          have hvals : ((es.modify j fun e => { e with key := k, val := v }).toList.map (·.val)) = (es.toList.map (·.val)).set j v := by rw [Array.toList_modify, modify_map (·.val) _ _ j v (fun e _ => rfl)]
          have hborn : ((es.modify j fun e => { e with key := k, val := v }).toList.map (·.born)) = es.toList.map (·.born) := by rw [Array.toList_modify, modify_same (·.born) (fun e => { e with key := k, val := v }) (fun _ => rfl)]
          refine step_put (map_put hk hX hl (map_kind hpart) (updO_kind ..) h1 fun e hb => updO_ok hb ?_ ?_ ?_ ?_ ?_) rfl (.p _ _ (.junk _))
          · rw [hkeys]; exact h2.keeps e.keeps
          · rw [hvals]; exact (h3.keeps e.keeps).set' (hvr.keeps e.keeps) j
          · rw [hborn]; exact h4
          · rw [hborn]; exact h5
          · rw [hborn]; exact h6
        · cases hc
          obtain ⟨o1, o2, o3, o4, o5, o6, _⟩ := ho
          subst o3 o4 o5 o6
          obtain ⟨d, hd⟩ := eq_und (n := 9999) o1.choose_spec
          obtain ⟨a, g1, rfl⟩ := run_find (P := P) (w := w) hd hkr h2 o2
          rw [run_u (w' := { w with heap := w.heap.setIfInBounds (φ l).1 (.map (es.push { key := k, val := v, born := cc }) (cc + 1)) }) (by
            rw [hstart o1 g1]
            exact run_setMap _ h1)]
          refine step_put (map_put hk hX hl (map_kind hpart) (updO_kind ..) h1 fun e hb => updO_ok hb ?_ ?_ ?_ ?_ ?_) rfl (.p _ _ (.junk _))
          · rw [Array.toList_push, List.map_append]; exact (h2.keeps e.keeps).snoc (hkr.keeps e.keeps)
          · rw [Array.toList_push, List.map_append]; exact (h3.keeps e.keeps).snoc (hvr.keeps e.keeps)
          · rw [Array.toList_push, List.map_append]
            refine List.nodup_append.2 ⟨h4, by simp, fun a ha b hb he => ?_⟩
            simp at hb; subst hb; subst he
            have := h5 _ ha; omega
          · intro b hb
            rw [Array.toList_push, List.map_append, List.mem_append] at hb
            rcases hb with hb | hb
            · have := h5 b hb; omega
            · simp at hb; omega
          · intro hm
            obtain ⟨q1, q2⟩ := h6 hm
            rw [Array.toList_push, List.map_append, q1, q2]; exact ⟨rfl, rfl⟩
      · cases hc
    · cases hc
  · cases hc
theorem mapEntryC_sound {t : TypeId} {x k : Value} {xi ki iv : IV} {cl : Cl} {eff : Eff} {obs : List Prop} {hp : Nat → Option MObj} (hhp : ∀ l o, hp l = some o → H[l]? = some o) (hk : HOK Γ w.heap φ H) (hX : ∀ b, Γ.X b → b < w.heap.size)
    (hx : RI Γ w.heap φ H xi x) (hkk : RI Γ w.heap φ H ki k) (hc : mapEntryC P hp t xi ki cl = some (iv, eff, obs)) (ho : All obs) :
    Step Γ φ H w ((do pure (Next.value (← Instr.mapEntry t x k)) : Sem Next).run P w) n iv eff := by
  unfold mapEntryC at hc
  split at hc
  · rename_i kt vt i ks' vs' bs' st v l kp hu
    split at hc
    · rename_i ks vs bs c hl
      have hl := hhp _ _ hl
      obtain ⟨rfl, es, cc, h1, h2, h3, h4, h5, h6⟩ := map_at hk hl rfl hx
      obtain ⟨h7, rfl⟩ := h6 ⟨_, _, _, _, rfl⟩
      have hkr := hkk.p_inv
      have hstart : ∀ {a : Option (Nat × Value)}, EqD P kt kp → (Instr.findKey kt k es.toList).run P w = .ok a w →
          (Instr.mapEntry t (.map (some (φ l).1)) k).run P w = (match a with
            | some (i, v) => do
              let key ← Instr.keyThatStays (((es[i]?).map (·.key)).getD k) k
              setObj (φ l).1 (.map (es.modify i fun e => { e with key }) cc)
              pure (.tuple #[v, goInt (((es[i]?).map (·.born)).getD 0)])
            | none => do
              let zero ← zeroValue vt
              setObj (φ l).1 (.map (es.push { key := k, val := zero, born := cc }) (cc + 1))
              pure (.tuple #[zero, goInt cc]) : Sem Value).run P w := by
        intro a ⟨b, hb⟩ ha
        unfold Instr.mapEntry
        rw [run_bnd (run_underlying hu)]
        simp only
        rw [run_bnd (run_getMap h1)]
        simp only
        rw [run_bnd (run_chk _ 10000 _ _ _ _ _ w hb hkr), run_bnd ha]
        cases a <;> rfl
      split at hc
      · rename_i j
        cases hc
        obtain ⟨o1, o2, o3, o4, o5, o6, _⟩ := ho
        obtain ⟨d, hd⟩ := eq_und (n := 9999) o1.choose_spec
        obtain ⟨a, g1, _, e, g2, rfl⟩ := run_find (P := P) (w := w) hd hkr h2 o3
        obtain ⟨u, hu1, hu2⟩ := RPL.get h2 _ _ o4
        obtain ⟨vu, hv1, hv2⟩ := RPL.get h3 _ _ o5
        simp only [List.getElem?_map, Nat.sub_zero] at hu1 hv1 g2
        rw [g2] at hu1 hv1; cases hu1; cases hv1
        have hgd : (((es[j]?).map (·.key)).getD k) = e.key := by rw [← Array.getElem?_toList, g2]; rfl
        have hbd : (((es[j]?).map (fun x => (x.born : Int))).getD 0) = (st : Int) := by
          rw [← h7, List.getElem?_map, g2] at o6; cases o6
          rw [← Array.getElem?_toList, g2]; rfl
        rw [run_v (v := .tuple #[e.val, goInt st]) (w' := { w with heap := w.heap.setIfInBounds (φ l).1 (.map (es.modify j fun e => { e with key := k }) cc) }) (by
          rw [hstart o1 g1]
          simp only
          rw [hgd, run_bnd (run_keyStays o2 hu2 hkr), run_bnd (run_setMap _ h1), hbd]; rfl)]
        have hkeys : ((es.modify j fun e => { e with key := k }).toList.map (·.key)) = es.toList.map (·.key) := by
          rw [Array.toList_modify, modify_map (·.key) _ _ j k (fun e _ => rfl), ← o2.uniq hu2 hkr]
          apply List.ext_getElem?
          intro i
          rw [List.getElem?_set]
          split
          · rename_i hij; subst hij
            split
            · simp [g2]
            · rename_i hh; rw [List.getElem?_eq_none (by omega)]
          · rfl
        have hvals : ((es.modify j fun e => { e with key := k }).toList.map (·.val)) = es.toList.map (·.val) := by rw [Array.toList_modify, modify_same (·.val) (fun e => { e with key := k }) (fun _ => rfl)]
        have hborn : ((es.modify j fun e => { e with key := k }).toList.map (·.born)) = es.toList.map (·.born) := by rw [Array.toList_modify, modify_same (·.born) (fun e => { e with key := k }) (fun _ => rfl)]
        have hput := map_put (es' := es.modify j fun e => { e with key := k }) (c' := cc) (o' := .mapS ks vs bs cc) hk hX hl (map_kind rfl) ⟨rfl, rfl, rfl⟩ h1 fun e hb => ⟨_, hb, by rw [hkeys]; exact h2.keeps e.keeps, by rw [hvals]; exact h3.keeps e.keeps, by rw [hborn]; exact h7, by rw [← h7]; exact h4, by rw [← h7]; exact h5⟩
        exact step_put hput rfl (.p _ _ (.tup _ [e.val, goInt st] (.cons _ _ _ _ (hv2.keeps hput.2.keeps) (.cons _ _ _ _ (.int _ _) .nil))))
      · split at hc
        · rename_i z hz
          cases hc
          obtain ⟨o1, o2, o3, o4, o5, o6, _⟩ := ho
          subst o3 o4 o5 o6
          obtain ⟨d, hd⟩ := eq_und (n := 9999) o1.choose_spec
          obtain ⟨a, g1, rfl⟩ := run_find (P := P) (w := w) hd hkr h2 o2
          obtain ⟨i', u, hi', hv, hcv⟩ := tzero_spec hz
          rw [run_v (v := .tuple #[u, goInt cc]) (w' := { w with heap := w.heap.setIfInBounds (φ l).1 (.map (es.push { key := k, val := u, born := cc }) (cc + 1)) }) (by
            rw [hstart o1 g1]
            simp only
            rw [run_bnd (run_zeroValue hi' hv), run_bnd (run_setMap _ h1)]; rfl)]
          have hput := map_put (es' := es.push { key := k, val := u, born := cc }) (c' := cc + 1) (o' := .mapS (ks ++ [kp]) (vs ++ [z]) (bs ++ [cc]) (cc + 1)) hk hX hl (map_kind rfl) ⟨rfl, rfl, rfl⟩ h1 fun e hb => ⟨_, hb,
            by rw [Array.toList_push, List.map_append]; exact (h2.keeps e.keeps).snoc (hkr.keeps e.keeps), by rw [Array.toList_push, List.map_append]; exact (h3.keeps e.keeps).snoc (constV_sound _ _ _ _ hcv),
            by rw [Array.toList_push, List.map_append, h7]; rfl, by
              rw [← h7]
              refine List.nodup_append.2 ⟨h4, by simp, fun a ha b hb he => ?_⟩
              simp at hb; subst hb; subst he
              have := h5 _ ha; omega, by
              intro b hb
              rw [← h7, List.mem_append] at hb
              rcases hb with hb | hb
              · have := h5 b hb; omega
              · simp at hb; omega⟩
          exact step_put hput rfl (.p _ _ (.tup _ [u, goInt cc] (.cons _ _ _ _ (constV_sound _ _ _ _ hcv) (.cons _ _ _ _ (.int _ _) .nil))))
        · cases hc
    · cases hc
  · cases hc
theorem nodup_find {es : List MapEntry} {j b : Nat} (hn : (es.map (·.born)).Nodup) (hj : (es.map (·.born))[j]? = some b) : es.findIdx? (fun e => (e.born : Int) == (b : Int)) = some j := by
  induction es generalizing j with
  | nil => simp at hj
  | cons e es ih =>
    simp only [List.map_cons, List.nodup_cons] at hn
    rw [List.findIdx?_cons]
    cases j with
    | zero =>
      simp at hj; subst hj
      simp
    | succ j =>
      simp only [List.map_cons, List.getElem?_cons_succ] at hj
      have hne : ¬ e.born = b := fun he => hn.1 (he ▸ List.mem_of_getElem? hj)
      have : ((e.born : Int) == (b : Int)) = false := by simp; exact fun h => hne (by omega)
      rw [this]
      simp [ih hn.2 hj]
theorem entryStoreC_sound {t : TypeId} {x s v : Value} {xi si vi iv : IV} {cl : Cl} {eff : Eff} {obs : List Prop} {hp : Nat → Option MObj} (hhp : ∀ l o, hp l = some o → H[l]? = some o) (hk : HOK Γ w.heap φ H) (hX : ∀ b, Γ.X b → b < w.heap.size)
    (hx : RI Γ w.heap φ H xi x) (hss : RI Γ w.heap φ H si s) (hvv : RI Γ w.heap φ H vi v) (hc : entryStoreC hp xi si vi cl = some (iv, eff, obs)) (ho : All obs) :
    Step Γ φ H w ((do Instr.entryStore t x s v; pure Next.skip : Sem Next).run P w) n iv eff := by
  unfold entryStoreC at hc
  split at hc
  · rename_i i _ vs' _ _ _ l sn vp
    split at hc
    · rename_i ks vs bs c j hl
      have hl := hhp _ _ hl
      cases hc
      obtain ⟨o1, o2, o3, o6, o7, o8, _⟩ := ho
      subst o3 o6 o7 o8
      obtain ⟨rfl, es, cc, h1, h2, h3, h4, h5, h6⟩ := map_at hk hl rfl hx
      obtain ⟨h7, rfl⟩ := h6 ⟨_, _, _, _, rfl⟩
      have hvr := hvv.p_inv
      obtain rfl : s = .int .i64 sn := by cases hss.p_inv; rfl
      rw [run_u (w' := { w with heap := w.heap.setIfInBounds (φ l).1 (.map (es.modify j fun e => { e with val := v }) cc) }) (by
        unfold Instr.entryStore
        simp only
        rw [run_bnd (run_getMap h1)]
        simp only
        rw [run_bnd (show (asInt (.int .i64 sn)).run P w = .ok sn w from rfl)]
        have hfi : es.findIdx? (fun e => (e.born : Int) == sn) = some j := by
          have := nodup_find (es := es.toList) (j := j) (b := sn.toNat) h4 (by rw [h7]; exact o1)
          rw [show ((sn.toNat : Nat) : Int) = sn from Int.toNat_of_nonneg o2] at this
          obtain ⟨ll⟩ := es; simpa using this
        rw [hfi]
        exact run_setMap _ h1)]
      have hkeys : ((es.modify j fun e => { e with val := v }).toList.map (·.key)) = es.toList.map (·.key) := by rw [Array.toList_modify, modify_same (·.key) (fun e => { e with val := v }) (fun _ => rfl)]
      have hvals : ((es.modify j fun e => { e with val := v }).toList.map (·.val)) = (es.toList.map (·.val)).set j v := by rw [Array.toList_modify, modify_map (·.val) _ _ j v (fun e _ => rfl)]
      have hborn : ((es.modify j fun e => { e with val := v }).toList.map (·.born)) = es.toList.map (·.born) := by rw [Array.toList_modify, modify_same (·.born) (fun e => { e with val := v }) (fun _ => rfl)]
      have hput := map_put (es' := es.modify j fun e => { e with val := v }) (c' := cc) (o' := .mapS ks (vs.set j vp) bs cc) hk hX hl (map_kind rfl) ⟨rfl, rfl, rfl⟩ h1 fun e hb => ⟨_, hb, by rw [hkeys]; exact h2.keeps e.keeps, by rw [hvals]; exact (h3.keeps e.keeps).set' (hvr.keeps e.keeps) j, by rw [hborn]; exact h7, by rw [← h7]; exact h4, by rw [← h7]; exact h5⟩
      exact step_put hput rfl (.p _ _ (.junk _))
    · cases hc
  · cases hc
theorem erase_map {β : Type} (g : MapEntry → β) : ∀ (l : List MapEntry) (j : Nat), (l.eraseIdx j).map g = (l.map g).eraseIdx j
  | [], _ => rfl
  | _ :: _, 0 => rfl
  | e :: l, j + 1 => by simp [erase_map g l j]
theorem erase_mem {α : Type} : ∀ {l : List α} {j : Nat} {x : α}, x ∈ l.eraseIdx j → x ∈ l := fun h => List.mem_of_mem_eraseIdx h
theorem erase_nodup {α : Type} : ∀ {l : List α} (j : Nat), l.Nodup → (l.eraseIdx j).Nodup := fun j h => h.sublist (List.eraseIdx_sublist _ _)
theorem deleteC_sound {t tk ty : TypeId} {x k : Value} {xi ki iv : IV} {cl : Cl} {eff : Eff} {obs : List Prop} {hp : Nat → Option MObj} (hhp : ∀ l o, hp l = some o → H[l]? = some o) (hk : HOK Γ w.heap φ H) (hX : ∀ b, Γ.X b → b < w.heap.size)
    (hx : RI Γ w.heap φ H xi x) (hkk : RI Γ w.heap φ H ki k) (hc : deleteC P hp t xi ki cl = some (iv, eff, obs)) (ho : All obs) :
    Step Γ φ H w ((do pure (Next.value (← Builtin.delete_ #[t, tk] ty #[x, k])) : Sem Next).run P w) n iv eff := by
  unfold deleteC at hc
  split at hc
  · rename_i kt vt i ks' vs' bs' _ _ l kp hu
    split at hc
    · rename_i o hl
      have hl := hhp _ _ hl
      split at hc
      · rename_i ks vs bs c hpart
        obtain ⟨rfl, es, cc, h1, h2, h3, h4, h5, h6⟩ := map_at hk hl hpart hx
        have hkr := hkk.p_inv
        have hstart : ∀ {a : Option (Nat × Value)}, EqD P kt kp → (Instr.findKey kt k es.toList).run P w = .ok a w →
            (Builtin.delete_ #[t, tk] ty #[.map (some (φ l).1), k]).run P w = (do
              (match a with
              | some (i, _) => setObj (φ l).1 (.map (es.eraseIdxIfInBounds i) cc)
              | none => setObj (φ l).1 (.map es cc))
              pure (.tuple #[]) : Sem Value).run P w := by
          intro a ⟨b, hb⟩ ha
          unfold Builtin.delete_
          simp only [show (#[t, tk] : Array TypeId)[0]? = some t from rfl, show (#[Value.map (some (φ l).1), k] : Array Value)[0]? = some (.map (some (φ l).1)) from rfl, show (#[Value.map (some (φ l).1), k] : Array Value)[1]? = some k from rfl]
          rw [run_bnd (run_underlying hu)]
          simp only
          rw [run_bnd (run_getMap h1)]
          simp only
          rw [run_bnd (run_chk _ 10000 _ _ _ _ _ w hb hkr), run_bnd ha]
          cases a <;> rfl
        split at hc
        · rename_i j
          cases hc
          obtain ⟨o1, o2, o3, o4, o5, _⟩ := ho
          subst o3 o4 o5
          obtain ⟨d, hd⟩ := eq_und (n := 9999) o1.choose_spec
          obtain ⟨a, g1, _, e, g2, rfl⟩ := run_find (P := P) (w := w) hd hkr h2 o2
          rw [run_v (v := .tuple #[]) (w' := { w with heap := w.heap.setIfInBounds (φ l).1 (.map (es.eraseIdxIfInBounds j) cc) }) (by
            rw [hstart o1 g1]
            simp only
            rw [run_bnd (run_setMap _ h1)]; rfl)]
          have hlist : (es.eraseIdxIfInBounds j).toList = es.toList.eraseIdx j := by
            have hlt : j < es.size := by have := lt_of_lget g2; simpa using this
            unfold Array.eraseIdxIfInBounds
            rw [dif_pos hlt]; exact Array.toList_eraseIdx ..
          refine step_put (map_put hk hX hl (map_kind hpart) (updO_kind ..) h1 fun e hb => updO_ok hb ?_ ?_ ?_ ?_ ?_) rfl (.p _ _ (.tup [] [] .nil))
          · rw [hlist, erase_map]; exact (h2.keeps e.keeps).erase j
          · rw [hlist, erase_map]; exact (h3.keeps e.keeps).erase j
          · rw [hlist, erase_map]; exact erase_nodup j h4
          · intro b hb
            rw [hlist, erase_map] at hb
            exact h5 b (erase_mem hb)
          · intro hm
            obtain ⟨q1, q2⟩ := h6 hm
            rw [hlist, erase_map, q1]; exact ⟨rfl, q2⟩
        · cases hc
          obtain ⟨o1, o2, _⟩ := ho
          obtain ⟨d, hd⟩ := eq_und (n := 9999) o1.choose_spec
          obtain ⟨a, g1, rfl⟩ := run_find (P := P) (w := w) hd hkr h2 o2
          rw [run_v (v := .tuple #[]) (w' := { w with heap := w.heap.setIfInBounds (φ l).1 (.map es cc) }) (by
            rw [hstart o1 g1]
            simp only
            rw [run_bnd (run_setMap _ h1)]; rfl)]
          have hupd : updO o ks vs bs c = o ∨ True := .inr trivial
          refine step_put (map_put hk hX hl (map_kind hpart) ⟨(map_kind hpart).1, (map_kind hpart).2.1, (map_kind hpart).2.2.1⟩ h1 fun e hb => ?_) rfl (.p _ _ (.tup [] [] .nil))
          have hq := updO_ok (Γ := Γ) (φ' := φ) (H' := H.set l o) (l := l) (o := o) (ks := ks) (vs := vs) (bs := bs) (c := c) hb (h2.keeps e.keeps) (h3.keeps e.keeps) h4 h5 h6
          cases o <;> simp [mapPart] at hpart
          · obtain ⟨rfl, rfl, rfl, rfl⟩ := hpart; exact hq
          · obtain ⟨rfl, rfl, rfl, rfl⟩ := hpart; exact hq
      · cases hc
    · cases hc
  · cases hc
end
end Go.Idl
set_option linter.unusedSimpArgs false
set_option linter.unusedVariables false
namespace Go.Idl
open Go
section
variable {P : Program} {Γ : Cx} {φ : Plc} {H : List MObj} {w : World} {n : Nat}
theorem run_getIt {r : Nat} {m : Option Nat} {a : Nat} {s : Array Nat} {b : Nat} (h : w.heap[r]? = some (.mapIter m a s b)) : (getObj r).run P w = .ok (.mapIter m a s b) w := by simp [getObj, Sem.run, h]
theorem putAt_get {n : Nat} {o : MObj} {H : List MObj} (hf : Free n H) : (putAt n o H)[n]? = some o := by
  unfold putAt
  split
  · rename_i h; rw [Nat.blt_eq] at h; rw [get_set, if_pos rfl, if_pos h]
  · rename_i h
    have hle : ¬ n < H.length := fun hh => by rw [show Nat.blt n H.length = true from by rw [Nat.blt_eq]; exact hh] at h; cases h
    rcases hf with rfl | hf
    · simp
    · exact absurd (lt_of_lget hf) hle
theorem rangeC_sound {t : TypeId} {x : Value} {xi iv : IV} {eff : Eff} {obs : List Prop} {hp : Nat → Option MObj} (hhp : ∀ l o, hp l = some o → H[l]? = some o) (hk : HOK Γ w.heap φ H) (hX : ∀ b, Γ.X b → b < w.heap.size) (hf : Free n H)
    (hx : RI Γ w.heap φ H xi x) (hc : rangeC P hp n t xi = some (iv, eff, obs)) : Step Γ φ H w ((do pure (Next.value (← Instr.range t x)) : Sem Next).run P w) n iv eff := by
  unfold rangeC at hc
  have fin : ∀ (o' : MObj) (it : Obj), o'.live = true → o'.csize = 0 → (Instr.range t x).run P w = .ok (.pointer (some ⟨w.heap.size, 0, none⟩)) { w with heap := w.heap.push it } →
      (Ext φ H w.heap (upd φ n (w.heap.size, 0)) (putAt n o' H) (w.heap.push it) → (w.heap.push it)[(upd φ n (w.heap.size, 0) n).1]? = some it → ObjOK Γ (w.heap.push it) (upd φ n (w.heap.size, 0)) (putAt n o' H) n o') →
      Step Γ φ H w ((do pure (Next.value (← Instr.range t x)) : Sem Next).run P w) n (.iter n) (.new o') := by
    intro o' it hlive hz hrun ok
    rw [run_v hrun]
    obtain ⟨k, e⟩ := hk.new (h' := w.heap.push it) (n := n) (o' := o') (pl := (w.heap.size, 0)) hX hf hlive (by simp) (fun b hb => by rw [Array.getElem?_push_lt hb, Array.getElem?_eq_getElem hb]) ⟨Nat.le_refl _, by simp⟩
      (fun e => ok e (by rw [upd_same]; simp))
    exact ⟨_, _, _, _, rfl, rfl, k, e, .iter n _ ⟨o', putAt_get hf, fun h => by rw [h] at hlive; cases hlive⟩ fun o ho _ _ => by rw [upd_same], ⟨rfl, rfl, rfl⟩⟩
  split at hc
  · rename_i kt vt l hu
    split at hc
    · rename_i ks vs bs c hl
      cases hc
      have hl := hhp _ _ hl
      obtain ⟨rfl, es, cc, h1, h2, h3, h4, h5, h6⟩ := map_at hk hl rfl hx
      obtain ⟨h7, rfl⟩ := h6 ⟨_, _, _, _, rfl⟩
      refine fin _ (.mapIter (some (φ l).1) cc #[] cc) rfl rfl ?_ fun e hb => ⟨(φ l).1, hb, hx.ext e⟩
      unfold Instr.range
      rw [run_bnd (run_underlying hu)]
      simp only
      rw [run_bnd (run_getMap h1)]
      rfl
    · cases hc
  · rename_i kt vt ks vs hu
    cases hc
    cases hx.p_inv with
    | map _ _ r es clock hr hxx hk1 hv1 hn1 hb1 =>
      refine fin _ (.mapIter (some r) clock #[] clock) rfl rfl ?_ fun e hb => ?_
      · unfold Instr.range
        rw [run_bnd (run_underlying hu)]
        simp only
        rw [run_bnd (run_getMap hr)]
        rfl
      · obtain ⟨q1, q2⟩ := e.keeps (Γ := Γ) r _ hr hxx
        exact ⟨r, es, clock, [], hb, q1, q2, hk1.keeps e.keeps, hv1.keeps e.keeps, hn1, hb1, rfl⟩
  · cases hc
theorem entryC_sound {it : Value} {ii iv : IV} {cl : Cl} {eff : Eff} {obs : List Prop} {hp : Nat → Option MObj} (hhp : ∀ l o, hp l = some o → H[l]? = some o) (hk : HOK Γ w.heap φ H)
    (hx : RI Γ w.heap φ H ii it) (hc : entryC hp ii cl = some (iv, eff, obs)) (ho : All obs) : Step Γ φ H w ((do pure (Next.value (← Instr.entry it)) : Sem Next).run P w) n iv eff := by
  unfold entryC at hc
  split at hc
  · rename_i l j k _ _ _ v
    split at hc
    · rename_i m seen c hl
      split at hc
      · rename_i ks vs bs c' hm
        cases hc
        obtain ⟨rfl, o2, o3, ⟨b, o4, o5⟩, _⟩ := ho
        have hl := hhp _ _ hl
        have hm := hhp _ _ hm
        obtain ⟨r, g1, g2⟩ := hk.obj l _ hl
        cases hx with
        | iter _ r2 hd hcc =>
          have := hcc _ hl rfl rfl
          subst this
          obtain ⟨hr, es, cc, h1, h2, h3, h4, h5, h6⟩ := map_at hk hm rfl g2
          cases hr
          obtain ⟨h7, rfl⟩ := h6 ⟨_, _, _, _, rfl⟩
          obtain ⟨ku, hk1, hk2⟩ := RPL.get h2 _ _ o2
          obtain ⟨vu, hv1, hv2⟩ := RPL.get h3 _ _ o3
          simp only [List.getElem?_map] at hk1 hv1
          cases he : es.toList[j]? with
          | none => rw [he] at hk1; cases hk1
          | some e =>
            rw [he] at hk1 hv1; cases hk1; cases hv1
            have hbe : e.born = b := by rw [← h7, List.getElem?_map, he] at o4; cases o4; rfl
            have hfind : es.find? (fun e => e.born == b) = some e := by
              have key : ∀ (l : List MapEntry) (j : Nat), (l.map (·.born)).Nodup → l[j]? = some e → l.find? (fun e => e.born == b) = some e := by
                intro l
                induction l with
                | nil => intro j _ h; simp at h
                | cons x l ih =>
                  intro j hn h
                  simp only [List.map_cons, List.nodup_cons] at hn
                  rw [List.find?_cons]
                  cases j with
                  | zero => simp at h; subst h; simp [hbe]
                  | succ j =>
                    simp only [List.getElem?_cons_succ] at h
                    have hne : ¬ x.born = b := fun hx => hn.1 (by rw [hx, ← hbe]; exact List.mem_map.2 ⟨e, List.mem_of_getElem? h, rfl⟩)
                    have : (x.born == b) = false := by simp [hne]
                    rw [this]
                    exact ih j hn.2 h
              have := key es.toList j h4 he
              obtain ⟨ll⟩ := es; simpa using this
            have hback : (⟨seen⟩ : Array Nat).back? = some b := by rw [← o5]; simp [Array.back?, List.getLast?_eq_getElem?]
            rw [run_v (v := .tuple #[e.key, e.val]) (w' := w)]
            · exact Step.same hk (.p _ _ (.tup _ [e.key, e.val] (.cons _ _ _ _ hk2 (.cons _ _ _ _ hv2 .nil))))
            · unfold Instr.entry
              simp only
              rw [run_bnd (run_getIt g1)]
              simp only
              rw [hback]
              simp only
              rw [run_bnd (run_getMap h1)]
              simp only [bne_self_eq_false, Bool.false_eq_true, if_false]
              rw [hfind]
              rfl
      · cases hc
    · rename_i ks vs seen hl
      cases hc
      obtain ⟨o2, o3, o5, _⟩ := ho
      have hl := hhp _ _ hl
      obtain ⟨r, es, cc, ss, g1, h1, _, h2, h3, h4, h5, h6⟩ := hk.obj l _ hl
      cases hx with
      | iter _ r2 hd hcc =>
        have := hcc _ hl rfl rfl
        subst this
        obtain ⟨ku, hk1, hk2⟩ := RPL.get h2 _ _ o2
        obtain ⟨vu, hv1, hv2⟩ := RPL.get h3 _ _ o3
        simp only [List.getElem?_map] at hk1 hv1
        cases he : es.toList[j]? with
        | none => rw [he] at hk1; cases hk1
        | some e =>
          rw [he] at hk1 hv1; cases hk1; cases hv1
          have hlast : ss.getLast? = some e.born := by
            have := congrArg List.getLast? h6
            rw [List.getLast?_map, List.getLast?_map, o5] at this
            simp only [Option.map_some, he] at this
            cases hs : ss.getLast? with
            | none => rw [hs] at this; cases this
            | some b => rw [hs] at this; cases this; rfl
          have hfind : es.find? (fun x => x.born == e.born) = some e := by
            have key : ∀ (l : List MapEntry) (j : Nat), (l.map (·.born)).Nodup → l[j]? = some e → l.find? (fun x => x.born == e.born) = some e := by
              intro l
              induction l with
              | nil => intro j _ h; simp at h
              | cons x l ih =>
                intro j hn h
                simp only [List.map_cons, List.nodup_cons] at hn
                rw [List.find?_cons]
                cases j with
                | zero => simp at h; subst h; simp
                | succ j =>
                  simp only [List.getElem?_cons_succ] at h
                  have hne : ¬ x.born = e.born := fun hx => hn.1 (by rw [hx]; exact List.mem_map.2 ⟨e, List.mem_of_getElem? h, rfl⟩)
                  have : (x.born == e.born) = false := by simp [hne]
                  rw [this]
                  exact ih j hn.2 h
            have := key es.toList j h4 he
            obtain ⟨ll⟩ := es; simpa using this
          have hback : (⟨ss⟩ : Array Nat).back? = some e.born := by rw [← hlast]; simp [Array.back?, List.getLast?_eq_getElem?]
          rw [run_v (v := .tuple #[e.key, e.val]) (w' := w)]
          · exact Step.same hk (.p _ _ (.tup _ [e.key, e.val] (.cons _ _ _ _ hk2 (.cons _ _ _ _ hv2 .nil))))
          · unfold Instr.entry
            simp only
            rw [run_bnd (run_getIt g1)]
            simp only
            rw [hback]
            simp only
            rw [run_bnd (run_getMap h1)]
            simp only [bne_self_eq_false, Bool.false_eq_true, if_false]
            rw [hfind]
            rfl
    · cases hc
  · cases hc
end
end Go.Idl
