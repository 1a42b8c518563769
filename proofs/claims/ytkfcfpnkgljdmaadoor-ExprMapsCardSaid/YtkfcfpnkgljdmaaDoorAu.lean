/- Abstract values: slices, strings and what is never written again are plain data; memory that is written is named. What a value of the machine has to do with an abstract one, and how worlds go on. No program in sight. · Operations that only look: what they come to, abstractly. · How memory that stays is read: a place's cells, a slice's elements, an object's. · The operations that only look, compiled: what each comes to; that it does. · The operations that only look do come to what is said. · The operations that only look do come to what is said: each. -/
import Derived.WalkKit
import Derived.Orders
import Derived.Laws.Cells
import Derived.Laws.Slices
import Derived.Laws.Small
import Derived.Laws.IdiomStrings
import Derived.Laws.BytesString
import Derived.Deep.AppendSrc
namespace Go.A
set_option linter.unusedSimpArgs false
set_option linter.unusedVariables false

/-- What is known of a slice's spare places: nothing; there are none; they are of this block, at so many cells an element. -/
inductive SK where
  | shr
  | full
  | tok (b sz : Nat) (T : TypeId)
  deriving DecidableEq, Inhabited

inductive AV where
  | any
  | bool (b : Bool)
  | int (k : IntKind) (n : Int)
  | str (l : List UInt8)
  | ptr (b o : Nat)
  | imm (cs : List AV)
  | nilp
  | sl (k : SK) (xs : List AV)
  | msl (b o n c : Nat)
  | agg (cs : List AV)
  | tuple (vs : List AV)
  | iface (t : TypeId) (v : AV)
  | nili
  | func (fn : Fn) (first captured : List AV)
  | nilf
  deriving Inhabited

def AV.cells : AV → List AV
  | .agg cs => cs
  | a => [a]

/-- What a block is: memory that may be written, holding these; memory that only grows, filled so far; memory that is known and stays. -/
inductive Role where
  | obj (cs : List AV)
  | tok (f : Nat)
  | fix (cs : List AV)
  | iter (l : List UInt8) (p : Nat)
  | typ (T : TypeId) (vs : List Value)
  deriving Inhabited

/-- The roles of blocks; a block without one stays as it is. -/
def ASt := Nat → Option Role
def ASt.set (σ : ASt) (b : Nat) (r : Option Role) : ASt := fun x => if x = b then r else σ x
theorem ASt.set_same (σ : ASt) (b : Nat) (r : Option Role) : σ.set b r b = r := by simp [ASt.set]
theorem ASt.set_ne {σ : ASt} {b x : Nat} {r : Option Role} (h : x ≠ b) : σ.set b r x = σ x := by simp [ASt.set, h]
theorem ASt.set_set (σ : ASt) (b : Nat) (r r' : Option Role) : (σ.set b r).set b r' = σ.set b r' := by funext x; simp only [ASt.set]; split <;> rfl

/-- A cell that is never written again. -/
def Still (σ : ASt) (w : World) (b o : Nat) : Prop := b < w.heap.size ∧ (σ b = none ∨ (∃ cs, σ b = some (.fix cs)) ∨ ∃ f, σ b = some (.tok f) ∧ o < f)

/-- A block that keeps its size. -/
def Stands (σ : ASt) (b : Nat) : Prop := (∀ cs, σ b ≠ some (.obj cs)) ∧ (∀ l p, σ b ≠ some (.iter l p)) ∧ ∀ T cs, σ b ≠ some (.typ T cs)

def SK.ok (σ : ASt) (w : World) (b o n c sz : Nat) : SK → Prop
  | .shr => True
  | .full => c = n
  | .tok t s T => t = b ∧ s = sz ∧ o = 0 ∧ w.shape? b = some (T, c * sz) ∧ Stands σ b

mutual
inductive Rep (σ : ASt) (w : World) : AV → Value → Prop
  | any (v : Value) : Rep σ w .any v
  | bool (b : Bool) : Rep σ w (.bool b) (.bool b)
  | int (k : IntKind) (n : Int) : Rep σ w (.int k n) (.int k n)
  | str (l : List UInt8) : Rep σ w (.str l) (.string ⟨⟨l⟩⟩)
  | ptr (b o : Nat) : Rep σ w (.ptr b o) (.pointer (some ⟨b, o, none⟩))
  | imm {cs : List AV} {b o : Nat} : At σ w b o cs → Rep σ w (.imm cs) (.pointer (some ⟨b, o, none⟩))
  | nilp : Rep σ w .nilp (.pointer none)
  | slE (A : Option Addr) (c : Nat) : Rep σ w (.sl .shr []) (.slice A 0 c)
  | slN : Rep σ w (.sl .full []) (.slice none 0 0)
  | sl {k : SK} {xs : List AV} {b o n c sz : Nat} : Row σ w b o sz xs → n = xs.length → n ≤ c → k.ok σ w b o n c sz → b < w.heap.size → Rep σ w (.sl k xs) (.slice (some ⟨b, o, none⟩) n c)
  | msl (b o n c : Nat) : Rep σ w (.msl b o n c) (.slice (some ⟨b, o, none⟩) n c)
  | agg {cs : List AV} {vs : List Value} : Reps σ w cs vs → Rep σ w (.agg cs) (.agg ⟨vs⟩)
  | tuple {cs : List AV} {vs : List Value} : Reps σ w cs vs → Rep σ w (.tuple cs) (.tuple ⟨vs⟩)
  | iface {t : TypeId} {a : AV} {v : Value} : Rep σ w a v → Rep σ w (.iface t a) (.iface t v)
  | nili : Rep σ w .nili .nilIface
  | func {fn : Fn} {f c : List AV} {f' c' : List Value} : Reps σ w f f' → Reps σ w c c' → Rep σ w (.func fn f c) (.func fn ⟨f'⟩ ⟨c'⟩)
  | nilf : Rep σ w .nilf .nilFunc
inductive Reps (σ : ASt) (w : World) : List AV → List Value → Prop
  | nil : Reps σ w [] []
  | cons {a : AV} {v : Value} {as : List AV} {vs : List Value} : Rep σ w a v → Reps σ w as vs → Reps σ w (a :: as) (v :: vs)
/-- These stand from a place on, and stay. -/
inductive At (σ : ASt) (w : World) : Nat → Nat → List AV → Prop
  | nil (b o : Nat) : At σ w b o []
  | cons {b o : Nat} {a : AV} {v : Value} {as : List AV} : Still σ w b o → w.cell? ⟨b, o, none⟩ = some v → Rep σ w a v → At σ w b (o + 1) as → At σ w b o (a :: as)
inductive Row (σ : ASt) (w : World) : Nat → Nat → Nat → List AV → Prop
  | nil (b o sz : Nat) : Row σ w b o sz []
  | cons {b o sz : Nat} {x : AV} {xs : List AV} : x.cells.length = sz → At σ w b o x.cells → Row σ w b (o + sz) sz xs → Row σ w b o sz (x :: xs)
end

/-- How roles and worlds go on. -/
structure Le (σ : ASt) (w : World) (σ' : ASt) (w' : World) : Prop where
  os : w'.os = w.os
  tape : w'.tape = w.tape
  output : w'.output = w.output
  size : w.heap.size ≤ w'.heap.size
  keep : ∀ b, b < w.heap.size → σ b = none → σ' b = none ∧ w'.heap[b]? = w.heap[b]?
  fix : ∀ b cs, b < w.heap.size → σ b = some (.fix cs) → (σ' b = none ∨ σ' b = some (.fix cs)) ∧ w'.heap[b]? = w.heap[b]?
  tok : ∀ b f, b < w.heap.size → σ b = some (.tok f) → (σ' b = none ∨ ∃ f', f ≤ f' ∧ σ' b = some (.tok f')) ∧ w'.shape? b = w.shape? b ∧ ∀ o, o < f → w'.cell? ⟨b, o, none⟩ = w.cell? ⟨b, o, none⟩

theorem Le.refl (σ : ASt) (w : World) : Le σ w σ w :=
  ⟨rfl, rfl, rfl, Nat.le_refl _, fun _ _ h => ⟨h, rfl⟩, fun _ _ _ h => ⟨.inr h, rfl⟩, fun _ f _ h => ⟨.inr ⟨f, Nat.le_refl _, h⟩, rfl, fun _ _ => rfl⟩⟩

theorem cell_of_heap_eq {w w' : World} {b : Nat} (h : w'.heap[b]? = w.heap[b]?) (o : Nat) : w'.cell? ⟨b, o, none⟩ = w.cell? ⟨b, o, none⟩ := by
  simp only [World.cell?, h]
theorem shape_of_heap_eq {w w' : World} {b : Nat} (h : w'.heap[b]? = w.heap[b]?) : w'.shape? b = w.shape? b := by
  simp only [World.shape?, h]

theorem Le.trans {σ σ' σ'' : ASt} {w w' w'' : World} (h : Le σ w σ' w') (k : Le σ' w' σ'' w'') : Le σ w σ'' w'' where
  os := k.os.trans h.os
  tape := k.tape.trans h.tape
  output := k.output.trans h.output
  size := Nat.le_trans h.size k.size
  keep b hb hn := by
    obtain ⟨h1, h2⟩ := h.keep b hb hn
    obtain ⟨h3, h4⟩ := k.keep b (Nat.lt_of_lt_of_le hb h.size) h1
    exact ⟨h3, h4.trans h2⟩
  fix b cs hb hn := by
    obtain ⟨h1, h2⟩ := h.fix b cs hb hn
    have hb' := Nat.lt_of_lt_of_le hb h.size
    rcases h1 with h1 | h1
    · obtain ⟨h3, h4⟩ := k.keep b hb' h1
      exact ⟨.inl h3, h4.trans h2⟩
    · obtain ⟨h3, h4⟩ := k.fix b cs hb' h1
      exact ⟨h3, h4.trans h2⟩
  tok b f hb hn := by
    obtain ⟨h1, h2, h3⟩ := h.tok b f hb hn
    have hb' := Nat.lt_of_lt_of_le hb h.size
    rcases h1 with h1 | ⟨f', hf, h1⟩
    · obtain ⟨h4, h5⟩ := k.keep b hb' h1
      exact ⟨.inl h4, (shape_of_heap_eq h5).trans h2, fun o ho => (cell_of_heap_eq h5 o).trans (h3 o ho)⟩
    · obtain ⟨h4, h5, h6⟩ := k.tok b f' hb' h1
      refine ⟨?_, h5.trans h2, fun o ho => (h6 o (by omega)).trans (h3 o ho)⟩
      rcases h4 with h4 | ⟨f'', hf', h4⟩
      · exact .inl h4
      · exact .inr ⟨f'', by omega, h4⟩

section
variable {σ σ' : ASt} {w w' : World}

theorem Still.mono {b o : Nat} (h : Le σ w σ' w') (hs : Still σ w b o) : Still σ' w' b o ∧ w'.cell? ⟨b, o, none⟩ = w.cell? ⟨b, o, none⟩ := by
  obtain ⟨hb, hs⟩ := hs
  have hb' := Nat.lt_of_lt_of_le hb h.size
  rcases hs with hn | ⟨cs, hn⟩ | ⟨f, hn, ho⟩
  · obtain ⟨h1, h2⟩ := h.keep b hb hn
    exact ⟨⟨hb', .inl h1⟩, cell_of_heap_eq h2 o⟩
  · obtain ⟨h1, h2⟩ := h.fix b cs hb hn
    exact ⟨⟨hb', h1.imp id fun h => .inl ⟨cs, h⟩⟩, cell_of_heap_eq h2 o⟩
  · obtain ⟨h1, h2, h3⟩ := h.tok b f hb hn
    refine ⟨⟨hb', ?_⟩, h3 o ho⟩
    rcases h1 with h1 | ⟨f', hf, h1⟩
    · exact .inl h1
    · exact .inr (.inr ⟨f', h1, by omega⟩)

theorem Le.stands (h : Le σ w σ' w') {b : Nat} (hb : b < w.heap.size) (hs : Stands σ b) : Stands σ' b := by
  have key : ∀ r, σ' b = some r → (∃ cs, r = .fix cs) ∨ ∃ f, r = .tok f := by
    intro r hc
    cases hr : σ b with
    | none => rw [(h.keep b hb hr).1] at hc; cases hc
    | some r =>
      cases r with
      | obj cs => exact absurd hr (hs.1 cs)
      | iter l p => exact absurd hr (hs.2.1 l p)
      | typ T cs => exact absurd hr (hs.2.2 T cs)
      | tok f => rcases (h.tok b f hb hr).1 with h1 | ⟨f', _, h1⟩ <;> rw [h1] at hc <;> cases hc; exact .inr ⟨_, rfl⟩
      | fix cs => rcases (h.fix b cs hb hr).1 with h1 | h1 <;> rw [h1] at hc <;> cases hc; exact .inl ⟨_, rfl⟩
  refine ⟨?_, ?_, ?_⟩
  · intro cs hc
    rcases key _ hc with ⟨_, h⟩ | ⟨_, h⟩ <;> cases h
  · intro l p hc
    rcases key _ hc with ⟨_, h⟩ | ⟨_, h⟩ <;> cases h
  · intro l p hc
    rcases key _ hc with ⟨_, h⟩ | ⟨_, h⟩ <;> cases h
theorem Le.shape (h : Le σ w σ' w') {b : Nat} (hb : b < w.heap.size) (hs : Stands σ b) : w'.shape? b = w.shape? b := by
  cases hr : σ b with
  | none => exact shape_of_heap_eq (h.keep b hb hr).2
  | some r =>
    cases r with
    | obj cs => exact absurd hr (hs.1 cs)
    | iter l p => exact absurd hr (hs.2.1 l p)
    | typ T cs => exact absurd hr (hs.2.2 T cs)
    | tok f => exact (h.tok b f hb hr).2.1
    | fix cs => exact shape_of_heap_eq (h.fix b cs hb hr).2
theorem SK.ok_mono (h : Le σ w σ' w') {k : SK} {b o n c sz : Nat} (hb : b < w.heap.size) (hk : k.ok σ w b o n c sz) : k.ok σ' w' b o n c sz := by
  cases k <;> simp only [SK.ok] at hk ⊢
  · exact hk
  · obtain ⟨h1, h2, h3, h4, h5⟩ := hk
    exact ⟨h1, h2, h3, by rw [h.shape hb h5]; exact h4, h.stands hb h5⟩

mutual
theorem Rep.mono (h : Le σ w σ' w') : ∀ {a : AV} {v : Value}, Rep σ w a v → Rep σ' w' a v
  | _, _, .any v => .any v
  | _, _, .bool b => .bool b
  | _, _, .int k n => .int k n
  | _, _, .str l => .str l
  | _, _, .ptr b o => .ptr b o
  | _, _, .imm h1 => .imm (h1.mono h)
  | _, _, .nilp => .nilp
  | _, _, .slE A c => .slE A c
  | _, _, .slN => .slN
  | _, _, .sl h1 h2 h3 h4 h5 => .sl (h1.mono h) h2 h3 (SK.ok_mono h h5 h4) (Nat.lt_of_lt_of_le h5 h.size)
  | _, _, .msl b o n c => .msl b o n c
  | _, _, .agg h1 => .agg (h1.mono h)
  | _, _, .tuple h1 => .tuple (h1.mono h)
  | _, _, .iface h1 => .iface (h1.mono h)
  | _, _, .nili => .nili
  | _, _, .func h1 h2 => .func (h1.mono h) (h2.mono h)
  | _, _, .nilf => .nilf
theorem Reps.mono (h : Le σ w σ' w') : ∀ {as : List AV} {vs : List Value}, Reps σ w as vs → Reps σ' w' as vs
  | _, _, .nil => .nil
  | _, _, .cons h1 h2 => .cons (h1.mono h) (h2.mono h)
theorem At.mono (h : Le σ w σ' w') : ∀ {b o : Nat} {as : List AV}, At σ w b o as → At σ' w' b o as
  | _, _, _, .nil b o => .nil b o
  | _, _, _, .cons h1 h2 h3 h4 => .cons (h1.mono h).1 ((h1.mono h).2.trans h2) (h3.mono h) (h4.mono h)
theorem Row.mono (h : Le σ w σ' w') : ∀ {b o sz : Nat} {as : List AV}, Row σ w b o sz as → Row σ' w' b o sz as
  | _, _, _, _, .nil b o sz => .nil b o sz
  | _, _, _, _, .cons h1 h2 h3 => .cons h1 (h2.mono h) (h3.mono h)
end

/-- What the roles say of the world. -/
def RoleOk (σ : ASt) (w : World) (b : Nat) : Role → Prop
  | .obj cs => ∃ c T fr, w.heap[b]? = some (.cells c T fr) ∧ Reps σ w cs (c.toList.take cs.length) ∧ ∀ o, o < c.size → w.frozen? ⟨b, o, none⟩ = false
  | .tok f => ∃ c T fr, w.heap[b]? = some (.cells c T fr) ∧ f ≤ c.size ∧ fr.2 ≤ f
  | .fix cs => At σ w b 0 cs ∧ ∃ c T fr, w.heap[b]? = some (.cells c T fr) ∧ c.size = cs.length
  | .iter l p => w.heap[b]? = some (.stringIter ⟨⟨l⟩⟩ p)
  | .typ T vs => w.heap[b]? = some (.cells ⟨vs⟩ T (0, 0))
def Sim (σ : ASt) (w : World) : Prop := ∀ b r, σ b = some r → RoleOk σ w b r

theorem RoleOk.lt {b : Nat} {r : Role} (h : RoleOk σ w b r) : b < w.heap.size := by
  cases r with
  | obj cs => obtain ⟨c, T, fr, h1, _⟩ := h; exact (Array.getElem?_eq_some_iff.1 h1).1
  | tok f => obtain ⟨c, T, fr, h1, _⟩ := h; exact (Array.getElem?_eq_some_iff.1 h1).1
  | fix cs => obtain ⟨_, c, T, fr, h1, _⟩ := h; exact (Array.getElem?_eq_some_iff.1 h1).1
  | iter l p => exact (Array.getElem?_eq_some_iff.1 h).1
  | typ T vs => exact (Array.getElem?_eq_some_iff.1 h).1
theorem Sim.lt (h : Sim σ w) {b : Nat} {r : Role} (hb : σ b = some r) : b < w.heap.size := (h b r hb).lt
theorem Sim.fresh (h : Sim σ w) {b : Nat} (hb : w.heap.size ≤ b) : σ b = none := by
  cases hr : σ b with
  | none => rfl
  | some r => have := h.lt hr; omega

/-- The frame. -/
def AFr := Nat → AV
def AFr.upd (a : AFr) (t : Nat) (v : AV) : AFr := fun s => if s = t then v else a s
def AFr.put (a : AFr) (t : Option Nat) (v : AV) : AFr := match t with | some t => a.upd t v | none => a
structure FRel (n : Nat) (D : List Deferred) (σ : ASt) (w : World) (a : AFr) (act : Act) : Prop where
  size : act.tmps.size = n
  defers : act.defers = D
  rep : ∀ t, t < n → Rep σ w (a t) (act.tmps.getD t undef)
theorem FRel.mono {n : Nat} {D : List Deferred} {a : AFr} {act : Act} (h : Le σ w σ' w') (hf : FRel n D σ w a act) : FRel n D σ' w' a act :=
  ⟨hf.size, hf.defers, fun t ht => (hf.rep t ht).mono h⟩
theorem FRel.put {n : Nat} {D : List Deferred} {a : AFr} {act : Act} {v : AV} {u : Value} (hf : FRel n D σ w a act) (t : Option Nat) (ht : ∀ d, t = some d → d < n) (hv : Rep σ w v u) : FRel n D σ w (a.put t v) (act.put t u) := by
  cases t with
  | none => exact hf
  | some d =>
    have hd := ht d rfl
    refine ⟨by simp [Act.put, hf.size], hf.defers, fun s hs => ?_⟩
    simp only [AFr.put, AFr.upd, Act.put]
    by_cases h : s = d
    · subst h
      have : s < act.tmps.size := by rw [hf.size]; exact hs
      simpa [this] using hv
    · have : (act.tmps.setIfInBounds d u).getD s undef = act.tmps.getD s undef := by
        simp [Array.getElem?_setIfInBounds_ne (Ne.symm h)]
      rw [this]
      simpa [h] using hf.rep s hs
end
end Go.A
namespace Go.A
set_option linter.unusedSimpArgs false
set_option linter.unusedVariables false

/-- An operand. -/
inductive Opd where
  | t (t : Nat)
  | v (a : AV)
  deriving Inhabited
def Opd.ev (a : AFr) : Opd → AV
  | .t s => a s
  | .v x => x

def ofLeaf : Value → Option AV
  | .bool b => some (.bool b)
  | .int k n => some (.int k n)
  | .string s => some (.str s.data.toList)
  | .pointer none => some .nilp
  | .slice none 0 0 => some (.sl .full [])
  | .nilIface => some .nili
  | .nilFunc => some .nilf
  | .func (.func f) ⟨[]⟩ ⟨[]⟩ => some (.func (.func f) [] [])
  | _ => none
def ofLeaves : List Value → Option (List AV)
  | [] => some []
  | v :: vs => match ofLeaf v, ofLeaves vs with
    | some a, some as => some (a :: as)
    | _, _ => none
def ofVal : Value → Option AV
  | .agg cs => (ofLeaves cs.toList).map .agg
  | v => ofLeaf v
def opd : Operand → Option Opd
  | .tmp t => some (.t t)
  | .const v => (ofVal v).map .v
  | .global g => some (.v (.ptr g 0))
  | .func f => some (.v (.func (.func f) [] []))
def opds : List Operand → Option (List Opd)
  | [] => some []
  | x :: xs => match opd x, opds xs with
    | some a, some as => some (a :: as)
    | _, _ => none

section
variable {σ : ASt} {w : World}
theorem ofLeaf_rep {v : Value} {a : AV} (h : ofLeaf v = some a) : Rep σ w a v := by
  unfold ofLeaf at h
  split at h <;> (try injection h with h) <;> (try subst h)
  · exact .bool _
  · exact .int _ _
  · exact .str _
  · exact .nilp
  · exact .slN
  · exact .nili
  · exact .nilf
  · exact .func .nil .nil
  · cases h
theorem ofLeaves_rep : ∀ {vs : List Value} {as : List AV}, ofLeaves vs = some as → Reps σ w as vs
  | [], as, h => by injection h with h; subst h; exact .nil
  | v :: vs, as, h => by
    unfold ofLeaves at h
    split at h
    · rename_i a as' h1 h2
      injection h with h
      subst h
      exact .cons (ofLeaf_rep h1) (ofLeaves_rep h2)
    · cases h
theorem ofVal_rep {v : Value} {a : AV} (h : ofVal v = some a) : Rep σ w a v := by
  unfold ofVal at h
  split at h
  · rename_i cs
    cases h1 : ofLeaves cs.toList with
    | none => simp [h1] at h
    | some as =>
      simp only [h1, Option.map_some, Option.some.injEq] at h
      subst h
      exact .agg (vs := cs.toList) (ofLeaves_rep h1)
  · exact ofLeaf_rep h

/-- The temporaries that an operand looks at. -/
def looksO : Operand → List Nat
  | .tmp t => [t]
  | _ => []
theorem opd_rep {a : AFr} {act : Act} {x : Operand} {y : Opd} (h : opd x = some y) (hr : ∀ t, x = .tmp t → Rep σ w (a t) (act.tmps.getD t undef)) : Rep σ w (y.ev a) (act.eval x) := by
  cases x with
  | tmp t => injection h with h; subst h; exact hr _ rfl
  | const v =>
    simp only [opd] at h
    cases h1 : ofVal v with
    | none => simp [h1] at h
    | some as =>
      simp only [h1, Option.map_some, Option.some.injEq] at h
      subst h
      exact ofVal_rep h1
  | global g => injection h with h; subst h; exact .ptr _ _
  | func f => injection h with h; subst h; exact .func .nil .nil
theorem opds_rep {a : AFr} {act : Act} : ∀ {xs : List Operand} {ys : List Opd}, opds xs = some ys → (∀ t, Operand.tmp t ∈ xs → Rep σ w (a t) (act.tmps.getD t undef)) →
    Reps σ w (ys.map (·.ev a)) (xs.map act.eval)
  | [], ys, h, _ => by injection h with h; subst h; exact .nil
  | x :: xs, ys, h, hr => by
    unfold opds at h
    split at h
    · rename_i y ys' h1 h2
      injection h with h
      subst h
      exact .cons (opd_rep h1 fun t ht => hr t (by simp [ht])) (opds_rep h2 fun t ht => hr t (by simp [ht]))
    · cases h
end

/-- What an operation that only looks comes to: it runs, and leaves the roles. -/
def OkQ (P : Program) (o : Oper) (σ : ASt) (w : World) (act : Act) (v : AV) : Prop :=
  ∃ u w', (execOp act.eval o).run P w = .ok (.value u) w' ∧ Le σ w σ w' ∧ Sim σ w' ∧ Rep σ w' v u
theorem OkQ.same {P : Program} {o : Oper} {σ : ASt} {w : World} {act : Act} {v : AV} {u : Value} (hs : Sim σ w) (h : (execOp act.eval o).run P w = .ok (.value u) w) (hr : Rep σ w v u) : OkQ P o σ w act v :=
  ⟨u, w, h, Le.refl _ _, hs, hr⟩

/-- Two integers. -/
def binI (op : BinOp) (k : IntKind) (x y : Int) : Option AV :=
  match op with
  | .add => some (.int k (k.wrap (x + y)))
  | .sub => some (.int k (k.wrap (x - y)))
  | .mul => some (.int k (k.wrap (x * y)))
  | .quo => if y = 0 then none else some (.int k (k.wrap (x.tdiv y)))
  | .rem => if y = 0 then none else some (.int k (x.tmod y))
  | .and => some (.int k (k.wrap (BitVec.ofInt k.bits x &&& BitVec.ofInt k.bits y).toNat))
  | .or => some (.int k (k.wrap (BitVec.ofInt k.bits x ||| BitVec.ofInt k.bits y).toNat))
  | .xor => some (.int k (k.wrap (BitVec.ofInt k.bits x ^^^ BitVec.ofInt k.bits y).toNat))
  | .andNot => some (.int k (k.wrap (BitVec.ofInt k.bits x &&& ~~~BitVec.ofInt k.bits y).toNat))
  | .eql => some (.bool (decide (x = y)))
  | .neq => some (.bool (!decide (x = y)))
  | .lss => some (.bool (decide (x < y)))
  | .leq => some (.bool (decide (x ≤ y)))
  | .gtr => some (.bool (decide (y < x)))
  | .geq => some (.bool (decide (y ≤ x)))
  | _ => none
def shI (op : BinOp) (k : IntKind) (x y : Int) : Option AV :=
  if y < 0 then none else
  match op with
  | .shl => some (.int k (k.wrap (x * 2 ^ min y.toNat k.bits)))
  | .shr => some (.int k (x / 2 ^ min y.toNat k.bits))
  | _ => none
def binS (op : BinOp) (x y : List UInt8) : Option AV :=
  match op with
  | .add => if x.length + y.length ≤ 9223372036854775807 then some (.str (x ++ y)) else none
  | .eql => some (.bool (decide (x = y)))
  | .neq => some (.bool (!decide (x = y)))
  | .lss => some (.bool (Op.bytesLess x y))
  | .leq => some (.bool (Op.bytesLess x y || decide (x = y)))
  | .gtr => some (.bool (!(Op.bytesLess x y || decide (x = y))))
  | .geq => some (.bool (!Op.bytesLess x y))
  | _ => none
/-- What is held against nil; two bools. -/
inductive EqK where
  | p | i | f | b
  deriving DecidableEq, Inhabited
def eqV : EqK → AV → AV → Option Bool
  | .p, .nilp, .nilp => some true
  | .p, .nilp, .ptr _ _ => some false
  | .p, .ptr _ _, .nilp => some false
  | .p, .nilp, .imm _ => some false
  | .p, .imm _, .nilp => some false
  | .i, .nili, .iface _ _ => some false
  | .i, .iface _ _, .nili => some false
  | .f, .nilf, .nilf => some true
  | .f, .nilf, .func _ _ _ => some false
  | .f, .func _ _ _, .nilf => some false
  | .b, .bool a, .bool b => some (a == b)
  | _, _, _ => none
def eqK (P : Program) (T : TypeId) : Option EqK :=
  match P.underlying T with
  | some (.pointer _) => some .p
  | some (.interface _) => some .i
  | some (.func _ _ _) => some .f
  | some .bool => some .b
  | _ => none
def isSh : BinOp → Bool
  | .shl | .shr => true
  | _ => false
def binV (op : BinOp) (x y : AV) : Option AV :=
  match x, y with
  | .int k m, .int k' n => if isSh op then shI op k m n else if k = k' then binI op k m n else none
  | .str a, .str b => binS op a b
  | _, _ => none

section
variable {P : Program} {σ : ASt} {w : World}
theorem run_binI {op : BinOp} {T : TypeId} {k : IntKind} {x y : Int} {v : AV} (hs : isSh op = false) (h : binI op k x y = some v) : ∃ u, (Go.binOp op T (.int k x) (.int k y)).run P w = .ok u w ∧ Rep σ w v u := by
  cases op <;> simp only [isSh, Bool.true_eq_false, reduceCtorEq] at hs <;> simp only [binI, Option.some.injEq, reduceCtorEq] at h
  case quo =>
    split at h
    · cases h
    · rename_i hy
      injection h with h; subst h
      refine ⟨_, ?_, .int _ _⟩
      simp [Go.binOp, Op.intDiv, hy, Sem.run, pure]
  case rem =>
    split at h
    · cases h
    · rename_i hy
      injection h with h; subst h
      refine ⟨_, ?_, .int _ _⟩
      simp [Go.binOp, Op.intDiv, hy, Sem.run, pure]
  all_goals
    subst h
    refine ⟨_, by simp only [Go.binOp, ne_eq, not_true_eq_false, if_false]; rfl, ?_⟩
    first
      | exact .int _ _
      | exact .bool _

theorem run_shI {op : BinOp} {T : TypeId} {k k' : IntKind} {x y : Int} {v : AV} (hs : isSh op = true) (h : shI op k x y = some v) : ∃ u, (Go.binOp op T (.int k x) (.int k' y)).run P w = .ok u w ∧ Rep σ w v u := by
  unfold shI at h
  split at h
  · cases h
  · rename_i hy
    cases op <;> simp only [isSh, reduceCtorEq] at hs <;> simp only [Option.some.injEq] at h <;> subst h
    · exact ⟨_, by simp only [Go.binOp, Op.shift]; rw [if_neg hy]; rfl, .int _ _⟩
    · refine ⟨_, by simp only [Go.binOp, Op.shift]; rw [if_neg hy]; rfl, ?_⟩
      rw [Int.fdiv_eq_ediv_of_nonneg _ (Int.pow_nonneg (by decide))]
      exact .int _ _

theorem beqL (x y : List UInt8) : (x == y) = decide (x = y) := by
  by_cases h : x = y <;> simp [h]
theorem toList_mk (l : List UInt8) : (⟨⟨l⟩⟩ : ByteArray).toList = l := by
  rw [ByteArray.toList_eq]
theorem run_binS {op : BinOp} {T : TypeId} {x y : List UInt8} {v : AV} (h : binS op x y = some v) : ∃ u, (Go.binOp op T (.string ⟨⟨x⟩⟩) (.string ⟨⟨y⟩⟩)).run P w = .ok u w ∧ Rep σ w v u := by
  cases op <;> simp only [binS, Option.some.injEq, reduceCtorEq] at h
  case add =>
    split at h
    · rename_i hy
      injection h with h; subst h
      refine ⟨.string ⟨⟨x ++ y⟩⟩, ?_, .str _⟩
      have : ¬ (((⟨⟨x⟩⟩ : ByteArray).size + (⟨⟨y⟩⟩ : ByteArray).size : Nat) : Int) > IntKind.i64.max := by
        simp only [ByteArray.size, List.size_toArray, IntKind.max, IntKind.signed, IntKind.bits]; simp; omega
      simp only [Go.binOp, Op.stringOp]
      rw [if_neg this]
      simp only [pure, Sem.run]
      rfl
    · cases h
  all_goals
    subst h
    exact ⟨_, by simp only [Go.binOp, Op.stringOp, toList_mk, beqL] <;> rfl, .bool _⟩

theorem run_eqV {T : TypeId} {k : EqK} {x y : AV} {u v : Value} {b : Bool} (hk : eqK P T = some k) (hx : Rep σ w x u) (hy : Rep σ w y v) (h : eqV k x y = some b) :
    (Op.equal T u v).run P w = .ok b w := by
  have key : ∀ d, (Op.equalIn (d + 1) T u v).run P w = .ok b w := by
    intro d
    unfold eqK at hk
    split at hk <;> (try cases hk) <;> rename_i hT <;> (try injection hk with hk; subst hk)
    all_goals
      cases hx <;> cases hy <;> simp only [eqV, Option.some.injEq, reduceCtorEq] at h <;> subst h <;>
      (unfold Op.equalIn; simp [underlying, program, hT, Sem.run, bind, Sem.bind, pure])
  exact key 9999
theorem run_eqGuard_eqV {T : TypeId} {k : EqK} {X Y : Operand} {op : BinOp} {x y : AV} {u v : Value} {b : Bool} (hx : Rep σ w x u) (hy : Rep σ w y v) (h : eqV k x y = some b) :
    (eqGuard op T X Y u v).run P w = .ok () w := by
  unfold eqGuard
  cases k <;> cases hx <;> cases hy <;> simp only [eqV, reduceCtorEq] at h <;> (split <;> rfl)
theorem run_eqGuard_plain {T : TypeId} {X Y : Operand} {op : BinOp} {x y : AV} {u v : Value} {r : AV} (hx : Rep σ w x u) (hy : Rep σ w y v) (h : binV op x y = some r) :
    (eqGuard op T X Y u v).run P w = .ok () w := by
  unfold eqGuard
  cases hx <;> cases hy <;> simp only [binV, reduceCtorEq] at h <;> (split <;> rfl)
theorem run_binV {T : TypeId} {op : BinOp} {x y : AV} {u v : Value} {r : AV} (hx : Rep σ w x u) (hy : Rep σ w y v) (h : binV op x y = some r) :
    ∃ z, (Go.binOp op T u v).run P w = .ok z w ∧ Rep σ w r z := by
  cases hx <;> cases hy <;> simp only [binV, reduceCtorEq] at h
  · rename_i k m k' n
    split at h
    · rename_i hs
      exact run_shI hs h
    · rename_i hs
      split at h
      · rename_i hk; subst hk; exact run_binI (by simpa using hs) h
      · cases h
  · exact run_binS h
end
end Go.A
namespace Go.A
set_option linter.unusedSimpArgs false
set_option linter.unusedVariables false

section
variable {P : Program} {σ : ASt} {w : World}

theorem addr_add' (b o n : Nat) : (⟨b, o, none⟩ : Addr).add n = ⟨b, o + n, none⟩ := by unfold Addr.add; split <;> simp_all

theorem Reps.length : ∀ {as : List AV} {vs : List Value}, Reps σ w as vs → as.length = vs.length
  | _, _, .nil => rfl
  | _, _, .cons _ h => by simp [h.length]
theorem Reps.get : ∀ {as : List AV} {vs : List Value}, Reps σ w as vs → ∀ {i : Nat} {a : AV}, as[i]? = some a → ∃ v, vs[i]? = some v ∧ Rep σ w a v
  | _, _, .nil, i, a, h => by simp at h
  | _, _, .cons h1 h2, 0, a, h => by simp at h; subst h; exact ⟨_, rfl, h1⟩
  | _, _, .cons h1 h2, i + 1, a, h => by
    simp only [List.getElem?_cons_succ] at h ⊢
    exact h2.get h
theorem Reps.drop : ∀ {as : List AV} {vs : List Value}, Reps σ w as vs → ∀ (n : Nat), Reps σ w (as.drop n) (vs.drop n)
  | _, _, h, 0 => by simpa using h
  | _, _, .nil, n + 1 => by simpa using .nil
  | _, _, .cons h1 h2, n + 1 => by simpa using h2.drop n
theorem Reps.take : ∀ {as : List AV} {vs : List Value}, Reps σ w as vs → ∀ (n : Nat), Reps σ w (as.take n) (vs.take n)
  | _, _, h, 0 => by simpa using .nil
  | _, _, .nil, n + 1 => by simpa using .nil
  | _, _, .cons h1 h2, n + 1 => by simpa using .cons h1 (h2.take n)
theorem Reps.append : ∀ {as : List AV} {vs : List Value}, Reps σ w as vs → ∀ {bs : List AV} {us : List Value}, Reps σ w bs us → Reps σ w (as ++ bs) (vs ++ us)
  | _, _, .nil, _, _, h => h
  | _, _, .cons h1 h2, _, _, h => .cons h1 (h2.append h)
theorem Reps.set : ∀ {as : List AV} {vs : List Value}, Reps σ w as vs → ∀ {a : AV} {v : Value}, Rep σ w a v → ∀ (i : Nat), Reps σ w (as.set i a) (vs.set i v)
  | _, _, .nil, _, _, _, i => by simpa using .nil
  | _, _, .cons h1 h2, _, _, h, 0 => .cons h h2
  | _, _, .cons h1 h2, _, _, h, i + 1 => .cons h1 (h2.set h i)

/-- What stands from a place on. -/
theorem At.vals : ∀ {b o : Nat} {as : List AV}, At σ w b o as → ∃ vs, Reps σ w as vs ∧ ∀ j v, vs[j]? = some v → w.cell? ⟨b, o + j, none⟩ = some v
  | _, _, _, .nil b o => ⟨[], .nil, by simp⟩
  | _, _, _, .cons (b := b) (o := o) (v := v) h1 h2 h3 h4 => by
    obtain ⟨vs, hr, hc⟩ := h4.vals
    refine ⟨v :: vs, .cons h3 hr, fun j u hj => ?_⟩
    cases j with
    | zero => simp at hj; subst hj; simpa using h2
    | succ j =>
      simp only [List.getElem?_cons_succ] at hj
      have := hc j u hj
      rwa [show o + (j + 1) = o + 1 + j by omega]
theorem At.still : ∀ {b o : Nat} {as : List AV}, At σ w b o as → ∀ j, j < as.length → Still σ w b (o + j)
  | _, _, _, .nil b o, j, h => by simp at h
  | _, _, _, .cons h1 h2 h3 h4, 0, h => h1
  | _, _, _, .cons (o := o) h1 h2 h3 h4, j + 1, h => by
    have := h4.still j (by simpa using h)
    rwa [show o + (j + 1) = o + 1 + j by omega]
theorem At.mk' : ∀ {as : List AV} {vs : List Value} (_ : Reps σ w as vs) {b o : Nat} (_ : ∀ j, j < vs.length → Still σ w b (o + j)) (_ : ∀ j v, vs[j]? = some v → w.cell? ⟨b, o + j, none⟩ = some v), At σ w b o as
  | _, _, .nil, b, o, _, _ => .nil b o
  | _, _, .cons h1 h2, b, o, hs, hc => by
    refine .cons (hs 0 (by simp)) (hc 0 _ rfl) h1 (At.mk' h2 (fun j hj => ?_) (fun j v hj => ?_))
    · have := hs (j + 1) (by simpa using hj)
      rwa [show o + (j + 1) = o + 1 + j by omega] at this
    · have := hc (j + 1) v (by simpa using hj)
      rwa [show o + (j + 1) = o + 1 + j by omega] at this
theorem At.drop : ∀ {b o : Nat} {as : List AV}, At σ w b o as → ∀ (n : Nat), At σ w b (o + n) (as.drop n)
  | _, _, _, h, 0 => by simpa using h
  | _, _, _, .nil b o, n + 1 => by simpa using .nil _ _
  | _, _, _, .cons (o := o) h1 h2 h3 h4, n + 1 => by
    have := h4.drop n
    simp only [List.drop_succ_cons]
    rwa [show o + (n + 1) = o + 1 + n by omega]
theorem At.take : ∀ {b o : Nat} {as : List AV}, At σ w b o as → ∀ (n : Nat), At σ w b o (as.take n)
  | _, _, _, h, 0 => by simpa using .nil _ _
  | _, _, _, .nil b o, n + 1 => by simpa using .nil _ _
  | _, _, _, .cons h1 h2 h3 h4, n + 1 => by simpa using .cons h1 h2 h3 (h4.take n)
theorem Row.at : ∀ {b o sz : Nat} {xs : List AV}, Row σ w b o sz xs → ∀ {i : Nat} {x : AV}, xs[i]? = some x → x.cells.length = sz ∧ At σ w b (o + i * sz) x.cells
  | _, _, _, _, .nil .., i, x, h => by simp at h
  | _, _, _, _, .cons h1 h2 h3, 0, x, h => by simp at h; subst h; exact ⟨h1, by simpa using h2⟩
  | _, _, _, _, .cons (o := o) (sz := sz) h1 h2 h3, i + 1, x, h => by
    simp only [List.getElem?_cons_succ] at h
    have := h3.at h
    rwa [show o + (i + 1) * sz = o + sz + i * sz by rw [Nat.add_mul]; omega]
theorem Row.drop : ∀ {b o sz : Nat} {xs : List AV}, Row σ w b o sz xs → ∀ (n : Nat), Row σ w b (o + n * sz) sz (xs.drop n)
  | _, _, _, _, h, 0 => by simpa using h
  | _, _, _, _, .nil .., n + 1 => by simpa using .nil _ _ _
  | _, _, _, _, .cons (o := o) (sz := sz) h1 h2 h3, n + 1 => by
    have := h3.drop n
    simp only [List.drop_succ_cons]
    rwa [show o + (n + 1) * sz = o + sz + n * sz by rw [Nat.add_mul]; omega]
theorem Row.take : ∀ {b o sz : Nat} {xs : List AV}, Row σ w b o sz xs → ∀ (n : Nat), Row σ w b o sz (xs.take n)
  | _, _, _, _, h, 0 => by simpa using .nil _ _ _
  | _, _, _, _, .nil .., n + 1 => by simpa using .nil _ _ _
  | _, _, _, _, .cons h1 h2 h3, n + 1 => by simpa using .cons h1 h2 (h3.take n)
/-- All cells of a slice, one behind the other. -/
theorem Row.flat : ∀ {b o sz : Nat} {xs : List AV}, Row σ w b o sz xs → At σ w b o (xs.flatMap AV.cells) ∧ (xs.flatMap AV.cells).length = xs.length * sz
  | _, _, _, _, .nil .. => ⟨by simpa using .nil _ _, by simp⟩
  | _, _, _, _, .cons (b := b) (o := o) (sz := sz) (x := x) (xs := xs) h1 h2 h3 => by
    obtain ⟨hA, hl⟩ := h3.flat
    constructor
    · obtain ⟨vs, hr, hc⟩ := h2.vals
      obtain ⟨us, hr', hc'⟩ := hA.vals
      have hvl : vs.length = sz := by rw [← hr.length, h1]
      simp only [List.flatMap_cons]
      refine At.mk' (hr.append hr') (fun j hj => ?_) (fun j v hj => ?_)
      · by_cases hjs : j < sz
        · exact h2.still j (by omega)
        · have hj2 := hA.still (j - sz) (by rw [hr'.length]; simp [hvl] at hj; omega)
          rwa [show o + j = o + sz + (j - sz) by omega]
      · by_cases hjs : j < sz
        · exact hc j v (by rwa [List.getElem?_append_left (by omega)] at hj)
        · rw [List.getElem?_append_right (by omega)] at hj
          have := hc' (j - sz) v (by rwa [hvl] at hj)
          rwa [show o + j = o + sz + (j - sz) by omega]
    · simp only [List.flatMap_cons, List.length_append, List.length_cons, hl, h1, Nat.add_mul]; omega
theorem Row.unflat : ∀ {xs : List AV} {b o sz : Nat}, (∀ x ∈ xs, x.cells.length = sz) → At σ w b o (xs.flatMap AV.cells) → Row σ w b o sz xs
  | [], b, o, sz, _, _ => .nil _ _ _
  | x :: xs, b, o, sz, hl, h => by
    have h1 := hl x (by simp)
    simp only [List.flatMap_cons] at h
    refine .cons h1 ?_ (Row.unflat (fun y hy => hl y (by simp [hy])) ?_)
    · have := h.take x.cells.length
      simpa using this
    · have := h.drop x.cells.length
      rw [h1] at this
      simpa [h1] using this

/-- An object's cells. -/
theorem Sim.objCell (hs : Sim σ w) {b : Nat} {cs : List AV} (hb : σ b = some (.obj cs)) : ∃ vs, Reps σ w cs vs ∧ (∀ j v, vs[j]? = some v → w.cell? ⟨b, j, none⟩ = some v) ∧ ∀ j, j < vs.length → w.frozen? ⟨b, j, none⟩ = false := by
  obtain ⟨c, T, fr, h1, h2, h3⟩ := hs b _ hb
  refine ⟨c.toList.take cs.length, h2, fun j v hj => ?_, fun j hj => h3 j (by simp at hj; omega)⟩
  rw [List.getElem?_take] at hj
  split at hj
  · simp only [World.cell?, h1]
    simpa using hj
  · cases hj
/-- What is known of a block: an object, or memory that stays. -/
def known (σ : ASt) (b : Nat) : Option (List AV) :=
  match σ b with
  | some (.obj cs) => some cs
  | some (.fix cs) => some cs
  | _ => none
theorem Sim.known (hs : Sim σ w) {b : Nat} {cs : List AV} (hb : known σ b = some cs) : ∃ vs, Reps σ w cs vs ∧ ∀ j v, vs[j]? = some v → w.cell? ⟨b, j, none⟩ = some v := by
  unfold A.known at hb
  split at hb
  · rename_i cs' h1
    injection hb with hb; subst hb
    obtain ⟨vs, h2, h3, _⟩ := hs.objCell h1
    exact ⟨vs, h2, h3⟩
  · rename_i cs' h1
    injection hb with hb; subst hb
    obtain ⟨vs, h2, h3⟩ := (hs b _ h1).1.vals
    exact ⟨vs, h2, fun j v hj => by simpa using h3 j v hj⟩
  · cases hb

/-- Reading n cells from a place whose cells are known. -/
theorem run_cells {b o n : Nat} {vs : List Value} (hc : ∀ j v, vs[j]? = some v → w.cell? ⟨b, o + j, none⟩ = some v) (hn : n ≤ vs.length) :
    (loadCells ⟨b, o, none⟩ n).run P w = .ok (vs.take n).toArray w := by
  have := run_loadCells_list (P := P) w ⟨b, o, none⟩ (vs.take n) (fun j v hj => by
    rw [addr_add']
    refine hc j v ?_
    rw [List.getElem?_take] at hj
    split at hj
    · exact hj
    · cases hj)
  rwa [List.length_take_of_le hn] at this
end
end Go.A
namespace Go.A
set_option linter.unusedSimpArgs false
set_option linter.unusedVariables false

inductive QOp where
  | mv (x : Opd)
  | pick (c x y : Opd)
  | bin (op : BinOp) (x y : Opd)
  | eq (k : EqK) (neg : Bool) (x y : Opd)
  | eqs (neg : Bool) (l : List (Nat × Nat)) (x y : Opd)
  | un (op : UnOp) (x : Opd)
  | conv (k : IntKind) (x : Opd)
  | s2s (x : Opd)
  | s2b (x : Opd)
  | b2s (x : Opd)
  | fld (o : Nat) (n : Option Nat) (x : Opd)
  | fa (o : Nat) (x : Opd)
  | ia (s : Nat) (x i : Opd)
  | iaa (len s : Nat) (x i : Opd)
  | idx (x i : Opd)
  | ld (n : Option Nat) (p : Opd)
  | nc (x : Opd)
  | len (x : Opd)
  | lenS (x : Opd)
  | ext (i : Nat) (x : Opd)
  | mki (t : TypeId) (x : Opd)
  | build (z : List AV) (ps : List (Nat × Nat × Opd))
  | bsl (s : Nat) (xs : List Opd)
  | sls (s : Bool × Nat) (x lo hi : Opd)
  | slfrom (s : Bool × Nat) (x lo : Opd)
  | slto (s : Bool × Nat) (x hi : Opd)
  | slall (s : Bool × Nat) (x : Opd)
  | mnx (mx : Bool) (x y : Opd)
  | mkf (fn : Fn) (first cap : List Opd)
  | ta (t : TypeId) (z : AV) (ok : Bool) (x : Opd)
  | box (x : Opd)
  deriving Inhabited

def AV.isAny : AV → Bool
  | .any => true
  | _ => false
def fieldVal (o : Nat) (n : Option Nat) (cs : List AV) : Option AV :=
  match n with
  | some n => if o + n ≤ cs.length then some (.agg ((cs.drop o).take n)) else none
  | none => cs[o]?
def fillC (cells : List AV) : List (Nat × Nat × AV) → Option (List AV)
  | [] => some cells
  | (off, size, v) :: rest =>
    if v.isAny = false ∧ v.cells.length = size ∧ off + size ≤ cells.length then fillC (cells.take off ++ v.cells ++ cells.drop (off + size)) rest else none
/-- Elements of so many cells, each known. -/
def wellSz (s : Nat) : List AV → Bool
  | [] => true
  | x :: xs => !x.isAny && x.cells.length == s && wellSz s xs
def allSz (s : Nat) (xs : List AV) : Bool := xs.all fun x => x.cells.length == s
/-- A part of a slice or of a text. -/
def slV (s : Bool × Nat) (x : AV) (lo hi : Int) : Option AV :=
  if lo < 0 ∨ hi < lo then none else
  match s.1, x with
  | true, .str l => if hi ≤ l.length then some (.str ((l.take hi.toNat).drop lo.toNat)) else none
  | false, .sl _ xs => if hi ≤ xs.length then if lo = 0 then some (.sl .shr (xs.take hi.toNat)) else if allSz s.2 xs then some (.sl .shr ((xs.take hi.toNat).drop lo.toNat)) else none else none
  | false, .msl b o _ c => if hi ≤ c then some (.msl b (if lo = c then o else o + lo.toNat * s.2) (hi.toNat - lo.toNat) (c - lo.toNat)) else none
  | _, _ => none
def bytesOf : List AV → Option (List UInt8)
  | [] => some []
  | .int .u8 n :: xs => match bytesOf xs with
    | some l => some (UInt8.ofNat n.toNat :: l)
    | none => none
  | _ => none
def lenV : AV → Option Nat
  | .str l => some l.length
  | .sl _ xs => some xs.length
  | .msl _ _ n _ => some n
  | _ => none
def intV : AV → Option Int
  | .int _ n => some n
  | _ => none

/-- Two leaves of one kind (0 numbers, 1 bools, 2 texts) held against one another; the leaves of two structs. -/
def leafEq : Nat → AV → AV → Option Bool
  | 0, .int k x, .int k' y => if k = k' then some (decide (x = y)) else none
  | 1, .bool x, .bool y => some (decide (x = y))
  | 2, .str x, .str y => some (decide (x = y))
  | _, _, _ => none
def eqCs : List (Nat × Nat) → List AV → List AV → Option Bool
  | [], _, _ => some true
  | (o, k) :: os, cs, ds => match cs[o]?, ds[o]? with
    | some x, some y => match leafEq k x y, eqCs os cs ds with
      | some r, some q => some (r && q)
      | _, _ => none
    | _, _ => none

def QOp.ev (q : QOp) (a : AFr) (σ : ASt) : Option AV :=
  match q with
  | .mv x => some (x.ev a)
  | .pick c x y => match c.ev a with
    | .bool b => some (if b then x.ev a else y.ev a)
    | _ => none
  | .bin op x y => binV op (x.ev a) (y.ev a)
  | .eq k neg x y => match eqV k (x.ev a) (y.ev a) with
    | some b => some (.bool (if neg then !b else b))
    | none => none
  | .eqs neg l x y => match x.ev a, y.ev a with
    | .agg cs, .agg ds => match eqCs l cs ds with
      | some b => some (.bool (if neg then !b else b))
      | none => none
    | _, _ => none
  | .un op x => match op, x.ev a with
    | .neg, .int k n => some (.int k (k.wrap (0 - n)))
    | .not, .bool b => some (.bool (!b))
    | .xor, .int k n => binI .xor k (if k.signed then -1 else k.max) n
    | _, _ => none
  | .conv k x => match x.ev a with
    | .int _ n => some (.int k (k.wrap n))
    | _ => none
  | .s2s x => match x.ev a with
    | .str l => some (.str l)
    | _ => none
  | .s2b x => match x.ev a with
    | .str l => some (.sl .shr (l.map fun c => .int .u8 c.toNat))
    | _ => none
  | .b2s x => match x.ev a with
    | .sl _ xs => match bytesOf xs with
      | some l => some (.str l)
      | none => none
    | .msl b o n _ => match known σ b with
      | some cs => if o + n ≤ cs.length then match bytesOf ((cs.drop o).take n) with
          | some l => some (.str l)
          | none => none
        else none
      | none => none
    | _ => none
  | .fld o n x => match x.ev a with
    | .agg cs => fieldVal o n cs
    | _ => none
  | .fa o x => match x.ev a with
    | .ptr b p => some (.ptr b (p + o))
    | .imm cs => some (.imm (cs.drop o))
    | _ => none
  | .ia s x i => match x.ev a, intV (i.ev a) with
    | .sl _ xs, some i => if i < 0 then none else match xs[i.toNat]? with
      | some y => if y.cells.length = s then some (.imm y.cells) else none
      | none => none
    | .msl b o n _, some i => if i < 0 then none else if i < n then some (.ptr b (o + i.toNat * s)) else none
    | _, _ => none
  | .iaa m s x i => match x.ev a, intV (i.ev a) with
    | .ptr b o, some i => if i < 0 then none else if i < m then some (.ptr b (o + i.toNat * s)) else none
    | .imm cs, some i => if i < 0 then none else if i < m then some (.imm (cs.drop (i.toNat * s))) else none
    | _, _ => none
  | .idx x i => match x.ev a, intV (i.ev a) with
    | .str l, some i => if i < 0 then none else match l[i.toNat]? with
      | some c => some (.int .u8 c.toNat)
      | none => none
    | _, _ => none
  | .ld n p => match p.ev a with
    | .ptr b o => match known σ b with
      | some cs => fieldVal o n cs
      | none => none
    | .imm cs => fieldVal 0 n cs
    | _ => none
  | .nc x => match x.ev a with
    | .ptr b o => some (.ptr b o)
    | .imm cs => some (.imm cs)
    | _ => none
  | .len x => match x.ev a with
    | .sl _ xs => some (.int .i64 xs.length)
    | .msl _ _ n _ => some (.int .i64 n)
    | _ => none
  | .lenS x => match x.ev a with
    | .str l => some (.int .i64 l.length)
    | _ => none
  | .ext i x => match x.ev a with
    | .tuple vs => vs[i]?
    | _ => none
  | .mki t x => some (.iface t (x.ev a))
  | .build z ps => (fillC z (ps.map fun (o, n, x) => (o, n, x.ev a))).map .agg
  | .bsl s xs => if wellSz s (xs.map (·.ev a)) then some (.sl .full (xs.map (·.ev a))) else none
  | .sls s x lo hi => match intV (lo.ev a), intV (hi.ev a) with
    | some lo, some hi => slV s (x.ev a) lo hi
    | _, _ => none
  | .slfrom s x lo => match intV (lo.ev a), lenV (x.ev a) with
    | some lo, some n => slV s (x.ev a) lo n
    | _, _ => none
  | .slto s x hi => match intV (hi.ev a) with
    | some hi => slV s (x.ev a) 0 hi
    | _ => none
  | .slall s x => match lenV (x.ev a) with
    | some n => slV s (x.ev a) 0 n
    | _ => none
  | .mnx mx x y => match x.ev a, y.ev a with
    | .int k m, .int _ n => some (.int k (if mx then (if n > m then n else m) else (if n < m then n else m)))
    | _, _ => none
  | .mkf fn first cap => some (.func fn (first.map (·.ev a)) (cap.map (·.ev a)))
  | .ta t z ok x => match x.ev a with
    | .iface s v => if s = t then some (if ok then .tuple [v, .bool true] else v) else if ok then some (.tuple [z, .bool false]) else none
    | .nili => if ok then some (.tuple [z, .bool false]) else none
    | _ => none
  | .box x => if (x.ev a).isAny then none else some (.imm (x.ev a).cells)

/-- The size of a variable that is read whole; 'none': one cell. -/
def aggOf (P : Program) (t : TypeId) : Option (Option Nat) :=
  match P.underlying t, P.info? t with
  | some (.struct _), some i => some (some i.size)
  | some (.array _ _), some i => some (some i.size)
  | some _, some _ => some none
  | _, _ => none
def fieldOf (P : Program) (t : TypeId) (f : Nat) : Option (Nat × TypeId) :=
  match P.underlying t with
  | some (.struct fs) => match fs[f]? with
    | some fd => some (fd.offset, fd.type)
    | none => none
  | _ => none
def sizeT (P : Program) (t : TypeId) : Option Nat := (P.info? t).map (·.size)
def zeroT (P : Program) (t : TypeId) : Option AV :=
  match P.info? t with
  | some i => match i.zero with
    | some v => ofVal v
    | none => none
  | none => none
def partsOf (P : Program) (t : TypeId) : List (Nat × Operand) → Option (List (Nat × Nat × Opd))
  | [] => some []
  | (i, x) :: ps => match fieldOf P t i, opd x, partsOf P t ps with
    | some (o, ft), some x', some ps' => match sizeT P ft with
      | some n => some ((o, n, x') :: ps')
      | none => none
    | _, _, _ => none
/-- All fields have sizes. -/
def fieldsOk (P : Program) (t : TypeId) : Bool :=
  match P.underlying t with
  | some (.struct fs) => fs.toList.all fun f => (P.info? f.type).isSome
  | _ => false
def elemsOf (k : Nat) : List (Nat × Operand) → Option (List Opd)
  | [] => some []
  | (i, x) :: ps => if i = k then match opd x, elemsOf (k + 1) ps with
      | some x', some ps' => some (x' :: ps')
      | _, _ => none
    else none

def sliceSz (P : Program) (T : TypeId) : Option (Bool × Nat) :=
  match P.underlying T with
  | some .string => some (true, 0)
  | some (.slice e) => (sizeT P e).map fun n => (false, n)
  | _ => none
/-- The leaves of a struct, where they lie. -/
def leafK (P : Program) (t : TypeId) : Option Nat :=
  match P.underlying t with
  | some (.int _) => some 0
  | some .bool => some 1
  | some .string => some 2
  | _ => none
def eqFs (P : Program) (sub : List Field → Option (List (Nat × Nat))) : List Field → Option (List (Nat × Nat))
  | [] => some []
  | f :: fs => if f.name = "_" then none else match aggOf P f.type, eqFs P sub fs with
    | some none, some r => match leafK P f.type with
      | some k => some ((f.offset, k) :: r)
      | none => none
    | some (some m), some r => match P.underlying f.type with
      | some (.struct gs) => if P.stoodInHeld f.type then none else match sub gs.toList with
        | some l => if l.all fun p => p.1 < m then some (l.map (fun p => (f.offset + p.1, p.2)) ++ r) else none
        | none => none
      | _ => none
    | _, _ => none
def eqOffs (P : Program) : Nat → List Field → Option (List (Nat × Nat))
  | 0 => eqFs P fun _ => none
  | n + 1 => eqFs P (eqOffs P n)
def eqsOf (P : Program) (T : TypeId) : Option (List (Nat × Nat)) :=
  match P.underlying T with
  | some (.struct fs) => if P.stoodInHeld T || P.eqGuardType P.depth T then none else eqOffs P 6 fs.toList
  | _ => none
def isEq : BinOp → Bool
  | .eql | .neq => true
  | _ => false
def compQ (P : Program) (o : Oper) : Option QOp :=
  match o.op with
  | .move x => (opd x).map .mv
  | .assign x => (opd x).map .mv
  | .pick c x y => match opd c, opd x, opd y with
    | some c, some x, some y => some (.pick c x y)
    | _, _, _ => none
  | .binOp op T x y _ => match opd x, opd y with
    | some x, some y => if isEq op then match eqK P T with
        | some k => some (.eq k (op == .neq) x y)
        | none => match eqsOf P T with
          | some l => some (.eqs (op == .neq) l x y)
          | none => some (.bin op x y)
      else some (.bin op x y)
    | _, _ => none
  | .unOp op _ x => (opd x).map (.un op)
  | .convert s d x => match opd x, P.underlying s, P.underlying d with
    | some x, some (.int _), some (.int k) => some (.conv k x)
    | some x, some .string, some .string => some (.s2s x)
    | some x, some (.slice e), some .string => match P.underlying e with
      | some (.int .u8) => some (.b2s x)
      | _ => none
    | _, _, _ => none
  | .field T x f => match opd x, fieldOf P T f with
    | some x, some (o, ft) => (aggOf P ft).map fun n => .fld o n x
    | _, _ => none
  | .fieldAddr T x f => match opd x, fieldOf P T f with
    | some x, some (o, ft) => match sizeT P ft with
      | some (_ + 1) => some (.fa o x)
      | _ => none
    | _, _ => none
  | .indexAddr T x i => match opd x, opd i, P.underlying T with
    | some x, some i, some (.slice e) => (sizeT P e).map fun s => .ia s x i
    | some x, some i, some (.array n e) => (sizeT P e).map fun s => .iaa n s x i
    | _, _, _ => none
  | .index T x i => match opd x, opd i, P.underlying T with
    | some x, some i, some .string => some (.idx x i)
    | _, _, _ => none
  | .load T p => match opd p, aggOf P T with
    | some p, some n => some (.ld n p)
    | _, _ => none
  | .nilCheck x => (opd x).map .nc
  | .extract x i => (opd x).map (.ext i)
  | .makeInterface T x => match opd x, P.underlying T with
    | some _, some (.interface _) => none
    | some x, some _ => some (.mki T x)
    | _, _ => none
  | .build T ps => match zeroT P T, partsOf P T ps.toList with
    | some (.agg z), some ps => if fieldsOk P T then some (.build z ps) else none
    | _, _ => none
  | .buildSlice T n ps => match P.underlying T with
    | some (.slice e) => match P.info? e, elemsOf 0 ps.toList with
      | some i, some xs => if xs.length = n ∧ n * i.size ≤ 16777216 ∧ i.zero.isSome then some (.bsl i.size xs) else none
      | _, _ => none
    | _ => none
  | .slice T x lo hi none => match opd x, sliceSz P T with
    | some x, some s => match lo, hi with
      | some lo, some hi => match opd lo, opd hi with
        | some lo, some hi => some (.sls s x lo hi)
        | _, _ => none
      | some lo, none => (opd lo).map (.slfrom s x)
      | none, some hi => (opd hi).map (.slto s x)
      | none, none => some (.slall s x)
    | _, _ => none
  | .makeFunc fn first cap => match opds first.toList, opds cap.toList with
    | some f, some c => some (.mkf fn f c)
    | _, _ => none
  | .typeAssert x _ t ok => match opd x, P.underlying t, zeroT P t with
    | some _, some (.interface _), _ => none
    | some x, some _, some z => some (.ta t z ok x)
    | _, _, _ => none
  | .call { callee := .builtin .len, args := ⟨[x]⟩, argTypes := ⟨[t]⟩ } => match opd x, P.underlying t with
    | some x, some .string => some (.lenS x)
    | some x, some (.slice _) => some (.len x)
    | _, _ => none
  | .call { callee := .builtin .min, args := ⟨[x, y]⟩, argTypes := _ } => match opd x, opd y with
    | some x, some y => some (.mnx false x y)
    | _, _ => none
  | .call { callee := .builtin .max, args := ⟨[x, y]⟩, argTypes := _ } => match opd x, opd y with
    | some x, some y => some (.mnx true x y)
    | _, _ => none
  | _ => none

/-- Only these look at what may be written. -/
def QOp.reads : QOp → Bool
  | .ld _ _ => true
  | .b2s _ => true
  | _ => false
theorem QOp.ev_still {q : QOp} (h : q.reads = false) (a : AFr) (σ σ' : ASt) : q.ev a σ = q.ev a σ' := by
  cases q <;> first | rfl | cases h
end Go.A
namespace Go.A
set_option linter.unusedSimpArgs false
set_option linter.unusedVariables false
section
variable {P : Program} {σ : ASt} {w : World}

theorem run_und {t : TypeId} {d : TypeDesc} (h : P.underlying t = some d) : (underlying t).run P w = .ok d w := by
  simp [underlying, program, h, Sem.run, bind, Sem.bind, pure]
theorem run_ti {t : TypeId} {i : TypeInfo} (h : P.info? t = some i) : (typeInfo t).run P w = .ok i w := by
  simp [typeInfo, program, h, Sem.run, bind, Sem.bind, pure]
theorem run_so {t : TypeId} {i : TypeInfo} (h : P.info? t = some i) : (sizeOf t).run P w = .ok i.size w := by
  unfold sizeOf; rw [Sem.run_bind, run_ti h]; rfl
theorem run_zv {t : TypeId} {i : TypeInfo} {v : Value} (h : P.info? t = some i) (hz : i.zero = some v) : (zeroValue t).run P w = .ok v w := by
  unfold zeroValue; rw [Sem.run_bind, run_ti h]; simp only [Result.andThen, hz]; rfl

theorem aggOf_spec {t : TypeId} {n : Option Nat} (h : aggOf P t = some n) : ∃ i, P.info? t = some i ∧ (isAgg t).run P w = .ok n.isSome w ∧ ∀ m, n = some m → m = i.size := by
  unfold aggOf at h
  split at h
  · rename_i h1 h2
    injection h with h; subst h
    exact ⟨_, h2, by unfold isAgg; rw [Sem.run_bind, run_und h1]; rfl, fun m hm => by injection hm with hm; exact hm.symm⟩
  · rename_i h1 h2
    injection h with h; subst h
    exact ⟨_, h2, by unfold isAgg; rw [Sem.run_bind, run_und h1]; rfl, fun m hm => by injection hm with hm; exact hm.symm⟩
  · rename_i d i h1 h2 h3 h4
    injection h with h; subst h
    refine ⟨i, h4, ?_, fun m hm => by cases hm⟩
    unfold isAgg; rw [Sem.run_bind, run_und h3]
    simp only [Result.andThen]
    cases d <;> first | rfl | (exfalso; first | exact h1 _ _ h3 h4 | exact h2 _ _ _ h3 h4)
  · cases h

/-- A variable is read. -/
theorem run_loadVar {t : TypeId} {n : Option Nat} (hn : aggOf P t = some n) {b o : Nat} {cs : List AV} {vs : List Value} (hr : Reps σ w cs vs)
    (hc : ∀ j v, vs[j]? = some v → w.cell? ⟨b, o + j, none⟩ = some v) {r : AV} (h : fieldVal 0 n cs = some r) : ∃ u, (loadVar t ⟨b, o, none⟩).run P w = .ok u w ∧ Rep σ w r u := by
  obtain ⟨i, hi, ha, hm⟩ := aggOf_spec (w := w) hn
  cases n with
  | none =>
    simp only [fieldVal] at h
    obtain ⟨v, h1, h2⟩ := hr.get h
    refine ⟨v, ?_, h2⟩
    unfold loadVar
    rw [Sem.run_bind, ha]
    simp only [Result.andThen, Option.isSome, Bool.false_eq_true, if_false]
    have := hc 0 v h1
    rw [Nat.add_zero] at this
    simp [load, Sem.run, this]
  | some m =>
    obtain rfl := hm m rfl
    simp only [fieldVal] at h
    split at h
    · rename_i hle
      injection h with h; subst h
      refine ⟨.agg (vs.take i.size).toArray, ?_, ?_⟩
      · unfold loadVar
        rw [Sem.run_bind, ha]
        simp only [Result.andThen, Option.isSome, if_true]
        rw [Sem.run_bind, run_so hi]
        simp only [Result.andThen]
        rw [Sem.run_bind, run_cells hc (by rw [← hr.length]; omega)]
        rfl
      · have := hr.take i.size
        simp only [List.drop_zero]
        exact .agg (vs := vs.take i.size) this
    · cases h

theorem run_part {t : TypeId} {n : Option Nat} (hn : aggOf P t = some n) {o : Nat} {cs : List AV} {vs : List Value} (hr : Reps σ w cs vs) {r : AV} (h : fieldVal o n cs = some r) :
    ∃ u, (part t ⟨vs⟩ o).run P w = .ok u w ∧ Rep σ w r u := by
  obtain ⟨i, hi, ha, hm⟩ := aggOf_spec (w := w) hn
  cases n with
  | none =>
    simp only [fieldVal] at h
    obtain ⟨v, h1, h2⟩ := hr.get h
    refine ⟨v, ?_, h2⟩
    unfold part
    rw [Sem.run_bind, ha]
    simp only [Result.andThen, Option.isSome, Bool.false_eq_true, if_false]
    have : (⟨vs⟩ : Array Value)[o]? = some v := by simpa using h1
    rw [this]
    rfl
  | some m =>
    obtain rfl := hm m rfl
    simp only [fieldVal] at h
    split at h
    · rename_i hle
      injection h with h; subst h
      refine ⟨_, ?_, .agg ((hr.drop o).take i.size)⟩
      unfold part
      rw [Sem.run_bind, ha]
      simp only [Result.andThen, Option.isSome, if_true]
      rw [Sem.run_bind, run_so hi]
      simp only [Result.andThen]
      have : (⟨vs⟩ : Array Value).extract o (o + i.size) = ⟨(vs.drop o).take i.size⟩ := by
        apply Array.ext'
        simp
      rw [this]
      rfl
    · cases h

theorem run_sureAddr {b o : Nat} : (Instr.sureAddr (.pointer (some ⟨b, o, none⟩))).run P w = .ok ⟨b, o, none⟩ w := rfl

theorem intV_rep {x : AV} {u : Value} {n : Int} (hx : Rep σ w x u) (h : intV x = some n) : ∃ k, u = .int k n ∧ x = .int k n := by
  cases hx <;> simp only [intV, Option.some.injEq, reduceCtorEq] at h
  subst h
  exact ⟨_, rfl, rfl⟩

theorem Rep.cells {x : AV} {u : Value} (h : Rep σ w x u) (ha : x ≠ .any) : Reps σ w x.cells u.cells.toList := by
  cases h with
  | any v => exact absurd rfl ha
  | agg h => exact h
  | bool b => exact .cons (.bool b) .nil
  | int k n => exact .cons (.int k n) .nil
  | str l => exact .cons (.str l) .nil
  | ptr b o => exact .cons (.ptr b o) .nil
  | imm h => exact .cons (.imm h) .nil
  | nilp => exact .cons .nilp .nil
  | slE A c => exact .cons (.slE A c) .nil
  | slN => exact .cons .slN .nil
  | sl h1 h2 h3 h4 h5 => exact .cons (.sl h1 h2 h3 h4 h5) .nil
  | msl b o n c => exact .cons (.msl b o n c) .nil
  | tuple h => exact .cons (.tuple h) .nil
  | iface h => exact .cons (.iface h) .nil
  | nili => exact .cons .nili .nil
  | func h1 h2 => exact .cons (.func h1 h2) .nil
  | nilf => exact .cons .nilf .nil
end
end Go.A
namespace Go.A
set_option linter.unusedSimpArgs false
set_option linter.unusedVariables false
section
variable {P : Program} {σ : ASt} {w : World}

theorem ok_fa {T : TypeId} {f o : Nat} {ft : TypeId} {n : Nat} (hf : fieldOf P T f = some (o, ft)) (hn : sizeT P ft = some (n + 1)) {b p : Nat} :
    (Instr.fieldAt T (.pointer (some ⟨b, p, none⟩)) f).run P w = .ok (.pointer (some ⟨b, p + o, none⟩)) w := by
  unfold fieldOf at hf
  split at hf
  · rename_i fs h1
    split at hf
    · rename_i fd h2
      injection hf with hf
      injection hf with hf1 hf2
      subst hf1 hf2
      unfold sizeT at hn
      cases hi : P.info? fd.type with
      | none => simp [hi] at hn
      | some i =>
        simp only [hi, Option.map_some, Option.some.injEq] at hn
        unfold Instr.fieldAt
        rw [Sem.run_bind, run_und h1]
        simp only [Result.andThen, h2]
        rw [Sem.run_bind, run_sureAddr]
        simp only [Result.andThen]
        unfold fieldPlace
        rw [Sem.run_bind, Sem.run_bind, run_so hi]
        simp only [Result.andThen, hn]
        rw [if_neg (by omega), addr_add']
        rfl
    · cases hf
  · cases hf

theorem ok_field {T : TypeId} {f o : Nat} {ft : TypeId} {n : Option Nat} (hf : fieldOf P T f = some (o, ft)) (hn : aggOf P ft = some n) {cs : List AV} {vs : List Value} (hr : Reps σ w cs vs) {r : AV} (h : fieldVal o n cs = some r) :
    ∃ u, (Instr.field T (.agg ⟨vs⟩) f).run P w = .ok u w ∧ Rep σ w r u := by
  unfold fieldOf at hf
  split at hf
  · rename_i fs h1
    split at hf
    · rename_i fd h2
      injection hf with hf
      injection hf with hf1 hf2
      subst hf1 hf2
      obtain ⟨u, h3, h4⟩ := run_part hn hr h
      refine ⟨u, ?_, h4⟩
      unfold Instr.field
      rw [Sem.run_bind, run_und h1]
      simp only [Result.andThen, h2]
      rw [Sem.run_bind]
      exact h3
    · cases hf
  · cases hf

theorem ok_ia {T e : TypeId} {s : Nat} (hT : P.underlying T = some (.slice e)) (hs : sizeT P e = some s) {b o n c : Nat} {k : IntKind} {i : Int} (h0 : 0 ≤ i) (h1 : i < n) :
    (Instr.indexAt T (.slice (some ⟨b, o, none⟩) n c) (.int k i)).run P w = .ok (.pointer (some ⟨b, o + i.toNat * s, none⟩)) w := by
  unfold sizeT at hs
  cases hi : P.info? e with
  | none => simp [hi] at hs
  | some ti =>
    simp only [hi, Option.map_some, Option.some.injEq] at hs
    subst hs
    unfold Instr.indexAt
    simp only [asIntOf, Sem.run_bind, Sem.run_pure, Result.andThen, run_und hT]
    rw [if_pos ⟨h0, h1⟩]
    rw [Sem.run_bind, run_so hi]
    simp only [Result.andThen, addr_add']
    rfl

theorem ok_iaa {T e : TypeId} {m s : Nat} (hT : P.underlying T = some (.array m e)) (hs : sizeT P e = some s) {b o : Nat} {k : IntKind} {i : Int} (h0 : 0 ≤ i) (h1 : i < m) :
    (Instr.indexAt T (.pointer (some ⟨b, o, none⟩)) (.int k i)).run P w = .ok (.pointer (some ⟨b, o + i.toNat * s, none⟩)) w := by
  unfold sizeT at hs
  cases hi : P.info? e with
  | none => simp [hi] at hs
  | some ti =>
    simp only [hi, Option.map_some, Option.some.injEq] at hs
    subst hs
    unfold Instr.indexAt
    simp only [asIntOf, Sem.run_bind, Sem.run_pure, Result.andThen, run_und hT, run_sureAddr]
    rw [if_pos ⟨h0, h1⟩]
    rw [Sem.run_bind, run_so hi]
    simp only [Result.andThen, addr_add']
    rfl

theorem ok_idx {T : TypeId} (hT : P.underlying T = some .string) {l : List UInt8} {k : IntKind} {i : Int} {c : UInt8} (h0 : 0 ≤ i) (h1 : l[i.toNat]? = some c) :
    (Instr.index T (.string ⟨⟨l⟩⟩) (.int k i)).run P w = .ok (.int .u8 c.toNat) w := by
  have h2 : (⟨⟨l⟩⟩ : ByteArray)[i.toNat]? = some c := by
    have hlt : i.toNat < l.length := (List.getElem?_eq_some_iff.1 h1).1
    have hlt' : i.toNat < (⟨⟨l⟩⟩ : ByteArray).size := hlt
    have h3 := (List.getElem?_eq_some_iff.1 h1).2
    have h4 : (⟨⟨l⟩⟩ : ByteArray)[i.toNat]? = some ((⟨⟨l⟩⟩ : ByteArray)[i.toNat]'hlt') := getElem?_pos (⟨⟨l⟩⟩ : ByteArray) i.toNat hlt'
    rw [h4]
    exact congrArg some h3
  unfold Instr.index
  simp only [asIntOf, Sem.run_bind, Sem.run_pure, Result.andThen, run_und hT]
  rw [if_pos h0, h2]
  rfl

/-- A new block. -/
structure Pushed (w w' : World) (o : Obj) : Prop where
  os : w'.os = w.os
  tape : w'.tape = w.tape
  output : w'.output = w.output
  heap : w'.heap = w.heap.push o
theorem Pushed.alloc (w : World) (o : Obj) : Pushed w (w.alloc o) o := ⟨rfl, rfl, rfl, rfl⟩
theorem Pushed.drew (w : World) (o : Obj) : Pushed w (w.drew.alloc o) o := ⟨rfl, rfl, rfl, rfl⟩
section
variable {w' : World} {ob : Obj} (hp : Pushed w w' ob)
include hp
theorem Pushed.size : w'.heap.size = w.heap.size + 1 := by rw [hp.heap]; simp
theorem Pushed.old {b : Nat} (hb : b < w.heap.size) : w'.heap[b]? = w.heap[b]? := by rw [hp.heap, Array.getElem?_push, if_neg (by omega)]
theorem Pushed.new : w'.heap[w.heap.size]? = some ob := by rw [hp.heap]; simp
theorem Pushed.le {σ' : ASt} (hσ : ∀ b, b < w.heap.size → σ' b = σ b) : Le σ w σ' w' where
  os := hp.os
  tape := hp.tape
  output := hp.output
  size := by rw [hp.size]; omega
  keep b hb hn := ⟨by rw [hσ b hb]; exact hn, hp.old hb⟩
  fix b cs hb hn := ⟨.inr (by rw [hσ b hb]; exact hn), hp.old hb⟩
  tok b f hb hn := ⟨.inr ⟨f, Nat.le_refl _, by rw [hσ b hb]; exact hn⟩, shape_of_heap_eq (hp.old hb), fun o _ => cell_of_heap_eq (hp.old hb) o⟩
end
theorem frozen_of_heap_eq {w w' : World} {b : Nat} (h : w'.heap[b]? = w.heap[b]?) (o : Nat) : w'.frozen? ⟨b, o, none⟩ = w.frozen? ⟨b, o, none⟩ := by
  simp only [World.frozen?, h]
theorem RoleOk.keep {σ' : ASt} {w' : World} (hl : Le σ w σ' w') {b : Nat} {r : Role} (hh : w'.heap[b]? = w.heap[b]?) (h : RoleOk σ w b r) : RoleOk σ' w' b r := by
  cases r with
  | obj cs =>
    obtain ⟨c, T, fr, h1, h2, h3⟩ := h
    exact ⟨c, T, fr, hh.trans h1, h2.mono hl, fun o ho => (frozen_of_heap_eq hh o).trans (h3 o ho)⟩
  | tok f =>
    obtain ⟨c, T, fr, h1, h2, h3⟩ := h
    exact ⟨c, T, fr, hh.trans h1, h2, h3⟩
  | fix cs =>
    obtain ⟨h0, c, T, fr, h1, h2⟩ := h
    exact ⟨h0.mono hl, c, T, fr, hh.trans h1, h2⟩
  | iter l p => exact hh.trans h
  | typ T vs => exact hh.trans h
theorem Pushed.sim {w' : World} {ob : Obj} (hp : Pushed w w' ob) (hs : Sim σ w) : Sim σ w' := fun b r hb =>
  (hs b r hb).keep (hp.le fun _ _ => rfl) (hp.old (hs.lt hb))
theorem Pushed.atNew {w' : World} {c : Array Value} {T : TypeId} {fr : Nat × Nat} (hp : Pushed w w' (.cells c T fr)) (hs : Sim σ w) {as : List AV} {vs : List Value} (hr : Reps σ w as vs)
    (hc : ∀ (j : Nat) (v : Value), vs[j]? = some v → c[j]? = some v) : At σ w' w.heap.size 0 as := by
  refine At.mk' (hr.mono (hp.le fun _ _ => rfl)) (fun j hj => ⟨by rw [hp.size]; omega, .inl (hs.fresh (Nat.le_refl _))⟩) (fun j v hj => ?_)
  simp only [World.cell?, hp.new, Nat.zero_add]
  simpa using hc j v hj

theorem flat_one : ∀ {xs : List AV}, (∀ x ∈ xs, x.cells = [x]) → xs.flatMap AV.cells = xs
  | [], _ => rfl
  | x :: xs, h => by
    rw [List.flatMap_cons, flat_one fun y hy => h y (by simp [hy]), h x (by simp)]
    rfl
theorem Reps.bytes (l : List UInt8) : Reps σ w (l.map fun c => .int .u8 c.toNat) (l.map fun c => Value.int .u8 c.toNat) := by
  induction l with
  | nil => exact .nil
  | cons c l ih => exact .cons (.int _ _) ih

theorem ok_s2b {T D e : TypeId} (hT : P.underlying T = some .string) (hD : P.underlying D = some (.slice e)) (he : P.underlying e = some (.int .u8)) (l : List UInt8) (hs : Sim σ w) :
    ∃ u w', (convert T D (.string ⟨⟨l⟩⟩)).run P w = .ok u w' ∧ Le σ w σ w' ∧ Sim σ w' ∧ Rep σ w' (.sl .shr (l.map fun c => .int .u8 c.toNat)) u := by
  have h := run_bytes_of_string (P := P) w T D e ⟨⟨l⟩⟩ hT hD he
  refine ⟨_, _, h, (Pushed.drew w _).le fun _ _ => rfl, (Pushed.drew w _).sim hs, ?_⟩
  have hA := (Pushed.drew w (.cells (bytesRow ⟨⟨l⟩⟩ (grownCap w l.length 0 e)) e ((bytesRow ⟨⟨l⟩⟩ (grownCap w l.length 0 e)).size, (bytesRow ⟨⟨l⟩⟩ (grownCap w l.length 0 e)).size + 1))).atNew hs (Reps.bytes l) (fun j v hj => by
    unfold bytesRow
    rw [Array.getElem?_append_left (by simpa using (List.getElem?_eq_some_iff.1 hj).1)]
    simpa using hj)
  refine .sl (sz := 1) (Row.unflat (by simp [AV.cells]) ?_) (by simp [ByteArray.size]) (grownCap_ge _ _ _ _) trivial (by simp)
  rw [flat_one (by simp [AV.cells])]
  exact hA

theorem bytesOf_spec : ∀ {xs : List AV} {l : List UInt8}, bytesOf xs = some l → ∃ ns : List Int, xs = ns.map (AV.int .u8) ∧ l = ns.map fun n => UInt8.ofNat n.toNat
  | [], l, h => ⟨[], rfl, by injection h with h; exact h.symm⟩
  | x :: xs, l, h => by
    unfold bytesOf at h
    split at h
    · injection h with h; subst h; rename_i h0; cases h0
    · rename_i n xs' he
      injection he with he1 he2
      subst he1 he2
      split at h
      · rename_i l' hl
        injection h with h; subst h
        obtain ⟨ns, h1, h2⟩ := bytesOf_spec hl
        exact ⟨n :: ns, by simp [h1], by simp [h2]⟩
      · cases h
    · cases h
theorem foldl_push : ∀ (ns : List Int) (s : ByteArray), ns.foldl (fun r n => r.push (UInt8.ofNat n.toNat)) s = ⟨⟨s.data.toList ++ ns.map fun n => UInt8.ofNat n.toNat⟩⟩
  | [], s => by simp
  | n :: ns, s => by
    rw [List.foldl_cons, foldl_push ns]
    simp [ByteArray.push]
theorem Reps.ints {k : IntKind} : ∀ {ns : List Int} {vs : List Value}, Reps σ w (ns.map (AV.int k)) vs → vs = ns.map (Value.int k)
  | [], _, .nil => rfl
  | _ :: _, _, .cons h1 h2 => by
    cases h1
    simp [h2.ints]
theorem flat_ints (k : IntKind) (ns : List Int) : (ns.map (AV.int k)).flatMap AV.cells = ns.map (AV.int k) := by
  exact flat_one (by simp [AV.cells])

theorem ok_b2s {T D e : TypeId} (hT : P.underlying T = some (.slice e)) (he : P.underlying e = some (.int .u8)) (hD : P.underlying D = some .string) {k : SK} {xs : List AV} {l : List UInt8} {v : Value}
    (hr : Rep σ w (.sl k xs) v) (h : bytesOf xs = some l) : (convert T D v).run P w = .ok (.string ⟨⟨l⟩⟩) w := by
  obtain ⟨ns, rfl, rfl⟩ := bytesOf_spec h
  have key : ∀ (A : Addr) (n c : Nat), (loadCells A n).run P w = .ok (ns.map (Value.int .u8)).toArray w → (convert T D (.slice (some A) n c)).run P w = .ok (.string ⟨⟨ns.map fun n => UInt8.ofNat n.toNat⟩⟩) w := by
    intro A n c hl
    rw [run_convert_bytes_string w T D e (some A) n c hT he hD, run_bytesToString w A n c ns hl, foldl_push]
    rfl
  generalize hxs : ns.map (AV.int .u8) = xs at hr
  cases hr with
  | slE A c =>
    have : ns = [] := by simpa using hxs
    subst this
    cases A with
    | none => rw [run_convert_bytes_string w T D e none 0 c hT he hD]; rfl
    | some A => exact key A 0 c rfl
  | slN =>
    have : ns = [] := by simpa using hxs
    subst this
    rw [run_convert_bytes_string w T D e none 0 0 hT he hD]; rfl
  | sl h1 h2 h3 h4 h5 =>
    subst hxs h2
    refine key _ _ _ ?_
    have hA := h1.flat.1
    rw [flat_ints] at hA
    obtain ⟨vs, hr, hc⟩ := hA.vals
    have := run_cells (P := P) (n := (ns.map (AV.int .u8)).length) hc (by rw [hr.length]; exact Nat.le_refl _)
    rw [this]
    obtain rfl := hr.ints
    rw [List.take_of_length_le (by simp)]

theorem ok_b2m {T D e : TypeId} (hT : P.underlying T = some (.slice e)) (he : P.underlying e = some (.int .u8)) (hD : P.underlying D = some .string) {b o n c : Nat} {cs : List AV} {l : List UInt8}
    (hs : Sim σ w) (hk : known σ b = some cs) (hl : o + n ≤ cs.length) (h : bytesOf ((cs.drop o).take n) = some l) : (convert T D (.slice (some ⟨b, o, none⟩) n c)).run P w = .ok (.string ⟨⟨l⟩⟩) w := by
  obtain ⟨ns, h1, rfl⟩ := bytesOf_spec h
  obtain ⟨vs, h2, h3⟩ := hs.known hk
  have h4 := (h2.drop o).take n
  rw [h1] at h4
  have h5 := h4.ints
  have hvl : vs.length = cs.length := h2.length.symm
  have := run_cells (P := P) (w := w) (b := b) (o := o) (n := n) (vs := vs.drop o) (fun j v hj => h3 (o + j) v (by simpa using hj)) (by simp; omega)
  rw [h5] at this
  rw [run_convert_bytes_string w T D e (some ⟨b, o, none⟩) n c hT he hD, run_bytesToString w ⟨b, o, none⟩ n c ns this, foldl_push]
  rfl

theorem run_lenS {T ty : TypeId} {l : List UInt8} (hT : P.underlying T = some .string) : (Builtin.len_ #[T] ty #[.string ⟨⟨l⟩⟩]).run P w = .ok (.int .i64 l.length) w := by
  simp [Builtin.len_, run_und hT, goInt]
  rfl
theorem run_lenL {T ty e : TypeId} {A : Option Addr} {n c : Nat} (hT : P.underlying T = some (.slice e)) : (Builtin.len_ #[T] ty #[.slice A n c]).run P w = .ok (.int .i64 n) w := by
  simp [Builtin.len_, run_und hT, goInt]

theorem run_bounds {isS : Bool} {n c : Nat} {lo hi : Option Value} {l h : Int} (hl : (lo = none ∧ l = 0) ∨ ∃ k, lo = some (.int k l)) (hh : (hi = none ∧ h = n) ∨ ∃ k, hi = some (.int k h))
    (h0 : 0 ≤ l) (h1 : l ≤ h) (h2 : h ≤ c) : (Instr.sliceBounds isS n c lo hi none).run P w = .ok (l.toNat, h.toNat, c) w := by
  have eh : (h.toNat : Int) = h := Int.toNat_of_nonneg (by omega)
  rcases hl with ⟨rfl, rfl⟩ | ⟨k, rfl⟩ <;> rcases hh with ⟨rfl, rfl⟩ | ⟨k', rfl⟩
  · simp [Instr.sliceBounds]
  · simp [Instr.sliceBounds, run_sliceBound, *]
  · simp [Instr.sliceBounds, run_sliceBound, *]
  · have : 0 ≤ h := by omega
    simp [Instr.sliceBounds, run_sliceBound, *]

theorem Row.drop' {b o sz s n : Nat} {xs : List AV} (h : Row σ w b o sz xs) (hs : allSz s xs = true) : Row σ w b (o + n * s) sz (xs.drop n) := by
  cases xs with
  | nil => simpa using .nil _ _ _
  | cons x xs =>
    have : x.cells.length = s := by
      simp only [allSz, List.all_cons, Bool.and_eq_true, beq_iff_eq] at hs
      exact hs.1
    have h2 := (h.at (i := 0) rfl).1
    obtain rfl : s = sz := by omega
    exact h.drop n

theorem ok_sl {T : TypeId} {s : Bool × Nat} {x r : AV} {v : Value} {lo hi : Option Value} {l h : Int} (hT : sliceSz P T = some s) (hx : Rep σ w x v)
    (hl : (lo = none ∧ l = 0) ∨ ∃ k, lo = some (.int k l)) (hh : (hi = none ∧ ∃ n, lenV x = some n ∧ h = n) ∨ ∃ k, hi = some (.int k h)) (hr : slV s x l h = some r) :
    ∃ u, (Instr.sliceAt T v lo hi none).run P w = .ok u w ∧ Rep σ w r u := by
  unfold slV at hr
  split at hr
  · cases hr
  · rename_i hb
    have h0 : 0 ≤ l := by omega
    have h1 : l ≤ h := by omega
    obtain ⟨str, s⟩ := s
    have hu0 : str = false → ∃ e ti, P.underlying T = some (.slice e) ∧ P.info? e = some ti ∧ ti.size = s := by
      rintro rfl
      unfold sliceSz at hT
      split at hT
      · simp at hT
      · rename_i e h1
        unfold sizeT at hT
        cases hi' : P.info? e with
        | none => simp [hi'] at hT
        | some ti => exact ⟨e, ti, h1, hi', by simpa [hi'] using hT⟩
      · cases hT
    have hu1 : str = true → P.underlying T = some .string := by
      rintro rfl
      unfold sliceSz at hT
      split at hT
      · assumption
      · rename_i e h1
        unfold sizeT at hT
        cases hi' : P.info? e with
        | none => simp [hi'] at hT
        | some ti => simp [hi'] at hT
      · cases hT
    have empty : ∀ (A : Option Addr) (c : Nat), (∃ k, x = .sl k []) → ∃ u, (Instr.sliceAt T (.slice A 0 c) lo hi none).run P w = Result.ok u w ∧ Rep σ w r u := by
      rintro A c ⟨k, rfl⟩
      cases str
      case true => simp only [reduceCtorEq] at hr
      obtain ⟨e, ti, hu, hi', rfl⟩ := hu0 rfl
      simp only at hr
      split at hr
      · rename_i hle
        have hl0 : l = 0 := by simp at hle; omega
        have hh0 : h = 0 := by simp at hle; omega
        subst hl0 hh0
        simp only [if_true, List.take_nil, Option.some.injEq] at hr
        subst hr
        have hbd := run_bounds (P := P) (w := w) (isS := true) (n := 0) (c := c) hl (h := 0) (by
          rcases hh with ⟨h3, n', h4, h5⟩ | h3
          · exact .inl ⟨h3, rfl⟩
          · exact .inr h3) h0 h1 (Int.natCast_nonneg _)
        refine ⟨_, ?_, .slE (if c = 0 then A else A.map fun a => a.add 0) c⟩
        simp [Instr.sliceAt, run_und hu, Instr.slice, hbd, run_so hi']
      · cases hr
    cases hx <;> cases str <;> simp only [reduceCtorEq] at hr
    case str.true lst =>
      split at hr
      · rename_i hle
        injection hr with hr; subst hr
        have hu := hu1 rfl
        have hbd := run_bounds (P := P) (w := w) (isS := false) (n := lst.length) (c := lst.length) hl (h := h) (by
          rcases hh with ⟨h3, n, h4, h5⟩ | h3
          · simp only [lenV, Option.some.injEq] at h4; exact .inl ⟨h3, by omega⟩
          · exact .inr h3) h0 h1 hle
        refine ⟨.string ⟨⟨(lst.take h.toNat).drop l.toNat⟩⟩, ?_, .str _⟩
        simp only [Instr.sliceAt, Sem.run_bind, run_und hu, Result.andThen, Instr.slice]
        have hsz : (⟨⟨lst⟩⟩ : ByteArray).size = lst.length := rfl
        simp only [hsz, Option.isSome, Bool.false_eq_true, if_false, Sem.run_pure, Sem.run_bind, hbd, Result.andThen]
        congr 2
        apply ByteArray.ext
        apply Array.ext'
        simp [List.drop_take]
      · cases hr
    case slE.false A c => exact empty A c ⟨_, rfl⟩
    case slN.false => exact empty none 0 ⟨_, rfl⟩
    case msl.false b o n c =>
      obtain ⟨e, ti, hu, hi', rfl⟩ := hu0 rfl
      split at hr
      · rename_i hle
        injection hr with hr; subst hr
        have hbd := run_bounds (P := P) (w := w) (isS := true) (n := n) (c := c) hl (h := h) (by
          rcases hh with ⟨h3, n', h4, h5⟩ | h3
          · simp only [lenV, Option.some.injEq] at h4; exact .inl ⟨h3, by omega⟩
          · exact .inr h3) h0 h1 hle
        refine ⟨_, ?_, .msl _ _ _ _⟩
        simp only [Instr.sliceAt, Sem.run_bind, run_und hu, Result.andThen, Instr.slice, hbd, run_so hi', Sem.run_pure]
        congr 2
        by_cases hlc : l = c
        · subst hlc; simp
        · have : ¬ (c = l.toNat) := by omega
          simp [hlc, this, addr_add']
      · cases hr
    case sl.false k xs b o n c sz h5 h6 h7 h8 h9 =>
      obtain ⟨e, ti, hu, hi', rfl⟩ := hu0 rfl
      subst h6
      split at hr
      · rename_i hle
        have hbd := run_bounds (P := P) (w := w) (isS := true) (n := xs.length) (c := c) hl (h := h) (by
          rcases hh with ⟨h3, n', h4, h5⟩ | h3
          · simp only [lenV, Option.some.injEq] at h4; exact .inl ⟨h3, by omega⟩
          · exact .inr h3) h0 h1 (by omega)
        have hrow : r = .sl .shr ((xs.take h.toNat).drop l.toNat) ∧ (l = 0 ∨ allSz ti.size xs = true) := by
          split at hr
          · rename_i hl0
            injection hr with hr
            subst hl0
            exact ⟨by simpa using hr.symm, .inl rfl⟩
          · split at hr
            · injection hr with hr; exact ⟨hr.symm, .inr (by assumption)⟩
            · cases hr
        obtain ⟨rfl, hsz⟩ := hrow
        refine ⟨.slice (if c = l.toNat then some ⟨b, o, none⟩ else some ⟨b, o + l.toNat * ti.size, none⟩) (h.toNat - l.toNat) (c - l.toNat), ?_, ?_⟩
        · simp only [Instr.sliceAt, Sem.run_bind, run_und hu, Result.andThen, Instr.slice, hbd, run_so hi', Sem.run_pure]
          congr 2
          split <;> simp [addr_add']
        · by_cases hcl : c = l.toNat
          · have e1 : (xs.take h.toNat).drop l.toNat = [] := by
              apply List.drop_eq_nil_of_le
              rw [List.length_take]; omega
            have e2 : h.toNat - l.toNat = 0 := by omega
            rw [e1, e2]
            exact .slE _ _
          · rw [if_neg hcl]
            refine .sl (sz := sz) ?_ (by rw [List.length_drop, List.length_take]; omega) (by omega) trivial h9
            rcases hsz with hl0 | hsz
            · subst hl0
              simpa using h5.take h.toNat
            · refine (h5.take h.toNat).drop' ?_
              simp only [allSz, List.all_eq_true] at hsz ⊢
              exact fun x hx => hsz x (List.mem_of_mem_take hx)
      · cases hr
end
end Go.A
