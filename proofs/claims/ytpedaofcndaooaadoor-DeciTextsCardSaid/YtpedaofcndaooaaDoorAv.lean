/- Abstract values: slices, strings and what is never written again are plain data; memory that is written is named. What a value of the machine has to do with an abstract one, and how worlds go on. No program in sight. -/
import Derived.WalkKit
import Derived.Orders
namespace Go.A
set_option linter.unusedSimpArgs false
set_option linter.unusedVariables false

/-- What is known of a slice's spare places: nothing; there are none; they are of this block, at so many cells an element. -/
inductive SK where
  | shr
  | full
  | tok (b sz : Nat) (T : TypeId)
  deriving DecidableEq, Inhabited

inductive AV where
  | any
  | bool (b : Bool)
  | int (k : IntKind) (n : Int)
  | str (l : List UInt8)
  | ptr (b o : Nat)
  | imm (cs : List AV)
  | nilp
  | sl (k : SK) (xs : List AV)
  | msl (b o n c : Nat)
  | agg (cs : List AV)
  | tuple (vs : List AV)
  | iface (t : TypeId) (v : AV)
  | nili
  | func (fn : Fn) (first captured : List AV)
  | nilf
  deriving Inhabited

def AV.cells : AV → List AV
  | .agg cs => cs
  | a => [a]

/-- What a block is: memory that may be written, holding these; memory that only grows, filled so far; memory that is known and stays. -/
inductive Role where
  | obj (cs : List AV)
  | tok (f : Nat)
  | fix (cs : List AV)
  | iter (l : List UInt8) (p : Nat)
  | typ (T : TypeId) (vs : List Value)
  deriving Inhabited

/-- The roles of blocks; a block without one stays as it is. -/
def ASt := Nat → Option Role
def ASt.set (σ : ASt) (b : Nat) (r : Option Role) : ASt := fun x => if x = b then r else σ x
theorem ASt.set_same (σ : ASt) (b : Nat) (r : Option Role) : σ.set b r b = r := by simp [ASt.set]
theorem ASt.set_ne {σ : ASt} {b x : Nat} {r : Option Role} (h : x ≠ b) : σ.set b r x = σ x := by simp [ASt.set, h]
theorem ASt.set_set (σ : ASt) (b : Nat) (r r' : Option Role) : (σ.set b r).set b r' = σ.set b r' := by funext x; simp only [ASt.set]; split <;> rfl

/-- A cell that is never written again. -/
def Still (σ : ASt) (w : World) (b o : Nat) : Prop := b < w.heap.size ∧ (σ b = none ∨ (∃ cs, σ b = some (.fix cs)) ∨ ∃ f, σ b = some (.tok f) ∧ o < f)

/-- A block that keeps its size. -/
def Stands (σ : ASt) (b : Nat) : Prop := (∀ cs, σ b ≠ some (.obj cs)) ∧ (∀ l p, σ b ≠ some (.iter l p)) ∧ ∀ T cs, σ b ≠ some (.typ T cs)

def SK.ok (σ : ASt) (w : World) (b o n c sz : Nat) : SK → Prop
  | .shr => True
  | .full => c = n
  | .tok t s T => t = b ∧ s = sz ∧ o = 0 ∧ w.shape? b = some (T, c * sz) ∧ Stands σ b

mutual
inductive Rep (σ : ASt) (w : World) : AV → Value → Prop
  | any (v : Value) : Rep σ w .any v
  | bool (b : Bool) : Rep σ w (.bool b) (.bool b)
  | int (k : IntKind) (n : Int) : Rep σ w (.int k n) (.int k n)
  | str (l : List UInt8) : Rep σ w (.str l) (.string ⟨⟨l⟩⟩)
  | ptr (b o : Nat) : Rep σ w (.ptr b o) (.pointer (some ⟨b, o, none⟩))
  | imm {cs : List AV} {b o : Nat} : At σ w b o cs → Rep σ w (.imm cs) (.pointer (some ⟨b, o, none⟩))
  | nilp : Rep σ w .nilp (.pointer none)
  | slE (A : Option Addr) (c : Nat) : Rep σ w (.sl .shr []) (.slice A 0 c)
  | slN : Rep σ w (.sl .full []) (.slice none 0 0)
  | sl {k : SK} {xs : List AV} {b o n c sz : Nat} : Row σ w b o sz xs → n = xs.length → n ≤ c → k.ok σ w b o n c sz → b < w.heap.size → Rep σ w (.sl k xs) (.slice (some ⟨b, o, none⟩) n c)
  | msl (b o n c : Nat) : Rep σ w (.msl b o n c) (.slice (some ⟨b, o, none⟩) n c)
  | agg {cs : List AV} {vs : List Value} : Reps σ w cs vs → Rep σ w (.agg cs) (.agg ⟨vs⟩)
  | tuple {cs : List AV} {vs : List Value} : Reps σ w cs vs → Rep σ w (.tuple cs) (.tuple ⟨vs⟩)
  | iface {t : TypeId} {a : AV} {v : Value} : Rep σ w a v → Rep σ w (.iface t a) (.iface t v)
  | nili : Rep σ w .nili .nilIface
  | func {fn : Fn} {f c : List AV} {f' c' : List Value} : Reps σ w f f' → Reps σ w c c' → Rep σ w (.func fn f c) (.func fn ⟨f'⟩ ⟨c'⟩)
  | nilf : Rep σ w .nilf .nilFunc
inductive Reps (σ : ASt) (w : World) : List AV → List Value → Prop
  | nil : Reps σ w [] []
  | cons {a : AV} {v : Value} {as : List AV} {vs : List Value} : Rep σ w a v → Reps σ w as vs → Reps σ w (a :: as) (v :: vs)
/-- These stand from a place on, and stay. -/
inductive At (σ : ASt) (w : World) : Nat → Nat → List AV → Prop
  | nil (b o : Nat) : At σ w b o []
  | cons {b o : Nat} {a : AV} {v : Value} {as : List AV} : Still σ w b o → w.cell? ⟨b, o, none⟩ = some v → Rep σ w a v → At σ w b (o + 1) as → At σ w b o (a :: as)
inductive Row (σ : ASt) (w : World) : Nat → Nat → Nat → List AV → Prop
  | nil (b o sz : Nat) : Row σ w b o sz []
  | cons {b o sz : Nat} {x : AV} {xs : List AV} : x.cells.length = sz → At σ w b o x.cells → Row σ w b (o + sz) sz xs → Row σ w b o sz (x :: xs)
end

/-- How roles and worlds go on. -/
structure Le (σ : ASt) (w : World) (σ' : ASt) (w' : World) : Prop where
  os : w'.os = w.os
  tape : w'.tape = w.tape
  output : w'.output = w.output
  size : w.heap.size ≤ w'.heap.size
  keep : ∀ b, b < w.heap.size → σ b = none → σ' b = none ∧ w'.heap[b]? = w.heap[b]?
  fix : ∀ b cs, b < w.heap.size → σ b = some (.fix cs) → (σ' b = none ∨ σ' b = some (.fix cs)) ∧ w'.heap[b]? = w.heap[b]?
  tok : ∀ b f, b < w.heap.size → σ b = some (.tok f) → (σ' b = none ∨ ∃ f', f ≤ f' ∧ σ' b = some (.tok f')) ∧ w'.shape? b = w.shape? b ∧ ∀ o, o < f → w'.cell? ⟨b, o, none⟩ = w.cell? ⟨b, o, none⟩

theorem Le.refl (σ : ASt) (w : World) : Le σ w σ w :=
  ⟨rfl, rfl, rfl, Nat.le_refl _, fun _ _ h => ⟨h, rfl⟩, fun _ _ _ h => ⟨.inr h, rfl⟩, fun _ f _ h => ⟨.inr ⟨f, Nat.le_refl _, h⟩, rfl, fun _ _ => rfl⟩⟩

theorem cell_of_heap_eq {w w' : World} {b : Nat} (h : w'.heap[b]? = w.heap[b]?) (o : Nat) : w'.cell? ⟨b, o, none⟩ = w.cell? ⟨b, o, none⟩ := by
  simp only [World.cell?, h]
theorem shape_of_heap_eq {w w' : World} {b : Nat} (h : w'.heap[b]? = w.heap[b]?) : w'.shape? b = w.shape? b := by
  simp only [World.shape?, h]

theorem Le.trans {σ σ' σ'' : ASt} {w w' w'' : World} (h : Le σ w σ' w') (k : Le σ' w' σ'' w'') : Le σ w σ'' w'' where
  os := k.os.trans h.os
  tape := k.tape.trans h.tape
  output := k.output.trans h.output
  size := Nat.le_trans h.size k.size
  keep b hb hn := by
    obtain ⟨h1, h2⟩ := h.keep b hb hn
    obtain ⟨h3, h4⟩ := k.keep b (Nat.lt_of_lt_of_le hb h.size) h1
    exact ⟨h3, h4.trans h2⟩
  fix b cs hb hn := by
    obtain ⟨h1, h2⟩ := h.fix b cs hb hn
    have hb' := Nat.lt_of_lt_of_le hb h.size
    rcases h1 with h1 | h1
    · obtain ⟨h3, h4⟩ := k.keep b hb' h1
      exact ⟨.inl h3, h4.trans h2⟩
    · obtain ⟨h3, h4⟩ := k.fix b cs hb' h1
      exact ⟨h3, h4.trans h2⟩
  tok b f hb hn := by
    obtain ⟨h1, h2, h3⟩ := h.tok b f hb hn
    have hb' := Nat.lt_of_lt_of_le hb h.size
    rcases h1 with h1 | ⟨f', hf, h1⟩
    · obtain ⟨h4, h5⟩ := k.keep b hb' h1
      exact ⟨.inl h4, (shape_of_heap_eq h5).trans h2, fun o ho => (cell_of_heap_eq h5 o).trans (h3 o ho)⟩
    · obtain ⟨h4, h5, h6⟩ := k.tok b f' hb' h1
      refine ⟨?_, h5.trans h2, fun o ho => (h6 o (by omega)).trans (h3 o ho)⟩
      rcases h4 with h4 | ⟨f'', hf', h4⟩
      · exact .inl h4
      · exact .inr ⟨f'', by omega, h4⟩

section
variable {σ σ' : ASt} {w w' : World}

theorem Still.mono {b o : Nat} (h : Le σ w σ' w') (hs : Still σ w b o) : Still σ' w' b o ∧ w'.cell? ⟨b, o, none⟩ = w.cell? ⟨b, o, none⟩ := by
  obtain ⟨hb, hs⟩ := hs
  have hb' := Nat.lt_of_lt_of_le hb h.size
  rcases hs with hn | ⟨cs, hn⟩ | ⟨f, hn, ho⟩
  · obtain ⟨h1, h2⟩ := h.keep b hb hn
    exact ⟨⟨hb', .inl h1⟩, cell_of_heap_eq h2 o⟩
  · obtain ⟨h1, h2⟩ := h.fix b cs hb hn
    exact ⟨⟨hb', h1.imp id fun h => .inl ⟨cs, h⟩⟩, cell_of_heap_eq h2 o⟩
  · obtain ⟨h1, h2, h3⟩ := h.tok b f hb hn
    refine ⟨⟨hb', ?_⟩, h3 o ho⟩
    rcases h1 with h1 | ⟨f', hf, h1⟩
    · exact .inl h1
    · exact .inr (.inr ⟨f', h1, by omega⟩)

theorem Le.stands (h : Le σ w σ' w') {b : Nat} (hb : b < w.heap.size) (hs : Stands σ b) : Stands σ' b := by
  have key : ∀ r, σ' b = some r → (∃ cs, r = .fix cs) ∨ ∃ f, r = .tok f := by
    intro r hc
    cases hr : σ b with
    | none => rw [(h.keep b hb hr).1] at hc; cases hc
    | some r =>
      cases r with
      | obj cs => exact absurd hr (hs.1 cs)
      | iter l p => exact absurd hr (hs.2.1 l p)
      | typ T cs => exact absurd hr (hs.2.2 T cs)
      | tok f => rcases (h.tok b f hb hr).1 with h1 | ⟨f', _, h1⟩ <;> rw [h1] at hc <;> cases hc; exact .inr ⟨_, rfl⟩
      | fix cs => rcases (h.fix b cs hb hr).1 with h1 | h1 <;> rw [h1] at hc <;> cases hc; exact .inl ⟨_, rfl⟩
  refine ⟨?_, ?_, ?_⟩
  · intro cs hc
    rcases key _ hc with ⟨_, h⟩ | ⟨_, h⟩ <;> cases h
  · intro l p hc
    rcases key _ hc with ⟨_, h⟩ | ⟨_, h⟩ <;> cases h
  · intro l p hc
    rcases key _ hc with ⟨_, h⟩ | ⟨_, h⟩ <;> cases h
theorem Le.shape (h : Le σ w σ' w') {b : Nat} (hb : b < w.heap.size) (hs : Stands σ b) : w'.shape? b = w.shape? b := by
  cases hr : σ b with
  | none => exact shape_of_heap_eq (h.keep b hb hr).2
  | some r =>
    cases r with
    | obj cs => exact absurd hr (hs.1 cs)
    | iter l p => exact absurd hr (hs.2.1 l p)
    | typ T cs => exact absurd hr (hs.2.2 T cs)
    | tok f => exact (h.tok b f hb hr).2.1
    | fix cs => exact shape_of_heap_eq (h.fix b cs hb hr).2
theorem SK.ok_mono (h : Le σ w σ' w') {k : SK} {b o n c sz : Nat} (hb : b < w.heap.size) (hk : k.ok σ w b o n c sz) : k.ok σ' w' b o n c sz := by
  cases k <;> simp only [SK.ok] at hk ⊢
  · exact hk
  · obtain ⟨h1, h2, h3, h4, h5⟩ := hk
    exact ⟨h1, h2, h3, by rw [h.shape hb h5]; exact h4, h.stands hb h5⟩

mutual
theorem Rep.mono (h : Le σ w σ' w') : ∀ {a : AV} {v : Value}, Rep σ w a v → Rep σ' w' a v
  | _, _, .any v => .any v
  | _, _, .bool b => .bool b
  | _, _, .int k n => .int k n
  | _, _, .str l => .str l
  | _, _, .ptr b o => .ptr b o
  | _, _, .imm h1 => .imm (h1.mono h)
  | _, _, .nilp => .nilp
  | _, _, .slE A c => .slE A c
  | _, _, .slN => .slN
  | _, _, .sl h1 h2 h3 h4 h5 => .sl (h1.mono h) h2 h3 (SK.ok_mono h h5 h4) (Nat.lt_of_lt_of_le h5 h.size)
  | _, _, .msl b o n c => .msl b o n c
  | _, _, .agg h1 => .agg (h1.mono h)
  | _, _, .tuple h1 => .tuple (h1.mono h)
  | _, _, .iface h1 => .iface (h1.mono h)
  | _, _, .nili => .nili
  | _, _, .func h1 h2 => .func (h1.mono h) (h2.mono h)
  | _, _, .nilf => .nilf
theorem Reps.mono (h : Le σ w σ' w') : ∀ {as : List AV} {vs : List Value}, Reps σ w as vs → Reps σ' w' as vs
  | _, _, .nil => .nil
  | _, _, .cons h1 h2 => .cons (h1.mono h) (h2.mono h)
theorem At.mono (h : Le σ w σ' w') : ∀ {b o : Nat} {as : List AV}, At σ w b o as → At σ' w' b o as
  | _, _, _, .nil b o => .nil b o
  | _, _, _, .cons h1 h2 h3 h4 => .cons (h1.mono h).1 ((h1.mono h).2.trans h2) (h3.mono h) (h4.mono h)
theorem Row.mono (h : Le σ w σ' w') : ∀ {b o sz : Nat} {as : List AV}, Row σ w b o sz as → Row σ' w' b o sz as
  | _, _, _, _, .nil b o sz => .nil b o sz
  | _, _, _, _, .cons h1 h2 h3 => .cons h1 (h2.mono h) (h3.mono h)
end

/-- What the roles say of the world. -/
def RoleOk (σ : ASt) (w : World) (b : Nat) : Role → Prop
  | .obj cs => ∃ c T fr, w.heap[b]? = some (.cells c T fr) ∧ Reps σ w cs (c.toList.take cs.length) ∧ ∀ o, o < c.size → w.frozen? ⟨b, o, none⟩ = false
  | .tok f => ∃ c T fr, w.heap[b]? = some (.cells c T fr) ∧ f ≤ c.size ∧ fr.2 ≤ f
  | .fix cs => At σ w b 0 cs ∧ ∃ c T fr, w.heap[b]? = some (.cells c T fr) ∧ c.size = cs.length
  | .iter l p => w.heap[b]? = some (.stringIter ⟨⟨l⟩⟩ p)
  | .typ T vs => w.heap[b]? = some (.cells ⟨vs⟩ T (0, 0))
def Sim (σ : ASt) (w : World) : Prop := ∀ b r, σ b = some r → RoleOk σ w b r

theorem RoleOk.lt {b : Nat} {r : Role} (h : RoleOk σ w b r) : b < w.heap.size := by
  cases r with
  | obj cs => obtain ⟨c, T, fr, h1, _⟩ := h; exact (Array.getElem?_eq_some_iff.1 h1).1
  | tok f => obtain ⟨c, T, fr, h1, _⟩ := h; exact (Array.getElem?_eq_some_iff.1 h1).1
  | fix cs => obtain ⟨_, c, T, fr, h1, _⟩ := h; exact (Array.getElem?_eq_some_iff.1 h1).1
  | iter l p => exact (Array.getElem?_eq_some_iff.1 h).1
  | typ T vs => exact (Array.getElem?_eq_some_iff.1 h).1
theorem Sim.lt (h : Sim σ w) {b : Nat} {r : Role} (hb : σ b = some r) : b < w.heap.size := (h b r hb).lt
theorem Sim.fresh (h : Sim σ w) {b : Nat} (hb : w.heap.size ≤ b) : σ b = none := by
  cases hr : σ b with
  | none => rfl
  | some r => have := h.lt hr; omega

/-- The frame. -/
def AFr := Nat → AV
def AFr.upd (a : AFr) (t : Nat) (v : AV) : AFr := fun s => if s = t then v else a s
def AFr.put (a : AFr) (t : Option Nat) (v : AV) : AFr := match t with | some t => a.upd t v | none => a
structure FRel (n : Nat) (σ : ASt) (w : World) (a : AFr) (act : Act) : Prop where
  size : act.tmps.size = n
  defers : act.defers = []
  rep : ∀ t, t < n → Rep σ w (a t) (act.tmps.getD t undef)
theorem FRel.mono {n : Nat} {a : AFr} {act : Act} (h : Le σ w σ' w') (hf : FRel n σ w a act) : FRel n σ' w' a act :=
  ⟨hf.size, hf.defers, fun t ht => (hf.rep t ht).mono h⟩
theorem FRel.put {n : Nat} {a : AFr} {act : Act} {v : AV} {u : Value} (hf : FRel n σ w a act) (t : Option Nat) (ht : ∀ d, t = some d → d < n) (hv : Rep σ w v u) : FRel n σ w (a.put t v) (act.put t u) := by
  cases t with
  | none => exact hf
  | some d =>
    have hd := ht d rfl
    refine ⟨by simp [Act.put, hf.size], hf.defers, fun s hs => ?_⟩
    simp only [AFr.put, AFr.upd, Act.put]
    by_cases h : s = d
    · subst h
      have : s < act.tmps.size := by rw [hf.size]; exact hs
      simpa [this] using hv
    · have : (act.tmps.setIfInBounds d u).getD s undef = act.tmps.getD s undef := by
        simp [Array.getElem?_setIfInBounds_ne (Ne.symm h)]
      rw [this]
      simpa [h] using hf.rep s hs
end
end Go.A
