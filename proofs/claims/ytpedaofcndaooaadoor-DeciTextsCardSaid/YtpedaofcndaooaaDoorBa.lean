/- Operations that write or make memory, and calls: abstractly. -/
import Derived.Test.YtpedaofcndaooaaDoorAz
namespace Go.A
set_option linter.unusedSimpArgs false
set_option linter.unusedVariables false

/-- A call, abstractly. -/
def ACalls (P : Program) (f : FuncId) (args : List AV) (σ : ASt) (R : AV → ASt → Prop) : Prop :=
  ∀ (w : World) (vs : List Value), Sim σ w → Reps σ w args vs → Calls P f ⟨vs⟩ w fun e w' => ∃ u r σ', e = .returned u ∧ R r σ' ∧ Le σ w σ' w' ∧ Sim σ' w' ∧ Rep σ' w' r u
theorem ACalls.mono {P : Program} {f : FuncId} {args : List AV} {σ : ASt} {R R' : AV → ASt → Prop} (h : ACalls P f args σ R) (hr : ∀ r σ', R r σ' → R' r σ') : ACalls P f args σ R' :=
  fun w vs hs ha => (h w vs hs ha).mono fun _ _ ⟨u, r, σ', he, h1, h2⟩ => ⟨u, r, σ', he, hr _ _ h1, h2⟩

inductive EOp where
  | store (n : Nat) (p x : Opd)
  | box (x : Opd)
  | alloc (z : List AV)
  | allocT (T : TypeId)
  | app (e : TypeId) (s bytes : Nat) (z : List AV) (x y : Opd)
  | apps (e : TypeId) (x y : Opd)
  | call (f : FuncId) (args : List Opd)
  | callv (x : Opd) (args : List Opd)
  | s2b (x : Opd)
  | mks (e : TypeId) (bytes : Nat) (z : AV) (n m : Opd)
  | rng (x : Opd)
  | nxt (x : Opd)
  | dead
  deriving Inhabited

def AV.leaf : AV → Bool
  | .any | .agg _ | .tuple _ => false
  | _ => true
def leaves : List AV → Bool
  | [] => true
  | x :: xs => x.leaf && leaves xs
def splice (cs : List AV) (o n : Nat) (vs : List AV) : List AV := cs.take o ++ vs ++ cs.drop (o + n)
/-- May this be appended to, at so many cells an element? -/
def canApp (σ : ASt) (k : SK) (xs : List AV) (s : Nat) : Prop :=
  match k with
  | .full => wellSz s xs = true
  | .tok b s' _ => s' = s ∧ σ b = some (.tok (xs.length * s))
  | .shr => False
def dropTok (σ : ASt) : SK → ASt
  | .tok b _ _ => σ.set b none
  | _ => σ
/-- A row of one's own that has grown: what it has, and noughts. -/
def ownRow (s : Nat) (z cs : List AV) (n c : Nat) : List AV := cs ++ (List.range ((c - n) * s)).map fun i => z.getD (i % s) .any
/-- What is behind an append. -/
inductive App (e : TypeId) (σ : ASt) (k : SK) (s n m : Nat) : SK → ASt → Prop
  | none : m = 0 → App e σ k s n m k σ
  | room (b : Nat) (T : TypeId) : k = .tok b s T → App e σ k s n m k (σ.set b (some (.tok ((n + m) * s))))
  | grow (b : Nat) : σ b = none → (∀ b' T, k = .tok b' s T → b ≠ b') → App e σ k s n m (.tok b s e) ((dropTok σ k).set b (some (.tok ((n + m) * s))))

def okFn (P : Program) (f : FuncId) : Bool :=
  match P.funcs[f]? with
  | some fn => fn.body.isSome && fn.name != "runtime.NumGoroutine"
  | none => false

def EOp.step (P : Program) (e : EOp) (a : AFr) (σ : ASt) (K : AV → ASt → Prop) : Prop :=
  match e with
  | .store n p x => match p.ev a with
    | .ptr b o => match σ b with
      | some (.obj cs) => leaves (x.ev a).cells = true ∧ (x.ev a).cells.length = n ∧ o + n ≤ cs.length ∧ K .any (σ.set b (some (.obj (splice cs o n (x.ev a).cells))))
      | _ => False
    | _ => False
  | .box x => (x.ev a).isAny = false ∧ ∀ b, σ b = none → K (.ptr b 0) (σ.set b (some (.obj (x.ev a).cells)))
  | .alloc z => ∀ b, σ b = none → K (.ptr b 0) (σ.set b (some (.obj z)))
  | .allocT T => ∀ b, σ b = none → K (.ptr b 0) (σ.set b (some (.typ T [.pointer none, .slice none 0 0])))
  | .app e s bytes z x y => match x.ev a, y.ev a with
    | .sl k xs, .sl _ ys => canApp σ k xs s ∧ wellSz s ys = true ∧ leaves (ys.flatMap AV.cells) = true ∧ (xs.length + ys.length) * bytes ≤ 140737488355328 ∧ xs.length + ys.length ≤ 4611686018427387904 ∧
        ((∀ k' σ', App e σ k s xs.length ys.length k' σ' → K (.sl k' (xs ++ ys)) σ') ∨
          (k = .full ∧ 0 < ys.length ∧ ∀ b c, σ b = none → xs.length + ys.length ≤ c → K (.msl b 0 (xs.length + ys.length) c) (σ.set b (some (.obj (ownRow s z (xs.flatMap AV.cells ++ ys.flatMap AV.cells) (xs.length + ys.length) c))))))
    | .msl b o n c, .sl _ ys => match σ b with
      | some (.obj cs) => wellSz s ys = true ∧ leaves (ys.flatMap AV.cells) = true ∧ (n + ys.length) * bytes ≤ 140737488355328 ∧ n + ys.length ≤ 4611686018427387904 ∧ o + n * s ≤ cs.length ∧
          (n + ys.length ≤ c → o + (n + ys.length) * s ≤ cs.length ∧ K (.msl b o (n + ys.length) c) (σ.set b (some (.obj (splice cs (o + n * s) (ys.length * s) (ys.flatMap AV.cells)))))) ∧
          (c < n + ys.length → ∀ b' c', σ b' = none → n + ys.length ≤ c' → K (.msl b' 0 (n + ys.length) c') (σ.set b' (some (.obj (ownRow s z ((cs.drop o).take (n * s) ++ ys.flatMap AV.cells) (n + ys.length) c')))))
      | _ => False
    | _, _ => False
  | .apps e x y => match x.ev a, y.ev a with
    | .sl k xs, .str l => canApp σ k xs 1 ∧ xs.length + l.length ≤ 140737488355328 ∧
        ∀ k' σ', App e σ k 1 xs.length l.length k' σ' → K (.sl k' (xs ++ l.map fun c => .int .u8 c.toNat)) σ'
    | _, _ => False
  | .call f args => ACalls P f (args.map (·.ev a)) σ K
  | .callv x args => match x.ev a with
    | .func (.func f) first cap => okFn P f = true ∧ ACalls P f (first ++ args.map (·.ev a) ++ cap) σ K
    | _ => False
  | .s2b x => match x.ev a with
    | .str l => K (.sl .shr (l.map fun c => .int .u8 c.toNat)) σ ∨ ∀ b c, σ b = none → l.length ≤ c → K (.msl b 0 l.length c) (σ.set b (some (.obj (l.map fun c => .int .u8 c.toNat))))
    | _ => False
  | .mks e bytes z n m => match n.ev a, m.ev a with
    | .int _ n, .int _ m => 0 ≤ n ∧ n ≤ m ∧ m ≤ 4611686018427387904 ∧ (bytes : Int) * m ≤ 281474976710656 ∧
        ((∀ b, σ b = none → K (.msl b 0 n.toNat m.toNat) (σ.set b (some (.obj (List.replicate m.toNat z))))) ∨ (n = 0 ∧ ∀ b, σ b = none → K (.sl (.tok b 1 e) []) (σ.set b (some (.tok 0)))))
    | _, _ => False
  | .rng x => match x.ev a with
    | .str l => ∀ b, σ b = none → K (.ptr b 0) (σ.set b (some (.iter l 0)))
    | _ => False
  | .nxt x => match x.ev a with
    | .ptr b 0 => match σ b with
      | some (.iter l p) => if p < l.length then K (.tuple [.bool true, .int .i64 p, .int .i32 (Utf8.decode ⟨⟨l⟩⟩ p).1]) (σ.set b (some (.iter l (p + (Utf8.decode ⟨⟨l⟩⟩ p).2))))
          else K (.tuple [.bool false]) σ
      | _ => False
    | _ => False
  | .dead => False

theorem EOp.step_mono {P : Program} {e : EOp} {a : AFr} {σ : ASt} {K K' : AV → ASt → Prop} (h : e.step P a σ K) (hk : ∀ v σ', K v σ' → K' v σ') : e.step P a σ K' := by
  cases e <;> simp only [EOp.step] at h ⊢
  case store n p x =>
    split at h
    · split at h
      · exact ⟨h.1, h.2.1, h.2.2.1, hk _ _ h.2.2.2⟩
      · exact h.elim
    · exact h.elim
  case box x => exact ⟨h.1, fun b hb => hk _ _ (h.2 b hb)⟩
  case alloc z => exact fun b hb => hk _ _ (h b hb)
  case allocT T => exact fun b hb => hk _ _ (h b hb)
  case app e s bytes z x y =>
    split at h
    · obtain ⟨h1, h2, h3, h4, h5, h6⟩ := h
      exact ⟨h1, h2, h3, h4, h5, h6.imp (fun h6 k' σ' hA => hk _ _ (h6 k' σ' hA)) fun h6 => ⟨h6.1, h6.2.1, fun b c hb hc => hk _ _ (h6.2.2 b c hb hc)⟩⟩
    · split at h
      · obtain ⟨h1, h2, h3, h4, h5, h6, h7⟩ := h
        exact ⟨h1, h2, h3, h4, h5, fun hr => ⟨(h6 hr).1, hk _ _ (h6 hr).2⟩, fun hg b' c' hb hc => hk _ _ (h7 hg b' c' hb hc)⟩
      · exact h.elim
    · exact h.elim
  case apps e x y =>
    split at h
    · obtain ⟨h1, h2, h6⟩ := h
      exact ⟨h1, h2, fun k' σ' hA => hk _ _ (h6 k' σ' hA)⟩
    · exact h.elim
  case call f args => exact h.mono hk
  case callv x args =>
    split at h
    · exact ⟨h.1, h.2.mono hk⟩
    · exact h.elim
  case s2b x =>
    split at h
    · exact h.imp (hk _ _) fun h b c hb hc => hk _ _ (h b c hb hc)
    · exact h.elim
  case mks e bytes z n m =>
    split at h
    · obtain ⟨h1, h2, h3, h4, h5⟩ := h
      exact ⟨h1, h2, h3, h4, h5.imp (fun h b hb => hk _ _ (h b hb)) fun h => ⟨h.1, fun b hb => hk _ _ (h.2 b hb)⟩⟩
    · exact h.elim
  case rng x =>
    split at h
    · exact fun b hb => hk _ _ (h b hb)
    · exact h.elim
  case nxt x =>
    split at h
    · split at h
      · rename_i l p _
        by_cases hp : p < l.length
        · rw [if_pos hp] at h ⊢; exact hk _ _ h
        · rw [if_neg hp] at h ⊢; exact hk _ _ h
      · exact h.elim
    · exact h.elim

def compE (P : Program) (o : Oper) : Option EOp :=
  match o.op with
  | .store T p x => match opd p, opd x, sizeT P T with
    | some p, some x, some n => some (.store n p x)
    | _, _, _ => none
  | .box _ x => (opd x).map .box
  | .alloc T => match P.info? T with
    | some i => match i.zero with
      | some (.agg ⟨[.pointer none, .slice none 0 0]⟩) => some (.allocT T)
      | _ => match zeroT P T with
        | some z => some (.alloc z.cells)
        | none => none
    | none => none
  | .call { callee := .builtin .append, args := ⟨[x, y]⟩, argTypes := ⟨[t, u]⟩ } => match opd x, opd y, P.underlying t with
    | some x, some y, some (.slice e) => match P.info? e, P.underlying u with
      | some i, some (.slice _) => match i.zero with
        | some z => if 0 < i.size ∧ z.cells.size = i.size ∧ (ofVal z).isSome = true then some (.app e i.size i.bytes (((ofVal z).map AV.cells).getD []) x y) else none
        | none => none
      | some i, some .string => match i.zero with
        | some z => if i.size = 1 ∧ i.bytes = 1 ∧ z.cells.size = 1 then some (.apps e x y) else none
        | none => none
      | _, _ => none
    | _, _, _ => none
  | .call { callee := .value f, args := args, argTypes := _ } => match f, opds args.toList with
    | .func f, some args => if okFn P f then some (.call f args) else none
    | x, some args => (opd x).map fun x => .callv x args
    | _, _ => none
  | .convert s d x => match opd x, P.underlying s, P.underlying d with
    | some x, some .string, some (.slice e) => match P.underlying e with
      | some (.int .u8) => some (.s2b x)
      | _ => none
    | _, _, _ => none
  | .makeSlice t n m => match P.underlying t, opd n, opd m with
    | some (.slice e), some n, some m => match P.info? e, zeroT P e with
      | some i, some z => if i.size = 1 ∧ z.cells.length = 1 ∧ z.isAny = false then some (.mks e i.bytes (z.cells.headD .any) n m) else none
      | _, _ => none
    | _, _, _ => none
  | .range t x => match P.underlying t, opd x with
    | some .string, some x => some (.rng x)
    | _, _ => none
  | .next x true => (opd x).map .nxt
  | .panic _ => some .dead
  | _ => none

section
variable {P : Program} {σ : ASt} {w : World}

/-- One block is written. -/
structure Wrote (w w' : World) (b : Nat) (c c' : Array Value) (T : TypeId) (fr : Nat × Nat) : Prop where
  os : w'.os = w.os
  tape : w'.tape = w.tape
  output : w'.output = w.output
  size : w'.heap.size = w.heap.size
  other : ∀ x, x ≠ b → w'.heap[x]? = w.heap[x]?
  old : w.heap[b]? = some (.cells c T fr)
  new : w'.heap[b]? = some (.cells c' T fr)
  len : c'.size = c.size

theorem Wrote.setCell {b o : Nat} {c : Array Value} {T : TypeId} {fr : Nat × Nat} (h : w.heap[b]? = some (.cells c T fr)) (v : Value) : Wrote w (w.setCell ⟨b, o, none⟩ v) b c (c.setIfInBounds o v) T fr where
  os := rfl
  tape := rfl
  output := rfl
  size := by simp [World.setCell]
  other x hx := by simp only [World.setCell, Array.getElem?_modify]; rw [if_neg (Ne.symm hx)]
  old := h
  new := by simp [World.setCell, Array.getElem?_modify, h]
  len := by simp
theorem Wrote.trans {w1 w2 w3 : World} {b : Nat} {c c' c'' : Array Value} {T : TypeId} {fr : Nat × Nat} (h : Wrote w1 w2 b c c' T fr) (k : Wrote w2 w3 b c' c'' T fr) : Wrote w1 w3 b c c'' T fr :=
  ⟨k.os.trans h.os, k.tape.trans h.tape, k.output.trans h.output, k.size.trans h.size, fun x hx => (k.other x hx).trans (h.other x hx), h.old, k.new, k.len.trans h.len⟩
theorem Wrote.refl {b : Nat} {c : Array Value} {T : TypeId} {fr : Nat × Nat} (h : w.heap[b]? = some (.cells c T fr)) : Wrote w w b c c T fr :=
  ⟨rfl, rfl, rfl, rfl, fun _ _ => rfl, h, h, rfl⟩
theorem Wrote.setCells {b : Nat} {T : TypeId} {fr : Nat × Nat} : ∀ (vs : List Value) (o : Nat) (w : World) (cs : List Value), w.heap[b]? = some (.cells ⟨cs⟩ T fr) → o + vs.length ≤ cs.length →
    Wrote w (w.setCells b o vs) b ⟨cs⟩ ⟨cs.take o ++ vs ++ cs.drop (o + vs.length)⟩ T fr
  | [], o, w, cs, h, hl => by
    have : cs.take o ++ [] ++ cs.drop (o + ([] : List Value).length) = cs := by simp
    rw [this]
    exact Wrote.refl h
  | v :: vs, o, w, cs, h, hl => by
    simp only [List.length_cons] at hl
    have h1 := Wrote.setCell (w := w) (o := o) h v
    have h2 := Wrote.setCells vs (o + 1) (w.setCell ⟨b, o, none⟩ v) (cs.set o v) (by have := h1.new; simpa using this) (by simp; omega)
    have e : (cs.set o v).take (o + 1) ++ vs ++ (cs.set o v).drop (o + 1 + vs.length) = cs.take o ++ (v :: vs) ++ cs.drop (o + (v :: vs).length) := by
      have hlt : o < cs.length := by omega
      rw [List.take_set, List.drop_set, if_pos (by omega), List.take_succ_eq_append_getElem hlt, List.set_append_right _ _ (by simp; omega)]
      simp [Nat.min_eq_left (Nat.le_of_lt hlt), Nat.add_assoc, Nat.add_comm 1]
    rw [e] at h2
    have h1' : Wrote w (w.setCell ⟨b, o, none⟩ v) b ⟨cs⟩ ⟨cs.set o v⟩ T fr := by simpa using h1
    exact h1'.trans h2

section
variable {w' : World} {b : Nat} {c c' : Array Value} {T : TypeId} {fr : Nat × Nat} (hw : Wrote w w' b c c' T fr)
include hw
theorem Wrote.frozen (x o : Nat) : w'.frozen? ⟨x, o, none⟩ = w.frozen? ⟨x, o, none⟩ := by
  by_cases hx : x = b
  · subst hx; simp only [World.frozen?, hw.old, hw.new]
  · exact frozen_of_heap_eq (hw.other x hx) o
theorem Wrote.le_obj {cs : List AV} (hb : σ b = some (.obj cs)) (r : Option Role) : Le σ w (σ.set b r) w' where
  os := hw.os
  tape := hw.tape
  output := hw.output
  size := by rw [hw.size]; exact Nat.le_refl _
  keep x hx hn := by
    have hne : x ≠ b := by rintro rfl; rw [hb] at hn; cases hn
    rw [ASt.set_ne hne]
    exact ⟨hn, hw.other x hne⟩
  fix x cs hx hn := by
    have hne : x ≠ b := by rintro rfl; rw [hb] at hn; cases hn
    rw [ASt.set_ne hne]
    exact ⟨.inr hn, hw.other x hne⟩
  tok x f hx hn := by
    have hne : x ≠ b := by rintro rfl; rw [hb] at hn; cases hn
    rw [ASt.set_ne hne]
    exact ⟨.inr ⟨f, Nat.le_refl _, hn⟩, shape_of_heap_eq (hw.other x hne), fun o _ => cell_of_heap_eq (hw.other x hne) o⟩
theorem Wrote.le_tok {f f' : Nat} (hb : σ b = some (.tok f)) (hf : f ≤ f') (hc : ∀ o, o < f → c'[o]? = c[o]?) : Le σ w (σ.set b (some (.tok f'))) w' where
  os := hw.os
  tape := hw.tape
  output := hw.output
  size := by rw [hw.size]; exact Nat.le_refl _
  keep x hx hn := by
    have hne : x ≠ b := by rintro rfl; rw [hb] at hn; cases hn
    rw [ASt.set_ne hne]
    exact ⟨hn, hw.other x hne⟩
  fix x cs hx hn := by
    have hne : x ≠ b := by rintro rfl; rw [hb] at hn; cases hn
    rw [ASt.set_ne hne]
    exact ⟨.inr hn, hw.other x hne⟩
  tok x g hx hn := by
    by_cases hne : x = b
    · subst hne
      rw [hb] at hn
      injection hn with hn
      injection hn with hn
      subst hn
      rw [ASt.set_same]
      refine ⟨.inr ⟨f', hf, rfl⟩, ?_, fun o ho => ?_⟩
      · simp only [World.shape?, hw.old, hw.new, hw.len]
      · simp only [World.cell?, hw.old, hw.new, Option.isSome_none, Bool.false_eq_true, if_false]
        exact hc o ho
    · rw [ASt.set_ne hne]
      exact ⟨.inr ⟨g, Nat.le_refl _, hn⟩, shape_of_heap_eq (hw.other x hne), fun o _ => cell_of_heap_eq (hw.other x hne) o⟩
theorem Wrote.sim {r : Role} (hs : Sim σ w) (hl : Le σ w (σ.set b (some r)) w') (hr : RoleOk (σ.set b (some r)) w' b r) : Sim (σ.set b (some r)) w' := by
  intro x q hx
  by_cases hne : x = b
  · subst hne
    rw [ASt.set_same] at hx
    injection hx with hx
    subst hx
    exact hr
  · rw [ASt.set_ne hne] at hx
    exact (hs x q hx).keep hl (hw.other x hne)
end
end
end Go.A
