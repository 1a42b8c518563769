/- How memory that stays is read: a place's cells, a slice's elements, an object's. -/
import Derived.Test.YtpedaofcndaooaaDoorAq
import Derived.Laws.Cells
import Derived.Laws.Slices
import Derived.Laws.Small
import Derived.Laws.IdiomStrings
import Derived.Laws.BytesString
import Derived.Deep.AppendSrc
namespace Go.A
set_option linter.unusedSimpArgs false
set_option linter.unusedVariables false

section
variable {P : Program} {σ : ASt} {w : World}

theorem addr_add' (b o n : Nat) : (⟨b, o, none⟩ : Addr).add n = ⟨b, o + n, none⟩ := by unfold Addr.add; split <;> simp_all

theorem Reps.length : ∀ {as : List AV} {vs : List Value}, Reps σ w as vs → as.length = vs.length
  | _, _, .nil => rfl
  | _, _, .cons _ h => by simp [h.length]
theorem Reps.get : ∀ {as : List AV} {vs : List Value}, Reps σ w as vs → ∀ {i : Nat} {a : AV}, as[i]? = some a → ∃ v, vs[i]? = some v ∧ Rep σ w a v
  | _, _, .nil, i, a, h => by simp at h
  | _, _, .cons h1 h2, 0, a, h => by simp at h; subst h; exact ⟨_, rfl, h1⟩
  | _, _, .cons h1 h2, i + 1, a, h => by
    simp only [List.getElem?_cons_succ] at h ⊢
    exact h2.get h
theorem Reps.drop : ∀ {as : List AV} {vs : List Value}, Reps σ w as vs → ∀ (n : Nat), Reps σ w (as.drop n) (vs.drop n)
  | _, _, h, 0 => by simpa using h
  | _, _, .nil, n + 1 => by simpa using .nil
  | _, _, .cons h1 h2, n + 1 => by simpa using h2.drop n
theorem Reps.take : ∀ {as : List AV} {vs : List Value}, Reps σ w as vs → ∀ (n : Nat), Reps σ w (as.take n) (vs.take n)
  | _, _, h, 0 => by simpa using .nil
  | _, _, .nil, n + 1 => by simpa using .nil
  | _, _, .cons h1 h2, n + 1 => by simpa using .cons h1 (h2.take n)
theorem Reps.append : ∀ {as : List AV} {vs : List Value}, Reps σ w as vs → ∀ {bs : List AV} {us : List Value}, Reps σ w bs us → Reps σ w (as ++ bs) (vs ++ us)
  | _, _, .nil, _, _, h => h
  | _, _, .cons h1 h2, _, _, h => .cons h1 (h2.append h)
theorem Reps.set : ∀ {as : List AV} {vs : List Value}, Reps σ w as vs → ∀ {a : AV} {v : Value}, Rep σ w a v → ∀ (i : Nat), Reps σ w (as.set i a) (vs.set i v)
  | _, _, .nil, _, _, _, i => by simpa using .nil
  | _, _, .cons h1 h2, _, _, h, 0 => .cons h h2
  | _, _, .cons h1 h2, _, _, h, i + 1 => .cons h1 (h2.set h i)

/-- What stands from a place on. -/
theorem At.vals : ∀ {b o : Nat} {as : List AV}, At σ w b o as → ∃ vs, Reps σ w as vs ∧ ∀ j v, vs[j]? = some v → w.cell? ⟨b, o + j, none⟩ = some v
  | _, _, _, .nil b o => ⟨[], .nil, by simp⟩
  | _, _, _, .cons (b := b) (o := o) (v := v) h1 h2 h3 h4 => by
    obtain ⟨vs, hr, hc⟩ := h4.vals
    refine ⟨v :: vs, .cons h3 hr, fun j u hj => ?_⟩
    cases j with
    | zero => simp at hj; subst hj; simpa using h2
    | succ j =>
      simp only [List.getElem?_cons_succ] at hj
      have := hc j u hj
      rwa [show o + (j + 1) = o + 1 + j by omega]
theorem At.still : ∀ {b o : Nat} {as : List AV}, At σ w b o as → ∀ j, j < as.length → Still σ w b (o + j)
  | _, _, _, .nil b o, j, h => by simp at h
  | _, _, _, .cons h1 h2 h3 h4, 0, h => h1
  | _, _, _, .cons (o := o) h1 h2 h3 h4, j + 1, h => by
    have := h4.still j (by simpa using h)
    rwa [show o + (j + 1) = o + 1 + j by omega]
theorem At.mk' : ∀ {as : List AV} {vs : List Value} (_ : Reps σ w as vs) {b o : Nat} (_ : ∀ j, j < vs.length → Still σ w b (o + j)) (_ : ∀ j v, vs[j]? = some v → w.cell? ⟨b, o + j, none⟩ = some v), At σ w b o as
  | _, _, .nil, b, o, _, _ => .nil b o
  | _, _, .cons h1 h2, b, o, hs, hc => by
    refine .cons (hs 0 (by simp)) (hc 0 _ rfl) h1 (At.mk' h2 (fun j hj => ?_) (fun j v hj => ?_))
    · have := hs (j + 1) (by simpa using hj)
      rwa [show o + (j + 1) = o + 1 + j by omega] at this
    · have := hc (j + 1) v (by simpa using hj)
      rwa [show o + (j + 1) = o + 1 + j by omega] at this
theorem At.drop : ∀ {b o : Nat} {as : List AV}, At σ w b o as → ∀ (n : Nat), At σ w b (o + n) (as.drop n)
  | _, _, _, h, 0 => by simpa using h
  | _, _, _, .nil b o, n + 1 => by simpa using .nil _ _
  | _, _, _, .cons (o := o) h1 h2 h3 h4, n + 1 => by
    have := h4.drop n
    simp only [List.drop_succ_cons]
    rwa [show o + (n + 1) = o + 1 + n by omega]
theorem At.take : ∀ {b o : Nat} {as : List AV}, At σ w b o as → ∀ (n : Nat), At σ w b o (as.take n)
  | _, _, _, h, 0 => by simpa using .nil _ _
  | _, _, _, .nil b o, n + 1 => by simpa using .nil _ _
  | _, _, _, .cons h1 h2 h3 h4, n + 1 => by simpa using .cons h1 h2 h3 (h4.take n)
theorem Row.at : ∀ {b o sz : Nat} {xs : List AV}, Row σ w b o sz xs → ∀ {i : Nat} {x : AV}, xs[i]? = some x → x.cells.length = sz ∧ At σ w b (o + i * sz) x.cells
  | _, _, _, _, .nil .., i, x, h => by simp at h
  | _, _, _, _, .cons h1 h2 h3, 0, x, h => by simp at h; subst h; exact ⟨h1, by simpa using h2⟩
  | _, _, _, _, .cons (o := o) (sz := sz) h1 h2 h3, i + 1, x, h => by
    simp only [List.getElem?_cons_succ] at h
    have := h3.at h
    rwa [show o + (i + 1) * sz = o + sz + i * sz by rw [Nat.add_mul]; omega]
theorem Row.drop : ∀ {b o sz : Nat} {xs : List AV}, Row σ w b o sz xs → ∀ (n : Nat), Row σ w b (o + n * sz) sz (xs.drop n)
  | _, _, _, _, h, 0 => by simpa using h
  | _, _, _, _, .nil .., n + 1 => by simpa using .nil _ _ _
  | _, _, _, _, .cons (o := o) (sz := sz) h1 h2 h3, n + 1 => by
    have := h3.drop n
    simp only [List.drop_succ_cons]
    rwa [show o + (n + 1) * sz = o + sz + n * sz by rw [Nat.add_mul]; omega]
theorem Row.take : ∀ {b o sz : Nat} {xs : List AV}, Row σ w b o sz xs → ∀ (n : Nat), Row σ w b o sz (xs.take n)
  | _, _, _, _, h, 0 => by simpa using .nil _ _ _
  | _, _, _, _, .nil .., n + 1 => by simpa using .nil _ _ _
  | _, _, _, _, .cons h1 h2 h3, n + 1 => by simpa using .cons h1 h2 (h3.take n)
/-- All cells of a slice, one behind the other. -/
theorem Row.flat : ∀ {b o sz : Nat} {xs : List AV}, Row σ w b o sz xs → At σ w b o (xs.flatMap AV.cells) ∧ (xs.flatMap AV.cells).length = xs.length * sz
  | _, _, _, _, .nil .. => ⟨by simpa using .nil _ _, by simp⟩
  | _, _, _, _, .cons (b := b) (o := o) (sz := sz) (x := x) (xs := xs) h1 h2 h3 => by
    obtain ⟨hA, hl⟩ := h3.flat
    constructor
    · obtain ⟨vs, hr, hc⟩ := h2.vals
      obtain ⟨us, hr', hc'⟩ := hA.vals
      have hvl : vs.length = sz := by rw [← hr.length, h1]
      simp only [List.flatMap_cons]
      refine At.mk' (hr.append hr') (fun j hj => ?_) (fun j v hj => ?_)
      · by_cases hjs : j < sz
        · exact h2.still j (by omega)
        · have hj2 := hA.still (j - sz) (by rw [hr'.length]; simp [hvl] at hj; omega)
          rwa [show o + j = o + sz + (j - sz) by omega]
      · by_cases hjs : j < sz
        · exact hc j v (by rwa [List.getElem?_append_left (by omega)] at hj)
        · rw [List.getElem?_append_right (by omega)] at hj
          have := hc' (j - sz) v (by rwa [hvl] at hj)
          rwa [show o + j = o + sz + (j - sz) by omega]
    · simp only [List.flatMap_cons, List.length_append, List.length_cons, hl, h1, Nat.add_mul]; omega
theorem Row.unflat : ∀ {xs : List AV} {b o sz : Nat}, (∀ x ∈ xs, x.cells.length = sz) → At σ w b o (xs.flatMap AV.cells) → Row σ w b o sz xs
  | [], b, o, sz, _, _ => .nil _ _ _
  | x :: xs, b, o, sz, hl, h => by
    have h1 := hl x (by simp)
    simp only [List.flatMap_cons] at h
    refine .cons h1 ?_ (Row.unflat (fun y hy => hl y (by simp [hy])) ?_)
    · have := h.take x.cells.length
      simpa using this
    · have := h.drop x.cells.length
      rw [h1] at this
      simpa [h1] using this

/-- An object's cells. -/
theorem Sim.objCell (hs : Sim σ w) {b : Nat} {cs : List AV} (hb : σ b = some (.obj cs)) : ∃ vs, Reps σ w cs vs ∧ (∀ j v, vs[j]? = some v → w.cell? ⟨b, j, none⟩ = some v) ∧ ∀ j, j < vs.length → w.frozen? ⟨b, j, none⟩ = false := by
  obtain ⟨c, T, fr, h1, h2, h3⟩ := hs b _ hb
  refine ⟨c.toList.take cs.length, h2, fun j v hj => ?_, fun j hj => h3 j (by simp at hj; omega)⟩
  rw [List.getElem?_take] at hj
  split at hj
  · simp only [World.cell?, h1]
    simpa using hj
  · cases hj
/-- What is known of a block: an object, or memory that stays. -/
def known (σ : ASt) (b : Nat) : Option (List AV) :=
  match σ b with
  | some (.obj cs) => some cs
  | some (.fix cs) => some cs
  | _ => none
theorem Sim.known (hs : Sim σ w) {b : Nat} {cs : List AV} (hb : known σ b = some cs) : ∃ vs, Reps σ w cs vs ∧ ∀ j v, vs[j]? = some v → w.cell? ⟨b, j, none⟩ = some v := by
  unfold A.known at hb
  split at hb
  · rename_i cs' h1
    injection hb with hb; subst hb
    obtain ⟨vs, h2, h3, _⟩ := hs.objCell h1
    exact ⟨vs, h2, h3⟩
  · rename_i cs' h1
    injection hb with hb; subst hb
    obtain ⟨vs, h2, h3⟩ := (hs b _ h1).1.vals
    exact ⟨vs, h2, fun j v hj => by simpa using h3 j v hj⟩
  · cases hb

/-- Reading n cells from a place whose cells are known. -/
theorem run_cells {b o n : Nat} {vs : List Value} (hc : ∀ j v, vs[j]? = some v → w.cell? ⟨b, o + j, none⟩ = some v) (hn : n ≤ vs.length) :
    (loadCells ⟨b, o, none⟩ n).run P w = .ok (vs.take n).toArray w := by
  have := run_loadCells_list (P := P) w ⟨b, o, none⟩ (vs.take n) (fun j v hj => by
    rw [addr_add']
    refine hc j v ?_
    rw [List.getElem?_take] at hj
    split at hj
    · exact hj
    · cases hj)
  rwa [List.length_take_of_le hn] at this
end
end Go.A
