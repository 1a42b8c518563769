/- Aggregates and slices that are built. -/
import Derived.Test.YtpedaofcndaooaaDoorAu
import Derived.Laws.Tables
namespace Go.A
set_option linter.unusedSimpArgs false
set_option linter.unusedVariables false
section
variable {P : Program} {σ : ASt} {w : World}

theorem foldl_set_list : ∀ (us vs : List Value) (off k : Nat), off + k + us.length ≤ vs.length →
    (us.zipIdx k).foldl (fun (cs : Array Value) (x : Value × Nat) => cs.setIfInBounds (off + x.2) x.1) ⟨vs⟩ = ⟨vs.take (off + k) ++ us ++ vs.drop (off + k + us.length)⟩
  | [], vs, off, k, h => by simp
  | u :: us, vs, off, k, h => by
    simp only [List.zipIdx_cons, List.foldl_cons]
    have h1 : (⟨vs⟩ : Array Value).setIfInBounds (off + k) u = ⟨vs.set (off + k) u⟩ := by
      apply Array.ext'; simp
    rw [h1, foldl_set_list us _ off (k + 1) (by simp at h ⊢; omega)]
    simp only [List.length_cons] at h ⊢
    congr 1
    have e1 : off + (k + 1) = (off + k) + 1 := by omega
    rw [e1, List.take_set, List.drop_set]
    have e2 : ¬ (off + k + 1 + us.length ≤ off + k) := by omega
    rw [if_pos (by omega)]
    have hlt : off + k < vs.length := by omega
    have e3 : (vs.take (off + k + 1)).set (off + k) u = vs.take (off + k) ++ [u] := by
      rw [List.take_succ_eq_append_getElem hlt, List.set_append_right _ _ (by simp; omega)]
      simp [Nat.min_eq_left (Nat.le_of_lt hlt)]
    rw [e3]
    simp [List.append_assoc, Nat.add_assoc, Nat.add_comm 1]

theorem fold_set (u : Value) (vs : List Value) (off : Nat) (h : off + u.cells.size ≤ vs.length) :
    (u.cells.zipIdx.foldl (fun (cs : Array Value) (x : Value × Nat) => cs.setIfInBounds (off + x.2) x.1) ⟨vs⟩) = ⟨vs.take off ++ u.cells.toList ++ vs.drop (off + u.cells.size)⟩ := by
  rw [← Array.foldl_toList, Array.toList_zipIdx, foldl_set_list _ _ _ _ (by simpa using h)]
  simp

/-- Parts are laid where they belong. -/
theorem fill_rep {place : Nat → Option (Nat × Nat)} : ∀ {ps : List (Nat × Nat × AV)} {qs : List (Nat × Value)} {cs r : List AV} {vs : List Value}, Reps σ w cs vs → fillC cs ps = some r →
    ps.length = qs.length → (∀ (j i : Nat) (u : Value) (o n : Nat) (x : AV), qs[j]? = some (i, u) → ps[j]? = some (o, n, x) → place i = some (o, n) ∧ Rep σ w x u) →
    ∃ us, Instr.fill place ⟨vs⟩ qs = some ⟨us⟩ ∧ Reps σ w r us
  | [], [], cs, r, vs, hr, h, _, _ => by
    injection h with h; subst h
    exact ⟨vs, rfl, hr⟩
  | [], _ :: _, _, _, _, _, _, hl, _ => by simp at hl
  | _ :: _, [], _, _, _, _, _, hl, _ => by simp at hl
  | (o, n, x) :: ps, (i, u) :: qs, cs, r, vs, hr, h, hl, hp => by
    unfold fillC at h
    split at h
    · rename_i hc
      obtain ⟨hany, hxl, hfit⟩ := hc
      obtain ⟨hpl, hx⟩ := hp 0 i u o n x rfl rfl
      have hxc := hx.cells (by rintro rfl; simp [AV.isAny] at hany)
      have hul : u.cells.size = n := by rw [← hxl, hxc.length]; simp
      have hvl : vs.length = cs.length := hr.length.symm
      unfold Instr.fill
      simp only [hpl]
      rw [if_neg (by simp [hul, hvl]; omega)]
      have hfs := fold_set u vs o (by omega)
      rw [show (Array.foldl (fun cs x => match x with | (c, j) => cs.setIfInBounds (o + j) c) ({ toList := vs } : Array Value) u.cells.zipIdx) = _ from hfs]
      refine fill_rep ?_ h (by simpa using hl) (fun j i' u' o' n' x' h1 h2 => hp (j + 1) i' u' o' n' x' (by simpa using h1) (by simpa using h2))
      rw [hul]
      exact ((hr.take o).append hxc).append (hr.drop _)
    · cases h

/-- A row, its elements one behind the other. -/
theorem fill_row (s : Nat) : ∀ (us : List Value) (k : Nat) (done rest : List Value), (∀ u ∈ us, u.cells.size = s) → done.length = k * s → rest.length = us.length * s →
    Instr.fill (fun i => some (i * s, s)) ⟨done ++ rest⟩ ((us.zipIdx k).map fun x => (x.2, x.1)) = some ⟨done ++ us.flatMap fun u => u.cells.toList⟩
  | [], k, done, rest, _, _, hr => by
    have : rest = [] := by simpa using hr
    subst this
    rfl
  | u :: us, k, done, rest, hu, hd, hr => by
    have h1 := hu u (by simp)
    simp only [List.zipIdx_cons, List.map_cons]
    unfold Instr.fill
    simp only []
    simp only [List.length_cons, Nat.add_mul, Nat.one_mul] at hr
    rw [if_neg (by simp [h1, hd, hr])]
    have hfs := fold_set u (done ++ rest) (k * s) (by simp [h1, hd, hr])
    rw [show (Array.foldl (fun cs x => match x with | (c, j) => cs.setIfInBounds (k * s + j) c) ({ toList := done ++ rest } : Array Value) u.cells.zipIdx) = _ from hfs]
    have e1 : (done ++ rest).take (k * s) = done := by rw [← hd]; simp
    have e2 : (done ++ rest).drop (k * s + u.cells.size) = rest.drop s := by rw [← hd, h1]; simp [List.drop_append]
    rw [e1, e2]
    rw [fill_row s us (k + 1) (done ++ u.cells.toList) (rest.drop s) (fun v hv => hu v (by simp [hv])) (by simp [hd, h1, Nat.add_mul]) (by simp [hr])]
    simp [List.append_assoc]
end
end Go.A
