/- Operations that write or make memory, and calls, do what is said. -/
import Derived.Test.YtfjnahkcfdcbeaaBa
namespace Go.A
section
variable {P : Program} {σ : ASt} {w : World}

theorem leaves_one : ∀ {xs : List AV} {vs : List Value}, Reps σ w xs vs → leaves xs = true → ∀ v ∈ vs, v.oneCell' = true
  | _, _, .nil, _, v, hv => by cases hv
  | _, _, .cons h1 h2, hl, v, hv => by
    simp only [leaves, Bool.and_eq_true] at hl
    rcases List.mem_cons.1 hv with rfl | hv
    · cases h1 <;> first | rfl | (simp [AV.leaf] at hl)
    · exact leaves_one h2 hl.2 v hv

theorem leaf_not_any {x : AV} (h : leaves x.cells = true) : x ≠ .any := by
  rintro rfl
  simp [AV.cells, leaves, AV.leaf] at h

/-- What an effect asks of the rest. -/
def Goes (P : Program) (o : Oper) (act : Act) (σ : ASt) (w : World) (K : AV → ASt → Prop) (next : Act → World → Prop) (Q : Exit → Act → World → Prop) : Prop :=
  (∀ v σ' u w', K v σ' → Le σ w σ' w' → Sim σ' w' → Rep σ' w' v u → next (act.put o.dst u) w') → o.wp P act w next Q

theorem splice_rep {cs : List AV} {us : List Value} (h : Reps σ w cs us) {xs : List AV} {vs : List Value} (hx : Reps σ w xs vs) (o : Nat) : Reps σ w (splice cs o xs.length xs) (us.take o ++ vs ++ us.drop (o + vs.length)) := by
  unfold splice
  rw [hx.length]
  exact ((h.take o).append hx).append (h.drop _)

theorem goes_store {T : TypeId} {p x : Operand} {n : Nat} {o : Oper} {act : Act} {next : Act → World → Prop} {Q : Exit → Act → World → Prop} {K : AV → ASt → Prop} (ho : o.op = .store T p x) (hn : sizeT P T = some n) (hs : Sim σ w)
    {b off : Nat} (hp : act.eval p = .pointer (some ⟨b, off, none⟩)) {y : AV} (hy : Rep σ w y (act.eval x)) {cs : List AV} (hb : σ b = some (.obj cs)) (hl : leaves y.cells = true) (hyl : y.cells.length = n) (hfit : off + n ≤ cs.length)
    (hK : K .any (σ.set b (some (.obj (splice cs off n y.cells))))) : Goes P o act σ w K next Q := by
  intro hnext
  obtain ⟨i, hi, his⟩ := sizeT_spec hn
  obtain ⟨⟨c⟩, T', fr, h1, h2, h3⟩ := hs b _ hb
  have hyc := hy.cells (leaf_not_any hl)
  have hsz : (act.eval x).cells.toList.length = n := by rw [← hyc.length, hyl]
  have hcl : cs.length = c.length := h2.length
  have hst := run_storeCells_cells (P := P) b off (act.eval x).cells.toList 0 w (fun j hj => by
      simp only [World.cell?, h1, Nat.add_zero, Option.isSome_none, Bool.false_eq_true, if_false]
      rw [Array.getElem?_eq_getElem (by simp; omega)]
      rfl) (fun j hj => h3 _ (by simp; omega)) (leaves_one hyc hl)
  have hwr := Wrote.setCells (act.eval x).cells.toList off w c h1 (by omega)
  have hle := hwr.le_obj hb (some (.obj (splice cs off n y.cells)))
  have hrun : (execOp act.eval o).run P w = .ok .skip (w.setCells b off (act.eval x).cells.toList) := by
    simp only [execOp, ho, Sem.run_bind]
    unfold Instr.storeAt
    rw [hp, Sem.run_bind, run_sureAddr]
    simp only [Result.andThen]
    unfold storeVar
    rw [Sem.run_bind, run_so hi]
    simp only [Result.andThen]
    rw [if_neg (by simp; rw [← Array.length_toList, hsz, his])]
    rw [hst]
    rfl
  have h2' := h2.mono hle
  have hsim := hwr.sim hs hle ⟨_, _, _, hwr.new, by
    have := splice_rep h2' (hyc.mono hle) off
    rw [hyl] at this
    exact this, fun j hj => by rw [hwr.frozen]; exact h3 j (by have := hwr.len; omega)⟩
  unfold Oper.wp
  rw [hrun]
  exact hnext _ _ _ _ hK hle hsim (.any _)

theorem new_obj {o : Obj} {w' : World} {c : List Value} {T : TypeId} (hp : Pushed w w' (.cells ⟨c⟩ T)) (hs : Sim σ w) {cs : List AV} (hr : Reps σ w cs c) :
    Le σ w (σ.set w.heap.size (some (.obj cs))) w' ∧ Sim (σ.set w.heap.size (some (.obj cs))) w' ∧ σ w.heap.size = none := by
  have hle : Le σ w (σ.set w.heap.size (some (.obj cs))) w' := hp.le fun b hb => by rw [ASt.set_ne (by omega)]
  refine ⟨hle, fun x q hx => ?_, hs.fresh (Nat.le_refl _)⟩
  by_cases hne : x = w.heap.size
  · subst hne
    rw [ASt.set_same] at hx
    injection hx with hx
    subst hx
    refine ⟨⟨c⟩, T, (0, 0), hp.new, hr.mono hle, fun o _ => ?_⟩
    simp only [World.frozen?, hp.new]
    simp
  · rw [ASt.set_ne hne] at hx
    exact (hs x q hx).keep hle (hp.old (hs.lt hx))

theorem goes_box {T : TypeId} {x : Operand} {o : Oper} {act : Act} {next : Act → World → Prop} {Q : Exit → Act → World → Prop} {K : AV → ASt → Prop} (ho : o.op = .box T x) (hs : Sim σ w) {y : AV} (hy : Rep σ w y (act.eval x)) (ha : y.isAny = false)
    (hK : ∀ b, σ b = none → K (.ptr b 0) (σ.set b (some (.obj y.cells)))) : Goes P o act σ w K next Q := by
  intro hnext
  have hyc := hy.cells (by rintro rfl; cases ha)
  have hp : Pushed w (w.alloc (.cells (act.eval x).cells T)) (.cells ⟨(act.eval x).cells.toList⟩ T) := Pushed.alloc w _
  obtain ⟨h1, h2, h3⟩ := new_obj (o := .cells #[] T) hp hs hyc
  have hrun : (execOp act.eval o).run P w = .ok (.value (.pointer (some ⟨w.heap.size, 0, none⟩))) (w.alloc (.cells (act.eval x).cells T)) := by
    simp only [execOp, ho]
    exact run_value (by simp [Instr.box, newVar, newRow])
  unfold Oper.wp
  rw [hrun]
  exact hnext _ _ _ _ (hK _ h3) h1 h2 (.ptr _ _)

theorem goes_alloc {T : TypeId} {z : AV} {o : Oper} {act : Act} {next : Act → World → Prop} {Q : Exit → Act → World → Prop} {K : AV → ASt → Prop} (ho : o.op = .alloc T) (hs : Sim σ w) (hz : zeroT P T = some z)
    (hK : ∀ b, σ b = none → K (.ptr b 0) (σ.set b (some (.obj z.cells)))) : Goes P o act σ w K next Q := by
  intro hnext
  obtain ⟨i, v, hi, hv, hof⟩ := zeroT_spec hz
  have hzr := ofVal_rep (σ := σ) (w := w) hof
  have hyc := hzr.cells (by
    rintro rfl
    unfold ofVal at hof
    split at hof
    · rename_i cs
      cases h : ofLeaves cs.toList <;> simp [h] at hof
    · unfold ofLeaf at hof
      split at hof <;> cases hof)
  have hp : Pushed w (w.alloc (.cells v.cells T)) (.cells ⟨v.cells.toList⟩ T) := Pushed.alloc w _
  obtain ⟨h1, h2, h3⟩ := new_obj (o := .cells #[] T) hp hs hyc
  have hrun : (execOp act.eval o).run P w = .ok (.value (.pointer (some ⟨w.heap.size, 0, none⟩))) (w.alloc (.cells v.cells T)) := by
    simp only [execOp, ho]
    exact run_value (by unfold Instr.alloc; rw [Sem.run_bind, run_zv hi hv]; simp [newVar, newRow])
  unfold Oper.wp
  rw [hrun]
  exact hnext _ _ _ _ (hK _ h3) h1 h2 (.ptr _ _)
end
end Go.A
