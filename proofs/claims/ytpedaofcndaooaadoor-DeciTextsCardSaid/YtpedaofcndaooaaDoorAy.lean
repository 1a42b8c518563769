/- THE LAW OF THE OPERATIONS THAT ONLY LOOK: what is compiled is what runs. -/
import Derived.Test.YtpedaofcndaooaaDoorAx
namespace Go.A
set_option linter.unusedSimpArgs false
set_option linter.unusedVariables false
section
variable {P : Program} {σ : ASt} {w : World}

theorem sizeT_spec {t : TypeId} {s : Nat} (h : sizeT P t = some s) : ∃ i, P.info? t = some i ∧ i.size = s := by
  unfold sizeT at h
  cases hi : P.info? t with
  | none => simp [hi] at h
  | some i => exact ⟨i, rfl, by simpa [hi] using h⟩

theorem zeroT_spec {t : TypeId} {z : AV} (h : zeroT P t = some z) : ∃ i v, P.info? t = some i ∧ i.zero = some v ∧ ofVal v = some z := by
  unfold zeroT at h
  split at h
  · rename_i i hi
    split at h
    · rename_i v hv
      exact ⟨i, v, hi, hv, h⟩
    · cases h
  · cases h

theorem fieldOf_spec {t : TypeId} {f o : Nat} {ft : TypeId} (h : fieldOf P t f = some (o, ft)) : ∃ fs fd, P.underlying t = some (.struct fs) ∧ fs[f]? = some fd ∧ fd.offset = o ∧ fd.type = ft := by
  unfold fieldOf at h
  split at h
  · rename_i fs h1
    split at h
    · rename_i fd h2
      injection h with h
      injection h with h3 h4
      exact ⟨fs, fd, h1, h2, h3, h4⟩
    · cases h
  · cases h

theorem places_of {fs : List Field} (h : (fs.all fun f => (P.info? f.type).isSome) = true) :
    fs.mapM (fun f => (P.info? f.type).map fun i => (f.offset, i.size)) = some (fs.map fun f => (f.offset, ((P.info? f.type).map (·.size)).getD 0)) := by
  induction fs with
  | nil => rfl
  | cons f fs ih =>
    simp only [List.all_cons, Bool.and_eq_true] at h
    obtain ⟨i, hi⟩ := Option.isSome_iff_exists.1 h.1
    simp [List.mapM_cons, ih h.2, hi]

theorem partsOf_spec {t : TypeId} {fs : Array Field} (ht : P.underlying t = some (.struct fs)) {a : AFr} {act : Act} : ∀ {ps : List (Nat × Operand)} {qs : List (Nat × Nat × Opd)}, partsOf P t ps = some qs →
    (∀ s, Operand.tmp s ∈ ps.map (·.2) → Rep σ w (a s) (act.tmps.getD s undef)) →
    qs.length = ps.length ∧ ∀ (j i : Nat) (x : Operand) (o n : Nat) (y : Opd), ps[j]? = some (i, x) → qs[j]? = some (o, n, y) →
      (fs.toList.map fun f => (f.offset, ((P.info? f.type).map (·.size)).getD 0))[i]? = some (o, n) ∧ Rep σ w (y.ev a) (act.eval x)
  | [], qs, h, _ => by injection h with h; subst h; simp
  | (i, x) :: ps, qs, h, hr => by
    unfold partsOf at h
    split at h
    · rename_i o ft x' ps' h1 h2 h3
      split at h
      · rename_i n h4
        injection h with h; subst h
        obtain ⟨hl, hp⟩ := partsOf_spec ht h3 (fun s hs => hr s (by simp at hs ⊢; exact .inr hs))
        refine ⟨by simp [hl], fun j i' y o' n' z h5 h6 => ?_⟩
        cases j with
        | zero =>
          simp only [List.getElem?_cons_zero, Option.some.injEq, Prod.mk.injEq] at h5 h6
          obtain ⟨rfl, rfl⟩ := h5
          obtain ⟨rfl, rfl, rfl⟩ := h6
          obtain ⟨fs', fd, h7, h8, rfl, rfl⟩ := fieldOf_spec h1
          rw [ht] at h7
          injection h7 with h7
          injection h7 with h7
          subst h7
          obtain ⟨ti, h9, h10⟩ := sizeT_spec h4
          refine ⟨?_, opd_rep h2 fun t ht' => hr t (by simp [ht'])⟩
          have h8' : fs.toList[i]? = some fd := by simpa using h8
          rw [List.getElem?_map, h8']
          simp [h9, h10]
        | succ j =>
          simp only [List.getElem?_cons_succ] at h5 h6
          exact hp j i' y o' n' z h5 h6
      · cases h
    · cases h

theorem elemsOf_spec {a : AFr} {act : Act} : ∀ {ps : List (Nat × Operand)} {k : Nat} {qs : List Opd}, elemsOf k ps = some qs → (∀ s, Operand.tmp s ∈ ps.map (·.2) → Rep σ w (a s) (act.tmps.getD s undef)) →
    ∃ us : List Value, ps.map (fun p => (p.1, act.eval p.2)) = (us.zipIdx k).map (fun x => (x.2, x.1)) ∧ Reps σ w (qs.map (·.ev a)) us
  | [], k, qs, h, _ => by injection h with h; subst h; exact ⟨[], rfl, .nil⟩
  | (i, x) :: ps, k, qs, h, hr => by
    unfold elemsOf at h
    split at h
    · rename_i hik
      split at h
      · rename_i x' ps' h1 h2
        injection h with h; subst h
        obtain ⟨us, h3, h4⟩ := elemsOf_spec h2 (fun s hs => hr s (by simp at hs ⊢; exact .inr hs))
        refine ⟨act.eval x :: us, by simp [h3, hik], .cons (opd_rep h1 fun t ht => hr t (by simp [ht])) h4⟩
      · cases h
    · cases h

theorem Reps.mapTail {as : List AV} {vs : List Value} (h : Reps σ w as vs) : as.length = vs.length := h.length

theorem wellSz_flat {s : Nat} : ∀ {xs : List AV} {us : List Value}, Reps σ w xs us → wellSz s xs = true →
    (∀ u ∈ us, u.cells.size = s) ∧ (∀ x ∈ xs, x.cells.length = s) ∧ Reps σ w (xs.flatMap AV.cells) (us.flatMap fun u => u.cells.toList)
  | _, _, .nil, _ => by refine ⟨by simp, by simp, ?_⟩; simpa using .nil
  | _, _, .cons (a := x) (v := u) h1 h2, h => by
    simp only [wellSz, Bool.and_eq_true, Bool.not_eq_true', beq_iff_eq] at h
    obtain ⟨⟨h3, h4⟩, h5⟩ := h
    obtain ⟨h6, h7, h8⟩ := wellSz_flat h2 h5
    have hc := h1.cells (by rintro rfl; simp [AV.isAny] at h3)
    refine ⟨fun v hv => ?_, fun y hy => ?_, ?_⟩
    · rcases List.mem_cons.1 hv with rfl | hv
      · rw [← h4, hc.length]; simp
      · exact h6 v hv
    · rcases List.mem_cons.1 hy with rfl | hy
      · exact h4
      · exact h7 y hy
    · simp only [List.flatMap_cons]
      exact hc.append h8

/-- A row of its own, new. -/
theorem new_sl {w' : World} {c : Array Value} {T : TypeId} {fr : Nat × Nat} (hp : Pushed w w' (.cells c T fr)) (hs : Sim σ w) {xs : List AV} {us : List Value} {s : Nat} (hr : Reps σ w xs us) (hw : wellSz s xs = true)
    (hc : c.toList = us.flatMap fun u => u.cells.toList) {k : SK} (hk : k.ok σ w' w.heap.size 0 xs.length xs.length s) : Rep σ w' (.sl k xs) (.slice (some ⟨w.heap.size, 0, none⟩) xs.length xs.length) := by
  obtain ⟨h1, h2, h3⟩ := wellSz_flat hr hw
  refine .sl (sz := s) (Row.unflat h2 (hp.atNew hs h3 fun j v hj => ?_)) rfl (Nat.le_refl _) hk (by rw [hp.size]; omega)
  rw [← hc] at hj
  simpa using hj

theorem run_buildSlice_at (w : World) (t e : TypeId) (len : Nat) (parts : Array (Nat × Value)) (cells : Array Value) (ie : TypeInfo) (z : Value)
    (hu : P.underlying t = some (.slice e)) (hie : P.info? e = some ie) (hz : ie.zero = some z) (hsmall : ¬ len * ie.size > 2 ^ 24) (hpos : ¬ len * ie.size = 0)
    (h : Instr.fill (fun i => some (i * ie.size, ie.size)) ((Array.range (len * ie.size)).map (z.cells[· % z.cells.size]!)) parts.toList = some cells) :
    (Instr.buildSlice t len parts).run P w = .ok (.slice (some ⟨w.heap.size, 0, none⟩) len len) (w.alloc (.cells cells e)) := by
  simp [Instr.buildSlice, run_underlying hu, sizeOf, typeInfo, zeroValue, hie, hz, hsmall, hpos, h, newRow]

theorem ok_bsl {T e : TypeId} {n : Nat} {i : TypeInfo} {ps : Array (Nat × Operand)} {qs : List Opd} {a : AFr} {act : Act} (hT : P.underlying T = some (.slice e)) (hi : P.info? e = some i) (hq : elemsOf 0 ps.toList = some qs) (hn : qs.length = n)
    (hsm : n * i.size ≤ 16777216) (hz : i.zero.isSome = true) (hr : ∀ s, Operand.tmp s ∈ ps.toList.map (·.2) → Rep σ w (a s) (act.tmps.getD s undef)) (hs : Sim σ w) (hw : wellSz i.size (qs.map (·.ev a)) = true) :
    ∃ u w', (Instr.buildSlice T n (ps.map fun (i, x) => (i, act.eval x))).run P w = .ok u w' ∧ Le σ w σ w' ∧ Sim σ w' ∧ Rep σ w' (.sl .full (qs.map (·.ev a))) u := by
  obtain ⟨us, h1, h2⟩ := elemsOf_spec hq hr
  obtain ⟨z, hz⟩ := Option.isSome_iff_exists.1 hz
  have hul : us.length = n := by rw [← h2.length]; simpa using hn
  obtain ⟨h3, h4, h5⟩ := wellSz_flat h2 hw
  have hparts : (ps.map fun (i, x) => (i, act.eval x)).toList = (us.zipIdx 0).map fun x => (x.2, x.1) := by
    rw [Array.toList_map]; exact h1
  have key : ∀ init : List Value, init.length = us.length * i.size → Instr.fill (fun j => some (j * i.size, i.size)) ⟨init⟩ (ps.map fun (i, x) => (i, act.eval x)).toList = some ⟨us.flatMap fun u => u.cells.toList⟩ := fun init hin => by
    have := fill_row i.size us 0 [] init h3 (by simp) hin
    rw [hparts]
    simpa using this
  have hsmall : ¬ n * i.size > 2 ^ 24 := by omega
  refine ⟨.slice (some ⟨w.heap.size, 0, none⟩) n n, w.alloc (.cells ⟨us.flatMap fun u => u.cells.toList⟩ e), ?_, (Pushed.alloc w _).le fun _ _ => rfl, (Pushed.alloc w _).sim hs, ?_⟩
  · by_cases h0 : n * i.size = 0
    · have h6 := key [] (by rw [hul, h0]; rfl)
      simp only [Instr.buildSlice, Sem.run_bind, run_und hT, Result.andThen, run_so hi]
      rw [if_neg hsmall, if_pos h0]
      simp only [Sem.run_bind, Sem.run_pure, Result.andThen]
      have : (Array.map (fun x => (#[] : Array Value)[x % (#[] : Array Value).size]!) (Array.range (n * i.size))) = ⟨[]⟩ := by rw [h0]; simp
      rw [this, h6]
      simp [newRow]
    · have h6 := key ((Array.range (n * i.size)).map (z.cells[· % z.cells.size]!)).toList (by simp [hul])
      exact run_buildSlice_at (P := P) w T e n _ ⟨us.flatMap fun u => u.cells.toList⟩ i z hT hi hz hsmall h0 h6
  · have hxl : (qs.map (·.ev a)).length = n := by simpa using hn
    have := new_sl (Pushed.alloc w (.cells ⟨us.flatMap fun u => u.cells.toList⟩ e)) hs h2 hw rfl (k := .full) rfl
    rw [hxl] at this
    exact this
end
end Go.A
