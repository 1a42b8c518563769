/- Aggregates and slices that are built. · THE LAW OF THE OPERATIONS THAT ONLY LOOK: what is compiled is what runs. · THE LAW OF THE OPERATIONS THAT ONLY LOOK: what is compiled is what runs. -/
import Derived.Test.YtkfcfpnkgljdmaaDoorAu
import Derived.Laws.Tables
import Derived.Laws.StructEq
namespace Go.A
set_option linter.unusedSimpArgs false
set_option linter.unusedVariables false
section
variable {P : Program} {σ : ASt} {w : World}

theorem foldl_set_list : ∀ (us vs : List Value) (off k : Nat), off + k + us.length ≤ vs.length →
    (us.zipIdx k).foldl (fun (cs : Array Value) (x : Value × Nat) => cs.setIfInBounds (off + x.2) x.1) ⟨vs⟩ = ⟨vs.take (off + k) ++ us ++ vs.drop (off + k + us.length)⟩
  | [], vs, off, k, h => by simp
  | u :: us, vs, off, k, h => by
    simp only [List.zipIdx_cons, List.foldl_cons]
    have h1 : (⟨vs⟩ : Array Value).setIfInBounds (off + k) u = ⟨vs.set (off + k) u⟩ := by
      apply Array.ext'; simp
    rw [h1, foldl_set_list us _ off (k + 1) (by simp at h ⊢; omega)]
    simp only [List.length_cons] at h ⊢
    congr 1
    have e1 : off + (k + 1) = (off + k) + 1 := by omega
    rw [e1, List.take_set, List.drop_set]
    have e2 : ¬ (off + k + 1 + us.length ≤ off + k) := by omega
    rw [if_pos (by omega)]
    have hlt : off + k < vs.length := by omega
    have e3 : (vs.take (off + k + 1)).set (off + k) u = vs.take (off + k) ++ [u] := by
      rw [List.take_succ_eq_append_getElem hlt, List.set_append_right _ _ (by simp; omega)]
      simp [Nat.min_eq_left (Nat.le_of_lt hlt)]
    rw [e3]
    simp [List.append_assoc, Nat.add_assoc, Nat.add_comm 1]

theorem fold_set (u : Value) (vs : List Value) (off : Nat) (h : off + u.cells.size ≤ vs.length) :
    (u.cells.zipIdx.foldl (fun (cs : Array Value) (x : Value × Nat) => cs.setIfInBounds (off + x.2) x.1) ⟨vs⟩) = ⟨vs.take off ++ u.cells.toList ++ vs.drop (off + u.cells.size)⟩ := by
  rw [← Array.foldl_toList, Array.toList_zipIdx, foldl_set_list _ _ _ _ (by simpa using h)]
  simp

/-- Parts are laid where they belong. -/
theorem fill_rep {place : Nat → Option (Nat × Nat)} : ∀ {ps : List (Nat × Nat × AV)} {qs : List (Nat × Value)} {cs r : List AV} {vs : List Value}, Reps σ w cs vs → fillC cs ps = some r →
    ps.length = qs.length → (∀ (j i : Nat) (u : Value) (o n : Nat) (x : AV), qs[j]? = some (i, u) → ps[j]? = some (o, n, x) → place i = some (o, n) ∧ Rep σ w x u) →
    ∃ us, Instr.fill place ⟨vs⟩ qs = some ⟨us⟩ ∧ Reps σ w r us
  | [], [], cs, r, vs, hr, h, _, _ => by
    injection h with h; subst h
    exact ⟨vs, rfl, hr⟩
  | [], _ :: _, _, _, _, _, _, hl, _ => by simp at hl
  | _ :: _, [], _, _, _, _, _, hl, _ => by simp at hl
  | (o, n, x) :: ps, (i, u) :: qs, cs, r, vs, hr, h, hl, hp => by
    unfold fillC at h
    split at h
    · rename_i hc
      obtain ⟨hany, hxl, hfit⟩ := hc
      obtain ⟨hpl, hx⟩ := hp 0 i u o n x rfl rfl
      have hxc := hx.cells (by rintro rfl; simp [AV.isAny] at hany)
      have hul : u.cells.size = n := by rw [← hxl, hxc.length]; simp
      have hvl : vs.length = cs.length := hr.length.symm
      unfold Instr.fill
      simp only [hpl]
      rw [if_neg (by simp [hul, hvl]; omega)]
      have hfs := fold_set u vs o (by omega)
      rw [show (Array.foldl (fun cs x => match x with | (c, j) => cs.setIfInBounds (o + j) c) ({ toList := vs } : Array Value) u.cells.zipIdx) = _ from hfs]
      refine fill_rep ?_ h (by simpa using hl) (fun j i' u' o' n' x' h1 h2 => hp (j + 1) i' u' o' n' x' (by simpa using h1) (by simpa using h2))
      rw [hul]
      exact ((hr.take o).append hxc).append (hr.drop _)
    · cases h

/-- A row, its elements one behind the other. -/
theorem fill_row (s : Nat) : ∀ (us : List Value) (k : Nat) (done rest : List Value), (∀ u ∈ us, u.cells.size = s) → done.length = k * s → rest.length = us.length * s →
    Instr.fill (fun i => some (i * s, s)) ⟨done ++ rest⟩ ((us.zipIdx k).map fun x => (x.2, x.1)) = some ⟨done ++ us.flatMap fun u => u.cells.toList⟩
  | [], k, done, rest, _, _, hr => by
    have : rest = [] := by simpa using hr
    subst this
    rfl
  | u :: us, k, done, rest, hu, hd, hr => by
    have h1 := hu u (by simp)
    simp only [List.zipIdx_cons, List.map_cons]
    unfold Instr.fill
    simp only []
    simp only [List.length_cons, Nat.add_mul, Nat.one_mul] at hr
    rw [if_neg (by simp [h1, hd, hr])]
    have hfs := fold_set u (done ++ rest) (k * s) (by simp [h1, hd, hr])
    rw [show (Array.foldl (fun cs x => match x with | (c, j) => cs.setIfInBounds (k * s + j) c) ({ toList := done ++ rest } : Array Value) u.cells.zipIdx) = _ from hfs]
    have e1 : (done ++ rest).take (k * s) = done := by rw [← hd]; simp
    have e2 : (done ++ rest).drop (k * s + u.cells.size) = rest.drop s := by rw [← hd, h1]; simp [List.drop_append]
    rw [e1, e2]
    rw [fill_row s us (k + 1) (done ++ u.cells.toList) (rest.drop s) (fun v hv => hu v (by simp [hv])) (by simp [hd, h1, Nat.add_mul]) (by simp [hr])]
    simp [List.append_assoc]
end
end Go.A
namespace Go.A
set_option linter.unusedSimpArgs false
set_option linter.unusedVariables false
section
variable {P : Program} {σ : ASt} {w : World}

theorem sizeT_spec {t : TypeId} {s : Nat} (h : sizeT P t = some s) : ∃ i, P.info? t = some i ∧ i.size = s := by
  unfold sizeT at h
  cases hi : P.info? t with
  | none => simp [hi] at h
  | some i => exact ⟨i, rfl, by simpa [hi] using h⟩

theorem zeroT_spec {t : TypeId} {z : AV} (h : zeroT P t = some z) : ∃ i v, P.info? t = some i ∧ i.zero = some v ∧ ofVal v = some z := by
  unfold zeroT at h
  split at h
  · rename_i i hi
    split at h
    · rename_i v hv
      exact ⟨i, v, hi, hv, h⟩
    · cases h
  · cases h

theorem fieldOf_spec {t : TypeId} {f o : Nat} {ft : TypeId} (h : fieldOf P t f = some (o, ft)) : ∃ fs fd, P.underlying t = some (.struct fs) ∧ fs[f]? = some fd ∧ fd.offset = o ∧ fd.type = ft := by
  unfold fieldOf at h
  split at h
  · rename_i fs h1
    split at h
    · rename_i fd h2
      injection h with h
      injection h with h3 h4
      exact ⟨fs, fd, h1, h2, h3, h4⟩
    · cases h
  · cases h

theorem places_of {fs : List Field} (h : (fs.all fun f => (P.info? f.type).isSome) = true) :
    fs.mapM (fun f => (P.info? f.type).map fun i => (f.offset, i.size)) = some (fs.map fun f => (f.offset, ((P.info? f.type).map (·.size)).getD 0)) := by
  induction fs with
  | nil => rfl
  | cons f fs ih =>
    simp only [List.all_cons, Bool.and_eq_true] at h
    obtain ⟨i, hi⟩ := Option.isSome_iff_exists.1 h.1
    simp [List.mapM_cons, ih h.2, hi]

theorem partsOf_spec {t : TypeId} {fs : Array Field} (ht : P.underlying t = some (.struct fs)) {a : AFr} {act : Act} : ∀ {ps : List (Nat × Operand)} {qs : List (Nat × Nat × Opd)}, partsOf P t ps = some qs →
    (∀ s, Operand.tmp s ∈ ps.map (·.2) → Rep σ w (a s) (act.tmps.getD s undef)) →
    qs.length = ps.length ∧ ∀ (j i : Nat) (x : Operand) (o n : Nat) (y : Opd), ps[j]? = some (i, x) → qs[j]? = some (o, n, y) →
      (fs.toList.map fun f => (f.offset, ((P.info? f.type).map (·.size)).getD 0))[i]? = some (o, n) ∧ Rep σ w (y.ev a) (act.eval x)
  | [], qs, h, _ => by injection h with h; subst h; simp
  | (i, x) :: ps, qs, h, hr => by
    unfold partsOf at h
    split at h
    · rename_i o ft x' ps' h1 h2 h3
      split at h
      · rename_i n h4
        injection h with h; subst h
        obtain ⟨hl, hp⟩ := partsOf_spec ht h3 (fun s hs => hr s (by simp at hs ⊢; exact .inr hs))
        refine ⟨by simp [hl], fun j i' y o' n' z h5 h6 => ?_⟩
        cases j with
        | zero =>
          simp only [List.getElem?_cons_zero, Option.some.injEq, Prod.mk.injEq] at h5 h6
          obtain ⟨rfl, rfl⟩ := h5
          obtain ⟨rfl, rfl, rfl⟩ := h6
          obtain ⟨fs', fd, h7, h8, rfl, rfl⟩ := fieldOf_spec h1
          rw [ht] at h7
          injection h7 with h7
          injection h7 with h7
          subst h7
          obtain ⟨ti, h9, h10⟩ := sizeT_spec h4
          refine ⟨?_, opd_rep h2 fun t ht' => hr t (by simp [ht'])⟩
          have h8' : fs.toList[i]? = some fd := by simpa using h8
          rw [List.getElem?_map, h8']
          simp [h9, h10]
        | succ j =>
          simp only [List.getElem?_cons_succ] at h5 h6
          exact hp j i' y o' n' z h5 h6
      · cases h
    · cases h

theorem elemsOf_spec {a : AFr} {act : Act} : ∀ {ps : List (Nat × Operand)} {k : Nat} {qs : List Opd}, elemsOf k ps = some qs → (∀ s, Operand.tmp s ∈ ps.map (·.2) → Rep σ w (a s) (act.tmps.getD s undef)) →
    ∃ us : List Value, ps.map (fun p => (p.1, act.eval p.2)) = (us.zipIdx k).map (fun x => (x.2, x.1)) ∧ Reps σ w (qs.map (·.ev a)) us
  | [], k, qs, h, _ => by injection h with h; subst h; exact ⟨[], rfl, .nil⟩
  | (i, x) :: ps, k, qs, h, hr => by
    unfold elemsOf at h
    split at h
    · rename_i hik
      split at h
      · rename_i x' ps' h1 h2
        injection h with h; subst h
        obtain ⟨us, h3, h4⟩ := elemsOf_spec h2 (fun s hs => hr s (by simp at hs ⊢; exact .inr hs))
        refine ⟨act.eval x :: us, by simp [h3, hik], .cons (opd_rep h1 fun t ht => hr t (by simp [ht])) h4⟩
      · cases h
    · cases h

theorem Reps.mapTail {as : List AV} {vs : List Value} (h : Reps σ w as vs) : as.length = vs.length := h.length

theorem wellSz_flat {s : Nat} : ∀ {xs : List AV} {us : List Value}, Reps σ w xs us → wellSz s xs = true →
    (∀ u ∈ us, u.cells.size = s) ∧ (∀ x ∈ xs, x.cells.length = s) ∧ Reps σ w (xs.flatMap AV.cells) (us.flatMap fun u => u.cells.toList)
  | _, _, .nil, _ => by refine ⟨by simp, by simp, ?_⟩; simpa using .nil
  | _, _, .cons (a := x) (v := u) h1 h2, h => by
    simp only [wellSz, Bool.and_eq_true, Bool.not_eq_true', beq_iff_eq] at h
    obtain ⟨⟨h3, h4⟩, h5⟩ := h
    obtain ⟨h6, h7, h8⟩ := wellSz_flat h2 h5
    have hc := h1.cells (by rintro rfl; simp [AV.isAny] at h3)
    refine ⟨fun v hv => ?_, fun y hy => ?_, ?_⟩
    · rcases List.mem_cons.1 hv with rfl | hv
      · rw [← h4, hc.length]; simp
      · exact h6 v hv
    · rcases List.mem_cons.1 hy with rfl | hy
      · exact h4
      · exact h7 y hy
    · simp only [List.flatMap_cons]
      exact hc.append h8

/-- A row of its own, new. -/
theorem new_sl {w' : World} {c : Array Value} {T : TypeId} {fr : Nat × Nat} (hp : Pushed w w' (.cells c T fr)) (hs : Sim σ w) {xs : List AV} {us : List Value} {s : Nat} (hr : Reps σ w xs us) (hw : wellSz s xs = true)
    (hc : c.toList = us.flatMap fun u => u.cells.toList) {k : SK} (hk : k.ok σ w' w.heap.size 0 xs.length xs.length s) : Rep σ w' (.sl k xs) (.slice (some ⟨w.heap.size, 0, none⟩) xs.length xs.length) := by
  obtain ⟨h1, h2, h3⟩ := wellSz_flat hr hw
  refine .sl (sz := s) (Row.unflat h2 (hp.atNew hs h3 fun j v hj => ?_)) rfl (Nat.le_refl _) hk (by rw [hp.size]; omega)
  rw [← hc] at hj
  simpa using hj

theorem run_buildSlice_at (w : World) (t e : TypeId) (len : Nat) (parts : Array (Nat × Value)) (cells : Array Value) (ie : TypeInfo) (z : Value)
    (hu : P.underlying t = some (.slice e)) (hie : P.info? e = some ie) (hz : ie.zero = some z) (hsmall : ¬ len * ie.size > 2 ^ 24) (hpos : ¬ len * ie.size = 0)
    (h : Instr.fill (fun i => some (i * ie.size, ie.size)) ((Array.range (len * ie.size)).map (z.cells[· % z.cells.size]!)) parts.toList = some cells) :
    (Instr.buildSlice t len parts).run P w = .ok (.slice (some ⟨w.heap.size, 0, none⟩) len len) (w.alloc (.cells cells e)) := by
  simp [Instr.buildSlice, run_underlying hu, sizeOf, typeInfo, zeroValue, hie, hz, hsmall, hpos, h, newRow]

theorem ok_bsl {T e : TypeId} {n : Nat} {i : TypeInfo} {ps : Array (Nat × Operand)} {qs : List Opd} {a : AFr} {act : Act} (hT : P.underlying T = some (.slice e)) (hi : P.info? e = some i) (hq : elemsOf 0 ps.toList = some qs) (hn : qs.length = n)
    (hsm : n * i.size ≤ 16777216) (hz : i.zero.isSome = true) (hr : ∀ s, Operand.tmp s ∈ ps.toList.map (·.2) → Rep σ w (a s) (act.tmps.getD s undef)) (hs : Sim σ w) (hw : wellSz i.size (qs.map (·.ev a)) = true) :
    ∃ u w', (Instr.buildSlice T n (ps.map fun (i, x) => (i, act.eval x))).run P w = .ok u w' ∧ Le σ w σ w' ∧ Sim σ w' ∧ Rep σ w' (.sl .full (qs.map (·.ev a))) u := by
  obtain ⟨us, h1, h2⟩ := elemsOf_spec hq hr
  obtain ⟨z, hz⟩ := Option.isSome_iff_exists.1 hz
  have hul : us.length = n := by rw [← h2.length]; simpa using hn
  obtain ⟨h3, h4, h5⟩ := wellSz_flat h2 hw
  have hparts : (ps.map fun (i, x) => (i, act.eval x)).toList = (us.zipIdx 0).map fun x => (x.2, x.1) := by
    rw [Array.toList_map]; exact h1
  have key : ∀ init : List Value, init.length = us.length * i.size → Instr.fill (fun j => some (j * i.size, i.size)) ⟨init⟩ (ps.map fun (i, x) => (i, act.eval x)).toList = some ⟨us.flatMap fun u => u.cells.toList⟩ := fun init hin => by
    have := fill_row i.size us 0 [] init h3 (by simp) hin
    rw [hparts]
    simpa using this
  have hsmall : ¬ n * i.size > 2 ^ 24 := by omega
  refine ⟨.slice (some ⟨w.heap.size, 0, none⟩) n n, w.alloc (.cells ⟨us.flatMap fun u => u.cells.toList⟩ e), ?_, (Pushed.alloc w _).le fun _ _ => rfl, (Pushed.alloc w _).sim hs, ?_⟩
  · by_cases h0 : n * i.size = 0
    · have h6 := key [] (by rw [hul, h0]; rfl)
      simp only [Instr.buildSlice, Sem.run_bind, run_und hT, Result.andThen, run_so hi]
      rw [if_neg hsmall, if_pos h0]
      simp only [Sem.run_bind, Sem.run_pure, Result.andThen]
      have : (Array.map (fun x => (#[] : Array Value)[x % (#[] : Array Value).size]!) (Array.range (n * i.size))) = ⟨[]⟩ := by rw [h0]; simp
      rw [this, h6]
      simp [newRow]
    · have h6 := key ((Array.range (n * i.size)).map (z.cells[· % z.cells.size]!)).toList (by simp [hul])
      exact run_buildSlice_at (P := P) w T e n _ ⟨us.flatMap fun u => u.cells.toList⟩ i z hT hi hz hsmall h0 h6
  · have hxl : (qs.map (·.ev a)).length = n := by simpa using hn
    have := new_sl (Pushed.alloc w (.cells ⟨us.flatMap fun u => u.cells.toList⟩ e)) hs h2 hw rfl (k := .full) rfl
    rw [hxl] at this
    exact this
end
end Go.A
namespace Go.A
set_option linter.unusedSimpArgs false
set_option linter.unusedVariables false
section
variable {P : Program} {σ : ASt} {w : World}

theorem ok_build {T : TypeId} {ps : Array (Nat × Operand)} {qs : List (Nat × Nat × Opd)} {z r : List AV} {a : AFr} {act : Act} (hz : zeroT P T = some (.agg z)) (hq : partsOf P T ps.toList = some qs) (hf : fieldsOk P T = true)
    (hr : ∀ s, Operand.tmp s ∈ ps.toList.map (·.2) → Rep σ w (a s) (act.tmps.getD s undef)) (h : fillC z (qs.map fun (o, n, x) => (o, n, x.ev a)) = some r) :
    ∃ u, (Instr.build T (ps.map fun (i, x) => (i, act.eval x))).run P w = .ok u w ∧ Rep σ w (.agg r) u := by
  unfold fieldsOk at hf
  split at hf
  · rename_i fs hT
    obtain ⟨ti, zv, hi, hzv, hof⟩ := zeroT_spec hz
    have hzr := ofVal_rep (σ := σ) (w := w) hof
    cases hzr with
    | agg hzr =>
      rename_i vs
      obtain ⟨hl, hp⟩ := partsOf_spec hT hq hr
      obtain ⟨us, h1, h2⟩ := fill_rep (place := (((fs.toList.map fun f => (f.offset, ((P.info? f.type).map (·.size)).getD 0)).toArray)[·]?)) (qs := (ps.map fun (i, x) => (i, act.eval x)).toList) hzr h (by simp [hl])
        (fun j i u o n x h3 h4 => by
          rw [Array.toList_map, List.getElem?_map] at h3
          rw [List.getElem?_map] at h4
          cases h5 : ps.toList[j]? with
          | none => rw [h5] at h3; cases h3
          | some p =>
            cases h6 : qs[j]? with
            | none => rw [h6] at h4; cases h4
            | some q =>
              obtain ⟨pi, px⟩ := p
              obtain ⟨qo, qn, qx⟩ := q
              rw [h5] at h3
              rw [h6] at h4
              simp only [Option.map_some, Option.some.injEq, Prod.mk.injEq] at h3 h4
              obtain ⟨rfl, rfl⟩ := h3
              obtain ⟨rfl, rfl, rfl⟩ := h4
              obtain ⟨h7, h8⟩ := hp j _ _ _ _ _ h5 h6
              exact ⟨by simpa using h7, h8⟩)
      refine ⟨_, run_build (P := P) w T _ ⟨us⟩ ?_, .agg h2⟩
      unfold Program.built
      rw [hi, hT]
      simp only [hzv, places_of hf]
      exact h1
  · cases hf

theorem run_binop_eq {op : BinOp} {T : TypeId} {k : EqK} {x y : AV} {u v : Value} {b : Bool} (heq : isEq op = true) (hx : Rep σ w x u) (hy : Rep σ w y v) (hb : eqV k x y = some b) (h : (Op.equal T u v).run P w = .ok b w) :
    (Go.binOp op T u v).run P w = .ok (.bool (if (op == .neq) = true then !b else b)) w := by
  cases op <;> simp only [isEq, Bool.false_eq_true] at heq <;> cases k <;> cases hx <;> cases hy <;> simp only [eqV, reduceCtorEq] at hb <;>
    (simp only [Go.binOp, Sem.run_bind, h, Result.andThen]; rfl)

theorem run_part_agg {t : TypeId} {m : Nat} (hn : aggOf P t = some (some m)) {o : Nat} {vs : List Value} : (part t ⟨vs⟩ o).run P w = .ok (.agg ⟨(vs.drop o).take m⟩) w := by
  obtain ⟨i, hi, ha, hm⟩ := aggOf_spec (w := w) hn
  obtain rfl := hm m rfl
  unfold part
  rw [Sem.run_bind, ha]
  simp only [Result.andThen, Option.isSome, if_true]
  rw [Sem.run_bind, run_so hi]
  simp only [Result.andThen]
  have : (⟨vs⟩ : Array Value).extract o (o + i.size) = ⟨(vs.drop o).take i.size⟩ := by
    apply Array.ext'
    simp
  rw [this]
  rfl
theorem run_leafEq {k : Nat} {t : TypeId} {x y : AV} {u v : Value} {r : Bool} (hk : leafK P t = some k) (hx : Rep σ w x u) (hy : Rep σ w y v) (h : leafEq k x y = some r) (d : Nat) :
    (Op.equalIn (d + 1) t u v).run P w = .ok r w := by
  unfold leafK at hk
  split at hk <;> (try cases hk) <;> rename_i hT <;> (try injection hk with hk; subst hk) <;>
    cases hx <;> cases hy <;> simp only [leafEq, Option.some.injEq, reduceCtorEq] at h
  · split at h
    · rename_i hk
      subst hk
      injection h with h; subst h
      rw [run_equalIn_int w d t _ _ _ _ hT]; rfl
    · cases h
  · subst h
    rw [run_equalIn_bool' w d t _ _ hT]; rfl
  · subst h
    rw [run_equalIn_string w d t _ _ hT, toList_mk, toList_mk, beqL]
theorem eqCs_append {l m : List (Nat × Nat)} {cs ds : List AV} {b : Bool} (h : eqCs (l ++ m) cs ds = some b) : ∃ b1 b2, eqCs l cs ds = some b1 ∧ eqCs m cs ds = some b2 ∧ b = (b1 && b2) := by
  induction l generalizing b with
  | nil => exact ⟨true, b, rfl, h, by simp⟩
  | cons p l ih =>
    obtain ⟨o, k⟩ := p
    simp only [List.cons_append, eqCs] at h ⊢
    split at h
    · rename_i x y hx hy
      split at h
      · rename_i r q hr hq
        injection h with h; subst h
        obtain ⟨b1, b2, h1, h2, rfl⟩ := ih hq
        exact ⟨r && b1, b2, by simp [hx, hy, hr, h1], h2, by rw [Bool.and_assoc]⟩
      · cases h
    · cases h
theorem eqCs_shift {l : List (Nat × Nat)} {cs ds : List AV} {b : Bool} {o m : Nat} (hm : ∀ p ∈ l, p.1 < m) (h : eqCs (l.map fun p => (o + p.1, p.2)) cs ds = some b) : eqCs l ((cs.drop o).take m) ((ds.drop o).take m) = some b := by
  induction l generalizing b with
  | nil => exact h
  | cons p l ih =>
    obtain ⟨i, k⟩ := p
    have hi : i < m := hm (i, k) (by simp)
    simp only [List.map_cons, eqCs] at h ⊢
    rw [List.getElem?_take, if_pos hi, List.getElem?_take, if_pos hi, List.getElem?_drop, List.getElem?_drop]
    split at h
    · rename_i x y hx hy
      split at h
      · rename_i r q hr hq
        simp only [hr, ih (fun p hp => hm p (by simp [hp])) hq]
        exact h
      · cases h
    · cases h
theorem eqFs_run {n : Nat} {sub : List Field → Option (List (Nat × Nat))}
    (hsub : ∀ gs l, sub gs = some l → ∀ (cs ds : List AV) (vs us : List Value) (b : Bool), Reps σ w cs vs → Reps σ w ds us → eqCs l cs ds = some b → ∀ e, (Op.eqFields (n + e) ⟨vs⟩ ⟨us⟩ gs).run P w = .ok b w) :
    ∀ {fs : List Field} {l : List (Nat × Nat)}, eqFs P sub fs = some l → ∀ {cs ds : List AV} {vs us : List Value} {b : Bool}, Reps σ w cs vs → Reps σ w ds us → eqCs l cs ds = some b → ∀ e, (Op.eqFields (n + 1 + e) ⟨vs⟩ ⟨us⟩ fs).run P w = .ok b w
  | [], l, h, cs, ds, vs, us, b, _, _, hb, e => by
    injection h with h; subst h
    injection hb with hb; subst hb
    rfl
  | f :: fs, l, h, cs, ds, vs, us, b, hc, hd, hb, e => by
    unfold eqFs at h
    split at h
    · cases h
    · rename_i hnm
      simp only [Op.eqFields, hnm, ne_eq, not_false_eq_true, if_true]
      split at h
      · rename_i r hag hr
        split at h
        · rename_i k hk
          injection h with h; subst h
          simp only [eqCs] at hb
          split at hb
          · rename_i x y hx hy
            split at hb
            · rename_i r1 q1 hr1 hq1
              injection hb with hb; subst hb
              obtain ⟨u, h1, h2⟩ := run_part hag hc (o := f.offset) (r := x) hx
              obtain ⟨v, h3, h4⟩ := run_part hag hd (o := f.offset) (r := y) hy
              have h5 := run_leafEq hk h2 h4 hr1 (n + e)
              have h6 := eqFs_run hsub hr hc hd hq1 e
              rw [Sem.run_bind, h1]
              simp only [Result.andThen]
              rw [Sem.run_bind, h3]
              simp only [Result.andThen]
              rw [Sem.run_bind, show n + 1 + e = n + e + 1 by omega, h5]
              simp only [Result.andThen]
              rw [show n + 1 + e = n + e + 1 by omega] at h6
              cases r1
              · rfl
              · simpa using h6
            · cases hb
          · cases hb
        · cases h
      · rename_i m r hag hr
        split at h
        · rename_i gs hT
          split at h
          · cases h
          · rename_i hst
            split at h
            · rename_i l' hl'
              split at h
              · rename_i hall
                injection h with h; subst h
                obtain ⟨b1, b2, hb1, hb2, rfl⟩ := eqCs_append hb
                have hb1' := eqCs_shift (m := m) (fun p hp => by have := List.all_eq_true.1 hall p hp; simpa using this) hb1
                have h5 := hsub _ _ hl' _ _ _ _ _ ((hc.drop f.offset).take m) ((hd.drop f.offset).take m) hb1' e
                have h6 := eqFs_run hsub hr hc hd hb2 e
                have hfo : P.fieldsOf f.type = gs := by simp [Program.fieldsOf, hT]
                rw [Sem.run_bind, run_part_agg hag]
                simp only [Result.andThen]
                rw [Sem.run_bind, run_part_agg hag]
                simp only [Result.andThen]
                rw [Sem.run_bind, show n + 1 + e = n + e + 1 by omega, run_equalIn_struct w _ _ _ _ (by rw [hfo]; exact hT) (by simpa using hst), hfo, h5]
                simp only [Result.andThen]
                rw [show n + 1 + e = n + e + 1 by omega] at h6
                cases b1
                · rfl
                · simpa using h6
              · cases h
            · cases h
        · cases h
      · cases h
theorem eqOffs_run : ∀ (n : Nat) (gs : List Field) (l : List (Nat × Nat)), eqOffs P n gs = some l → ∀ (cs ds : List AV) (vs us : List Value) (b : Bool), Reps σ w cs vs → Reps σ w ds us → eqCs l cs ds = some b → ∀ e, (Op.eqFields (n + 1 + e) ⟨vs⟩ ⟨us⟩ gs).run P w = .ok b w
  | 0, gs, l, h, cs, ds, vs, us, b, hc, hd, hb, e => eqFs_run (n := 0) (sub := fun _ => none) (fun _ _ h => by cases h) h hc hd hb e
  | n + 1, gs, l, h, cs, ds, vs, us, b, hc, hd, hb, e => eqFs_run (n := n + 1) (sub := eqOffs P n) (fun gs l hl cs ds vs us b hc hd hb e => eqOffs_run n gs l hl cs ds vs us b hc hd hb e) h hc hd hb e
theorem run_eqs {op : BinOp} {T : TypeId} {X Y : Operand} {l : List (Nat × Nat)} {cs ds : List AV} {vs us : List Value} {b : Bool} (h : eqsOf P T = some l) (hc : Reps σ w cs vs) (hd : Reps σ w ds us) (hb : eqCs l cs ds = some b) :
    (eqGuard op T X Y (.agg ⟨vs⟩) (.agg ⟨us⟩)).run P w = .ok () w ∧ (Op.equalIn 10000 T (.agg ⟨vs⟩) (.agg ⟨us⟩)).run P w = .ok b w := by
  unfold eqsOf at h
  split at h
  · rename_i fs hT
    split at h
    · cases h
    · rename_i hg
      simp only [Bool.or_eq_true, not_or, Bool.not_eq_true] at hg
      have hfo : P.fieldsOf T = fs := by simp [Program.fieldsOf, hT]
      refine ⟨run_eqGuard_agg w op T X Y _ _ hg.2, ?_⟩
      rw [show (10000 : Nat) = 9999 + 1 from rfl, run_equalIn_struct w _ _ _ _ (by rw [hfo]; exact hT) hg.1, hfo]
      exact eqOffs_run 6 _ _ h _ _ _ _ _ hc hd hb 9992
  · cases h

theorem run_value {s : Sem Value} {u : Value} {w' : World} (h : s.run P w = .ok u w') : (do pure (.value (← s)) : Sem Next).run P w = .ok (.value u) w' := by
  rw [Sem.run_bind, h]; rfl

theorem run_builtin {act : Act} {dst : Option Tmp} {b : Builtin} {args : Array Operand} {ats : Array TypeId} {type : TypeId} {pos : String} {after : Array Edge} {guard : Option (Nat × Bool)} {args' : Array Value} {S : Sem Value} {u : Value} {w' : World}
    (hargs : args.map act.eval = args') (hb : ∀ consts, Go.builtin b ats type consts args' = (do pure (.value (← S)))) (h : S.run P w = .ok u w') :
    (execOp act.eval ⟨dst, .call { callee := .builtin b, args := args, argTypes := ats }, type, pos, after, guard⟩).run P w = .ok (.value u) w' := by
  subst hargs
  simp only [execOp, resolve, Sem.run_bind, Sem.run_pure, Result.andThen, invoke, hb, h]
theorem map_one (act : Act) (x : Operand) : (⟨[x]⟩ : Array Operand).map act.eval = #[act.eval x] := by apply Array.ext'; simp
theorem map_two (act : Act) (x y : Operand) : (⟨[x, y]⟩ : Array Operand).map act.eval = #[act.eval x, act.eval y] := by apply Array.ext'; simp

set_option maxHeartbeats 1000000 in
/-- **What is compiled is what runs.** -/
theorem compQ_sound {o : Oper} {q : QOp} {a : AFr} {act : Act} {v : AV} (hq : compQ P o = some q) (hv : q.ev a σ = some v) (hs : Sim σ w)
    (hl : ∀ t, Operand.tmp t ∈ o.op.operands.toList → Rep σ w (a t) (act.tmps.getD t undef)) : OkQ P o σ w act v := by
  obtain ⟨dst, op, type, pos, after, guard⟩ := o
  have val : ∀ {s : Sem Value} {u : Value}, (execOp act.eval ⟨dst, op, type, pos, after, guard⟩) = (do pure (.value (← s))) → s.run P w = .ok u w → Rep σ w v u → OkQ P ⟨dst, op, type, pos, after, guard⟩ σ w act v := by
    intro s u he hr hu
    refine OkQ.same hs (u := u) ?_ hu
    rw [he]; exact run_value hr
  cases op <;> simp only [compQ] at hq <;> simp only [Op.operands] at hl <;> (try cases hq; done)
  case move x =>
    cases hx : opd x with
    | none => simp [hx] at hq
    | some y =>
      simp only [hx, Option.map_some, Option.some.injEq] at hq
      subst hq
      injection hv with hv; subst hv
      exact OkQ.same hs (u := act.eval x) rfl (opd_rep hx fun t ht => hl t (by simp [ht]))
  case assign x =>
    cases hx : opd x with
    | none => simp [hx] at hq
    | some y =>
      simp only [hx, Option.map_some, Option.some.injEq] at hq
      subst hq
      injection hv with hv; subst hv
      exact OkQ.same hs (u := act.eval x) rfl (opd_rep hx fun t ht => hl t (by simp [ht]))
  case pick c x y =>
    split at hq
    · rename_i c' x' y' hc hx hy
      injection hq with hq; subst hq
      have hcr := opd_rep (σ := σ) (w := w) hc fun t ht => hl t (by simp [ht])
      have hxr := opd_rep (σ := σ) (w := w) hx fun t ht => hl t (by simp [ht])
      have hyr := opd_rep (σ := σ) (w := w) hy fun t ht => hl t (by simp [ht])
      simp only [QOp.ev] at hv
      split at hv
      · rename_i b hb
        injection hv with hv; subst hv
        rw [hb] at hcr
        cases hcv : act.eval c with
        | bool b' =>
          rw [hcv] at hcr
          cases hcr
          refine OkQ.same hs (u := if b then act.eval x else act.eval y) ?_ (by cases b <;> simpa)
          simp [execOp, hcv, asBool]
        | _ => rw [hcv] at hcr; cases hcr
      · cases hv
    · cases hq
  case build T ps =>
    split at hq
    · rename_i z qs hz hps
      split at hq
      · rename_i hf
        injection hq with hq; subst hq
        simp only [QOp.ev] at hv
        cases hfc : fillC z (qs.map fun (o, n, x) => (o, n, x.ev a)) with
        | none => rw [hfc] at hv; cases hv
        | some r =>
          rw [hfc] at hv
          simp only [Option.map_some, Option.some.injEq] at hv
          subst hv
          obtain ⟨u, h1, h2⟩ := ok_build (act := act) hz hps hf (fun s hs' => hl s (by simpa using hs')) hfc
          exact val rfl h1 h2
      · cases hq
    · cases hq
  case buildSlice T n ps =>
    split at hq
    · rename_i e hT
      split at hq
      · rename_i i xs hi hx
        split at hq
        · rename_i hc
          injection hq with hq; subst hq
          simp only [QOp.ev] at hv
          split at hv
          · rename_i hw
            injection hv with hv; subst hv
            obtain ⟨u, w', h1, h2, h3, h4⟩ := ok_bsl (act := act) hT hi hx hc.1 hc.2.1 hc.2.2 (fun s hs' => hl s (by simpa using hs')) hs hw
            exact ⟨u, w', run_value h1, h2, h3, h4⟩
          · cases hv
        · cases hq
      · cases hq
    · cases hq
  case load T p =>
    split at hq
    · rename_i p' n hp hn
      injection hq with hq; subst hq
      have hpr := opd_rep (σ := σ) (w := w) hp fun t ht => hl t (by simp [ht])
      simp only [QOp.ev] at hv
      split at hv
      · rename_i b o hpe
        split at hv
        · rename_i cs hk
          rw [hpe] at hpr
          cases hpv : act.eval p with
          | pointer A =>
            rw [hpv] at hpr
            cases hpr
            obtain ⟨vs, h1, h2⟩ := hs.known hk
            have hv' : fieldVal 0 n (cs.drop o) = some v := by
              cases n with
              | none => simpa [fieldVal] using hv
              | some m =>
                simp only [fieldVal] at hv ⊢
                split at hv
                · rename_i hle
                  rw [if_pos (by simp; omega)]
                  simpa using hv
                · cases hv
            obtain ⟨u, h3, h4⟩ := run_loadVar (P := P) (b := b) (o := o) hn (h1.drop o) (fun j v hj => h2 (o + j) v (by simpa using hj)) hv'
            refine val (s := Instr.loadAt T (act.eval p)) rfl ?_ h4
            rw [hpv]
            unfold Instr.loadAt
            rw [Sem.run_bind, run_sureAddr]
            exact h3
          | _ => rw [hpv] at hpr; cases hpr
        · cases hv
      · rename_i cs hpe
        rw [hpe] at hpr
        cases hpv : act.eval p with
        | pointer A =>
          rw [hpv] at hpr
          cases hpr with
          | imm hA =>
            obtain ⟨vs, h1, h2⟩ := hA.vals
            obtain ⟨u, h3, h4⟩ := run_loadVar (P := P) hn h1 h2 hv
            refine val (s := Instr.loadAt T (act.eval p)) rfl ?_ h4
            rw [hpv]
            unfold Instr.loadAt
            rw [Sem.run_bind, run_sureAddr]
            exact h3
        | _ => rw [hpv] at hpr; cases hpr
      · cases hv
    · cases hq
  case nilCheck x =>
    cases hx : opd x with
    | none => simp [hx] at hq
    | some x' =>
      simp only [hx, Option.map_some, Option.some.injEq] at hq
      subst hq
      have hxr := opd_rep (σ := σ) (w := w) hx fun t ht => hl t (by simp [ht])
      simp only [QOp.ev] at hv
      generalize hev : x'.ev a = xv at hv hxr
      generalize hu : act.eval x = u at hxr
      cases hxr <;> simp only [reduceCtorEq, Option.some.injEq] at hv
      · subst hv; exact OkQ.same hs (by simp only [execOp, hu]; rfl) (.ptr _ _)
      · rename_i hA; subst hv; exact OkQ.same hs (by simp only [execOp, hu]; rfl) (.imm hA)
  case binOp op T x y T' =>
    split at hq
    · rename_i x' y' hx hy
      have hxr := opd_rep (σ := σ) (w := w) hx fun t ht => hl t (by simp [ht])
      have hyr := opd_rep (σ := σ) (w := w) hy fun t ht => hl t (by simp [ht])
      have plain : ∀ {r}, binV op (x'.ev a) (y'.ev a) = some r → OkQ P ⟨dst, .binOp op T x y T', type, pos, after, guard⟩ σ w act r := by
        intro r hr
        obtain ⟨z, h1, h2⟩ := run_binV (P := P) (T := T) hxr hyr hr
        refine OkQ.same hs (u := z) ?_ h2
        simp only [execOp, Sem.run_bind, run_eqGuard_plain (P := P) (T := T) (X := x) (Y := y) hxr hyr hr, Result.andThen, h1]
        rfl
      split at hq
      · rename_i heq
        split at hq
        · rename_i k hk
          injection hq with hq; subst hq
          simp only [QOp.ev] at hv
          split at hv
          · rename_i b hb
            injection hv with hv; subst hv
            have h1 := run_eqGuard_eqV (P := P) (w := w) (T := T) (X := x) (Y := y) (op := op) hxr hyr hb
            have h2 := run_eqV (P := P) hk hxr hyr hb
            refine OkQ.same hs (u := .bool (if (op == .neq) = true then !b else b)) ?_ (.bool _)
            have h3 := run_binop_eq (P := P) heq hxr hyr hb h2
            simp only [execOp, Sem.run_bind, h1, Result.andThen, h3]
            rfl
          · cases hv
        · split at hq
          · rename_i l hl'
            injection hq with hq; subst hq
            simp only [QOp.ev] at hv
            split at hv
            · rename_i cs ds hcs hds
              split at hv
              · rename_i b hb
                injection hv with hv; subst hv
                rw [hcs] at hxr
                rw [hds] at hyr
                generalize hu : act.eval x = u at hxr
                generalize hu' : act.eval y = u' at hyr
                cases hxr with
                | agg hxs =>
                  rename_i vs1
                  cases hyr with
                  | agg hys =>
                    rename_i vs2
                    obtain ⟨h1, h2⟩ := run_eqs (P := P) (op := op) (X := x) (Y := y) hl' hxs hys hb
                    refine OkQ.same hs (u := .bool (if (op == .neq) = true then !b else b)) ?_ (.bool _)
                    have h3 : (Go.binOp op T (.agg ⟨vs1⟩) (.agg ⟨vs2⟩)).run P w = .ok (.bool (if (op == .neq) = true then !b else b)) w := by
                      cases op <;> simp only [isEq, Bool.false_eq_true] at heq
                      · rw [run_eql_struct, h2]; rfl
                      · rw [run_neq_struct, h2]; rfl
                    simp only [execOp, hu, hu', Sem.run_bind, h1, Result.andThen, h3]
                    rfl
              · cases hv
            · cases hv
          · injection hq with hq; subst hq
            exact plain hv
      · injection hq with hq; subst hq
        exact plain hv
    · cases hq
  case unOp op T x =>
    cases hx : opd x with
    | none => simp [hx] at hq
    | some x' =>
      simp only [hx, Option.map_some, Option.some.injEq] at hq
      subst hq
      have hxr := opd_rep (σ := σ) (w := w) hx fun t ht => hl t (by simp [ht])
      simp only [QOp.ev] at hv
      generalize hev : x'.ev a = xv at hv hxr
      generalize hu : act.eval x = u at hxr
      cases op <;> cases hxr <;> simp only [reduceCtorEq, Option.some.injEq] at hv
      · subst hv; exact OkQ.same hs (by simp only [execOp, hu]; rfl) (.int _ _)
      · rename_i k n
        simp only [binI, Option.some.injEq] at hv
        subst hv
        exact OkQ.same hs (by simp only [execOp, hu]; rfl) (.int _ _)
      · subst hv; exact OkQ.same hs (by simp only [execOp, hu]; rfl) (.bool _)
  case makeInterface T x =>
    split at hq
    · cases hq
    · rename_i x' d hne hx hT
      injection hq with hq; subst hq
      have hxr := opd_rep (σ := σ) (w := w) hx fun t ht => hl t (by simp [ht])
      injection hv with hv; subst hv
      refine val (s := Instr.makeInterface T (act.eval x)) (u := .iface T (act.eval x)) rfl ?_ (.iface hxr)
      unfold Instr.makeInterface
      rw [Sem.run_bind, run_und hT]
      simp only [Result.andThen]
      cases d <;> first | rfl | (exfalso; exact hne _ rfl)
    · cases hq
  case makeFunc fn f c =>
    split at hq
    · rename_i f' c' hf hc
      injection hq with hq; subst hq
      injection hv with hv; subst hv
      have h1 := opds_rep (σ := σ) (w := w) hf fun t ht => hl t (by simp [ht])
      have h2 := opds_rep (σ := σ) (w := w) hc fun t ht => hl t (by simp [ht])
      refine val (s := Instr.makeFunc fn (f.map act.eval) (c.map act.eval)) (u := .func fn ⟨f.toList.map act.eval⟩ ⟨c.toList.map act.eval⟩) rfl ?_ (.func h1 h2)
      have e1 : f.map act.eval = ⟨f.toList.map act.eval⟩ := by apply Array.ext'; simp
      have e2 : c.map act.eval = ⟨c.toList.map act.eval⟩ := by apply Array.ext'; simp
      rw [e1, e2]
      rfl
    · cases hq
  case fieldAddr T x f =>
    split at hq
    · rename_i x' o ft hx hf
      split at hq
      · rename_i n hn
        injection hq with hq; subst hq
        have hxr := opd_rep (σ := σ) (w := w) hx fun t ht => hl t (by simp [ht])
        simp only [QOp.ev] at hv
        generalize hev : x'.ev a = xv at hv hxr
        generalize hu : act.eval x = u at hxr
        cases hxr <;> simp only [reduceCtorEq, Option.some.injEq] at hv
        · subst hv
          exact val (s := Instr.fieldAt T (act.eval x) f) rfl (by rw [hu]; exact ok_fa hf hn) (.ptr _ _)
        · rename_i hA
          subst hv
          exact val (s := Instr.fieldAt T (act.eval x) f) rfl (by rw [hu]; exact ok_fa hf hn) (.imm (hA.drop o))
      · cases hq
    · cases hq
  case field T x f =>
    split at hq
    · rename_i x' o ft hx hf
      cases hn : aggOf P ft with
      | none => simp [hn] at hq
      | some n =>
        simp only [hn, Option.map_some, Option.some.injEq] at hq
        subst hq
        have hxr := opd_rep (σ := σ) (w := w) hx fun t ht => hl t (by simp [ht])
        simp only [QOp.ev] at hv
        generalize hev : x'.ev a = xv at hv hxr
        generalize hu : act.eval x = u at hxr
        cases hxr <;> simp only [reduceCtorEq] at hv
        rename_i hR
        obtain ⟨u, h1, h2⟩ := ok_field (P := P) hf hn hR hv
        exact val (s := Instr.field T (act.eval x) f) rfl (by rw [hu]; exact h1) h2
    · cases hq
  case extract x i =>
    cases hx : opd x with
    | none => simp [hx] at hq
    | some x' =>
      simp only [hx, Option.map_some, Option.some.injEq] at hq
      subst hq
      have hxr := opd_rep (σ := σ) (w := w) hx fun t ht => hl t (by simp [ht])
      simp only [QOp.ev] at hv
      generalize hev : x'.ev a = xv at hv hxr
      generalize hu : act.eval x = u at hxr
      cases hxr <;> simp only [reduceCtorEq] at hv
      rename_i hR
      obtain ⟨u, h1, h2⟩ := hR.get hv
      refine val (s := Instr.extract (act.eval x) i) (u := u) rfl ?_ h2
      rw [hu]
      simp only [Instr.extract]
      rename_i vs
      have : (⟨vs⟩ : Array Value)[i]? = some u := by simpa using h1
      rw [this]
      rfl
  case indexAddr T x i =>
    split at hq
    · rename_i x' i' e hx hi hT
      cases hse : sizeT P e with
      | none => simp [hse] at hq
      | some sz =>
        simp only [hse, Option.map_some, Option.some.injEq] at hq
        subst hq
        have hxr := opd_rep (σ := σ) (w := w) hx fun t ht => hl t (by simp [ht])
        have hir := opd_rep (σ := σ) (w := w) hi fun t ht => hl t (by simp [ht])
        simp only [QOp.ev] at hv
        split at hv
        · rename_i k xs n hxe hn
          obtain ⟨k', hiv, _⟩ := intV_rep hir hn
          split at hv
          · cases hv
          · rename_i hneg
            split at hv
            · rename_i y hy
              split at hv
              · rename_i hyc
                injection hv with hv; subst hv
                rw [hxe] at hxr
                generalize hu : act.eval x = u at hxr
                cases hxr with
                | slE A c => simp at hy
                | slN => simp at hy
                | sl h1 h2 h3 h4 h5 =>
                  obtain ⟨h6, h7⟩ := h1.at hy
                  have hlt := (List.getElem?_eq_some_iff.1 hy).1
                  refine val (s := Instr.indexAt T (act.eval x) (act.eval i)) rfl ?_ (.imm h7)
                  rw [hu, hiv, ← h6, hyc]
                  exact ok_ia hT hse (by omega) (by omega)
              · cases hv
            · cases hv
        · rename_i b o m c n hxe hn
          obtain ⟨k', hiv, _⟩ := intV_rep hir hn
          split at hv
          · cases hv
          · rename_i hneg
            split at hv
            · rename_i hlt
              injection hv with hv; subst hv
              rw [hxe] at hxr
              generalize hu : act.eval x = u at hxr
              cases hxr
              refine val (s := Instr.indexAt T (act.eval x) (act.eval i)) rfl ?_ (.ptr _ _)
              rw [hu, hiv]
              exact ok_ia hT hse (by omega) hlt
            · cases hv
        · cases hv
    · rename_i x' i' m e hx hi hT
      cases hse : sizeT P e with
      | none => simp [hse] at hq
      | some sz =>
        simp only [hse, Option.map_some, Option.some.injEq] at hq
        subst hq
        have hxr := opd_rep (σ := σ) (w := w) hx fun t ht => hl t (by simp [ht])
        have hir := opd_rep (σ := σ) (w := w) hi fun t ht => hl t (by simp [ht])
        simp only [QOp.ev] at hv
        split at hv
        · rename_i b o n hxe hn
          obtain ⟨k', hiv, _⟩ := intV_rep hir hn
          split at hv
          · cases hv
          · rename_i hneg
            split at hv
            · rename_i hlt
              injection hv with hv; subst hv
              rw [hxe] at hxr
              generalize hu : act.eval x = u at hxr
              cases hxr
              refine val (s := Instr.indexAt T (act.eval x) (act.eval i)) rfl ?_ (.ptr _ _)
              rw [hu, hiv]
              exact ok_iaa hT hse (by omega) hlt
            · cases hv
        · rename_i cs n hxe hn
          obtain ⟨k', hiv, _⟩ := intV_rep hir hn
          split at hv
          · cases hv
          · rename_i hneg
            split at hv
            · rename_i hlt
              injection hv with hv; subst hv
              rw [hxe] at hxr
              generalize hu : act.eval x = u at hxr
              cases hxr with
              | imm hA =>
                refine val (s := Instr.indexAt T (act.eval x) (act.eval i)) rfl ?_ (.imm (hA.drop _))
                rw [hu, hiv]
                exact ok_iaa hT hse (by omega) hlt
            · cases hv
        · cases hv
    · cases hq
  case index T x i =>
    split at hq
    · rename_i x' i' hx hi hT
      injection hq with hq; subst hq
      have hxr := opd_rep (σ := σ) (w := w) hx fun t ht => hl t (by simp [ht])
      have hir := opd_rep (σ := σ) (w := w) hi fun t ht => hl t (by simp [ht])
      simp only [QOp.ev] at hv
      split at hv
      · rename_i l n hxe hn
        obtain ⟨k', hiv, _⟩ := intV_rep hir hn
        split at hv
        · cases hv
        · rename_i hneg
          split at hv
          · rename_i c hc
            injection hv with hv; subst hv
            rw [hxe] at hxr
            generalize hu : act.eval x = u at hxr
            cases hxr
            refine val (s := Instr.index T (act.eval x) (act.eval i)) rfl ?_ (.int _ _)
            rw [hu, hiv]
            exact ok_idx hT (by omega) hc
          · cases hv
      · cases hv
    · cases hq
  case slice T x lo hi mx =>
    cases mx with
    | some m => cases hq
    | none =>
      simp only at hq
      split at hq
      · rename_i x' s hx hT
        have hxr := opd_rep (σ := σ) (w := w) hx fun t ht => hl t (by simp [ht])
        cases lo with
        | none =>
          cases hi with
          | none =>
            simp only [Option.some.injEq] at hq
            subst hq
            simp only [QOp.ev] at hv
            split at hv
            · rename_i n hn
              obtain ⟨u, h1, h2⟩ := ok_sl (P := P) (lo := none) (hi := none) hT hxr (.inl ⟨rfl, rfl⟩) (.inl ⟨rfl, n, hn, rfl⟩) hv
              exact val (s := Instr.sliceAt T (act.eval x) none none none) rfl h1 h2
            · cases hv
          | some hi =>
            simp only at hq
            cases hh : opd hi with
            | none => simp [hh] at hq
            | some hi' =>
              simp only [hh, Option.map_some, Option.some.injEq] at hq
              subst hq
              have hhr := opd_rep (σ := σ) (w := w) hh fun t ht => hl t (by simp [ht])
              simp only [QOp.ev] at hv
              split at hv
              · rename_i n hn
                obtain ⟨k', hiv, _⟩ := intV_rep hhr hn
                obtain ⟨u, h1, h2⟩ := ok_sl (P := P) (lo := none) (hi := some (act.eval hi)) hT hxr (.inl ⟨rfl, rfl⟩) (.inr ⟨k', by rw [hiv]⟩) hv
                exact val (s := Instr.sliceAt T (act.eval x) none (some (act.eval hi)) none) rfl h1 h2
              · cases hv
        | some lo =>
          cases hi with
          | none =>
            simp only at hq
            cases hh : opd lo with
            | none => simp [hh] at hq
            | some lo' =>
              simp only [hh, Option.map_some, Option.some.injEq] at hq
              subst hq
              have hhr := opd_rep (σ := σ) (w := w) hh fun t ht => hl t (by simp [ht])
              simp only [QOp.ev] at hv
              split at hv
              · rename_i l n hll hn
                obtain ⟨k', hiv, _⟩ := intV_rep hhr hll
                obtain ⟨u, h1, h2⟩ := ok_sl (P := P) (lo := some (act.eval lo)) (hi := none) hT hxr (.inr ⟨k', by rw [hiv]⟩) (.inl ⟨rfl, n, hn, rfl⟩) hv
                exact val (s := Instr.sliceAt T (act.eval x) (some (act.eval lo)) none none) rfl h1 h2
              · cases hv
          | some hi =>
            simp only at hq
            split at hq
            · rename_i lo' hi' hlo hhi
              injection hq with hq; subst hq
              have hlr := opd_rep (σ := σ) (w := w) hlo fun t ht => hl t (by simp [ht])
              have hhr := opd_rep (σ := σ) (w := w) hhi fun t ht => hl t (by simp [ht])
              simp only [QOp.ev] at hv
              split at hv
              · rename_i l n hll hn
                obtain ⟨k', hiv, _⟩ := intV_rep hlr hll
                obtain ⟨k'', hiv', _⟩ := intV_rep hhr hn
                obtain ⟨u, h1, h2⟩ := ok_sl (P := P) (lo := some (act.eval lo)) (hi := some (act.eval hi)) hT hxr (.inr ⟨k', by rw [hiv]⟩) (.inr ⟨k'', by rw [hiv']⟩) hv
                exact val (s := Instr.sliceAt T (act.eval x) (some (act.eval lo)) (some (act.eval hi)) none) rfl h1 h2
              · cases hv
            · cases hq
      · cases hq
  case convert S D x =>
    split at hq
    · rename_i x' k k' hx hS hD
      injection hq with hq; subst hq
      have hxr := opd_rep (σ := σ) (w := w) hx fun t ht => hl t (by simp [ht])
      simp only [QOp.ev] at hv
      generalize hev : x'.ev a = xv at hv hxr
      generalize hu : act.eval x = u at hxr
      cases hxr <;> simp only [reduceCtorEq, Option.some.injEq] at hv
      subst hv
      refine val (s := convert S D (act.eval x)) rfl ?_ (.int _ _)
      rw [hu]
      simp [convert, run_und hS, run_und hD, Conv.intToInt]
    · rename_i x' hx hS hD
      injection hq with hq; subst hq
      have hxr := opd_rep (σ := σ) (w := w) hx fun t ht => hl t (by simp [ht])
      simp only [QOp.ev] at hv
      generalize hev : x'.ev a = xv at hv hxr
      generalize hu : act.eval x = u at hxr
      cases hxr <;> simp only [reduceCtorEq, Option.some.injEq] at hv
      subst hv
      refine val (s := convert S D (act.eval x)) rfl ?_ (.str _)
      rw [hu]
      simp [convert, run_und hS, run_und hD]
    · rename_i x' e hx hS hD
      split at hq
      · rename_i he
        injection hq with hq; subst hq
        have hxr := opd_rep (σ := σ) (w := w) hx fun t ht => hl t (by simp [ht])
        simp only [QOp.ev] at hv
        split at hv
        · rename_i k xs hxe
          split at hv
          · rename_i l hb
            injection hv with hv; subst hv
            rw [hxe] at hxr
            exact val (s := convert S D (act.eval x)) rfl (ok_b2s hS he hD hxr hb) (.str _)
          · cases hv
        · rename_i b o n c hxe
          split at hv
          · rename_i cs hk
            split at hv
            · rename_i hfit
              split at hv
              · rename_i l hb
                injection hv with hv; subst hv
                rw [hxe] at hxr
                generalize hu : act.eval x = u at hxr
                cases hxr
                exact val (s := convert S D (act.eval x)) rfl (by rw [hu]; exact ok_b2m hS he hD hs hk hfit hb) (.str _)
              · cases hv
            · cases hv
          · cases hv
        · cases hv
      · cases hq
    · cases hq
  case typeAssert x xT t ok =>
    split at hq
    · cases hq
    · rename_i x' d z hne hx hT hz
      injection hq with hq; subst hq
      have hxr := opd_rep (σ := σ) (w := w) hx fun t ht => hl t (by simp [ht])
      obtain ⟨ti, zv, hi, hzv, hof⟩ := zeroT_spec hz
      have hzr := ofVal_rep (σ := σ) (w := w) hof
      simp only [QOp.ev] at hv
      generalize hev : x'.ev a = xv at hv hxr
      generalize hu : act.eval x = u at hxr
      have hni : ∀ ms, d ≠ .interface ms := fun ms hd => hne ms hd
      cases hxr <;> simp only [reduceCtorEq] at hv
      · rename_i s b v' hb
        split at hv
        · rename_i hst
          subst hst
          injection hv with hv; subst hv
          refine val (s := Instr.typeAssert (act.eval x) xT s ok) (u := if ok then .tuple #[v', .bool true] else v') rfl ?_ ?_
          · rw [hu]
            unfold Instr.typeAssert
            simp only [Sem.run_bind, run_und hT, Result.andThen]
            cases d <;> first | (exfalso; exact hni _ rfl) | (cases ok <;> simp)
          · cases ok
            · exact hb
            · exact .tuple (.cons hb (.cons (.bool _) .nil))
        · rename_i hst
          split at hv
          · rename_i hok
            injection hv with hv; subst hv
            refine val (s := Instr.typeAssert (act.eval x) xT t ok) (u := .tuple #[zv, .bool false]) rfl ?_ (.tuple (.cons hzr (.cons (.bool _) .nil)))
            rw [hu]
            unfold Instr.typeAssert
            simp only [Sem.run_bind, run_und hT, Result.andThen]
            cases d <;> first | (exfalso; exact hni _ rfl) | (simp [hst, hok, run_zv hi hzv])
          · cases hv
      · split at hv
        · rename_i hok
          injection hv with hv; subst hv
          refine val (s := Instr.typeAssert (act.eval x) xT t ok) (u := .tuple #[zv, .bool false]) rfl ?_ (.tuple (.cons hzr (.cons (.bool _) .nil)))
          rw [hu]
          unfold Instr.typeAssert
          simp only [Sem.run_bind, run_und hT, Result.andThen]
          cases d <;> first | (exfalso; exact hni _ rfl) | (simp [hok, run_zv hi hzv])
        · cases hv
    · cases hq
  case call c =>
    obtain ⟨callee, ⟨args⟩, ⟨ats⟩⟩ := c
    cases callee with
    | value f => cases hq
    | invoke r m => cases hq
    | builtin b =>
      have two : ∀ (x y : Operand) (x' y' : Opd) (mx : Bool), args = [x, y] → opd x = some x' → opd y = some y' → q = .mnx mx x' y' → b = (if mx then .max else .min) →
          OkQ P ⟨dst, .call { callee := .builtin b, args := ⟨args⟩, argTypes := ⟨ats⟩ }, type, pos, after, guard⟩ σ w act v := by
        rintro x y x' y' mx rfl hx hy rfl rfl
        have hxr := opd_rep (σ := σ) (w := w) hx fun t ht => hl t (by simp [Call.operands, ht])
        have hyr := opd_rep (σ := σ) (w := w) hy fun t ht => hl t (by simp [Call.operands, ht])
        simp only [QOp.ev] at hv
        split at hv
        · rename_i k m k' n hxe hye
          injection hv with hv; subst hv
          rw [hxe] at hxr
          rw [hye] at hyr
          generalize hu : act.eval x = u at hxr
          generalize hu' : act.eval y = u' at hyr
          cases hxr
          cases hyr
          refine OkQ.same hs ?_ (.int _ _)
          cases mx
          · exact run_builtin (map_two act x y) (fun _ => rfl) (by rw [hu, hu']; exact run_min_int2 w _ _ k k' m n)
          · exact run_builtin (map_two act x y) (fun _ => rfl) (by rw [hu, hu']; exact run_max_int2 w _ _ k k' m n)
        · cases hv
      have one : ∀ (x : Operand) (t : TypeId), args = [x] → ats = [t] → b = .len → (match opd x, P.underlying t with
          | some x, some .string => some (QOp.lenS x)
          | some x, some (.slice _) => some (.len x)
          | _, _ => none) = some q → OkQ P ⟨dst, .call { callee := .builtin b, args := ⟨args⟩, argTypes := ⟨ats⟩ }, type, pos, after, guard⟩ σ w act v := by
        rintro x t rfl rfl rfl hq
        split at hq
        · rename_i x' hx hT
          injection hq with hq; subst hq
          have hxr := opd_rep (σ := σ) (w := w) hx fun t ht => hl t (by simp [Call.operands, ht])
          simp only [QOp.ev] at hv
          generalize hev : x'.ev a = xv at hv hxr
          generalize hu : act.eval x = u at hxr
          cases hxr <;> simp only [reduceCtorEq, Option.some.injEq] at hv
          subst hv
          refine OkQ.same hs ?_ (.int _ _)
          exact run_builtin (map_one act x) (fun _ => rfl) (by rw [hu]; exact run_lenS hT)
        · rename_i x' e hx hT
          injection hq with hq; subst hq
          have hxr := opd_rep (σ := σ) (w := w) hx fun t ht => hl t (by simp [Call.operands, ht])
          simp only [QOp.ev] at hv
          have fin : ∀ (A : Option Addr) (n c : Nat), act.eval x = .slice A n c → (execOp act.eval ⟨dst, .call { callee := .builtin .len, args := ⟨[x]⟩, argTypes := ⟨[t]⟩ }, type, pos, after, guard⟩).run P w = .ok (.value (.int .i64 n)) w := by
            intro A n c hA
            exact run_builtin (map_one act x) (fun _ => rfl) (by rw [hA]; exact run_lenL hT)
          generalize hev : x'.ev a = xv at hv hxr
          generalize hu : act.eval x = u at hxr
          cases hxr <;> simp only [reduceCtorEq, Option.some.injEq] at hv
          · subst hv; exact OkQ.same hs (fin _ _ _ hu) (.int _ _)
          · subst hv; exact OkQ.same hs (fin _ _ _ hu) (.int _ _)
          · rename_i h2 _ _ _; subst hv h2; exact OkQ.same hs (fin _ _ _ hu) (.int _ _)
          · subst hv; exact OkQ.same hs (fin _ _ _ hu) (.int _ _)
        · cases hq
      cases b <;> (try simp only at hq) <;> (try cases hq; done)
      · match args, ats, hq with
        | [x], [t], hq => exact one x t rfl rfl rfl hq
      · match args, hq with
        | [x, y], hq =>
          simp only at hq
          split at hq
          · rename_i x' y' hx hy
            injection hq with hq
            exact two x y x' y' true rfl hx hy hq.symm rfl
          · cases hq
      · match args, hq with
        | [x, y], hq =>
          simp only at hq
          split at hq
          · rename_i x' y' hx hy
            injection hq with hq
            exact two x y x' y' false rfl hx hy hq.symm rfl
          · cases hq
end
end Go.A
