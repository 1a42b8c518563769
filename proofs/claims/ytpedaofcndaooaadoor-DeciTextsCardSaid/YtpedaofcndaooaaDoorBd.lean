/- THE LAW OF THE OPERATIONS THAT ACT: what is compiled is what runs. -/
import Derived.Test.YtpedaofcndaooaaDoorBc
namespace Go.A
set_option linter.unusedSimpArgs false
set_option linter.unusedVariables false
section
variable {P : Program} {σ : ASt} {w : World}

theorem okFn_spec {f : FuncId} (h : okFn P f = true) : ∃ fn, P.funcs[f]? = some fn ∧ fn.body.isSome = true ∧ (fn.name == "runtime.NumGoroutine") = false := by
  unfold okFn at h
  split at h
  · rename_i fn hf
    simp only [Bool.and_eq_true, bne_iff_ne, ne_eq] at h
    exact ⟨fn, hf, h.1, by simpa using h.2⟩
  · cases h

theorem run_callFunc {f : FuncId} (h : okFn P f = true) (args : Array Value) : (callFunc f args).run P w = .ok (.enter f args) w := by
  obtain ⟨fn, h1, h2, h3⟩ := okFn_spec h
  have h4 : fn.body.isNone = false := by cases hb : fn.body <;> simp_all
  unfold callFunc
  simp only [program, Sem.run_bind, Sem.run, Result.andThen, h1, h3, h4, Bool.false_eq_true, if_false, Sem.run_pure]

theorem goes_call {o : Oper} {c : Call} {x : Operand} {f : FuncId} {act : Act} {next : Act → World → Prop} {Q : Exit → Act → World → Prop} {K : AV → ASt → Prop} {first cap as : List AV} {first' cap' : List Value}
    (ho : o.op = .call c) (hc : c.callee = .value x) (hx : act.eval x = .func (.func f) ⟨first'⟩ ⟨cap'⟩) (hf : okFn P f = true) (hs : Sim σ w) (h1 : Reps σ w first first') (h2 : Reps σ w cap cap')
    (h3 : Reps σ w as (c.args.toList.map act.eval)) (hK : ACalls P f (first ++ as ++ cap) σ K) : Goes P o act σ w K next Q := by
  intro hnext
  have hargs : c.args.map act.eval = ⟨c.args.toList.map act.eval⟩ := by apply Array.ext'; simp
  have hrun : (execOp act.eval o).run P w = .ok (.enter f ⟨first' ++ c.args.toList.map act.eval ++ cap'⟩) w := by
    simp only [execOp, ho, resolve, hc, hx, Deferred.ofValue, Sem.run_bind, Sem.run_pure, Result.andThen, invoke, hargs]
    rw [run_callFunc hf]
    congr 2
    apply Array.ext'
    simp
  unfold Oper.wp
  rw [hrun, Oper.upon_enter]
  refine (hK w _ hs ((h1.append h3).append h2)).mono ?_
  rintro e w' ⟨u, r, σ', rfl, h4, h5, h6, h7⟩
  exact hnext _ _ _ _ h4 h5 h6 h7

theorem goes_app {o : Oper} {t u e : TypeId} {i : TypeInfo} {z : Value} {x y : Operand} {act : Act} {next : Act → World → Prop} {Q : Exit → Act → World → Prop} {K : AV → ASt → Prop}
    (ho : o.op = .call { callee := .builtin .append, args := ⟨[x, y]⟩, argTypes := ⟨[t, u]⟩ }) (ht : P.underlying t = some (.slice e)) (hi : P.info? e = some i) (hz : i.zero = some z) (hpos : 0 < i.size) (hzs : z.cells.size = i.size)
    {k : SK} {xs ys : List AV} {news : List Value} (hs : Sim σ w) (hx : Rep σ w (.sl k xs) (act.eval x)) (hc : canApp σ k xs i.size) (hsrc : Src P i.size u (act.eval y) ys.length news w) (hy : ∀ y ∈ ys, y.cells.length = i.size)
    (hr : Reps σ w (ys.flatMap AV.cells) news) (hb : (xs.length + ys.length) * i.bytes ≤ 140737488355328) (h63 : xs.length + ys.length ≤ 4611686018427387904)
    (hK : ∀ k' σ', App e σ k i.size xs.length ys.length k' σ' → K (.sl k' (xs ++ ys)) σ') : Goes P o act σ w K next Q := by
  intro hnext
  obtain ⟨v, w', k', σ', h1, h2, h3, h4, h5⟩ := run_app (ty := o.type) ht hi hz hpos hzs hs hx hc hsrc hy hr hb h63
  have hrun : (execOp act.eval o).run P w = .ok (.value v) w' := by
    obtain ⟨dst, op, type, pos, after, guard⟩ := o
    subst ho
    exact run_builtin (map_two act x y) (fun _ => rfl) h1
  unfold Oper.wp
  rw [hrun]
  exact hnext _ _ _ _ (hK k' σ' h2) h3 h4 h5

theorem goes_builtin {o : Oper} {t u : TypeId} {x y : Operand} {act : Act} {next : Act → World → Prop} {Q : Exit → Act → World → Prop} {K : AV → ASt → Prop} (ho : o.op = .call { callee := .builtin .append, args := ⟨[x, y]⟩, argTypes := ⟨[t, u]⟩ })
    {v : Value} {w' : World} {r : AV} {σ' : ASt} (h1 : (Builtin.append_ #[t, u] o.type #[act.eval x, act.eval y]).run P w = .ok v w') (h2 : K r σ') (h3 : Le σ w σ' w') (h4 : Sim σ' w') (h5 : Rep σ' w' r v) : Goes P o act σ w K next Q := by
  intro hnext
  have hrun : (execOp act.eval o).run P w = .ok (.value v) w' := by
    obtain ⟨dst, op, type, pos, after, guard⟩ := o
    subst ho
    exact run_builtin (map_two act x y) (fun _ => rfl) h1
  unfold Oper.wp
  rw [hrun]
  exact hnext _ _ _ _ h2 h3 h4 h5
theorem za_reps {z : Value} {σ : ASt} {w : World} {s : Nat} (hzs : z.cells.size = s) (hza : ∀ v', ofVal z = some v' → Reps σ w v'.cells z.cells.toList) (hsome : (ofVal z).isSome = true) : Reps σ w (((ofVal z).map AV.cells).getD []) z.cells.toList := by
  obtain ⟨v', hv'⟩ := Option.isSome_iff_exists.1 hsome
  rw [hv']
  exact hza v' hv'
theorem goes_own {o : Oper} {t u e : TypeId} {i : TypeInfo} {z : Value} {x y : Operand} {act : Act} {next : Act → World → Prop} {Q : Exit → Act → World → Prop} {K : AV → ASt → Prop}
    (ho : o.op = .call { callee := .builtin .append, args := ⟨[x, y]⟩, argTypes := ⟨[t, u]⟩ }) (ht : P.underlying t = some (.slice e)) (hi : P.info? e = some i) (hz : i.zero = some z) (hzs : z.cells.size = i.size) (hsome : (ofVal z).isSome = true)
    (hza : ∀ v', ofVal z = some v' → Reps σ w v'.cells z.cells.toList)
    {xs ys : List AV} {news : List Value} (hs : Sim σ w) (hx : Rep σ w (.sl .full xs) (act.eval x)) (hc : canApp σ .full xs i.size) (hsrc : Src P i.size u (act.eval y) ys.length news w)
    (hr : Reps σ w (ys.flatMap AV.cells) news) (hb : (xs.length + ys.length) * i.bytes ≤ 140737488355328) (h63 : xs.length + ys.length ≤ 4611686018427387904) (hy0 : 0 < ys.length)
    (hK : ∀ b c, σ b = none → xs.length + ys.length ≤ c → K (.msl b 0 (xs.length + ys.length) c) (σ.set b (some (.obj (ownRow i.size (((ofVal z).map AV.cells).getD []) (xs.flatMap AV.cells ++ ys.flatMap AV.cells) (xs.length + ys.length) c))))) : Goes P o act σ w K next Q := by
  have hxl : ∀ x ∈ xs, x.cells.length = i.size := wellSz_lens hc
  cases hxv : act.eval x with
  | slice A n c =>
    rw [hxv] at hx
    obtain ⟨us, hus, hul, hn, hnc, hA⟩ := sl_vals hx hxl
    subst hn
    have hg : c < xs.length + ys.length := by
      cases hx with
      | slN => simp; omega
      | sl h1 h2 h3 h4 h5 => have : c = xs.length := h4; omega
    have hold : (Builtin.firstCells i.size xs.length (.slice A xs.length c)).run P w.drew = .ok us.toArray w.drew := by
      rcases hA with rfl | ⟨b, o, rfl, h4⟩
      · have : us = [] := by cases hus; rfl
        subst this
        cases A with
        | none => exact run_firstCells_none w.drew _ _ _ _
        | some A => exact run_firstCells_some w.drew _ _ _ _ _ [] (by simp) (by simp)
      · exact run_firstCells_some w.drew _ _ _ _ _ us hul (fun j v hj => by rw [addr_add']; exact h4 j v hj)
    obtain ⟨v, w', c', h1, h2, h3, h4, h5, h6⟩ := run_app_own (ty := o.type) ht hi hz hzs (za_reps hzs hza hsome) hs hold hus hul hsrc hr hg hb h63
    exact goes_builtin ho (by rw [hxv]; exact h1) (hK _ c' h3 h2) h4 h5 h6
  | _ => rw [hxv] at hx; cases hx
theorem goes_msl {o : Oper} {t u e : TypeId} {i : TypeInfo} {z : Value} {x y : Operand} {act : Act} {next : Act → World → Prop} {Q : Exit → Act → World → Prop} {K : AV → ASt → Prop}
    (ho : o.op = .call { callee := .builtin .append, args := ⟨[x, y]⟩, argTypes := ⟨[t, u]⟩ }) (ht : P.underlying t = some (.slice e)) (hi : P.info? e = some i) (hz : i.zero = some z) (hzs : z.cells.size = i.size) (hsome : (ofVal z).isSome = true)
    (hza : ∀ v', ofVal z = some v' → Reps σ w v'.cells z.cells.toList)
    {b off n c : Nat} {cs ys : List AV} {news : List Value} (hs : Sim σ w) (hx : Rep σ w (.msl b off n c) (act.eval x)) (hbo : σ b = some (.obj cs)) (hsrc : Src P i.size u (act.eval y) ys.length news w)
    (hr : Reps σ w (ys.flatMap AV.cells) news) (hb : (n + ys.length) * i.bytes ≤ 140737488355328) (h63 : n + ys.length ≤ 4611686018427387904) (h0 : off + n * i.size ≤ cs.length)
    (hK1 : n + ys.length ≤ c → off + (n + ys.length) * i.size ≤ cs.length ∧ K (.msl b off (n + ys.length) c) (σ.set b (some (.obj (splice cs (off + n * i.size) (ys.length * i.size) (ys.flatMap AV.cells))))))
    (hK2 : c < n + ys.length → ∀ b' c', σ b' = none → n + ys.length ≤ c' → K (.msl b' 0 (n + ys.length) c') (σ.set b' (some (.obj (ownRow i.size (((ofVal z).map AV.cells).getD []) ((cs.drop off).take (n * i.size) ++ ys.flatMap AV.cells) (n + ys.length) c'))))) : Goes P o act σ w K next Q := by
  generalize hxv : act.eval x = xv at hx
  cases hx
  by_cases hroom : n + ys.length ≤ c
  · obtain ⟨h1, h2⟩ := hK1 hroom
    obtain ⟨v, w', h3, h4, h5, h6⟩ := run_app_room (ty := o.type) ht hi hs hbo hsrc hr hroom h1
    exact goes_builtin ho (by rw [hxv]; exact h3) h2 h4 h5 h6
  · obtain ⟨vs, h1, h2, _⟩ := hs.objCell hbo
    have hvl := h1.length
    have hus := (h1.drop off).take (n * i.size)
    have hul : ((vs.drop off).take (n * i.size)).length = n * i.size := by rw [List.length_take, List.length_drop]; omega
    have hold : (Builtin.firstCells i.size n (.slice (some ⟨b, off, none⟩) n c)).run P w.drew = .ok ((vs.drop off).take (n * i.size)).toArray w.drew :=
      run_firstCells_some w.drew _ _ _ _ _ _ hul (fun j v hj => by
        rw [addr_add']
        rw [List.getElem?_take] at hj
        split at hj
        · exact h2 (off + j) v (by simpa using hj)
        · cases hj)
    obtain ⟨v, w', c', h1, h2, h3, h4, h5, h6⟩ := run_app_own (ty := o.type) ht hi hz hzs (za_reps hzs hza hsome) hs hold hus hul hsrc hr (by omega) hb h63
    exact goes_builtin ho (by rw [hxv]; exact h1) (hK2 (by omega) _ c' h3 h2) h4 h5 h6

/-- **What is compiled is what runs.** -/
theorem compE_sound {o : Oper} {q : EOp} {a : AFr} {act : Act} {next : Act → World → Prop} {Q : Exit → Act → World → Prop} {K : AV → ASt → Prop} (hq : compE P o = some q) (hs : Sim σ w)
    (hl : ∀ t, Operand.tmp t ∈ o.op.operands.toList → Rep σ w (a t) (act.tmps.getD t undef)) (h : q.step P a σ K) : Goes P o act σ w K next Q := by
  obtain ⟨dst, op, type, pos, after, guard⟩ := o
  cases op <;> simp only [compE] at hq <;> simp only [Op.operands] at hl <;> (try cases hq; done)
  case alloc T =>
    split at hq
    · rename_i i hi
      split at hq
      · rename_i hv
        injection hq with hq; subst hq
        exact goes_allocT rfl hs hi hv h
      · split at hq
        · rename_i z hz
          injection hq with hq; subst hq
          exact goes_alloc rfl hs hz h
        · cases hq
    · cases hq
  case convert S D x =>
    split at hq
    · rename_i x' e hx hS hD
      split at hq
      · rename_i he
        injection hq with hq; subst hq
        have hxr := opd_rep (σ := σ) (w := w) hx fun t ht => hl t (by simp [ht])
        simp only [EOp.step] at h
        split at h
        · rename_i l hxe
          rw [hxe] at hxr
          generalize hu : act.eval x = u at hxr
          cases hxr
          exact goes_s2b (x := x) rfl hS hD he hs hu h
        · exact h.elim
      · cases hq
    · cases hq
  case makeSlice T n m =>
    split at hq
    · rename_i e n' m' hT hn hm
      split at hq
      · rename_i i z hi hz
        split at hq
        · rename_i hc
          injection hq with hq; subst hq
          have hnr := opd_rep (σ := σ) (w := w) hn fun t ht => hl t (by simp [ht])
          have hmr := opd_rep (σ := σ) (w := w) hm fun t ht => hl t (by simp [ht])
          simp only [EOp.step] at h
          split at h
          · rename_i kn N km M hne hme
            obtain ⟨h1, h2, h3, h4, h5⟩ := h
            rw [hne] at hnr
            rw [hme] at hmr
            generalize hun : act.eval n = un at hnr
            generalize hum : act.eval m = um at hmr
            cases hnr
            cases hmr
            exact goes_mks (n := n) (m := m) rfl hT hi hz hc.1 hc.2.1 hc.2.2 hs hun hum h1 h2 h3 h4 h5
          · exact h.elim
        · cases hq
      · cases hq
    · cases hq
  case range T x =>
    split at hq
    · rename_i x' hT hx
      injection hq with hq; subst hq
      have hxr := opd_rep (σ := σ) (w := w) hx fun t ht => hl t (by simp [ht])
      simp only [EOp.step] at h
      split at h
      · rename_i l hxe
        rw [hxe] at hxr
        generalize hu : act.eval x = u at hxr
        cases hxr
        exact goes_rng (x := x) rfl hT hs hu h
      · exact h.elim
    · cases hq
  case next x isS =>
    cases isS with
    | false => cases hq
    | true =>
      simp only at hq
      cases hx : opd x with
      | none => simp [hx] at hq
      | some x' =>
        simp only [hx, Option.map_some, Option.some.injEq] at hq
        subst hq
        have hxr := opd_rep (σ := σ) (w := w) hx fun t ht => hl t (by simp [ht])
        simp only [EOp.step] at h
        split at h
        · rename_i b hxe
          split at h
          · rename_i l p hb
            rw [hxe] at hxr
            generalize hu : act.eval x = u at hxr
            cases hxr
            exact goes_nxt (x := x) rfl hs hu hb h
          · exact h.elim
        · exact h.elim
  case panic x =>
    injection hq with hq; subst hq
    exact h.elim
  case box T x =>
    cases hx : opd x with
    | none => simp [hx] at hq
    | some x' =>
      simp only [hx, Option.map_some, Option.some.injEq] at hq
      subst hq
      have hxr := opd_rep (σ := σ) (w := w) hx fun t ht => hl t (by simp [ht])
      exact goes_box rfl hs hxr h.1 h.2
  case store T p x =>
    split at hq
    · rename_i p' x' n hp hx hn
      injection hq with hq; subst hq
      have hpr := opd_rep (σ := σ) (w := w) hp fun t ht => hl t (by simp [ht])
      have hxr := opd_rep (σ := σ) (w := w) hx fun t ht => hl t (by simp [ht])
      simp only [EOp.step] at h
      split at h
      · rename_i b off hpe
        split at h
        · rename_i cs hb
          obtain ⟨h1, h2, h3, h4⟩ := h
          rw [hpe] at hpr
          generalize hu : act.eval p = u at hpr
          cases hpr
          exact goes_store (x := x) rfl hn hs hu hxr hb h1 h2 h3 h4
        · exact h.elim
      · exact h.elim
    · cases hq
  case call c =>
    obtain ⟨callee, ⟨args⟩, ⟨ats⟩⟩ := c
    cases callee with
    | invoke r m => cases hq
    | value f =>
      have viaV : ∀ {args' : List Opd} {x' : Opd}, opds args = some args' → opd f = some x' → q = .callv x' args' → Goes P ⟨dst, .call { callee := .value f, args := ⟨args⟩, argTypes := ⟨ats⟩ }, type, pos, after, guard⟩ act σ w K next Q := by
        rintro args' x' ha hx rfl
        have hxr := opd_rep (σ := σ) (w := w) hx fun t ht => hl t (by simp [Call.operands, ht])
        have har := opds_rep (σ := σ) (w := w) ha fun t ht => hl t (by simp [Call.operands, ht])
        simp only [EOp.step] at h
        split at h
        · rename_i g first cap hxe
          rw [hxe] at hxr
          generalize hu : act.eval f = u at hxr
          cases hxr with
          | func h1 h2 => exact goes_call rfl rfl hu h.1 hs h1 h2 har h.2
        · exact h.elim
      simp only at hq
      cases ha : opds args with
      | none => cases f <;> simp [ha] at hq
      | some as' =>
        have gen : ∀ x', opd f = some x' → (opd f).map (fun x => EOp.callv x as') = some q → Goes P ⟨dst, .call { callee := .value f, args := ⟨args⟩, argTypes := ⟨ats⟩ }, type, pos, after, guard⟩ act σ w K next Q := by
          intro x' hx hq
          rw [hx] at hq
          simp only [Option.map_some, Option.some.injEq] at hq
          exact viaV ha hx hq.symm
        cases f with
        | func g =>
          simp only [ha] at hq
          split at hq
          · rename_i hok
            injection hq with hq; subst hq
            have har := opds_rep (σ := σ) (w := w) ha fun t ht => hl t (by simp [Call.operands, ht])
            refine goes_call (first := []) (cap := []) rfl rfl (by rfl) hok hs .nil .nil har ?_
            simpa [EOp.step] using h
          · cases hq
        | tmp t => simp only [ha] at hq; exact gen _ rfl hq
        | global g => simp only [ha] at hq; exact gen _ rfl hq
        | const v =>
          simp only [ha] at hq
          cases hx : opd (.const v) with
          | none => rw [hx] at hq; cases hq
          | some x' => exact gen x' hx hq
    | builtin b =>
      cases b <;> (try simp only at hq) <;> (try cases hq; done)
      match args, ats, hq with
      | [x, y], [t, u], hq =>
        simp only at hq
        split at hq
        · rename_i x' y' e hx hy ht
          have hxr := opd_rep (σ := σ) (w := w) hx fun t ht => hl t (by simp [Call.operands, ht])
          have hyr := opd_rep (σ := σ) (w := w) hy fun t ht => hl t (by simp [Call.operands, ht])
          split at hq
          · rename_i i e' hi hu
            split at hq
            · rename_i z hz
              split at hq
              · rename_i hc
                injection hq with hq; subst hq
                simp only [EOp.step] at h
                have hza : ∀ v', ofVal z = some v' → Reps σ w v'.cells z.cells.toList := fun v' hv' => (ofVal_rep hv').cells (by
                  rintro rfl
                  unfold ofVal at hv'
                  split at hv'
                  · rename_i cs
                    cases h : ofLeaves cs.toList <;> simp [h] at hv'
                  · unfold ofLeaf at hv'
                    split at hv' <;> cases hv')
                split at h
                · rename_i k xs k2 ys hxe hye
                  obtain ⟨h1, h2, h3, h4, h5, h6⟩ := h
                  rw [hxe] at hxr
                  rw [hye] at hyr
                  obtain ⟨news, hsrc, hr⟩ := src_of hu hyr (wellSz_lens h2) h3
                  rcases h6 with h6 | ⟨rfl, hy0, h6⟩
                  · exact goes_app rfl ht hi hz hc.1 hc.2.1 hs hxr h1 hsrc (wellSz_lens h2) hr h4 h5 h6
                  · exact goes_own rfl ht hi hz hc.2.1 hc.2.2 hza hs hxr h1 hsrc hr h4 h5 hy0 h6
                · rename_i b o n c k2 ys hxe hye
                  split at h
                  · rename_i cs hb
                    obtain ⟨h2, h3, h4, h5, h0, h6, h7⟩ := h
                    rw [hxe] at hxr
                    rw [hye] at hyr
                    obtain ⟨news, hsrc, hr⟩ := src_of hu hyr (wellSz_lens h2) h3
                    exact goes_msl rfl ht hi hz hc.2.1 hc.2.2 hza hs hxr hb hsrc hr h4 h5 h0 h6 h7
                  · exact h.elim
                · exact h.elim
              · cases hq
            · cases hq
          · rename_i i hi hu
            split at hq
            · rename_i z hz
              split at hq
              · rename_i hc
                injection hq with hq; subst hq
                simp only [EOp.step] at h
                split at h
                · rename_i k xs l hxe hye
                  obtain ⟨h1, h2, h6⟩ := h
                  rw [hxe] at hxr
                  rw [hye] at hyr
                  generalize huy : act.eval y = uy at hyr
                  cases hyr
                  have hsrc : Src P i.size u (act.eval y) (l.map fun c => AV.int .u8 c.toNat).length (l.map fun c => Value.int .u8 c.toNat) w := by
                    rw [huy, List.length_map, hc.1]; exact src_str hu
                  have hfl : (l.map fun c => AV.int .u8 c.toNat).flatMap AV.cells = l.map fun c => AV.int .u8 c.toNat := flat_one (by simp [AV.cells])
                  refine goes_app rfl ht hi hz (by omega) (by omega) hs hxr (by rw [hc.1]; exact h1) hsrc (by rw [hc.1]; simp [AV.cells]) (by rw [hfl]; exact Reps.bytes l) (by rw [hc.2.1, List.length_map]; omega) (by rw [List.length_map]; omega) ?_
                  rw [hc.1, List.length_map]
                  exact h6
                · exact h.elim
              · cases hq
            · cases hq
          · cases hq
        · cases hq
end
end Go.A
