/- THE LAW OF THE OPERATIONS THAT ACT: what is compiled is what runs. -/
import Derived.Test.YthkcifdjfoggeaaBc
namespace Go.A
set_option linter.unusedSimpArgs false
set_option linter.unusedVariables false
section
variable {P : Program} {σ : ASt} {w : World}

theorem okFn_spec {f : FuncId} (h : okFn P f = true) : ∃ fn, P.funcs[f]? = some fn ∧ fn.body.isSome = true ∧ (fn.name == "runtime.NumGoroutine") = false := by
  unfold okFn at h
  split at h
  · rename_i fn hf
    simp only [Bool.and_eq_true, bne_iff_ne, ne_eq] at h
    exact ⟨fn, hf, h.1, by simpa using h.2⟩
  · cases h

theorem run_callFunc {f : FuncId} (h : okFn P f = true) (args : Array Value) : (callFunc f args).run P w = .ok (.enter f args) w := by
  obtain ⟨fn, h1, h2, h3⟩ := okFn_spec h
  have h4 : fn.body.isNone = false := by cases hb : fn.body <;> simp_all
  unfold callFunc
  simp only [program, Sem.run_bind, Sem.run, Result.andThen, h1, h3, h4, Bool.false_eq_true, if_false, Sem.run_pure]

theorem goes_call {o : Oper} {c : Call} {x : Operand} {f : FuncId} {act : Act} {next : Act → World → Prop} {Q : Exit → Act → World → Prop} {K : AV → ASt → Prop} {first cap as : List AV} {first' cap' : List Value}
    (ho : o.op = .call c) (hc : c.callee = .value x) (hx : act.eval x = .func (.func f) ⟨first'⟩ ⟨cap'⟩) (hf : okFn P f = true) (hs : Sim σ w) (h1 : Reps σ w first first') (h2 : Reps σ w cap cap')
    (h3 : Reps σ w as (c.args.toList.map act.eval)) (hK : ACalls P f (first ++ as ++ cap) σ K) : Goes P o act σ w K next Q := by
  intro hnext
  have hargs : c.args.map act.eval = ⟨c.args.toList.map act.eval⟩ := by apply Array.ext'; simp
  have hrun : (execOp act.eval o).run P w = .ok (.enter f ⟨first' ++ c.args.toList.map act.eval ++ cap'⟩) w := by
    simp only [execOp, ho, resolve, hc, hx, Deferred.ofValue, Sem.run_bind, Sem.run_pure, Result.andThen, invoke, hargs]
    rw [run_callFunc hf]
    congr 2
    apply Array.ext'
    simp
  unfold Oper.wp
  rw [hrun, Oper.upon_enter]
  refine (hK w _ hs ((h1.append h3).append h2)).mono ?_
  rintro e w' ⟨u, r, σ', rfl, h4, h5, h6, h7⟩
  exact hnext _ _ _ _ h4 h5 h6 h7

theorem goes_app {o : Oper} {t u e : TypeId} {i : TypeInfo} {z : Value} {x y : Operand} {act : Act} {next : Act → World → Prop} {Q : Exit → Act → World → Prop} {K : AV → ASt → Prop}
    (ho : o.op = .call { callee := .builtin .append, args := ⟨[x, y]⟩, argTypes := ⟨[t, u]⟩ }) (ht : P.underlying t = some (.slice e)) (hi : P.info? e = some i) (hz : i.zero = some z) (hpos : 0 < i.size) (hzs : z.cells.size = i.size)
    {k : SK} {xs ys : List AV} {news : List Value} (hs : Sim σ w) (hx : Rep σ w (.sl k xs) (act.eval x)) (hc : canApp σ k xs i.size) (hsrc : Src P i.size u (act.eval y) ys.length news w) (hy : ∀ y ∈ ys, y.cells.length = i.size)
    (hr : Reps σ w (ys.flatMap AV.cells) news) (hb : (xs.length + ys.length) * i.bytes ≤ 140737488355328) (h63 : xs.length + ys.length ≤ 4611686018427387904)
    (hK : ∀ k' σ', App σ k i.size xs.length ys.length k' σ' → K (.sl k' (xs ++ ys)) σ') : Goes P o act σ w K next Q := by
  intro hnext
  obtain ⟨v, w', k', σ', h1, h2, h3, h4, h5⟩ := run_app (ty := o.type) ht hi hz hpos hzs hs hx hc hsrc hy hr hb h63
  have hrun : (execOp act.eval o).run P w = .ok (.value v) w' := by
    obtain ⟨dst, op, type, pos, after, guard⟩ := o
    subst ho
    exact run_builtin (map_two act x y) (fun _ => rfl) h1
  unfold Oper.wp
  rw [hrun]
  exact hnext _ _ _ _ (hK k' σ' h2) h3 h4 h5

/-- **What is compiled is what runs.** -/
theorem compE_sound {o : Oper} {q : EOp} {a : AFr} {act : Act} {next : Act → World → Prop} {Q : Exit → Act → World → Prop} {K : AV → ASt → Prop} (hq : compE P o = some q) (hs : Sim σ w)
    (hl : ∀ t, Operand.tmp t ∈ o.op.operands.toList → Rep σ w (a t) (act.tmps.getD t undef)) (h : q.step P a σ K) : Goes P o act σ w K next Q := by
  obtain ⟨dst, op, type, pos, after, guard⟩ := o
  cases op <;> simp only [compE] at hq <;> simp only [Op.operands] at hl <;> (try cases hq; done)
  case alloc T =>
    split at hq
    · rename_i z hz
      injection hq with hq; subst hq
      exact goes_alloc rfl hs hz h
    · cases hq
  case convert S D x =>
    split at hq
    · rename_i x' e hx hS hD
      split at hq
      · rename_i he
        injection hq with hq; subst hq
        have hxr := opd_rep (σ := σ) (w := w) hx fun t ht => hl t (by simp [ht])
        simp only [EOp.step] at h
        split at h
        · rename_i l hxe
          rw [hxe] at hxr
          generalize hu : act.eval x = u at hxr
          cases hxr
          exact goes_s2b (x := x) rfl hS hD he hs hu h
        · exact h.elim
      · cases hq
    · cases hq
  case makeSlice T n m =>
    split at hq
    · rename_i e n' m' hT hn hm
      split at hq
      · rename_i i z hi hz
        split at hq
        · rename_i hc
          injection hq with hq; subst hq
          have hnr := opd_rep (σ := σ) (w := w) hn fun t ht => hl t (by simp [ht])
          have hmr := opd_rep (σ := σ) (w := w) hm fun t ht => hl t (by simp [ht])
          simp only [EOp.step] at h
          split at h
          · rename_i kn N km M hne hme
            obtain ⟨h1, h2, h3, h4, h5⟩ := h
            rw [hne] at hnr
            rw [hme] at hmr
            generalize hun : act.eval n = un at hnr
            generalize hum : act.eval m = um at hmr
            cases hnr
            cases hmr
            exact goes_mks (n := n) (m := m) rfl hT hi hz hc.1 hc.2.1 hc.2.2 hs hun hum h1 h2 h3 h4 h5
          · exact h.elim
        · cases hq
      · cases hq
    · cases hq
  case range T x =>
    split at hq
    · rename_i x' hT hx
      injection hq with hq; subst hq
      have hxr := opd_rep (σ := σ) (w := w) hx fun t ht => hl t (by simp [ht])
      simp only [EOp.step] at h
      split at h
      · rename_i l hxe
        rw [hxe] at hxr
        generalize hu : act.eval x = u at hxr
        cases hxr
        exact goes_rng (x := x) rfl hT hs hu h
      · exact h.elim
    · cases hq
  case next x isS =>
    cases isS with
    | false => cases hq
    | true =>
      simp only at hq
      cases hx : opd x with
      | none => simp [hx] at hq
      | some x' =>
        simp only [hx, Option.map_some, Option.some.injEq] at hq
        subst hq
        have hxr := opd_rep (σ := σ) (w := w) hx fun t ht => hl t (by simp [ht])
        simp only [EOp.step] at h
        split at h
        · rename_i b hxe
          split at h
          · rename_i l p hb
            rw [hxe] at hxr
            generalize hu : act.eval x = u at hxr
            cases hxr
            exact goes_nxt (x := x) rfl hs hu hb h
          · exact h.elim
        · exact h.elim
  case panic x =>
    injection hq with hq; subst hq
    exact h.elim
  case box T x =>
    cases hx : opd x with
    | none => simp [hx] at hq
    | some x' =>
      simp only [hx, Option.map_some, Option.some.injEq] at hq
      subst hq
      have hxr := opd_rep (σ := σ) (w := w) hx fun t ht => hl t (by simp [ht])
      exact goes_box rfl hs hxr h.1 h.2
  case store T p x =>
    split at hq
    · rename_i p' x' n hp hx hn
      injection hq with hq; subst hq
      have hpr := opd_rep (σ := σ) (w := w) hp fun t ht => hl t (by simp [ht])
      have hxr := opd_rep (σ := σ) (w := w) hx fun t ht => hl t (by simp [ht])
      simp only [EOp.step] at h
      split at h
      · rename_i b off hpe
        split at h
        · rename_i cs hb
          obtain ⟨h1, h2, h3, h4⟩ := h
          rw [hpe] at hpr
          generalize hu : act.eval p = u at hpr
          cases hpr
          exact goes_store (x := x) rfl hn hs hu hxr hb h1 h2 h3 h4
        · exact h.elim
      · exact h.elim
    · cases hq
  case call c =>
    obtain ⟨callee, ⟨args⟩, ⟨ats⟩⟩ := c
    cases callee with
    | invoke r m => cases hq
    | value f =>
      have viaV : ∀ {args' : List Opd} {x' : Opd}, opds args = some args' → opd f = some x' → q = .callv x' args' → Goes P ⟨dst, .call { callee := .value f, args := ⟨args⟩, argTypes := ⟨ats⟩ }, type, pos, after, guard⟩ act σ w K next Q := by
        rintro args' x' ha hx rfl
        have hxr := opd_rep (σ := σ) (w := w) hx fun t ht => hl t (by simp [Call.operands, ht])
        have har := opds_rep (σ := σ) (w := w) ha fun t ht => hl t (by simp [Call.operands, ht])
        simp only [EOp.step] at h
        split at h
        · rename_i g first cap hxe
          rw [hxe] at hxr
          generalize hu : act.eval f = u at hxr
          cases hxr with
          | func h1 h2 => exact goes_call rfl rfl hu h.1 hs h1 h2 har h.2
        · exact h.elim
      simp only at hq
      cases ha : opds args with
      | none => cases f <;> simp [ha] at hq
      | some as' =>
        have gen : ∀ x', opd f = some x' → (opd f).map (fun x => EOp.callv x as') = some q → Goes P ⟨dst, .call { callee := .value f, args := ⟨args⟩, argTypes := ⟨ats⟩ }, type, pos, after, guard⟩ act σ w K next Q := by
          intro x' hx hq
          rw [hx] at hq
          simp only [Option.map_some, Option.some.injEq] at hq
          exact viaV ha hx hq.symm
        cases f with
        | func g =>
          simp only [ha] at hq
          split at hq
          · rename_i hok
            injection hq with hq; subst hq
            have har := opds_rep (σ := σ) (w := w) ha fun t ht => hl t (by simp [Call.operands, ht])
            refine goes_call (first := []) (cap := []) rfl rfl (by rfl) hok hs .nil .nil har ?_
            simpa [EOp.step] using h
          · cases hq
        | tmp t => simp only [ha] at hq; exact gen _ rfl hq
        | global g => simp only [ha] at hq; exact gen _ rfl hq
        | const v =>
          simp only [ha] at hq
          cases hx : opd (.const v) with
          | none => rw [hx] at hq; cases hq
          | some x' => exact gen x' hx hq
    | builtin b =>
      cases b <;> (try simp only at hq) <;> (try cases hq; done)
      match args, ats, hq with
      | [x, y], [t, u], hq =>
        simp only at hq
        split at hq
        · rename_i x' y' e hx hy ht
          have hxr := opd_rep (σ := σ) (w := w) hx fun t ht => hl t (by simp [Call.operands, ht])
          have hyr := opd_rep (σ := σ) (w := w) hy fun t ht => hl t (by simp [Call.operands, ht])
          split at hq
          · rename_i i e' hi hu
            split at hq
            · rename_i z hz
              split at hq
              · rename_i hc
                injection hq with hq; subst hq
                simp only [EOp.step] at h
                split at h
                · rename_i k xs k2 ys hxe hye
                  obtain ⟨h1, h2, h3, h4, h5, h6⟩ := h
                  rw [hxe] at hxr
                  rw [hye] at hyr
                  obtain ⟨news, hsrc, hr⟩ := src_of hu hyr (wellSz_lens h2) h3
                  exact goes_app rfl ht hi hz hc.1 hc.2 hs hxr h1 hsrc (wellSz_lens h2) hr h4 h5 h6
                · exact h.elim
              · cases hq
            · cases hq
          · rename_i i hi hu
            split at hq
            · rename_i z hz
              split at hq
              · rename_i hc
                injection hq with hq; subst hq
                simp only [EOp.step] at h
                split at h
                · rename_i k xs l hxe hye
                  obtain ⟨h1, h2, h6⟩ := h
                  rw [hxe] at hxr
                  rw [hye] at hyr
                  generalize huy : act.eval y = uy at hyr
                  cases hyr
                  have hsrc : Src P i.size u (act.eval y) (l.map fun c => AV.int .u8 c.toNat).length (l.map fun c => Value.int .u8 c.toNat) w := by
                    rw [huy, List.length_map, hc.1]; exact src_str hu
                  have hfl : (l.map fun c => AV.int .u8 c.toNat).flatMap AV.cells = l.map fun c => AV.int .u8 c.toNat := flat_one (by simp [AV.cells])
                  refine goes_app rfl ht hi hz (by omega) (by omega) hs hxr (by rw [hc.1]; exact h1) hsrc (by rw [hc.1]; simp [AV.cells]) (by rw [hfl]; exact Reps.bytes l) (by rw [hc.2.1, List.length_map]; omega) (by rw [List.length_map]; omega) ?_
                  rw [hc.1, List.length_map]
                  exact h6
                · exact h.elim
              · cases hq
            · cases hq
          · cases hq
        · cases hq
end
end Go.A
