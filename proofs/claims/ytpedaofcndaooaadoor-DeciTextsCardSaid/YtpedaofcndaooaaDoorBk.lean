/- Functions, abstractly. -/
import Derived.Test.YtpedaofcndaooaaDoorBj
namespace Go.A
set_option linter.unusedSimpArgs false
set_option linter.unusedVariables false

inductive RV where
  | t (t : Nat)
  | c (t : Nat) (n : Option Nat)
  deriving Inhabited
def RV.ev (a : AFr) (σ : ASt) : RV → Option AV
  | .t s => some (a s)
  | .c s n => match a s with
    | .ptr b o => match known σ b with
      | some cs => fieldVal o n cs
      | none => none
    | .imm cs => fieldVal 0 n cs
    | _ => none
def RV.evs (a : AFr) (σ : ASt) : List RV → Option (List AV)
  | [] => some []
  | r :: rs => match r.ev a σ, RV.evs a σ rs with
    | some v, some vs => some (v :: vs)
    | _, _ => none
def resV : List AV → AV
  | [x] => x
  | xs => .tuple xs
def compRV (P : Program) (n : Nat) : List ResultVar → Option (List RV)
  | [] => some []
  | .tmp t :: rs => match compRV P n rs with
    | some rs => if t < n then some (.t t :: rs) else none
    | none => none
  | .cell t T :: rs => match compRV P n rs, aggOf P T with
    | some rs, some k => if t < n then some (.c t k :: rs) else none
    | _, _ => none

/-- A function, compiled. -/
structure AFn where
  n : Nat
  rs : List RV
  body : ACode
  deriving Inhabited
def compF (P : Program) (fn : Func) : Option AFn :=
  match fn.body with
  | some c => match compC P fn.ntmps c, compRV P fn.ntmps fn.results.toList with
    | some ac, some rs => some { n := fn.ntmps, rs := rs, body := ac }
    | _, _ => none
  | none => none

def init (args : List AV) : AFr := fun t => args.getD t .any
/-- What is asked where a function returns: roles may be laid down. -/
def RetQ (rs : List RV) (R : AV → ASt → Prop) : APost := fun e a σ => match e with
  | .exit _ => False
  | _ => ∃ vs, RV.evs a σ rs = some vs ∧ ∃ r σ', Drop σ σ' ∧ Fz σ σ' (resV vs) r ∧ R r σ'

section
variable {P : Program} {n : Nat} {σ : ASt} {w : World}

theorem Reps.getD : ∀ {as : List AV} {vs : List Value}, Reps σ w as vs → ∀ (t : Nat), Rep σ w (as.getD t .any) (vs.getD t undef)
  | _, _, .nil, t => by simpa using .any _
  | _, _, .cons h1 h2, 0 => by simpa using h1
  | _, _, .cons h1 h2, t + 1 => by simpa using h2.getD t

theorem run_results {act : Act} {a : AFr} (hf : FRel n σ w a act) (hs : Sim σ w) : ∀ {rvs : List ResultVar} {rs : List RV} {vs : List AV}, compRV P n rvs = some rs → RV.evs a σ rs = some vs →
    ∃ us, (rvs.mapM (fun | .tmp t => pure (act.tmps.getD t undef) | .cell x t => do loadVar t (← asAddr (act.tmps.getD x undef)) : ResultVar → Sem Value)).run P w = .ok us w ∧ Reps σ w vs us
  | [], rs, vs, hc, hv => by
    injection hc with hc; subst hc
    injection hv with hv; subst hv
    exact ⟨[], by simp, .nil⟩
  | .tmp t :: rvs, rs, vs, hc, hv => by
    simp only [compRV] at hc
    split at hc
    · rename_i rs' hrs
      split at hc
      · rename_i ht
        injection hc with hc; subst hc
        simp only [RV.evs, RV.ev] at hv
        split at hv
        · rename_i v vs' h1 h2
          injection hv with hv; subst hv
          injection h1 with h1; subst h1
          obtain ⟨us, h3, h4⟩ := run_results hf hs hrs h2
          exact ⟨_ :: us, by rw [List.mapM_cons]; simp only [Sem.run_bind, Sem.run_pure, Result.andThen, h3], .cons (hf.rep t ht) h4⟩
        · cases hv
      · cases hc
    · cases hc
  | .cell x T :: rvs, rs, vs, hc, hv => by
    simp only [compRV] at hc
    split at hc
    · rename_i rs' k hrs hk
      split at hc
      · rename_i ht
        injection hc with hc; subst hc
        simp only [RV.evs] at hv
        split at hv
        · rename_i v vs' h1 h2
          injection hv with hv; subst hv
          obtain ⟨us, h3, h4⟩ := run_results hf hs hrs h2
          have hr := hf.rep x ht
          have : ∃ u, (do loadVar T (← asAddr (act.tmps.getD x undef)) : Sem Value).run P w = .ok u w ∧ Rep σ w v u := by
            simp only [RV.ev] at h1
            split at h1
            · rename_i b o hp
              rw [hp] at hr
              split at h1
              · rename_i cs hkn
                obtain ⟨ws, h5, h6⟩ := hs.known hkn
                have hv' : fieldVal 0 k (cs.drop o) = some v := by
                  cases k with
                  | none => simpa [fieldVal] using h1
                  | some m =>
                    simp only [fieldVal] at h1 ⊢
                    split at h1
                    · rename_i hle
                      rw [if_pos (by simp; omega)]
                      simpa using h1
                    · cases h1
                obtain ⟨u, h7, h8⟩ := run_loadVar (P := P) (b := b) (o := o) hk (h5.drop o) (fun j v hj => h6 (o + j) v (by simpa using hj)) hv'
                generalize act.tmps.getD x undef = y at hr
                cases hr
                exact ⟨u, by rw [Sem.run_bind]; exact h7, h8⟩
              · cases h1
            · rename_i cs hp
              rw [hp] at hr
              generalize act.tmps.getD x undef = y at hr
              cases hr with
              | imm hA =>
                obtain ⟨ws, h5, h6⟩ := hA.vals
                obtain ⟨u, h7, h8⟩ := run_loadVar (P := P) hk h5 h6 h1
                exact ⟨u, by rw [Sem.run_bind]; exact h7, h8⟩
            · cases h1
          obtain ⟨u, h5, h6⟩ := this
          exact ⟨u :: us, by rw [List.mapM_cons, Sem.run_bind, h5]; simp only [Sem.run_bind, Sem.run_pure, Result.andThen, h3], .cons h6 h4⟩
        · cases hv
      · cases hc
    · cases hc

/-- **A call, by its body.** -/
theorem acalls_of {f : FuncId} {fn : Func} {af : AFn} (hf : P.funcs[f]? = some fn) (hc : compF P fn = some af) {args : List AV} {R : AV → ASt → Prop} (hl : args.length ≤ af.n) (h : af.body.wp P (RetQ af.rs R) (init args) σ) : ACalls P f args σ R := by
  intro w vs hs hr
  unfold compF at hc
  split at hc
  · rename_i c hb
    split at hc
    · rename_i ac rs hac hrs
      injection hc with hc; subst hc
      simp only at hl h
      refine calls_of_wp hf hb ?_
      have hvl : vs.length ≤ fn.ntmps := by rw [← hr.length]; exact hl
      have hfr : FRel fn.ntmps σ w (init args) { tmps := (⟨vs⟩ : Array Value) ++ Array.replicate (fn.ntmps - (⟨vs⟩ : Array Value).size) undef, defers := [] } := by
        refine ⟨by simp; omega, rfl, fun t ht => ?_⟩
        have h1 := hr.getD t
        have h2 : ((⟨vs⟩ : Array Value) ++ Array.replicate (fn.ntmps - (⟨vs⟩ : Array Value).size) undef).getD t undef = vs.getD t undef := by
          rw [Array.getD_eq_getD_getElem?, List.getD_eq_getElem?_getD, Array.getElem?_append]
          split
          · simp
          · rename_i hge
            rw [List.getElem?_eq_none (by simpa using hge)]
            simp only [Array.getElem?_replicate]
            split <;> rfl
        rw [h2]
        exact h1
      refine wp_mono (compC_sound c ac hac _ _ σ _ w h hs hfr σ w (Le.refl _ _)) ?_
      rintro e act' w' ⟨ex, a', σ', rfl, h1, h2, h3, h4⟩
      have fin : RetQ rs R .ret a' σ' → act'.defers = [] ∧ ∃ v, (results fn act'.tmps).run P w' = .ok v w' ∧ ∃ u r σ'', Ending.returned v = .returned u ∧ R r σ'' ∧ Le σ w σ'' w' ∧ Sim σ'' w' ∧ Rep σ'' w' r u := by
        rintro ⟨xs, hx, r, σ'', hd, hz, hR⟩
        obtain ⟨us, h5, h6⟩ := run_results h4 h3 hrs hx
        refine ⟨h4.defers, ?_⟩
        have hres : (results fn act'.tmps).run P w' = .ok (if h : us.toArray.size = 1 then us.toArray[0] else .tuple us.toArray) w' := by
          unfold results
          rw [Array.mapM_eq_mapM_toList]
          rw [Sem.run_bind]
          simp only [Functor.map]
          rw [Sem.run_bind']
          exact congrArg (fun r : Result (List Value) => (r.andThen fun a w' => Sem.run P ((Sem.pure ∘ List.toArray) a) w').andThen fun a w' => Sem.run P (pure (if h : a.size = 1 then a[0] else Value.tuple a)) w') h5
        have hrep : Rep σ' w' (resV xs) (if h : us.toArray.size = 1 then us.toArray[0] else .tuple us.toArray) := by
          cases h6 with
          | nil => exact .tuple .nil
          | cons h7 h8 =>
            cases h8 with
            | nil => simpa [resV] using h7
            | cons h9 h10 =>
              rw [dif_neg (by simp)]
              exact .tuple (.cons h7 (.cons h9 h10))
        exact ⟨_, hres, _, r, σ'', rfl, hR, h2.trans (hd.le w'), hd.sim h3, hz.rep hd h3 hrep⟩
      cases ex with
      | normal => exact fin h1
      | exit id => exact h1.elim
      | ret => exact fin h1
    · cases hc
  · cases hc
end
end Go.A
