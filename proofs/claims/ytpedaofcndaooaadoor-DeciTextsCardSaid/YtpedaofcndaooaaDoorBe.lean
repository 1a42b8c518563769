/- Regions, abstractly: their operations one behind the other. -/
import Derived.Test.YtpedaofcndaooaaDoorBd
namespace Go.A
set_option linter.unusedSimpArgs false
set_option linter.unusedVariables false

inductive AOp where
  | q (q : QOp)
  | e (e : EOp)
  deriving Inhabited
/-- A value that was read ahead of something that acts: it must still be what is read. -/
structure Watch where
  guard : Option (Nat × Bool)
  q : QOp
  dst : Nat
  deriving Inhabited
structure AItem where
  dst : Option Nat
  guard : Option (Nat × Bool)
  op : AOp
  watch : List Watch
  deriving Inhabited

def watchOk (a : AFr) (σ : ASt) : List Watch → Prop
  | [] => True
  | x :: xs => (match x.guard with
    | none => x.q.ev a σ = some (a x.dst)
    | some (t, want) => a t = .bool want → x.q.ev a σ = some (a x.dst)) ∧ watchOk a σ xs

def AOp.step (P : Program) (op : AOp) (a : AFr) (σ : ASt) (K : AV → ASt → Prop) : Prop :=
  match op with
  | .q x => match x.ev a σ with
    | some v => K v σ
    | none => False
  | .e x => x.step P a σ K
theorem AOp.step_mono {P : Program} {op : AOp} {a : AFr} {σ : ASt} {K K' : AV → ASt → Prop} (h : op.step P a σ K) (hk : ∀ v σ', K v σ' → K' v σ') : op.step P a σ K' := by
  cases op with
  | q q =>
    simp only [AOp.step] at h ⊢
    split at h
    · exact hk _ _ h
    · exact h.elim
  | e e => exact EOp.step_mono h hk
def AItem.step (P : Program) (it : AItem) (K : AFr → ASt → Prop) (a : AFr) (σ : ASt) : Prop :=
  it.op.step P a σ fun v σ' => watchOk (a.put it.dst v) σ' it.watch ∧ K (a.put it.dst v) σ'
/-- What a guard is told: a word; that its operation was passed over. -/
def AV.word : AV → Option (Option Bool)
  | .bool b => some (some b)
  | .tuple [] => some none
  | _ => none
def uword : Value → Option Bool
  | .bool b => some b
  | _ => none
theorem word_bool {v : AV} {b : Bool} (h : v.word = some (some b)) : v = .bool b := by
  unfold AV.word at h
  split at h <;> simp at h
  subst h; rfl
theorem word_rep {σ : ASt} {w : World} {v : AV} {u : Value} {x : Option Bool} (h : v.word = some x) (hr : Rep σ w v u) : uword u = x := by
  unfold AV.word at h
  split at h
  · injection h with h; subst h; cases hr; rfl
  · injection h with h; subst h; cases hr with
    | tuple h1 => rfl
  · cases h
def runI (P : Program) : List AItem → (AFr → ASt → Prop) → AFr → ASt → Prop
  | [], K, a, σ => K a σ
  | it :: rest, K, a, σ => match it.guard with
    | none => it.step P (runI P rest K) a σ
    | some (t, want) => match (a t).word with
      | some x => if x = some want then it.step P (runI P rest K) a σ else runI P rest K (a.put it.dst (.tuple [])) σ
      | none => False

theorem runI_mono {P : Program} : ∀ (l : List AItem) (K1 K2 : AFr → ASt → Prop), (∀ a σ, K1 a σ → K2 a σ) → ∀ a σ, runI P l K1 a σ → runI P l K2 a σ := by
  intro l
  induction l with
  | nil => exact fun K1 K2 h a σ hh => h _ _ hh
  | cons it r ih =>
    intro K1 K2 h a σ hh
    have st : it.step P (runI P r K1) a σ → it.step P (runI P r K2) a σ := fun hst => AOp.step_mono hst fun v σ' hv => ⟨hv.1, ih _ _ h _ _ hv.2⟩
    simp only [runI] at hh ⊢
    split
    · rename_i hg; rw [hg] at hh; exact st hh
    · rename_i t want hg
      rw [hg] at hh
      simp only at hh
      split
      · rename_i b hb
        rw [hb] at hh
        simp only at hh
        split
        · rename_i hbw; rw [if_pos hbw] at hh; exact st hh
        · rename_i hbw; rw [if_neg hbw] at hh; exact ih _ _ h _ _ hh
      · rename_i hne
        rw [hne] at hh
        exact hh
theorem runI_app {P : Program} : ∀ (xs ys : List AItem) (K : AFr → ASt → Prop), runI P (xs ++ ys) K = runI P xs (runI P ys K)
  | [], ys, K => rfl
  | x :: xs, ys, K => by
    funext a σ
    simp only [List.cons_append, runI, runI_app xs ys K]
/-- Two that only make memory may be turned about. -/
theorem runI_swap {P : Program} {d1 d2 : Option Nat} {z1 z2 : List AV} (hd : ∀ d, d1 = some d → d2 ≠ some d) {rest : List AItem} {K : AFr → ASt → Prop} {a : AFr} {σ : ASt}
    (h : runI P (⟨d1, none, .e (.alloc z1), []⟩ :: ⟨d2, none, .e (.alloc z2), []⟩ :: rest) K a σ) : runI P (⟨d2, none, .e (.alloc z2), []⟩ :: ⟨d1, none, .e (.alloc z1), []⟩ :: rest) K a σ := by
  simp only [runI, AItem.step, AOp.step, EOp.step, watchOk, true_and] at h ⊢
  intro b2 hb2 b1 hb1
  have hne : b1 ≠ b2 := by rintro rfl; rw [ASt.set_same] at hb1; cases hb1
  rw [ASt.set_ne hne] at hb1
  have := h b1 hb1 b2 (by rw [ASt.set_ne (Ne.symm hne)]; exact hb2)
  have e1 : (σ.set b1 (some (.obj z1))).set b2 (some (.obj z2)) = (σ.set b2 (some (.obj z2))).set b1 (some (.obj z1)) := by
    funext x
    simp only [ASt.set]
    by_cases h1 : x = b1
    · subst h1; simp [hne]
    · by_cases h2 : x = b2
      · subst h2; simp [h1]
      · simp [h1, h2]
  have e2 : (a.put d1 (.ptr b1 0)).put d2 (.ptr b2 0) = (a.put d2 (.ptr b2 0)).put d1 (.ptr b1 0) := by
    cases d1 with
    | none => rfl
    | some x =>
      cases d2 with
      | none => rfl
      | some y =>
        have hxy : x ≠ y := fun h => hd x rfl (by rw [h])
        funext t
        simp only [AFr.put, AFr.upd]
        by_cases h1 : t = x
        · subst h1; simp [hxy]
        · by_cases h2 : t = y
          · subst h2; simp [h1]
          · simp [h1, h2]
  rw [e1, e2] at this
  exact this

/-- An operation, compiled: what it writes lies in the frame; a guard is what another operation yields. -/
def compG (l : List Oper) (o : Oper) : Option (Option (Nat × Bool)) :=
  match o.guard with
  | none => some none
  | some (j, want) => match (l[j]?).bind (·.dst) with
    | some t => some (some (t, want))
    | none => none
def compO (P : Program) (o : Oper) : Option AOp :=
  match compQ P o with
  | some q => some (.q q)
  | none => match compE P o with
    | some e => some (.e e)
    | none => none
def dstOk (n : Nat) (o : Oper) : Bool :=
  match o.dst with
  | some d => decide (d < n)
  | none => true
def tmpOk (n : Nat) : Operand → Bool
  | .tmp t => decide (t < n)
  | _ => true
def gOk (n : Nat) : Option (Nat × Bool) → Bool
  | some (t, _) => decide (t < n)
  | none => true
def compI (P : Program) (n : Nat) (l : List Oper) (o : Oper) : Option AItem :=
  match compG l o, compO P o with
  | some g, some op => if dstOk n o && o.op.operands.toList.all (tmpOk n) && gOk n g then some { dst := o.dst, guard := g, op := op, watch := [] } else none
  | _, _ => none
def compL (P : Program) (n : Nat) (l : List Oper) : List Oper → Option (List AItem)
  | [] => some []
  | o :: os => match compI P n l o, compL P n l os with
    | some it, some its => some (it :: its)
    | _, _ => none

section
variable {P : Program}

theorem compI_spec {n : Nat} {l : List Oper} {o : Oper} {it : AItem} (h : compI P n l o = some it) :
    it.dst = o.dst ∧ compG l o = some it.guard ∧ compO P o = some it.op ∧ it.watch = [] ∧ (∀ d, o.dst = some d → d < n) ∧ (∀ t, Operand.tmp t ∈ o.op.operands.toList → t < n) ∧ (∀ t b, it.guard = some (t, b) → t < n) := by
  unfold compI at h
  split at h
  · rename_i g op hg ho
    split at h
    · rename_i hc
      injection h with h; subst h
      simp only [Bool.and_eq_true, List.all_eq_true] at hc
      refine ⟨rfl, hg, ho, rfl, fun d hd => ?_, fun t ht => by simpa [tmpOk] using hc.1.2 _ ht, fun t b hb => ?_⟩
      · have := hc.1.1; simp only [dstOk, hd, decide_eq_true_eq] at this; exact this
      · have := hc.2; simp only at hb; rw [hb] at this; simpa [gOk] using this
    · cases h
  · cases h

/-- A guard's word. -/
theorem guard_none {l : List Oper} {o : Oper} (h : compG l o = some none) (tmps : Array Value) : Region.wanted o (yielded l.toArray tmps) = true := by
  unfold compG at h
  split at h
  · rename_i hg; simp [Region.wanted, hg]
  · split at h <;> simp at h
theorem guard_some {l : List Oper} {o : Oper} {t : Nat} {want : Bool} {x : Option Bool} {u : Value} (h : compG l o = some (some (t, want))) {tmps : Array Value} (hb : tmps[t]? = some u) (hu : uword u = x) : Region.wanted o (yielded l.toArray tmps) = (x == some want) := by
  unfold compG at h
  split at h
  · simp at h
  · rename_i j w' hg
    split at h
    · rename_i t' ht
      simp only [Option.some.injEq, Prod.mk.injEq] at h
      obtain ⟨rfl, rfl⟩ := h
      have ht' : (l.toArray[j]?).bind (·.dst) = some t' := by simpa using ht
      simp only [Region.wanted, hg, yielded, ht', Option.bind_some, hb]
      rw [← hu]
      cases u <;> rfl
    · cases h

/-- One operation. -/
theorem compO_wp {n : Nat} {σ : ASt} {w : World} {o : Oper} {op : AOp} {a : AFr} {act : Act} {next : Act → World → Prop} {Q : Exit → Act → World → Prop} {K : AV → ASt → Prop} (hc : compO P o = some op) (hs : Sim σ w)
    (hl : ∀ t, Operand.tmp t ∈ o.op.operands.toList → Rep σ w (a t) (act.tmps.getD t undef))
    (h : op.step P a σ K)
    (hnext : ∀ v σ' u w', K v σ' → Le σ w σ' w' → Sim σ' w' → Rep σ' w' v u → next (act.put o.dst u) w') : o.wp P act w next Q := by
  unfold compO at hc
  split at hc
  · rename_i q hq
    injection hc with hc; subst hc
    simp only [AOp.step] at h
    split at h
    · rename_i v hv
      obtain ⟨u, w', h1, h2, h3, h4⟩ := compQ_sound hq hv hs hl
      unfold Oper.wp
      rw [h1]
      exact hnext _ _ _ _ h h2 h3 h4
    · exact h.elim
  · split at hc
    · rename_i e he
      injection hc with hc; subst hc
      exact compE_sound he hs hl h hnext
    · cases hc

theorem getD_of_lt {α : Type} {xs : Array α} {t : Nat} (d : α) (h : t < xs.size) : xs[t]? = some (xs.getD t d) := by
  simp [Array.getElem?_eq_getElem h, Array.getD, h]

/-- **A region in the text's order.** -/
theorem run_plain {n : Nat} {l : List Oper} {K : AFr → ASt → Prop} {Q : Exit → Act → World → Prop} {σ0 : ASt} {w0 : World} (hQ : ∀ a σ act w, K a σ → Le σ0 w0 σ w → Sim σ w → FRel n σ w a act → Q .normal act w) :
    ∀ (os : List Oper) (k : Nat) (its : List AItem), l.drop k = os → compL P n l os = some its → ∀ (a : AFr) (σ : ASt) (act : Act) (w : World), runI P its K a σ → Le σ0 w0 σ w → Sim σ w → FRel n σ w a act →
      wpOps P l.toArray Q (List.range' k os.length) act w
  | [], k, its, hk, hc, a, σ, act, w, h, hle, hs, hf => by
    injection hc with hc; subst hc
    exact hQ a σ act w h hle hs hf
  | o :: os, k, its, hk, hc, a, σ, act, w, h, hle, hs, hf => by
    unfold compL at hc
    split at hc
    · rename_i it its' h1 h2
      injection hc with hc; subst hc
      obtain ⟨hd, hg, ho, hw, hdn, hln, hgn⟩ := compI_spec h1
      have hlk : l[k]? = some o := by
        have : (l.drop k)[0]? = some o := by rw [hk]; rfl
        simpa using this
      have hk' : l.drop (k + 1) = os := by rw [← List.drop_drop, hk]; rfl
      have ih := run_plain hQ os (k + 1) its' hk' h2
      have hlo : l.toArray[k]? = some o := by simpa using hlk
      simp only [List.length_cons, List.range'_succ, wpOps, hlo]
      have go : it.step P (runI P its' K) a σ → o.wp P act w (wpOps P l.toArray Q (List.range' (k + 1) os.length)) Q := fun hst => by
        refine compO_wp (n := n) (K := fun v σ' => runI P its' K (a.put it.dst v) σ') ho hs (fun t ht => hf.rep t (hln t ht)) (AOp.step_mono hst fun v σ' hh => hh.2) (fun v σ' u w' h3 h4 h5 h6 => ?_)
        rw [hd] at h3
        exact ih _ _ _ _ h3 (hle.trans h4) h5 ((hf.mono h4).put _ hdn h6)
      simp only [runI] at h
      split at h
      · rename_i hgd
        rw [hgd] at hg
        rw [if_pos (guard_none hg _)]
        exact .inl (go h)
      · rename_i t want hgd
        rw [hgd] at hg
        split at h
        · rename_i b hab
          have htn := hgn t want hgd
          have hr := word_rep hab (hf.rep t htn)
          have hat : act.tmps[t]? = some (act.tmps.getD t undef) := getD_of_lt undef (by rw [hf.size]; exact htn)
          rw [guard_some hg hat hr]
          split at h
          · rename_i hb
            rw [if_pos (by simp [hb])]
            exact .inl (go h)
          · rename_i hb
            rw [if_neg (by simp [hb])]
            rw [hd] at h
            exact ih _ _ _ _ h hle hs (hf.put _ hdn (.tuple .nil))
        · exact h.elim
    · cases hc
end
end Go.A
