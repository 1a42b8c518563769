/- A region whose order is drawn: its quiet operations may be walked in one order of our choice, then a chain that waits for all of them. No program in sight. · A world with new blocks behind it: what a call that only makes memory leaves. No program in sight. -/
import Derived.WalkKit
import Derived.BigQuiet
import Derived.OrdersHeld
import Derived.Maps.AppendAt
import Derived.Deep.Draws
namespace Go
set_option linter.unusedSimpArgs false
set_option linter.unusedVariables false
section
variable {P : Program} {ops : Array Oper} {md : Region.Mode} {C : World → Prop} {Q : Exit → Act → World → Prop}

/-- What has come up is closed under what it waits for. -/
def RegClosed (md : Region.Mode) (ops : Array Oper) (listed : Array Bool) : Prop :=
  ∀ k o, ops[k]? = some o → listed.getD k false = true → ∀ e ∈ o.after, Region.binds md e = true → listed.getD e.on false = true

/-- All that an operation waits for, through others too. -/
def regWaits (md : Region.Mode) (ops : Array Oper) : Nat → Nat → List Nat
  | 0, _ => []
  | f + 1, j => match ops[j]? with
    | none => []
    | some o => ((o.after.toList.filter (Region.binds md)).flatMap fun e => e.on :: regWaits md ops f e.on).eraseDups

theorem regWaits_listed {listed : Array Bool} (hc : RegClosed md ops listed) : ∀ (f j : Nat),
    (∀ o, ops[j]? = some o → ∀ e ∈ o.after, Region.binds md e = true → listed.getD e.on false = true) →
    ∀ k ∈ regWaits md ops f j, listed.getD k false = true
  | 0, _, _, k, hk => by simp [regWaits] at hk
  | f + 1, j, hj, k, hk => by
    unfold regWaits at hk
    cases ho : ops[j]? with
    | none => simp [ho] at hk
    | some o =>
      simp only [ho, List.mem_eraseDups, List.mem_flatMap, List.mem_filter] at hk
      obtain ⟨e, ⟨he, hb⟩, hk⟩ := hk
      have hl := hj o ho e (by simpa using he) hb
      rcases List.mem_cons.1 hk with rfl | hk
      · exact hl
      · exact regWaits_listed hc f e.on (fun o' ho' => hc e.on o' ho' hl) k hk

theorem RegClosed.set {listed : Array Bool} {i : Nat} (hc : RegClosed md ops listed) (hi : i ∈ Region.ready md ops listed) : RegClosed md ops (listed.setIfInBounds i true) := by
  intro k o ho hk e he hb
  have grow : ∀ n, listed.getD n false = true → (listed.setIfInBounds i true).getD n false = true := by
    intro n hn
    by_cases hin : i = n
    · subst hin
      have hlt : i < listed.size := by
        rcases Nat.lt_or_ge i listed.size with h | h
        · exact h
        · simp [Array.getElem?_eq_none h] at hn
      simp [hlt]
    · rw [getD_set_ne false hin]; exact hn
  by_cases hik : i = k
  · subst hik
    obtain ⟨_, o', ho', hall⟩ := mem_ready.1 hi
    rw [ho] at ho'
    injection ho' with ho'
    subst ho'
    exact grow _ (hall e he hb)
  · rw [getD_set_ne false hik] at hk
    exact grow _ (hc k o ho hk e he hb)

/-- Have these come up? -/
def regDone (σ : List Nat) (listed : Array Bool) : Bool := σ.all fun i => listed.getD i false

def wpAnyG (P : Program) (md : Region.Mode) (ops : Array Oper) (C : World → Prop) (Q : Exit → Act → World → Prop) (σ : List Nat) : Nat → Array Bool → Act → Prop
  | 0, listed, a => regDone σ listed = true ∧ ∀ w, C w → wpAny P md ops Q 0 listed a w
  | fuel + 1, listed, a =>
    if regDone σ listed then ∀ w, C w → wpAny P md ops Q (fuel + 1) listed a w
    else Region.ready md ops listed ≠ [] ∧ ∀ i ∈ Region.ready md ops listed, qOp P ops C i (wpAnyG P md ops C Q σ fuel (listed.setIfInBounds i true)) a

theorem wpAny_of_gate {σ : List Nat} : ∀ (fuel : Nat) (listed : Array Bool) (a : Act) (w : World), C w → wpAnyG P md ops C Q σ fuel listed a → wpAny P md ops Q fuel listed a w
  | 0, _, _, w, hw, h => h.2 w hw
  | fuel + 1, listed, a, w, hw, h => by
    unfold wpAnyG at h
    split at h
    · exact h w hw
    · exact ⟨fun h0 => absurd h0 h.1, fun i hi => wpOp_of_qOp hw (fun a' w' hw' h' => wpAny_of_gate fuel _ a' w' hw' h') (h.2 i hi)⟩

/-- Each operation beside the quiet ones waits for all of them. -/
def regGate (md : Region.Mode) (ops : Array Oper) (σ β : List Nat) : Bool :=
  (List.range ops.size).all fun j => σ.contains j || β.contains j || (let ws := regWaits md ops ops.size j; σ.all fun i => ws.contains i)

theorem regGate_ready {σ β : List Nat} {listed : Array Bool} {j i : Nat} (hg : regGate md ops σ β = true) (hβ : ∀ k ∈ β, listed.getD k false = true) (hc : RegClosed md ops listed) (hj : j ∈ Region.ready md ops listed)
    (hi : i ∈ σ) (hun : listed.getD i false = false) : j ∈ σ := by
  obtain ⟨_, o, ho, hall⟩ := mem_ready.1 hj
  have hlt : j < ops.size := (Array.getElem?_eq_some_iff.1 ho).1
  have h1 := List.all_eq_true.1 hg j (List.mem_range.2 hlt)
  simp only [Bool.or_eq_true, List.contains_iff_mem, List.all_eq_true] at h1
  rcases h1 with (h1 | h1) | h1
  · exact h1
  · have h2 := hβ j h1
    have h0 := (mem_ready.1 hj).1
    rcases Nat.lt_or_ge j listed.size with h' | h'
    · simp only [Array.getD_eq_getD_getElem?, Array.getElem?_eq_getElem h', Option.getD_some] at h0 h2
      rw [h0] at h2; cases h2
    · simp only [Array.getD_eq_getD_getElem?, Array.getElem?_eq_none h', Option.getD_none] at h2
      cases h2
  · have := regWaits_listed hc ops.size j (fun o' ho' => by rw [ho] at ho'; injection ho' with ho'; subst ho'; exact hall) i (h1 i hi)
    rw [hun] at this
    cases this

theorem set_keeps {β : List Nat} {listed : Array Bool} (hβ : ∀ k ∈ β, listed.getD k false = true) (i : Nat) : ∀ k ∈ β, (listed.setIfInBounds i true).getD k false = true := by
  intro k hk
  have h1 := hβ k hk
  by_cases hik : i = k
  · subst hik
    have hlt : i < listed.size := by
      rcases Nat.lt_or_ge i listed.size with h' | h'
      · exact h'
      · simp [Array.getElem?_eq_none h'] at h1
    simp [hlt]
  · rw [getD_set_ne false hik]; exact h1

theorem wpAnyG_first {σ β : List Nat} {i : Nat} {oi : Oper} {v : Value} (hg : regGate md ops σ β = true) (hiσ : i ∈ σ) (hi : ops[i]? = some oi) (hsel : ∀ (j : Nat) (o : Oper) cs b, ops[j]? = some o → o.op ≠ .select cs b) :
    ∀ (fuel : Nat) (listed : Array Bool) (a : Act), (∀ k ∈ β, listed.getD k false = true) → RegClosed md ops listed →
      (∀ j oj, ops[j]? = some oj → j ≠ i → listed.getD j true = false → (∀ e ∈ oj.after, Region.binds md e = true → e.on ≠ i) → oi.apart ops oj = true) →
      i ∈ Region.ready md ops listed → YieldsIn P ops C oi v a →
      wpAnyG P md ops C Q σ fuel (listed.setIfInBounds i true) (a.put oi.dst v) → wpAnyG P md ops C Q σ (fuel + 1) listed a := by
  have unl : ∀ {listed : Array Bool}, i ∈ Region.ready md ops listed → listed.getD i false = false := by
    intro listed hr
    have h0 := (mem_ready.1 hr).1
    rcases Nat.lt_or_ge i listed.size with h' | h'
    · simp [h'] at h0 ⊢; exact h0
    · simp [Array.getElem?_eq_none h'] at h0
  have notDone : ∀ {listed : Array Bool}, i ∈ Region.ready md ops listed → regDone σ listed = false := by
    intro listed hr
    cases hd : regDone σ listed with
    | false => rfl
    | true =>
      have := List.all_eq_true.1 hd i hiσ
      rw [unl hr] at this
      cases this
  intro fuel
  induction fuel with
  | zero =>
    intro listed a hβ hcl hfree hr hy H
    unfold wpAnyG
    rw [notDone hr]
    refine ⟨fun h => (by rw [h] at hr; cases hr), fun j hj => ?_⟩
    by_cases hji : j = i
    · subst hji; exact hy.qOp hi H
    · have hjσ := regGate_ready hg hβ hcl hj hiσ (unl hr)
      have hj' := ready_mono hj hji
      have h2 := List.all_eq_true.1 H.1 j hjσ
      have h0 := (mem_ready.1 hj').1
      rcases Nat.lt_or_ge j (listed.setIfInBounds i true).size with h' | h'
      · simp only [Array.getD_eq_getD_getElem?, Array.getElem?_eq_getElem h', Option.getD_some] at h0 h2
        rw [h0] at h2; cases h2
      · simp only [Array.getD_eq_getD_getElem?, Array.getElem?_eq_none h', Option.getD_none] at h2
        cases h2
  | succ fuel ih =>
    intro listed a hβ hcl hfree hr hy H
    unfold wpAnyG
    rw [notDone hr]
    refine ⟨fun h => (by rw [h] at hr; cases hr), fun j hj => ?_⟩
    by_cases hji : j = i
    · subst hji; exact hy.qOp hi H
    · have hjσ := regGate_ready hg hβ hcl hj hiσ (unl hr)
      have hj' := ready_mono hj hji
      have hnd : regDone σ (listed.setIfInBounds i true) = false := by
        cases hd : regDone σ (listed.setIfInBounds i true) with
        | false => rfl
        | true =>
          have h2 := List.all_eq_true.1 hd j hjσ
          have h0 := (mem_ready.1 hj').1
          rcases Nat.lt_or_ge j (listed.setIfInBounds i true).size with h' | h'
          · simp only [Array.getD_eq_getD_getElem?, Array.getElem?_eq_getElem h', Option.getD_some] at h0 h2
            rw [h0] at h2; cases h2
          · simp only [Array.getD_eq_getD_getElem?, Array.getElem?_eq_none h', Option.getD_none] at h2
            cases h2
      unfold wpAnyG at H
      rw [hnd] at H
      have h1 := H.2 j hj'
      obtain ⟨hjun, oj, hoj, hall⟩ := mem_ready.1 hj
      have hnot : ∀ e ∈ oj.after, Region.binds md e = true → e.on ≠ i := fun e he hb heq => by
        have h1 := hall e he hb
        rw [heq, unl hr] at h1
        cases h1
      have h2 := qOp_put hoj (hfree j oj hoj hji hjun hnot) (fun cs b => hsel i oi cs b hi) (fun cs b => hsel j oj cs b hoj) hy h1
      have hfree' : ∀ k ok, ops[k]? = some ok → k ≠ i → (listed.setIfInBounds j true).getD k true = false →
          (∀ e ∈ ok.after, Region.binds md e = true → e.on ≠ i) → oi.apart ops ok = true := fun k ok hk hki hun hno => by
        refine hfree k ok hk hki ?_ hno
        by_cases hjk : j = k
        · subst hjk; exact hjun
        · rw [getD_set_ne true hjk] at hun; exact hun
      refine qOp_mono (fun a' h3 => ih (listed.setIfInBounds j true) a' (set_keeps hβ j) (hcl.set hj) hfree' (ready_mono hr (Ne.symm hji)) h3.1 ?_) h2
      rw [Array.setIfInBounds_comm _ _ hji]
      exact h3.2

/-- The operations of these numbers. -/
def regPick (l : List Oper) : List Nat → List Oper
  | [] => []
  | i :: is => match l[i]? with
    | some o => o :: regPick l is
    | none => regPick l is

/-- The chain: each comes up alone. -/
def regChain (md : Region.Mode) (ops : Array Oper) : List Nat → Array Bool → Bool
  | [], listed => (Region.ready md ops listed).isEmpty
  | i :: is, listed => (Region.ready md ops listed == [i]) && regChain md ops is (listed.setIfInBounds i true)

theorem wpAny_chain {l : List Oper} : ∀ (τ : List Nat) (listed : Array Bool) (a : Act) (w : World), regChain md l.toArray τ listed = true →
    wpList P l.toArray Q (regPick l τ) a w → wpAny P md l.toArray Q τ.length listed a w
  | [], listed, a, w, hB, h => ⟨by simpa [regChain] using hB, h⟩
  | i :: τ, listed, a, w, hB, h => by
    simp only [regChain, Bool.and_eq_true, beq_iff_eq] at hB
    obtain ⟨hr, hB⟩ := hB
    refine ⟨fun h0 => (by rw [hr] at h0; cases h0), fun j hj => ?_⟩
    rw [hr] at hj
    obtain rfl : j = i := by simpa using hj
    obtain ⟨_, o, ho, _⟩ := mem_ready.1 (show j ∈ Region.ready md l.toArray listed by rw [hr]; simp)
    have ho' : l[j]? = some o := by simpa using ho
    unfold wpOp
    simp only [ho]
    simp only [regPick, ho', wpList] at h
    split
    · rename_i hw
      simp only [hw, if_true] at h
      exact h.imp (Oper.wp_mono fun a w => wpAny_chain τ _ a w hB) id
    · rename_i hw
      simp only [hw] at h
      exact wpAny_chain τ _ _ w hB h

/-- The quiet ones, in this order, may each be taken first; then the chain. -/
def regFirst (md : Region.Mode) (ops : Array Oper) (τ : List Nat) : List Nat → Array Bool → Bool
  | [], listed => regChain md ops τ listed
  | i :: is, listed => (Region.ready md ops listed).contains i && Region.free md ops listed i && regFirst md ops τ is (listed.setIfInBounds i true)

theorem wpAnyG_walk {l : List Oper} {σ τ β : List Nat} (hg : regGate md l.toArray σ β = true) (hs : Region.noSelect l.toArray = true) : ∀ (is : List Nat) (listed : Array Bool) (a : Act),
    (∀ k ∈ β, listed.getD k false = true) → RegClosed md l.toArray listed → (∀ i ∈ is, i ∈ σ) → (∀ i ∈ σ, i ∈ is ∨ listed.getD i false = true) → regFirst md l.toArray τ is listed = true →
    wpQuiet P l.toArray C (fun a' => ∀ w', C w' → wpList P l.toArray Q (regPick l τ) a' w') (regPick l is) a →
    wpAnyG P md l.toArray C Q σ (is.length + τ.length) listed a
  | [], listed, a, _, _, _, hdone, hB, h => by
    have hd : regDone σ listed = true := List.all_eq_true.2 fun i hi => (hdone i hi).resolve_left (by simp)
    have h' : ∀ w, C w → wpAny P md l.toArray Q τ.length listed a w := fun w hw => wpAny_chain τ listed a w hB (h w hw)
    simp only [List.length_nil, Nat.zero_add]
    cases hl : τ.length with
    | zero => rw [hl] at h'; exact ⟨hd, h'⟩
    | succ n => rw [hl] at h'; unfold wpAnyG; rw [hd]; exact h'
  | i :: is, listed, a, hβ, hcl, hin, hdone, hB, h => by
    simp only [regFirst, Bool.and_eq_true] at hB
    obtain ⟨⟨hr, hf⟩, hB⟩ := hB
    have hr' : i ∈ Region.ready md l.toArray listed := by simpa using hr
    obtain ⟨_, o, ho, _⟩ := mem_ready.1 hr'
    have ho' : l[i]? = some o := by simpa using ho
    have hst : qOp P l.toArray C i (wpQuiet P l.toArray C (fun a' => ∀ w', C w' → wpList P l.toArray Q (regPick l τ) a' w') (regPick l is)) a := by
      simp only [regPick, ho', wpQuiet] at h
      unfold qOp
      simp only [ho]
      exact h
    obtain ⟨v, hy, hK⟩ := yieldsIn_of_qOp ho hst
    have hlen : (i :: is).length + τ.length = (is.length + τ.length) + 1 := by simp; omega
    rw [hlen]
    refine wpAnyG_first hg (hin i (by simp)) ho (Region.noSelect_spec hs) _ listed a hβ hcl (Region.free_spec ho hf) hr' hy
      (wpAnyG_walk hg hs is _ _ (set_keeps hβ i) (hcl.set hr') (fun k hk => hin k (by simp [hk])) (fun k hk => ?_) hB hK)
    rcases hdone k hk with h1 | h1
    · rcases List.mem_cons.1 h1 with rfl | h1
      · right
        have hlt : k < listed.size := by
          have h0 := (mem_ready.1 hr').1
          rcases Nat.lt_or_ge k listed.size with h' | h'
          · exact h'
          · simp [Array.getElem?_eq_none h'] at h0
        simp [hlt]
      · exact .inl h1
    · right
      by_cases hik : i = k
      · subst hik
        have hlt : i < listed.size := by
          rcases Nat.lt_or_ge i listed.size with h' | h'
          · exact h'
          · simp [Array.getElem?_eq_none h'] at h1
        simp [hlt]
      · rw [getD_set_ne false hik]; exact h1

/-- All that is asked of the numbers, as one Bool. -/
def regB (l : List Oper) (σ τ : List Nat) : Bool :=
  regGate .any l.toArray σ [] && Region.noSelect l.toArray && regFirst .any l.toArray τ σ (Array.replicate l.length false) && (σ.length + τ.length == l.length)

/-- **A REGION THAT DRAWS**: first its quiet operations σ, in a class of worlds, then the chain τ. -/
theorem wp_region_gate (C : World → Prop) (σ τ : List Nat) {id : Nat} {l : List Oper} {a : Act} {w : World} (hm : P.follows .mixedOrders = true) (hB : regB l σ τ = true) (hC : C w.drew)
    (h : wpQuiet P l.toArray C (fun a' => ∀ w', C w' → wpList P l.toArray Q (regPick l τ) a' w') (regPick l σ) a) : (Code.region id l.toArray true).wp P Q a w := by
  simp only [regB, Bool.and_eq_true, beq_iff_eq] at hB
  obtain ⟨⟨⟨hg, hs⟩, hf⟩, hl⟩ := hB
  refine wp_region_any hm (wpAny_of_gate (C := C) (σ := σ) _ _ _ _ hC ?_)
  have hcl : RegClosed .any l.toArray (Array.replicate l.length false) := by
    intro k o ho hk
    exfalso
    rcases Nat.lt_or_ge k l.length with h' | h'
    · simp [h'] at hk
    · simp [Array.getElem?_eq_none (xs := Array.replicate l.length false) (by simpa using h')] at hk
  have := wpAnyG_walk (P := P) (C := C) (Q := Q) (md := .any) hg hs σ (Array.replicate l.length false) a (by simp) hcl (fun _ h => h) (fun i hi => .inl hi) hf h
  rw [hl] at this
  simpa using this

/-- The class: after some draws. -/
theorem wp_region_gate_draws (σ τ : List Nat) {id : Nat} {l : List Oper} {a : Act} {w : World} (hm : P.follows .mixedOrders = true) (hB : regB l σ τ = true)
    (h : wpQuiet P l.toArray (fun w' => ∃ n, w' = w.drewN n) (fun a' => ∀ w', (∃ n, w' = w.drewN n) → wpList P l.toArray Q (regPick l τ) a' w') (regPick l σ) a) :
    (Code.region id l.toArray true).wp P Q a w :=
  wp_region_gate (fun w' => ∃ n, w' = w.drewN n) σ τ hm hB ⟨1, rfl⟩ h
/-- What has come up when these have. -/
def regList (n : Nat) (σ : List Nat) : Array Bool := σ.foldl (fun l i => l.setIfInBounds i true) (Array.replicate n false)

def regFirstAny (md : Region.Mode) (ops : Array Oper) : List Nat → Array Bool → Bool
  | [], _ => true
  | i :: is, listed => (Region.ready md ops listed).contains i && Region.free md ops listed i && regFirstAny md ops is (listed.setIfInBounds i true)

theorem wpAnyG_walk_any {l : List Oper} {σ β : List Nat} {n : Nat} (hg : regGate md l.toArray σ β = true) (hs : Region.noSelect l.toArray = true) : ∀ (is : List Nat) (listed : Array Bool) (a : Act),
    (∀ k ∈ β, listed.getD k false = true) → RegClosed md l.toArray listed → (∀ i ∈ is, i ∈ σ) → (∀ i ∈ σ, i ∈ is ∨ listed.getD i false = true) → regFirstAny md l.toArray is listed = true →
    wpQuiet P l.toArray C (fun a' => ∀ w', C w' → wpAny P md l.toArray Q n (is.foldl (fun l i => l.setIfInBounds i true) listed) a' w') (regPick l is) a →
    wpAnyG P md l.toArray C Q σ (is.length + n) listed a
  | [], listed, a, _, _, _, hdone, hB, h => by
    have hd : regDone σ listed = true := List.all_eq_true.2 fun i hi => (hdone i hi).resolve_left (by simp)
    have h' : ∀ w, C w → wpAny P md l.toArray Q n listed a w := h
    simp only [List.length_nil, Nat.zero_add]
    cases n with
    | zero => exact ⟨hd, h'⟩
    | succ n => unfold wpAnyG; rw [hd]; exact h'
  | i :: is, listed, a, hβ, hcl, hin, hdone, hB, h => by
    simp only [regFirstAny, Bool.and_eq_true] at hB
    obtain ⟨⟨hr, hf⟩, hB⟩ := hB
    have hr' : i ∈ Region.ready md l.toArray listed := by simpa using hr
    obtain ⟨_, o, ho, _⟩ := mem_ready.1 hr'
    have ho' : l[i]? = some o := by simpa using ho
    have hst : qOp P l.toArray C i (wpQuiet P l.toArray C (fun a' => ∀ w', C w' → wpAny P md l.toArray Q n (is.foldl (fun l i => l.setIfInBounds i true) (listed.setIfInBounds i true)) a' w') (regPick l is)) a := by
      simp only [regPick, ho', wpQuiet, List.foldl_cons] at h
      unfold qOp
      simp only [ho]
      exact h
    obtain ⟨v, hy, hK⟩ := yieldsIn_of_qOp ho hst
    have hlen : (i :: is).length + n = (is.length + n) + 1 := by simp; omega
    rw [hlen]
    refine wpAnyG_first hg (hin i (by simp)) ho (Region.noSelect_spec hs) _ listed a hβ hcl (Region.free_spec ho hf) hr' hy
      (wpAnyG_walk_any hg hs is _ _ (set_keeps hβ i) (hcl.set hr') (fun k hk => hin k (by simp [hk])) (fun k hk => ?_) hB hK)
    rcases hdone k hk with h1 | h1
    · rcases List.mem_cons.1 h1 with rfl | h1
      · right
        have hlt : k < listed.size := by
          have h0 := (mem_ready.1 hr').1
          rcases Nat.lt_or_ge k listed.size with h' | h'
          · exact h'
          · simp [Array.getElem?_eq_none h'] at h0
        simp [hlt]
      · exact .inl h1
    · right
      by_cases hik : i = k
      · subst hik
        have hlt : i < listed.size := by
          rcases Nat.lt_or_ge i listed.size with h' | h'
          · exact h'
          · simp [Array.getElem?_eq_none h'] at h1
        simp [hlt]
      · rw [getD_set_ne false hik]; exact h1

def regBAny (l : List Oper) (σ : List Nat) (n : Nat) : Bool :=
  regGate .any l.toArray σ [] && Region.noSelect l.toArray && regFirstAny .any l.toArray σ (Array.replicate l.length false) && (σ.length + n == l.length)

/-- **A REGION THAT DRAWS**: first its quiet operations σ, then the others, n of them, in whatever order. -/
theorem wp_region_gate_any (C : World → Prop) (σ : List Nat) (n : Nat) {id : Nat} {l : List Oper} {a : Act} {w : World} (hm : P.follows .mixedOrders = true) (hB : regBAny l σ n = true) (hC : C w.drew)
    (h : wpQuiet P l.toArray C (fun a' => ∀ w', C w' → wpAny P .any l.toArray Q n (regList l.length σ) a' w') (regPick l σ) a) : (Code.region id l.toArray true).wp P Q a w := by
  simp only [regBAny, Bool.and_eq_true, beq_iff_eq] at hB
  obtain ⟨⟨⟨hg, hs⟩, hf⟩, hl⟩ := hB
  refine wp_region_any hm (wpAny_of_gate (C := C) (σ := σ) _ _ _ _ hC ?_)
  have hcl : RegClosed .any l.toArray (Array.replicate l.length false) := by
    intro k o ho hk
    exfalso
    rcases Nat.lt_or_ge k l.length with h' | h'
    · simp [h'] at hk
    · simp [Array.getElem?_eq_none (xs := Array.replicate l.length false) (by simpa using h')] at hk
  have := wpAnyG_walk_any (P := P) (C := C) (Q := Q) (md := .any) (n := n) hg hs σ (Array.replicate l.length false) a (by simp) hcl (fun _ h => h) (fun i hi => .inl hi) hf h
  rw [hl] at this
  simpa using this

theorem wp_region_gate_any_draws (σ : List Nat) (n : Nat) {id : Nat} {l : List Oper} {a : Act} {w : World} (hm : P.follows .mixedOrders = true) (hB : regBAny l σ n = true)
    (h : wpQuiet P l.toArray (fun w' => ∃ n, w' = w.drewN n) (fun a' => ∀ w', (∃ n, w' = w.drewN n) → wpAny P .any l.toArray Q n (regList l.length σ) a' w') (regPick l σ) a) :
    (Code.region id l.toArray true).wp P Q a w :=
  wp_region_gate_any (fun w' => ∃ n, w' = w.drewN n) σ n hm hB ⟨1, rfl⟩ h

theorem Oper.wp_of_then {o : Oper} {a : Act} {w : World} {K K' : Act → World → Prop} (h : o.wp P a w K (Exit.then K' Q)) : o.wp P a w K Q := by
  unfold Oper.wp at *
  generalize (execOp a.eval o).run P w = r at *
  cases r with
  | ok n w' =>
    cases n <;> simp only [Oper.upon] at h ⊢ <;> first | exact h | exact Calls.mono h (fun e w'' he => by cases e <;> exact he)
  | halt x w' => cases x <;> simp only [Oper.upon] at h ⊢ <;> exact h

theorem wpOp_of_list {l : List Oper} {i : Nat} {a : Act} {w : World} {K : Act → World → Prop} {o : Oper} (ho : l[i]? = some o)
    (h : wpList P l.toArray (Exit.then K Q) (regPick l [i]) a w) : wpOp P l.toArray Q i K a w := by
  have ho' : l.toArray[i]? = some o := by simpa using ho
  unfold wpOp
  simp only [ho']
  simp only [regPick, ho, wpList] at h
  split
  · rename_i hw
    simp only [hw, if_true] at h
    exact h.imp (fun h => Oper.wp_of_then (Oper.wp_mono (fun a w h => h) h)) id
  · rename_i hw
    simp only [hw] at h
    exact h

/-- Either of two may come up next. -/
theorem wpAny_fork {l : List Oper} (i j : Nat) {n : Nat} {listed : Array Bool} {a : Act} {w : World} (hr : (Region.ready .any l.toArray listed == [i, j]) = true)
    (h1 : wpList P l.toArray (Exit.then (wpAny P .any l.toArray Q n (listed.setIfInBounds i true)) Q) (regPick l [i]) a w)
    (h2 : wpList P l.toArray (Exit.then (wpAny P .any l.toArray Q n (listed.setIfInBounds j true)) Q) (regPick l [j]) a w) :
    wpAny P .any l.toArray Q (n + 1) listed a w := by
  have hr := eq_of_beq hr
  refine ⟨fun h0 => (by rw [hr] at h0; cases h0), fun k hk => ?_⟩
  obtain ⟨_, o, ho, _⟩ := mem_ready.1 hk
  have ho' : l[k]? = some o := by simpa using ho
  rw [hr] at hk
  rcases List.mem_cons.1 hk with rfl | hk
  · exact wpOp_of_list ho' h1
  · obtain rfl : k = j := by simpa using hk
    exact wpOp_of_list ho' h2

/-- What is left is a chain. -/
theorem wpAny_rest {l : List Oper} (τ : List Nat) {n : Nat} {listed : Array Bool} {a : Act} {w : World} (hB : (τ.length == n && regChain .any l.toArray τ listed) = true)
    (h : wpList P l.toArray Q (regPick l τ) a w) : wpAny P .any l.toArray Q n listed a w := by
  simp only [Bool.and_eq_true, beq_iff_eq] at hB
  rw [← hB.1]
  exact wpAny_chain τ listed a w hB.2 h

/-- An operation that, if it ends, hands on one value (no call of a Go function, no store). -/
def plainKind (o : Oper) : Bool :=
  match o.op with
  | .move _ | .assign _ | .pick .. | .load .. | .binOp .. | .unOp .. | .convert .. | .slice .. | .fieldAddr .. | .field .. | .indexAddr .. | .index .. | .extract .. | .build .. | .makeInterface .. | .lookup .. | .typeAssert .. => true
  | .nilCheck _ => true
  | .call c => match c.callee with
    | .builtin .len | .builtin .cap | .builtin .min | .builtin .max => true
    | _ => false
  | _ => false

def valueOrHalt : Result Next → Prop
  | .ok (.value _) _ => True
  | .ok _ _ => False
  | .halt _ _ => True

theorem valueOrHalt_bind {x : Sem Value} {w : World} : valueOrHalt ((do pure (Next.value (← x)) : Sem Next).run P w) := by
  simp only [Sem.run_bind, Sem.run_pure]
  cases x.run P w <;> simp [Result.andThen, valueOrHalt]

theorem vh_bind {α : Type} {x : Sem α} {f : α → Sem Next} {w : World} (h : ∀ v w', valueOrHalt ((f v).run P w')) : valueOrHalt ((x >>= f).run P w) := by
  rw [Sem.run_bind]
  cases x.run P w with
  | ok v w' => exact h v w'
  | halt e w' => trivial

theorem plainKind_value {o : Oper} (h : plainKind o = true) (ρ : Operand → Value) (w : World) : valueOrHalt ((execOp ρ o).run P w) := by
  obtain ⟨dst, op, type, pos, after, guard⟩ := o
  cases op <;> simp only [plainKind] at h <;> try (cases h; done)
  case move => simp [execOp, valueOrHalt]
  case assign => simp [execOp, valueOrHalt]
  case pick c a b =>
    simp only [execOp, Sem.run_bind, Sem.run_pure]
    cases (asBool (ρ c)).run P w <;> simp [Result.andThen, valueOrHalt]
  case nilCheck x =>
    have hrp : valueOrHalt ((runtimePanic .nilDeref : Sem Next).run P w) := by
      simp [runtimePanic, goPanic, go_sem, valueOrHalt]
    simp only [execOp]
    split
    · exact hrp
    · exact hrp
    · exact hrp
    · split
      · exact hrp
      · refine vh_bind fun v w' => vh_bind fun v w' => ?_
        split
        · refine vh_bind fun v w' => ?_
          simp [valueOrHalt]
        · simp [valueOrHalt]
      · simp [valueOrHalt]
    · simp [valueOrHalt]
  case call c =>
    obtain ⟨callee, args, ats⟩ := c
    cases callee <;> simp only at h <;> try (cases h; done)
    case builtin b =>
      cases b <;> simp only at h <;> try (cases h; done)
      all_goals (simp only [execOp, resolve, Sem.run_bind, Sem.run_pure, Result.andThen, invoke, builtin]; split <;> trivial)
  all_goals (simp only [execOp]; exact valueOrHalt_bind)

theorem yieldsIf_of_quiet {S : World → Prop} {o : Oper} {a : Act} {v : Value} (hk : plainKind o = true) (h : YieldsIn P ops S o v a) : YieldsIf P ops S o v a := by
  rcases h with ⟨hw, h⟩ | h
  · refine .inl ⟨hw, fun w hS => ?_⟩
    have h1 := h w hS
    have h2 := plainKind_value (P := P) hk a.eval w
    unfold Oper.quietAt at h1
    generalize (execOp a.eval o).run P w = r at h1 h2
    cases r with
    | ok n w' => cases n <;> simp_all [Oper.quietUpon, valueOrHalt]
    | halt x w' => simp [Oper.quietUpon] at h1
  · exact .inr h

def regKinds (l : List Oper) (σ : List Nat) : Bool := (regPick l σ).all plainKind

theorem wpAnyH_walk {l : List Oper} {S : World → Prop} {n : Nat} {w : World} (hs : Region.noSelect l.toArray = true) (hS : S w)
    (hQ : ∀ c d v a w, Q (.panic c) (Act.put a d v) w → Q (.panic c) a w) : ∀ (is : List Nat) (listed : Array Bool) (a : Act),
    regFirstAny md l.toArray is listed = true → regKinds l is = true →
    wpQuiet P l.toArray S (fun a' => wpAnyH P md l.toArray Q S n (is.foldl (fun l i => l.setIfInBounds i true) listed) a' w) (regPick l is) a →
    wpAnyH P md l.toArray Q S (is.length + n) listed a w
  | [], listed, a, _, _, h => by simpa [regPick, wpQuiet] using h
  | i :: is, listed, a, hB, hK, h => by
    simp only [regFirstAny, Bool.and_eq_true] at hB
    obtain ⟨⟨hr, hf⟩, hB⟩ := hB
    have hr' : i ∈ Region.ready md l.toArray listed := by simpa using hr
    obtain ⟨_, o, ho, _⟩ := mem_ready.1 hr'
    have ho' : l[i]? = some o := by simpa using ho
    have hst : qOp P l.toArray S i (wpQuiet P l.toArray S (fun a' => wpAnyH P md l.toArray Q S n (is.foldl (fun l i => l.setIfInBounds i true) (listed.setIfInBounds i true)) a' w) (regPick l is)) a := by
      simp only [regPick, ho', wpQuiet, List.foldl_cons] at h
      unfold qOp
      simp only [ho]
      exact h
    obtain ⟨v, hy, hrest⟩ := yieldsIn_of_qOp ho hst
    simp only [regKinds, regPick, ho', List.all_cons, Bool.and_eq_true] at hK
    have hlen : (i :: is).length + n = (is.length + n) + 1 := by simp; omega
    rw [hlen]
    exact wpAnyH_take ho hs hf hr (fun c a w => hQ c _ _ a w) (yieldsIf_of_quiet hK.1 hy) hS (wpAnyH_walk hs hS hQ is _ _ hB hK.2 hrest)

/-- What is asked behind a region that is shown not to panic. -/
def regN (Q : Exit → Act → World → Prop) : Exit → Act → World → Prop := fun e a w => match e with
  | .panic _ => False
  | e => Q e a w
def regQ (Q : Exit → Act → World → Prop) : Exit → Act → World → Prop := Exit.then (fun a w => Q .normal a w) (regN Q)
theorem regQ_imp {Q : Exit → Act → World → Prop} : ∀ (e : Exit) (a : Act) (w : World), regQ Q e a w → Q e a w := fun e a w h => by
  cases e <;> first | exact h | exact (h : False).elim

/-- **A REGION THAT DRAWS**, its quiet operations first; they need not be waited for: 'S' is kept by the others. -/
theorem wp_region_keep0 (S : World → Prop) (σ : List Nat) (n : Nat) {id : Nat} {l : List Oper} {a : Act} {w : World} (hm : P.follows .mixedOrders = true)
    (hB : (Region.noSelect l.toArray && regFirstAny .any l.toArray σ (Array.replicate l.length false) && regKinds l σ && (σ.length + n == l.length)) = true) (hS : S w.drew)
    (hQ : ∀ c d v a w, Q (.panic c) (Act.put a d v) w → Q (.panic c) a w)
    (h : wpQuiet P l.toArray S (fun a' => wpAnyH P .any l.toArray Q S n (regList l.length σ) a' w.drew) (regPick l σ) a) : (Code.region id l.toArray true).wp P Q a w := by
  simp only [Bool.and_eq_true, beq_iff_eq] at hB
  obtain ⟨⟨⟨hs, hf⟩, hk⟩, hl⟩ := hB
  have := wpAnyH_walk (P := P) (Q := Q) (S := S) (md := .any) (n := n) (w := w.drew) hs hS hQ σ (Array.replicate l.length false) a hf hk h
  rw [hl] at this
  refine wp_region_held (S := S) hm ?_
  simpa using this

theorem wp_region_keep (S : World → Prop) (σ : List Nat) (n : Nat) {id : Nat} {l : List Oper} {a : Act} {w : World} (hm : P.follows .mixedOrders = true)
    (hB : (Region.noSelect l.toArray && regFirstAny .any l.toArray σ (Array.replicate l.length false) && regKinds l σ && (σ.length + n == l.length)) = true) (hS : S w.drew)
    (h : wpQuiet P l.toArray S (fun a' => wpAnyH P .any l.toArray (regQ Q) S n (regList l.length σ) a' w.drew) (regPick l σ) a) : (Code.region id l.toArray true).wp P Q a w :=
  Code.wp_mono regQ_imp (wp_region_keep0 S σ n hm hB hS (fun _ _ _ _ _ h => h) h)

theorem wpOp_then_of_list {l : List Oper} {i : Nat} {a : Act} {w : World} {K : Act → World → Prop} {o : Oper} (ho : l[i]? = some o)
    (h : wpList P l.toArray (Exit.then K Q) (regPick l [i]) a w) : wpOp P l.toArray Q i K a w := wpOp_of_list ho h

/-- One, or either of two, may come up next; S is to be shown behind it. -/
theorem wpAnyH_one {l : List Oper} {S : World → Prop} (i : Nat) {n : Nat} {listed : Array Bool} {a : Act} {w : World} (hr : (Region.ready .any l.toArray listed == [i]) = true)
    (h1 : wpList P l.toArray (Exit.then (fun a' w' => S w' ∧ wpAnyH P .any l.toArray Q S n (listed.setIfInBounds i true) a' w') Q) (regPick l [i]) a w) :
    wpAnyH P .any l.toArray Q S (n + 1) listed a w := by
  have hr := eq_of_beq hr
  refine ⟨fun h0 => (by rw [hr] at h0; cases h0), fun k hk => ?_⟩
  obtain ⟨_, o, ho, _⟩ := mem_ready.1 hk
  have ho' : l[k]? = some o := by simpa using ho
  rw [hr] at hk
  obtain rfl : k = i := by simpa using hk
  exact wpOp_of_list ho' h1
theorem wpAnyH_fork {l : List Oper} {S : World → Prop} (i j : Nat) {n : Nat} {listed : Array Bool} {a : Act} {w : World} (hr : (Region.ready .any l.toArray listed == [i, j]) = true)
    (h1 : wpList P l.toArray (Exit.then (fun a' w' => S w' ∧ wpAnyH P .any l.toArray Q S n (listed.setIfInBounds i true) a' w') Q) (regPick l [i]) a w)
    (h2 : wpList P l.toArray (Exit.then (fun a' w' => S w' ∧ wpAnyH P .any l.toArray Q S n (listed.setIfInBounds j true) a' w') Q) (regPick l [j]) a w) :
    wpAnyH P .any l.toArray Q S (n + 1) listed a w := by
  have hr := eq_of_beq hr
  refine ⟨fun h0 => (by rw [hr] at h0; cases h0), fun k hk => ?_⟩
  obtain ⟨_, o, ho, _⟩ := mem_ready.1 hk
  have ho' : l[k]? = some o := by simpa using ho
  rw [hr] at hk
  rcases List.mem_cons.1 hk with rfl | hk
  · exact wpOp_of_list ho' h1
  · obtain rfl : k = j := by simpa using hk
    exact wpOp_of_list ho' h2

/-- Where S asks nothing: what is left, in whatever order. -/
theorem wpAnyH_of_any {l : List Oper} : ∀ {n : Nat} {listed : Array Bool} {a : Act} {w : World}, wpAny P .any l.toArray Q n listed a w → wpAnyH P .any l.toArray Q (fun _ => True) n listed a w
  | 0, _, _, _, h => h
  | _ + 1, _, _, _, h => ⟨h.1, fun i hi => wpOp_mono (fun _ _ h' => ⟨trivial, wpAnyH_of_any h'⟩) (h.2 i hi)⟩

/-- The quiet operations look at no memory: they are taken first, the others come in whatever order. -/
theorem wp_region_blind (σ : List Nat) (n : Nat) {id : Nat} {l : List Oper} {a : Act} {w : World} (hm : P.follows .mixedOrders = true)
    (hB : (Region.noSelect l.toArray && regFirstAny .any l.toArray σ (Array.replicate l.length false) && regKinds l σ && (σ.length + n == l.length)) = true)
    (h : wpQuiet P l.toArray (fun _ => True) (fun a' => wpAny P .any l.toArray (regQ Q) n (regList l.length σ) a' w.drew) (regPick l σ) a) : (Code.region id l.toArray true).wp P Q a w :=
  wp_region_keep (fun _ => True) σ n hm hB trivial (by
    have mono : ∀ (K K' : Act → Prop) (hK : ∀ a, K a → K' a) (is : List Oper) (a : Act), wpQuiet P l.toArray (fun _ => True) K is a → wpQuiet P l.toArray (fun _ => True) K' is a := by
      intro K K' hK is
      induction is with
      | nil => exact fun a h => hK a h
      | cons o is ih =>
        intro a h
        unfold wpQuiet at h ⊢
        split
        · rename_i hw; rw [if_pos hw] at h; exact Oper.quiet_mono ih h
        · rename_i hw; rw [if_neg hw] at h; exact ih _ h
    exact mono _ _ (fun a' h' => wpAnyH_of_any h') _ _ h)

theorem wpAny_tail {l : List Oper} (τ : List Nat) {n : Nat} {listed : Array Bool} {a : Act} {w : World} (hB : (τ.length == n && regChain .any l.toArray τ listed) = true)
    (h : wpList P l.toArray (Exit.then (fun a w => Q .normal a w) (regN Q)) (regPick l τ) a w) : wpAny P .any l.toArray (regQ Q) n listed a w := wpAny_rest τ hB h
theorem wpAnyH_end {l : List Oper} {S : World → Prop} {listed : Array Bool} {a : Act} {w : World} (hr : (Region.ready .any l.toArray listed).isEmpty = true) (h : Q .normal a w) :
    wpAnyH P .any l.toArray (regQ Q) S 0 listed a w := ⟨by simpa using hr, h⟩

theorem wpAny_blind {l : List Oper} {n : Nat} {w : World} (hs : Region.noSelect l.toArray = true)
    (hQ : ∀ c d v a w, Q (.panic c) (Act.put a d v) w → Q (.panic c) a w) : ∀ (is : List Nat) (listed : Array Bool) (a : Act),
    regFirstAny md l.toArray is listed = true → regKinds l is = true →
    wpQuiet P l.toArray (fun _ => True) (fun a' => wpAny P md l.toArray Q n (is.foldl (fun l i => l.setIfInBounds i true) listed) a' w) (regPick l is) a →
    wpAny P md l.toArray Q (is.length + n) listed a w
  | [], listed, a, _, _, h => by simpa [regPick, wpQuiet] using h
  | i :: is, listed, a, hB, hK, h => by
    simp only [regFirstAny, Bool.and_eq_true] at hB
    obtain ⟨⟨hr, hf⟩, hB⟩ := hB
    have hr' : i ∈ Region.ready md l.toArray listed := by simpa using hr
    obtain ⟨_, o, ho, _⟩ := mem_ready.1 hr'
    have ho' : l[i]? = some o := by simpa using ho
    have hst : qOp P l.toArray (fun _ => True) i (wpQuiet P l.toArray (fun _ => True) (fun a' => wpAny P md l.toArray Q n (is.foldl (fun l i => l.setIfInBounds i true) (listed.setIfInBounds i true)) a' w) (regPick l is)) a := by
      simp only [regPick, ho', wpQuiet, List.foldl_cons] at h
      unfold qOp
      simp only [ho]
      exact h
    obtain ⟨v, hy, hrest⟩ := yieldsIn_of_qOp ho hst
    simp only [regKinds, regPick, ho', List.all_cons, Bool.and_eq_true] at hK
    have hlen : (i :: is).length + n = (is.length + n) + 1 := by simp; omega
    rw [hlen]
    have hy' : Yields P l.toArray o v a := by
      rcases yieldsIf_of_quiet hK.1 hy with ⟨h1, h2⟩ | h1
      · exact .inl ⟨h1, fun w => h2 w trivial⟩
      · exact .inr h1
    exact wpAny_take ho hs hf hr (fun c a w => hQ c _ _ a w) hy' (wpAny_blind hs hQ is _ _ hB hK.2 hrest)

theorem regClosed_list {l : List Oper} : ∀ (is : List Nat) (listed : Array Bool), RegClosed md l.toArray listed → regFirstAny md l.toArray is listed = true →
    RegClosed md l.toArray (is.foldl (fun l i => l.setIfInBounds i true) listed)
  | [], _, h, _ => h
  | i :: is, listed, h, hB => by
    simp only [regFirstAny, Bool.and_eq_true] at hB
    exact regClosed_list is _ (h.set (by simpa using hB.1.1)) hB.2

theorem regFirst_any {τ : List Nat} : ∀ (is : List Nat) (listed : Array Bool), regFirst md ops τ is listed = true → regFirstAny md ops is listed = true
  | [], _, _ => rfl
  | i :: is, listed, h => by
    simp only [regFirst, Bool.and_eq_true] at h
    simp only [regFirstAny, Bool.and_eq_true]
    exact ⟨h.1, regFirst_any is _ h.2⟩

def regBB (l : List Oper) (β σ τ : List Nat) : Bool :=
  Region.noSelect l.toArray && regFirstAny .any l.toArray β (Array.replicate l.length false) && regKinds l β && regGate .any l.toArray σ β && regFirst .any l.toArray τ σ (regList l.length β) && (β.length + (σ.length + τ.length) == l.length) && (β.all fun k => (regList l.length β).getD k false)

/-- **A REGION THAT DRAWS**: operations β that look at no memory, others σ that are quiet, in a class of worlds, and a chain τ that waits for all of σ. -/
theorem wp_region_mix (C : World → Prop) (β σ τ : List Nat) {id : Nat} {l : List Oper} {a : Act} {w : World} (hm : P.follows .mixedOrders = true) (hB : regBB l β σ τ = true) (hC : C w.drew)
    (h : wpQuiet P l.toArray (fun _ => True) (fun a1 => wpQuiet P l.toArray C (fun a' => ∀ w', C w' → wpList P l.toArray (Exit.then (fun a w => Q .normal a w) (regN Q)) (regPick l τ) a' w') (regPick l σ) a1) (regPick l β) a) :
    (Code.region id l.toArray true).wp P Q a w := by
  simp only [regBB, Bool.and_eq_true, beq_iff_eq] at hB
  obtain ⟨⟨⟨⟨⟨⟨hs, hfβ⟩, hk⟩, hg⟩, hf⟩, hl⟩, hall⟩ := hB
  have hcl0 : RegClosed .any l.toArray (Array.replicate l.length false) := by
    intro k o ho hk
    exfalso
    rcases Nat.lt_or_ge k l.length with h' | h'
    · simp [h'] at hk
    · simp [Array.getElem?_eq_none (xs := Array.replicate l.length false) (by simpa using h')] at hk
  have hcl := regClosed_list β _ hcl0 hfβ
  refine Code.wp_mono regQ_imp (wp_region_any hm ?_)
  have mono : ∀ (D : World → Prop) (K K' : Act → Prop) (_ : ∀ a, K a → K' a) (is : List Oper) (a : Act), wpQuiet P l.toArray D K is a → wpQuiet P l.toArray D K' is a := by
    intro D K K' hK is
    induction is with
    | nil => exact fun a h => hK a h
    | cons o is ih =>
      intro a h
      unfold wpQuiet at h ⊢
      split
      · rename_i hw; rw [if_pos hw] at h; exact Oper.quiet_mono ih h
      · rename_i hw; rw [if_neg hw] at h; exact ih _ h
  have hw := wpAny_blind (P := P) (Q := regQ Q) (md := .any) (n := σ.length + τ.length) (w := w.drew) (l := l) hs (fun _ _ _ _ _ h => h) β (Array.replicate l.length false) a hfβ hk
    (mono _ _ _ (fun a1 h1 => wpAny_of_gate (C := C) (σ := σ) _ _ _ _ hC
      (wpAnyG_walk (P := P) (C := C) (Q := regQ Q) (md := .any) hg hs σ _ a1 (List.all_eq_true.1 hall) hcl (fun _ h => h) (fun i hi => .inl hi) hf h1)) _ _ h)
  rw [hl] at hw
  simpa using hw

theorem wp_region_mix_draws (β σ τ : List Nat) {id : Nat} {l : List Oper} {a : Act} {w : World} (hm : P.follows .mixedOrders = true) (hB : regBB l β σ τ = true)
    (h : wpQuiet P l.toArray (fun _ => True) (fun a1 => wpQuiet P l.toArray (fun w' => ∃ n, w' = w.drewN n) (fun a' => ∀ w', (∃ n, w' = w.drewN n) → wpList P l.toArray (Exit.then (fun a w => Q .normal a w) (regN Q)) (regPick l τ) a' w') (regPick l σ) a1) (regPick l β) a) :
    (Code.region id l.toArray true).wp P Q a w :=
  wp_region_mix (fun w' => ∃ n, w' = w.drewN n) β σ τ hm hB ⟨1, rfl⟩ h
end
end Go
namespace Go
set_option linter.unusedSimpArgs false
set_option linter.unusedVariables false
open Go.RowKit

/-- New blocks, and where the tape stands behind them. -/
structure Extra where
  objs : Array Obj
  drawn : Nat

instance : Inhabited Extra := ⟨⟨#[], 0⟩⟩
/-- The world with these blocks behind it. -/
def World.more (w : World) (x : Extra) : World := { w with heap := w.heap ++ x.objs, drawn := x.drawn }

def Extra.cat (x y : Extra) : Extra := ⟨x.objs ++ y.objs, y.drawn⟩

section
variable (w : World) (x y : Extra) (a : Addr)

@[simp, go_sem] theorem World.more_more : (w.more x).more y = w.more (x.cat y) := by
  simp [World.more, Extra.cat, Array.append_assoc]
@[simp, go_sem] theorem World.more_of_drew : w.drew.more x = w.more x := rfl
@[simp, go_sem] theorem World.more_of_drewN (n : Nat) : (w.drewN n).more x = w.more x := rfl
theorem World.size_more : (w.more x).heap.size = w.heap.size + x.objs.size := by simp [World.more]
@[go_sem] theorem World.lt_size_more {k : Nat} (h : k < w.heap.size) : k < (w.more x).heap.size := by rw [World.size_more]; omega
theorem World.size_le_more : w.heap.size ≤ (w.more x).heap.size := by rw [World.size_more]; omega
theorem World.heap_more {k : Nat} (h : k < w.heap.size) : (w.more x).heap[k]? = w.heap[k]? := by
  show (w.heap ++ x.objs)[k]? = _
  rw [Array.getElem?_append_left h]
theorem World.heap_more_some {k : Nat} {o : Obj} (h : w.heap[k]? = some o) : (w.more x).heap[k]? = some o := by
  rw [World.heap_more w x (Array.getElem?_eq_some_iff.1 h).1, h]
@[go_sem] theorem World.cell?_more (h : a.block < w.heap.size) : (w.more x).cell? a = w.cell? a := World.cell?_of_block (World.heap_more w x h)
@[go_sem] theorem World.frozen?_more (h : a.block < w.heap.size) : (w.more x).frozen? a = w.frozen? a := World.frozen?_of_block (World.heap_more w x h)
theorem World.cell?_more_some {v : Value} (h : w.cell? a = some v) : (w.more x).cell? a = some v := by
  rw [World.cell?_more w x a (World.block_lt_of_cell? w a h), h]
@[simp, go_sem] theorem World.tape_more : (w.more x).tape = w.tape := rfl
@[simp, go_sem] theorem World.os_more : (w.more x).os = w.os := rfl
@[simp, go_sem] theorem World.output_more : (w.more x).output = w.output := rfl
@[go_sem] theorem World.setCell_more {v : Value} (h : a.block < w.heap.size) : (w.more x).setCell a v = (w.setCell a v).more x := by
  simp only [World.setCell, World.more, World.mk.injEq, and_true]
  apply Array.ext_getElem?
  intro i
  rw [Array.getElem?_modify, Array.getElem?_append, Array.getElem?_append, Array.size_modify, Array.getElem?_modify]
  by_cases hi : i < w.heap.size
  · simp [hi]
  · rw [if_neg hi, if_neg hi, if_neg (by omega)]
end

/-- w' is w with new blocks. -/
def Ext (w w' : World) : Prop := ∃ x, w' = w.more x

theorem Ext.of_below {w w' : World} (h : Below w.heap.size w w') : Ext w w' := by
  refine ⟨⟨w'.heap.extract w.heap.size w'.heap.size, w'.drawn⟩, ?_⟩
  obtain ⟨h1, h2, h3, h4, h5⟩ := h
  have hh : w'.heap = w.heap ++ w'.heap.extract w.heap.size w'.heap.size := by
    apply Array.ext_getElem?
    intro i
    rcases Nat.lt_or_ge i w.heap.size with hi | hi
    · rw [Array.getElem?_append_left hi, h5 i hi]
    · rw [Array.getElem?_append_right hi, Array.getElem?_extract]
      split
      · congr 1; omega
      · rw [Array.getElem?_eq_none]; omega
  cases w; cases w'
  simp only [World.more, World.mk.injEq]
  simp only at h1 h2 h3 hh
  exact ⟨hh, h2, trivial, h1, h3⟩

theorem Ext.below {w w' : World} (h : Ext w w') : Below w.heap.size w w' := by
  obtain ⟨x, rfl⟩ := h
  exact ⟨rfl, rfl, rfl, World.size_le_more w x, fun k hk => World.heap_more w x hk⟩
theorem Ext.belowB {w w' : World} (h : Ext w w') {B : Nat} (hB : B ≤ w.heap.size) : Below B w w' := h.below.mono hB
theorem Ext.refl (w : World) : Ext w w := Ext.of_below (Below.refl _ _)
theorem Ext.trans {a b c : World} (h : Ext a b) (k : Ext b c) : Ext a c := by
  obtain ⟨x, rfl⟩ := h; obtain ⟨y, rfl⟩ := k
  exact ⟨x.cat y, by simp⟩
theorem Ext.size {w w' : World} (h : Ext w w') : w.heap.size ≤ w'.heap.size := h.below.size
theorem Ext.more {a w : World} (h : Ext a w) (x : Extra) : Ext a (w.more x) := h.trans ⟨x, rfl⟩
theorem Ext.alloc {a w : World} (h : Ext a w) (o : Obj) : Ext a (w.alloc o) := Ext.of_below (h.below.alloc h.size o)
theorem Ext.drew {a w : World} (h : Ext a w) : Ext a w.drew := Ext.of_below h.below.drew
theorem Ext.drewN {a w : World} (h : Ext a w) (n : Nat) : Ext a (w.drewN n) := Ext.of_below (let b := h.below; ⟨b.os, b.tape, b.output, b.size, b.block⟩)
theorem Ext.setCell {a w : World} (h : Ext a w) {p : Addr} (hp : a.heap.size ≤ p.block) (u : Value) : Ext a (w.setCell p u) := Ext.of_below (h.below.setCell hp u)
theorem Ext.grown {a w w' : World} (h : Ext a w) {row : Option Nat} (hg : w.grownBy w' row) (hr : ∀ k, row = some k → a.heap.size ≤ k) : Ext a w' :=
  Ext.of_below (h.below.grown hg h.size hr)
theorem Ext.cell {w w' : World} (h : Ext w w') {p : Addr} {v : Value} (hc : w.cell? p = some v) : w'.cell? p = some v := by
  obtain ⟨x, rfl⟩ := h; exact World.cell?_more_some w x p hc
theorem Ext.heap {w w' : World} (h : Ext w w') {k : Nat} {o : Obj} (hc : w.heap[k]? = some o) : w'.heap[k]? = some o := by
  obtain ⟨x, rfl⟩ := h; exact World.heap_more_some w x hc
theorem Ext.frozen {w w' : World} (h : Ext w w') {p : Addr} (hp : p.block < w.heap.size) : w'.frozen? p = w.frozen? p := h.below.frozen hp

/-- A slice value that reads as these cells, each element 'size' cells; it lies in memory that is there. -/
def Reads (w : World) (size : Nat) (v : Value) (n : Nat) (xs : List Value) : Prop :=
  xs.length = n * size ∧ ∃ A c, v = .slice A n c ∧ n ≤ c ∧ (0 < n → ∃ b off, A = some ⟨b, off, none⟩ ∧ b < w.heap.size ∧ ∀ j u, xs[j]? = some u → w.cell? ⟨b, off + j, none⟩ = some u)

theorem addr_add (b off n : Nat) : (⟨b, off, none⟩ : Addr).add n = ⟨b, off + n, none⟩ := by unfold Addr.add; split <;> simp_all

theorem Reads.ext {w w' : World} {size n : Nat} {v : Value} {xs : List Value} (h : Reads w size v n xs) (he : Ext w w') : Reads w' size v n xs := by
  obtain ⟨h1, A, c, rfl, hc, h2⟩ := h
  refine ⟨h1, A, c, rfl, hc, fun hn => ?_⟩
  obtain ⟨b, off, rfl, hb, h3⟩ := h2 hn
  exact ⟨b, off, rfl, Nat.lt_of_lt_of_le hb he.size, fun j u hu => he.cell (h3 j u hu)⟩
theorem Reads.more {w : World} {size n : Nat} {v : Value} {xs : List Value} (h : Reads w size v n xs) (x : Extra) : Reads (w.more x) size v n xs := h.ext ⟨x, rfl⟩
/-- Where the slice's block is as it was. -/
theorem Reads.keep {w w' : World} {size n : Nat} {A : Option Addr} {m c : Nat} {xs : List Value} (h : Reads w size (.slice A m c) n xs)
    (hk : ∀ b off, A = some ⟨b, off, none⟩ → b < w.heap.size → w'.heap[b]? = w.heap[b]?) (hs : w.heap.size ≤ w'.heap.size) : Reads w' size (.slice A m c) n xs := by
  obtain ⟨h1, A', c', hv, hc, h2⟩ := h
  injection hv with hA hm hcc
  subst hA hm hcc
  refine ⟨h1, A, c, rfl, hc, fun hn => ?_⟩
  obtain ⟨b, off, rfl, hb, h3⟩ := h2 hn
  exact ⟨b, off, rfl, Nat.lt_of_lt_of_le hb hs, fun j u hu => (World.cell?_of_block (hk b off rfl hb)).trans (h3 j u hu)⟩
theorem Reads.below {w w' : World} {size n : Nat} {A : Option Addr} {m c : Nat} {xs : List Value} {B : Nat} (h : Reads w size (.slice A m c) n xs)
    (hb : Below B w w') (hA : ∀ b off, A = some ⟨b, off, none⟩ → b < B) : Reads w' size (.slice A m c) n xs :=
  h.keep (fun b off e _ => hb.block b (hA b off e)) hb.size
theorem Reads.nil (w : World) (size : Nat) : Reads w size (.slice none 0 0) 0 [] := ⟨by simp, none, 0, rfl, Nat.le_refl _, fun h => absurd h (by omega)⟩
theorem Reads.of_own {w : World} {base : Nat} {e : TypeId} {size n : Nat} {v : Value} {xs : List Value} (h : w.ownsRow base e size v n xs) : Reads w size v n xs := by
  have h1 := h.1
  rcases h.2 with ⟨rfl, rfl⟩ | ⟨g, cap, cur, rfl, hb, hg, hnc, _⟩
  · exact ⟨h1, none, 0, rfl, Nat.le_refl _, fun h => absurd h (by omega)⟩
  · refine ⟨h1, _, cap, rfl, hnc, fun _ => ⟨g, 0, rfl, (h.lt g rfl).2, fun j u hu => ?_⟩⟩
    have := h.cells (g := g) rfl j u hu
    rwa [addr_add] at this
end Go
