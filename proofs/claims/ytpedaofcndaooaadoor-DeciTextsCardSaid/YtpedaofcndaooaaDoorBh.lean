/- **A REGION THAT DRAWS ITS ORDER**: the walk in the plan's order speaks for every order. -/
import Derived.Test.YtpedaofcndaooaaDoorBg
namespace Go.A
set_option linter.unusedSimpArgs false
set_option linter.unusedVariables false
open Classical
section
variable {P : Program} {n : Nat} {l : List Oper} {π : List Nat} {eff : Nat → Bool} {looks : Nat → List Nat} {bit : Nat → Nat → Bool} {al : Nat → Bool} {item : Nat → AItem}
variable {K : AFr → ASt → Prop} {a0 : AFr} {σ0 : ASt} {w0 : World}

def unl (L : Array Bool) (xs : List Nat) : Nat := xs.countP fun i => !L.getD i false
theorem unl_set {L : Array Bool} {i : Nat} (hi : i < L.size) (hun : L.getD i false = false) : ∀ {xs : List Nat}, xs.Nodup → (i ∈ xs → unl (L.setIfInBounds i true) xs + 1 = unl L xs) ∧ (i ∉ xs → unl (L.setIfInBounds i true) xs = unl L xs)
  | [], _ => ⟨fun h => (by cases h), fun _ => rfl⟩
  | x :: xs, hnd => by
    obtain ⟨h1, h2⟩ := List.nodup_cons.1 hnd
    obtain ⟨ih1, ih2⟩ := unl_set hi hun (xs := xs) h2
    unfold unl at ih1 ih2 ⊢
    simp only [List.countP_cons]
    by_cases hx : i = x
    · subst hx
      refine ⟨fun _ => ?_, fun h => absurd (by simp) h⟩
      rw [ih2 h1, set_same hi, hun]
      simp
    · rw [getD_set_ne false hx]
      refine ⟨fun h => ?_, fun h => ?_⟩
      · have hm : i ∈ xs := by simpa [hx] using h
        have := ih1 hm
        omega
      · rw [ih2 (fun hm => h (by simp [hm]))]

theorem wpAny_of_inv {Q : Exit → Act → World → Prop} (hQ : ∀ a σ act w, K a σ → Le σ0 w0 σ w → Sim σ w → FRel n σ w a act → Q .normal act w) :
    ∀ (fuel : Nat) (π : List Nat) (_ : PlanOk l π eff looks bit al) (_ : ItemsOk P n l π eff looks bit al item) (L : Array Bool) (act : Act) (w : World) (pre post : List Nat) (a : AFr) (σ : ASt), Inv P n l π eff bit item K a0 σ0 w0 L act w pre post a σ → unl L (List.range l.length) ≤ fuel →
      wpAny P .any l.toArray Q fuel L act w := by
  -- the end
  have fin : ∀ (π : List Nat) (_ : PlanOk l π eff looks bit al) (L : Array Bool) (act : Act) (w : World) (pre post : List Nat) (a : AFr) (σ : ASt), Inv P n l π eff bit item K a0 σ0 w0 L act w pre post a σ → (∀ i, i < l.length → L.getD i false = true) → Q .normal act w := by
    intro π hP L act w pre post a σ h hall
    have hpost : post = [] := by
      cases post with
      | nil => rfl
      | cons i r =>
        have hi : i < l.length := (hP.mem i).1 (by rw [h.split]; simp)
        have := h.postL i (by simp)
        rw [hall i hi] at this; cases this
    subst hpost
    have hrun := h.run
    refine hQ a σ act w hrun h.le h.sim ⟨h.actOk.1, h.actOk.2, fun t ht => ?_⟩
    have := h.rep t ht
    unfold cur at this
    rw [if_neg] at this
    · exact this
    · rintro ⟨i, hi, hL, hD⟩
      rw [hall i hD.lt] at hL; cases hL
  -- something is ready, while something is left
  have some_ready : ∀ (π : List Nat) (_ : PlanOk l π eff looks bit al) (L : Array Bool), L.size = l.length → Region.ready .any l.toArray L = [] → ∀ i, i < l.length → L.getD i false = true := by
    intro π hP L hsz hr i
    induction i using Nat.strongRecOn with
    | _ i ih =>
      intro hi
      cases hL : L.getD i false with
      | true => rfl
      | false =>
        exfalso
        obtain ⟨o, ho⟩ : ∃ o, l[i]? = some o := ⟨l[i], by simp [hi]⟩
        have : i ∈ Region.ready .any l.toArray L := mem_ready.2 ⟨by
          have : i < L.size := by omega
          simp only [Array.getD, this, dif_pos] at hL ⊢
          exact hL, o, by simpa using ho, fun e he hb => by
          have hlt := hP.down i o ho e he hb
          exact ih e.on hlt (by omega)⟩
        rw [hr] at this; cases this
  intro fuel
  induction fuel with
  | zero =>
    intro π hP hI L act w pre post a σ h hu
    have hall : ∀ i, i < l.length → L.getD i false = true := by
      intro i hi
      have h0 : unl L (List.range l.length) = 0 := by omega
      unfold unl at h0
      rw [List.countP_eq_zero] at h0
      have := h0 i (List.mem_range.2 hi)
      simpa using this
    refine ⟨?_, fin π hP L act w pre post a σ h hall⟩
    cases hr : Region.ready .any l.toArray L with
    | nil => rfl
    | cons i r =>
      exfalso
      obtain ⟨hi, hun⟩ := ready_un h.size (i := i) (by rw [hr]; simp)
      rw [hall i hi] at hun; cases hun
  | succ fuel ih =>
    intro π hP hI L act w pre post a σ h hu
    refine ⟨fun hr => fin π hP L act w pre post a σ h (some_ready π hP L h.size hr), fun i hr => ?_⟩
    obtain ⟨pre, post, a, h, hpost⟩ := h.advance hP hI
    obtain ⟨hi, hun⟩ := ready_un h.size hr
    obtain ⟨o, ho, hod, hcomp⟩ := item_dst hI hi
    obtain ⟨_, hg, hop, _, hdn, hln, hgn⟩ := compI_spec hcomp
    simp only at hg hop hgn
    have hlo : l.toArray[i]? = some o := by simpa using ho
    have hcnt : unl (L.setIfInBounds i true) (List.range l.length) ≤ fuel := by
      have := (unl_set (by rw [h.size]; exact hi) hun (List.nodup_range (n := l.length))).1 (List.mem_range.2 hi)
      omega
    unfold wpOp
    simp only [hlo]
    have hmem : i ∈ pre ∨ i ∈ post := by
      have := (hP.mem i).2 hi
      rw [h.split] at this
      exact List.mem_append.1 this
    rcases hmem with hip | hip
    · -- it was walked ahead
      obtain ⟨q, hq, hp⟩ := h.pend i hip hun
      have hreps : ∀ t, Operand.tmp t ∈ o.op.operands.toList → Rep σ w (mix l bit a0 a i t) (act.tmps.getD t undef) := fun t ht => h.look hP hr (hI.looksO i o t ho ht) (hln t ht)
      have go : ∀ v, q.ev (mix l bit a0 a i) σ = some v → (∀ d, Dst l i d → a d = v) → o.wp P act w (wpAny P .any l.toArray Q fuel (L.setIfInBounds i true)) Q := by
        intro v hv hd
        rw [hq] at hop
        refine compO_wp (n := n) (K := fun v' σ' => v' = v ∧ σ' = σ) hop h.sim hreps ?_ ?_
        · simp only [AOp.step, hv, and_self]
        · rintro v' σ' u w' ⟨rfl, rfl⟩ hle hs hrep
          have h' := h.pending hP hI hr hip hd hle hs hrep
          rw [hod] at h'
          exact ih _ hP hI _ _ _ _ _ _ _ h' hcnt
      split at hp
      · rename_i hgd
        obtain ⟨v, hv, hd⟩ := hp
        rw [hgd] at hg
        rw [if_pos (guard_none hg _)]
        exact .inl (go v hv hd)
      · rename_i t want hgd
        obtain ⟨b, hb, h2, h3⟩ := hp
        rw [hgd] at hg
        have htn := hgn t want hgd
        have hrg := word_rep hb (h.look hP hr (hI.looksG i t want hi hgd) htn)
        have hat : act.tmps[t]? = some (act.tmps.getD t undef) := getD_of_lt undef (by rw [h.actOk.1]; exact htn)
        rw [guard_some hg hat hrg]
        by_cases hbw : b = some want
        · rw [if_pos (by simp [hbw])]
          obtain ⟨v, hv, hd⟩ := h2 hbw
          exact .inl (go v hv hd)
        · rw [if_neg (by simp [hbw])]
          have h' := h.pending hP hI hr hip (h3 hbw) (Le.refl _ _) h.sim (u := undef) (.tuple .nil)
          rw [hod] at h'
          exact ih _ hP hI _ _ _ _ _ _ _ h' hcnt
    · -- it acts, and it is its turn
      have hhead : ∃ π' r, PlanOk l π' eff looks bit al ∧ ItemsOk P n l π' eff looks bit al item ∧ Inv P n l π' eff bit item K a0 σ0 w0 L act w pre (i :: r) a σ ∧ eff i = true := by
        rcases hpost with hpost | ⟨e, r, hpost, he⟩
        · rw [hpost] at hip; cases hip
        · subst hpost
          rcases List.mem_cons.1 hip with rfl | hir
          · exact ⟨π, r, hP, hI, h, he⟩
          · obtain ⟨p1, p2, hp⟩ := List.append_of_mem hir
            subst hp
            rcases hP.effs (pre ++ e :: p1) i p2 (by rw [h.split]; simp) e (by simp) he with hb | ⟨hale, hali⟩
            · exfalso
              have := ready_bits hP h.closed hr hb
              rw [h.postL e (by simp)] at this
              cases this
            · obtain ⟨U, V, W, hc, hV, hU, hW⟩ := hP.cont
              obtain ⟨as, V2, _, hV2, _⟩ := cont_loc (al := al) (pre := pre) (p1 := p1) (p2 := p2) (by rw [← h.split]; exact hc) hU hW hale hali
              obtain ⟨π', g1, g2, g3⟩ := Inv.bring hali (e :: p1).length (e :: p1) p2 π rfl (fun x hx => hV x (by rw [hV2]; simp only [List.mem_append, List.mem_cons] at hx ⊢; rcases hx with h | h <;> simp [h])) hP hI h
              have hE : eff i = true := by
                have hil : i < l.length := hi
                cases hei : eff i with
                | true => rfl
                | false =>
                  obtain ⟨q, hq⟩ := (hI.effI i hil).1 hei
                  obtain ⟨d, z, hit⟩ := hI.alI i hil hali
                  rw [hit] at hq
                  cases hq
              exact ⟨π', _, g1, g2, g3, hE⟩
      obtain ⟨π, r, hP, hI, h, he⟩ := hhead
      have hsp := h.split
      have hnd : (pre ++ i :: r).Nodup := hsp ▸ hP.nodup
      have hipre : i ∉ pre := fun hm => by
        rw [List.nodup_append] at hnd
        exact hnd.2.2 i hm i (by simp) rfl
      have hlooks : ∀ t, t ∈ looks i → t < n → Rep σ w (a t) (act.tmps.getD t undef) := by
        intro t ht htn
        have h1 := h.rep t htn
        unfold cur at h1
        rw [if_neg] at h1
        · exact h1
        · rintro ⟨k, hk, hkL, hkD⟩
          obtain ⟨ok, hk1, hk2⟩ := hkD
          rcases (hP.temps i k t ok hi ht hk1 hk2).2 with hb | hb
          · rw [ready_bits hP h.closed hr hb] at hkL; cases hkL
          · obtain ⟨p1, p2, hp⟩ := List.append_of_mem hk
            have := hP.before p1 k (p2 ++ i :: r) (by rw [hsp, hp]; simp) i hb
            exact hipre (by rw [hp]; simp [this])
      have hrun := h.run
      simp only [List.map_cons, runI] at hrun
      have go : (item i).step P (runI P (r.map item) K) a σ → o.wp P act w (wpAny P .any l.toArray Q fuel (L.setIfInBounds i true)) Q := by
        intro hst
        have hst' : (item i).op.step P a σ fun v σ' => (al i = true → ∃ b x, σ b = none ∧ σ' = σ.set b x) ∧ watchOk (a.put (item i).dst v) σ' (item i).watch ∧ runI P (r.map item) K (a.put (item i).dst v) σ' := by
          cases hal : al i with
          | false => exact AOp.step_mono hst fun v σ' hv => ⟨fun h => (by cases h), hv⟩
          | true =>
            obtain ⟨d, z, hit⟩ := hI.alI i hi hal
            rw [hit] at hst ⊢
            exact fun b hb => ⟨fun _ => ⟨b, _, hb, rfl⟩, hst b hb⟩
        refine compO_wp (n := n) (K := fun v σ' => (al i = true → ∃ b x, σ b = none ∧ σ' = σ.set b x) ∧ watchOk (a.put (item i).dst v) σ' (item i).watch ∧ runI P (r.map item) K (a.put (item i).dst v) σ') hop h.sim (fun t ht => hlooks t (hI.looksO i o t ho ht) (hln t ht)) hst' ?_
        rintro v σ' u w' ⟨hfr, hwt, hrest⟩ hle hs hrep
        have h' := h.acted hP hI hr hrest hle hs hrep (fun k hk hkL q hq hgw rr hev hd => ?_)
        · rw [hod] at h'
          exact ih _ hP hI _ _ _ _ _ _ _ h' hcnt
        · cases hal : al i with
          | true =>
            obtain ⟨b, x, hb, rfl⟩ := hfr hal
            exact QOp.ev_fresh hb hev
          | false =>
          cases hrd : q.reads with
          | false => rw [← hev]; exact QOp.ev_still hrd _ _ _
          | true =>
            have hkb : bit i k = false := by
              cases hb : bit i k with
              | false => rfl
              | true => rw [ready_bits hP h.closed hr hb] at hkL; cases hkL
            obtain ⟨⟨d, hdD, hmem⟩, hwrites⟩ := hI.watch pre i r hsp he hal k hk q hq hrd hkb
            have hki : k ≠ i := fun e => hipre (e ▸ hk)
            have hkl : k < l.length := (hP.mem k).1 (by rw [hsp]; simp [hk])
            have hbk : bit k i = false := by
              cases hb : bit k i with
              | false => rfl
              | true =>
                obtain ⟨p1, p2, hp⟩ := List.append_of_mem hk
                have := hP.before p1 k (p2 ++ i :: r) (by rw [hsp, hp]; simp) i hb
                exact absurd (by rw [hp]; simp [this]) hipre
            have same : ∀ t ∈ looks k, mix l bit a0 a k t = a.put (item i).dst v t := by
              intro t ht
              have hne : ∀ d, (item i).dst = some d → t ≠ d := fun d hd htd => by
                subst htd
                have := hwrites t ht i ((item_Dst hI hi).2 hd)
                rw [hbk] at this; cases this
              rw [put_ne hne]
              unfold mix
              split
              · rfl
              · rename_i hno
                exact (h.old t fun j _ hjD => hno ⟨j, hwrites t ht j hjD, hjD⟩).symm
            have hcg : q.ev (mix l bit a0 a k) σ' = q.ev (a.put (item i).dst v) σ' := QOp.ev_congr fun t ht => same t (hI.looksQ k q hkl hq t ht)
            have hdv : a.put (item i).dst v d = rr := by
              rw [put_ne fun d' hd' hdd => hki (by subst hdd; exact hdD.uniq hP ((item_Dst hI hi).2 hd')), hd d hdD]
            have hw := watchOk_mem hwt _ hmem
            simp only at hw
            rw [hcg]
            split at hw
            · rw [hw, hdv]
            · rename_i t want hgd
              have hx : a.put (item i).dst v t = .bool want := by rw [← same t (hI.looksG k t want hkl hgd)]; exact hgw t want hgd
              rw [hw hx, hdv]
      split at hrun
      · rename_i hgd
        rw [hgd] at hg
        rw [if_pos (guard_none hg _)]
        exact .inl (go hrun)
      · rename_i t want hgd
        rw [hgd] at hg
        split at hrun
        · rename_i b hb
          have htn := hgn t want hgd
          have hrg := word_rep hb (hlooks t (hI.looksG i t want hi hgd) htn)
          have hat : act.tmps[t]? = some (act.tmps.getD t undef) := getD_of_lt undef (by rw [h.actOk.1]; exact htn)
          rw [guard_some hg hat hrg]
          split at hrun
          · rename_i hbw
            rw [if_pos (by simp [hbw])]
            exact .inl (go hrun)
          · rename_i hbw
            rw [if_neg (by simp [hbw])]
            have h' := h.acted hP hI hr (v := .tuple []) (σ' := σ) (u := undef) (w' := w) hrun (Le.refl _ _) h.sim (.tuple .nil) (fun k hk hkL q hq hgw rr hev hd => hev)
            rw [hod] at h'
            exact ih _ hP hI _ _ _ _ _ _ _ h' hcnt
        · exact hrun.elim

/-- **A region that draws its order.** -/
theorem run_drawn (hm : P.follows .mixedOrders = true) (hP : PlanOk l π eff looks bit al) (hI : ItemsOk P n l π eff looks bit al item) {Q : Exit → Act → World → Prop} {w : World} {act : Act} {id : Nat} {σ : ASt}
    (hQ : ∀ a σ act w, K a σ → Le σ0 w0 σ w → Sim σ w → FRel n σ w a act → Q .normal act w) (h : runI P (π.map item) K a0 σ) (hle : Le σ0 w0 σ w) (hs : Sim σ w) (hf : FRel n σ w a0 act) :
    (Code.region id l.toArray true).wp P Q act w := by
  refine wp_region_any hm ?_
  have hd : Le σ w σ { w with drawn := w.drawn + 1 } := ⟨rfl, rfl, rfl, Nat.le_refl _, fun b _ h => ⟨h, rfl⟩, fun b cs _ h => ⟨.inr h, rfl⟩, fun b f _ h => ⟨.inr ⟨f, Nat.le_refl _, h⟩, rfl, fun _ _ => rfl⟩⟩
  have hs' : Sim σ { w with drawn := w.drawn + 1 } := fun b r hb => (hs b r hb).keep hd rfl
  have hf' := hf.mono hd
  refine wpAny_of_inv (K := K) (a0 := a0) (σ0 := σ0) (w0 := w0) hQ _ π hP hI _ _ _ [] π a0 σ ?_ ?_
  · refine ⟨rfl, h, fun i hi => (by cases hi), fun i hi => ?_, ?_, by simp, hs', hle.trans hd, ⟨hf.size, hf.defers⟩, fun t ht => ?_, fun i hi => (by cases hi), fun t _ => rfl⟩
    · have := (hP.mem i).1 hi
      simp [this]
    · intro k o ho hk
      exfalso
      rcases Nat.lt_or_ge k l.length with h' | h'
      · simp [h'] at hk
      · simp [Array.getElem?_eq_none (xs := Array.replicate l.length false) (by simpa using h')] at hk
    · have : cur l a0 a0 [] (Array.replicate l.toArray.size false) t = a0 t := by unfold cur; rw [if_neg]; rintro ⟨i, hi, _⟩; cases hi
      rw [this]
      exact hf'.rep t ht
  · unfold unl
    refine Nat.le_trans List.countP_le_length ?_
    simp
end
end Go.A
