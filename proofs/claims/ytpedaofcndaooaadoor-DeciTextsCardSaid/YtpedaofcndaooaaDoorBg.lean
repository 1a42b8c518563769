/- A region that draws its order: the walk, operation by operation. -/
import Derived.Test.YtpedaofcndaooaaDoorBf
namespace Go.A
set_option linter.unusedSimpArgs false
set_option linter.unusedVariables false
open Classical
section
variable {P : Program} {n : Nat} {l : List Oper} {π : List Nat} {eff : Nat → Bool} {looks : Nat → List Nat} {bit : Nat → Nat → Bool} {al : Nat → Bool} {item : Nat → AItem}
variable {K : AFr → ASt → Prop} {a0 : AFr} {σ0 : ASt} {w0 : World} {L : Array Bool} {act : Act} {w : World} {pre post : List Nat} {a : AFr} {σ : ASt}

theorem ready_bits (hP : PlanOk l π eff looks bit al) (hc : RegClosed .any l.toArray L) {i : Nat} (hr : i ∈ Region.ready .any l.toArray L) {j : Nat} (hb : bit i j = true) : L.getD j false = true := by
  obtain ⟨_, o, ho, hall⟩ := mem_ready.1 hr
  exact hP.listed L i o hc (by simpa using ho) hall j hb
theorem listed_bits (hP : PlanOk l π eff looks bit al) (hc : RegClosed .any l.toArray L) {i : Nat} (hi : i < l.length) (hL : L.getD i false = true) {j : Nat} (hb : bit i j = true) : L.getD j false = true := by
  obtain ⟨o, ho⟩ : ∃ o, l[i]? = some o := ⟨l[i], by simp [hi]⟩
  exact hP.listed L i o hc ho (hc i o (by simpa using ho) hL) j hb
theorem ready_un {i : Nat} (hs : L.size = l.length) (hr : i ∈ Region.ready .any l.toArray L) : i < l.length ∧ L.getD i false = false := by
  obtain ⟨h0, o, ho, _⟩ := mem_ready.1 hr
  have hi : i < l.length := by simpa using (Array.getElem?_eq_some_iff.1 ho).1
  refine ⟨hi, ?_⟩
  have hi' : i < L.size := by omega
  simp only [Array.getD, hi', dif_pos] at h0 ⊢
  exact h0
theorem set_same {i : Nat} (hi : i < L.size) : (L.setIfInBounds i true).getD i false = true := by simp [hi]

/-- What a pending operation looks at is there. -/
theorem Inv.look (hP : PlanOk l π eff looks bit al) (h : Inv P n l π eff bit item K a0 σ0 w0 L act w pre post a σ) {i : Nat} (hr : i ∈ Region.ready .any l.toArray L) {t : Nat} (ht : t ∈ looks i) (htn : t < n) :
    Rep σ w (mix l bit a0 a i t) (act.tmps.getD t undef) := by
  obtain ⟨hi, hun⟩ := ready_un h.size hr
  have h1 := h.rep t htn
  have e : mix l bit a0 a i t = cur l a0 a pre L t := by
    unfold mix cur
    by_cases hex : ∃ j, bit i j = true ∧ Dst l j t
    · rw [if_pos hex]
      obtain ⟨j, hj, hjD⟩ := hex
      rw [if_neg]
      rintro ⟨k, hk, hkL, hkD⟩
      have : k = j := hkD.uniq hP hjD
      subst this
      rw [ready_bits hP h.closed hr hj] at hkL
      cases hkL
    · rw [if_neg hex]
      split
      · rfl
      · rename_i hno
        refine (h.old t fun k hk hkD => hno ⟨k, hk, ?_, hkD⟩).symm
        obtain ⟨o, ho1, ho2⟩ := hkD
        rcases (hP.temps i k t o hi ht ho1 ho2).2 with hb | hb
        · exact absurd ⟨k, hb, o, ho1, ho2⟩ hex
        · cases hL : L.getD k false with
          | false => rfl
          | true =>
            have := listed_bits hP h.closed (Dst.lt ⟨o, ho1, ho2⟩) hL hb
            rw [hun] at this; cases this
  rw [e]; exact h1

theorem cur_put_pending (hP : PlanOk l π eff looks bit al) (hI : ItemsOk P n l π eff looks bit al item) (hs : L.size = l.length) {i : Nat} (hi : i < l.length) {v : AV} (hv : ∀ d, Dst l i d → a d = v) :
    cur l a0 a pre (L.setIfInBounds i true) = (cur l a0 a pre L).put (item i).dst v := by
  funext t
  by_cases hD : Dst l i t
  · rw [(item_Dst hI hi).1 hD, put_eq]
    unfold cur
    rw [if_neg, hv t hD]
    rintro ⟨k, hk, hkL, hkD⟩
    have : k = i := hkD.uniq hP hD
    subst this
    rw [set_same (by omega)] at hkL
    cases hkL
  · rw [put_ne fun d hd htd => hD (by subst htd; exact (item_Dst hI hi).2 hd)]
    unfold cur
    congr 1
    apply propext
    constructor
    · rintro ⟨k, hk, hkL, hkD⟩
      have hki : i ≠ k := fun e => hD (e ▸ hkD)
      rw [getD_set_ne false hki] at hkL
      exact ⟨k, hk, hkL, hkD⟩
    · rintro ⟨k, hk, hkL, hkD⟩
      have hki : i ≠ k := fun e => hD (e ▸ hkD)
      exact ⟨k, hk, by rw [getD_set_ne false hki]; exact hkL, hkD⟩

/-- A pending operation has come up. -/
theorem Inv.pending (hP : PlanOk l π eff looks bit al) (hI : ItemsOk P n l π eff looks bit al item) (h : Inv P n l π eff bit item K a0 σ0 w0 L act w pre post a σ) {i : Nat} (hr : i ∈ Region.ready .any l.toArray L) (hip : i ∈ pre)
    {v : AV} (hv : ∀ d, Dst l i d → a d = v) {u : Value} {w' : World} (hle : Le σ w σ w') (hs : Sim σ w') (hu : Rep σ w' v u) :
    Inv P n l π eff bit item K a0 σ0 w0 (L.setIfInBounds i true) (act.put (item i).dst u) w' pre post a σ := by
  obtain ⟨hi, hun⟩ := ready_un h.size hr
  obtain ⟨o, ho, hod, hcomp⟩ := item_dst hI hi
  have hdn := (compI_spec hcomp).2.2.2.2.1
  have hF : FRel n σ w (cur l a0 a pre L) act := ⟨h.actOk.1, h.actOk.2, h.rep⟩
  have hF' := (hF.mono hle).put (item i).dst (fun d hd => hdn d (by rw [← hod]; exact hd)) hu
  refine ⟨h.split, h.run, fun j hj hjE => getD_set_true (h.effL j hj hjE), fun j hj => ?_, h.closed.set hr, by simp [h.size], hs, h.le.trans hle, ⟨hF'.size, hF'.defers⟩, fun t ht => ?_, fun j hj hjL => ?_, h.old⟩
  · have hji : i ≠ j := by
      rintro rfl
      have hnd : (pre ++ post).Nodup := h.split ▸ hP.nodup
      rw [List.nodup_append] at hnd
      exact hnd.2.2 i hip i hj rfl
    rw [getD_set_ne false hji]
    exact h.postL j hj
  · rw [cur_put_pending hP hI h.size hi hv]
    exact hF'.rep t ht
  · have hji : i ≠ j := by
      rintro rfl
      rw [set_same (by rw [h.size]; exact hi)] at hjL
      cases hjL
    rw [getD_set_ne false hji] at hjL
    exact h.pend j hj hjL

/-- What acts has come up. -/
theorem Inv.acted (hP : PlanOk l π eff looks bit al) (hI : ItemsOk P n l π eff looks bit al item) {e : Nat} (h : Inv P n l π eff bit item K a0 σ0 w0 L act w pre (e :: post) a σ) (hr : e ∈ Region.ready .any l.toArray L)
    {v : AV} {σ' : ASt} {u : Value} {w' : World} (hrun : runI P (post.map item) K (a.put (item e).dst v) σ') (hle : Le σ w σ' w') (hs : Sim σ' w') (hu : Rep σ' w' v u)
    (hkeep : ∀ k ∈ pre, L.getD k false = false → ∀ q, (item k).op = .q q → (∀ t want, (item k).guard = some (t, want) → mix l bit a0 a k t = .bool want) → ∀ r, q.ev (mix l bit a0 a k) σ = some r → (∀ d, Dst l k d → a d = r) → q.ev (mix l bit a0 a k) σ' = some r) :
    Inv P n l π eff bit item K a0 σ0 w0 (L.setIfInBounds e true) (act.put (item e).dst u) w' (pre ++ [e]) post (a.put (item e).dst v) σ' := by
  obtain ⟨hi, hun⟩ := ready_un h.size hr
  obtain ⟨o, ho, hod, hcomp⟩ := item_dst hI hi
  have hdn := (compI_spec hcomp).2.2.2.2.1
  have hsp := h.split
  have hnd : (pre ++ e :: post).Nodup := hsp ▸ hP.nodup
  have hepre : e ∉ pre := fun hm => by
    rw [List.nodup_append] at hnd
    exact hnd.2.2 e hm e (by simp) rfl
  have hbit : ∀ k ∈ pre, bit k e = false := fun k hk => by
    cases hb : bit k e with
    | false => rfl
    | true =>
      obtain ⟨p1, p2, hp⟩ := List.append_of_mem hk
      have := hP.before p1 k (p2 ++ e :: post) (by rw [hsp, hp]; simp) e hb
      exact absurd (by rw [hp]; simp [this]) hepre
  have hF : FRel n σ w (cur l a0 a pre L) act := ⟨h.actOk.1, h.actOk.2, h.rep⟩
  have hF' := (hF.mono hle).put (item e).dst (fun d hd => hdn d (by rw [← hod]; exact hd)) hu
  have hcur : cur l a0 (a.put (item e).dst v) (pre ++ [e]) (L.setIfInBounds e true) = (cur l a0 a pre L).put (item e).dst v := by
    funext t
    by_cases hD : Dst l e t
    · rw [(item_Dst hI hi).1 hD, put_eq]
      unfold cur
      rw [if_neg, put_eq]
      rintro ⟨k, hk, hkL, hkD⟩
      have : k = e := hkD.uniq hP hD
      subst this
      rw [set_same (by rw [h.size]; exact hi)] at hkL
      cases hkL
    · have hne : ∀ d, (item e).dst = some d → t ≠ d := fun d hd htd => hD (by subst htd; exact (item_Dst hI hi).2 hd)
      rw [put_ne hne]
      unfold cur
      rw [put_ne hne]
      congr 1
      apply propext
      constructor
      · rintro ⟨k, hk, hkL, hkD⟩
        have hke : e ≠ k := fun h' => hD (h' ▸ hkD)
        rw [getD_set_ne false hke] at hkL
        rcases List.mem_append.1 hk with hk | hk
        · exact ⟨k, hk, hkL, hkD⟩
        · simp at hk; exact absurd hk.symm hke
      · rintro ⟨k, hk, hkL, hkD⟩
        have hke : e ≠ k := fun h' => hD (h' ▸ hkD)
        exact ⟨k, by simp [hk], by rw [getD_set_ne false hke]; exact hkL, hkD⟩
  refine ⟨by rw [hsp]; simp, hrun, fun j hj hjE => ?_, fun j hj => ?_, h.closed.set hr, by simp [h.size], hs, h.le.trans hle, ⟨hF'.size, hF'.defers⟩, fun t ht => ?_, fun k hk hkL => ?_, fun t ht => ?_⟩
  · rcases List.mem_append.1 hj with hj | hj
    · exact getD_set_true (h.effL j hj hjE)
    · simp at hj; subst hj; exact set_same (by rw [h.size]; exact hi)
  · have hje : e ≠ j := by
      rintro rfl
      rw [List.nodup_append] at hnd
      exact (List.nodup_cons.1 hnd.2.1).1 hj
    rw [getD_set_ne false hje]
    exact h.postL j (by simp [hj])
  · rw [hcur]; exact hF'.rep t ht
  · have hke : e ≠ k := by
      rintro rfl
      rw [set_same (by rw [h.size]; exact hi)] at hkL
      cases hkL
    rw [getD_set_ne false hke] at hkL
    have hkp : k ∈ pre := by
      rcases List.mem_append.1 hk with hk | hk
      · exact hk
      · simp at hk; exact absurd hk.symm hke
    have hmix : mix l bit a0 (a.put (item e).dst v) k = mix l bit a0 a k := by
      funext t
      unfold mix
      split
      · rename_i hex
        obtain ⟨j, hj, hjD⟩ := hex
        refine put_ne fun d hd htd => ?_
        subst htd
        have : j = e := hjD.uniq hP ((item_Dst hI hi).2 hd)
        subst this
        rw [hbit k hkp] at hj; cases hj
      · rfl
    have hkd : ∀ d, Dst l k d → a.put (item e).dst v d = a d := fun d hd => put_ne fun d' hd' hdd => hke (by
      subst hdd; exact (hd.uniq hP ((item_Dst hI hi).2 hd')).symm)
    obtain ⟨q, hq, hp⟩ := h.pend k hkp hkL
    refine ⟨q, hq, ?_⟩
    rw [hmix]
    have hk' := hkeep k hkp hkL q hq
    split
    · rename_i hg
      rw [hg] at hp
      obtain ⟨r, hr', hd⟩ := hp
      exact ⟨r, hk' (fun t want h' => by rw [hg] at h'; cases h') r hr' hd, fun d hd' => (hkd d hd').trans (hd d hd')⟩
    · rename_i t want hg
      rw [hg] at hp
      obtain ⟨b, hb, h2, h3⟩ := hp
      refine ⟨b, hb, fun e' => ?_, fun e' d hd' => (hkd d hd').trans (h3 e' d hd')⟩
      obtain ⟨r, hr', hd⟩ := h2 e'
      refine ⟨r, hk' (fun t' want' h' => ?_) r hr' hd, fun d hd' => (hkd d hd').trans (hd d hd')⟩
      rw [hg] at h'
      simp only [Option.some.injEq, Prod.mk.injEq] at h'
      obtain ⟨rfl, rfl⟩ := h'
      exact word_bool (hb.trans (congrArg some e'))
  · have h1 : a.put (item e).dst v t = a t := put_ne fun d hd htd => ht e (by simp) (by subst htd; exact (item_Dst hI hi).2 hd)
    rw [h1]
    exact h.old t fun j hj => ht j (by simp [hj])
end
end Go.A
