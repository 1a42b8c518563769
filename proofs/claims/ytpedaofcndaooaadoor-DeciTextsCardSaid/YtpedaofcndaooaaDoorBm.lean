/- Words for proofs over the abstract walk. -/
import Derived.Test.YtpedaofcndaooaaDoorBl
namespace Go.A
set_option linter.unusedSimpArgs false
set_option linter.unusedVariables false
section
variable {P : Program} {Q : APost} {a : AFr} {σ σ0 : ASt}

theorem ACode.wp_mono (P : Program) : ∀ (y : ACode) (Q1 Q2 : APost), (∀ e a σ, Q1 e a σ → Q2 e a σ) → ∀ a σ, y.wp P Q1 a σ → y.wp P Q2 a σ := by
  intro y
  induction y with
  | skip => exact fun Q1 Q2 h a σ hh => h _ _ _ hh
  | ret => exact fun Q1 Q2 h a σ hh => h _ _ _ hh
  | exit id => exact fun Q1 Q2 h a σ hh => h _ _ _ hh
  | ops l =>
    intro Q1 Q2 h a σ hh
    have key : ∀ (l : List AItem) (K1 K2 : AFr → ASt → Prop), (∀ a σ, K1 a σ → K2 a σ) → ∀ a σ, runI P l K1 a σ → runI P l K2 a σ := by
      intro l
      induction l with
      | nil => exact fun K1 K2 h a σ hh => h _ _ hh
      | cons it r ih =>
        intro K1 K2 h a σ hh
        have st : it.step P (runI P r K1) a σ → it.step P (runI P r K2) a σ := fun hst => AOp.step_mono hst fun v σ' hv => ⟨hv.1, ih _ _ h _ _ hv.2⟩
        simp only [runI] at hh ⊢
        split
        · rename_i hg; rw [hg] at hh; exact st hh
        · rename_i t want hg
          rw [hg] at hh
          simp only at hh
          split
          · rename_i b hb
            rw [hb] at hh
            simp only at hh
            split
            · rename_i hbw; rw [if_pos hbw] at hh; exact st hh
            · rename_i hbw; rw [if_neg hbw] at hh; exact ih _ _ h _ _ hh
          · rename_i hne
            rw [hne] at hh
            exact hh
    exact key l _ _ (fun a σ => h .normal a σ) a σ hh
  | seq x y ihx ihy =>
    intro Q1 Q2 h a σ hh
    refine ihx _ _ (fun e a σ h1 => ?_) a σ hh
    cases e with
    | normal => exact ihy _ _ h a σ h1
    | exit id => exact h _ _ _ h1
    | ret => exact h _ _ _ h1
  | cond c x y ihx ihy =>
    intro Q1 Q2 h a σ hh
    simp only [ACode.wp, condWp] at hh ⊢
    split at hh
    · split at hh
      · rename_i hb; rw [if_pos hb]; exact ihx _ _ h a σ hh
      · rename_i hb; rw [if_neg hb]; exact ihy _ _ h a σ hh
    · exact hh.elim
  | block id x ihx =>
    intro Q1 Q2 h a σ hh
    refine ihx _ _ (fun e a σ h1 => ?_) a σ hh
    cases e with
    | normal => exact h _ _ _ h1
    | exit j =>
      simp only [BlockQ] at h1 ⊢
      split at h1
      · rename_i hj; rw [if_pos hj]; exact h _ _ _ h1
      · rename_i hj; rw [if_neg hj]; exact h _ _ _ h1
    | ret => exact h _ _ _ h1
  | loop x ihx =>
    intro Q1 Q2 h a σ hh
    obtain ⟨I, h0, h1⟩ := hh
    refine ⟨I, h0, fun k a σ hI => ihx _ _ (fun e a σ h2 => ?_) a σ (h1 k a σ hI)⟩
    cases e with
    | normal => exact h2
    | exit id => exact h _ _ _ h2
    | ret => exact h _ _ _ h2

def LoopQ (N : AFr → ASt → Prop) (Q : APost) : APost := fun e a σ => match e with
  | .normal => N a σ
  | e => Q e a σ
@[go_sem] theorem LoopQ_n {N : AFr → ASt → Prop} : LoopQ N Q .normal a σ = N a σ := id rfl
@[go_sem] theorem LoopQ_e {N : AFr → ASt → Prop} {i : Nat} : LoopQ N Q (.exit i) a σ = Q (.exit i) a σ := id rfl
@[go_sem] theorem LoopQ_r {N : AFr → ASt → Prop} : LoopQ N Q .ret a σ = Q .ret a σ := id rfl
/-- What a round leaves: the relation again, at something less. -/
def Again {ι : Type} (I : ι → AFr → ASt → Prop) (μ : ι → Nat) (i : ι) (a : AFr) (σ : ASt) : Prop := ∃ j, μ j < μ i ∧ Dr (I j) a σ
/-- **A loop.** -/
theorem wp_loop_by {ι : Type} {x : ACode} (I : ι → AFr → ASt → Prop) (μ : ι → Nat) (i0 : ι) (h0 : Dr (I i0) a σ) (round : ∀ i a σ, I i a σ → x.wp P (LoopQ (Again I μ i) Q) a σ) : ACode.wp P (.loop x) Q a σ := by
  refine ⟨fun k a σ => ∃ i, μ i = k ∧ I i a σ, ⟨μ i0, ?_⟩, ?_⟩
  · obtain ⟨a', σ', hd, hI⟩ := h0
    exact ⟨a', σ', hd, i0, rfl, hI⟩
  · rintro k a σ ⟨i, rfl, hI⟩
    have := round i a σ hI
    have e : LoopQ (Again I μ i) Q = LoopQ (fun a σ => ∃ j, μ j < μ i ∧ Dr (I j) a σ) Q := rfl
    rw [e] at this
    have mono := @ACode.wp_mono P
    refine mono x _ _ (fun e a σ h1 => ?_) a σ this
    cases e with
    | normal =>
      obtain ⟨j, hj, a', σ', hd, hI'⟩ := h1
      exact ⟨μ j, hj, a', σ', hd, j, rfl, hI'⟩
    | exit id => exact h1
    | ret => exact h1

/-- A call that computes, and leaves all as it was. -/
def Pure (P : Program) (f : FuncId) (args : List AV) (r : AV) : Prop := ∀ σ, ACalls P f args σ fun v σ' => v = r ∧ σ' = σ
theorem Pure.use {f : FuncId} {args : List AV} {r : AV} {K : AV → ASt → Prop} (h : Pure P f args r) (hK : K r σ) : ACalls P f args σ K :=
  (h σ).mono fun _ _ ⟨h1, h2⟩ => by subst h1 h2; exact hK

theorem Drop.trans {σ1 σ2 σ3 : ASt} (h : Drop σ1 σ2) (k : Drop σ2 σ3) : Drop σ1 σ3 := by
  intro b
  rcases k b with h1 | h1
  · rcases h b with h2 | h2
    · exact .inl (h1.trans h2)
    · exact .inr (h1.trans h2)
  · exact .inr h1
theorem Drop.set {b : Nat} {r : Option Role} (h : σ b = none) : Drop (σ.set b r) σ := by
  intro x
  by_cases hx : x = b
  · subst hx; exact .inr h
  · exact .inl (ASt.set_ne hx).symm
theorem Drop.set_cong {σ' : ASt} {b : Nat} {r : Option Role} (h : Drop σ σ') : Drop (σ.set b r) (σ'.set b r) := by
  intro x
  by_cases hx : x = b
  · subst hx; exact .inl (by rw [ASt.set_same, ASt.set_same])
  · rw [ASt.set_ne hx, ASt.set_ne hx]; exact h x

/-- A slice of one's own that grows. -/
def GrownT (T : TypeId) (σ0 σ : ASt) (k : SK) (n s : Nat) : Prop := (k = .full ∧ n = 0 ∧ σ = σ0) ∨ ∃ b, k = .tok b s T ∧ σ0 b = none ∧ σ = σ0.set b (some (.tok (n * s)))
def Grown (σ0 σ : ASt) (k : SK) (n s : Nat) : Prop := (k = .full ∧ n = 0 ∧ σ = σ0) ∨ ∃ b T, k = .tok b s T ∧ σ0 b = none ∧ σ = σ0.set b (some (.tok (n * s)))
theorem Grown.start (σ0 : ASt) (s : Nat) : Grown σ0 σ0 .full 0 s := .inl ⟨rfl, rfl, rfl⟩
theorem Grown.drop {k : SK} {n s : Nat} (h : Grown σ0 σ k n s) : Drop σ σ0 := by
  rcases h with ⟨_, _, rfl⟩ | ⟨b, T, _, hb, rfl⟩
  · exact Drop.refl _
  · exact Drop.set hb
theorem Grown.at {k : SK} {n s x : Nat} {r : Role} (h : Grown σ0 σ k n s) (hx : σ0 x = some r) : σ x = some r := by
  rcases h with ⟨_, _, rfl⟩ | ⟨b, T, _, hb, rfl⟩
  · exact hx
  · have : x ≠ b := by rintro rfl; rw [hb] at hx; cases hx
    rw [ASt.set_ne this]; exact hx
theorem Grown.can {k : SK} {n s : Nat} {xs : List AV} (h : Grown σ0 σ k n s) (hn : xs.length = n) : canApp σ k xs s := by
  subst hn
  rcases h with ⟨rfl, h1, rfl⟩ | ⟨b, T, rfl, hb, rfl⟩
  · have : xs = [] := List.eq_nil_of_length_eq_zero h1
    subst this
    rfl
  · exact ⟨rfl, ASt.set_same _ _ _⟩
theorem Grown.app {e : TypeId} {k k' : SK} {n m s : Nat} {σ' : ASt} (h : Grown σ0 σ k n s) (ha : App e σ k s n m k' σ') : Grown σ0 σ' k' (n + m) s := by
  rcases h with ⟨rfl, rfl, rfl⟩ | ⟨b, T, rfl, hb, rfl⟩
  · cases ha with
    | none hm => subst hm; exact .inl ⟨rfl, rfl, rfl⟩
    | room b T' hb => cases hb
    | grow b hb _ => exact .inr ⟨b, _, rfl, hb, rfl⟩
  · cases ha with
    | none hm => subst hm; exact .inr ⟨b, _, rfl, hb, rfl⟩
    | room b' T' hb' =>
      injection hb' with h1 h2 h3
      subst h1
      exact .inr ⟨b, _, rfl, hb, by rw [ASt.set_set]⟩
    | grow b' hb' hne =>
      obtain ⟨h1, _, h2⟩ := set_none hb'
      refine .inr ⟨b', _, rfl, h2, ?_⟩
      funext x
      simp only [dropTok, ASt.set]
      by_cases hx : x = b'
      · simp [hx]
      · by_cases hxb : x = b
        · subst hxb; simp [hx, hb]
        · simp [hx, hxb]
theorem Grown.obj {b : Nat} {r r' : Role} {k : SK} {n s : Nat} (h : Grown (σ0.set b (some r)) σ k n s) : Grown (σ0.set b (some r')) (σ.set b (some r')) k n s := by
  rcases h with ⟨h1, h2, rfl⟩ | ⟨c, T, h1, h2, rfl⟩
  · exact .inl ⟨h1, h2, by rw [ASt.set_set]⟩
  · obtain ⟨h3, h4, h5⟩ := set_none h2
    refine .inr ⟨c, T, h1, by rw [ASt.set_ne h3]; exact h5, ?_⟩
    funext x
    simp only [ASt.set]
    by_cases hx : x = b
    · subst hx; simp [h4]
    · simp [hx]
/-- append, where the slice is one's own. -/
theorem appC_by {e : TypeId} {k k2 : SK} {s bytes : Nat} {z : List AV} {xs ys : List AV} {K : AV → ASt → Prop} (h : Grown σ0 σ k xs.length s) (h2 : wellSz s ys = true) (h3 : leaves (ys.flatMap AV.cells) = true) (h4 : (xs.length + ys.length) * bytes ≤ 140737488355328) (h5 : xs.length + ys.length ≤ 4611686018427387904)
    (hK : ∀ k' σ', Grown σ0 σ' k' (xs ++ ys).length s → K (.sl k' (xs ++ ys)) σ') : appC e s bytes z (.sl k xs) (.sl k2 ys) σ K :=
  ⟨h.can rfl, h2, h3, h4, h5, .inl fun k' σ' ha => hK k' σ' (by rw [List.length_append]; exact h.app ha)⟩
theorem appsC_by {e : TypeId} {k : SK} {xs : List AV} {l : List UInt8} {K : AV → ASt → Prop} (h : Grown σ0 σ k xs.length 1) (h4 : xs.length + l.length ≤ 140737488355328)
    (hK : ∀ k' σ', Grown σ0 σ' k' (xs.length + l.length) 1 → K (.sl k' (xs ++ bytesAV l)) σ') : appsC e (.sl k xs) (.str l) σ K :=
  ⟨h.can rfl, h4, fun k' σ' ha => hK k' σ' (h.app ha)⟩
theorem GrownT.start (T : TypeId) (σ0 : ASt) (s : Nat) : GrownT T σ0 σ0 .full 0 s := .inl ⟨rfl, rfl, rfl⟩
theorem GrownT.drop {T : TypeId} {k : SK} {n s : Nat} (h : GrownT T σ0 σ k n s) : Drop σ σ0 := by
  rcases h with ⟨_, _, rfl⟩ | ⟨b, _, hb, rfl⟩
  · exact Drop.refl _
  · exact Drop.set hb
theorem GrownT.at {T : TypeId} {k : SK} {n s x : Nat} {r : Role} (h : GrownT T σ0 σ k n s) (hx : σ0 x = some r) : σ x = some r := by
  rcases h with ⟨_, _, rfl⟩ | ⟨b, _, hb, rfl⟩
  · exact hx
  · have : x ≠ b := by rintro rfl; rw [hb] at hx; cases hx
    rw [ASt.set_ne this]; exact hx
theorem GrownT.can {T : TypeId} {k : SK} {n s : Nat} {xs : List AV} (h : GrownT T σ0 σ k n s) (hn : xs.length = n) : canApp σ k xs s := by
  subst hn
  rcases h with ⟨rfl, h1, rfl⟩ | ⟨b, rfl, hb, rfl⟩
  · have : xs = [] := List.eq_nil_of_length_eq_zero h1
    subst this
    rfl
  · exact ⟨rfl, ASt.set_same _ _ _⟩
theorem GrownT.app {T : TypeId} {k k' : SK} {n m s : Nat} {σ' : ASt} (h : GrownT T σ0 σ k n s) (ha : App T σ k s n m k' σ') : GrownT T σ0 σ' k' (n + m) s := by
  rcases h with ⟨rfl, rfl, rfl⟩ | ⟨b, rfl, hb, rfl⟩
  · cases ha with
    | none hm => subst hm; exact .inl ⟨rfl, rfl, rfl⟩
    | room b T' hb => cases hb
    | grow b hb _ => exact .inr ⟨b, rfl, hb, rfl⟩
  · cases ha with
    | none hm => subst hm; exact .inr ⟨b, rfl, hb, rfl⟩
    | room b' T' hb' =>
      injection hb' with h1 h2 h3
      subst h1
      exact .inr ⟨b, rfl, hb, by rw [ASt.set_set]⟩
    | grow b' hb' hne =>
      obtain ⟨h1, _, h2⟩ := set_none hb'
      refine .inr ⟨b', rfl, h2, ?_⟩
      funext x
      simp only [dropTok, ASt.set]
      by_cases hx : x = b'
      · simp [hx]
      · by_cases hxb : x = b
        · subst hxb; simp [hx, hb]
        · simp [hx, hxb]
theorem GrownT.obj {T : TypeId} {b : Nat} {r r' : Role} {k : SK} {n s : Nat} (h : GrownT T (σ0.set b (some r)) σ k n s) : GrownT T (σ0.set b (some r')) (σ.set b (some r')) k n s := by
  rcases h with ⟨h1, h2, rfl⟩ | ⟨c, h1, h2, rfl⟩
  · exact .inl ⟨h1, h2, by rw [ASt.set_set]⟩
  · obtain ⟨h3, h4, h5⟩ := set_none h2
    refine .inr ⟨c, h1, by rw [ASt.set_ne h3]; exact h5, ?_⟩
    funext x
    simp only [ASt.set]
    by_cases hx : x = b
    · subst hx; simp [h4]
    · simp [hx]
/-- append, where the slice is one's own. -/
theorem appCT_by {T : TypeId} {k k2 : SK} {s bytes : Nat} {z : List AV} {xs ys : List AV} {K : AV → ASt → Prop} (h : GrownT T σ0 σ k xs.length s) (h2 : wellSz s ys = true) (h3 : leaves (ys.flatMap AV.cells) = true) (h4 : (xs.length + ys.length) * bytes ≤ 140737488355328) (h5 : xs.length + ys.length ≤ 4611686018427387904)
    (hK : ∀ k' σ', GrownT T σ0 σ' k' (xs ++ ys).length s → K (.sl k' (xs ++ ys)) σ') : appC T s bytes z (.sl k xs) (.sl k2 ys) σ K :=
  ⟨h.can rfl, h2, h3, h4, h5, .inl fun k' σ' ha => hK k' σ' (by rw [List.length_append]; exact h.app ha)⟩
theorem appsCT_by {T : TypeId} {k : SK} {xs : List AV} {l : List UInt8} {K : AV → ASt → Prop} (h : GrownT T σ0 σ k xs.length 1) (h4 : xs.length + l.length ≤ 140737488355328)
    (hK : ∀ k' σ', GrownT T σ0 σ' k' (xs.length + l.length) 1 → K (.sl k' (xs ++ bytesAV l)) σ') : appsC T (.sl k xs) (.str l) σ K :=
  ⟨h.can rfl, h4, fun k' σ' ha => hK k' σ' (h.app ha)⟩
theorem wellSz_map {α : Type} {f : α → AV} {s : Nat} (h : ∀ x, (f x).isAny = false ∧ (f x).cells.length = s) (l : List α) : wellSz s (l.map f) = true := by
  induction l with
  | nil => rfl
  | cons x l ih => simp [wellSz, h x, ih]
theorem allSz_map {α : Type} {f : α → AV} {s : Nat} (h : ∀ x, (f x).cells.length = s) (l : List α) : allSz s (l.map f) = true := by
  simp [allSz, h]
theorem slV_from {α : Type} {f : α → AV} {s : Nat} (hf : ∀ x, (f x).cells.length = s) {k : SK} {L : List α} {j : Nat} (h : j ≤ L.length) : slV (false, s) (.sl k (L.map f)) j L.length = some (.sl .shr ((L.drop j).map f)) := by
  rw [slV_sl (by omega) (by omega) (by simp) (allSz_map hf L), Int.toNat_natCast, Int.toNat_natCast, List.take_of_length_le (by simp), List.map_drop]
theorem slV_to {α : Type} {f : α → AV} {s : Nat} {k : SK} {L : List α} {j : Nat} (h : j ≤ L.length) : slV (false, s) (.sl k (L.map f)) 0 j = some (.sl .shr ((L.take j).map f)) := by
  rw [slV_sl0 (by omega) (by simp; omega)]
  simp [List.map_take]
theorem leaves_app : ∀ {xs ys : List AV}, leaves (xs ++ ys) = (leaves xs && leaves ys)
  | [], ys => by simp [leaves]
  | x :: xs, ys => by simp only [List.cons_append, leaves, leaves_app (xs := xs), Bool.and_assoc]
theorem leaves_map {α : Type} {f : α → AV} (h : ∀ x, leaves (f x).cells = true) (l : List α) : leaves ((l.map f).flatMap AV.cells) = true := by
  induction l with
  | nil => rfl
  | cons x l ih => simp only [List.map_cons, List.flatMap_cons, leaves_app, h x, ih, Bool.and_self]

/-- Where a function returns. -/
theorem ret_by {rs : List RV} {R : AV → ASt → Prop} {e : AExit} {vs : List AV} {r : AV} {σ' : ASt} (he : ∀ i, e ≠ .exit i) (hv : RV.evs a σ rs = some vs) (hd : Drop σ σ') (hz : Fz σ σ' (resV vs) r) (hR : R r σ') : RetQ rs R e a σ := by
  cases e with
  | normal => exact ⟨vs, hv, r, σ', hd, hz, hR⟩
  | exit i => exact absurd rfl (he i)
  | ret => exact ⟨vs, hv, r, σ', hd, hz, hR⟩
theorem retn_by {rs : List RV} {R : AV → ASt → Prop} {vs : List AV} {r : AV} {σ' : ASt} (hv : RV.evs a σ rs = some vs) (hd : Drop σ σ') (hz : Fz σ σ' (resV vs) r) (hR : R r σ') : RetQ rs R .normal a σ := ⟨vs, hv, r, σ', hd, hz, hR⟩
theorem retr_by {rs : List RV} {R : AV → ASt → Prop} {vs : List AV} {r : AV} {σ' : ASt} (hv : RV.evs a σ rs = some vs) (hd : Drop σ σ') (hz : Fz σ σ' (resV vs) r) (hR : R r σ') : RetQ rs R .ret a σ := ⟨vs, hv, r, σ', hd, hz, hR⟩
def RetC (vs : Option (List AV)) (R : AV → ASt → Prop) (σ : ASt) : Prop := ∃ v, vs = some v ∧ ∃ r σ', Drop σ σ' ∧ Fz σ σ' (resV v) r ∧ R r σ'
@[go_sem] theorem RetQ_n {rs : List RV} {R : AV → ASt → Prop} : RetQ rs R .normal a σ = RetC (RV.evs a σ rs) R σ := id rfl
@[go_sem] theorem RetQ_r {rs : List RV} {R : AV → ASt → Prop} : RetQ rs R .ret a σ = RetC (RV.evs a σ rs) R σ := id rfl
theorem retC_by {vs : List AV} {R : AV → ASt → Prop} {r : AV} {σ' : ASt} (hd : Drop σ σ') (hz : Fz σ σ' (resV vs) r) (hR : R r σ') : RetC (some vs) R σ := ⟨vs, rfl, r, σ', hd, hz, hR⟩
end
end Go.A
