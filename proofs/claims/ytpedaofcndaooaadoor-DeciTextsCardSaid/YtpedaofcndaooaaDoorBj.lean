/- Code, abstractly; **what is shown of the compiled code holds of the machine's.** -/
import Derived.Test.YtpedaofcndaooaaDoorBi
namespace Go.A
set_option linter.unusedSimpArgs false
set_option linter.unusedVariables false

inductive AExit where
  | normal
  | exit (id : Nat)
  | ret
def AExit.toExit : AExit → Exit
  | .normal => .normal
  | .exit id => .exit id
  | .ret => .ret
abbrev APost := AExit → AFr → ASt → Prop

inductive ACode where
  | skip
  | ret
  | exit (id : Nat)
  | ops (l : List AItem)
  | seq (x y : ACode)
  | cond (c : Opd) (x y : ACode)
  | block (id : Nat) (x : ACode)
  | loop (x : ACode)
  deriving Inhabited

/-- Roles are laid down. -/
def Drop (σ σ' : ASt) : Prop := ∀ b, σ' b = σ b ∨ σ' b = none
theorem Drop.refl (σ : ASt) : Drop σ σ := fun _ => .inl rfl
mutual
/-- Values behind roles that were laid down. -/
inductive Fz (σ σ' : ASt) : AV → AV → Prop
  | refl (a : AV) : Fz σ σ' a a
  | any (a : AV) : Fz σ σ' a .any
  | sl (k : SK) (xs : List AV) : Fz σ σ' (.sl k xs) (.sl .shr xs)
  | ptr {b : Nat} (o : Nat) {cs : List AV} : σ b = some (.obj cs) → σ' b = none → Fz σ σ' (.ptr b o) (.imm (cs.drop o))
  | msl {b : Nat} (o n c s : Nat) {cs : List AV} (xs : List AV) : σ b = some (.obj cs) → σ' b = none → n = xs.length → n ≤ c → (∀ x ∈ xs, x.cells.length = s) → xs.flatMap AV.cells = (cs.drop o).take (n * s) → Fz σ σ' (.msl b o n c) (.sl .shr xs)
  | agg {xs ys : List AV} : Fzs σ σ' xs ys → Fz σ σ' (.agg xs) (.agg ys)
  | tuple {xs ys : List AV} : Fzs σ σ' xs ys → Fz σ σ' (.tuple xs) (.tuple ys)
inductive Fzs (σ σ' : ASt) : List AV → List AV → Prop
  | nil : Fzs σ σ' [] []
  | cons {x y : AV} {xs ys : List AV} : Fz σ σ' x y → Fzs σ σ' xs ys → Fzs σ σ' (x :: xs) (y :: ys)
end
structure DropTo (a : AFr) (σ : ASt) (a' : AFr) (σ' : ASt) : Prop where
  roles : Drop σ σ'
  vals : ∀ t, Fz σ σ' (a t) (a' t)
theorem DropTo.refl (a : AFr) (σ : ASt) : DropTo a σ a σ := ⟨Drop.refl σ, fun _ => .refl _⟩
def Dr (F : AFr → ASt → Prop) (a : AFr) (σ : ASt) : Prop := ∃ a' σ', DropTo a σ a' σ' ∧ F a' σ'
theorem Dr.now {F : AFr → ASt → Prop} {a : AFr} {σ : ASt} (h : F a σ) : Dr F a σ := ⟨a, σ, .refl a σ, h⟩

section
variable {σ σ' : ASt} {w : World}
theorem Drop.le (h : Drop σ σ') (w : World) : Le σ w σ' w := by
  refine ⟨rfl, rfl, rfl, Nat.le_refl _, fun b _ hb => ⟨?_, rfl⟩, fun b cs _ hb => ⟨?_, rfl⟩, fun b f _ hb => ⟨?_, rfl, fun _ _ => rfl⟩⟩
  · rcases h b with h1 | h1
    · rw [h1, hb]
    · exact h1
  · rcases h b with h1 | h1
    · exact .inr (by rw [h1, hb])
    · exact .inl h1
  · rcases h b with h1 | h1
    · exact .inr ⟨f, Nat.le_refl _, by rw [h1, hb]⟩
    · exact .inl h1
theorem Drop.sim (h : Drop σ σ') (hs : Sim σ w) : Sim σ' w := by
  intro b r hb
  have : σ b = some r := by
    rcases h b with h1 | h1
    · rw [← h1, hb]
    · rw [h1] at hb; cases hb
  exact (hs b r this).keep (h.le w) rfl
mutual
theorem Fz.rep (hd : Drop σ σ') (hs : Sim σ w) : ∀ {a a' : AV} {v : Value}, Fz σ σ' a a' → Rep σ w a v → Rep σ' w a' v
  | _, _, _, .refl a, h => h.mono (hd.le w)
  | _, _, _, .any a, h => .any _
  | _, _, _, .sl k xs, h => by
    have h := h.mono (hd.le w)
    cases h with
    | slE A c => exact .slE A c
    | slN => exact .slE none 0
    | sl h1 h2 h3 h4 h5 => exact .sl h1 h2 h3 trivial h5
  | _, _, _, .ptr o hb hn, h => by
    cases h
    obtain ⟨vs, h1, h2, _⟩ := hs.objCell hb
    refine .imm (At.mk' ((h1.mono (hd.le w)).drop o) (fun j hj => ⟨hs.lt hb, .inl hn⟩) (fun j v hj => h2 (o + j) v (by simpa using hj)))
  | _, _, _, .msl o n c s xs hb hn hl hc hz hf, h => by
    cases h
    obtain ⟨vs, h1, h2, _⟩ := hs.objCell hb
    refine .sl (sz := s) (Row.unflat hz ?_) hl hc trivial (hs.lt hb)
    rw [hf]
    refine (At.mk' ((h1.mono (hd.le w)).drop o) (fun j hj => ⟨hs.lt hb, .inl hn⟩) (fun j v hj => h2 (o + j) v (by simpa using hj))).take _
  | _, _, _, .agg hx, h => by
    cases h with
    | agg h => exact .agg (Fzs.rep hd hs hx h)
  | _, _, _, .tuple hx, h => by
    cases h with
    | tuple h => exact .tuple (Fzs.rep hd hs hx h)
theorem Fzs.rep (hd : Drop σ σ') (hs : Sim σ w) : ∀ {as bs : List AV} {vs : List Value}, Fzs σ σ' as bs → Reps σ w as vs → Reps σ' w bs vs
  | _, _, _, .nil, .nil => .nil
  | _, _, _, .cons h1 h2, .cons h3 h4 => .cons (h1.rep hd hs h3) (h2.rep hd hs h4)
end
theorem DropTo.fr {n : Nat} {a a' : AFr} {act : Act} (h : DropTo a σ a' σ') (hs : Sim σ w) (hf : FRel n σ w a act) : FRel n σ' w a' act :=
  ⟨hf.size, hf.defers, fun t ht => (h.vals t).rep h.roles hs (hf.rep t ht)⟩
end

def loopWp (F : APost → AFr → ASt → Prop) (Q : APost) (a : AFr) (σ : ASt) : Prop :=
  ∃ I : Nat → AFr → ASt → Prop, (∃ k, Dr (I k) a σ) ∧ ∀ k a σ, I k a σ → F (fun e a' σ' => match e with
    | .normal => ∃ m, m < k ∧ Dr (I m) a' σ'
    | e => Q e a' σ') a σ
def SeqQ (F : APost → AFr → ASt → Prop) (Q : APost) : APost := fun e a σ => match e with
  | .normal => F Q a σ
  | e => Q e a σ
def BlockQ (id : Nat) (Q : APost) : APost := fun e a σ => match e with
  | .exit j => if j = id then Q .normal a σ else Q (.exit j) a σ
  | e => Q e a σ
def condWp (v : AV) (p q : Prop) : Prop :=
  match v with
  | .bool b => if b = true then p else q
  | _ => False
def ACode.wp (P : Program) : ACode → APost → AFr → ASt → Prop
  | .skip, Q, a, σ => Q .normal a σ
  | .ret, Q, a, σ => Q .ret a σ
  | .exit id, Q, a, σ => Q (.exit id) a σ
  | .ops l, Q, a, σ => runI P l (Q .normal) a σ
  | .seq x y, Q, a, σ => x.wp P (SeqQ (y.wp P) Q) a σ
  | .cond c x y, Q, a, σ => condWp (c.ev a) (x.wp P Q a σ) (y.wp P Q a σ)
  | .block id x, Q, a, σ => x.wp P (BlockQ id Q) a σ
  | .loop x, Q, a, σ => loopWp (x.wp P) Q a σ

def compC (P : Program) (n : Nat) : Code → Option ACode
  | .skip => some .skip
  | .ret => some .ret
  | .exit id => some (.exit id)
  | .region _ ops draw => if draw then (if P.follows .mixedOrders then (compR P n ops.toList).map .ops else none) else (compL P n ops.toList ops.toList).map .ops
  | .seq x y => match compC P n x, compC P n y with
    | some x, some y => some (.seq x y)
    | _, _ => none
  | .cond c x y => match opd c, compC P n x, compC P n y with
    | some c', some x, some y => if tmpOk n c then some (.cond c' x y) else none
    | _, _, _ => none
  | .block id x => (compC P n x).map (.block id)
  | .loop x => (compC P n x).map .loop
  | _ => none

/-- What is asked behind code. -/
def QP (n : Nat) (σ0 : ASt) (w0 : World) (Q : APost) : Exit → Act → World → Prop := fun e act w => ∃ x a σ, e = x.toExit ∧ Q x a σ ∧ Le σ0 w0 σ w ∧ Sim σ w ∧ FRel n σ w a act

section
variable {P : Program} {n : Nat}

theorem least_ex {p : Nat → Prop} (h : ∃ k, p k) : ∃ k, p k ∧ ∀ m, p m → k ≤ m := by
  obtain ⟨k, hk⟩ := h
  induction k using Nat.strongRecOn with
  | _ k ih =>
    by_cases hex : ∃ m, m < k ∧ p m
    · obtain ⟨m, hm, hp⟩ := hex
      exact ih m hm hp
    · exact ⟨k, hk, fun m hm => Nat.le_of_not_lt fun hlt => hex ⟨m, hlt, hm⟩⟩
noncomputable def least {p : Nat → Prop} (h : ∃ k, p k) : Nat := Classical.choose (least_ex h)
theorem least_spec {p : Nat → Prop} (h : ∃ k, p k) : p (least h) := (Classical.choose_spec (least_ex h)).1
theorem least_min {p : Nat → Prop} (h : ∃ k, p k) {m : Nat} (hm : p m) : least h ≤ m := (Classical.choose_spec (least_ex h)).2 m hm

theorem compC_sound : ∀ (c : Code) (ac : ACode), compC P n c = some ac → ∀ (Q : APost) (a : AFr) (σ : ASt) (act : Act) (w : World), ac.wp P Q a σ → Sim σ w → FRel n σ w a act → ∀ (σ0 : ASt) (w0 : World), Le σ0 w0 σ w → c.wp P (QP n σ0 w0 Q) act w
  | .skip, ac, hc, Q, a, σ, act, w, h, hs, hf, σ0, w0, hl => by
    injection hc with hc; subst hc
    exact wp_skip ⟨.normal, a, σ, rfl, h, hl, hs, hf⟩
  | .ret, ac, hc, Q, a, σ, act, w, h, hs, hf, σ0, w0, hl => by
    injection hc with hc; subst hc
    exact wp_ret ⟨.ret, a, σ, rfl, h, hl, hs, hf⟩
  | .exit id, ac, hc, Q, a, σ, act, w, h, hs, hf, σ0, w0, hl => by
    injection hc with hc; subst hc
    exact wp_exit ⟨.exit id, a, σ, rfl, h, hl, hs, hf⟩
  | .region id ops draw, ac, hc, Q, a, σ, act, w, h, hs, hf, σ0, w0, hl => by
    have hQ : ∀ a σ act w, Q .normal a σ → Le σ0 w0 σ w → Sim σ w → FRel n σ w a act → QP n σ0 w0 Q .normal act w := fun a σ act w h1 h2 h3 h4 => ⟨.normal, a, σ, rfl, h1, h2, h3, h4⟩
    simp only [compC] at hc
    cases draw with
    | false =>
      simp only [Bool.false_eq_true, if_false] at hc
      cases hL : compL P n ops.toList ops.toList with
      | none => rw [hL] at hc; cases hc
      | some its =>
        rw [hL] at hc
        simp only [Option.map_some, Option.some.injEq] at hc
        subst hc
        have := run_plain hQ ops.toList 0 its rfl hL a σ act w h hl hs hf
        refine wp_region ?_
        rw [List.range_eq_range']
        simpa using this
    | true =>
      simp only [if_true] at hc
      split at hc
      · rename_i hm
        cases hL : compR P n ops.toList with
        | none => rw [hL] at hc; cases hc
        | some its =>
          rw [hL] at hc
          simp only [Option.map_some, Option.some.injEq] at hc
          subst hc
          obtain ⟨π, eff, looks, bit, al, item, hP, hI, rfl⟩ := compR_sound hL
          have := run_drawn (P := P) (K := Q .normal) (id := id) hm hP hI hQ h hl hs hf
          simpa using this
      · cases hc
  | .seq x y, ac, hc, Q, a, σ, act, w, h, hs, hf, σ0, w0, hl => by
    simp only [compC] at hc
    split at hc
    · rename_i x' y' hx hy
      injection hc with hc; subst hc
      refine wp_seq (wp_mono (compC_sound x x' hx _ a σ act w h hs hf σ0 w0 hl) ?_)
      rintro e act' w' ⟨ex, a', σ', rfl, h1, h2, h3, h4⟩
      cases ex with
      | normal => exact compC_sound y y' hy Q a' σ' act' w' h1 h3 h4 σ0 w0 h2
      | exit id => exact ⟨.exit id, a', σ', rfl, h1, h2, h3, h4⟩
      | ret => exact ⟨.ret, a', σ', rfl, h1, h2, h3, h4⟩
    · cases hc
  | .cond c x y, ac, hc, Q, a, σ, act, w, h, hs, hf, σ0, w0, hl => by
    simp only [compC] at hc
    split at hc
    · rename_i c' x' y' hcv hx hy
      split at hc
      · rename_i ht
        injection hc with hc; subst hc
        have hr := opd_rep (σ := σ) (w := w) (act := act) (a := a) hcv (fun t htt => hf.rep t (by subst htt; simpa [tmpOk] using ht))
        simp only [ACode.wp] at h
        generalize hcx : c'.ev a = cv at h hr
        cases cv <;> simp only [condWp] at h
        rename_i b
        generalize hu : act.eval c = u at hr
        cases hr
        cases b
        · exact wp_cond_false hu (compC_sound y y' hy Q a σ act w (by simpa using h) hs hf σ0 w0 hl)
        · exact wp_cond_true hu (compC_sound x x' hx Q a σ act w (by simpa using h) hs hf σ0 w0 hl)
      · cases hc
    · cases hc
  | .block id x, ac, hc, Q, a, σ, act, w, h, hs, hf, σ0, w0, hl => by
    simp only [compC] at hc
    cases hx : compC P n x with
    | none => rw [hx] at hc; cases hc
    | some x' =>
      rw [hx] at hc
      simp only [Option.map_some, Option.some.injEq] at hc
      subst hc
      refine wp_block (wp_mono (compC_sound x x' hx _ a σ act w h hs hf σ0 w0 hl) ?_)
      rintro e act' w' ⟨ex, a', σ', rfl, h1, h2, h3, h4⟩
      cases ex with
      | normal => exact ⟨.normal, a', σ', rfl, h1, h2, h3, h4⟩
      | exit j =>
        simp only [AExit.toExit, Exit.inBlock]
        simp only [BlockQ] at h1
        split
        · rename_i hj
          rw [if_pos hj] at h1
          exact ⟨.normal, a', σ', rfl, h1, h2, h3, h4⟩
        · rename_i hj
          rw [if_neg hj] at h1
          exact ⟨.exit j, a', σ', rfl, h1, h2, h3, h4⟩
      | ret => exact ⟨.ret, a', σ', rfl, h1, h2, h3, h4⟩
  | .loop x, ac, hc, Q, a, σ, act, w, h, hs, hf, σ0, w0, hl => by
    simp only [compC] at hc
    cases hx : compC P n x with
    | none => rw [hx] at hc; cases hc
    | some x' =>
      rw [hx] at hc
      simp only [Option.map_some, Option.some.injEq] at hc
      subst hc
      obtain ⟨I, ⟨k0, a1, σ1, hd, hI⟩, hround⟩ := h
      classical
      let J : Nat → Act → World → Prop := fun k act w => ∃ a σ, I k a σ ∧ Le σ0 w0 σ w ∧ Sim σ w ∧ FRel n σ w a act
      let μ : Act → World → Nat := fun act w => if h : ∃ k, J k act w then least h else 0
      refine wp_loop (fun act w => ∃ k, J k act w) μ ⟨k0, a1, σ1, hI, hl.trans (hd.roles.le w), hd.roles.sim hs, hd.fr hs hf⟩ ?_
      intro act1 w1 hJ
      have hμ : μ act1 w1 = least hJ := by simp only [μ]; rw [dif_pos hJ]
      obtain ⟨a2, σ2, h1, h2, h3, h4⟩ := least_spec hJ
      refine wp_mono (compC_sound x x' hx _ a2 σ2 act1 w1 (hround _ a2 σ2 h1) h3 h4 σ0 w0 h2) ?_
      rintro e act' w' ⟨ex, a', σ', rfl, h5, h6, h7, h8⟩
      cases ex with
      | normal =>
        obtain ⟨m, hm, a3, σ3, hd3, hI3⟩ := h5
        have hJ' : J m act' w' := ⟨a3, σ3, hI3, h6.trans (hd3.roles.le w'), hd3.roles.sim h7, hd3.fr h7 h8⟩
        refine ⟨⟨m, hJ'⟩, ?_⟩
        have hex : ∃ k, J k act' w' := ⟨m, hJ'⟩
        have hμ' : μ act' w' = least hex := by simp only [μ]; rw [dif_pos hex]
        rw [hμ, hμ']
        exact Nat.lt_of_le_of_lt (least_min hex hJ') hm
      | exit id => exact ⟨.exit id, a', σ', rfl, h5, h6, h7, h8⟩
      | ret => exact ⟨.ret, a', σ', rfl, h5, h6, h7, h8⟩
end
end Go.A
