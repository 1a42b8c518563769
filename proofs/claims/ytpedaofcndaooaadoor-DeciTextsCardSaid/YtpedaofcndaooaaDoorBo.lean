/- More words for walks: a cut between two parts; a loop that lays no role down; freshness. -/
import Derived.Test.YtpedaofcndaooaaDoorBn
namespace Go.A
set_option linter.unusedSimpArgs false
set_option linter.unusedVariables false
section
variable {P : Program} {Q : APost} {a : AFr} {σ σ0 : ASt}

/-- What holds between two parts. -/
theorem wp_cut {x y : ACode} (M : AFr → ASt → Prop) (h1 : x.wp P (SeqQ (fun _ => M) Q) a σ) (h2 : ∀ a σ, M a σ → y.wp P Q a σ) : ACode.wp P (.seq x y) Q a σ := by
  rw [wp_seq']
  refine ACode.wp_mono P x _ _ (fun e a σ h => ?_) a σ h1
  cases e with
  | normal => exact h2 a σ h
  | exit i => exact h
  | ret => exact h
/-- A part that leaves the roles. -/
theorem wp_cutS {x y : ACode} (M : AFr → Prop) (h1 : x.wp P (SeqQ (fun _ a' σ' => M a' ∧ σ' = σ) Q) a σ) (h2 : ∀ a, M a → y.wp P Q a σ) : ACode.wp P (.seq x y) Q a σ :=
  wp_cut (fun a' σ' => M a' ∧ σ' = σ) h1 fun a' σ' ⟨h, he⟩ => by subst he; exact h2 a' h
/-- A loop whose rounds lay no role down. -/
theorem wp_loop_on {ι : Type} {x : ACode} (I : ι → AFr → ASt → Prop) (μ : ι → Nat) (i0 : ι) (h0 : I i0 a σ) (round : ∀ i a σ, I i a σ → x.wp P (LoopQ (fun a σ => ∃ j, μ j < μ i ∧ I j a σ) Q) a σ) : ACode.wp P (.loop x) Q a σ := by
  refine wp_loop_by I μ i0 (Dr.now h0) fun i a σ hI => ?_
  refine ACode.wp_mono P x _ _ (fun e a σ h => ?_) a σ (round i a σ hI)
  cases e with
  | normal =>
    obtain ⟨j, hj, h⟩ := h
    exact ⟨j, hj, Dr.now h⟩
  | exit i => exact h
  | ret => exact h
/-- A role is laid down ahead of a round. -/
theorem Dr.lay {F : AFr → ASt → Prop} {b : Nat} {r : Option Role} (hb : σ b = none) (h : F a σ) : Dr F a (σ.set b r) :=
  ⟨a, σ, ⟨fun x => by
    by_cases hx : x = b
    · subst hx; exact .inr hb
    · rw [ASt.set_ne hx]; exact .inl rfl, fun _ => .refl _⟩, h⟩
theorem Dr.drop {F : AFr → ASt → Prop} {σ' : ASt} (hd : Drop σ σ') (h : F a σ') : Dr F a σ := ⟨a, σ', ⟨hd, fun _ => .refl _⟩, h⟩
/-- A slice of one's own is only read from here on. -/
theorem Dr.freeze {F : AFr → ASt → Prop} {σ' : ASt} {t b o n c s : Nat} {cs xs : List AV} (h7 : a t = .msl b o n c) (hb : σ b = some (.obj cs)) (hn : σ' b = none) (hd : Drop σ σ') (hl : n = xs.length) (hc : n ≤ c) (hz : ∀ x ∈ xs, x.cells.length = s)
    (hf : xs.flatMap AV.cells = (cs.drop o).take (n * s)) (h : F (a.upd t (.sl .shr xs)) σ') : Dr F a σ :=
  ⟨a.upd t (.sl .shr xs), σ', ⟨hd, fun x => by
    by_cases hx : x = t
    · subst hx
      simp only [AFr.upd, if_true]
      rw [h7]
      exact .msl o n c s xs hb hn hl hc hz hf
    · simp only [AFr.upd, if_neg hx]
      exact .refl _⟩, h⟩
theorem ACalls.of_eq {f : FuncId} {as as' : List AV} {K : AV → ASt → Prop} (h : as = as') (hc : ACalls P f as' σ K) : ACalls P f as σ K := h ▸ hc
theorem ACalls.shr {f : FuncId} {args args' : List AV} {K : AV → ASt → Prop} (ha : args.map Go.A.shrV = args') (h : ACalls P f args' σ K) : ACalls P f args σ K := by
  subst ha
  intro w vs hs hr
  exact h w vs hs (Fzs.shrV.rep (Drop.refl σ) hs hr)
theorem Pure.ret {f : FuncId} {args : List AV} {r v : AV} (h : Pure P f args v) (he : v = r) : Pure P f args r := he ▸ h
theorem set_swap {b c : Nat} {r q : Option Role} (h : b ≠ c) : (σ.set b r).set c q = (σ.set c q).set b r := by
  funext x
  simp only [ASt.set]
  by_cases h1 : x = b
  · subst h1; simp [h]
  · by_cases h2 : x = c
    · subst h2; simp [h1]
    · simp [h1, h2]
end
@[go_sem] theorem eqC_p1 : eqC .p false .nilp .nilp = some (.bool true) := id rfl
@[go_sem] theorem eqC_p2 : eqC .p true .nilp .nilp = some (.bool false) := id rfl
@[go_sem] theorem eqC_p3 {b o : Nat} : eqC .p false .nilp (.ptr b o) = some (.bool false) := id rfl
@[go_sem] theorem eqC_p4 {b o : Nat} : eqC .p true .nilp (.ptr b o) = some (.bool true) := id rfl
@[go_sem] theorem eqC_p5 {b o : Nat} : eqC .p false (.ptr b o) .nilp = some (.bool false) := id rfl
@[go_sem] theorem eqC_p6 {b o : Nat} : eqC .p true (.ptr b o) .nilp = some (.bool true) := id rfl
@[go_sem] theorem eqC_p7 {cs : List AV} : eqC .p false .nilp (.imm cs) = some (.bool false) := id rfl
@[go_sem] theorem eqC_p8 {cs : List AV} : eqC .p true .nilp (.imm cs) = some (.bool true) := id rfl
@[go_sem] theorem eqC_p9 {cs : List AV} : eqC .p false (.imm cs) .nilp = some (.bool false) := id rfl
@[go_sem] theorem eqC_p10 {cs : List AV} : eqC .p true (.imm cs) .nilp = some (.bool true) := id rfl
@[go_sem] theorem eqC_p11 {t : TypeId} {v : AV} : eqC .i false .nili (.iface t v) = some (.bool false) := id rfl
@[go_sem] theorem eqC_p12 {t : TypeId} {v : AV} : eqC .i true .nili (.iface t v) = some (.bool true) := id rfl
@[go_sem] theorem eqC_p13 {t : TypeId} {v : AV} : eqC .i false (.iface t v) .nili = some (.bool false) := id rfl
@[go_sem] theorem eqC_p14 {t : TypeId} {v : AV} : eqC .i true (.iface t v) .nili = some (.bool true) := id rfl
@[go_sem] theorem eqC_p15 : eqC .f false .nilf .nilf = some (.bool true) := id rfl
@[go_sem] theorem eqC_p16 : eqC .f true .nilf .nilf = some (.bool false) := id rfl
@[go_sem] theorem eqC_p17 {g : Fn} {cs ds : List AV} : eqC .f false .nilf (.func g cs ds) = some (.bool false) := id rfl
@[go_sem] theorem eqC_p18 {g : Fn} {cs ds : List AV} : eqC .f true .nilf (.func g cs ds) = some (.bool true) := id rfl
@[go_sem] theorem eqC_p19 {g : Fn} {cs ds : List AV} : eqC .f false (.func g cs ds) .nilf = some (.bool false) := id rfl
@[go_sem] theorem eqC_p20 {g : Fn} {cs ds : List AV} : eqC .f true (.func g cs ds) .nilf = some (.bool true) := id rfl
theorem wf_i64' {n : Int} (h : (Lit.int .i64 n).wf = true) : -9223372036854775808 ≤ n ∧ n ≤ 9223372036854775807 := by
  simp [Lit.wf, IntKind.min, IntKind.max, IntKind.signed, IntKind.bits] at h
  omega
theorem wf_u64' {n : Int} (h : (Lit.int .u64 n).wf = true) : 0 ≤ n ∧ n ≤ 18446744073709551615 := by
  simp [Lit.wf, IntKind.min, IntKind.max, IntKind.signed, IntKind.bits] at h
  omega
end Go.A
