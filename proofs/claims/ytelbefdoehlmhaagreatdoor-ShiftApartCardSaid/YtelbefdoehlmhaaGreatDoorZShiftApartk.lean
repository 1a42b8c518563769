/- Part 11 of what ShiftApart leans on: Sa So CodeSb Sb CodeSc Sc CodeSe Se CodeSf Sf. -/
import Derived.Test.YtelbefdoehlmhaaGreatDoorProg
import Derived.KernelRfl
import Derived.Test.YtelbefdoehlmhaaGreatDoorZShiftApartj
set_option linter.defProp false
set_option linter.unusedSimpArgs false
set_option linter.unusedVariables false
set_option maxRecDepth 100000
namespace Go.A
open Go.Proofs Go.Lib
structure Edt where
  cols : Bool
  kind : Int
  at' : Int
  n : Int
  dst : Int
def Edt.cs (e : Edt) : List AV := [.bool e.cols, .int .i64 e.kind, .int .i64 e.at', .int .i64 e.n, .int .i64 e.dst]
def Edt.av (e : Edt) : AV := .agg e.cs
section
variable {e : Edt}
@[go_sem] theorem ed_0 : e.cs[0]? = some (.bool e.cols) := id rfl
@[go_sem] theorem ed_1 : e.cs[1]? = some (.int .i64 e.kind) := id rfl
@[go_sem] theorem ed_2 : e.cs[2]? = some (.int .i64 e.at') := id rfl
@[go_sem] theorem ed_3 : e.cs[3]? = some (.int .i64 e.n) := id rfl
@[go_sem] theorem ed_4 : e.cs[4]? = some (.int .i64 e.dst) := id rfl
@[go_sem] theorem ed_len : e.cs.length = 5 := id rfl
@[go_sem] theorem ed_take : e.cs.take 5 = e.cs := id rfl
end
def Edt.most (e : Edt) : Int := if e.cols = true then 700 else 3000
def Edt.good (e : Edt) (c : Int) : Bool :=
  if e.at' < 0 ∨ e.n < 1 ∨ c < 0 ∨ e.most < c then false
  else if e.kind = 1 then decide (e.at' ≤ c ∧ e.n ≤ e.most - c)
  else if e.kind = 2 then decide (e.n < c ∧ e.at' ≤ c - e.n)
  else if e.kind = 3 then decide (e.n ≤ c ∧ e.at' ≤ c - e.n ∧ 0 ≤ e.dst ∧ e.dst ≤ c - e.n)
  else false
def ahead (p : Int) (d i : Int) : Int := if p ≤ i then i + d else i
def Edt.place (e : Edt) (i : Int) : Int × Bool :=
  if e.kind = 1 then (ahead e.at' e.n i, decide (ahead e.at' e.n i < e.most))
  else if e.at' ≤ i ∧ i < e.at' + e.n then (if e.kind = 2 then (0, false) else (i - e.at' + e.dst, true))
  else if e.kind = 2 then (ahead e.at' (-e.n) i, true)
  else (ahead e.dst e.n (ahead e.at' (-e.n) i), true)
structure Edt.fit (e : Edt) : Prop where
  a0 : 0 ≤ e.at'
  a1 : e.at' ≤ 3000
  n0 : 0 ≤ e.n
  n1 : e.n ≤ 3000
  t : e.kind ≠ 1 → e.kind ≠ 2 → 0 ≤ e.dst ∧ e.dst ≤ 3000
theorem Edt.good_fit {e : Edt} {c : Int} (h : e.good c = true) : e.fit := by
  unfold Edt.good at h
  split at h
  · cases h
  rename_i h0
  have hm : e.most ≤ 3000 := by unfold Edt.most; split <;> omega
  split at h
  · have := of_decide_eq_true h
    exact ⟨by omega, by omega, by omega, by omega, by omega⟩
  split at h
  · have := of_decide_eq_true h
    exact ⟨by omega, by omega, by omega, by omega, by omega⟩
  split at h
  · have := of_decide_eq_true h
    exact ⟨by omega, by omega, by omega, by omega, by omega⟩
  · cases h
theorem shmost_ok (e : Edt) : Pure Tryz.prog 43 [e.av] (.int .i64 e.most) := by
  intro σ
  obtain ⟨q, hq⟩ : ∃ q, e.most = q := ⟨_, rfl⟩
  rw [hq]
  unfold Edt.most at hq
  unfold Edt.av
  refine a43 (by simp) ?_
  simp (disch := first | assumption | omega) only [go_sem]
  refine boxC_by rfl fun c hc => ?_
  cases hb : e.cols with
  | true =>
    rw [if_pos hb] at hq
    subst hq
    simp (disch := first | assumption | omega) only [go_sem, Nat.reduceEqDiff, ↓reduceIte, hb]
    exact retC_by (Drop.set hc) (.refl _) ⟨rfl, rfl⟩
  | false =>
    rw [if_neg (by simp [hb])] at hq
    subst hq
    simp (disch := first | assumption | omega) only [go_sem, Nat.reduceEqDiff, ↓reduceIte, hb]
    exact retC_by (Drop.set hc) (.refl _) ⟨rfl, rfl⟩
theorem most_rng (e : Edt) : 700 ≤ e.most ∧ e.most ≤ 3000 := by unfold Edt.most; split <;> omega
theorem shgood_ok (e : Edt) (c : Int) : Pure Tryz.prog 20 [e.av, .int .i64 c] (.bool (e.good c)) := by
  intro σ
  have hm := shmost_ok e
  have hr := most_rng e
  obtain ⟨q, hq⟩ : ∃ q, e.good c = q := ⟨_, rfl⟩
  rw [hq]
  unfold Edt.good at hq
  generalize e.most = M at *
  unfold Edt.av at hm ⊢
  refine a20 (by simp) ?_
  simp (disch := first | assumption | omega) only [go_sem]
  refine boxC_by rfl fun b hb => ?_
  by_cases h1 : e.at' < 0
  · rw [if_pos (by omega)] at hq
    subst hq
    simp (disch := first | assumption | omega) only [go_sem, Nat.reduceEqDiff, ↓reduceIte, h1]
    exact retC_by (Drop.set hb) (.refl _) ⟨rfl, rfl⟩
  by_cases h2 : e.n < 1
  · rw [if_pos (by omega)] at hq
    subst hq
    simp (disch := first | assumption | omega) only [go_sem, Nat.reduceEqDiff, ↓reduceIte, h1, h2]
    exact retC_by (Drop.set hb) (.refl _) ⟨rfl, rfl⟩
  by_cases h3 : c < 0
  · rw [if_pos (by omega)] at hq
    subst hq
    simp (disch := first | assumption | omega) only [go_sem, Nat.reduceEqDiff, ↓reduceIte, h1, h2, h3]
    exact retC_by (Drop.set hb) (.refl _) ⟨rfl, rfl⟩
  by_cases h4 : M < c
  · rw [if_pos (by omega)] at hq
    subst hq
    simp (disch := first | assumption | omega) only [go_sem, Nat.reduceEqDiff, Nat.reduceLeDiff, ↓reduceIte, h1, h2, h3]
    refine hm.use ?_
    simp (disch := first | assumption | omega) only [go_sem, Nat.reduceEqDiff, ↓reduceIte, h4]
    exact retC_by (Drop.set hb) (.refl _) ⟨rfl, rfl⟩
  rw [if_neg (by omega)] at hq
  by_cases k1 : e.kind = 1
  · rw [if_pos k1] at hq
    by_cases g1 : e.at' ≤ c
    · by_cases g2 : e.n ≤ M - c
      · rw [decide_eq_true ⟨g1, g2⟩] at hq
        subst hq
        simp (disch := first | assumption | omega) only [go_sem, Nat.reduceEqDiff, Nat.reduceLeDiff, ↓reduceIte, h1, h2, h3]
        refine hm.use ?_
        simp (disch := first | assumption | omega) only [go_sem, Nat.reduceEqDiff, Nat.reduceLeDiff, ↓reduceIte, h4, k1, g1]
        refine hm.use ?_
        simp (disch := first | assumption | omega) only [go_sem, Nat.reduceEqDiff, ↓reduceIte, forall_const, g2]
        exact retC_by (Drop.set hb) (.refl _) ⟨rfl, rfl⟩
      · rw [decide_eq_false (fun h => g2 h.2)] at hq
        subst hq
        simp (disch := first | assumption | omega) only [go_sem, Nat.reduceEqDiff, Nat.reduceLeDiff, ↓reduceIte, h1, h2, h3]
        refine hm.use ?_
        simp (disch := first | assumption | omega) only [go_sem, Nat.reduceEqDiff, Nat.reduceLeDiff, ↓reduceIte, h4, k1, g1]
        refine hm.use ?_
        simp (disch := first | assumption | omega) only [go_sem, Nat.reduceEqDiff, ↓reduceIte, forall_const, g2]
        exact retC_by (Drop.set hb) (.refl _) ⟨rfl, rfl⟩
    · rw [decide_eq_false (fun h => g1 h.1)] at hq
      subst hq
      simp (disch := first | assumption | omega) only [go_sem, Nat.reduceEqDiff, Nat.reduceLeDiff, ↓reduceIte, h1, h2, h3]
      refine hm.use ?_
      simp (disch := first | assumption | omega) only [go_sem, Nat.reduceEqDiff, ↓reduceIte, h4, k1, g1]
      exact retC_by (Drop.set hb) (.refl _) ⟨rfl, rfl⟩
  rw [if_neg k1] at hq
  by_cases k2 : e.kind = 2
  · rw [if_pos k2] at hq
    by_cases g1 : e.n < c
    · by_cases g2 : e.at' ≤ c - e.n
      · rw [decide_eq_true ⟨g1, g2⟩] at hq
        subst hq
        simp (disch := first | assumption | omega) only [go_sem, Nat.reduceEqDiff, Nat.reduceLeDiff, ↓reduceIte, h1, h2, h3]
        refine hm.use ?_
        simp (disch := first | assumption | omega) only [go_sem, Nat.reduceEqDiff, Int.reduceEq, ↓reduceIte, h4, k2, g1, g2]
        exact retC_by (Drop.set hb) (.refl _) ⟨rfl, rfl⟩
      · rw [decide_eq_false (fun h => g2 h.2)] at hq
        subst hq
        simp (disch := first | assumption | omega) only [go_sem, Nat.reduceEqDiff, Nat.reduceLeDiff, ↓reduceIte, h1, h2, h3]
        refine hm.use ?_
        simp (disch := first | assumption | omega) only [go_sem, Nat.reduceEqDiff, Int.reduceEq, ↓reduceIte, h4, k2, g1, g2]
        exact retC_by (Drop.set hb) (.refl _) ⟨rfl, rfl⟩
    · rw [decide_eq_false (fun h => g1 h.1)] at hq
      subst hq
      simp (disch := first | assumption | omega) only [go_sem, Nat.reduceEqDiff, Nat.reduceLeDiff, ↓reduceIte, h1, h2, h3]
      refine hm.use ?_
      simp (disch := first | assumption | omega) only [go_sem, Nat.reduceEqDiff, Int.reduceEq, ↓reduceIte, h4, k2, g1]
      exact retC_by (Drop.set hb) (.refl _) ⟨rfl, rfl⟩
  rw [if_neg k2] at hq
  by_cases k3 : e.kind = 3
  · rw [if_pos k3] at hq
    by_cases g1 : e.n ≤ c
    · by_cases g2 : e.at' ≤ c - e.n
      · by_cases g3 : 0 ≤ e.dst
        · by_cases g4 : e.dst ≤ c - e.n
          · rw [decide_eq_true ⟨g1, g2, g3, g4⟩] at hq
            subst hq
            simp (disch := first | assumption | omega) only [go_sem, Nat.reduceEqDiff, Nat.reduceLeDiff, ↓reduceIte, h1, h2, h3]
            refine hm.use ?_
            simp (disch := first | assumption | omega) only [go_sem, Nat.reduceEqDiff, Int.reduceEq, ↓reduceIte, h4, k3, g1, g2, g3, g4]
            exact retC_by (Drop.set hb) (.refl _) ⟨rfl, rfl⟩
          · rw [decide_eq_false (fun h => g4 h.2.2.2)] at hq
            subst hq
            simp (disch := first | assumption | omega) only [go_sem, Nat.reduceEqDiff, Nat.reduceLeDiff, ↓reduceIte, h1, h2, h3]
            refine hm.use ?_
            simp (disch := first | assumption | omega) only [go_sem, Nat.reduceEqDiff, Int.reduceEq, ↓reduceIte, h4, k3, g1, g2, g3, g4]
            exact retC_by (Drop.set hb) (.refl _) ⟨rfl, rfl⟩
        · rw [decide_eq_false (fun h => g3 h.2.2.1)] at hq
          subst hq
          simp (disch := first | assumption | omega) only [go_sem, Nat.reduceEqDiff, Nat.reduceLeDiff, ↓reduceIte, h1, h2, h3]
          refine hm.use ?_
          simp (disch := first | assumption | omega) only [go_sem, Nat.reduceEqDiff, Int.reduceEq, ↓reduceIte, h4, k3, g1, g2, g3]
          exact retC_by (Drop.set hb) (.refl _) ⟨rfl, rfl⟩
      · rw [decide_eq_false (fun h => g2 h.2.1)] at hq
        subst hq
        simp (disch := first | assumption | omega) only [go_sem, Nat.reduceEqDiff, Nat.reduceLeDiff, ↓reduceIte, h1, h2, h3]
        refine hm.use ?_
        simp (disch := first | assumption | omega) only [go_sem, Nat.reduceEqDiff, Int.reduceEq, ↓reduceIte, h4, k3, g1, g2]
        exact retC_by (Drop.set hb) (.refl _) ⟨rfl, rfl⟩
    · rw [decide_eq_false (fun h => g1 h.1)] at hq
      subst hq
      simp (disch := first | assumption | omega) only [go_sem, Nat.reduceEqDiff, Nat.reduceLeDiff, ↓reduceIte, h1, h2, h3]
      refine hm.use ?_
      simp (disch := first | assumption | omega) only [go_sem, Nat.reduceEqDiff, Int.reduceEq, ↓reduceIte, h4, k3, g1]
      exact retC_by (Drop.set hb) (.refl _) ⟨rfl, rfl⟩
  · rw [if_neg k3] at hq
    subst hq
    simp (disch := first | assumption | omega) only [go_sem, Nat.reduceEqDiff, Nat.reduceLeDiff, ↓reduceIte, h1, h2, h3]
    refine hm.use ?_
    simp (disch := first | assumption | omega) only [go_sem, Nat.reduceEqDiff, ↓reduceIte, h4, k1, k2, k3]
    exact retC_by (Drop.set hb) (.refl _) ⟨rfl, rfl⟩
theorem shplace_ok (e : Edt) (he : e.fit) (i : Int) (h0 : 0 ≤ i) (h1 : i ≤ 10000) : Pure Tryz.prog 21 [e.av, .int .i64 i] (.tuple [.int .i64 (e.place i).1, .bool (e.place i).2]) := by
  intro σ
  have hm := shmost_ok e
  have hr := most_rng e
  obtain ⟨a0, a1, n0, n1, ht⟩ := he
  obtain ⟨q, hq⟩ : ∃ q, e.place i = q := ⟨_, rfl⟩
  rw [hq]
  unfold Edt.place ahead at hq
  generalize e.most = M at *
  unfold Edt.av at hm ⊢
  refine a21 (by simp) ?_
  simp (disch := first | assumption | omega) only [go_sem]
  refine boxC_by rfl fun b hb => ?_
  by_cases k1 : e.kind = 1
  · rw [if_pos k1] at hq
    by_cases g1 : e.at' ≤ i
    · rw [if_pos g1] at hq
      subst hq
      simp (disch := first | assumption | omega) only [go_sem, Nat.reduceEqDiff, Nat.reduceLeDiff, ↓reduceIte, k1, g1]
      refine hm.use ?_
      simp (disch := first | assumption | omega) only [go_sem, Nat.reduceEqDiff, ↓reduceIte]
      exact retC_by (Drop.set hb) (.refl _) ⟨rfl, rfl⟩
    · rw [if_neg g1] at hq
      subst hq
      simp (disch := first | assumption | omega) only [go_sem, Nat.reduceEqDiff, Nat.reduceLeDiff, ↓reduceIte, k1, g1]
      refine hm.use ?_
      simp (disch := first | assumption | omega) only [go_sem, Nat.reduceEqDiff, ↓reduceIte]
      exact retC_by (Drop.set hb) (.refl _) ⟨rfl, rfl⟩
  rw [if_neg k1] at hq
  by_cases k2 : e.kind = 2
  · rw [if_pos k2, if_pos k2] at hq
    by_cases g1 : e.at' ≤ i
    · by_cases g2 : i < e.at' + e.n
      · rw [if_pos ⟨g1, g2⟩] at hq
        subst hq
        simp (disch := first | assumption | omega) only [go_sem, Nat.reduceEqDiff, Int.reduceEq, ↓reduceIte, k2, g1, g2]
        exact retC_by (Drop.set hb) (.refl _) ⟨rfl, rfl⟩
      · rw [if_neg (fun h => g2 h.2), if_pos g1] at hq
        subst hq
        simp (disch := first | assumption | omega) only [go_sem, Nat.reduceEqDiff, Int.reduceEq, ↓reduceIte, k2, g1, g2]
        exact retC_by (Drop.set hb) (.refl _) ⟨rfl, rfl⟩
    · rw [if_neg (fun h => g1 h.1), if_neg g1] at hq
      subst hq
      simp (disch := first | assumption | omega) only [go_sem, Nat.reduceEqDiff, Int.reduceEq, ↓reduceIte, k2, g1]
      exact retC_by (Drop.set hb) (.refl _) ⟨rfl, rfl⟩
  rw [if_neg k2, if_neg k2] at hq
  have ht := ht k1 k2
  by_cases g1 : e.at' ≤ i
  · by_cases g2 : i < e.at' + e.n
    · rw [if_pos ⟨g1, g2⟩] at hq
      subst hq
      simp (disch := first | assumption | omega) only [go_sem, Nat.reduceEqDiff, ↓reduceIte, k1, k2, g1, g2]
      exact retC_by (Drop.set hb) (.refl _) ⟨rfl, rfl⟩
    · rw [if_neg (fun h => g2 h.2), if_pos g1] at hq
      by_cases g3 : e.dst ≤ i + -e.n
      · rw [if_pos g3] at hq
        subst hq
        have g3' : e.dst ≤ i - e.n := by omega
        simp (disch := first | assumption | omega) only [go_sem, Nat.reduceEqDiff, ↓reduceIte, k1, k2, g1, g2, g3']
        exact retC_by (Drop.set hb) (.refl _) ⟨rfl, rfl⟩
      · rw [if_neg g3] at hq
        subst hq
        have g3' : ¬ e.dst ≤ i - e.n := by omega
        simp (disch := first | assumption | omega) only [go_sem, Nat.reduceEqDiff, ↓reduceIte, k1, k2, g1, g2, g3']
        exact retC_by (Drop.set hb) (.refl _) ⟨rfl, rfl⟩
  · rw [if_neg (fun h => g1 h.1), if_neg g1] at hq
    by_cases g3 : e.dst ≤ i
    · rw [if_pos g3] at hq
      subst hq
      simp (disch := first | assumption | omega) only [go_sem, Nat.reduceEqDiff, ↓reduceIte, k1, k2, g1, g3]
      exact retC_by (Drop.set hb) (.refl _) ⟨rfl, rfl⟩
    · rw [if_neg g3] at hq
      subst hq
      simp (disch := first | assumption | omega) only [go_sem, Nat.reduceEqDiff, ↓reduceIte, k1, k2, g1, g3]
      exact retC_by (Drop.set hb) (.refl _) ⟨rfl, rfl⟩
theorem shgone_ok : Pure Tryz.prog 35 [] (Nd.mk 4 40000 [] .zero .zero []).av := by
  intro σ
  refine a35 (by simp) ?_
  rw [Nd.av_cs]
  simp (disch := first | assumption | omega) only [go_sem]
  refine allocC_by fun b hb => ?_
  simp (disch := first | assumption | omega) only [go_sem, reduceCtorEq, Nat.reduceAdd, Nat.reduceLeDiff, ↓reduceIte, Bool.true_and, ASt.set_set]
  refine retC_by (Drop.set hb) ?_ ⟨rfl, rfl⟩
  exact Fz.agg (.cons (.refl _) (.cons (.refl _) (.cons (.refl _) (.cons (.refl _) (.cons (.refl _) (.cons (.refl _) (.cons (.refl _) (.cons (.refl _) (.cons (.refl _) (.cons (.refl _) (.cons (.refl _) (.cons (.sl _ _) .nil))))))))))))
end Go.A
namespace Go.A
open Go.Proofs Go.Lib
def MapG (P : Nd → Prop) (F : AV) (f : Nd → Nd) (I : ASt → Prop) : Prop := ∃ g cap, F = .func (.func g) [] cap ∧ okFn Tryz.prog g = true ∧ (∀ σ b r, I σ → σ b = none → I (σ.set b r)) ∧
  ∀ x σ, I σ → P x → (x.op = 5 ∨ x.op = 6) → ACalls Tryz.prog g (x.av :: cap) σ fun v σ' => v = (f x).av ∧ σ' = σ
theorem mapg_le (F : AV) (f : Nd → Nd) (I : ASt → Prop) (P : Nd → Prop) (hP : ∀ op m s a b ks, P (.mk op m s a b ks) → ∀ x ∈ ks, P x) (hF : MapG P F f I) : ∀ (k : Nat) (n : Nd), n.size ≤ k → n.size ≤ 1000000000 → P n → ∀ σ, I σ → ACalls Tryz.prog 32 [n.av, F] σ fun v σ' => v = (Nd.map f n).av ∧ σ' = σ
  | 0, n, hk, _, _ => by have := n.size_pos; omega
  | k + 1, n, hk, hb, hp => by
    intro σ hI
    have ih := mapg_le F f I P hP hF k
    obtain ⟨g, cap, rfl, hok, hst, hcall⟩ := hF
    obtain ⟨op, m, s, a, b, ks⟩ := n
    have hc0 := fun τ hτ => hcall (.mk op m s a b ks) τ hτ hp
    rw [Nd.size] at hk hb
    have hlen := sizes_len ks
    rw [Nd.map, Nd.maps_map]
    have hav := Nd.av_cs op m s a b ks
    by_cases ho : op = 5 ∨ op = 6
    · rw [if_pos ho]
      obtain ⟨w, hw⟩ : ∃ w, (f (Nd.mk op m s a b ks)) = w := ⟨_, rfl⟩
      rw [hw, hav] at hc0
      rw [hw, hav]
      obtain ⟨wo, wm, ws, wa, wb, wk⟩ := w
      rw [Nd.av_cs] at hc0 ⊢
      generalize ks.map Nd.av = L at *
      generalize wk.map Nd.av = WL at *
      refine a32 (by simp) ?_
      simp (disch := first | assumption | omega) only [go_sem]
      refine boxC_by rfl fun c hc => ?_
      simp (disch := first | assumption | omega) only [go_sem]
      refine allocC_by fun d hd => ?_
      have hd0 := hd
      repeat (with_reducible replace hd := set_none hd; obtain ⟨_, _, hd⟩ := hd)
      have h0 := hc0 _ (hst _ _ (some (.obj zeroC)) (hst _ _ (some (.obj (Nd.cs op m s a b L))) hI hc) hd0) ho
      unfold zeroC Nd.cs at h0
      rcases ho with rfl | rfl
      · simp (disch := first | assumption | omega) only [go_sem, Nat.reduceEqDiff, Nat.reduceLeDiff, ↓reduceIte]
        refine ⟨hok, ?_⟩
        unfold Nd.cs
        refine h0.mono ?_
        rintro v σ' ⟨rfl, rfl⟩
        simp (disch := first | assumption | omega) only [go_sem, Nat.reduceEqDiff, Nat.reduceAdd, Nat.reduceLeDiff, ↓reduceIte, Bool.true_and, ASt.set_set]
        exact retC_by ((Drop.set hc).off (by assumption)) (.refl _) ⟨rfl, rfl⟩
      · simp (disch := first | assumption | omega) only [go_sem, Nat.reduceEqDiff, Nat.reduceLeDiff, Int.reduceEq, ↓reduceIte]
        refine ⟨hok, ?_⟩
        unfold Nd.cs
        refine h0.mono ?_
        rintro v σ' ⟨rfl, rfl⟩
        simp (disch := first | assumption | omega) only [go_sem, Nat.reduceEqDiff, Nat.reduceAdd, Nat.reduceLeDiff, ↓reduceIte, Bool.true_and, ASt.set_set]
        exact retC_by ((Drop.set hc).off (by assumption)) (.refl _) ⟨rfl, rfl⟩
    · rw [if_neg ho, hav, Nd.av_cs]
      have o5 : op ≠ 5 := by omega
      have o6 : op ≠ 6 := by omega
      have hmm : (ks.map (Nd.map f)).map Nd.av = ks.map fun x => (Nd.map f x).av := by rw [List.map_map]; rfl
      rw [hmm]
      have hks : ∀ x ∈ ks, ∀ σ, I σ → ACalls Tryz.prog 32 [x.av, .func (.func g) [] cap] σ fun v σ' => v = (Nd.map f x).av ∧ σ' = σ := fun x hx => by
        have := Nd.size_kid hx
        exact ih x (by omega) (by omega) (hP _ _ _ _ _ _ hp x hx)
      refine a32 (by simp) ?_
      simp (disch := first | assumption | omega) only [go_sem]
      refine boxC_by rfl fun c hc => ?_
      simp (disch := first | assumption | omega) only [go_sem]
      refine allocC_by fun d hd => ?_
      have hd0 := hd
      repeat (with_reducible replace hd := set_none hd; obtain ⟨_, _, hd⟩ := hd)
      by_cases h0 : ks = []
      · subst h0
        simp only [List.map_nil]
        simp (disch := first | assumption | omega) only [go_sem, Nat.reduceEqDiff, Nat.reduceAdd, Nat.reduceLeDiff, Int.reduceLT, ↓reduceIte, o5, o6, ASt.set_set]
        exact retC_by ((Drop.set hc).off (by assumption)) (.refl _) ⟨rfl, rfl⟩
      have hpos : 0 < ks.length := by
        rcases ks with _ | ⟨_, _⟩
        · exact absurd rfl h0
        · simp
      have hpos' : (0 : Int) < ks.length := by omega
      obtain ⟨G, hG⟩ : ∃ G, G = ACode.wp Tryz.prog c32_22 := ⟨_, rfl⟩
      simp (disch := first | assumption | omega) only [go_sem, Nat.reduceEqDiff, ↓reduceIte, o5, o6, hpos']
      refine mkb_own (by omega) (by omega) (by omega) (by omega) fun e he => ?_
      have he0 := he
      repeat (with_reducible replace he := set_none he; obtain ⟨_, _, he⟩ := he)
      rw [Int.toNat_natCast]
      have hz12 : ([.int .i64 0, .int .i64 0, .str [], .int .i64 0, .int .i64 0, .bool false, .bool false, .int .i64 0, .int .i64 0, .bool false, .bool false, .sl .full []] : List AV).length = 12 := rfl
      have hrz := rowAt_zero f ks [.int .i64 0, .int .i64 0, .str [], .int .i64 0, .int .i64 0, .bool false, .bool false, .int .i64 0, .int .i64 0, .bool false, .bool false, .sl .full []]
      have hrl : ∀ i, i ≤ ks.length → (rowAt f ks [.int .i64 0, .int .i64 0, .str [], .int .i64 0, .int .i64 0, .bool false, .bool false, .int .i64 0, .int .i64 0, .bool false, .bool false, .sl .full []] i).length = ks.length * 12 := fun i hi => rowAt_len f ks hz12 hi
      have hrs := fun i x hx => rowAt_step f ks hz12 (i := i) (x := x) hx
      have hre := rowAt_end f ks [.int .i64 0, .int .i64 0, .str [], .int .i64 0, .int .i64 0, .bool false, .bool false, .int .i64 0, .int .i64 0, .bool false, .bool false, .sl .full []]
      rw [← hrz]
      generalize rowAt f ks [.int .i64 0, .int .i64 0, .str [], .int .i64 0, .int .i64 0, .bool false, .bool false, .int .i64 0, .int .i64 0, .bool false, .bool false, .sl .full []] = q at *
      have nce : c ≠ e := by assumption
      have nde : d ≠ e := by assumption
      have ncd : c ≠ d := by assumption
      have hII : ∀ X Y Z : Option Role, I (((σ.set c X).set d Y).set e Z) := fun X Y Z => hst _ _ _ (hst _ _ _ (hst _ _ _ hI hc) (by rw [ASt.set_ne (Ne.symm ncd)]; assumption)) (by rw [ASt.set_ne (Ne.symm nde), ASt.set_ne (Ne.symm nce)]; assumption)
      have hDD : ∀ X Y Z : Option Role, Drop (((σ.set c X).set d Y).set e Z) σ := fun X Y Z => ((Drop.set hc).off (by assumption)).off (by assumption)
      simp (disch := first | assumption | omega) only [go_sem, Nat.reduceEqDiff, ↓reduceIte, ←hG]
      refine wp_loop_by (fun (i : Nat) a1 s2 => i ≤ ks.length ∧ (a1 1 = .func (.func g) [] cap ∧ a1 2 = .ptr c 0 ∧ a1 4 = .ptr d 0 ∧ a1 5 = .msl e 0 ks.length ks.length ∧ a1 28 = .sl .shr (ks.map Nd.av) ∧ a1 29 = .int .i64 ks.length ∧ a1 30 = .int .i64 i) ∧
        s2 = ((σ.set c (some (.obj (Nd.cs op m s a b (ks.map Nd.av))))).set d (some (.obj [.int .i64 0, .int .i64 0, .str [], .int .i64 0, .int .i64 0, .bool false, .bool false, .int .i64 0, .int .i64 0, .bool false, .bool false, .sl .full []]))).set e (some (.obj (q i)))) (fun i => ks.length - i) 0 (Dr.now ⟨Nat.zero_le _, ?_, rfl⟩) ?_
      · simp (disch := first | assumption | omega) only [go_sem, Nat.reduceEqDiff, ↓reduceIte]
      rintro i a1 s2 ⟨hi, hf, rfl⟩
      by_cases hlt : i < ks.length
      · have hlt' : (i : Int) < ks.length := by omega
        have hx : ks[i]? = some (ks[i]'hlt) := List.getElem?_eq_getElem hlt
        have hkx := hks _ (List.getElem_mem hlt)
        obtain ⟨x, hxe⟩ : ∃ x, ks[i]'hlt = x := ⟨_, rfl⟩
        rw [hxe] at hx hkx
        have hmx := Nd.get hx
        have hqs := hrs i x hx
        have hql := hrl i (by omega)
        obtain ⟨y, hy⟩ : ∃ y, Nd.map f x = y := ⟨_, rfl⟩
        rw [hy] at hkx hqs
        obtain ⟨xo, xm, xs, xa, xb, xk⟩ := x
        obtain ⟨yo, ym, ys, ya, yb, yk⟩ := y
        rw [Nd.av_cs] at hmx
        rw [Nd.av_cs, Nd.av_cs] at hkx
        rw [Nd.av_cs, cells_agg] at hqs
        generalize xk.map Nd.av = XK at *
        generalize yk.map Nd.av = YK at *
        generalize hXL : ks.map Nd.av = XL at *
        simp (disch := first | assumption | omega) only [go_sem, Nat.reduceEqDiff, Nat.reduceLeDiff, ↓reduceIte, hf, hlt', hmx]
        refine allocC_by fun t ht => ?_
        have ht0 := ht
        repeat (with_reducible replace ht := set_none ht; obtain ⟨_, _, ht⟩ := ht)
        have hk1 := hkx _ (hst _ _ (some (.obj (Nd.cs xo xm xs xa xb XK))) (hII _ _ _) ht0)
        simp (disch := first | assumption | omega) only [go_sem, Nat.reduceEqDiff, Nat.reduceAdd, Nat.reduceLeDiff, ↓reduceIte, hf, ASt.set_set]
        refine hk1.mono ?_
        rintro v σ' ⟨rfl, rfl⟩
        have hb1 : i * 12 + 12 ≤ (q i).length := by rw [hql]; omega
        have het : e ≠ t := by assumption
        have hsw : ∀ (ρ : ASt) (X Y Z : Option Role), ((ρ.set e X).set t Y).set e Z = (ρ.set e Z).set t Y := fun _ _ _ _ => set_mid het
        simp (disch := first | assumption | omega) only [go_sem, Nat.reduceEqDiff, ↓reduceIte, hf, hb1, hqs, hsw]
        refine ⟨i + 1, by dsimp only; omega, Dr.drop (Drop.set (by rw [ASt.set_ne (Ne.symm het)]; rw [ASt.set_ne (Ne.symm het)] at ht0; exact ht0)) ⟨by omega, ?_, rfl⟩⟩
        simp (disch := first | assumption | omega) only [go_sem, Nat.reduceEqDiff, ↓reduceIte, hf]
      · have hlt' : ¬ (i : Int) < ks.length := by omega
        obtain rfl : i = ks.length := by omega
        rw [hre]
        simp (disch := first | assumption | omega) only [go_sem, ↓reduceIte, hf, hlt']
        rw [hG]
        have hsw1 : ∀ (ρ : ASt) (X Y Z W : Option Role), (((ρ.set c X).set d Y).set e Z).set c W = ((ρ.set c W).set d Y).set e Z := fun ρ X Y Z W => by rw [set_swap (Ne.symm nce), set_mid ncd]
        have hsw2 : ∀ (ρ : ASt) (Y Z W : Option Role), ((ρ.set d Y).set e Z).set d W = (ρ.set d W).set e Z := fun ρ Y Z W => set_mid nde
        unfold Nd.cs
        simp (disch := first | assumption | omega) only [go_sem, Nat.reduceEqDiff, Nat.reduceAdd, Nat.reduceLeDiff, ↓reduceIte, Bool.true_and, hf, hsw1, hsw2]
        refine retC_by (r := .agg [.int .i64 op, .int .i64 m, .str s, .int .i64 a.row, .int .i64 a.col, .bool a.absRow, .bool a.absCol, .int .i64 b.row, .int .i64 b.col, .bool b.absRow, .bool b.absCol, .sl .shr (ks.map fun x => (Nd.map f x).av)]) (hDD _ _ _) ?_ ⟨rfl, rfl⟩
        refine Fz.agg ?_
        refine .cons (.refl _) (.cons (.refl _) (.cons (.refl _) (.cons (.refl _) (.cons (.refl _) (.cons (.refl _) (.cons (.refl _) (.cons (.refl _) (.cons (.refl _) (.cons (.refl _) (.cons (.refl _) (.cons ?_ .nil)))))))))))
        refine .msl 0 _ _ 12 _ (ASt.set_same _ _ _) (by assumption) (by simp) (Nat.le_refl _) (fun y hy => ?_) ?_
        · obtain ⟨z, _, rfl⟩ := List.mem_map.1 hy
          exact Nd.av_len _
        · rw [List.drop_zero, List.take_of_length_le]
          rw [lens_flat (s := 12)]
          · simp
          · intro y hy
            obtain ⟨z, _, rfl⟩ := List.mem_map.1 hy
            exact Nd.av_len _
end Go.A
namespace Go.A
open Go.Proofs
/-! 17: (tabular/shift.Edit).Tree -/
def c17_0 : ACode := .ops [
 ⟨some 2, none, .e (.box (.t 0)), []⟩,
 ⟨some 3, none, .e (.box (.t 1)), []⟩,
 ⟨some 4, none, .e (.alloc [(.int .i64 0), (.int .i64 0), (.str []), (.int .i64 0), (.int .i64 0), (.bool false), (.bool false), (.int .i64 0), (.int .i64 0), (.bool false), (.bool false), (.sl .full [])]), []⟩]
def c17_1 : ACode := .ops [
 ⟨some 5, none, .q (.ld (some 12) (.t 3)), []⟩,
 ⟨some 6, none, .q (.mkf (.func 39) [] [(.t 2)]), []⟩,
 ⟨some 7, none, .e (.call 32 [(.t 5), (.t 6)]), []⟩,
 ⟨none, none, .e (.store 12 (.t 4) (.t 7)), []⟩]
def c17_2 : ACode := .seq c17_1 .ret
def c17_3 : ACode := .seq c17_0 c17_2
@[go_sem] def c17_0_wp := wp_of c17_0.eq_1
@[go_sem] def c17_1_wp := wp_of c17_1.eq_1
@[go_sem] def c17_2_wp := wp_of c17_2.eq_1
@[go_sem] def c17_3_wp := wp_of c17_3.eq_1
def c17 : AFn := ⟨8, [.c 4 (some 12)], c17_3⟩
theorem c17_ok : compF Tryz.prog Tryz.f17 = some c17 := by kernel_rfl
theorem a17 {args : List AV} {σ : ASt} {R : AV → ASt → Prop} (hl : args.length ≤ 8) (h : c17_3.wp Tryz.prog (RetQ [.c 4 (some 12)] R) (init args) σ) : ACalls Tryz.prog 17 args σ R := acalls_of Tryz.func17 c17_ok hl h
/-! 39: (tabular/shift.Edit).Tree$1 -/
def c39_0 : ACode := .ops [
 ⟨some 2, none, .e (.box (.t 0)), []⟩,
 ⟨some 3, none, .e (.alloc [(.int .i64 0), (.int .i64 0), (.str []), (.int .i64 0), (.int .i64 0), (.bool false), (.bool false), (.int .i64 0), (.int .i64 0), (.bool false), (.bool false), (.sl .full [])]), []⟩]
def c39_1 : ACode := .ops [
 ⟨some 4, none, .q (.fa 0 (.t 2)), []⟩,
 ⟨some 5, none, .q (.ld none (.t 4)), []⟩,
 ⟨some 6, none, .q (.bin .eql (.t 5) (.v (.int .i64 5))), []⟩]
def c39_2 : ACode := .ops [
 ⟨some 7, none, .q (.ld (some 5) (.t 1)), []⟩,
 ⟨some 8, none, .q (.ld (some 12) (.t 2)), []⟩,
 ⟨some 9, none, .e (.call 40 [(.t 7), (.t 8)]), []⟩,
 ⟨none, none, .e (.store 12 (.t 3) (.t 9)), []⟩]
def c39_3 : ACode := .seq c39_2 .ret
def c39_4 : ACode := .cond (.t 6) c39_3 .skip
def c39_5 : ACode := .seq c39_1 c39_4
def c39_6 : ACode := .ops [
 ⟨some 10, none, .q (.ld (some 5) (.t 1)), []⟩,
 ⟨some 11, none, .q (.ld (some 12) (.t 2)), []⟩,
 ⟨some 12, none, .e (.call 41 [(.t 10), (.t 11)]), []⟩,
 ⟨none, none, .e (.store 12 (.t 3) (.t 12)), []⟩]
def c39_7 : ACode := .seq c39_6 .ret
def c39_8 : ACode := .seq c39_5 c39_7
def c39_9 : ACode := .seq c39_0 c39_8
@[go_sem] def c39_0_wp := wp_of c39_0.eq_1
@[go_sem] def c39_1_wp := wp_of c39_1.eq_1
@[go_sem] def c39_2_wp := wp_of c39_2.eq_1
@[go_sem] def c39_3_wp := wp_of c39_3.eq_1
@[go_sem] def c39_4_wp := wp_of c39_4.eq_1
@[go_sem] def c39_5_wp := wp_of c39_5.eq_1
@[go_sem] def c39_6_wp := wp_of c39_6.eq_1
@[go_sem] def c39_7_wp := wp_of c39_7.eq_1
@[go_sem] def c39_8_wp := wp_of c39_8.eq_1
@[go_sem] def c39_9_wp := wp_of c39_9.eq_1
def c39 : AFn := ⟨13, [.c 3 (some 12)], c39_9⟩
theorem c39_ok : compF Tryz.prog Tryz.f39 = some c39 := by kernel_rfl
theorem a39 {args : List AV} {σ : ASt} {R : AV → ASt → Prop} (hl : args.length ≤ 13) (h : c39_9.wp Tryz.prog (RetQ [.c 3 (some 12)] R) (init args) σ) : ACalls Tryz.prog 39 args σ R := acalls_of Tryz.func39 c39_ok hl h
/-! 40: (tabular/shift.Edit).cell -/
def c40_0 : ACode := .ops [
 ⟨some 2, none, .e (.box (.t 0)), []⟩,
 ⟨some 3, none, .e (.box (.t 1)), []⟩,
 ⟨some 4, none, .e (.alloc [(.int .i64 0), (.int .i64 0), (.str []), (.int .i64 0), (.int .i64 0), (.bool false), (.bool false), (.int .i64 0), (.int .i64 0), (.bool false), (.bool false), (.sl .full [])]), []⟩]
def c40_1 : ACode := .ops [
 ⟨some 8, none, .q (.fa 3 (.t 3)), []⟩,
 ⟨some 9, none, .q (.fa 0 (.t 8)), []⟩,
 ⟨some 5, none, .q (.mv (.t 9)), []⟩]
def c40_2 : ACode := .ops [
 ⟨some 10, none, .q (.fa 0 (.t 2)), []⟩,
 ⟨some 11, none, .q (.ld none (.t 10)), []⟩]
def c40_3 : ACode := .ops [
 ⟨some 12, none, .q (.fa 3 (.t 3)), []⟩,
 ⟨some 13, none, .q (.fa 1 (.t 12)), []⟩,
 ⟨some 5, none, .q (.mv (.t 13)), []⟩]
def c40_4 : ACode := .cond (.t 11) c40_3 .skip
def c40_5 : ACode := .seq c40_2 c40_4
def c40_6 : ACode := .ops [
 ⟨some 15, none, .q (.ld (some 5) (.t 2)), []⟩,
 ⟨some 16, none, .q (.mv (.t 5)), []⟩,
 ⟨some 17, none, .q (.nc (.t 16)), []⟩,
 ⟨some 18, none, .q (.ld none (.t 17)), []⟩,
 ⟨some 19, none, .e (.call 21 [(.t 15), (.t 18)]), []⟩,
 ⟨some 14, none, .q (.mv (.t 19)), []⟩,
 ⟨some 20, none, .q (.ext 0 (.t 14)), []⟩,
 ⟨some 21, none, .q (.ext 1 (.t 14)), []⟩,
 ⟨some 6, none, .q (.mv (.t 20)), []⟩,
 ⟨some 7, none, .q (.mv (.t 21)), []⟩]
def c40_7 : ACode := .ops [
 ⟨some 22, none, .q (.mv (.t 7)), []⟩,
 ⟨some 23, none, .q (.un .not (.t 22)), []⟩]
def c40_8 : ACode := .ops [
 ⟨some 24, none, .e (.call 35 []), []⟩,
 ⟨none, none, .e (.store 12 (.t 4) (.t 24)), []⟩]
def c40_9 : ACode := .seq c40_8 .ret
def c40_10 : ACode := .cond (.t 23) c40_9 .skip
def c40_11 : ACode := .seq c40_7 c40_10
def c40_12 : ACode := .ops [
 ⟨some 25, none, .q (.mv (.t 5)), []⟩,
 ⟨some 26, none, .q (.mv (.t 6)), []⟩,
 ⟨some 27, none, .q (.nc (.t 25)), []⟩,
 ⟨none, none, .e (.store 1 (.t 27) (.t 26)), []⟩]
def c40_13 : ACode := .ops [
 ⟨some 28, none, .q (.ld (some 12) (.t 3)), []⟩,
 ⟨none, none, .e (.store 12 (.t 4) (.t 28)), []⟩]
def c40_14 : ACode := .seq c40_13 .ret
def c40_15 : ACode := .seq c40_12 c40_14
def c40_16 : ACode := .seq c40_11 c40_15
def c40_17 : ACode := .seq c40_6 c40_16
def c40_18 : ACode := .seq c40_5 c40_17
def c40_19 : ACode := .seq c40_1 c40_18
def c40_20 : ACode := .seq c40_0 c40_19
@[go_sem] def c40_0_wp := wp_of c40_0.eq_1
@[go_sem] def c40_1_wp := wp_of c40_1.eq_1
@[go_sem] def c40_2_wp := wp_of c40_2.eq_1
@[go_sem] def c40_3_wp := wp_of c40_3.eq_1
@[go_sem] def c40_4_wp := wp_of c40_4.eq_1
@[go_sem] def c40_5_wp := wp_of c40_5.eq_1
@[go_sem] def c40_6_wp := wp_of c40_6.eq_1
@[go_sem] def c40_7_wp := wp_of c40_7.eq_1
@[go_sem] def c40_8_wp := wp_of c40_8.eq_1
@[go_sem] def c40_9_wp := wp_of c40_9.eq_1
@[go_sem] def c40_10_wp := wp_of c40_10.eq_1
@[go_sem] def c40_11_wp := wp_of c40_11.eq_1
@[go_sem] def c40_12_wp := wp_of c40_12.eq_1
@[go_sem] def c40_13_wp := wp_of c40_13.eq_1
@[go_sem] def c40_14_wp := wp_of c40_14.eq_1
@[go_sem] def c40_15_wp := wp_of c40_15.eq_1
@[go_sem] def c40_16_wp := wp_of c40_16.eq_1
@[go_sem] def c40_17_wp := wp_of c40_17.eq_1
@[go_sem] def c40_18_wp := wp_of c40_18.eq_1
@[go_sem] def c40_19_wp := wp_of c40_19.eq_1
@[go_sem] def c40_20_wp := wp_of c40_20.eq_1
def c40 : AFn := ⟨29, [.c 4 (some 12)], c40_20⟩
theorem c40_ok : compF Tryz.prog Tryz.f40 = some c40 := by kernel_rfl
theorem a40 {args : List AV} {σ : ASt} {R : AV → ASt → Prop} (hl : args.length ≤ 29) (h : c40_20.wp Tryz.prog (RetQ [.c 4 (some 12)] R) (init args) σ) : ACalls Tryz.prog 40 args σ R := acalls_of Tryz.func40 c40_ok hl h
/-! 41: (tabular/shift.Edit).area -/
def c41_0 : ACode := .ops [
 ⟨some 2, none, .e (.box (.t 0)), []⟩,
 ⟨some 3, none, .e (.box (.t 1)), []⟩,
 ⟨some 4, none, .e (.alloc [(.int .i64 0), (.int .i64 0), (.str []), (.int .i64 0), (.int .i64 0), (.bool false), (.bool false), (.int .i64 0), (.int .i64 0), (.bool false), (.bool false), (.sl .full [])]), []⟩]
def c41_1 : ACode := .ops [
 ⟨some 11, none, .q (.fa 3 (.t 3)), []⟩,
 ⟨some 12, none, .q (.fa 0 (.t 11)), []⟩,
 ⟨some 13, none, .q (.fa 7 (.t 3)), []⟩,
 ⟨some 14, none, .q (.fa 0 (.t 13)), []⟩,
 ⟨some 5, none, .q (.mv (.t 12)), []⟩,
 ⟨some 6, none, .q (.mv (.t 14)), []⟩]
def c41_2 : ACode := .ops [
 ⟨some 15, none, .q (.fa 0 (.t 2)), []⟩,
 ⟨some 16, none, .q (.ld none (.t 15)), []⟩]
def c41_3 : ACode := .ops [
 ⟨some 17, none, .q (.fa 3 (.t 3)), []⟩,
 ⟨some 18, none, .q (.fa 1 (.t 17)), []⟩,
 ⟨some 19, none, .q (.fa 7 (.t 3)), []⟩,
 ⟨some 20, none, .q (.fa 1 (.t 19)), []⟩,
 ⟨some 5, none, .q (.mv (.t 18)), []⟩,
 ⟨some 6, none, .q (.mv (.t 20)), []⟩]
def c41_4 : ACode := .cond (.t 16) c41_3 .skip
def c41_5 : ACode := .seq c41_2 c41_4
def c41_6 : ACode := .ops [
 ⟨some 21, none, .q (.mv (.t 5)), []⟩,
 ⟨some 22, none, .q (.nc (.t 21)), []⟩,
 ⟨some 23, none, .q (.ld none (.t 22)), []⟩,
 ⟨some 24, none, .q (.mv (.t 6)), []⟩,
 ⟨some 25, none, .q (.nc (.t 24)), []⟩,
 ⟨some 26, none, .q (.ld none (.t 25)), []⟩,
 ⟨some 27, none, .q (.bin .gtr (.t 23) (.t 26)), []⟩,
 ⟨some 7, none, .q (.mv (.t 27)), []⟩]
def c41_7 : ACode := .ops [
 ⟨some 29, none, .q (.ld (some 5) (.t 2)), []⟩,
 ⟨some 30, none, .q (.mv (.t 5)), []⟩,
 ⟨some 31, none, .q (.nc (.t 30)), []⟩,
 ⟨some 32, none, .q (.ld none (.t 31)), []⟩,
 ⟨some 33, none, .q (.mv (.t 6)), []⟩,
 ⟨some 34, none, .q (.nc (.t 33)), []⟩,
 ⟨some 35, none, .q (.ld none (.t 34)), []⟩,
 ⟨some 36, none, .q (.mnx false (.t 32) (.t 35)), []⟩,
 ⟨some 37, none, .q (.mv (.t 5)), []⟩,
 ⟨some 38, none, .q (.nc (.t 37)), []⟩,
 ⟨some 39, none, .q (.ld none (.t 38)), []⟩,
 ⟨some 40, none, .q (.mv (.t 6)), []⟩,
 ⟨some 41, none, .q (.nc (.t 40)), []⟩,
 ⟨some 42, none, .q (.ld none (.t 41)), []⟩,
 ⟨some 43, none, .q (.mnx true (.t 39) (.t 42)), []⟩,
 ⟨some 44, none, .e (.call 56 [(.t 29), (.t 36), (.t 43)]), []⟩,
 ⟨some 28, none, .q (.mv (.t 44)), []⟩,
 ⟨some 45, none, .q (.ext 0 (.t 28)), []⟩,
 ⟨some 46, none, .q (.ext 1 (.t 28)), []⟩,
 ⟨some 47, none, .q (.ext 2 (.t 28)), []⟩,
 ⟨some 8, none, .q (.mv (.t 45)), []⟩,
 ⟨some 9, none, .q (.mv (.t 46)), []⟩,
 ⟨some 10, none, .q (.mv (.t 47)), []⟩]
def c41_8 : ACode := .ops [
 ⟨some 48, none, .q (.mv (.t 10)), []⟩,
 ⟨some 49, none, .q (.un .not (.t 48)), []⟩]
def c41_9 : ACode := .ops [
 ⟨some 50, none, .e (.call 35 []), []⟩,
 ⟨none, none, .e (.store 12 (.t 4) (.t 50)), []⟩]
def c41_10 : ACode := .seq c41_9 .ret
def c41_11 : ACode := .cond (.t 49) c41_10 .skip
def c41_12 : ACode := .seq c41_8 c41_11
def c41_13 : ACode := .ops [
 ⟨some 51, none, .q (.mv (.t 7)), []⟩]
def c41_14 : ACode := .ops [
 ⟨some 52, none, .q (.mv (.t 9)), []⟩,
 ⟨some 53, none, .q (.mv (.t 8)), []⟩,
 ⟨some 8, none, .q (.mv (.t 52)), []⟩,
 ⟨some 9, none, .q (.mv (.t 53)), []⟩]
def c41_15 : ACode := .cond (.t 51) c41_14 .skip
def c41_16 : ACode := .seq c41_13 c41_15
def c41_17 : ACode := .ops [
 ⟨some 54, none, .q (.mv (.t 5)), []⟩,
 ⟨some 55, none, .q (.mv (.t 6)), []⟩,
 ⟨some 56, none, .q (.mv (.t 8)), []⟩,
 ⟨some 57, none, .q (.mv (.t 9)), []⟩,
 ⟨some 58, none, .q (.nc (.t 54)), []⟩,
 ⟨none, none, .e (.store 1 (.t 58) (.t 56)), []⟩,
 ⟨some 59, none, .q (.nc (.t 55)), []⟩,
 ⟨none, none, .e (.store 1 (.t 59) (.t 57)), []⟩]
def c41_18 : ACode := .ops [
 ⟨some 60, none, .q (.ld (some 12) (.t 3)), []⟩,
 ⟨none, none, .e (.store 12 (.t 4) (.t 60)), []⟩]
def c41_19 : ACode := .seq c41_18 .ret
def c41_20 : ACode := .seq c41_17 c41_19
def c41_21 : ACode := .seq c41_16 c41_20
def c41_22 : ACode := .seq c41_12 c41_21
def c41_23 : ACode := .seq c41_7 c41_22
def c41_24 : ACode := .seq c41_6 c41_23
def c41_25 : ACode := .seq c41_5 c41_24
def c41_26 : ACode := .seq c41_1 c41_25
def c41_27 : ACode := .seq c41_0 c41_26
@[go_sem] def c41_0_wp := wp_of c41_0.eq_1
@[go_sem] def c41_1_wp := wp_of c41_1.eq_1
@[go_sem] def c41_2_wp := wp_of c41_2.eq_1
@[go_sem] def c41_3_wp := wp_of c41_3.eq_1
@[go_sem] def c41_4_wp := wp_of c41_4.eq_1
@[go_sem] def c41_5_wp := wp_of c41_5.eq_1
@[go_sem] def c41_6_wp := wp_of c41_6.eq_1
@[go_sem] def c41_7_wp := wp_of c41_7.eq_1
@[go_sem] def c41_8_wp := wp_of c41_8.eq_1
@[go_sem] def c41_9_wp := wp_of c41_9.eq_1
@[go_sem] def c41_10_wp := wp_of c41_10.eq_1
@[go_sem] def c41_11_wp := wp_of c41_11.eq_1
@[go_sem] def c41_12_wp := wp_of c41_12.eq_1
@[go_sem] def c41_13_wp := wp_of c41_13.eq_1
@[go_sem] def c41_14_wp := wp_of c41_14.eq_1
@[go_sem] def c41_15_wp := wp_of c41_15.eq_1
@[go_sem] def c41_16_wp := wp_of c41_16.eq_1
@[go_sem] def c41_17_wp := wp_of c41_17.eq_1
@[go_sem] def c41_18_wp := wp_of c41_18.eq_1
@[go_sem] def c41_19_wp := wp_of c41_19.eq_1
@[go_sem] def c41_20_wp := wp_of c41_20.eq_1
@[go_sem] def c41_21_wp := wp_of c41_21.eq_1
@[go_sem] def c41_22_wp := wp_of c41_22.eq_1
@[go_sem] def c41_23_wp := wp_of c41_23.eq_1
@[go_sem] def c41_24_wp := wp_of c41_24.eq_1
@[go_sem] def c41_25_wp := wp_of c41_25.eq_1
@[go_sem] def c41_26_wp := wp_of c41_26.eq_1
@[go_sem] def c41_27_wp := wp_of c41_27.eq_1
def c41 : AFn := ⟨61, [.c 4 (some 12)], c41_27⟩
theorem c41_ok : compF Tryz.prog Tryz.f41 = some c41 := by kernel_rfl
theorem a41 {args : List AV} {σ : ASt} {R : AV → ASt → Prop} (hl : args.length ≤ 61) (h : c41_27.wp Tryz.prog (RetQ [.c 4 (some 12)] R) (init args) σ) : ACalls Tryz.prog 41 args σ R := acalls_of Tryz.func41 c41_ok hl h
/-! 56: (tabular/shift.Edit).Span -/
def c56_0 : ACode := .ops [
 ⟨some 3, none, .e (.box (.t 0)), []⟩,
 ⟨some 6, none, .q (.mv (.v (.int .i64 0))), []⟩,
 ⟨some 7, none, .q (.mv (.v (.int .i64 0))), []⟩,
 ⟨some 8, none, .q (.mv (.v (.bool false))), []⟩]
def c56_1 : ACode := .ops [
 ⟨some 16, none, .q (.fa 1 (.t 3)), []⟩,
 ⟨some 17, none, .q (.ld none (.t 16)), []⟩]
def c56_2 : ACode := .ops [
 ⟨some 19, none, .q (.bin .eql (.t 17) (.v (.int .i64 1))), []⟩,
 ⟨some 18, none, .q (.mv (.t 19)), []⟩]
def c56_3 : ACode := .ops [
 ⟨some 21, none, .q (.ld (some 5) (.t 3)), []⟩,
 ⟨some 22, none, .q (.mv (.t 1)), []⟩,
 ⟨some 23, none, .e (.call 21 [(.t 21), (.t 22)]), []⟩,
 ⟨some 20, none, .q (.mv (.t 23)), []⟩,
 ⟨some 24, none, .q (.ext 0 (.t 20)), []⟩,
 ⟨some 25, none, .q (.ext 1 (.t 20)), []⟩,
 ⟨some 9, none, .q (.mv (.t 24)), []⟩,
 ⟨some 10, none, .q (.mv (.t 25)), []⟩]
def c56_4 : ACode := .ops [
 ⟨some 26, none, .q (.mv (.t 10)), []⟩,
 ⟨some 27, none, .q (.un .not (.t 26)), []⟩]
def c56_5 : ACode := .ops [
 ⟨some 6, none, .q (.mv (.v (.int .i64 0))), []⟩,
 ⟨some 7, none, .q (.mv (.v (.int .i64 0))), []⟩,
 ⟨some 8, none, .q (.mv (.v (.bool false))), []⟩]
def c56_6 : ACode := .seq c56_5 .ret
def c56_7 : ACode := .cond (.t 27) c56_6 .skip
def c56_8 : ACode := .seq c56_4 c56_7
def c56_9 : ACode := .ops [
 ⟨some 29, none, .q (.ld (some 5) (.t 3)), []⟩,
 ⟨some 30, none, .q (.mv (.t 2)), []⟩,
 ⟨some 31, none, .e (.call 21 [(.t 29), (.t 30)]), []⟩,
 ⟨some 28, none, .q (.mv (.t 31)), []⟩,
 ⟨some 32, none, .q (.ext 0 (.t 28)), []⟩,
 ⟨some 33, none, .q (.ext 1 (.t 28)), []⟩,
 ⟨some 11, none, .q (.mv (.t 32)), []⟩,
 ⟨some 10, none, .q (.mv (.t 33)), []⟩]
def c56_10 : ACode := .ops [
 ⟨some 34, none, .q (.mv (.t 10)), []⟩,
 ⟨some 35, none, .q (.un .not (.t 34)), []⟩]
def c56_11 : ACode := .ops [
 ⟨some 36, none, .q (.ld (some 5) (.t 3)), []⟩,
 ⟨some 37, none, .e (.call 43 [(.t 36)]), []⟩,
 ⟨some 38, none, .q (.bin .sub (.t 37) (.v (.int .i64 1))), []⟩,
 ⟨some 11, none, .q (.mv (.t 38)), []⟩]
def c56_12 : ACode := .cond (.t 35) c56_11 .skip
def c56_13 : ACode := .seq c56_10 c56_12
def c56_14 : ACode := .ops [
 ⟨some 39, none, .q (.mv (.t 9)), []⟩,
 ⟨some 40, none, .q (.mv (.t 11)), []⟩,
 ⟨some 6, none, .q (.mv (.t 39)), []⟩,
 ⟨some 7, none, .q (.mv (.t 40)), []⟩,
 ⟨some 8, none, .q (.mv (.v (.bool true))), []⟩]
def c56_15 : ACode := .seq c56_14 .ret
def c56_16 : ACode := .seq c56_13 c56_15
def c56_17 : ACode := .seq c56_9 c56_16
def c56_18 : ACode := .seq c56_8 c56_17
def c56_19 : ACode := .seq c56_3 c56_18
def c56_20 : ACode := .ops [
 ⟨some 42, none, .q (.bin .eql (.t 17) (.v (.int .i64 2))), []⟩,
 ⟨some 41, none, .q (.mv (.t 42)), []⟩]
def c56_21 : ACode := .ops [
 ⟨some 43, none, .q (.mv (.t 1)), []⟩,
 ⟨some 44, none, .q (.fa 2 (.t 3)), []⟩,
 ⟨some 45, none, .q (.ld none (.t 44)), []⟩,
 ⟨some 46, none, .q (.bin .geq (.t 43) (.t 45)), []⟩,
 ⟨some 47, none, .q (.mv (.t 46)), []⟩,
 ⟨some 48, some (47, true), .q (.mv (.t 2)), []⟩,
 ⟨some 49, some (47, true), .q (.fa 2 (.t 3)), []⟩,
 ⟨some 50, some (47, true), .q (.ld none (.t 49)), []⟩,
 ⟨some 51, some (47, true), .q (.fa 3 (.t 3)), []⟩,
 ⟨some 52, some (47, true), .q (.ld none (.t 51)), []⟩,
 ⟨some 53, some (47, true), .q (.bin .add (.t 50) (.t 52)), []⟩,
 ⟨some 54, some (47, true), .q (.bin .lss (.t 48) (.t 53)), []⟩,
 ⟨some 55, none, .q (.pick (.t 47) (.t 54) (.v (.bool false))), []⟩]
def c56_22 : ACode := .ops [
 ⟨some 6, none, .q (.mv (.v (.int .i64 0))), []⟩,
 ⟨some 7, none, .q (.mv (.v (.int .i64 0))), []⟩,
 ⟨some 8, none, .q (.mv (.v (.bool false))), []⟩]
def c56_23 : ACode := .seq c56_22 .ret
def c56_24 : ACode := .cond (.t 55) c56_23 .skip
def c56_25 : ACode := .seq c56_21 c56_24
def c56_26 : ACode := .ops [
 ⟨some 56, none, .q (.mv (.t 1)), []⟩,
 ⟨some 57, none, .q (.fa 2 (.t 3)), []⟩,
 ⟨some 58, none, .q (.ld none (.t 57)), []⟩,
 ⟨some 59, none, .q (.bin .geq (.t 56) (.t 58)), []⟩,
 ⟨some 60, none, .q (.mv (.t 59)), []⟩,
 ⟨some 61, some (60, true), .q (.mv (.t 1)), []⟩,
 ⟨some 62, some (60, true), .q (.fa 2 (.t 3)), []⟩,
 ⟨some 63, some (60, true), .q (.ld none (.t 62)), []⟩,
 ⟨some 64, some (60, true), .q (.fa 3 (.t 3)), []⟩,
 ⟨some 65, some (60, true), .q (.ld none (.t 64)), []⟩,
 ⟨some 66, some (60, true), .q (.bin .add (.t 63) (.t 65)), []⟩,
 ⟨some 67, some (60, true), .q (.bin .lss (.t 61) (.t 66)), []⟩,
 ⟨some 68, none, .q (.pick (.t 60) (.t 67) (.v (.bool false))), []⟩]
def c56_27 : ACode := .ops [
 ⟨some 69, none, .q (.fa 2 (.t 3)), []⟩,
 ⟨some 70, none, .q (.ld none (.t 69)), []⟩,
 ⟨some 71, none, .q (.fa 3 (.t 3)), []⟩,
 ⟨some 72, none, .q (.ld none (.t 71)), []⟩,
 ⟨some 73, none, .q (.bin .add (.t 70) (.t 72)), []⟩,
 ⟨some 1, none, .q (.mv (.t 73)), []⟩]
def c56_28 : ACode := .cond (.t 68) c56_27 .skip
def c56_29 : ACode := .seq c56_26 c56_28
def c56_30 : ACode := .ops [
 ⟨some 74, none, .q (.mv (.t 2)), []⟩,
 ⟨some 75, none, .q (.fa 2 (.t 3)), []⟩,
 ⟨some 76, none, .q (.ld none (.t 75)), []⟩,
 ⟨some 77, none, .q (.bin .geq (.t 74) (.t 76)), []⟩,
 ⟨some 78, none, .q (.mv (.t 77)), []⟩,
 ⟨some 79, some (78, true), .q (.mv (.t 2)), []⟩,
 ⟨some 80, some (78, true), .q (.fa 2 (.t 3)), []⟩,
 ⟨some 81, some (78, true), .q (.ld none (.t 80)), []⟩,
 ⟨some 82, some (78, true), .q (.fa 3 (.t 3)), []⟩,
 ⟨some 83, some (78, true), .q (.ld none (.t 82)), []⟩,
 ⟨some 84, some (78, true), .q (.bin .add (.t 81) (.t 83)), []⟩,
 ⟨some 85, some (78, true), .q (.bin .lss (.t 79) (.t 84)), []⟩,
 ⟨some 86, none, .q (.pick (.t 78) (.t 85) (.v (.bool false))), []⟩]
def c56_31 : ACode := .ops [
 ⟨some 87, none, .q (.fa 2 (.t 3)), []⟩,
 ⟨some 88, none, .q (.ld none (.t 87)), []⟩,
 ⟨some 89, none, .q (.bin .sub (.t 88) (.v (.int .i64 1))), []⟩,
 ⟨some 2, none, .q (.mv (.t 89)), []⟩]
def c56_32 : ACode := .cond (.t 86) c56_31 .skip
def c56_33 : ACode := .seq c56_30 c56_32
def c56_34 : ACode := .seq c56_29 c56_33
def c56_35 : ACode := .seq c56_25 c56_34
def c56_36 : ACode := .cond (.t 41) c56_35 .skip
def c56_37 : ACode := .seq c56_20 c56_36
def c56_38 : ACode := .cond (.t 18) c56_19 c56_37
def c56_39 : ACode := .seq c56_2 c56_38
def c56_40 : ACode := .block 0 c56_39
def c56_41 : ACode := .seq c56_1 c56_40
def c56_42 : ACode := .ops [
 ⟨some 91, none, .q (.ld (some 5) (.t 3)), []⟩,
 ⟨some 92, none, .q (.mv (.t 1)), []⟩,
 ⟨some 93, none, .e (.call 21 [(.t 91), (.t 92)]), []⟩,
 ⟨some 90, none, .q (.mv (.t 93)), []⟩,
 ⟨some 94, none, .q (.ext 0 (.t 90)), []⟩,
 ⟨some 95, none, .q (.ext 1 (.t 90)), []⟩,
 ⟨some 12, none, .q (.mv (.t 94)), []⟩,
 ⟨some 13, none, .q (.mv (.t 95)), []⟩]
def c56_43 : ACode := .ops [
 ⟨some 97, none, .q (.ld (some 5) (.t 3)), []⟩,
 ⟨some 98, none, .q (.mv (.t 2)), []⟩,
 ⟨some 99, none, .e (.call 21 [(.t 97), (.t 98)]), []⟩,
 ⟨some 96, none, .q (.mv (.t 99)), []⟩,
 ⟨some 100, none, .q (.ext 0 (.t 96)), []⟩,
 ⟨some 101, none, .q (.ext 1 (.t 96)), []⟩,
 ⟨some 14, none, .q (.mv (.t 100)), []⟩,
 ⟨some 15, none, .q (.mv (.t 101)), []⟩]
def c56_44 : ACode := .ops [
 ⟨some 102, none, .q (.mv (.t 12)), []⟩,
 ⟨some 103, none, .q (.mv (.t 14)), []⟩,
 ⟨some 104, none, .q (.mnx false (.t 102) (.t 103)), []⟩,
 ⟨some 105, none, .q (.mv (.t 12)), []⟩,
 ⟨some 106, none, .q (.mv (.t 14)), []⟩,
 ⟨some 107, none, .q (.mnx true (.t 105) (.t 106)), []⟩,
 ⟨some 6, none, .q (.mv (.t 104)), []⟩,
 ⟨some 7, none, .q (.mv (.t 107)), []⟩,
 ⟨some 8, none, .q (.mv (.v (.bool true))), []⟩]
def c56_45 : ACode := .seq c56_44 .ret
def c56_46 : ACode := .seq c56_43 c56_45
def c56_47 : ACode := .seq c56_42 c56_46
def c56_48 : ACode := .seq c56_41 c56_47
def c56_49 : ACode := .seq c56_0 c56_48
@[go_sem] def c56_0_wp := wp_of c56_0.eq_1
@[go_sem] def c56_1_wp := wp_of c56_1.eq_1
@[go_sem] def c56_2_wp := wp_of c56_2.eq_1
@[go_sem] def c56_3_wp := wp_of c56_3.eq_1
@[go_sem] def c56_4_wp := wp_of c56_4.eq_1
@[go_sem] def c56_5_wp := wp_of c56_5.eq_1
@[go_sem] def c56_6_wp := wp_of c56_6.eq_1
@[go_sem] def c56_7_wp := wp_of c56_7.eq_1
@[go_sem] def c56_8_wp := wp_of c56_8.eq_1
@[go_sem] def c56_9_wp := wp_of c56_9.eq_1
@[go_sem] def c56_10_wp := wp_of c56_10.eq_1
@[go_sem] def c56_11_wp := wp_of c56_11.eq_1
@[go_sem] def c56_12_wp := wp_of c56_12.eq_1
@[go_sem] def c56_13_wp := wp_of c56_13.eq_1
@[go_sem] def c56_14_wp := wp_of c56_14.eq_1
@[go_sem] def c56_15_wp := wp_of c56_15.eq_1
@[go_sem] def c56_16_wp := wp_of c56_16.eq_1
@[go_sem] def c56_17_wp := wp_of c56_17.eq_1
@[go_sem] def c56_18_wp := wp_of c56_18.eq_1
@[go_sem] def c56_19_wp := wp_of c56_19.eq_1
@[go_sem] def c56_20_wp := wp_of c56_20.eq_1
@[go_sem] def c56_21_wp := wp_of c56_21.eq_1
@[go_sem] def c56_22_wp := wp_of c56_22.eq_1
@[go_sem] def c56_23_wp := wp_of c56_23.eq_1
@[go_sem] def c56_24_wp := wp_of c56_24.eq_1
@[go_sem] def c56_25_wp := wp_of c56_25.eq_1
@[go_sem] def c56_26_wp := wp_of c56_26.eq_1
@[go_sem] def c56_27_wp := wp_of c56_27.eq_1
@[go_sem] def c56_28_wp := wp_of c56_28.eq_1
@[go_sem] def c56_29_wp := wp_of c56_29.eq_1
@[go_sem] def c56_30_wp := wp_of c56_30.eq_1
@[go_sem] def c56_31_wp := wp_of c56_31.eq_1
@[go_sem] def c56_32_wp := wp_of c56_32.eq_1
@[go_sem] def c56_33_wp := wp_of c56_33.eq_1
@[go_sem] def c56_34_wp := wp_of c56_34.eq_1
@[go_sem] def c56_35_wp := wp_of c56_35.eq_1
@[go_sem] def c56_36_wp := wp_of c56_36.eq_1
@[go_sem] def c56_37_wp := wp_of c56_37.eq_1
@[go_sem] def c56_38_wp := wp_of c56_38.eq_1
@[go_sem] def c56_39_wp := wp_of c56_39.eq_1
@[go_sem] def c56_40_wp := wp_of c56_40.eq_1
@[go_sem] def c56_41_wp := wp_of c56_41.eq_1
@[go_sem] def c56_42_wp := wp_of c56_42.eq_1
@[go_sem] def c56_43_wp := wp_of c56_43.eq_1
@[go_sem] def c56_44_wp := wp_of c56_44.eq_1
@[go_sem] def c56_45_wp := wp_of c56_45.eq_1
@[go_sem] def c56_46_wp := wp_of c56_46.eq_1
@[go_sem] def c56_47_wp := wp_of c56_47.eq_1
@[go_sem] def c56_48_wp := wp_of c56_48.eq_1
@[go_sem] def c56_49_wp := wp_of c56_49.eq_1
def c56 : AFn := ⟨108, [.t 6, .t 7, .t 8], c56_49⟩
theorem c56_ok : compF Tryz.prog Tryz.f56 = some c56 := by kernel_rfl
theorem a56 {args : List AV} {σ : ASt} {R : AV → ASt → Prop} (hl : args.length ≤ 108) (h : c56_49.wp Tryz.prog (RetQ [.t 6, .t 7, .t 8] R) (init args) σ) : ACalls Tryz.prog 56 args σ R := acalls_of Tryz.func56 c56_ok hl h
end Go.A
namespace Go.A
open Go.Proofs Go.Lib
def Edt.span (e : Edt) (f t : Int) : Int × Int × Bool :=
  if e.kind = 1 then
    if (e.place f).2 = true then ((e.place f).1, if (e.place t).2 = true then (e.place t).1 else e.most - 1, true) else (0, 0, false)
  else if e.kind = 2 then
    if e.at' ≤ f ∧ t < e.at' + e.n then (0, 0, false)
    else
      let f' := if e.at' ≤ f ∧ f < e.at' + e.n then e.at' + e.n else f
      let t' := if e.at' ≤ t ∧ t < e.at' + e.n then e.at' - 1 else t
      (min (e.place f').1 (e.place t').1, max (e.place f').1 (e.place t').1, true)
  else (min (e.place f).1 (e.place t).1, max (e.place f).1 (e.place t).1, true)
theorem shspan_ok (e : Edt) (he : e.fit) (f t : Int) (h0 : 0 ≤ f) (h1 : f ≤ t) (h2 : t ≤ 4000) :
    Pure Tryz.prog 56 [e.av, .int .i64 f, .int .i64 t] (.tuple [.int .i64 (e.span f t).1, .int .i64 (e.span f t).2.1, .bool (e.span f t).2.2]) := by
  intro σ
  have hm := shmost_ok e
  have hr := most_rng e
  have hp : ∀ i, 0 ≤ i → i ≤ 10000 → Pure Tryz.prog 21 [e.av, .int .i64 i] (.tuple [.int .i64 (e.place i).1, .bool (e.place i).2]) := fun i h0 h1 => shplace_ok e he i h0 h1
  obtain ⟨a0, a1, n0, n1, ht⟩ := he
  obtain ⟨q, hq⟩ : ∃ q, e.span f t = q := ⟨_, rfl⟩
  rw [hq]
  unfold Edt.span at hq
  generalize e.most = M at *
  generalize e.place = pl at *
  unfold Edt.av at hm hp ⊢
  by_cases k1 : e.kind = 1
  · rw [if_pos k1] at hq
    have h3 := hp f (by omega) (by omega)
    have h4 := hp t (by omega) (by omega)
    obtain ⟨⟨i, ok⟩, hi⟩ : ∃ r, pl f = r := ⟨_, rfl⟩
    obtain ⟨⟨j, ok2⟩, hj⟩ : ∃ r, pl t = r := ⟨_, rfl⟩
    rw [hi] at hq h3
    rw [hj] at hq h4
    dsimp only at hq h3 h4
    cases ok with
    | false =>
      rw [if_neg (by simp)] at hq
      subst hq
      refine a56 (by simp) ?_
      simp (disch := first | assumption | omega) only [go_sem]
      refine boxC_by rfl fun b hb => ?_
      simp (disch := first | assumption | omega) only [go_sem, Nat.reduceEqDiff, Nat.reduceLeDiff, ↓reduceIte, k1]
      refine h3.use ?_
      simp (disch := first | assumption | omega) only [go_sem, Nat.reduceEqDiff, ↓reduceIte]
      exact retC_by (Drop.set hb) (.refl _) ⟨rfl, rfl⟩
    | true =>
      rw [if_pos rfl] at hq
      cases ok2 with
      | true =>
        rw [if_pos rfl] at hq
        subst hq
        refine a56 (by simp) ?_
        simp (disch := first | assumption | omega) only [go_sem]
        refine boxC_by rfl fun b hb => ?_
        simp (disch := first | assumption | omega) only [go_sem, Nat.reduceEqDiff, Nat.reduceLeDiff, ↓reduceIte, k1]
        refine h3.use ?_
        simp (disch := first | assumption | omega) only [go_sem, Nat.reduceEqDiff, Nat.reduceLeDiff, ↓reduceIte]
        refine h4.use ?_
        simp (disch := first | assumption | omega) only [go_sem, Nat.reduceEqDiff, ↓reduceIte]
        exact retC_by (Drop.set hb) (.refl _) ⟨rfl, rfl⟩
      | false =>
        rw [if_neg (by simp)] at hq
        subst hq
        refine a56 (by simp) ?_
        simp (disch := first | assumption | omega) only [go_sem]
        refine boxC_by rfl fun b hb => ?_
        simp (disch := first | assumption | omega) only [go_sem, Nat.reduceEqDiff, Nat.reduceLeDiff, ↓reduceIte, k1]
        refine h3.use ?_
        simp (disch := first | assumption | omega) only [go_sem, Nat.reduceEqDiff, Nat.reduceLeDiff, ↓reduceIte]
        refine h4.use ?_
        simp (disch := first | assumption | omega) only [go_sem, Nat.reduceEqDiff, Nat.reduceLeDiff, ↓reduceIte]
        refine hm.use ?_
        simp (disch := first | assumption | omega) only [go_sem, Nat.reduceEqDiff, ↓reduceIte]
        exact retC_by (Drop.set hb) (.refl _) ⟨rfl, rfl⟩
  rw [if_neg k1] at hq
  by_cases k2 : e.kind = 2
  · rw [if_pos k2] at hq
    by_cases g1 : e.at' ≤ f
    · by_cases g2 : t < e.at' + e.n
      · rw [if_pos ⟨g1, g2⟩] at hq
        subst hq
        refine a56 (by simp) ?_
        simp (disch := first | assumption | omega) only [go_sem]
        refine boxC_by rfl fun b hb => ?_
        simp (disch := first | assumption | omega) only [go_sem, Nat.reduceEqDiff, Int.reduceEq, ↓reduceIte, k2, g1, g2]
        exact retC_by (Drop.set hb) (.refl _) ⟨rfl, rfl⟩
      · rw [if_neg (fun h => g2 h.2)] at hq
        have g3 : e.at' ≤ t := by omega
        rw [if_neg (c := e.at' ≤ t ∧ t < e.at' + e.n) (fun h => g2 h.2)] at hq
        by_cases g4 : f < e.at' + e.n
        · rw [if_pos ⟨g1, g4⟩] at hq
          have h3 := hp (e.at' + e.n) (by omega) (by omega)
          have h4 := hp t (by omega) (by omega)
          dsimp only at hq
          subst hq
          refine a56 (by simp) ?_
          simp (disch := first | assumption | omega) only [go_sem]
          refine boxC_by rfl fun b hb => ?_
          simp (disch := first | assumption | omega) only [go_sem, Nat.reduceEqDiff, Nat.reduceLeDiff, Int.reduceEq, ↓reduceIte, k2, g1, g2, g3, g4]
          refine h3.use ?_
          simp (disch := first | assumption | omega) only [go_sem, Nat.reduceEqDiff, Nat.reduceLeDiff, ↓reduceIte]
          refine h4.use ?_
          simp (disch := first | assumption | omega) only [go_sem, Nat.reduceEqDiff, ↓reduceIte]
          exact retC_by (Drop.set hb) (.refl _) ⟨rfl, rfl⟩
        · rw [if_neg (fun h => g4 h.2)] at hq
          have h3 := hp f (by omega) (by omega)
          have h4 := hp t (by omega) (by omega)
          dsimp only at hq
          subst hq
          refine a56 (by simp) ?_
          simp (disch := first | assumption | omega) only [go_sem]
          refine boxC_by rfl fun b hb => ?_
          simp (disch := first | assumption | omega) only [go_sem, Nat.reduceEqDiff, Nat.reduceLeDiff, Int.reduceEq, ↓reduceIte, k2, g1, g2, g3, g4]
          refine h3.use ?_
          simp (disch := first | assumption | omega) only [go_sem, Nat.reduceEqDiff, Nat.reduceLeDiff, ↓reduceIte]
          refine h4.use ?_
          simp (disch := first | assumption | omega) only [go_sem, Nat.reduceEqDiff, ↓reduceIte]
          exact retC_by (Drop.set hb) (.refl _) ⟨rfl, rfl⟩
    · rw [if_neg (fun h => g1 h.1), if_neg (c := e.at' ≤ f ∧ f < e.at' + e.n) (fun h => g1 h.1)] at hq
      have h3 := hp f (by omega) (by omega)
      by_cases g3 : e.at' ≤ t
      · by_cases g2 : t < e.at' + e.n
        · rw [if_pos ⟨g3, g2⟩] at hq
          have h4 := hp (e.at' - 1) (by omega) (by omega)
          dsimp only at hq
          subst hq
          refine a56 (by simp) ?_
          simp (disch := first | assumption | omega) only [go_sem]
          refine boxC_by rfl fun b hb => ?_
          simp (disch := first | assumption | omega) only [go_sem, Nat.reduceEqDiff, Nat.reduceLeDiff, Int.reduceEq, ↓reduceIte, k2, g1, g2, g3]
          refine h3.use ?_
          simp (disch := first | assumption | omega) only [go_sem, Nat.reduceEqDiff, Nat.reduceLeDiff, ↓reduceIte]
          refine h4.use ?_
          simp (disch := first | assumption | omega) only [go_sem, Nat.reduceEqDiff, ↓reduceIte]
          exact retC_by (Drop.set hb) (.refl _) ⟨rfl, rfl⟩
        · rw [if_neg (fun h => g2 h.2)] at hq
          have h4 := hp t (by omega) (by omega)
          dsimp only at hq
          subst hq
          refine a56 (by simp) ?_
          simp (disch := first | assumption | omega) only [go_sem]
          refine boxC_by rfl fun b hb => ?_
          simp (disch := first | assumption | omega) only [go_sem, Nat.reduceEqDiff, Nat.reduceLeDiff, Int.reduceEq, ↓reduceIte, k2, g1, g2, g3]
          refine h3.use ?_
          simp (disch := first | assumption | omega) only [go_sem, Nat.reduceEqDiff, Nat.reduceLeDiff, ↓reduceIte]
          refine h4.use ?_
          simp (disch := first | assumption | omega) only [go_sem, Nat.reduceEqDiff, ↓reduceIte]
          exact retC_by (Drop.set hb) (.refl _) ⟨rfl, rfl⟩
      · rw [if_neg (fun h => g3 h.1)] at hq
        have h4 := hp t (by omega) (by omega)
        dsimp only at hq
        subst hq
        refine a56 (by simp) ?_
        simp (disch := first | assumption | omega) only [go_sem]
        refine boxC_by rfl fun b hb => ?_
        simp (disch := first | assumption | omega) only [go_sem, Nat.reduceEqDiff, Nat.reduceLeDiff, Int.reduceEq, ↓reduceIte, k2, g1, g3]
        refine h3.use ?_
        simp (disch := first | assumption | omega) only [go_sem, Nat.reduceEqDiff, Nat.reduceLeDiff, ↓reduceIte]
        refine h4.use ?_
        simp (disch := first | assumption | omega) only [go_sem, Nat.reduceEqDiff, ↓reduceIte]
        exact retC_by (Drop.set hb) (.refl _) ⟨rfl, rfl⟩
  · rw [if_neg k2] at hq
    have h3 := hp f (by omega) (by omega)
    have h4 := hp t (by omega) (by omega)
    subst hq
    refine a56 (by simp) ?_
    simp (disch := first | assumption | omega) only [go_sem]
    refine boxC_by rfl fun b hb => ?_
    simp (disch := first | assumption | omega) only [go_sem, Nat.reduceEqDiff, Nat.reduceLeDiff, ↓reduceIte, k1, k2]
    refine h3.use ?_
    simp (disch := first | assumption | omega) only [go_sem, Nat.reduceEqDiff, Nat.reduceLeDiff, ↓reduceIte]
    refine h4.use ?_
    simp (disch := first | assumption | omega) only [go_sem, Nat.reduceEqDiff, ↓reduceIte]
    exact retC_by (Drop.set hb) (.refl _) ⟨rfl, rfl⟩
def goneN : Nd := .mk 4 40000 [] .zero .zero []
theorem gone_av : goneN.av = .agg [.int .i64 4, .int .i64 40000, .str [], .int .i64 0, .int .i64 0, .bool false, .bool false, .int .i64 0, .int .i64 0, .bool false, .bool false, .sl .shr []] := by
  unfold goneN
  rw [Nd.av_cs]; rfl
def Edt.of (e : Edt) (a : Ref) : Int := if e.cols = true then a.col else a.row
def Edt.set (e : Edt) (a : Ref) (i : Int) : Ref := if e.cols = true then ⟨a.row, i, a.absRow, a.absCol⟩ else ⟨i, a.col, a.absRow, a.absCol⟩
def Edt.cell (e : Edt) : Nd → Nd
  | .mk op n s a b ks => if (e.place (e.of a)).2 = true then .mk op n s (e.set a (e.place (e.of a)).1) b ks else goneN
def Edt.area (e : Edt) : Nd → Nd
  | .mk op n s a b ks =>
    if (e.span (min (e.of a) (e.of b)) (max (e.of a) (e.of b))).2.2 = true then
      if e.of b < e.of a then .mk op n s (e.set a (e.span (min (e.of a) (e.of b)) (max (e.of a) (e.of b))).2.1) (e.set b (e.span (min (e.of a) (e.of b)) (max (e.of a) (e.of b))).1) ks
      else .mk op n s (e.set a (e.span (min (e.of a) (e.of b)) (max (e.of a) (e.of b))).1) (e.set b (e.span (min (e.of a) (e.of b)) (max (e.of a) (e.of b))).2.1) ks
    else goneN
def Edt.node (e : Edt) (x : Nd) : Nd := if x.op = 5 then e.cell x else e.area x
def Edt.tree (e : Edt) (n : Nd) : Nd := Nd.map e.node n
theorem of_rng {e : Edt} {a : Ref} (h : a.good = true) : 0 ≤ e.of a ∧ e.of a < 3000 := by
  simp only [Ref.good, decide_eq_true_eq] at h
  unfold Edt.of
  split <;> omega
theorem shcell_ok (e : Edt) (he : e.fit) (op n : Int) (s : List UInt8) (a b : Ref) (ks : List Nd) (ha : a.good = true) :
    Pure Tryz.prog 40 [e.av, (Nd.mk op n s a b ks).av] (e.cell (.mk op n s a b ks)).av := by
  intro σ
  have hg : Pure Tryz.prog 35 [] (.agg [.int .i64 4, .int .i64 40000, .str [], .int .i64 0, .int .i64 0, .bool false, .bool false, .int .i64 0, .int .i64 0, .bool false, .bool false, .sl .shr []]) := by
    have := shgone_ok
    rw [Nd.av_cs] at this
    exact this
  have h0 := of_rng (e := e) ha
  have hp := shplace_ok e he (e.of a) (by omega) (by omega)
  obtain ⟨⟨i, ok⟩, hq⟩ : ∃ q, e.place (e.of a) = q := ⟨_, rfl⟩
  rw [Edt.cell, hq]
  rw [hq] at hp
  dsimp only at hp ⊢
  have hav : ∀ r : Ref, (Nd.mk op n s r b ks).av = .agg [.int .i64 op, .int .i64 n, .str s, .int .i64 r.row, .int .i64 r.col, .bool r.absRow, .bool r.absCol, .int .i64 b.row, .int .i64 b.col, .bool b.absRow, .bool b.absCol, .sl .shr (ks.map Nd.av)] := fun r => Nd.av_cs ..
  rw [hav]
  generalize ks.map Nd.av = L at *
  cases hb : e.cols with
  | true =>
    have ho : e.of a = a.col := by unfold Edt.of; rw [if_pos hb]
    have hs : e.set a i = ⟨a.row, i, a.absRow, a.absCol⟩ := by unfold Edt.set; rw [if_pos hb]
    rw [ho] at hp
    rw [hs]
    unfold Edt.av at hp ⊢
    cases ok with
    | true =>
      rw [if_pos rfl, hav]
      refine a40 (by simp) ?_
      simp (disch := first | assumption | omega) only [go_sem]
      refine boxC_by rfl fun c hc => ?_
      simp (disch := first | assumption | omega) only [go_sem, Nat.reduceEqDiff, ↓reduceIte]
      refine boxC_by rfl fun d hd => ?_
      repeat (with_reducible replace hd := set_none hd; obtain ⟨_, _, hd⟩ := hd)
      simp (disch := first | assumption | omega) only [go_sem]
      refine allocC_by fun t ht => ?_
      repeat (with_reducible replace ht := set_none ht; obtain ⟨_, _, ht⟩ := ht)
      have hdt : d ≠ t := by assumption
      have hsw : ∀ (ρ : ASt) (X Y Z : Option Role), ((ρ.set d X).set t Y).set d Z = (ρ.set d Z).set t Y := fun _ _ _ _ => set_mid hdt
      simp (disch := first | assumption | omega) only [go_sem, Nat.reduceEqDiff, Nat.reduceAdd, Nat.reduceLeDiff, ↓reduceIte, hb]
      refine hp.use ?_
      simp (disch := first | assumption | omega) only [go_sem, Nat.reduceEqDiff, Nat.reduceAdd, Nat.reduceLeDiff, ↓reduceIte, Bool.true_and, hsw, ASt.set_set]
      exact retC_by (by repeat' (first | exact Drop.refl _ | with_reducible refine Drop.off ?_ (by assumption))) (.refl _) ⟨rfl, rfl⟩
    | false =>
      rw [if_neg (by simp), gone_av]
      refine a40 (by simp) ?_
      simp (disch := first | assumption | omega) only [go_sem]
      refine boxC_by rfl fun c hc => ?_
      simp (disch := first | assumption | omega) only [go_sem, Nat.reduceEqDiff, ↓reduceIte]
      refine boxC_by rfl fun d hd => ?_
      repeat (with_reducible replace hd := set_none hd; obtain ⟨_, _, hd⟩ := hd)
      simp (disch := first | assumption | omega) only [go_sem]
      refine allocC_by fun t ht => ?_
      repeat (with_reducible replace ht := set_none ht; obtain ⟨_, _, ht⟩ := ht)
      simp (disch := first | assumption | omega) only [go_sem, Nat.reduceEqDiff, Nat.reduceAdd, Nat.reduceLeDiff, ↓reduceIte, hb]
      refine hp.use ?_
      simp (disch := first | assumption | omega) only [go_sem, Nat.reduceEqDiff, ↓reduceIte]
      refine hg.use ?_
      simp (disch := first | assumption | omega) only [go_sem, Nat.reduceEqDiff, Nat.reduceAdd, Nat.reduceLeDiff, ↓reduceIte, Bool.true_and, ASt.set_set]
      exact retC_by (by repeat' (first | exact Drop.refl _ | with_reducible refine Drop.off ?_ (by assumption))) (.refl _) ⟨rfl, rfl⟩
  | false =>
    have ho : e.of a = a.row := by unfold Edt.of; rw [if_neg (by simp [hb])]
    have hs : e.set a i = ⟨i, a.col, a.absRow, a.absCol⟩ := by unfold Edt.set; rw [if_neg (by simp [hb])]
    rw [ho] at hp
    rw [hs]
    unfold Edt.av at hp ⊢
    cases ok with
    | true =>
      rw [if_pos rfl, hav]
      refine a40 (by simp) ?_
      simp (disch := first | assumption | omega) only [go_sem]
      refine boxC_by rfl fun c hc => ?_
      simp (disch := first | assumption | omega) only [go_sem, Nat.reduceEqDiff, ↓reduceIte]
      refine boxC_by rfl fun d hd => ?_
      repeat (with_reducible replace hd := set_none hd; obtain ⟨_, _, hd⟩ := hd)
      simp (disch := first | assumption | omega) only [go_sem]
      refine allocC_by fun t ht => ?_
      repeat (with_reducible replace ht := set_none ht; obtain ⟨_, _, ht⟩ := ht)
      have hdt : d ≠ t := by assumption
      have hsw : ∀ (ρ : ASt) (X Y Z : Option Role), ((ρ.set d X).set t Y).set d Z = (ρ.set d Z).set t Y := fun _ _ _ _ => set_mid hdt
      simp (disch := first | assumption | omega) only [go_sem, Nat.reduceEqDiff, Nat.reduceLeDiff, ↓reduceIte, hb]
      refine hp.use ?_
      simp (disch := first | assumption | omega) only [go_sem, Nat.reduceEqDiff, Nat.reduceAdd, Nat.reduceLeDiff, ↓reduceIte, Bool.true_and, hsw, ASt.set_set]
      exact retC_by (by repeat' (first | exact Drop.refl _ | with_reducible refine Drop.off ?_ (by assumption))) (.refl _) ⟨rfl, rfl⟩
    | false =>
      rw [if_neg (by simp), gone_av]
      refine a40 (by simp) ?_
      simp (disch := first | assumption | omega) only [go_sem]
      refine boxC_by rfl fun c hc => ?_
      simp (disch := first | assumption | omega) only [go_sem, Nat.reduceEqDiff, ↓reduceIte]
      refine boxC_by rfl fun d hd => ?_
      repeat (with_reducible replace hd := set_none hd; obtain ⟨_, _, hd⟩ := hd)
      simp (disch := first | assumption | omega) only [go_sem]
      refine allocC_by fun t ht => ?_
      repeat (with_reducible replace ht := set_none ht; obtain ⟨_, _, ht⟩ := ht)
      simp (disch := first | assumption | omega) only [go_sem, Nat.reduceEqDiff, Nat.reduceLeDiff, ↓reduceIte, hb]
      refine hp.use ?_
      simp (disch := first | assumption | omega) only [go_sem, Nat.reduceEqDiff, ↓reduceIte]
      refine hg.use ?_
      simp (disch := first | assumption | omega) only [go_sem, Nat.reduceEqDiff, Nat.reduceAdd, Nat.reduceLeDiff, ↓reduceIte, Bool.true_and, ASt.set_set]
      exact retC_by (by repeat' (first | exact Drop.refl _ | with_reducible refine Drop.off ?_ (by assumption))) (.refl _) ⟨rfl, rfl⟩
theorem sharea_ok (e : Edt) (he : e.fit) (op n : Int) (s : List UInt8) (a b : Ref) (ks : List Nd) (ha : a.good = true) (hb' : b.good = true) :
    Pure Tryz.prog 41 [e.av, (Nd.mk op n s a b ks).av] (e.area (.mk op n s a b ks)).av := by
  intro σ
  have hg : Pure Tryz.prog 35 [] (.agg [.int .i64 4, .int .i64 40000, .str [], .int .i64 0, .int .i64 0, .bool false, .bool false, .int .i64 0, .int .i64 0, .bool false, .bool false, .sl .shr []]) := by
    have := shgone_ok
    rw [Nd.av_cs] at this
    exact this
  have h0 := of_rng (e := e) ha
  have h1 := of_rng (e := e) hb'
  have hp := shspan_ok e he (min (e.of a) (e.of b)) (max (e.of a) (e.of b)) (by omega) (by omega) (by omega)
  obtain ⟨⟨i, j, ok⟩, hq⟩ : ∃ q, e.span (min (e.of a) (e.of b)) (max (e.of a) (e.of b)) = q := ⟨_, rfl⟩
  rw [Edt.area, hq]
  rw [hq] at hp
  dsimp only at hp ⊢
  have hav : ∀ r u : Ref, (Nd.mk op n s r u ks).av = .agg [.int .i64 op, .int .i64 n, .str s, .int .i64 r.row, .int .i64 r.col, .bool r.absRow, .bool r.absCol, .int .i64 u.row, .int .i64 u.col, .bool u.absRow, .bool u.absCol, .sl .shr (ks.map Nd.av)] := fun r u => Nd.av_cs ..
  cases hb : e.cols with
  | true =>
    have ho : ∀ r : Ref, e.of r = r.col := fun r => by unfold Edt.of; rw [if_pos hb]
    have hs : ∀ (r : Ref) (k : Int), e.set r k = ⟨r.row, k, r.absRow, r.absCol⟩ := fun r k => by unfold Edt.set; rw [if_pos hb]
    rw [ho, ho] at hp ⊢
    unfold Edt.av at hp ⊢
    cases ok with
    | true =>
      rw [if_pos rfl]
      by_cases hlt : b.col < a.col
      · rw [if_pos hlt, hs, hs, hav, hav]
        generalize ks.map Nd.av = L at *
        refine a41 (by simp) ?_
        simp (disch := first | assumption | omega) only [go_sem]
        refine boxC_by rfl fun c hc => ?_
        simp (disch := first | assumption | omega) only [go_sem, Nat.reduceEqDiff, ↓reduceIte]
        refine boxC_by rfl fun d hd => ?_
        repeat (with_reducible replace hd := set_none hd; obtain ⟨_, _, hd⟩ := hd)
        simp (disch := first | assumption | omega) only [go_sem]
        refine allocC_by fun t ht => ?_
        repeat (with_reducible replace ht := set_none ht; obtain ⟨_, _, ht⟩ := ht)
        have hdt : d ≠ t := by assumption
        have hsw : ∀ (ρ : ASt) (X Y Z : Option Role), ((ρ.set d X).set t Y).set d Z = (ρ.set d Z).set t Y := fun _ _ _ _ => set_mid hdt
        simp (disch := first | assumption | omega) only [go_sem, Nat.reduceEqDiff, Nat.reduceAdd, Nat.reduceLeDiff, ↓reduceIte, hb, hlt]
        refine hp.use ?_
        simp (disch := first | assumption | omega) only [go_sem, Nat.reduceEqDiff, Nat.reduceAdd, Nat.reduceLeDiff, ↓reduceIte, Bool.true_and, hsw, ASt.set_set]
        exact retC_by (by repeat' (first | exact Drop.refl _ | with_reducible refine Drop.off ?_ (by assumption))) (.refl _) ⟨rfl, rfl⟩
      · rw [if_neg hlt, hs, hs, hav, hav]
        generalize ks.map Nd.av = L at *
        refine a41 (by simp) ?_
        simp (disch := first | assumption | omega) only [go_sem]
        refine boxC_by rfl fun c hc => ?_
        simp (disch := first | assumption | omega) only [go_sem, Nat.reduceEqDiff, ↓reduceIte]
        refine boxC_by rfl fun d hd => ?_
        repeat (with_reducible replace hd := set_none hd; obtain ⟨_, _, hd⟩ := hd)
        simp (disch := first | assumption | omega) only [go_sem]
        refine allocC_by fun t ht => ?_
        repeat (with_reducible replace ht := set_none ht; obtain ⟨_, _, ht⟩ := ht)
        have hdt : d ≠ t := by assumption
        have hsw : ∀ (ρ : ASt) (X Y Z : Option Role), ((ρ.set d X).set t Y).set d Z = (ρ.set d Z).set t Y := fun _ _ _ _ => set_mid hdt
        simp (disch := first | assumption | omega) only [go_sem, Nat.reduceEqDiff, Nat.reduceAdd, Nat.reduceLeDiff, ↓reduceIte, hb, hlt]
        refine hp.use ?_
        simp (disch := first | assumption | omega) only [go_sem, Nat.reduceEqDiff, Nat.reduceAdd, Nat.reduceLeDiff, ↓reduceIte, Bool.true_and, hsw, ASt.set_set]
        exact retC_by (by repeat' (first | exact Drop.refl _ | with_reducible refine Drop.off ?_ (by assumption))) (.refl _) ⟨rfl, rfl⟩
    | false =>
      rw [if_neg (by simp), hav, gone_av]
      generalize ks.map Nd.av = L at *
      refine a41 (by simp) ?_
      simp (disch := first | assumption | omega) only [go_sem]
      refine boxC_by rfl fun c hc => ?_
      simp (disch := first | assumption | omega) only [go_sem, Nat.reduceEqDiff, ↓reduceIte]
      refine boxC_by rfl fun d hd => ?_
      repeat (with_reducible replace hd := set_none hd; obtain ⟨_, _, hd⟩ := hd)
      simp (disch := first | assumption | omega) only [go_sem]
      refine allocC_by fun t ht => ?_
      repeat (with_reducible replace ht := set_none ht; obtain ⟨_, _, ht⟩ := ht)
      simp (disch := first | assumption | omega) only [go_sem, Nat.reduceEqDiff, Nat.reduceAdd, Nat.reduceLeDiff, ↓reduceIte, hb]
      refine hp.use ?_
      simp (disch := first | assumption | omega) only [go_sem, Nat.reduceEqDiff, ↓reduceIte]
      refine hg.use ?_
      simp (disch := first | assumption | omega) only [go_sem, Nat.reduceEqDiff, Nat.reduceAdd, Nat.reduceLeDiff, ↓reduceIte, Bool.true_and, ASt.set_set]
      exact retC_by (by repeat' (first | exact Drop.refl _ | with_reducible refine Drop.off ?_ (by assumption))) (.refl _) ⟨rfl, rfl⟩
  | false =>
    have ho : ∀ r : Ref, e.of r = r.row := fun r => by unfold Edt.of; rw [if_neg (by simp [hb])]
    have hs : ∀ (r : Ref) (k : Int), e.set r k = ⟨k, r.col, r.absRow, r.absCol⟩ := fun r k => by unfold Edt.set; rw [if_neg (by simp [hb])]
    rw [ho, ho] at hp ⊢
    unfold Edt.av at hp ⊢
    cases ok with
    | true =>
      rw [if_pos rfl]
      by_cases hlt : b.row < a.row
      · rw [if_pos hlt, hs, hs, hav, hav]
        generalize ks.map Nd.av = L at *
        refine a41 (by simp) ?_
        simp (disch := first | assumption | omega) only [go_sem]
        refine boxC_by rfl fun c hc => ?_
        simp (disch := first | assumption | omega) only [go_sem, Nat.reduceEqDiff, ↓reduceIte]
        refine boxC_by rfl fun d hd => ?_
        repeat (with_reducible replace hd := set_none hd; obtain ⟨_, _, hd⟩ := hd)
        simp (disch := first | assumption | omega) only [go_sem]
        refine allocC_by fun t ht => ?_
        repeat (with_reducible replace ht := set_none ht; obtain ⟨_, _, ht⟩ := ht)
        have hdt : d ≠ t := by assumption
        have hsw : ∀ (ρ : ASt) (X Y Z : Option Role), ((ρ.set d X).set t Y).set d Z = (ρ.set d Z).set t Y := fun _ _ _ _ => set_mid hdt
        simp (disch := first | assumption | omega) only [go_sem, Nat.reduceEqDiff, Nat.reduceLeDiff, ↓reduceIte, hb, hlt]
        refine hp.use ?_
        simp (disch := first | assumption | omega) only [go_sem, Nat.reduceEqDiff, Nat.reduceAdd, Nat.reduceLeDiff, ↓reduceIte, Bool.true_and, hsw, ASt.set_set]
        exact retC_by (by repeat' (first | exact Drop.refl _ | with_reducible refine Drop.off ?_ (by assumption))) (.refl _) ⟨rfl, rfl⟩
      · rw [if_neg hlt, hs, hs, hav, hav]
        generalize ks.map Nd.av = L at *
        refine a41 (by simp) ?_
        simp (disch := first | assumption | omega) only [go_sem]
        refine boxC_by rfl fun c hc => ?_
        simp (disch := first | assumption | omega) only [go_sem, Nat.reduceEqDiff, ↓reduceIte]
        refine boxC_by rfl fun d hd => ?_
        repeat (with_reducible replace hd := set_none hd; obtain ⟨_, _, hd⟩ := hd)
        simp (disch := first | assumption | omega) only [go_sem]
        refine allocC_by fun t ht => ?_
        repeat (with_reducible replace ht := set_none ht; obtain ⟨_, _, ht⟩ := ht)
        have hdt : d ≠ t := by assumption
        have hsw : ∀ (ρ : ASt) (X Y Z : Option Role), ((ρ.set d X).set t Y).set d Z = (ρ.set d Z).set t Y := fun _ _ _ _ => set_mid hdt
        simp (disch := first | assumption | omega) only [go_sem, Nat.reduceEqDiff, Nat.reduceLeDiff, ↓reduceIte, hb, hlt]
        refine hp.use ?_
        simp (disch := first | assumption | omega) only [go_sem, Nat.reduceEqDiff, Nat.reduceAdd, Nat.reduceLeDiff, ↓reduceIte, Bool.true_and, hsw, ASt.set_set]
        exact retC_by (by repeat' (first | exact Drop.refl _ | with_reducible refine Drop.off ?_ (by assumption))) (.refl _) ⟨rfl, rfl⟩
    | false =>
      rw [if_neg (by simp), hav, gone_av]
      generalize ks.map Nd.av = L at *
      refine a41 (by simp) ?_
      simp (disch := first | assumption | omega) only [go_sem]
      refine boxC_by rfl fun c hc => ?_
      simp (disch := first | assumption | omega) only [go_sem, Nat.reduceEqDiff, ↓reduceIte]
      refine boxC_by rfl fun d hd => ?_
      repeat (with_reducible replace hd := set_none hd; obtain ⟨_, _, hd⟩ := hd)
      simp (disch := first | assumption | omega) only [go_sem]
      refine allocC_by fun t ht => ?_
      repeat (with_reducible replace ht := set_none ht; obtain ⟨_, _, ht⟩ := ht)
      simp (disch := first | assumption | omega) only [go_sem, Nat.reduceEqDiff, Nat.reduceLeDiff, ↓reduceIte, hb]
      refine hp.use ?_
      simp (disch := first | assumption | omega) only [go_sem, Nat.reduceEqDiff, ↓reduceIte]
      refine hg.use ?_
      simp (disch := first | assumption | omega) only [go_sem, Nat.reduceEqDiff, Nat.reduceAdd, Nat.reduceLeDiff, ↓reduceIte, Bool.true_and, ASt.set_set]
      exact retC_by (by repeat' (first | exact Drop.refl _ | with_reducible refine Drop.off ?_ (by assumption))) (.refl _) ⟨rfl, rfl⟩
theorem ok_kids : ∀ (op m : Int) (s : List UInt8) (a b : Ref) (ks : List Nd), (Nd.mk op m s a b ks).ok → ∀ x ∈ ks, x.ok := fun op m s a b ks h => by
  rw [Nd.ok] at h
  exact Nd.oks_mem.1 h.2
theorem ok_refs {op m : Int} {s : List UInt8} {a b : Ref} {ks : List Nd} (h : (Nd.mk op m s a b ks).ok) : (op = 5 ∨ op = 6 → a.good = true) ∧ (op = 6 → b.good = true) := by
  rw [Nd.ok] at h
  exact ⟨h.1.2.2.2.2.2.1, h.1.2.2.2.2.2.2.1⟩
def EdtAt (e : Edt) (c : Nat) (σ : ASt) : Prop := σ c = some (.obj e.cs)
theorem shTree1_ok (e : Edt) (he : e.fit) (c : Nat) (x : Nd) (hx : x.ok) (ho : x.op = 5 ∨ x.op = 6) (σ : ASt) (hσ : EdtAt e c σ) :
    ACalls Tryz.prog 39 [x.av, .ptr c 0] σ fun v σ' => v = (e.node x).av ∧ σ' = σ := by
  obtain ⟨op, n, s, a, b, ks⟩ := x
  have hr := ok_refs hx
  unfold EdtAt at hσ
  change op = 5 ∨ op = 6 at ho
  have hc1 : op = 5 → Pure Tryz.prog 40 [e.av, (Nd.mk op n s a b ks).av] (e.cell (.mk op n s a b ks)).av := fun h => shcell_ok e he op n s a b ks (hr.1 ho)
  have hc2 : op ≠ 5 → Pure Tryz.prog 41 [e.av, (Nd.mk op n s a b ks).av] (e.area (.mk op n s a b ks)).av := fun h => sharea_ok e he op n s a b ks (hr.1 ho) (hr.2 (by omega))
  have hnode : e.node (.mk op n s a b ks) = if op = 5 then e.cell (.mk op n s a b ks) else e.area (.mk op n s a b ks) := rfl
  rw [hnode]
  have hav : (Nd.mk op n s a b ks).av = .agg [.int .i64 op, .int .i64 n, .str s, .int .i64 a.row, .int .i64 a.col, .bool a.absRow, .bool a.absCol, .int .i64 b.row, .int .i64 b.col, .bool b.absRow, .bool b.absCol, .sl .shr (ks.map Nd.av)] := Nd.av_cs ..
  rw [hav] at hc1 hc2 ⊢
  unfold Edt.av at hc1 hc2
  generalize ks.map Nd.av = L at *
  by_cases h5 : op = 5
  · have h := hc1 h5
    rw [if_pos h5]
    subst h5
    obtain ⟨⟨wo, wm, ws, wa, wb, wk⟩, hw⟩ : ∃ w, e.cell (.mk 5 n s a b ks) = w := ⟨_, rfl⟩
    rw [hw, Nd.av_cs] at h
    rw [hw, Nd.av_cs]
    unfold Nd.cs at h ⊢
    generalize wk.map Nd.av = WL at *
    refine a39 (by simp) ?_
    simp (disch := first | assumption | omega) only [go_sem]
    refine boxC_by rfl fun d hd => ?_
    have hcd : c ≠ d := by rintro rfl; rw [hd] at hσ; cases hσ
    simp (disch := first | assumption | omega) only [go_sem]
    refine allocC_by fun t ht => ?_
    have hct : c ≠ t := by rintro rfl; rw [ASt.set_ne hcd, hσ] at ht; cases ht
    repeat (with_reducible replace ht := set_none ht; obtain ⟨_, _, ht⟩ := ht)
    simp (disch := first | assumption | omega) only [go_sem, Nat.reduceEqDiff, Nat.reduceAdd, Nat.reduceLeDiff, ↓reduceIte, hσ]
    refine h.use ?_
    simp (disch := first | assumption | omega) only [go_sem, Nat.reduceEqDiff, Nat.reduceAdd, Nat.reduceLeDiff, ↓reduceIte, Bool.true_and, ASt.set_set]
    exact retC_by (by repeat' (first | exact Drop.refl _ | with_reducible refine Drop.off ?_ (by assumption))) (.refl _) ⟨rfl, rfl⟩
  · have h := hc2 h5
    rw [if_neg h5]
    obtain ⟨⟨wo, wm, ws, wa, wb, wk⟩, hw⟩ : ∃ w, e.area (.mk op n s a b ks) = w := ⟨_, rfl⟩
    rw [hw, Nd.av_cs] at h
    rw [hw, Nd.av_cs]
    unfold Nd.cs at h ⊢
    generalize wk.map Nd.av = WL at *
    refine a39 (by simp) ?_
    simp (disch := first | assumption | omega) only [go_sem]
    refine boxC_by rfl fun d hd => ?_
    have hcd : c ≠ d := by rintro rfl; rw [hd] at hσ; cases hσ
    simp (disch := first | assumption | omega) only [go_sem]
    refine allocC_by fun t ht => ?_
    have hct : c ≠ t := by rintro rfl; rw [ASt.set_ne hcd, hσ] at ht; cases ht
    repeat (with_reducible replace ht := set_none ht; obtain ⟨_, _, ht⟩ := ht)
    simp (disch := first | assumption | omega) only [go_sem, Nat.reduceEqDiff, Nat.reduceAdd, Nat.reduceLeDiff, ↓reduceIte, h5, hσ]
    refine h.use ?_
    simp (disch := first | assumption | omega) only [go_sem, Nat.reduceEqDiff, Nat.reduceAdd, Nat.reduceLeDiff, ↓reduceIte, Bool.true_and, ASt.set_set]
    exact retC_by (by repeat' (first | exact Drop.refl _ | with_reducible refine Drop.off ?_ (by assumption))) (.refl _) ⟨rfl, rfl⟩
theorem tree_map (e : Edt) (he : e.fit) (c : Nat) : MapG Nd.ok (.func (.func 39) [] [.ptr c 0]) e.node (EdtAt e c) := by
  refine ⟨39, [.ptr c 0], rfl, by kernel_rfl, fun σ b r hσ hb => ?_, fun x σ hσ hx ho => shTree1_ok e he c x hx ho σ hσ⟩
  unfold EdtAt at *
  rw [ASt.set_ne]
  · exact hσ
  · rintro rfl; rw [hb] at hσ; cases hσ
theorem shtree_ok (e : Edt) (he : e.fit) (n : Nd) (hn : n.ok) (hs : n.size ≤ 1000000000) : Pure Tryz.prog 17 [e.av, n.av] (e.tree n).av := by
  intro σ
  have hM := fun c => mapg_le _ e.node (EdtAt e c) Nd.ok ok_kids (tree_map e he c) n.size n (Nat.le_refl _) hs hn
  unfold Edt.tree
  obtain ⟨⟨wo, wm, ws, wa, wb, wk⟩, hw⟩ : ∃ w, Nd.map e.node n = w := ⟨_, rfl⟩
  rw [hw, Nd.av_cs]
  simp only [hw, Nd.av_cs] at hM
  obtain ⟨op, m, s, a, b, ks⟩ := n
  have hav : (Nd.mk op m s a b ks).av = .agg [.int .i64 op, .int .i64 m, .str s, .int .i64 a.row, .int .i64 a.col, .bool a.absRow, .bool a.absCol, .int .i64 b.row, .int .i64 b.col, .bool b.absRow, .bool b.absCol, .sl .shr (ks.map Nd.av)] := Nd.av_cs ..
  simp only [hav] at hM
  rw [hav]
  unfold Nd.cs at hM ⊢
  unfold Edt.av
  generalize ks.map Nd.av = L at *
  generalize wk.map Nd.av = WL at *
  refine a17 (by simp) ?_
  simp (disch := first | assumption | omega) only [go_sem]
  refine boxC_by rfl fun c hc => ?_
  simp (disch := first | assumption | omega) only [go_sem, Nat.reduceEqDiff, ↓reduceIte]
  refine boxC_by rfl fun d hd => ?_
  have hcd : c ≠ d := by rintro rfl; rw [ASt.set_same] at hd; cases hd
  have hdc := hcd.symm
  have hd0 := hd
  rw [ASt.set_ne hdc] at hd0
  simp (disch := first | assumption | omega) only [go_sem]
  refine allocC_by fun t ht => ?_
  have hct : c ≠ t := by rintro rfl; rw [ASt.set_ne hcd, ASt.set_same] at ht; cases ht
  repeat (with_reducible replace ht := set_none ht; obtain ⟨_, _, ht⟩ := ht)
  simp (disch := first | assumption | omega) only [go_sem, Nat.reduceEqDiff, Nat.reduceAdd, Nat.reduceLeDiff, ↓reduceIte]
  refine (hM c _ ?_).mono ?_
  · unfold EdtAt
    rw [ASt.set_ne hct, ASt.set_ne hcd, ASt.set_same]
  rintro v σ' ⟨rfl, rfl⟩
  simp (disch := first | assumption | omega) only [go_sem, Nat.reduceEqDiff, Nat.reduceAdd, Nat.reduceLeDiff, ↓reduceIte, Bool.true_and, ASt.set_set]
  exact retC_by (by repeat' (first | exact Drop.refl _ | with_reducible refine Drop.off ?_ (by assumption))) (.refl _) ⟨rfl, rfl⟩
end Go.A
namespace Go.A
open Go.Proofs
/-! 13: tabular/shift.Copy -/
def c13_0 : ACode := .ops [
 ⟨some 3, none, .e (.box (.t 0)), []⟩,
 ⟨some 4, none, .e (.box (.t 1)), []⟩,
 ⟨some 5, none, .e (.box (.t 2)), []⟩,
 ⟨some 6, none, .e (.alloc [(.int .i64 0), (.int .i64 0), (.str []), (.int .i64 0), (.int .i64 0), (.bool false), (.bool false), (.int .i64 0), (.int .i64 0), (.bool false), (.bool false), (.sl .full [])]), []⟩]
def c13_1 : ACode := .ops [
 ⟨some 7, none, .q (.ld (some 12) (.t 3)), []⟩,
 ⟨some 8, none, .q (.mkf (.func 33) [] [(.t 4), (.t 5)]), []⟩,
 ⟨some 9, none, .e (.call 32 [(.t 7), (.t 8)]), []⟩,
 ⟨none, none, .e (.store 12 (.t 6) (.t 9)), []⟩]
def c13_2 : ACode := .seq c13_1 .ret
def c13_3 : ACode := .seq c13_0 c13_2
@[go_sem] def c13_0_wp := wp_of c13_0.eq_1
@[go_sem] def c13_1_wp := wp_of c13_1.eq_1
@[go_sem] def c13_2_wp := wp_of c13_2.eq_1
@[go_sem] def c13_3_wp := wp_of c13_3.eq_1
def c13 : AFn := ⟨10, [.c 6 (some 12)], c13_3⟩
theorem c13_ok : compF Tryz.prog Tryz.f13 = some c13 := by kernel_rfl
theorem a13 {args : List AV} {σ : ASt} {R : AV → ASt → Prop} (hl : args.length ≤ 10) (h : c13_3.wp Tryz.prog (RetQ [.c 6 (some 12)] R) (init args) σ) : ACalls Tryz.prog 13 args σ R := acalls_of Tryz.func13 c13_ok hl h
/-! 33: tabular/shift.Copy$1 -/
def c33_0 : ACode := .ops [
 ⟨some 3, none, .e (.box (.t 0)), []⟩,
 ⟨some 4, none, .e (.alloc [(.int .i64 0), (.int .i64 0), (.str []), (.int .i64 0), (.int .i64 0), (.bool false), (.bool false), (.int .i64 0), (.int .i64 0), (.bool false), (.bool false), (.sl .full [])]), []⟩]
def c33_1 : ACode := .ops [
 ⟨some 10, none, .q (.fa 3 (.t 3)), []⟩,
 ⟨some 11, none, .q (.ld (some 4) (.t 10)), []⟩,
 ⟨some 12, none, .q (.ld none (.t 1)), []⟩,
 ⟨some 13, none, .q (.ld none (.t 2)), []⟩,
 ⟨some 14, none, .e (.call 34 [(.t 11), (.t 12), (.t 13)]), []⟩,
 ⟨some 9, none, .q (.mv (.t 14)), []⟩,
 ⟨some 15, none, .q (.ext 0 (.t 9)), []⟩,
 ⟨some 16, none, .q (.ext 1 (.t 9)), []⟩,
 ⟨some 5, none, .e (.alloc [(.int .i64 0), (.int .i64 0), (.bool false), (.bool false)]), []⟩,
 ⟨none, none, .e (.store 4 (.t 5) (.t 15)), []⟩,
 ⟨some 6, none, .q (.mv (.t 16)), []⟩]
def c33_2 : ACode := .ops [
 ⟨some 17, none, .q (.fa 0 (.t 3)), []⟩,
 ⟨some 18, none, .q (.ld none (.t 17)), []⟩,
 ⟨some 19, none, .q (.bin .eql (.t 18) (.v (.int .i64 5))), []⟩]
def c33_3 : ACode := .ops [
 ⟨some 20, none, .q (.mv (.t 6)), []⟩,
 ⟨some 21, none, .q (.un .not (.t 20)), []⟩]
def c33_4 : ACode := .ops [
 ⟨some 22, none, .e (.call 35 []), []⟩,
 ⟨none, none, .e (.store 12 (.t 4) (.t 22)), []⟩]
def c33_5 : ACode := .seq c33_4 .ret
def c33_6 : ACode := .cond (.t 21) c33_5 .skip
def c33_7 : ACode := .seq c33_3 c33_6
def c33_8 : ACode := .ops [
 ⟨some 23, none, .q (.ld (some 4) (.t 5)), []⟩,
 ⟨some 24, none, .q (.fa 3 (.t 3)), []⟩,
 ⟨none, none, .e (.store 4 (.t 24) (.t 23)), []⟩]
def c33_9 : ACode := .ops [
 ⟨some 25, none, .q (.ld (some 12) (.t 3)), []⟩,
 ⟨none, none, .e (.store 12 (.t 4) (.t 25)), []⟩]
def c33_10 : ACode := .seq c33_9 .ret
def c33_11 : ACode := .seq c33_8 c33_10
def c33_12 : ACode := .seq c33_7 c33_11
def c33_13 : ACode := .cond (.t 19) c33_12 .skip
def c33_14 : ACode := .seq c33_2 c33_13
def c33_15 : ACode := .ops [
 ⟨some 27, none, .q (.fa 7 (.t 3)), []⟩,
 ⟨some 28, none, .q (.ld (some 4) (.t 27)), []⟩,
 ⟨some 29, none, .q (.ld none (.t 1)), []⟩,
 ⟨some 30, none, .q (.ld none (.t 2)), []⟩,
 ⟨some 31, none, .e (.call 34 [(.t 28), (.t 29), (.t 30)]), []⟩,
 ⟨some 26, none, .q (.mv (.t 31)), []⟩,
 ⟨some 32, none, .q (.ext 0 (.t 26)), []⟩,
 ⟨some 33, none, .q (.ext 1 (.t 26)), []⟩,
 ⟨some 7, none, .e (.alloc [(.int .i64 0), (.int .i64 0), (.bool false), (.bool false)]), []⟩,
 ⟨none, none, .e (.store 4 (.t 7) (.t 32)), []⟩,
 ⟨some 8, none, .q (.mv (.t 33)), []⟩]
def c33_16 : ACode := .ops [
 ⟨some 34, none, .q (.mv (.t 6)), []⟩,
 ⟨some 35, none, .q (.un .not (.t 34)), []⟩,
 ⟨some 36, none, .q (.mv (.t 35)), []⟩,
 ⟨some 37, some (36, false), .q (.mv (.t 8)), []⟩,
 ⟨some 38, some (36, false), .q (.un .not (.t 37)), []⟩,
 ⟨some 39, none, .q (.pick (.t 36) (.v (.bool true)) (.t 38)), []⟩]
def c33_17 : ACode := .ops [
 ⟨some 40, none, .e (.call 35 []), []⟩,
 ⟨none, none, .e (.store 12 (.t 4) (.t 40)), []⟩]
def c33_18 : ACode := .seq c33_17 .ret
def c33_19 : ACode := .cond (.t 39) c33_18 .skip
def c33_20 : ACode := .seq c33_16 c33_19
def c33_21 : ACode := .ops [
 ⟨some 41, none, .q (.ld (some 4) (.t 5)), []⟩,
 ⟨some 42, none, .q (.ld (some 4) (.t 7)), []⟩,
 ⟨some 43, none, .q (.fa 3 (.t 3)), []⟩,
 ⟨none, none, .e (.store 4 (.t 43) (.t 41)), [⟨none, .ld (some 4) (.t 7), 42⟩]⟩,
 ⟨some 44, none, .q (.fa 7 (.t 3)), []⟩,
 ⟨none, none, .e (.store 4 (.t 44) (.t 42)), []⟩]
def c33_22 : ACode := .ops [
 ⟨some 45, none, .q (.ld (some 12) (.t 3)), []⟩,
 ⟨none, none, .e (.store 12 (.t 4) (.t 45)), []⟩]
def c33_23 : ACode := .seq c33_22 .ret
def c33_24 : ACode := .seq c33_21 c33_23
def c33_25 : ACode := .seq c33_20 c33_24
def c33_26 : ACode := .seq c33_15 c33_25
def c33_27 : ACode := .seq c33_14 c33_26
def c33_28 : ACode := .seq c33_1 c33_27
def c33_29 : ACode := .seq c33_0 c33_28
@[go_sem] def c33_0_wp := wp_of c33_0.eq_1
@[go_sem] def c33_1_wp := wp_of c33_1.eq_1
@[go_sem] def c33_2_wp := wp_of c33_2.eq_1
@[go_sem] def c33_3_wp := wp_of c33_3.eq_1
@[go_sem] def c33_4_wp := wp_of c33_4.eq_1
@[go_sem] def c33_5_wp := wp_of c33_5.eq_1
@[go_sem] def c33_6_wp := wp_of c33_6.eq_1
@[go_sem] def c33_7_wp := wp_of c33_7.eq_1
@[go_sem] def c33_8_wp := wp_of c33_8.eq_1
@[go_sem] def c33_9_wp := wp_of c33_9.eq_1
@[go_sem] def c33_10_wp := wp_of c33_10.eq_1
@[go_sem] def c33_11_wp := wp_of c33_11.eq_1
@[go_sem] def c33_12_wp := wp_of c33_12.eq_1
@[go_sem] def c33_13_wp := wp_of c33_13.eq_1
@[go_sem] def c33_14_wp := wp_of c33_14.eq_1
@[go_sem] def c33_15_wp := wp_of c33_15.eq_1
@[go_sem] def c33_16_wp := wp_of c33_16.eq_1
@[go_sem] def c33_17_wp := wp_of c33_17.eq_1
@[go_sem] def c33_18_wp := wp_of c33_18.eq_1
@[go_sem] def c33_19_wp := wp_of c33_19.eq_1
@[go_sem] def c33_20_wp := wp_of c33_20.eq_1
@[go_sem] def c33_21_wp := wp_of c33_21.eq_1
@[go_sem] def c33_22_wp := wp_of c33_22.eq_1
@[go_sem] def c33_23_wp := wp_of c33_23.eq_1
@[go_sem] def c33_24_wp := wp_of c33_24.eq_1
@[go_sem] def c33_25_wp := wp_of c33_25.eq_1
@[go_sem] def c33_26_wp := wp_of c33_26.eq_1
@[go_sem] def c33_27_wp := wp_of c33_27.eq_1
@[go_sem] def c33_28_wp := wp_of c33_28.eq_1
@[go_sem] def c33_29_wp := wp_of c33_29.eq_1
def c33 : AFn := ⟨46, [.c 4 (some 12)], c33_29⟩
theorem c33_ok : compF Tryz.prog Tryz.f33 = some c33 := by kernel_rfl
theorem a33 {args : List AV} {σ : ASt} {R : AV → ASt → Prop} (hl : args.length ≤ 46) (h : c33_29.wp Tryz.prog (RetQ [.c 4 (some 12)] R) (init args) σ) : ACalls Tryz.prog 33 args σ R := acalls_of Tryz.func33 c33_ok hl h
end Go.A
namespace Go.A
open Go.Proofs Go.Lib
def copyN (rows cols : Int) : Nd → Nd
  | .mk op n s a b ks =>
    if op = 5 then if (movedP a rows cols).2 = true then .mk op n s (movedP a rows cols).1 b ks else goneN
    else if (movedP a rows cols).2 = true ∧ (movedP b rows cols).2 = true then .mk op n s (movedP a rows cols).1 (movedP b rows cols).1 ks else goneN
def Nd.copy (n : Nd) (rows cols : Int) : Nd := Nd.map (copyN rows cols) n
def CopAt (rows cols : Int) (c c2 : Nat) (σ : ASt) : Prop := σ c = some (.obj [.int .i64 rows]) ∧ σ c2 = some (.obj [.int .i64 cols])
theorem shCopy1_ok (rows cols : Int) (c c2 : Nat) (x : Nd) (hx : x.ok) (ho : x.op = 5 ∨ x.op = 6) (σ : ASt) (hσ : CopAt rows cols c c2 σ) :
    ACalls Tryz.prog 33 [x.av, .ptr c 0, .ptr c2 0] σ fun v σ' => v = (copyN rows cols x).av ∧ σ' = σ := by
  obtain ⟨op, n, s, a, b, ks⟩ := x
  have hr := ok_refs hx
  obtain ⟨hs1, hs2⟩ := hσ
  change op = 5 ∨ op = 6 at ho
  have hg : Pure Tryz.prog 35 [] (.agg [.int .i64 4, .int .i64 40000, .str [], .int .i64 0, .int .i64 0, .bool false, .bool false, .int .i64 0, .int .i64 0, .bool false, .bool false, .sl .shr []]) := by
    have := shgone_ok
    rw [Nd.av_cs] at this
    exact this
  have hga := gone_av
  have na := good_near (hr.1 ho)
  have hm := moved_ok a rows cols ⟨na.1, na.2.1⟩ ⟨na.2.2.1, na.2.2.2⟩
  have hm2 : op ≠ 5 → Pure Tryz.prog 34 [refAV b, .int .i64 rows, .int .i64 cols] (.tuple [refAV (movedP b rows cols).1, .bool (movedP b rows cols).2]) := fun h => by
    have nb := good_near (hr.2 (by omega))
    exact moved_ok b rows cols ⟨nb.1, nb.2.1⟩ ⟨nb.2.2.1, nb.2.2.2⟩
  have hav : ∀ r u : Ref, (Nd.mk op n s r u ks).av = .agg [.int .i64 op, .int .i64 n, .str s, .int .i64 r.row, .int .i64 r.col, .bool r.absRow, .bool r.absCol, .int .i64 u.row, .int .i64 u.col, .bool u.absRow, .bool u.absCol, .sl .shr (ks.map Nd.av)] := fun r u => Nd.av_cs ..
  rw [copyN, hav]
  obtain ⟨⟨a', ok⟩, hA⟩ : ∃ q, movedP a rows cols = q := ⟨_, rfl⟩
  obtain ⟨⟨b', ok2⟩, hB⟩ : ∃ q, movedP b rows cols = q := ⟨_, rfl⟩
  rw [hA] at hm ⊢
  rw [hB] at hm2 ⊢
  dsimp only at hm hm2 ⊢
  unfold refAV at hm hm2
  by_cases h5 : op = 5
  · rw [if_pos h5]
    cases ok with
    | true =>
      rw [if_pos rfl, hav]
      generalize ks.map Nd.av = L at *
      refine a33 (by simp) ?_
      simp (disch := first | assumption | omega) only [go_sem]
      refine boxC_by rfl fun d hd => ?_
      have hcd : c ≠ d := by rintro rfl; rw [hd] at hs1; cases hs1
      have hcd2 : c2 ≠ d := by rintro rfl; rw [hd] at hs2; cases hs2
      simp (disch := first | assumption | omega) only [go_sem]
      refine allocC_by fun t ht => ?_
      have hct : c ≠ t := by rintro rfl; rw [ASt.set_ne hcd, hs1] at ht; cases ht
      have hct2 : c2 ≠ t := by rintro rfl; rw [ASt.set_ne hcd2, hs2] at ht; cases ht
      repeat (with_reducible replace ht := set_none ht; obtain ⟨_, _, ht⟩ := ht)
      have hdt : d ≠ t := by assumption
      simp (disch := first | assumption | omega) only [go_sem, Nat.reduceEqDiff, Nat.reduceAdd, Nat.reduceLeDiff, ↓reduceIte, hs1, hs2]
      refine hm.use ?_
      simp (disch := first | assumption | omega) only [go_sem, Nat.reduceEqDiff, ↓reduceIte]
      refine allocC_by fun u hu => ?_
      repeat (with_reducible replace hu := set_none hu; obtain ⟨_, _, hu⟩ := hu)
      have hdu : d ≠ u := by assumption
      have htu : t ≠ u := by assumption
      have hsw : ∀ (ρ : ASt) (X Y Z W : Option Role), (((ρ.set d X).set t Y).set u Z).set d W = ((ρ.set d W).set t Y).set u Z := fun ρ X Y Z W => by rw [set_swap (Ne.symm hdu), set_mid hdt]
      have hsw2 : ∀ (ρ : ASt) (X Y Z : Option Role), ((ρ.set t X).set u Y).set t Z = (ρ.set t Z).set u Y := fun _ _ _ _ => set_mid htu
      simp (disch := first | assumption | omega) only [go_sem, Nat.reduceEqDiff, Nat.reduceAdd, Nat.reduceLeDiff, ↓reduceIte, Bool.true_and, h5, hsw, hsw2, ASt.set_set]
      exact retC_by (by repeat' (first | exact Drop.refl _ | with_reducible refine Drop.off ?_ (by assumption))) (.refl _) ⟨rfl, rfl⟩
    | false =>
      rw [if_neg (by simp), hga]
      generalize ks.map Nd.av = L at *
      refine a33 (by simp) ?_
      simp (disch := first | assumption | omega) only [go_sem]
      refine boxC_by rfl fun d hd => ?_
      have hcd : c ≠ d := by rintro rfl; rw [hd] at hs1; cases hs1
      have hcd2 : c2 ≠ d := by rintro rfl; rw [hd] at hs2; cases hs2
      simp (disch := first | assumption | omega) only [go_sem]
      refine allocC_by fun t ht => ?_
      have hct : c ≠ t := by rintro rfl; rw [ASt.set_ne hcd, hs1] at ht; cases ht
      have hct2 : c2 ≠ t := by rintro rfl; rw [ASt.set_ne hcd2, hs2] at ht; cases ht
      repeat (with_reducible replace ht := set_none ht; obtain ⟨_, _, ht⟩ := ht)
      simp (disch := first | assumption | omega) only [go_sem, Nat.reduceEqDiff, Nat.reduceAdd, Nat.reduceLeDiff, ↓reduceIte, hs1, hs2]
      refine hm.use ?_
      simp (disch := first | assumption | omega) only [go_sem, Nat.reduceEqDiff, ↓reduceIte]
      refine allocC_by fun u hu => ?_
      repeat (with_reducible replace hu := set_none hu; obtain ⟨_, _, hu⟩ := hu)
      have htu : t ≠ u := by assumption
      have hsw2 : ∀ (ρ : ASt) (X Y Z : Option Role), ((ρ.set t X).set u Y).set t Z = (ρ.set t Z).set u Y := fun _ _ _ _ => set_mid htu
      simp (disch := first | assumption | omega) only [go_sem, Nat.reduceEqDiff, Nat.reduceAdd, Nat.reduceLeDiff, ↓reduceIte, Bool.true_and, h5, ASt.set_set]
      refine hg.use ?_
      simp (disch := first | assumption | omega) only [go_sem, Nat.reduceEqDiff, Nat.reduceAdd, Nat.reduceLeDiff, ↓reduceIte, Bool.true_and, hsw2]
      exact retC_by (by repeat' (first | exact Drop.refl _ | with_reducible refine Drop.off ?_ (by assumption))) (.refl _) ⟨rfl, rfl⟩
  · rw [if_neg h5]
    have hm2 := hm2 h5
    cases ok with
    | true =>
      cases ok2 with
      | true =>
        rw [if_pos ⟨rfl, rfl⟩, hav]
        generalize ks.map Nd.av = L at *
        refine a33 (by simp) ?_
        simp (disch := first | assumption | omega) only [go_sem]
        refine boxC_by rfl fun d hd => ?_
        have hcd : c ≠ d := by rintro rfl; rw [hd] at hs1; cases hs1
        have hcd2 : c2 ≠ d := by rintro rfl; rw [hd] at hs2; cases hs2
        simp (disch := first | assumption | omega) only [go_sem]
        refine allocC_by fun t ht => ?_
        have hct : c ≠ t := by rintro rfl; rw [ASt.set_ne hcd, hs1] at ht; cases ht
        have hct2 : c2 ≠ t := by rintro rfl; rw [ASt.set_ne hcd2, hs2] at ht; cases ht
        have ht0 := ht
        repeat (with_reducible replace ht := set_none ht; obtain ⟨_, _, ht⟩ := ht)
        have hdt : d ≠ t := by assumption
        simp (disch := first | assumption | omega) only [go_sem, Nat.reduceEqDiff, Nat.reduceAdd, Nat.reduceLeDiff, ↓reduceIte, hs1, hs2]
        refine hm.use ?_
        simp (disch := first | assumption | omega) only [go_sem, Nat.reduceEqDiff, ↓reduceIte]
        refine allocC_by fun u hu => ?_
        have hcu : c ≠ u := by rintro rfl; rw [ASt.set_ne hct, ASt.set_ne hcd, hs1] at hu; cases hu
        have hcu2 : c2 ≠ u := by rintro rfl; rw [ASt.set_ne hct2, ASt.set_ne hcd2, hs2] at hu; cases hu
        repeat (with_reducible replace hu := set_none hu; obtain ⟨_, _, hu⟩ := hu)
        have hdu : d ≠ u := by assumption
        have htu : t ≠ u := by assumption
        simp (disch := first | assumption | omega) only [go_sem, Nat.reduceEqDiff, Nat.reduceAdd, Nat.reduceLeDiff, ↓reduceIte, Bool.true_and, h5, hs1, hs2]
        refine hm2.use ?_
        simp (disch := first | assumption | omega) only [go_sem, Nat.reduceEqDiff, ↓reduceIte]
        refine allocC_by fun w hw => ?_
        repeat (with_reducible replace hw := set_none hw; obtain ⟨_, _, hw⟩ := hw)
        have hdw : d ≠ w := by assumption
        have htw : t ≠ w := by assumption
        have huw : u ≠ w := by assumption
        have hsw : ∀ (ρ : ASt) (X Y Z V W : Option Role), ((((ρ.set d X).set t Y).set u Z).set w V).set d W = (((ρ.set d W).set t Y).set u Z).set w V := fun ρ X Y Z V W => by rw [set_swap (Ne.symm hdw), set_swap (Ne.symm hdu), set_mid hdt]
        have hsw2 : ∀ (ρ : ASt) (X Y Z V : Option Role), (((ρ.set t X).set u Y).set w Z).set t V = ((ρ.set t V).set u Y).set w Z := fun ρ X Y Z V => by rw [set_swap (Ne.symm htw), set_mid htu]
        have hsw3 : ∀ (ρ : ASt) (X Y Z : Option Role), ((ρ.set u X).set w Y).set u Z = (ρ.set u Z).set w Y := fun _ _ _ _ => set_mid huw
        simp (disch := first | assumption | omega) only [go_sem, Nat.reduceEqDiff, Nat.reduceAdd, Nat.reduceLeDiff, ↓reduceIte, Bool.true_and, hsw, hsw2, ASt.set_set]
        exact retC_by (by repeat' (first | exact Drop.refl _ | with_reducible refine Drop.off ?_ (by assumption))) (.refl _) ⟨rfl, rfl⟩
      | false =>
        rw [if_neg (by simp), hga]
        generalize ks.map Nd.av = L at *
        refine a33 (by simp) ?_
        simp (disch := first | assumption | omega) only [go_sem]
        refine boxC_by rfl fun d hd => ?_
        have hcd : c ≠ d := by rintro rfl; rw [hd] at hs1; cases hs1
        have hcd2 : c2 ≠ d := by rintro rfl; rw [hd] at hs2; cases hs2
        simp (disch := first | assumption | omega) only [go_sem]
        refine allocC_by fun t ht => ?_
        have hct : c ≠ t := by rintro rfl; rw [ASt.set_ne hcd, hs1] at ht; cases ht
        have hct2 : c2 ≠ t := by rintro rfl; rw [ASt.set_ne hcd2, hs2] at ht; cases ht
        repeat (with_reducible replace ht := set_none ht; obtain ⟨_, _, ht⟩ := ht)
        simp (disch := first | assumption | omega) only [go_sem, Nat.reduceEqDiff, Nat.reduceAdd, Nat.reduceLeDiff, ↓reduceIte, hs1, hs2]
        refine hm.use ?_
        simp (disch := first | assumption | omega) only [go_sem, Nat.reduceEqDiff, ↓reduceIte]
        refine allocC_by fun u hu => ?_
        have hcu : c ≠ u := by rintro rfl; rw [ASt.set_ne hct, ASt.set_ne hcd, hs1] at hu; cases hu
        have hcu2 : c2 ≠ u := by rintro rfl; rw [ASt.set_ne hct2, ASt.set_ne hcd2, hs2] at hu; cases hu
        repeat (with_reducible replace hu := set_none hu; obtain ⟨_, _, hu⟩ := hu)
        have htu : t ≠ u := by assumption
        simp (disch := first | assumption | omega) only [go_sem, Nat.reduceEqDiff, Nat.reduceAdd, Nat.reduceLeDiff, ↓reduceIte, Bool.true_and, h5, hs1, hs2]
        refine hm2.use ?_
        simp (disch := first | assumption | omega) only [go_sem, Nat.reduceEqDiff, ↓reduceIte]
        refine allocC_by fun w hw => ?_
        repeat (with_reducible replace hw := set_none hw; obtain ⟨_, _, hw⟩ := hw)
        have htw : t ≠ w := by assumption
        have huw : u ≠ w := by assumption
        have hsw2 : ∀ (ρ : ASt) (X Y Z V : Option Role), (((ρ.set t X).set u Y).set w Z).set t V = ((ρ.set t V).set u Y).set w Z := fun ρ X Y Z V => by rw [set_swap (Ne.symm htw), set_mid htu]
        simp (disch := first | assumption | omega) only [go_sem, Nat.reduceEqDiff, Nat.reduceAdd, Nat.reduceLeDiff, ↓reduceIte, Bool.true_and, ASt.set_set]
        refine hg.use ?_
        simp (disch := first | assumption | omega) only [go_sem, Nat.reduceEqDiff, Nat.reduceAdd, Nat.reduceLeDiff, ↓reduceIte, Bool.true_and, hsw2]
        exact retC_by (by repeat' (first | exact Drop.refl _ | with_reducible refine Drop.off ?_ (by assumption))) (.refl _) ⟨rfl, rfl⟩
    | false =>
      rw [if_neg (by simp), hga]
      generalize ks.map Nd.av = L at *
      refine a33 (by simp) ?_
      simp (disch := first | assumption | omega) only [go_sem]
      refine boxC_by rfl fun d hd => ?_
      have hcd : c ≠ d := by rintro rfl; rw [hd] at hs1; cases hs1
      have hcd2 : c2 ≠ d := by rintro rfl; rw [hd] at hs2; cases hs2
      simp (disch := first | assumption | omega) only [go_sem]
      refine allocC_by fun t ht => ?_
      have hct : c ≠ t := by rintro rfl; rw [ASt.set_ne hcd, hs1] at ht; cases ht
      have hct2 : c2 ≠ t := by rintro rfl; rw [ASt.set_ne hcd2, hs2] at ht; cases ht
      repeat (with_reducible replace ht := set_none ht; obtain ⟨_, _, ht⟩ := ht)
      simp (disch := first | assumption | omega) only [go_sem, Nat.reduceEqDiff, Nat.reduceAdd, Nat.reduceLeDiff, ↓reduceIte, hs1, hs2]
      refine hm.use ?_
      simp (disch := first | assumption | omega) only [go_sem, Nat.reduceEqDiff, ↓reduceIte]
      refine allocC_by fun u hu => ?_
      have hcu : c ≠ u := by rintro rfl; rw [ASt.set_ne hct, ASt.set_ne hcd, hs1] at hu; cases hu
      have hcu2 : c2 ≠ u := by rintro rfl; rw [ASt.set_ne hct2, ASt.set_ne hcd2, hs2] at hu; cases hu
      repeat (with_reducible replace hu := set_none hu; obtain ⟨_, _, hu⟩ := hu)
      have htu : t ≠ u := by assumption
      simp (disch := first | assumption | omega) only [go_sem, Nat.reduceEqDiff, Nat.reduceAdd, Nat.reduceLeDiff, ↓reduceIte, Bool.true_and, h5, hs1, hs2]
      refine hm2.use ?_
      simp (disch := first | assumption | omega) only [go_sem, Nat.reduceEqDiff, ↓reduceIte]
      refine allocC_by fun w hw => ?_
      repeat (with_reducible replace hw := set_none hw; obtain ⟨_, _, hw⟩ := hw)
      have htw : t ≠ w := by assumption
      have huw : u ≠ w := by assumption
      have hsw2 : ∀ (ρ : ASt) (X Y Z V : Option Role), (((ρ.set t X).set u Y).set w Z).set t V = ((ρ.set t V).set u Y).set w Z := fun ρ X Y Z V => by rw [set_swap (Ne.symm htw), set_mid htu]
      simp (disch := first | assumption | omega) only [go_sem, Nat.reduceEqDiff, Nat.reduceAdd, Nat.reduceLeDiff, ↓reduceIte, Bool.true_and, ASt.set_set]
      refine hg.use ?_
      simp (disch := first | assumption | omega) only [go_sem, Nat.reduceEqDiff, Nat.reduceAdd, Nat.reduceLeDiff, ↓reduceIte, Bool.true_and, hsw2]
      exact retC_by (by repeat' (first | exact Drop.refl _ | with_reducible refine Drop.off ?_ (by assumption))) (.refl _) ⟨rfl, rfl⟩
theorem copy_map (rows cols : Int) (c c2 : Nat) : MapG Nd.ok (.func (.func 33) [] [.ptr c 0, .ptr c2 0]) (copyN rows cols) (CopAt rows cols c c2) := by
  refine ⟨33, [.ptr c 0, .ptr c2 0], rfl, by kernel_rfl, fun σ b r hσ hb => ⟨?_, ?_⟩, fun x σ hσ hx ho => shCopy1_ok rows cols c c2 x hx ho σ hσ⟩
  · rw [ASt.set_ne]
    · exact hσ.1
    · rintro rfl; rw [hσ.1] at hb; cases hb
  · rw [ASt.set_ne]
    · exact hσ.2
    · rintro rfl; rw [hσ.2] at hb; cases hb
theorem shcopy_ok (n : Nd) (hn : n.ok) (hs : n.size ≤ 1000000000) (rows cols : Int) : Pure Tryz.prog 13 [n.av, .int .i64 rows, .int .i64 cols] (n.copy rows cols).av := by
  intro σ
  have hM := fun c c2 => mapg_le _ (copyN rows cols) (CopAt rows cols c c2) Nd.ok ok_kids (copy_map rows cols c c2) n.size n (Nat.le_refl _) hs hn
  unfold Nd.copy
  obtain ⟨⟨wo, wm, ws, wa, wb, wk⟩, hw⟩ : ∃ w, Nd.map (copyN rows cols) n = w := ⟨_, rfl⟩
  rw [hw, Nd.av_cs]
  simp only [hw, Nd.av_cs] at hM
  obtain ⟨op, m, s, a, b, ks⟩ := n
  have hav : (Nd.mk op m s a b ks).av = .agg [.int .i64 op, .int .i64 m, .str s, .int .i64 a.row, .int .i64 a.col, .bool a.absRow, .bool a.absCol, .int .i64 b.row, .int .i64 b.col, .bool b.absRow, .bool b.absCol, .sl .shr (ks.map Nd.av)] := Nd.av_cs ..
  rw [hav]
  unfold Nd.cs at hM ⊢
  simp only [hav] at hM
  generalize ks.map Nd.av = L at *
  generalize wk.map Nd.av = WL at *
  refine a13 (by simp) ?_
  simp (disch := first | assumption | omega) only [go_sem]
  refine boxC_by rfl fun d hd => ?_
  simp (disch := first | assumption | omega) only [go_sem, Nat.reduceEqDiff, ↓reduceIte]
  refine boxC_by rfl fun c hc => ?_
  have hdc : d ≠ c := by rintro rfl; rw [ASt.set_same] at hc; cases hc
  repeat (with_reducible replace hc := set_none hc; obtain ⟨_, _, hc⟩ := hc)
  simp (disch := first | assumption | omega) only [go_sem, Nat.reduceEqDiff, ↓reduceIte]
  refine boxC_by rfl fun c2 hc2 => ?_
  have hcc : c ≠ c2 := by rintro rfl; rw [ASt.set_same] at hc2; cases hc2
  repeat (with_reducible replace hc2 := set_none hc2; obtain ⟨_, _, hc2⟩ := hc2)
  simp (disch := first | assumption | omega) only [go_sem]
  refine allocC_by fun t ht => ?_
  have hct2 : c2 ≠ t := by rintro rfl; rw [ASt.set_same] at ht; cases ht
  have hct : c ≠ t := by rintro rfl; rw [ASt.set_ne hcc, ASt.set_same] at ht; cases ht
  repeat (with_reducible replace ht := set_none ht; obtain ⟨_, _, ht⟩ := ht)
  simp (disch := first | assumption | omega) only [go_sem, Nat.reduceEqDiff, Nat.reduceAdd, Nat.reduceLeDiff, ↓reduceIte]
  refine (hM c c2 _ ⟨?_, ?_⟩).mono ?_
  · rw [ASt.set_ne hct, ASt.set_ne hcc, ASt.set_same]
  · rw [ASt.set_ne hct2, ASt.set_same]
  rintro v σ' ⟨rfl, rfl⟩
  simp (disch := first | assumption | omega) only [go_sem, Nat.reduceEqDiff, Nat.reduceAdd, Nat.reduceLeDiff, ↓reduceIte, Bool.true_and, ASt.set_set]
  exact retC_by (by repeat' (first | exact Drop.refl _ | with_reducible refine Drop.off ?_ (by assumption))) (.refl _) ⟨rfl, rfl⟩
mutual
def Nd.okB : Nd → Bool
  | .mk op n s a b ks => (decide (1 ≤ op ∧ op ≤ 23) && (decide (op ≠ 1) || decide (n.natAbs ≤ 999999999999999999)) && (decide (op ≠ 2) || decide (s.length ≤ 100000)) && (decide (op ≠ 4) || decide (1 ≤ n.tdiv 10000 ∧ n.tdiv 10000 ≤ 7)) && (decide (op ≠ 22) || !s.isEmpty) && (decide (¬ (op = 5 ∨ op = 6)) || a.good) && (decide (op ≠ 6) || b.good) && (decide (¬ (op = 7 ∨ op = 8 ∨ op = 9)) || decide (1 ≤ ks.length)) && (decide (¬ (10 ≤ op ∧ op ≤ 21)) || decide (2 ≤ ks.length)) && decide (ks.length ≤ 1000000)) && Nd.oksB ks
def Nd.oksB : List Nd → Bool
  | [] => true
  | x :: xs => Nd.okB x && Nd.oksB xs
end
mutual
theorem okB_ok : ∀ {n : Nd}, n.okB = true → n.ok
  | .mk op n s a b ks, h => by
    rw [Nd.okB] at h
    simp only [Bool.and_eq_true, Bool.or_eq_true, decide_eq_true_eq, Bool.not_eq_true'] at h
    obtain ⟨⟨⟨⟨⟨⟨⟨⟨⟨⟨h1, h2⟩, h3⟩, h4⟩, h5⟩, h6⟩, h7⟩, h8⟩, h9⟩, h10⟩, h11⟩ := h
    rw [Nd.ok]
    refine ⟨⟨h1, fun h => h2.resolve_left (by omega), fun h => h3.resolve_left (by omega), fun h => h4.resolve_left (by omega), fun h hs => ?_, fun h => h6.resolve_left (fun k => k h), fun h => h7.resolve_left (by omega), fun h => h8.resolve_left (fun k => k h), fun h => h9.resolve_left (fun k => k h), h10⟩, oksB_ok h11⟩
    have := h5.resolve_left (by omega)
    rw [hs] at this
    cases this
theorem oksB_ok : ∀ {l : List Nd}, Nd.oksB l = true → Nd.oks l
  | [], _ => trivial
  | x :: xs, h => by
    rw [Nd.oksB, Bool.and_eq_true] at h
    exact ⟨okB_ok h.1, oksB_ok h.2⟩
end
def edIn : Edt := ⟨false, 1, 1, 2, 0⟩
def edOut : Edt := ⟨false, 2, 1, 1, 0⟩
def edMove : Edt := ⟨false, 3, 0, 1, 2⟩
def awT : List UInt8 := [65, 49, 43, 65, 50, 43, 65, 49, 58, 65, 51]
theorem aw_0 : (parseR awT).2.2 = 0 ∧ (parseR awT).1.size = 5 := by decide +kernel
theorem aw_1 : (parseR awT).1.okB = true := by decide +kernel
theorem aw_2 : (edIn.tree (parseR awT).1).okB = true ∧ (edOut.tree (parseR awT).1).okB = true ∧ (edMove.tree (parseR awT).1).okB = true ∧ ((parseR awT).1.copy 1 1).okB = true := by decide +kernel
theorem aw_3 : (edIn.tree (parseR awT).1).spell = [65, 49, 43, 65, 52, 43, 65, 49, 58, 65, 53] ∧ (edOut.tree (parseR awT).1).spell = [65, 49, 43, 35, 82, 69, 70, 33, 43, 65, 49, 58, 65, 50] ∧
    (edMove.tree (parseR awT).1).spell = [65, 51, 43, 65, 49, 43, 65, 50, 58, 65, 51] ∧ ((parseR awT).1.copy 1 1).spell = [66, 50, 43, 66, 51, 43, 66, 50, 58, 66, 52] := by decide +kernel
end Go.A
namespace Go.A
open Go.Proofs
/-! 4: tabular/tabularlaw14.ShiftMoves -/
/-! 10: tabular/tabularlaw14.awake -/
def c10_0 : ACode := .ops [
 ⟨some 0, none, .q (.mv (.v (.bool false))), []⟩]
def c10_1 : ACode := .ops [
 ⟨some 8, none, .e (.call 8 [(.v (.str [65, 49, 43, 65, 50, 43, 65, 49, 58, 65, 51]))]), []⟩,
 ⟨some 7, none, .q (.mv (.t 8)), []⟩,
 ⟨some 9, none, .q (.ext 0 (.t 7)), []⟩,
 ⟨some 10, none, .q (.ext 1 (.t 7)), []⟩,
 ⟨some 11, none, .q (.ext 2 (.t 7)), []⟩,
 ⟨some 1, none, .e (.alloc [(.int .i64 0), (.int .i64 0), (.str []), (.int .i64 0), (.int .i64 0), (.bool false), (.bool false), (.int .i64 0), (.int .i64 0), (.bool false), (.bool false), (.sl .full [])]), []⟩,
 ⟨none, none, .e (.store 12 (.t 1) (.t 9)), []⟩,
 ⟨some 2, none, .q (.mv (.t 10)), []⟩,
 ⟨some 3, none, .q (.mv (.t 11)), []⟩]
def c10_2 : ACode := .ops [
 ⟨some 12, none, .q (.build [(.bool false), (.int .i64 0), (.int .i64 0), (.int .i64 0), (.int .i64 0)] [(1, 1, (.v (.int .i64 1))), (2, 1, (.v (.int .i64 1))), (3, 1, (.v (.int .i64 2)))]), []⟩,
 ⟨some 4, none, .e (.alloc [(.bool false), (.int .i64 0), (.int .i64 0), (.int .i64 0), (.int .i64 0)]), []⟩,
 ⟨none, none, .e (.store 5 (.t 4) (.t 12)), []⟩]
def c10_3 : ACode := .ops [
 ⟨some 13, none, .q (.build [(.bool false), (.int .i64 0), (.int .i64 0), (.int .i64 0), (.int .i64 0)] [(1, 1, (.v (.int .i64 2))), (2, 1, (.v (.int .i64 1))), (3, 1, (.v (.int .i64 1)))]), []⟩,
 ⟨some 5, none, .e (.alloc [(.bool false), (.int .i64 0), (.int .i64 0), (.int .i64 0), (.int .i64 0)]), []⟩,
 ⟨none, none, .e (.store 5 (.t 5) (.t 13)), []⟩]
def c10_4 : ACode := .ops [
 ⟨some 14, none, .q (.build [(.bool false), (.int .i64 0), (.int .i64 0), (.int .i64 0), (.int .i64 0)] [(1, 1, (.v (.int .i64 3))), (2, 1, (.v (.int .i64 0))), (3, 1, (.v (.int .i64 1))), (4, 1, (.v (.int .i64 2)))]), []⟩,
 ⟨some 6, none, .e (.alloc [(.bool false), (.int .i64 0), (.int .i64 0), (.int .i64 0), (.int .i64 0)]), []⟩,
 ⟨none, none, .e (.store 5 (.t 6) (.t 14)), []⟩]
def c10_5 : ACode := .ops [
 ⟨some 15, none, .q (.mv (.t 3)), []⟩,
 ⟨some 16, none, .q (.bin .eql (.t 15) (.v (.int .i64 0))), []⟩,
 ⟨some 17, none, .q (.mv (.t 16)), []⟩,
 ⟨some 18, some (17, true), .q (.ld (some 5) (.t 4)), []⟩,
 ⟨some 19, some (17, true), .q (.ld (some 12) (.t 1)), []⟩,
 ⟨some 20, some (17, true), .e (.call 17 [(.t 18), (.t 19)]), []⟩,
 ⟨some 21, some (17, true), .e (.call 31 [(.t 20)]), []⟩,
 ⟨some 22, some (17, true), .q (.bin .eql (.t 21) (.v (.str [65, 49, 43, 65, 52, 43, 65, 49, 58, 65, 53]))), []⟩,
 ⟨some 23, none, .q (.pick (.t 17) (.t 22) (.v (.bool false))), []⟩,
 ⟨some 24, none, .q (.mv (.t 23)), []⟩,
 ⟨some 25, some (24, true), .q (.ld (some 5) (.t 5)), []⟩,
 ⟨some 26, some (24, true), .q (.ld (some 12) (.t 1)), []⟩,
 ⟨some 27, some (24, true), .e (.call 17 [(.t 25), (.t 26)]), []⟩,
 ⟨some 28, some (24, true), .e (.call 31 [(.t 27)]), []⟩,
 ⟨some 29, some (24, true), .q (.bin .eql (.t 28) (.v (.str [65, 49, 43, 35, 82, 69, 70, 33, 43, 65, 49, 58, 65, 50]))), []⟩,
 ⟨some 30, none, .q (.pick (.t 24) (.t 29) (.v (.bool false))), []⟩,
 ⟨some 31, none, .q (.mv (.t 30)), []⟩,
 ⟨some 32, some (31, true), .q (.ld (some 5) (.t 6)), []⟩,
 ⟨some 33, some (31, true), .q (.ld (some 12) (.t 1)), []⟩,
 ⟨some 34, some (31, true), .e (.call 17 [(.t 32), (.t 33)]), []⟩,
 ⟨some 35, some (31, true), .e (.call 31 [(.t 34)]), []⟩,
 ⟨some 36, some (31, true), .q (.bin .eql (.t 35) (.v (.str [65, 51, 43, 65, 49, 43, 65, 50, 58, 65, 51]))), []⟩,
 ⟨some 37, none, .q (.pick (.t 31) (.t 36) (.v (.bool false))), []⟩,
 ⟨some 38, none, .q (.mv (.t 37)), []⟩,
 ⟨some 39, some (38, true), .q (.ld (some 12) (.t 1)), []⟩,
 ⟨some 40, some (38, true), .e (.call 13 [(.t 39), (.v (.int .i64 1)), (.v (.int .i64 1))]), []⟩,
 ⟨some 41, some (38, true), .e (.call 31 [(.t 40)]), []⟩,
 ⟨some 42, some (38, true), .q (.bin .eql (.t 41) (.v (.str [66, 50, 43, 66, 51, 43, 66, 50, 58, 66, 52]))), []⟩,
 ⟨some 43, none, .q (.pick (.t 38) (.t 42) (.v (.bool false))), []⟩,
 ⟨some 0, none, .q (.mv (.t 43)), []⟩]
def c10_6 : ACode := .seq c10_5 .ret
def c10_7 : ACode := .seq c10_4 c10_6
def c10_8 : ACode := .seq c10_3 c10_7
def c10_9 : ACode := .seq c10_2 c10_8
def c10_10 : ACode := .seq c10_1 c10_9
def c10_11 : ACode := .seq c10_0 c10_10
@[go_sem] def c10_0_wp := wp_of c10_0.eq_1
@[go_sem] def c10_1_wp := wp_of c10_1.eq_1
@[go_sem] def c10_2_wp := wp_of c10_2.eq_1
@[go_sem] def c10_3_wp := wp_of c10_3.eq_1
@[go_sem] def c10_4_wp := wp_of c10_4.eq_1
@[go_sem] def c10_5_wp := wp_of c10_5.eq_1
@[go_sem] def c10_6_wp := wp_of c10_6.eq_1
@[go_sem] def c10_7_wp := wp_of c10_7.eq_1
@[go_sem] def c10_8_wp := wp_of c10_8.eq_1
@[go_sem] def c10_9_wp := wp_of c10_9.eq_1
@[go_sem] def c10_10_wp := wp_of c10_10.eq_1
@[go_sem] def c10_11_wp := wp_of c10_11.eq_1
def c10 : AFn := ⟨44, [.t 0], c10_11⟩
theorem c10_ok : compF Tryz.prog Tryz.f10 = some c10 := by kernel_rfl
theorem a10 {args : List AV} {σ : ASt} {R : AV → ASt → Prop} (hl : args.length ≤ 44) (h : c10_11.wp Tryz.prog (RetQ [.t 0] R) (init args) σ) : ACalls Tryz.prog 10 args σ R := acalls_of Tryz.func10 c10_ok hl h
end Go.A
namespace Go.A
open Go.Proofs Go.Lib
theorem LV.set {σ : ASt} {b : Nat} {r : Option Role} (h : LV σ) (hb : σ b = none) : LV (σ.set b r) := by
  unfold LV at h ⊢
  rw [ASt.set_ne]
  · exact h
  · intro e; rw [e, hb] at h; cases h
theorem shawake_ok {σ : ASt} (hT : Tab σ) (hM : MaxL σ) (hU : U8 σ) (hV : LV σ) : ACalls Tryz.prog 10 [] σ fun v σ' => v = .bool true ∧ σ' = σ := by
  have hP := parseR_ok hU hV [65, 49, 43, 65, 50, 43, 65, 49, 58, 65, 51] (by decide)
  obtain ⟨f0, f1⟩ := aw_0
  have f2 := aw_1
  obtain ⟨f3, f4, f5, f6⟩ := aw_2
  obtain ⟨g3, g4, g5, g6⟩ := aw_3
  unfold awT at f0 f1 f2 f3 f4 f5 f6 g3 g4 g5 g6
  obtain ⟨⟨n, k, er⟩, hR⟩ : ∃ R, parseR [65, 49, 43, 65, 50, 43, 65, 49, 58, 65, 51] = R := ⟨_, rfl⟩
  rw [hR] at hP f0 f1 f2 f3 f4 f5 f6 g3 g4 g5 g6
  dsimp only at hP f0 f1 f2 f3 f4 f5 f6 g3 g4 g5 g6
  subst f0
  have hn := okB_ok f2
  have t1 : Pure Tryz.prog 17 [.agg [.bool false, .int .i64 1, .int .i64 1, .int .i64 2, .int .i64 0], n.av] (edIn.tree n).av := shtree_ok edIn ⟨by decide, by decide, by decide, by decide, fun h => absurd rfl h⟩ n hn (by omega)
  have t2 : Pure Tryz.prog 17 [.agg [.bool false, .int .i64 2, .int .i64 1, .int .i64 1, .int .i64 0], n.av] (edOut.tree n).av := shtree_ok edOut ⟨by decide, by decide, by decide, by decide, fun _ h => absurd rfl h⟩ n hn (by omega)
  have t3 : Pure Tryz.prog 17 [.agg [.bool false, .int .i64 3, .int .i64 0, .int .i64 1, .int .i64 2], n.av] (edMove.tree n).av := shtree_ok edMove ⟨by decide, by decide, by decide, by decide, fun _ _ => by decide⟩ n hn (by omega)
  have t4 := shcopy_ok n hn (by omega) 1 1
  have p1 := fun (τ : ASt) (hT : Tab τ) (hM : MaxL τ) => print_ok hT hM (edIn.tree n) (okB_ok f3) (by rw [g3]; decide)
  have p2 := fun (τ : ASt) (hT : Tab τ) (hM : MaxL τ) => print_ok hT hM (edOut.tree n) (okB_ok f4) (by rw [g4]; decide)
  have p3 := fun (τ : ASt) (hT : Tab τ) (hM : MaxL τ) => print_ok hT hM (edMove.tree n) (okB_ok f5) (by rw [g5]; decide)
  have p4 := fun (τ : ASt) (hT : Tab τ) (hM : MaxL τ) => print_ok hT hM (n.copy 1 1) (okB_ok f6) (by rw [g6]; decide)
  simp only [g3] at p1
  simp only [g4] at p2
  simp only [g5] at p3
  simp only [g6] at p4
  clear f1 f2 f3 f4 f5 f6 g3 g4 g5 g6 hR
  generalize (edIn.tree n).av = T1 at *
  generalize (edOut.tree n).av = T2 at *
  generalize (edMove.tree n).av = T3 at *
  generalize (n.copy 1 1).av = T4 at *
  obtain ⟨op, m, s, a, b, ks⟩ := n
  have hav : (Nd.mk op m s a b ks).av = .agg [.int .i64 op, .int .i64 m, .str s, .int .i64 a.row, .int .i64 a.col, .bool a.absRow, .bool a.absCol, .int .i64 b.row, .int .i64 b.col, .bool b.absRow, .bool b.absCol, .sl .shr (ks.map Nd.av)] := Nd.av_cs ..
  rw [hav] at hP t1 t2 t3 t4
  generalize ks.map Nd.av = L at *
  refine a10 (by simp) ?_
  simp (disch := first | assumption | omega) only [go_sem]
  refine hP.mono ?_
  rintro v σ' ⟨rfl, rfl⟩
  simp (disch := first | assumption | omega) only [go_sem, Nat.reduceEqDiff, ↓reduceIte]
  refine allocC_by fun b1 h1 => ?_
  have T1' := Tab.set (r := some (.obj [.int .i64 op, .int .i64 m, .str s, .int .i64 a.row, .int .i64 a.col, .bool a.absRow, .bool a.absCol, .int .i64 b.row, .int .i64 b.col, .bool b.absRow, .bool b.absCol, .sl .shr L])) hT h1
  have M1' := MaxL.set (r := some (.obj [.int .i64 op, .int .i64 m, .str s, .int .i64 a.row, .int .i64 a.col, .bool a.absRow, .bool a.absCol, .int .i64 b.row, .int .i64 b.col, .bool b.absRow, .bool b.absCol, .sl .shr L])) hM h1
  simp (disch := first | assumption | omega) only [go_sem, Nat.reduceEqDiff, Nat.reduceAdd, Nat.reduceLeDiff, ↓reduceIte, Bool.true_and, ASt.set_set]
  refine allocC_by fun b2 h2 => ?_
  have h20 : (σ'.set b1 (some (.obj [.int .i64 op, .int .i64 m, .str s, .int .i64 a.row, .int .i64 a.col, .bool a.absRow, .bool a.absCol, .int .i64 b.row, .int .i64 b.col, .bool b.absRow, .bool b.absCol, .sl .shr L]))) b2 = none := h2
  have T2' := Tab.set (r := some (.obj [.bool false, .int .i64 1, .int .i64 1, .int .i64 2, .int .i64 0])) T1' h20
  have M2' := MaxL.set (r := some (.obj [.bool false, .int .i64 1, .int .i64 1, .int .i64 2, .int .i64 0])) M1' h20
  repeat (with_reducible replace h2 := set_none h2; obtain ⟨_, _, h2⟩ := h2)
  simp (disch := first | assumption | omega) only [go_sem, Nat.reduceEqDiff, Nat.reduceAdd, Nat.reduceLeDiff, ↓reduceIte, Bool.true_and, ASt.set_set]
  refine allocC_by fun b3 h3 => ?_
  have h30 := h3
  have T3' := Tab.set (r := some (.obj [.bool false, .int .i64 2, .int .i64 1, .int .i64 1, .int .i64 0])) T2' h30
  have M3' := MaxL.set (r := some (.obj [.bool false, .int .i64 2, .int .i64 1, .int .i64 1, .int .i64 0])) M2' h30
  repeat (with_reducible replace h3 := set_none h3; obtain ⟨_, _, h3⟩ := h3)
  simp (disch := first | assumption | omega) only [go_sem, Nat.reduceEqDiff, Nat.reduceAdd, Nat.reduceLeDiff, ↓reduceIte, Bool.true_and, ASt.set_set]
  refine allocC_by fun b4 h4 => ?_
  have h40 := h4
  have T4' := Tab.set (r := some (.obj [.bool false, .int .i64 3, .int .i64 0, .int .i64 1, .int .i64 2])) T3' h40
  have M4' := MaxL.set (r := some (.obj [.bool false, .int .i64 3, .int .i64 0, .int .i64 1, .int .i64 2])) M3' h40
  repeat (with_reducible replace h4 := set_none h4; obtain ⟨_, _, h4⟩ := h4)
  simp (disch := first | assumption | omega) only [go_sem, Nat.reduceEqDiff, Nat.reduceAdd, Nat.reduceLeDiff, ↓reduceIte, Bool.true_and, ASt.set_set, eq_self]
  refine t1.use ?_
  simp (disch := first | assumption | omega) only [go_sem, Nat.reduceEqDiff, ↓reduceIte, eq_self]
  refine (p1 _ T4' M4').mono ?_
  rintro v τ ⟨rfl, rfl⟩
  simp (disch := first | assumption | omega) only [go_sem, Nat.reduceEqDiff, Nat.reduceAdd, Nat.reduceLeDiff, ↓reduceIte, eq_self]
  refine t2.use ?_
  simp (disch := first | assumption | omega) only [go_sem, Nat.reduceEqDiff, ↓reduceIte, eq_self]
  refine (p2 _ T4' M4').mono ?_
  rintro v τ ⟨rfl, rfl⟩
  simp (disch := first | assumption | omega) only [go_sem, Nat.reduceEqDiff, Nat.reduceAdd, Nat.reduceLeDiff, ↓reduceIte, eq_self]
  refine t3.use ?_
  simp (disch := first | assumption | omega) only [go_sem, Nat.reduceEqDiff, ↓reduceIte, eq_self]
  refine (p3 _ T4' M4').mono ?_
  rintro v τ ⟨rfl, rfl⟩
  simp (disch := first | assumption | omega) only [go_sem, Nat.reduceEqDiff, Nat.reduceAdd, Nat.reduceLeDiff, ↓reduceIte, eq_self]
  refine t4.use ?_
  simp (disch := first | assumption | omega) only [go_sem, Nat.reduceEqDiff, ↓reduceIte, eq_self]
  refine (p4 _ T4' M4').mono ?_
  rintro v τ ⟨rfl, rfl⟩
  simp (disch := first | assumption | omega) only [go_sem, Nat.reduceEqDiff, ↓reduceIte, eq_self]
  exact retC_by (by repeat' (first | exact Drop.refl _ | with_reducible refine Drop.off ?_ (by assumption))) (.refl _) ⟨rfl, rfl⟩
end Go.A
namespace Go.A
open Go.Proofs
/-! 22: tabular/tabularlaw14.small -/
def c22_0 : ACode := .ops [
 ⟨some 3, none, .e (.box (.t 0)), []⟩,
 ⟨some 6, none, .q (.mv (.v (.bool false))), []⟩]
def c22_1 : ACode := .ops [
 ⟨some 9, none, .q (.ld (some 12) (.t 3)), []⟩,
 ⟨some 10, none, .e (.call 25 [(.t 9)]), []⟩,
 ⟨some 11, none, .q (.len (.t 10)), []⟩,
 ⟨some 12, none, .q (.mv (.v (.int .i64 0))), []⟩]
def c22_2 : ACode := .ops [
 ⟨some 13, none, .q (.bin .lss (.t 12) (.t 11)), []⟩]
def c22_3 : ACode := .cond (.t 13) .skip (.exit 0)
def c22_4 : ACode := .ops [
 ⟨some 14, none, .q (.ia 4 (.t 10) (.t 12)), []⟩,
 ⟨some 15, none, .q (.ld (some 4) (.t 14)), []⟩,
 ⟨some 8, none, .e (.alloc [(.int .i64 0), (.int .i64 0), (.int .i64 0), (.int .i64 0)]), []⟩,
 ⟨none, none, .e (.store 4 (.t 8) (.t 15)), []⟩]
def c22_5 : ACode := .ops [
 ⟨some 16, none, .q (.fa 0 (.t 8)), []⟩,
 ⟨some 17, none, .q (.ld none (.t 16)), []⟩,
 ⟨some 18, none, .q (.fa 2 (.t 8)), []⟩,
 ⟨some 19, none, .q (.ld none (.t 18)), []⟩,
 ⟨some 20, none, .q (.bin .add (.t 17) (.t 19)), []⟩,
 ⟨some 21, none, .q (.mv (.t 1)), []⟩,
 ⟨some 22, none, .q (.bin .gtr (.t 20) (.t 21)), []⟩,
 ⟨some 23, none, .q (.mv (.t 22)), []⟩,
 ⟨some 24, some (23, false), .q (.fa 1 (.t 8)), []⟩,
 ⟨some 25, some (23, false), .q (.ld none (.t 24)), []⟩,
 ⟨some 26, some (23, false), .q (.fa 3 (.t 8)), []⟩,
 ⟨some 27, some (23, false), .q (.ld none (.t 26)), []⟩,
 ⟨some 28, some (23, false), .q (.bin .add (.t 25) (.t 27)), []⟩,
 ⟨some 29, some (23, false), .q (.mv (.t 2)), []⟩,
 ⟨some 30, some (23, false), .q (.bin .gtr (.t 28) (.t 29)), []⟩,
 ⟨some 31, none, .q (.pick (.t 23) (.v (.bool true)) (.t 30)), []⟩]
def c22_6 : ACode := .ops [
 ⟨some 6, none, .q (.mv (.v (.bool false))), []⟩]
def c22_7 : ACode := .seq c22_6 .ret
def c22_8 : ACode := .cond (.t 31) c22_7 .skip
def c22_9 : ACode := .seq c22_5 c22_8
def c22_10 : ACode := .seq c22_4 c22_9
def c22_11 : ACode := .block 1 c22_10
def c22_12 : ACode := .ops [
 ⟨some 32, none, .q (.bin .add (.t 12) (.v (.int .i64 1))), []⟩,
 ⟨some 12, none, .q (.mv (.t 32)), []⟩]
def c22_13 : ACode := .seq c22_11 c22_12
def c22_14 : ACode := .seq c22_3 c22_13
def c22_15 : ACode := .seq c22_2 c22_14
def c22_16 : ACode := .loop c22_15
def c22_17 : ACode := .block 0 c22_16
def c22_18 : ACode := .seq c22_1 c22_17
def c22_19 : ACode := .ops [
 ⟨some 6, none, .q (.mv (.v (.bool true))), []⟩]
def c22_20 : ACode := .seq c22_19 .ret
def c22_21 : ACode := .seq c22_18 c22_20
def c22_22 : ACode := .seq c22_0 c22_21
@[go_sem] def c22_0_wp := wp_of c22_0.eq_1
@[go_sem] def c22_1_wp := wp_of c22_1.eq_1
@[go_sem] def c22_2_wp := wp_of c22_2.eq_1
@[go_sem] def c22_3_wp := wp_of c22_3.eq_1
@[go_sem] def c22_4_wp := wp_of c22_4.eq_1
@[go_sem] def c22_5_wp := wp_of c22_5.eq_1
@[go_sem] def c22_6_wp := wp_of c22_6.eq_1
@[go_sem] def c22_7_wp := wp_of c22_7.eq_1
@[go_sem] def c22_8_wp := wp_of c22_8.eq_1
@[go_sem] def c22_9_wp := wp_of c22_9.eq_1
@[go_sem] def c22_10_wp := wp_of c22_10.eq_1
@[go_sem] def c22_11_wp := wp_of c22_11.eq_1
@[go_sem] def c22_12_wp := wp_of c22_12.eq_1
@[go_sem] def c22_13_wp := wp_of c22_13.eq_1
@[go_sem] def c22_14_wp := wp_of c22_14.eq_1
@[go_sem] def c22_15_wp := wp_of c22_15.eq_1
@[go_sem] def c22_16_wp := wp_of c22_16.eq_1
@[go_sem] def c22_17_wp := wp_of c22_17.eq_1
@[go_sem] def c22_18_wp := wp_of c22_18.eq_1
@[go_sem] def c22_19_wp := wp_of c22_19.eq_1
@[go_sem] def c22_20_wp := wp_of c22_20.eq_1
@[go_sem] def c22_21_wp := wp_of c22_21.eq_1
@[go_sem] def c22_22_wp := wp_of c22_22.eq_1
def c22 : AFn := ⟨33, [.t 6], c22_22⟩
theorem c22_ok : compF Tryz.prog Tryz.f22 = some c22 := by kernel_rfl
theorem a22 {args : List AV} {σ : ASt} {R : AV → ASt → Prop} (hl : args.length ≤ 33) (h : c22_22.wp Tryz.prog (RetQ [.t 6] R) (init args) σ) : ACalls Tryz.prog 22 args σ R := acalls_of Tryz.func22 c22_ok hl h
end Go.A
namespace Go.A
open Go.Proofs Go.Lib
mutual
def Nd.allR (Q : Nd → Prop) : Nd → Prop
  | .mk op n s a b ks => if op = 5 ∨ op = 6 then Q (.mk op n s a b ks) else Nd.allRs Q ks
def Nd.allRs (Q : Nd → Prop) : List Nd → Prop
  | [] => True
  | x :: xs => Nd.allR Q x ∧ Nd.allRs Q xs
end
mutual
theorem Nd.allR_mono {Q Q' : Nd → Prop} (h : ∀ x, (x.op = 5 ∨ x.op = 6) → Q x → Q' x) : ∀ {n : Nd}, Nd.allR Q n → Nd.allR Q' n
  | .mk op n s a b ks, k => by
    rw [Nd.allR] at k ⊢
    split
    · rename_i ho
      rw [if_pos ho] at k
      exact h _ ho k
    · rename_i ho
      rw [if_neg ho] at k
      exact Nd.allRs_mono h k
theorem Nd.allRs_mono {Q Q' : Nd → Prop} (h : ∀ x, (x.op = 5 ∨ x.op = 6) → Q x → Q' x) : ∀ {l : List Nd}, Nd.allRs Q l → Nd.allRs Q' l
  | [], _ => by rw [Nd.allRs]; trivial
  | x :: xs, k => by
    rw [Nd.allRs] at k ⊢
    exact ⟨Nd.allR_mono h k.1, Nd.allRs_mono h k.2⟩
end
mutual
theorem Nd.allR_and {Q Q' : Nd → Prop} : ∀ {n : Nd}, Nd.allR Q n → Nd.allR Q' n → Nd.allR (fun x => Q x ∧ Q' x) n
  | .mk op n s a b ks, k, k' => by
    rw [Nd.allR] at k k' ⊢
    split
    · rename_i ho
      rw [if_pos ho] at k k'
      exact ⟨k, k'⟩
    · rename_i ho
      rw [if_neg ho] at k k'
      exact Nd.allRs_and k k'
theorem Nd.allRs_and {Q Q' : Nd → Prop} : ∀ {l : List Nd}, Nd.allRs Q l → Nd.allRs Q' l → Nd.allRs (fun x => Q x ∧ Q' x) l
  | [], _, _ => by rw [Nd.allRs]; trivial
  | x :: xs, k, k' => by
    rw [Nd.allRs] at k k' ⊢
    exact ⟨Nd.allR_and k.1 k'.1, Nd.allRs_and k.2 k'.2⟩
end
theorem gd_kids {op n : Int} {s : List UInt8} {a b : Ref} {ks : List Nd} (h : (Nd.mk op n s a b ks).gd) : ∀ x ∈ ks, x.gd := by
  obtain ⟨h1, h2⟩ := h
  rw [Nd.ok] at h1
  rw [Nd.nk] at h2
  exact fun x hx => ⟨Nd.oks_mem.1 h1.2 x hx, nks_mem.1 h2.2 x hx⟩
mutual
theorem gd_refs : ∀ {n : Nd}, n.gd → Nd.allR Nd.gd n
  | .mk op n s a b ks, h => by
    rw [Nd.allR]
    split
    · exact h
    · exact gds_refs (gd_kids h)
theorem gds_refs : ∀ {l : List Nd}, (∀ x ∈ l, x.gd) → Nd.allRs Nd.gd l
  | [], _ => by rw [Nd.allRs]; trivial
  | x :: xs, h => by
    rw [Nd.allRs]
    exact ⟨gd_refs (h x List.mem_cons_self), gds_refs fun y hy => h y (List.mem_cons_of_mem _ hy)⟩
end
theorem maps_len (f : Nd → Nd) (l : List Nd) : (Nd.maps f l).length = l.length := by rw [Nd.maps_map, List.length_map]
mutual
theorem map_gd {f : Nd → Nd} : ∀ {n : Nd}, n.gd → Nd.allR (fun x => (f x).gd) n → (Nd.map f n).gd
  | .mk op n s a b ks, h, k => by
    rw [Nd.allR] at k
    rw [Nd.map]
    split
    · rename_i ho
      rw [if_pos ho] at k
      exact k
    · rename_i ho
      rw [if_neg ho] at k
      have hk := h.1
      rw [Nd.ok] at hk
      exact gd_mk (by rw [maps_len]; exact hk.1) (fun h => absurd h ho) (maps_gd (gd_kids h) k)
theorem maps_gd {f : Nd → Nd} : ∀ {l : List Nd}, (∀ x ∈ l, x.gd) → Nd.allRs (fun x => (f x).gd) l → ∀ x ∈ Nd.maps f l, x.gd
  | [], _, _ => by rw [Nd.maps]; exact no_kids (x := missN)
  | x :: xs, h, k => by
    rw [Nd.allRs] at k
    rw [Nd.maps]
    intro y hy
    rcases List.mem_cons.1 hy with rfl | hy
    · exact map_gd (h x List.mem_cons_self) k.1
    · exact maps_gd (fun z hz => h z (List.mem_cons_of_mem _ hz)) k.2 y hy
end
mutual
theorem map_size {f : Nd → Nd} : ∀ {n : Nd}, Nd.allR (fun x => (f x).size = x.size) n → (Nd.map f n).size = n.size
  | .mk op n s a b ks, k => by
    rw [Nd.allR] at k
    rw [Nd.map]
    split
    · rename_i ho
      rw [if_pos ho] at k
      exact k
    · rename_i ho
      rw [if_neg ho] at k
      rw [Nd.size, Nd.size, maps_size k]
theorem maps_size {f : Nd → Nd} : ∀ {l : List Nd}, Nd.allRs (fun x => (f x).size = x.size) l → Nd.sizes (Nd.maps f l) = Nd.sizes l
  | [], _ => by rw [Nd.maps]
  | x :: xs, k => by
    rw [Nd.allRs] at k
    rw [Nd.maps, Nd.sizes, Nd.sizes, map_size k.1, maps_size k.2]
end
mutual
theorem map_id {f : Nd → Nd} : ∀ {n : Nd}, Nd.allR (fun x => f x = x) n → Nd.map f n = n
  | .mk op n s a b ks, k => by
    rw [Nd.allR] at k
    rw [Nd.map]
    split
    · rename_i ho
      rw [if_pos ho] at k
      exact k
    · rename_i ho
      rw [if_neg ho] at k
      rw [maps_id k]
theorem maps_id {f : Nd → Nd} : ∀ {l : List Nd}, Nd.allRs (fun x => f x = x) l → Nd.maps f l = l
  | [], _ => by rw [Nd.maps]
  | x :: xs, k => by
    rw [Nd.allRs] at k
    rw [Nd.maps, map_id k.1, maps_id k.2]
end
def rectR : Nd → Rc | .mk op _ _ a b _ => rectN op a b
theorem addR_mem {out : List Rc} {r q : Rc} (h : q ∈ out) : q ∈ addR out r := by
  unfold addR
  split
  · exact h
  · simp [h]
theorem addR_self (out : List Rc) (r : Rc) : r ∈ addR out r := by
  unfold addR
  split
  · assumption
  · simp
theorem addR_elim {out : List Rc} {r q : Rc} (h : q ∈ addR out r) : q ∈ out ∨ q = r := by
  unfold addR at h
  split at h
  · exact .inl h
  · simpa using h
mutual
theorem areas_mono : ∀ (n : Nd) {out : List Rc} {q : Rc}, q ∈ out → q ∈ Nd.areas out n
  | .mk op n s a b ks, out, q, h => by
    rw [Nd.areas]
    refine areass_mono ks ?_
    split
    · exact addR_mem h
    · exact h
theorem areass_mono : ∀ (l : List Nd) {out : List Rc} {q : Rc}, q ∈ out → q ∈ Nd.areass out l
  | [], out, q, h => by rw [Nd.areass]; exact h
  | x :: xs, out, q, h => by rw [Nd.areass]; exact areass_mono xs (areas_mono x h)
end
mutual
theorem areas_has : ∀ (n : Nd) (out L : List Rc), (∀ q ∈ Nd.areas out n, q ∈ L) → Nd.allR (fun x => rectR x ∈ L) n
  | .mk op n s a b ks, out, L, h => by
    rw [Nd.areas] at h
    rw [Nd.allR]
    split
    · rename_i ho
      rw [if_pos ho] at h
      exact h _ (areass_mono ks (addR_self _ _))
    · rename_i ho
      rw [if_neg ho] at h
      exact areass_has ks out L h
theorem areass_has : ∀ (l : List Nd) (out L : List Rc), (∀ q ∈ Nd.areass out l, q ∈ L) → Nd.allRs (fun x => rectR x ∈ L) l
  | [], out, L, h => by rw [Nd.allRs]; trivial
  | x :: xs, out, L, h => by
    rw [Nd.areass] at h
    rw [Nd.allRs]
    exact ⟨areas_has x out L fun q hq => h q (areass_mono xs hq), areass_has xs _ L h⟩
end
mutual
theorem areas_from {Q : Rc → Prop} : ∀ (n : Nd) (out : List Rc), n.gd → (∀ q ∈ out, Q q) → Nd.allR (fun x => Q (rectR x)) n → ∀ q ∈ Nd.areas out n, Q q
  | .mk op n s a b ks, out, hg, ho, k => by
    rw [Nd.areas]
    rw [Nd.allR] at k
    by_cases h : op = 5 ∨ op = 6
    · rw [if_pos h] at k ⊢
      have hk : ks = [] := by
        have := hg.2
        rw [Nd.nk] at this
        exact this.1 h
      subst hk
      rw [Nd.areass]
      intro q hq
      rcases addR_elim hq with hq | rfl
      · exact ho q hq
      · exact k
    · rw [if_neg h] at k ⊢
      exact areass_from ks out (gd_kids hg) ho k
theorem areass_from {Q : Rc → Prop} : ∀ (l : List Nd) (out : List Rc), (∀ x ∈ l, x.gd) → (∀ q ∈ out, Q q) → Nd.allRs (fun x => Q (rectR x)) l → ∀ q ∈ Nd.areass out l, Q q
  | [], out, hg, ho, k => by rw [Nd.areass]; exact ho
  | x :: xs, out, hg, ho, k => by
    rw [Nd.areass]
    rw [Nd.allRs] at k
    exact areass_from xs _ (fun y hy => hg y (List.mem_cons_of_mem _ hy)) (areas_from x out (hg x List.mem_cons_self) ho k.1) k.2
end
def Rc.fine (r : Rc) : Prop := 0 ≤ r.row ∧ r.row < 3000 ∧ 0 ≤ r.col ∧ r.col < 3000 ∧ 0 ≤ r.rows ∧ r.rows ≤ 3000 ∧ 0 ≤ r.cols ∧ r.cols ≤ 3000
theorem norm_vals (a b : Ref) : (normP a b).1.row = min a.row b.row ∧ (normP a b).2.row = max a.row b.row ∧ (normP a b).1.col = min a.col b.col ∧ (normP a b).2.col = max a.col b.col := by
  unfold normP normC normR
  split <;> split <;> dsimp only at * <;> omega
theorem ref_fine {x : Nd} (h : x.gd) (ho : x.op = 5 ∨ x.op = 6) : (rectR x).fine := by
  obtain ⟨op, n, s, a, b, ks⟩ := x
  obtain ⟨h1, h2⟩ := ok_refs h.1
  change op = 5 ∨ op = 6 at ho
  have ha := h1 ho
  simp only [Ref.good, decide_eq_true_eq] at ha h2
  show (rectN op a b).fine
  unfold rectN Rc.fine
  split
  · dsimp only; omega
  · rename_i h5
    have hb := h2 (by omega)
    obtain ⟨n1, n2, n3, n4⟩ := norm_vals a b
    dsimp only
    rw [n1, n2, n3, n4]
    omega
theorem areas_fine {n : Nd} (h : n.gd) : ∀ q ∈ Nd.areas [] n, q.fine :=
  areas_from n [] h (fun q hq => by cases hq) (Nd.allR_mono (fun x ho hx => ref_fine hx ho) (gd_refs h))
def smallB (rows cols : Int) (l : List Rc) : Bool := l.all fun r => decide (r.row + r.rows ≤ rows ∧ r.col + r.cols ≤ cols)
set_option maxHeartbeats 1000000 in
theorem shsmall_ok (n : Nd) (hn : n.gd) (hs : n.size ≤ 1000000) (rows cols : Int) : Pure Tryz.prog 22 [n.av, .int .i64 rows, .int .i64 cols] (.bool (smallB rows cols (Nd.areas [] n))) := by
  intro σ
  have hA := Areas_ok n hn.1 hs
  have hf := areas_fine hn
  have hl := Nd.areas_len n []
  simp only [List.length_nil] at hl
  generalize Nd.areas [] n = l at *
  obtain ⟨op, m, s, a, b, ks⟩ := n
  have hav : (Nd.mk op m s a b ks).av = .agg [.int .i64 op, .int .i64 m, .str s, .int .i64 a.row, .int .i64 a.col, .bool a.absRow, .bool a.absCol, .int .i64 b.row, .int .i64 b.col, .bool b.absRow, .bool b.absCol, .sl .shr (ks.map Nd.av)] := Nd.av_cs ..
  rw [hav] at hA ⊢
  generalize ks.map Nd.av = L at *
  obtain ⟨q, hq⟩ : ∃ q, smallB rows cols l = q := ⟨_, rfl⟩
  rw [hq]
  refine a22 (by simp) ?_
  simp (disch := first | assumption | omega) only [go_sem]
  refine boxC_by rfl fun c hc => ?_
  simp (disch := first | assumption | omega) only [go_sem, Nat.reduceEqDiff, Nat.reduceAdd, Nat.reduceLeDiff, ↓reduceIte]
  refine hA.use ?_
  simp (disch := first | assumption | omega) only [go_sem, ↓reduceIte]
  refine wp_loop_by (fun (i : Nat) a1 s2 => (i ≤ l.length ∧ smallB rows cols (l.drop i) = q) ∧ (a1 1 = .int .i64 rows ∧ a1 2 = .int .i64 cols ∧ a1 10 = .sl .shr (l.map Rc.av) ∧ a1 11 = .int .i64 l.length ∧ a1 12 = .int .i64 i) ∧ s2 = σ.set c (some (.obj [.int .i64 op, .int .i64 m, .str s, .int .i64 a.row, .int .i64 a.col, .bool a.absRow, .bool a.absCol, .int .i64 b.row, .int .i64 b.col, .bool b.absRow, .bool b.absCol, .sl .shr L]))) (fun i => l.length - i) 0 (Dr.now ⟨⟨Nat.zero_le _, by rw [List.drop_zero]; exact hq⟩, ?_, rfl⟩) ?_
  · simp (disch := first | assumption | omega) only [go_sem, Nat.reduceEqDiff, ↓reduceIte]
  rintro i a1 s2 ⟨⟨hi, hqi⟩, hf1, rfl⟩
  by_cases hlt : i < l.length
  · have hlt' : (i : Int) < l.length := by omega
    have hx : l[i]? = some (l[i]'hlt) := List.getElem?_eq_getElem hlt
    have hfx := hf _ (List.getElem_mem hlt)
    rw [List.drop_eq_getElem_cons hlt, smallB, List.all_cons] at hqi
    obtain ⟨x, hxe⟩ : ∃ x, l[i]'hlt = x := ⟨_, rfl⟩
    rw [hxe] at hx hqi hfx
    have hmx := Rc.get hx
    rw [show x.av = .agg [.int .i64 x.row, .int .i64 x.col, .int .i64 x.rows, .int .i64 x.cols] from rfl] at hmx
    generalize l.map Rc.av = XL at *
    unfold Rc.fine at hfx
    simp (disch := first | assumption | omega) only [go_sem, Nat.reduceEqDiff, Nat.reduceAdd, Nat.reduceLeDiff, ↓reduceIte, hf1, hlt', hmx]
    refine allocC_by fun d hd => ?_
    have hd0 := hd
    repeat (with_reducible replace hd := set_none hd; obtain ⟨_, _, hd⟩ := hd)
    by_cases h1 : rows < x.row + x.rows
    · rw [decide_eq_false (by omega), Bool.false_and] at hqi
      subst hqi
      simp (disch := first | assumption | omega) only [go_sem, Nat.reduceEqDiff, Nat.reduceAdd, Nat.reduceLeDiff, ↓reduceIte, Bool.true_and, hf1, ASt.set_set, h1]
      exact retC_by ((Drop.set hc).off (by assumption)) (.refl _) ⟨rfl, rfl⟩
    by_cases h2 : cols < x.col + x.cols
    · rw [decide_eq_false (by omega), Bool.false_and] at hqi
      subst hqi
      simp (disch := first | assumption | omega) only [go_sem, Nat.reduceEqDiff, Nat.reduceAdd, Nat.reduceLeDiff, ↓reduceIte, Bool.true_and, hf1, ASt.set_set, h1, h2]
      exact retC_by ((Drop.set hc).off (by assumption)) (.refl _) ⟨rfl, rfl⟩
    rw [decide_eq_true (by omega), Bool.true_and] at hqi
    simp (disch := first | assumption | omega) only [go_sem, Nat.reduceEqDiff, Nat.reduceAdd, Nat.reduceLeDiff, ↓reduceIte, Bool.true_and, hf1, ASt.set_set, h1, h2]
    refine ⟨i + 1, by dsimp only; omega, Dr.drop (Drop.set hd0) ⟨⟨by omega, hqi⟩, ?_, rfl⟩⟩
    simp (disch := first | assumption | omega) only [go_sem, Nat.reduceEqDiff, ↓reduceIte, hf1]
  · have hlt' : ¬ (i : Int) < l.length := by omega
    rw [List.drop_eq_nil_of_le (by omega)] at hqi
    subst hqi
    simp (disch := first | assumption | omega) only [go_sem, ↓reduceIte, hf1, hlt']
    exact retC_by (Drop.set hc) (.refl _) ⟨rfl, rfl⟩
theorem small_refs {n : Nd} {rows cols : Int} (h : n.gd) (hs : smallB rows cols (Nd.areas [] n) = true) :
    Nd.allR (fun x => x.gd ∧ (rectR x).row + (rectR x).rows ≤ rows ∧ (rectR x).col + (rectR x).cols ≤ cols) n := by
  have h1 := areas_has n [] (Nd.areas [] n) fun q hq => hq
  refine Nd.allR_and (gd_refs h) (Nd.allR_mono (fun x _ hx => ?_) h1)
  unfold smallB at hs
  have := List.all_eq_true.1 hs _ hx
  simpa using this
theorem rect_in {op : Int} {a b : Ref} (ho : op = 5 ∨ op = 6) {rows cols : Int} (h : (rectN op a b).row + (rectN op a b).rows ≤ rows ∧ (rectN op a b).col + (rectN op a b).cols ≤ cols) :
    (a.row < rows ∧ a.col < cols) ∧ (op = 6 → b.row < rows ∧ b.col < cols) := by
  unfold rectN at h
  split at h
  · dsimp only at h; omega
  · obtain ⟨n1, n2, n3, n4⟩ := norm_vals a b
    dsimp only at h
    rw [n1, n2, n3, n4] at h
    omega
end Go.A
