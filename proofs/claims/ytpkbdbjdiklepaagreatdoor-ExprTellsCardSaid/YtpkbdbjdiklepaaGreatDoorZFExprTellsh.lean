/- Part 8 of what ExprTells leans on: El Qh Qi CodeGi Gi Xa CodeXb Xb CodeXd Xd Hv CodeHv Hzb Hta Htd CodeRb Rb CodeRc. -/
import Derived.Test.YtpkbdbjdiklepaaGreatDoorProg
import Derived.KernelRfl
import Derived.Test.YtpkbdbjdiklepaaGreatDoorZFExprTellsg
set_option linter.defProp false
set_option linter.unusedSimpArgs false
set_option linter.unusedVariables false
set_option maxRecDepth 100000
namespace Go.A
open Go.Proofs Go.Lib
mutual
def Nd.rl : Nd → Prop
 | .mk op _ _ _ _ ks => ((op = 5 ∨ op = 6) → ks = []) ∧ Nd.rls ks
def Nd.rls : List Nd → Prop
 | [] => True
 | x :: xs => x.rl ∧ Nd.rls xs
end
theorem rls_mem : ∀ {l : List Nd}, Nd.rls l ↔ ∀ x ∈ l, x.rl
 | [] => by simp [Nd.rls]
 | x :: xs => by rw [Nd.rls, rls_mem (l := xs)]; simp
theorem nodeG_facts (p : Pt) (ks : List Nd) (hl : ks.length = cntG (opG p.op) (kkG p.n)) : ∃ o m s a b, nodeG p ks = .mk o m s a b ks ∧ nodeOk o m s a b ks.length ∧ ((o = 5 ∨ o = 6) → ks = []) := by
 have hop := opG_rng p.op
 have hkk := kkG_rng p.n
 have h3 := cntG_le (opG p.op) (kkG p.n) hkk.1
 have f1 : (opG p.op = 7 ∨ opG p.op = 8 ∨ opG p.op = 9) → ks.length = 1 := fun h => by rw [hl]; unfold cntG; rw [if_pos h]
 have f2 : (10 ≤ opG p.op ∧ opG p.op ≤ 21) → ks.length = 2 := fun h => by rw [hl]; unfold cntG; rw [if_neg (by omega), if_neg (by omega), if_pos h]
 have f3 : (opG p.op = 5 ∨ opG p.op = 6) → ks = [] := fun h => by
  have : ks.length = 0 := by rw [hl]; unfold cntG; rw [if_neg (by omega), if_neg (by omega), if_neg (by omega)]
  exact List.eq_nil_of_length_eq_zero this
 have h7 : 0 ≤ (kkG p.n).tmod 7 ∧ (kkG p.n).tmod 7 < 7 := ⟨Int.tmod_nonneg _ hkk.1, Int.tmod_lt_of_pos _ (by decide)⟩
 have hq : ((1 + (kkG p.n).tmod 7) * 10000).tdiv 10000 = 1 + (kkG p.n).tmod 7 := Int.mul_tdiv_cancel _ (by decide)
 have pa := placeR_good p.a
 have pb := placeR_good p.b
 rw [hl] at f1 f2
 have hk : ks.length ≤ 3 := by omega
 unfold nodeG nodeOk
 rw [hl]
 split
 ·refine ⟨_, _, _, _, _, rfl, ⟨by omega, fun _ => by omega, fun h => by omega, fun h => by omega, fun h => by omega, fun h => by omega, fun h => by omega, fun h => by omega, fun h => by omega, by omega⟩, fun h => by omega⟩
 split
 ·refine ⟨_, _, _, _, _, rfl, ⟨by omega, fun h => by omega, fun h => by omega, fun h => by omega, fun h => by omega, fun h => by omega, fun h => by omega, fun h => by omega, fun h => by omega, by omega⟩, fun h => by omega⟩
 split
 ·refine ⟨_, _, _, _, _, rfl, ⟨by omega, fun h => by omega, fun h => by omega, fun h => by rw [hq]; omega, fun h => by omega, fun h => by omega, fun h => by omega, fun h => by omega, fun h => by omega, by omega⟩, fun h => by omega⟩
 split
 ·refine ⟨_, _, _, _, _, rfl, ⟨by omega, fun h => by omega, fun h => ?_, fun h => by omega, fun h => by omega, fun h => by omega, fun h => by omega, fun h => by omega, fun h => by omega, by omega⟩, fun h => by omega⟩
  split
  ·rw [List.length_take]; omega
  ·simp
 split
 ·refine ⟨_, _, _, _, _, rfl, ⟨by omega, fun h => by omega, fun h => by omega, fun h => by omega, fun h => by omega, fun h => pa, fun h => by omega, fun h => by omega, fun h => by omega, by omega⟩, fun h => f3 (by omega)⟩
 split
 ·refine ⟨_, _, _, _, _, rfl, ⟨by omega, fun h => by omega, fun h => by omega, fun h => by omega, fun h => by omega, fun h => pa, fun h => pb, fun h => by omega, fun h => by omega, by omega⟩, fun h => f3 (by omega)⟩
 split
 ·refine ⟨_, _, _, _, _, rfl, ⟨by omega, fun h => by omega, fun h => by omega, fun h => by omega, fun h => by omega, fun h => by omega, fun h => by omega, fun h => by omega, fun h => by omega, by omega⟩, fun h => by omega⟩
 split
 ·refine ⟨_, _, _, _, _, rfl, ⟨by omega, fun h => by omega, fun h => by omega, fun h => by omega, fun h => ?_, fun h => by omega, fun h => by omega, fun h => by omega, fun h => by omega, by omega⟩, fun h => by omega⟩
  have hr : (kkG p.n).tmod 4 = 0 ∨ (kkG p.n).tmod 4 = 1 ∨ (kkG p.n).tmod 4 = 2 ∨ (kkG p.n).tmod 4 = 3 := by
   have := Int.tmod_nonneg 4 hkk.1
   have := Int.tmod_lt_of_pos (kkG p.n) (show (0 : Int) < 4 by decide)
   omega
  rcases hr with hr | hr | hr | hr <;> rw [hr] <;> decide
 ·refine ⟨_, _, _, _, _, rfl, ⟨by omega, fun h => by omega, fun h => by omega, fun h => by omega, fun h => by omega, fun h => by omega, fun h => by omega, fun h => by omega, fun h => by omega, by omega⟩, fun h => by omega⟩
def goodG (x : Nd) : Prop := x.ok ∧ x.rl
theorem good_leaf : goodG (.mk 1 0 [] .zero .zero []) := by
 refine ⟨?_, ?_⟩
 ·rw [Nd.ok, Nd.oks]
  refine ⟨?_, trivial⟩
  unfold nodeOk
  simp
 ·rw [Nd.rl, Nd.rls]
  exact ⟨fun _ => rfl, trivial⟩
theorem good_miss : goodG missN := by
 unfold missN
 refine ⟨?_, ?_⟩
 ·rw [Nd.ok, Nd.oks]
  refine ⟨?_, trivial⟩
  unfold nodeOk
  simp
 ·rw [Nd.rl, Nd.rls]
  exact ⟨fun _ => rfl, trivial⟩
theorem good_node (p : Pt) (ks : List Nd) (hl : ks.length = cntG (opG p.op) (kkG p.n)) (hg : ∀ x ∈ ks, goodG x) : goodG (nodeG p ks) ∧ (nodeG p ks).size = 1 + Nd.sizes ks := by
 obtain ⟨o, m, s, a, b, he, h1, h2⟩ := nodeG_facts p ks hl
 rw [he]
 refine ⟨⟨?_, ?_⟩, ?_⟩
 ·rw [Nd.ok]; exact ⟨h1, Nd.oks_mem.2 fun x hx => (hg x hx).1⟩
 ·rw [Nd.rl]; exact ⟨h2, rls_mem.2 fun x hx => (hg x hx).2⟩
 ·rw [Nd.size]
theorem miss_sizes (op kk : Int) (ks : List Nd) : Nd.sizes (missG op kk ks) ≤ Nd.sizes ks := by
 unfold missG
 split
 ·rename_i h
  cases ks with
  | nil => simp at h
  | cons x xs =>
    rw [List.tail_cons, Nd.sizes, Nd.sizes]
    have := x.size_pos
    have e : missN.size = 1 := rfl
    omega
 ·exact Nat.le_refl _
theorem miss_good (op kk : Int) (ks : List Nd) (hg : ∀ x ∈ ks, goodG x) : ∀ x ∈ missG op kk ks, goodG x := by
 unfold missG
 split
 ·intro x hx
  rcases List.mem_cons.1 hx with rfl | hx
  ·exact good_miss
  ·exact hg x (List.mem_of_mem_tail hx)
 ·exact hg
theorem growN_facts (g : Nat → Nd × Nat) (hg : ∀ i, goodG (g i).1 ∧ i ≤ (g i).2 ∧ (g i).1.size ≤ 4 * ((g i).2 - i) + 1) : ∀ c i, (∀ x ∈ (growN g c i).1, goodG x) ∧ i ≤ (growN g c i).2 ∧ Nd.sizes (growN g c i).1 ≤ 4 * ((growN g c i).2 - i) + c
 | 0, i => by rw [growN]; exact ⟨fun x hx => by simp at hx, Nat.le_refl _, by rw [Nd.sizes]; omega⟩
 | c + 1, i => by
   obtain ⟨h1, h2, h3⟩ := hg i
   obtain ⟨i1, i2, i3⟩ := growN_facts g hg c (g i).2
   rw [growN]
   refine ⟨fun x hx => ?_, by dsimp only; omega, ?_⟩
   ·rcases List.mem_cons.1 hx with rfl | hx
    ·exact h1
    ·exact i1 x hx
   ·dsimp only
    rw [Nd.sizes]
    omega
theorem growK_facts (L : List Pt) : ∀ k i, goodG (growK L k i).1 ∧ i ≤ (growK L k i).2 ∧ (growK L k i).1.size ≤ 4 * ((growK L k i).2 - i) + 1
 | 0, i => ⟨good_leaf, Nat.le_refl _, by show (1 : Nat) ≤ _; omega⟩
 | k + 1, i => by
   rw [growK]
   split
   ·exact ⟨good_leaf, Nat.le_refl _, by show (1 : Nat) ≤ _; omega⟩
   ·rename_i p hp
    obtain ⟨h1, h2, h3⟩ := growN_facts (growK L k) (growK_facts L k) (cntG (opG p.op) (kkG p.n)) (i + 1)
    have hc := cntG_le (opG p.op) (kkG p.n) (kkG_rng p.n).1
    have hl := growN_len (growK L k) (cntG (opG p.op) (kkG p.n)) (i + 1)
    generalize growN (growK L k) (cntG (opG p.op) (kkG p.n)) (i + 1) = R at *
    obtain ⟨KS, J⟩ := R
    dsimp only at *
    obtain ⟨g1, g2⟩ := good_node p (missG (opG p.op) (kkG p.n) KS) (by rw [missG_len]; exact hl) (miss_good _ _ _ h1)
    have hs := miss_sizes (opG p.op) (kkG p.n) KS
    exact ⟨g1, by omega, by rw [g2]; omega⟩
theorem growP_facts (L : List Pt) : (growP L).ok ∧ (growP L).rl ∧ (growP L).size ≤ 1000 := by
 have h := growK_facts (L.take 40) 41 0
 have h2 := growK_le (L.take 40) 40 (by rw [List.length_take]; omega) 41 0 (by omega)
 unfold growP
 exact ⟨h.1.1, h.1.2, by omega⟩
end Go.A
namespace Go.A
open Go.Proofs Go.Lib
theorem Grow_ok (L : List Pt) : Pure Tryz.prog 4 [.sl .shr (L.map Pt.av)] (growP L).av := by
 intro σ
 have hG := grow_le (L.take 40) (by rw [List.length_take]; omega) 41 0 (by rw [List.length_take]; omega) (by omega)
 have hP : (growK (L.take 40) 41 0).1 = growP L := rfl
 rw [hP] at hG
 have hmt : (L.take 40).map Pt.av = (L.map Pt.av).take 40 := List.map_take
 have hml : (L.map Pt.av).length = L.length := by simp
 rw [hmt] at hG
 generalize growP L = n at *
 obtain ⟨op, m, s, a, b, ks⟩ := n
 rw [Nd.av_cs] at hG ⊢
 generalize ks.map Nd.av = KS at *
 generalize (growK (L.take 40) 41 0).2 = J at *
 generalize hXL : L.map Pt.av = XL at *
 have e0 : ((0 : Nat) : Int) = 0 := rfl
 rw [e0] at hG
 refine a4 (by simp) ?_
 simp (disch := first | assumption | omega) only [go_sem]
 refine allocC_by fun b2 h2 => ?_
 by_cases h40 : 40 < XL.length
 ·have h40' : (40 : Int) < XL.length := by omega
  have h40t : 40 ≤ XL.length := by omega
  simp (disch := first | assumption | omega) only [go_sem, reduceCtorEq, ↓reduceIte, Int.reduceToNat, h40']
  refine hG.use ?_
  simp (disch := first | assumption | omega) only [go_sem, Nat.reduceEqDiff, ↓reduceIte]
  refine allocC_by fun b3 h3 => ?_
  repeat (with_reducible replace h3 := set_none h3; obtain ⟨_, _, h3⟩ := h3)
  simp (disch := first | assumption | omega) only [go_sem, reduceCtorEq, Nat.reduceEqDiff, Nat.reduceAdd, Nat.reduceLeDiff, ↓reduceIte, ASt.set_set]
  exact retC_by (((Drop.set h2).off (by assumption)).off h2) (.refl _) ⟨rfl, rfl⟩
 ·have h40' : ¬ (40 : Int) < XL.length := by omega
  rw [List.take_of_length_le (by omega)] at hG
  simp (disch := first | assumption | omega) only [go_sem, reduceCtorEq, ↓reduceIte, h40']
  refine hG.use ?_
  simp (disch := first | assumption | omega) only [go_sem, Nat.reduceEqDiff, ↓reduceIte]
  refine allocC_by fun b3 h3 => ?_
  repeat (with_reducible replace h3 := set_none h3; obtain ⟨_, _, h3⟩ := h3)
  simp (disch := first | assumption | omega) only [go_sem, Nat.reduceEqDiff, Nat.reduceAdd, Nat.reduceLeDiff, ↓reduceIte, ASt.set_set]
  exact retC_by (((Drop.set h2).off (by assumption)).off h2) (.refl _) ⟨rfl, rfl⟩
end Go.A
namespace Go.A
open Go.Proofs Go.Lib
/-! Great letters. -/
/-! What tokens hold. -/
/-! The parser's trees. -/
theorem op_mk (op n : Int) (s : List UInt8) (a b : Ref) (ks : List Nd) : (Nd.mk op n s a b ks).op = op := rfl
/-! Grown trees. -/
theorem sig_text {s : List UInt8} (h : (sgT s).isSome = true) : sgP s ≠ none := fun e => by
 have : sgT s = none := e
 rw [this] at h
 cases h
theorem node_nf (p : Pt) (ks : List Nd) (hl : ks.length = cntG (opG p.op) (kkG p.n)) (h : ∀ k ∈ ks, Nf k ∧ k.op ≠ 23) : Nf (nodeG p (missG (opG p.op) (kkG p.n) ks)) ∧ (nodeG p (missG (opG p.op) (kkG p.n) ks)).op ≠ 23 := by
 have ho := opG_rng p.op
 have hk := kkG_rng p.n
 have hno : opG p.op ≠ 22 → missG (opG p.op) (kkG p.n) ks = ks := fun h => by unfold missG; rw [if_neg (by omega)]
 have hnil : cntG (opG p.op) (kkG p.n) = 0 → ks = [] := fun h => List.eq_nil_of_length_eq_zero (by omega)
 unfold nodeG
 split
 ·rename_i e
  rw [hno (by omega), hnil (by rw [e]; rfl)]
  exact ⟨.num (by omega) (by omega), show (1 : Int) ≠ 23 by decide⟩
 split
 ·rename_i e
  rw [hno (by omega), hnil (by rw [e]; rfl)]
  have h1 := Int.tmod_lt_of_pos (kkG p.n) (show (0 : Int) < 2 by decide)
  have h2 := Int.tmod_nonneg (a := kkG p.n) 2 (by omega)
  exact ⟨.truth (by omega), show (3 : Int) ≠ 23 by decide⟩
 split
 ·rename_i e
  rw [hno (by omega), hnil (by rw [e]; rfl)]
  have h1 := Int.tmod_lt_of_pos (kkG p.n) (show (0 : Int) < 7 by decide)
  have h2 := Int.tmod_nonneg (a := kkG p.n) 7 (by omega)
  obtain ⟨k, hk7, hke⟩ : ∃ k : Nat, k < 7 ∧ (kkG p.n).tmod 7 = k := ⟨((kkG p.n).tmod 7).toNat, by omega, by omega⟩
  rw [hke, Int.add_comm]
  exact ⟨.fail hk7, show (4 : Int) ≠ 23 by decide⟩
 split
 ·rename_i e
  rw [hno (by omega), hnil (by rw [e]; rfl)]
  refine ⟨.text ?_ ?_, show (2 : Int) ≠ 23 by decide⟩
  ·split
   ·rename_i hs; exact sig_text hs
   ·decide
  ·split
   ·rw [List.length_take]; omega
   ·decide
 split
 ·rename_i e
  rw [hno (by omega), hnil (by rw [e]; rfl)]
  exact ⟨.cell (placeR_good _), show (5 : Int) ≠ 23 by decide⟩
 split
 ·rename_i e
  rw [hno (by omega), hnil (by rw [e]; rfl)]
  exact ⟨.area (placeR_good _) (placeR_good _), show (6 : Int) ≠ 23 by decide⟩
 split
 ·rename_i e
  rw [hno (by omega), hnil (by rw [e]; rfl)]
  exact ⟨.truth (.inl rfl), show (3 : Int) ≠ 23 by decide⟩
 split
 ·rename_i e
  have h4 := Int.tmod_lt_of_pos (kkG p.n) (show (0 : Int) < 4 by decide)
  have h0 := Int.tmod_nonneg (a := kkG p.n) 4 (by omega)
  have hm : ∀ k ∈ missG (opG p.op) (kkG p.n) ks, Nf k := by
   unfold missG
   split
   ·intro k hk
    rcases List.mem_cons.1 hk with rfl | hk
    ·exact .miss
    ·exact (h k (List.mem_of_mem_tail hk)).1
   ·exact fun k hk => (h k hk).1
  have h1 : ∀ k, missG (opG p.op) (kkG p.n) ks = [k] → k.op ≠ 23 := by
   unfold missG
   split
   ·rename_i hc
    intro k hk
    have := congrArg List.length hk
    simp only [List.length_cons, List.length_tail, List.length_nil] at this
    omega
   ·intro k hk
    exact (h k (by rw [hk]; simp)).2
  obtain ⟨j, hj, hje⟩ : ∃ j : Nat, j < 4 ∧ ((kkG p.n).tmod 4).toNat = j := ⟨_, by omega, rfl⟩
  rw [hje]
  refine ⟨.call ?_ ?_ hm h1, show (22 : Int) ≠ 23 by decide⟩
  ·match j, hj with
   | 0, _ => exact sum_name
   | 1, _ => exact if_name
   | 2, _ => exact xy_name
   | 3, _ => exact a_name
  ·match j, hj with
   | 0, _ | 1, _ | 2, _ | 3, _ => decide
 ·rename_i e1 e2 e3 e4 e5 e6 e7 e8
  rw [hno (by omega)]
  by_cases h3 : opG p.op = 7 ∨ opG p.op = 8 ∨ opG p.op = 9
  ·have hc : ks.length = 1 := by rw [hl]; unfold cntG; rw [if_pos h3]
   obtain ⟨x, rfl⟩ : ∃ x, ks = [x] := List.length_eq_one_iff.1 hc
   obtain ⟨x1, x2⟩ := h x (by simp)
   refine ⟨?_, by show opG p.op ≠ 23; omega⟩
   rcases h3 with h3 | h3 | h3
   ·rw [h3]; exact .sign (.inl rfl) x1 x2
   ·rw [h3]; exact .sign (.inr rfl) x1 x2
   ·rw [h3]; exact .hund x1 x2
  ·have hc : ks.length = 2 := by rw [hl]; unfold cntG; rw [if_neg h3, if_neg (by omega), if_pos (by omega)]
   obtain ⟨x, y, rfl⟩ : ∃ x y, ks = [x, y] := by
    match ks, hc with
    | [x, y], _ => exact ⟨x, y, rfl⟩
   obtain ⟨x1, x2⟩ := h x (by simp)
   obtain ⟨y1, y2⟩ := h y (by simp)
   obtain ⟨i, hi, hie⟩ : ∃ i : Nat, i < 12 ∧ opG p.op = 10 + i := ⟨(opG p.op - 10).toNat, by omega, by omega⟩
   rw [hie]
   exact ⟨.bin hi x1 x2 y1 y2, by show 10 + (i : Int) ≠ 23; omega⟩
theorem growN_nf (g : Nat → Nd × Nat) (hg : ∀ i, Nf (g i).1 ∧ (g i).1.op ≠ 23) : ∀ c i, ∀ k ∈ (growN g c i).1, Nf k ∧ k.op ≠ 23
 | 0, i, k, hk => by rw [growN] at hk; simp at hk
 | c + 1, i, k, hk => by
   rw [growN] at hk
   rcases List.mem_cons.1 hk with rfl | hk
   ·exact hg i
   ·exact growN_nf g hg c _ k hk
theorem growK_nf (L : List Pt) : ∀ k i, Nf (growK L k i).1 ∧ (growK L k i).1.op ≠ 23
 | 0, i => ⟨.num (by decide) (by decide), show (1 : Int) ≠ 23 by decide⟩
 | k + 1, i => by
   rw [growK]
   split
   ·exact ⟨.num (by decide) (by decide), show (1 : Int) ≠ 23 by decide⟩
   ·rename_i p hp
    exact node_nf p _ (growN_len _ _ _) (growN_nf _ (growK_nf L k) _ _)
end Go.A
namespace Go.A
open Go.Proofs Go.Lib
theorem dbl_le2 (s : List UInt8) : (dbl s).length ≤ 2 * s.length := by
 unfold dbl
 induction s with
 | nil => simp
 | cons c s ih =>
   rw [List.flatMap_cons, List.length_append, List.length_cons]
   split <;> simp only [List.length_cons, List.length_nil] <;> omega
theorem quotT_len (s : List UInt8) : (quotT s).length ≤ 2 * s.length + 2 := by
 have h : (quotT s).length = (dbl s).length + 2 := by unfold quotT dbl; simp
 have := dbl_le2 s
 omega
theorem insT_len (least op : Int) (x : List UInt8) : (insT least op x).length ≤ x.length + 2 := by
 unfold insT
 split
 ·omega
 ·simp
theorem signs_le2 : ∀ i < 12, (signL.getD i []).length ≤ 2 := by decide
theorem errL_len : ∀ k < 7, (errL.getD k []).length ≤ 7 := by decide
theorem joinS_len (ks : List Nd) (h : ∀ k ∈ ks, k.spell.length + 1 ≤ 16300 * k.size) : (joinS ks).length ≤ 16300 * Nd.sizes ks := by
 have flat : ∀ l : List Nd, (∀ k ∈ l, k.spell.length + 1 ≤ 16300 * k.size) → (l.flatMap fun k => 44 :: k.spell).length ≤ 16300 * Nd.sizes l := by
  intro l
  induction l with
  | nil => intro _; simp
  | cons x l ih =>
    intro hl
    have h1 := hl x (by simp)
    have h2 := ih fun k hk => hl k (by simp [hk])
    rw [List.flatMap_cons, List.length_append, List.length_cons, Nd.sizes]
    omega
 cases ks with
 | nil => simp [joinS]
 | cons x l =>
   have h1 := h x (by simp)
   have h2 := flat l fun k hk => h k (by simp [hk])
   rw [joinS, List.length_append, Nd.sizes]
   omega
theorem nf_spell {n : Nd} (h : Nf n) : n.spell.length + 1 ≤ 16300 * n.size := by
 induction h with
 | @num n h0 h1 =>
   have e : (Nd.mk 1 n [] .zero .zero []).spell = textD n := rfl
   have := textD_len (a := n) (by omega)
   rw [leaf_size, e]
   omega
 | @text s _ hs =>
   have e : (Nd.mk 2 0 s .zero .zero []).spell = quotT s := rfl
   have := quotT_len s
   rw [leaf_size, e]
   omega
 | @truth b hb =>
   rcases hb with rfl | rfl
   ·exact (by decide : 6 ≤ 16300 * 1)
   ·exact (by decide : 5 ≤ 16300 * 1)
 | @fail k hk =>
   have e : (Nd.mk 4 (((k : Int) + 1) * 10000) [] .zero .zero []).spell = errL.getD k [] := fail_text hk
   have := errL_len k hk
   rw [leaf_size, e]
   omega
 | @cell r hr =>
   have e : (Nd.mk 5 0 [] r .zero []).spell = textP r := rfl
   have := text_len hr
   rw [leaf_size, e]
   omega
 | @area r q hr hq =>
   have e : (Nd.mk 6 0 [] r q []).spell = textP r ++ [58] ++ textP q := rfl
   have := text_len hr
   have := text_len hq
   rw [leaf_size, e, List.length_append, List.length_append, List.length_singleton]
   omega
 | @sign op x ho hx hne ih =>
   have := insT_len 6 x.op x.spell
   rw [one_size, spell_sign ho, List.length_append, List.length_singleton]
   omega
 | @hund x hx hne ih =>
   have := insT_len 7 x.op x.spell
   rw [one_size, spell_hund, List.length_append, List.length_singleton]
   omega
 | @bin i x y hi hx hnx hy hny ihx ihy =>
   have h1 := insT_len (levelP (10 + i)) x.op x.spell
   have h2 := insT_len (levelP (10 + i) + 1) y.op y.spell
   have h3 := signs_le2 i hi
   rw [two_size, spell_bin hi, List.length_append, List.length_append]
   omega
 | @call s ks hs hl hk hm ih =>
   have h1 := joinS_len ks ih
   rw [Nd.size, spell_call, List.length_append, List.length_append, List.length_append, List.length_singleton, List.length_singleton]
   omega
 | miss => exact (by decide : 1 ≤ 16300 * 1)
end Go.A
namespace Go.A
open Go.Proofs
/-! 59: tabular/tabularref10.Letters -/
def c59_0 : ACode := .ops [
 ⟨some 2, none, .q (.mv (.v (.str []))), []⟩]
def c59_1 : ACode := .ops [
 ⟨some 5, none, .q (.mv (.t 0)), []⟩,
 ⟨some 6, none, .q (.bin .lss (.t 5) (.v (.int .i64 0))), []⟩,
 ⟨some 7, none, .q (.mv (.t 6)), []⟩,
 ⟨some 8, some (7, false), .q (.mv (.t 0)), []⟩,
 ⟨some 9, some (7, false), .q (.bin .gtr (.t 8) (.v (.int .i64 699))), []⟩,
 ⟨some 10, none, .q (.pick (.t 7) (.v (.bool true)) (.t 9)), []⟩]
def c59_2 : ACode := .ops [
 ⟨some 2, none, .q (.mv (.v (.str []))), []⟩]
def c59_3 : ACode := .seq c59_2 .ret
def c59_4 : ACode := .cond (.t 10) c59_3 .skip
def c59_5 : ACode := .seq c59_1 c59_4
def c59_6 : ACode := .ops [
 ⟨some 3, none, .q (.mv (.v (.str [65]))), []⟩]
def c59_7 : ACode := .ops [
 ⟨some 4, none, .q (.mv (.v (.int .i64 0))), []⟩]
def c59_8 : ACode := .ops [
 ⟨some 11, none, .q (.mv (.t 4)), []⟩,
 ⟨some 12, none, .q (.mv (.t 0)), []⟩,
 ⟨some 13, none, .q (.bin .lss (.t 11) (.t 12)), []⟩]
def c59_9 : ACode := .cond (.t 13) .skip (.exit 0)
def c59_10 : ACode := .seq c59_8 c59_9
def c59_11 : ACode := .ops [
 ⟨some 16, none, .q (.mv (.t 3)), []⟩,
 ⟨some 17, none, .e (.call 72 [(.t 16)]), []⟩,
 ⟨some 3, none, .q (.mv (.t 17)), []⟩]
def c59_12 : ACode := .block 1 c59_11
def c59_13 : ACode := .ops [
 ⟨some 14, none, .q (.mv (.t 4)), []⟩,
 ⟨some 15, none, .q (.bin .add (.t 14) (.v (.int .i64 1))), []⟩,
 ⟨some 4, none, .q (.mv (.t 15)), []⟩]
def c59_14 : ACode := .seq c59_12 c59_13
def c59_15 : ACode := .seq c59_10 c59_14
def c59_16 : ACode := .loop c59_15
def c59_17 : ACode := .block 0 c59_16
def c59_18 : ACode := .seq c59_7 c59_17
def c59_19 : ACode := .ops [
 ⟨some 18, none, .q (.mv (.t 3)), []⟩,
 ⟨some 2, none, .q (.mv (.t 18)), []⟩]
def c59_20 : ACode := .seq c59_19 .ret
def c59_21 : ACode := .seq c59_18 c59_20
def c59_22 : ACode := .seq c59_6 c59_21
def c59_23 : ACode := .seq c59_5 c59_22
def c59_24 : ACode := .seq c59_0 c59_23
@[go_sem] def c59_0_wp := wp_of c59_0.eq_1
@[go_sem] def c59_1_wp := wp_of c59_1.eq_1
@[go_sem] def c59_2_wp := wp_of c59_2.eq_1
@[go_sem] def c59_3_wp := wp_of c59_3.eq_1
@[go_sem] def c59_4_wp := wp_of c59_4.eq_1
@[go_sem] def c59_5_wp := wp_of c59_5.eq_1
@[go_sem] def c59_6_wp := wp_of c59_6.eq_1
@[go_sem] def c59_7_wp := wp_of c59_7.eq_1
@[go_sem] def c59_8_wp := wp_of c59_8.eq_1
@[go_sem] def c59_9_wp := wp_of c59_9.eq_1
@[go_sem] def c59_10_wp := wp_of c59_10.eq_1
@[go_sem] def c59_11_wp := wp_of c59_11.eq_1
@[go_sem] def c59_12_wp := wp_of c59_12.eq_1
@[go_sem] def c59_13_wp := wp_of c59_13.eq_1
@[go_sem] def c59_14_wp := wp_of c59_14.eq_1
@[go_sem] def c59_15_wp := wp_of c59_15.eq_1
@[go_sem] def c59_16_wp := wp_of c59_16.eq_1
@[go_sem] def c59_17_wp := wp_of c59_17.eq_1
@[go_sem] def c59_18_wp := wp_of c59_18.eq_1
@[go_sem] def c59_19_wp := wp_of c59_19.eq_1
@[go_sem] def c59_20_wp := wp_of c59_20.eq_1
@[go_sem] def c59_21_wp := wp_of c59_21.eq_1
@[go_sem] def c59_22_wp := wp_of c59_22.eq_1
@[go_sem] def c59_23_wp := wp_of c59_23.eq_1
@[go_sem] def c59_24_wp := wp_of c59_24.eq_1
def c59 : AFn := ⟨19, [.t 2], c59_24⟩
theorem c59_ok : compF Tryz.prog Tryz.f59 = some c59 := by kernel_rfl
theorem a59 {args : List AV} {σ : ASt} {R : AV → ASt → Prop} (hl : args.length ≤ 19) (h : c59_24.wp Tryz.prog (RetQ [.t 2] R) (init args) σ) : ACalls Tryz.prog 59 args σ R := acalls_of Tryz.func59 c59_ok hl h
/-! 72: tabular/tabularref10.Next -/
def c72_0 : ACode := .ops [
 ⟨some 2, none, .q (.mv (.v (.str []))), []⟩]
def c72_1 : ACode := .ops [
 ⟨some 5, none, .q (.mv (.t 0)), []⟩,
 ⟨some 6, none, .e (.s2b (.t 5)), []⟩,
 ⟨some 3, none, .q (.mv (.t 6)), []⟩]
def c72_2 : ACode := .ops [
 ⟨some 7, none, .q (.mv (.t 3)), []⟩,
 ⟨some 8, none, .q (.len (.t 7)), []⟩,
 ⟨some 9, none, .q (.bin .sub (.t 8) (.v (.int .i64 1))), []⟩,
 ⟨some 4, none, .q (.mv (.t 9)), []⟩]
def c72_3 : ACode := .ops [
 ⟨some 10, none, .q (.mv (.t 4)), []⟩,
 ⟨some 11, none, .q (.bin .geq (.t 10) (.v (.int .i64 0))), []⟩]
def c72_4 : ACode := .cond (.t 11) .skip (.exit 0)
def c72_5 : ACode := .seq c72_3 c72_4
def c72_6 : ACode := .ops [
 ⟨some 14, none, .q (.mv (.t 3)), []⟩,
 ⟨some 15, none, .q (.mv (.t 4)), []⟩,
 ⟨some 16, none, .q (.ia 1 (.t 14) (.t 15)), []⟩,
 ⟨some 17, none, .q (.ld none (.t 16)), []⟩,
 ⟨some 18, none, .q (.bin .lss (.t 17) (.v (.int .u8 90))), []⟩]
def c72_7 : ACode := .ops [
 ⟨some 19, none, .q (.mv (.t 3)), []⟩,
 ⟨some 20, none, .q (.mv (.t 4)), []⟩,
 ⟨some 21, none, .q (.ia 1 (.t 19) (.t 20)), []⟩,
 ⟨some 22, none, .q (.ld none (.t 21)), []⟩,
 ⟨some 23, none, .q (.bin .add (.t 22) (.v (.int .u8 1))), []⟩,
 ⟨some 24, none, .q (.ia 1 (.t 19) (.t 20)), []⟩,
 ⟨none, none, .e (.store 1 (.t 24) (.t 23)), []⟩]
def c72_8 : ACode := .ops [
 ⟨some 25, none, .q (.mv (.t 3)), []⟩,
 ⟨some 26, none, .q (.b2s (.t 25)), []⟩,
 ⟨some 2, none, .q (.mv (.t 26)), []⟩]
def c72_9 : ACode := .seq c72_8 .ret
def c72_10 : ACode := .seq c72_7 c72_9
def c72_11 : ACode := .cond (.t 18) c72_10 .skip
def c72_12 : ACode := .seq c72_6 c72_11
def c72_13 : ACode := .ops [
 ⟨some 27, none, .q (.mv (.t 3)), []⟩,
 ⟨some 28, none, .q (.mv (.t 4)), []⟩,
 ⟨some 29, none, .q (.ia 1 (.t 27) (.t 28)), []⟩,
 ⟨none, none, .e (.store 1 (.t 29) (.v (.int .u8 65))), []⟩]
def c72_14 : ACode := .seq c72_12 c72_13
def c72_15 : ACode := .block 1 c72_14
def c72_16 : ACode := .ops [
 ⟨some 12, none, .q (.mv (.t 4)), []⟩,
 ⟨some 13, none, .q (.bin .sub (.t 12) (.v (.int .i64 1))), []⟩,
 ⟨some 4, none, .q (.mv (.t 13)), []⟩]
def c72_17 : ACode := .seq c72_15 c72_16
def c72_18 : ACode := .seq c72_5 c72_17
def c72_19 : ACode := .loop c72_18
def c72_20 : ACode := .block 0 c72_19
def c72_21 : ACode := .seq c72_2 c72_20
def c72_22 : ACode := .ops [
 ⟨some 30, none, .q (.mv (.t 3)), []⟩,
 ⟨some 31, none, .q (.b2s (.t 30)), []⟩,
 ⟨some 32, none, .q (.bin .add (.v (.str [65])) (.t 31)), []⟩,
 ⟨some 2, none, .q (.mv (.t 32)), []⟩]
def c72_23 : ACode := .seq c72_22 .ret
def c72_24 : ACode := .seq c72_21 c72_23
def c72_25 : ACode := .seq c72_1 c72_24
def c72_26 : ACode := .seq c72_0 c72_25
@[go_sem] def c72_0_wp := wp_of c72_0.eq_1
@[go_sem] def c72_1_wp := wp_of c72_1.eq_1
@[go_sem] def c72_2_wp := wp_of c72_2.eq_1
@[go_sem] def c72_3_wp := wp_of c72_3.eq_1
@[go_sem] def c72_4_wp := wp_of c72_4.eq_1
@[go_sem] def c72_5_wp := wp_of c72_5.eq_1
@[go_sem] def c72_6_wp := wp_of c72_6.eq_1
@[go_sem] def c72_7_wp := wp_of c72_7.eq_1
@[go_sem] def c72_8_wp := wp_of c72_8.eq_1
@[go_sem] def c72_9_wp := wp_of c72_9.eq_1
@[go_sem] def c72_10_wp := wp_of c72_10.eq_1
@[go_sem] def c72_11_wp := wp_of c72_11.eq_1
@[go_sem] def c72_12_wp := wp_of c72_12.eq_1
@[go_sem] def c72_13_wp := wp_of c72_13.eq_1
@[go_sem] def c72_14_wp := wp_of c72_14.eq_1
@[go_sem] def c72_15_wp := wp_of c72_15.eq_1
@[go_sem] def c72_16_wp := wp_of c72_16.eq_1
@[go_sem] def c72_17_wp := wp_of c72_17.eq_1
@[go_sem] def c72_18_wp := wp_of c72_18.eq_1
@[go_sem] def c72_19_wp := wp_of c72_19.eq_1
@[go_sem] def c72_20_wp := wp_of c72_20.eq_1
@[go_sem] def c72_21_wp := wp_of c72_21.eq_1
@[go_sem] def c72_22_wp := wp_of c72_22.eq_1
@[go_sem] def c72_23_wp := wp_of c72_23.eq_1
@[go_sem] def c72_24_wp := wp_of c72_24.eq_1
@[go_sem] def c72_25_wp := wp_of c72_25.eq_1
@[go_sem] def c72_26_wp := wp_of c72_26.eq_1
def c72 : AFn := ⟨33, [.t 2], c72_26⟩
theorem c72_ok : compF Tryz.prog Tryz.f72 = some c72 := by kernel_rfl
theorem a72 {args : List AV} {σ : ASt} {R : AV → ASt → Prop} (hl : args.length ≤ 33) (h : c72_26.wp Tryz.prog (RetQ [.t 2] R) (init args) σ) : ACalls Tryz.prog 72 args σ R := acalls_of Tryz.func72 c72_ok hl h
end Go.A
namespace Go.A
open Go.Proofs
def nextR : List UInt8 → List UInt8
 | [] => [65]
 | c :: r => if c.toNat < 90 then UInt8.ofNat (c.toNat + 1) :: r else 65 :: nextR r
def nextP (l : List UInt8) : List UInt8 := (nextR l.reverse).reverse
theorem next_ok (l : List UInt8) (hl : l.length < 4611686018427387904) : Pure Tryz.prog 72 [.str l] (.str (nextP l)) := by
 intro σ
 obtain ⟨q, hq⟩ : ∃ q, nextP l = q := ⟨_, rfl⟩
 rw [hq]
 refine a72 (by simp) ?_
 simp (disch := first | assumption | omega) only [go_sem, reduceCtorEq, ↓reduceIte]
 refine s2b_own fun b cp hb hcp => ?_
 simp (disch := first | assumption | omega) only [go_sem, ↓reduceIte]
 refine wp_loop_on (fun (i : Nat × List UInt8) a σ' => i.1 ≤ i.2.length ∧ i.2.length = l.length ∧ (nextR (i.2.take i.1).reverse).reverse ++ i.2.drop i.1 = q ∧ (a 3 = .msl b 0 l.length cp ∧ a 4 = .int .i64 ((i.1 : Int) - 1)) ∧ σ' = σ.set b (some (.obj (bytesAV i.2))))
  (fun i => i.1) (l.length, l) ⟨Nat.le_refl _, rfl, by simpa [nextP] using hq, ?_, rfl⟩ ?_
 ·simp (disch := first | assumption | omega) only [go_sem, Nat.reduceEqDiff, ↓reduceIte]
 rintro ⟨k, m⟩ a σ1 ⟨hk, hm, hqe, hf, rfl⟩
 dsimp only at hk hm hqe hf
 cases k with
 | zero =>
   have h0 : ¬ (0 : Int) ≤ ((0 : Nat) : Int) - 1 := by omega
   have hle : l.length ≤ m.length := by omega
   have htk := bytes_all hm
   have h1 : 1 + m.length ≤ 9223372036854775807 := by omega
   simp only [List.take_zero, List.reverse_nil, nextR, List.drop_zero] at hqe
   simp (disch := first | assumption | omega) only [go_sem, Nat.reduceEqDiff, Int.reduceLE, ↓reduceIte, Int.reduceNeg, Int.reduceSub, hf, hle, htk]
   exact retC_by (by repeat' (first | exact Drop.refl _ | with_reducible refine Drop.off ?_ (by assumption))) (.refl _) ⟨by rw [← hqe]; rfl, rfl⟩
 | succ k =>
   have hlt : k < m.length := by omega
   have hidx : m[k]? = some (m[k]'hlt) := List.getElem?_eq_getElem hlt
   obtain ⟨c, hc⟩ : ∃ c, m[k]'hlt = c := ⟨_, rfl⟩
   rw [hc] at hidx
   have hcb := u8_lt c
   have h0 : (0 : Int) ≤ k := by omega
   have hi : ((k + 1 : Nat) : Int) - 1 = k := by omega
   have hi2 : (k : Int) < l.length := by omega
   have hle : k + 1 ≤ m.length := by omega
   rw [hi] at hf
   have htake : m.take (k + 1) = m.take k ++ [c] := by rw [List.take_succ_eq_append_getElem hlt, hc]
   rw [htake, List.reverse_append, List.reverse_singleton, List.singleton_append, nextR] at hqe
   by_cases h90 : c.toNat < 90
   ·have h90' : (c.toNat : Int) < 90 := by omega
    rw [if_pos h90] at hqe
    have hw := set_bytes (m := (c.toNat : Int) + 1) hlt
    rw [show (c.toNat : Int) + 1 = ((UInt8.ofNat (c.toNat + 1)).toNat : Int) by rw [u8_nat (by omega)]; omega, bytes_set] at hw
    have hw0 : (c.toNat : Int) + 1 = ((UInt8.ofNat (c.toNat + 1)).toNat : Int) := by rw [u8_nat (by omega)]; omega
    have htk := bytes_all (l := m.set k (UInt8.ofNat (c.toNat + 1))) (n := l.length) (by simp [hm])
    have hle2 : l.length ≤ m.length := by omega
    simp (disch := first | assumption | omega) only [go_sem, Nat.reduceEqDiff, ↓reduceIte, Nat.mul_one, Bool.true_and, hf, h0, hidx, h90', hle, hw0, hw, htk, List.length_set, hle2]
    refine retC_by (by repeat' (first | exact Drop.refl _ | with_reducible refine Drop.off ?_ (by assumption))) (.refl _) ⟨?_, rfl⟩
    rw [← hqe, List.reverse_cons, List.reverse_reverse, List.set_eq_take_append_cons_drop, if_pos hlt]
    simp [resV_one]
   ·have h90' : ¬ (c.toNat : Int) < 90 := by omega
    rw [if_neg h90] at hqe
    have hw := set_bytes (m := 65) hlt
    rw [show (65 : Int) = ((65 : UInt8).toNat : Int) by rfl, bytes_set] at hw
    have hw' : (bytesAV m).take k ++ [.int .u8 65] ++ (bytesAV m).drop (k + 1) = bytesAV (m.set k 65) := hw
    simp (disch := first | assumption | omega) only [go_sem, Nat.reduceEqDiff, ↓reduceIte, Nat.mul_one, Bool.true_and, hf, h0, hidx, h90', hle, hw']
    refine ⟨(k, m.set k 65), by dsimp only; omega, by simp; omega, by simp [hm], ?_, ?_, rfl⟩
    ·rw [← hqe]
     dsimp only
     rw [List.take_set_of_le (Nat.le_refl k), List.reverse_cons, List.drop_set, if_neg (by omega), Nat.sub_self]
     simp
     rw [List.drop_eq_getElem_cons hlt]
     rfl
    ·simp (disch := first | assumption | omega) only [go_sem]
theorem names_next1 : (List.range 699).all (fun i => decide (nextP (lettersP i) = lettersP (i + 1 : Nat))) = true := by decide +kernel
theorem names_next {i : Nat} (h : i < 699) : nextP (lettersP i) = lettersP (i + 1 : Nat) := by
 have := List.all_eq_true.1 names_next1 i (List.mem_range.2 h)
 simpa using this
theorem name_0 : lettersP (0 : Nat) = [65] := by decide
theorem rletters_ok (col : Int) : Pure Tryz.prog 59 [.int .i64 col] (.str (lettersP col)) := by
 intro σ
 refine a59 (by simp) ?_
 by_cases hc : col < 0 ∨ 699 < col
 ·have e : lettersP col = [] := by unfold lettersP; rw [if_pos (by omega)]
  rw [e]
  repeat' (first | (simp (disch := first | assumption | omega) only [go_sem, reduceCtorEq, Nat.reduceEqDiff, ↓reduceIte]) | with_reducible refine gC_d (fun h => ?_) (fun h => ?_) | with_reducible refine gC_dn (fun h => ?_) (fun h => ?_) | with_reducible refine condC_d (fun h => ?_) (fun h => ?_) | with_reducible refine condC_n (fun h => ?_) (fun h => ?_) | with_reducible refine condC_b (fun h => ?_) (fun h => ?_) | with_reducible refine boxC_by ?_ fun b hb => ?_)
  all_goals first | (exfalso; omega) | exact retC_by (Drop.refl _) (.refl _) ⟨rfl, rfl⟩
 ·obtain ⟨n, rfl⟩ : ∃ n : Nat, col = n := ⟨col.toNat, by omega⟩
  have h0 : ¬ (n : Int) < 0 := by omega
  have h1 : ¬ (699 : Int) < n := by omega
  simp (disch := first | assumption | omega) only [go_sem, reduceCtorEq, Nat.reduceEqDiff, ↓reduceIte, h0, h1]
  refine wp_loop_on (fun (i : Nat) a σ' => i ≤ n ∧ (a 0 = .int .i64 n ∧ a 3 = .str (lettersP i) ∧ a 4 = .int .i64 i) ∧ σ' = σ) (fun i => n - i) 0 ⟨Nat.zero_le _, ?_, rfl⟩ ?_
  ·rw [name_0]
   simp (disch := first | assumption | omega) only [go_sem, reduceCtorEq, Nat.reduceEqDiff, ↓reduceIte]
  rintro i a σ1 ⟨hi, hf, rfl⟩
  by_cases hlt : i < n
  ·have hlt' : (i : Int) < n := by omega
   simp (disch := first | assumption | omega) only [go_sem, reduceCtorEq, Nat.reduceEqDiff, ↓reduceIte, hf, hlt']
   refine (next_ok _ (by have := letters_len i; omega)).use ?_
   rw [names_next (by omega)]
   simp (disch := first | assumption | omega) only [go_sem, reduceCtorEq, Nat.reduceEqDiff, ↓reduceIte, hf]
   exact ⟨i + 1, by omega, by omega, by simp (disch := first | assumption | omega) only [go_sem], rfl⟩
  ·have hlt' : ¬ (i : Int) < n := by omega
   obtain rfl : i = n := by omega
   simp (disch := first | assumption | omega) only [go_sem, reduceCtorEq, Nat.reduceEqDiff, ↓reduceIte, hf, hlt']
   exact retC_by (Drop.refl _) (.refl _) ⟨rfl, rfl⟩
end Go.A
namespace Go.A
open Go.Proofs
theorem adec_step (n : Nat) : Lib.decDigits n = if n < 10 then [UInt8.ofNat (48 + n)] else Lib.decDigits (n / 10) ++ [UInt8.ofNat (48 + n % 10)] := by
 rw [Lib.decDigits]
 by_cases h1 : n < 10
 ·rw [dif_pos h1, if_pos h1]
 ·rw [dif_neg h1, if_neg h1]
end Go.A
namespace Go.A
open Go.Proofs
/-! 57: tabular/tabularref01.Digits -/
def c57_0 : ACode := .ops [
 ⟨some 2, none, .q (.mv (.v (.str []))), []⟩]
def c57_1 : ACode := .ops [
 ⟨some 3, none, .q (.mv (.v (.str []))), []⟩]
def c57_2 : ACode := .ops [
 ⟨some 4, none, .q (.mv (.v (.int .i64 0))), []⟩]
def c57_3 : ACode := .ops [
 ⟨some 5, none, .q (.mv (.t 4)), []⟩,
 ⟨some 6, none, .q (.bin .lss (.t 5) (.v (.int .i64 20))), []⟩,
 ⟨some 7, none, .q (.mv (.t 6)), []⟩,
 ⟨some 8, some (7, true), .q (.mv (.t 4)), []⟩,
 ⟨some 9, some (7, true), .q (.bin .eql (.t 8) (.v (.int .i64 0))), []⟩,
 ⟨some 10, some (7, true), .q (.mv (.t 9)), []⟩,
 ⟨some 11, some (10, false), .q (.mv (.t 0)), []⟩,
 ⟨some 12, some (10, false), .q (.bin .gtr (.t 11) (.v (.int .u64 0))), []⟩,
 ⟨some 13, some (7, true), .q (.pick (.t 10) (.v (.bool true)) (.t 12)), []⟩,
 ⟨some 14, none, .q (.pick (.t 7) (.t 13) (.v (.bool false))), []⟩]
def c57_4 : ACode := .cond (.t 14) .skip (.exit 0)
def c57_5 : ACode := .seq c57_3 c57_4
def c57_6 : ACode := .ops [
 ⟨some 17, none, .q (.mv (.t 0)), []⟩,
 ⟨some 18, none, .q (.bin .rem (.t 17) (.v (.int .u64 10))), []⟩,
 ⟨some 19, none, .q (.bin .add (.v (.int .u64 48)) (.t 18)), []⟩,
 ⟨some 20, none, .q (.conv .u8 (.t 19)), []⟩,
 ⟨some 21, none, .q (.bsl 1 [(.t 20)]), []⟩,
 ⟨some 22, none, .q (.b2s (.t 21)), []⟩,
 ⟨some 23, none, .q (.mv (.t 3)), []⟩,
 ⟨some 24, none, .q (.bin .add (.t 22) (.t 23)), []⟩,
 ⟨some 3, none, .q (.mv (.t 24)), []⟩]
def c57_7 : ACode := .ops [
 ⟨some 25, none, .q (.mv (.t 0)), []⟩,
 ⟨some 26, none, .q (.bin .quo (.t 25) (.v (.int .u64 10))), []⟩,
 ⟨some 0, none, .q (.mv (.t 26)), []⟩]
def c57_8 : ACode := .seq c57_6 c57_7
def c57_9 : ACode := .block 1 c57_8
def c57_10 : ACode := .ops [
 ⟨some 15, none, .q (.mv (.t 4)), []⟩,
 ⟨some 16, none, .q (.bin .add (.t 15) (.v (.int .i64 1))), []⟩,
 ⟨some 4, none, .q (.mv (.t 16)), []⟩]
def c57_11 : ACode := .seq c57_9 c57_10
def c57_12 : ACode := .seq c57_5 c57_11
def c57_13 : ACode := .loop c57_12
def c57_14 : ACode := .block 0 c57_13
def c57_15 : ACode := .seq c57_2 c57_14
def c57_16 : ACode := .ops [
 ⟨some 27, none, .q (.mv (.t 3)), []⟩,
 ⟨some 2, none, .q (.mv (.t 27)), []⟩]
def c57_17 : ACode := .seq c57_16 .ret
def c57_18 : ACode := .seq c57_15 c57_17
def c57_19 : ACode := .seq c57_1 c57_18
def c57_20 : ACode := .seq c57_0 c57_19
@[go_sem] def c57_0_wp := wp_of c57_0.eq_1
@[go_sem] def c57_1_wp := wp_of c57_1.eq_1
@[go_sem] def c57_2_wp := wp_of c57_2.eq_1
@[go_sem] def c57_3_wp := wp_of c57_3.eq_1
@[go_sem] def c57_4_wp := wp_of c57_4.eq_1
@[go_sem] def c57_5_wp := wp_of c57_5.eq_1
@[go_sem] def c57_6_wp := wp_of c57_6.eq_1
@[go_sem] def c57_7_wp := wp_of c57_7.eq_1
@[go_sem] def c57_8_wp := wp_of c57_8.eq_1
@[go_sem] def c57_9_wp := wp_of c57_9.eq_1
@[go_sem] def c57_10_wp := wp_of c57_10.eq_1
@[go_sem] def c57_11_wp := wp_of c57_11.eq_1
@[go_sem] def c57_12_wp := wp_of c57_12.eq_1
@[go_sem] def c57_13_wp := wp_of c57_13.eq_1
@[go_sem] def c57_14_wp := wp_of c57_14.eq_1
@[go_sem] def c57_15_wp := wp_of c57_15.eq_1
@[go_sem] def c57_16_wp := wp_of c57_16.eq_1
@[go_sem] def c57_17_wp := wp_of c57_17.eq_1
@[go_sem] def c57_18_wp := wp_of c57_18.eq_1
@[go_sem] def c57_19_wp := wp_of c57_19.eq_1
@[go_sem] def c57_20_wp := wp_of c57_20.eq_1
def c57 : AFn := ⟨28, [.t 2], c57_20⟩
theorem c57_ok : compF Tryz.prog Tryz.f57 = some c57 := by kernel_rfl
theorem a57 {args : List AV} {σ : ASt} {R : AV → ASt → Prop} (hl : args.length ≤ 28) (h : c57_20.wp Tryz.prog (RetQ [.t 2] R) (init args) σ) : ACalls Tryz.prog 57 args σ R := acalls_of Tryz.func57 c57_ok hl h
end Go.A
namespace Go.A
open Go.Proofs
theorem adigits_ok (n : Nat) (hn : n < 18446744073709551616) : Pure Tryz.prog 57 [.int .u64 n] (.str (Lib.decDigits n)) := by
 intro σ
 refine a57 (by simp) ?_
 obtain ⟨D, hD⟩ : ∃ D, Lib.decDigits n = D := ⟨_, rfl⟩
 rw [hD]
 simp (disch := first | assumption | omega) only [go_sem]
 refine wp_loop_on (fun (i : Nat × Nat × List UInt8) a σ' => i.1 ≤ 20 ∧ i.2.1 ≤ n ∧ i.2.1 < 10 ^ (20 - i.1) ∧ i.2.2.length = i.1 ∧ ((i.1 = 0 ∧ Lib.decDigits i.2.1 = D) ∨ (0 < i.1 ∧ (if i.2.1 = 0 then [] else Lib.decDigits i.2.1) ++ i.2.2 = D)) ∧ (a 0 = .int .u64 i.2.1 ∧ a 3 = .str i.2.2 ∧ a 4 = .int .i64 i.1) ∧ σ' = σ)
  (fun i => 20 - i.1) (0, n, []) ⟨by simp, Nat.le_refl _, by simp; omega, rfl, .inl ⟨rfl, hD⟩, ?_, rfl⟩ ?_
 ·simp (disch := first | assumption | omega) only [go_sem, reduceCtorEq, Nat.reduceEqDiff, ↓reduceIte]
 rintro ⟨i, m, s⟩ a σ1 ⟨hi, hmn, hm, hs, hx, ⟨f0, f3, f4⟩, rfl⟩
 dsimp only at hi hmn hm hs hx f0 f3 f4
 by_cases hend : i = 20 ∨ (0 < i ∧ m = 0)
 ·have hsD : s = D := by
   rcases hx with ⟨h1, h2⟩ | ⟨h1, h2⟩
   ·omega
   ·have : m = 0 := by
     rcases hend with rfl | h
     ·simpa using hm
     ·exact h.2
    rw [if_pos this] at h2
    exact h2
  by_cases h20 : i = 20
  ·have e1 : ¬ (i : Int) < 20 := by omega
   simp (disch := first | assumption | omega) only [go_sem, Nat.reduceEqDiff, ↓reduceIte, f3, f4, e1]
   exact retC_by (Drop.refl _) (.refl _) ⟨by rw [← hsD]; rfl, rfl⟩
  ·have e1 : (i : Int) < 20 := by omega
   have e2 : ¬ (i : Int) = 0 := by omega
   have e3 : ¬ (0 : Int) < m := by omega
   simp (disch := first | assumption | omega) only [go_sem, reduceCtorEq, Nat.reduceEqDiff, ↓reduceIte, f0, f3, f4, e1, e2, e3]
   exact retC_by (Drop.refl _) (.refl _) ⟨by rw [← hsD]; rfl, rfl⟩
 ·have e1 : (i : Int) < 20 := by omega
  have t1 : (m : Int).tmod 10 = ((m % 10 : Nat) : Int) := rfl
  have t2 : (m : Int).tdiv 10 = ((m / 10 : Nat) : Int) := rfl
  have e4 : (48 + ((m % 10 : Nat) : Int)).toNat = 48 + m % 10 := by omega
  have hs1 : 1 + s.length ≤ 9223372036854775807 := by omega
  have hstep : (0 < i → m ≠ 0) → (if m / 10 = 0 then [] else Lib.decDigits (m / 10)) ++ (UInt8.ofNat (48 + m % 10) :: s) = Lib.decDigits m ++ s := by
   intro _
   rw [adec_step m]
   by_cases h10 : m < 10
   ·rw [if_pos h10, if_pos (by omega), show m % 10 = m by omega]; rfl
   ·rw [if_neg h10, if_neg (by omega)]; simp
  have g2 : m / 10 < 10 ^ (20 - (i + 1)) := by
   rw [show 20 - i = (20 - (i + 1)) + 1 by omega, Nat.pow_succ] at hm
   omega
  have g4 : (if m / 10 = 0 then [] else Lib.decDigits (m / 10)) ++ (UInt8.ofNat (48 + m % 10) :: s) = D := by
   rw [hstep (by omega)]
   rcases hx with ⟨h1, h2⟩ | ⟨h1, h2⟩
   ·subst h1
    rw [List.eq_nil_of_length_eq_zero hs, List.append_nil]
    exact h2
   ·rw [if_neg (by omega)] at h2
    exact h2
  by_cases h0 : i = 0
  ·subst h0
   simp (disch := first | assumption | omega) only [go_sem, reduceCtorEq, Nat.reduceEqDiff, Nat.reduceSub, Int.reduceLT, ↓reduceIte, Int.reduceAdd, Bool.true_and, f0, f3, f4, t1, t2, e4]
   exact ⟨(0 + 1, m / 10, UInt8.ofNat (48 + m % 10) :: s), by dsimp only; omega, by dsimp only; omega, by dsimp only; omega, g2, by simp [hs], .inr ⟨by dsimp only; omega, g4⟩, rfl, rfl, rfl⟩
  ·have e2 : ¬ (i : Int) = 0 := by omega
   have e3 : (0 : Int) < m := by omega
   simp (disch := first | assumption | omega) only [go_sem, reduceCtorEq, Nat.reduceEqDiff, ↓reduceIte, Bool.true_and, f0, f3, f4, e1, e2, e3, t1, t2, e4]
   exact ⟨(i + 1, m / 10, UInt8.ofNat (48 + m % 10) :: s), by dsimp only; omega, by dsimp only; omega, by dsimp only; omega, g2, by simp [hs], .inr ⟨by dsimp only; omega, g4⟩, rfl, rfl, rfl⟩
end Go.A
namespace Go.A
open Go.Proofs
/-! 29: tabular/tabularref10.Text -/
def c29_0 : ACode := .ops [
 ⟨some 1, none, .e (.box (.t 0)), []⟩,
 ⟨some 2, none, .q (.mv (.v (.str []))), []⟩]
def c29_1 : ACode := .ops [
 ⟨some 3, none, .q (.mv (.v (.str []))), []⟩]
def c29_2 : ACode := .ops [
 ⟨some 4, none, .q (.fa 3 (.t 1)), []⟩,
 ⟨some 5, none, .q (.ld none (.t 4)), []⟩]
def c29_3 : ACode := .ops [
 ⟨some 3, none, .q (.mv (.v (.str [36]))), []⟩]
def c29_4 : ACode := .cond (.t 5) c29_3 .skip
def c29_5 : ACode := .seq c29_2 c29_4
def c29_6 : ACode := .ops [
 ⟨some 6, none, .q (.mv (.t 3)), []⟩,
 ⟨some 7, none, .q (.fa 1 (.t 1)), []⟩,
 ⟨some 8, none, .q (.ld none (.t 7)), []⟩,
 ⟨some 9, none, .e (.call 59 [(.t 8)]), []⟩,
 ⟨some 10, none, .q (.bin .add (.t 6) (.t 9)), []⟩,
 ⟨some 3, none, .q (.mv (.t 10)), []⟩]
def c29_7 : ACode := .ops [
 ⟨some 11, none, .q (.fa 2 (.t 1)), []⟩,
 ⟨some 12, none, .q (.ld none (.t 11)), []⟩]
def c29_8 : ACode := .ops [
 ⟨some 13, none, .q (.mv (.t 3)), []⟩,
 ⟨some 14, none, .q (.bin .add (.t 13) (.v (.str [36]))), []⟩,
 ⟨some 3, none, .q (.mv (.t 14)), []⟩]
def c29_9 : ACode := .cond (.t 12) c29_8 .skip
def c29_10 : ACode := .seq c29_7 c29_9
def c29_11 : ACode := .ops [
 ⟨some 15, none, .q (.mv (.t 3)), []⟩,
 ⟨some 16, none, .q (.fa 0 (.t 1)), []⟩,
 ⟨some 17, none, .q (.ld none (.t 16)), []⟩,
 ⟨some 18, none, .q (.bin .add (.t 17) (.v (.int .i64 1))), []⟩,
 ⟨some 19, none, .q (.conv .u64 (.t 18)), []⟩,
 ⟨some 20, none, .e (.call 57 [(.t 19)]), []⟩,
 ⟨some 21, none, .q (.bin .add (.t 15) (.t 20)), []⟩,
 ⟨some 2, none, .q (.mv (.t 21)), []⟩]
def c29_12 : ACode := .seq c29_11 .ret
def c29_13 : ACode := .seq c29_10 c29_12
def c29_14 : ACode := .seq c29_6 c29_13
def c29_15 : ACode := .seq c29_5 c29_14
def c29_16 : ACode := .seq c29_1 c29_15
def c29_17 : ACode := .seq c29_0 c29_16
@[go_sem] def c29_0_wp := wp_of c29_0.eq_1
@[go_sem] def c29_1_wp := wp_of c29_1.eq_1
@[go_sem] def c29_2_wp := wp_of c29_2.eq_1
@[go_sem] def c29_3_wp := wp_of c29_3.eq_1
@[go_sem] def c29_4_wp := wp_of c29_4.eq_1
@[go_sem] def c29_5_wp := wp_of c29_5.eq_1
@[go_sem] def c29_6_wp := wp_of c29_6.eq_1
@[go_sem] def c29_7_wp := wp_of c29_7.eq_1
@[go_sem] def c29_8_wp := wp_of c29_8.eq_1
@[go_sem] def c29_9_wp := wp_of c29_9.eq_1
@[go_sem] def c29_10_wp := wp_of c29_10.eq_1
@[go_sem] def c29_11_wp := wp_of c29_11.eq_1
@[go_sem] def c29_12_wp := wp_of c29_12.eq_1
@[go_sem] def c29_13_wp := wp_of c29_13.eq_1
@[go_sem] def c29_14_wp := wp_of c29_14.eq_1
@[go_sem] def c29_15_wp := wp_of c29_15.eq_1
@[go_sem] def c29_16_wp := wp_of c29_16.eq_1
@[go_sem] def c29_17_wp := wp_of c29_17.eq_1
def c29 : AFn := ⟨22, [.t 2], c29_17⟩
theorem c29_ok : compF Tryz.prog Tryz.f29 = some c29 := by kernel_rfl
theorem a29 {args : List AV} {σ : ASt} {R : AV → ASt → Prop} (hl : args.length ≤ 22) (h : c29_17.wp Tryz.prog (RetQ [.t 2] R) (init args) σ) : ACalls Tryz.prog 29 args σ R := acalls_of Tryz.func29 c29_ok hl h
end Go.A
namespace Go.A
open Go.Proofs
theorem reftext_ok {r : Ref} (hg : r.good = true) : Pure Tryz.prog 29 [refAV r] (.str (textP r)) := by
 intro σ
 have hg' := hg
 simp only [Ref.good, decide_eq_true_eq] at hg'
 obtain ⟨g1, g2, g3, g4⟩ := hg'
 have hl := letters_len r.col
 have hn := (num_facts g1 g2).2.2.2.1
 have hd := adigits_ok (r.row + 1).toNat (by omega)
 rw [digF_eq 3 _ (by omega)] at hd
 have hd : Pure Tryz.prog 57 [.int .u64 ((r.row + 1).toNat : Int)] (.str (numT r.row)) := hd
 rw [show (((r.row + 1).toNat : Nat) : Int) = r.row + 1 by omega] at hd
 obtain ⟨l, hlq⟩ : ∃ l, textP r = l := ⟨_, rfl⟩
 rw [hlq]
 unfold textP at hlq
 obtain ⟨row, col, ar, ac⟩ := r
 dsimp only at *
 refine a29 (by simp) ?_
 simp (disch := first | assumption | omega | (simp only [List.length_append, List.length_cons, List.length_nil]; omega)) only [go_sem, refAV]
 refine boxC_by rfl fun b hb => ?_
 cases ac <;> cases ar <;> simp only [dolP, if_true, Bool.false_eq_true, if_false, List.nil_append, List.append_nil, List.append_assoc] at hlq
 all_goals simp (disch := first | assumption | omega | (simp only [List.length_append, List.length_cons, List.length_nil]; omega)) only [go_sem, Nat.reduceEqDiff, ↓reduceIte]
 all_goals refine (rletters_ok _).use ?_
 all_goals simp (disch := first | assumption | omega | (simp only [List.length_append, List.length_cons, List.length_nil]; omega)) only [go_sem, Nat.reduceEqDiff, ↓reduceIte]
 all_goals refine hd.use ?_
 all_goals simp (disch := first | assumption | omega | (simp only [List.length_append, List.length_cons, List.length_nil]; omega)) only [go_sem, Nat.reduceEqDiff, ↓reduceIte]
 all_goals exact retC_by (by repeat' (first | exact Drop.refl _ | with_reducible refine Drop.off ?_ (by assumption))) (.refl _) ⟨by rw [← hlq, resV_one]; first | done | simp, rfl⟩
end Go.A
namespace Go.A
open Go.Proofs
theorem dec_step (n : Nat) : Lib.decDigits n = if n < 10 then [UInt8.ofNat (48 + n)] else Lib.decDigits (n / 10) ++ [UInt8.ofNat (48 + n % 10)] := by
 rw [Lib.decDigits]
 by_cases h1 : n < 10
 ·rw [dif_pos h1, if_pos h1]
 ·rw [dif_neg h1, if_neg h1]
theorem rdigits_ok (n : Nat) (hn : n < 18446744073709551616) : Pure Tryz.prog 57 [.int .u64 n] (.str (Lib.decDigits n)) := by
 intro σ
 refine a57 (by simp) ?_
 obtain ⟨D, hD⟩ : ∃ D, Lib.decDigits n = D := ⟨_, rfl⟩
 rw [hD]
 simp (disch := first | assumption | omega) only [go_sem]
 refine wp_loop_on (fun (i : Nat × Nat × List UInt8) a σ' => i.1 ≤ 20 ∧ i.2.1 ≤ n ∧ i.2.1 < 10 ^ (20 - i.1) ∧ i.2.2.length = i.1 ∧ ((i.1 = 0 ∧ Lib.decDigits i.2.1 = D) ∨ (0 < i.1 ∧ (if i.2.1 = 0 then [] else Lib.decDigits i.2.1) ++ i.2.2 = D)) ∧ (a 0 = .int .u64 i.2.1 ∧ a 3 = .str i.2.2 ∧ a 4 = .int .i64 i.1) ∧ σ' = σ)
  (fun i => 20 - i.1) (0, n, []) ⟨by simp, Nat.le_refl _, by simp; omega, rfl, .inl ⟨rfl, hD⟩, ?_, rfl⟩ ?_
 ·simp (disch := first | assumption | omega) only [go_sem, reduceCtorEq, Nat.reduceEqDiff, ↓reduceIte]
 rintro ⟨i, m, s⟩ a σ1 ⟨hi, hmn, hm, hs, hx, ⟨f0, f3, f4⟩, rfl⟩
 dsimp only at hi hmn hm hs hx f0 f3 f4
 by_cases hend : i = 20 ∨ (0 < i ∧ m = 0)
 ·have hsD : s = D := by
   rcases hx with ⟨h1, h2⟩ | ⟨h1, h2⟩
   ·omega
   ·have : m = 0 := by
     rcases hend with rfl | h
     ·simpa using hm
     ·exact h.2
    rw [if_pos this] at h2
    exact h2
  by_cases h20 : i = 20
  ·have e1 : ¬ (i : Int) < 20 := by omega
   simp (disch := first | assumption | omega) only [go_sem, Nat.reduceEqDiff, ↓reduceIte, f3, f4, e1]
   exact retC_by (Drop.refl _) (.refl _) ⟨by rw [← hsD]; rfl, rfl⟩
  ·have e1 : (i : Int) < 20 := by omega
   have e2 : ¬ (i : Int) = 0 := by omega
   have e3 : ¬ (0 : Int) < m := by omega
   simp (disch := first | assumption | omega) only [go_sem, reduceCtorEq, Nat.reduceEqDiff, ↓reduceIte, f0, f3, f4, e1, e2, e3]
   exact retC_by (Drop.refl _) (.refl _) ⟨by rw [← hsD]; rfl, rfl⟩
 ·have e1 : (i : Int) < 20 := by omega
  have t1 : (m : Int).tmod 10 = ((m % 10 : Nat) : Int) := rfl
  have t2 : (m : Int).tdiv 10 = ((m / 10 : Nat) : Int) := rfl
  have e4 : (48 + ((m % 10 : Nat) : Int)).toNat = 48 + m % 10 := by omega
  have hs1 : 1 + s.length ≤ 9223372036854775807 := by omega
  have hstep : (0 < i → m ≠ 0) → (if m / 10 = 0 then [] else Lib.decDigits (m / 10)) ++ (UInt8.ofNat (48 + m % 10) :: s) = Lib.decDigits m ++ s := by
   intro _
   rw [dec_step m]
   by_cases h10 : m < 10
   ·rw [if_pos h10, if_pos (by omega), show m % 10 = m by omega]; rfl
   ·rw [if_neg h10, if_neg (by omega)]; simp
  have g2 : m / 10 < 10 ^ (20 - (i + 1)) := by
   rw [show 20 - i = (20 - (i + 1)) + 1 by omega, Nat.pow_succ] at hm
   omega
  have g4 : (if m / 10 = 0 then [] else Lib.decDigits (m / 10)) ++ (UInt8.ofNat (48 + m % 10) :: s) = D := by
   rw [hstep (by omega)]
   rcases hx with ⟨h1, h2⟩ | ⟨h1, h2⟩
   ·subst h1
    rw [List.eq_nil_of_length_eq_zero hs, List.append_nil]
    exact h2
   ·rw [if_neg (by omega)] at h2
    exact h2
  by_cases h0 : i = 0
  ·subst h0
   simp (disch := first | assumption | omega) only [go_sem, reduceCtorEq, Nat.reduceEqDiff, Nat.reduceSub, Int.reduceLT, ↓reduceIte, Int.reduceAdd, Bool.true_and, f0, f3, f4, t1, t2, e4]
   exact ⟨(0 + 1, m / 10, UInt8.ofNat (48 + m % 10) :: s), by dsimp only; omega, by dsimp only; omega, by dsimp only; omega, g2, by simp [hs], .inr ⟨by dsimp only; omega, g4⟩, rfl, rfl, rfl⟩
  ·have e2 : ¬ (i : Int) = 0 := by omega
   have e3 : (0 : Int) < m := by omega
   simp (disch := first | assumption | omega) only [go_sem, reduceCtorEq, Nat.reduceEqDiff, ↓reduceIte, Bool.true_and, f0, f3, f4, e1, e2, e3, t1, t2, e4]
   exact ⟨(i + 1, m / 10, UInt8.ofNat (48 + m % 10) :: s), by dsimp only; omega, by dsimp only; omega, by dsimp only; omega, g2, by simp [hs], .inr ⟨by dsimp only; omega, g4⟩, rfl, rfl, rfl⟩
end Go.A
namespace Go.A
open Go.Proofs
def padP (s : List UInt8) (n : Nat) : List UInt8 := List.replicate (n + 1 - s.length) 48 ++ s
theorem padP_more {s : List UInt8} {n : Nat} (h : s.length ≤ n) : padP (48 :: s) n = padP s n := by
 unfold padP
 rw [List.length_cons, show n + 1 - s.length = (n + 1 - (s.length + 1)) + 1 by omega, List.replicate_succ', List.append_assoc]
 rfl
theorem padP_done {s : List UInt8} {n : Nat} (h : n < s.length) : padP s n = s := by
 unfold padP
 rw [show n + 1 - s.length = 0 by omega]
 rfl
end Go.A
namespace Go.A
open Go.Proofs
/-! 27: tabular/tabularref01.Text -/
def c27_0 : ACode := .ops [
 ⟨some 2, none, .q (.mv (.v (.str []))), []⟩]
def c27_1 : ACode := .ops [
 ⟨some 6, none, .q (.mv (.t 0)), []⟩,
 ⟨some 7, none, .e (.call 58 [(.t 6)]), []⟩,
 ⟨some 8, none, .e (.call 57 [(.t 7)]), []⟩,
 ⟨some 3, none, .q (.mv (.t 8)), []⟩]
def c27_2 : ACode := .ops [
 ⟨some 9, none, .q (.mv (.t 3)), []⟩,
 ⟨some 10, none, .q (.lenS (.t 9)), []⟩,
 ⟨some 11, none, .q (.bin .lss (.t 10) (.v (.int .i64 5))), []⟩]
def c27_3 : ACode := .cond (.t 11) .skip (.exit 0)
def c27_4 : ACode := .seq c27_2 c27_3
def c27_5 : ACode := .ops [
 ⟨some 12, none, .q (.mv (.t 3)), []⟩,
 ⟨some 13, none, .q (.bin .add (.v (.str [48])) (.t 12)), []⟩,
 ⟨some 3, none, .q (.mv (.t 13)), []⟩]
def c27_6 : ACode := .block 1 c27_5
def c27_7 : ACode := .seq c27_4 c27_6
def c27_8 : ACode := .loop c27_7
def c27_9 : ACode := .block 0 c27_8
def c27_10 : ACode := .ops [
 ⟨some 14, none, .q (.mv (.t 3)), []⟩,
 ⟨some 15, none, .q (.mv (.t 3)), []⟩,
 ⟨some 16, none, .q (.lenS (.t 15)), []⟩,
 ⟨some 17, none, .q (.bin .sub (.t 16) (.v (.int .i64 4))), []⟩,
 ⟨some 18, none, .q (.slto (true, 0) (.t 14) (.t 17)), []⟩,
 ⟨some 19, none, .q (.mv (.t 3)), []⟩,
 ⟨some 20, none, .q (.mv (.t 3)), []⟩,
 ⟨some 21, none, .q (.lenS (.t 20)), []⟩,
 ⟨some 22, none, .q (.bin .sub (.t 21) (.v (.int .i64 4))), []⟩,
 ⟨some 23, none, .q (.slfrom (true, 0) (.t 19) (.t 22)), []⟩,
 ⟨some 4, none, .q (.mv (.t 18)), []⟩,
 ⟨some 5, none, .q (.mv (.t 23)), []⟩]
def c27_11 : ACode := .ops [
 ⟨some 24, none, .q (.mv (.t 5)), []⟩,
 ⟨some 25, none, .q (.lenS (.t 24)), []⟩,
 ⟨some 26, none, .q (.bin .gtr (.t 25) (.v (.int .i64 0))), []⟩,
 ⟨some 27, none, .q (.mv (.t 26)), []⟩,
 ⟨some 28, some (27, true), .q (.mv (.t 5)), []⟩,
 ⟨some 29, some (27, true), .q (.mv (.t 5)), []⟩,
 ⟨some 30, some (27, true), .q (.lenS (.t 29)), []⟩,
 ⟨some 31, some (27, true), .q (.bin .sub (.t 30) (.v (.int .i64 1))), []⟩,
 ⟨some 32, some (27, true), .q (.idx (.t 28) (.t 31)), []⟩,
 ⟨some 33, some (27, true), .q (.bin .eql (.t 32) (.v (.int .u8 48))), []⟩,
 ⟨some 34, none, .q (.pick (.t 27) (.t 33) (.v (.bool false))), []⟩]
def c27_12 : ACode := .cond (.t 34) .skip (.exit 2)
def c27_13 : ACode := .seq c27_11 c27_12
def c27_14 : ACode := .ops [
 ⟨some 35, none, .q (.mv (.t 5)), []⟩,
 ⟨some 36, none, .q (.mv (.t 5)), []⟩,
 ⟨some 37, none, .q (.lenS (.t 36)), []⟩,
 ⟨some 38, none, .q (.bin .sub (.t 37) (.v (.int .i64 1))), []⟩,
 ⟨some 39, none, .q (.slto (true, 0) (.t 35) (.t 38)), []⟩,
 ⟨some 5, none, .q (.mv (.t 39)), []⟩]
def c27_15 : ACode := .block 3 c27_14
def c27_16 : ACode := .seq c27_13 c27_15
def c27_17 : ACode := .loop c27_16
def c27_18 : ACode := .block 2 c27_17
def c27_19 : ACode := .ops [
 ⟨some 40, none, .q (.mv (.t 5)), []⟩,
 ⟨some 41, none, .q (.lenS (.t 40)), []⟩,
 ⟨some 42, none, .q (.bin .gtr (.t 41) (.v (.int .i64 0))), []⟩]
def c27_20 : ACode := .ops [
 ⟨some 43, none, .q (.mv (.t 4)), []⟩,
 ⟨some 44, none, .q (.mv (.t 5)), []⟩,
 ⟨some 45, none, .q (.bin .add (.v (.str [46])) (.t 44)), []⟩,
 ⟨some 46, none, .q (.bin .add (.t 43) (.t 45)), []⟩,
 ⟨some 4, none, .q (.mv (.t 46)), []⟩]
def c27_21 : ACode := .cond (.t 42) c27_20 .skip
def c27_22 : ACode := .seq c27_19 c27_21
def c27_23 : ACode := .ops [
 ⟨some 47, none, .q (.mv (.t 0)), []⟩,
 ⟨some 48, none, .q (.bin .lss (.t 47) (.v (.int .i64 0))), []⟩]
def c27_24 : ACode := .ops [
 ⟨some 49, none, .q (.mv (.t 4)), []⟩,
 ⟨some 50, none, .q (.bin .add (.v (.str [45])) (.t 49)), []⟩,
 ⟨some 2, none, .q (.mv (.t 50)), []⟩]
def c27_25 : ACode := .seq c27_24 .ret
def c27_26 : ACode := .cond (.t 48) c27_25 .skip
def c27_27 : ACode := .seq c27_23 c27_26
def c27_28 : ACode := .ops [
 ⟨some 51, none, .q (.mv (.t 4)), []⟩,
 ⟨some 2, none, .q (.mv (.t 51)), []⟩]
def c27_29 : ACode := .seq c27_28 .ret
def c27_30 : ACode := .seq c27_27 c27_29
def c27_31 : ACode := .seq c27_22 c27_30
def c27_32 : ACode := .seq c27_18 c27_31
def c27_33 : ACode := .seq c27_10 c27_32
def c27_34 : ACode := .seq c27_9 c27_33
def c27_35 : ACode := .seq c27_1 c27_34
def c27_36 : ACode := .seq c27_0 c27_35
@[go_sem] def c27_0_wp := wp_of c27_0.eq_1
@[go_sem] def c27_1_wp := wp_of c27_1.eq_1
@[go_sem] def c27_2_wp := wp_of c27_2.eq_1
@[go_sem] def c27_3_wp := wp_of c27_3.eq_1
@[go_sem] def c27_4_wp := wp_of c27_4.eq_1
@[go_sem] def c27_5_wp := wp_of c27_5.eq_1
@[go_sem] def c27_6_wp := wp_of c27_6.eq_1
@[go_sem] def c27_7_wp := wp_of c27_7.eq_1
@[go_sem] def c27_8_wp := wp_of c27_8.eq_1
@[go_sem] def c27_9_wp := wp_of c27_9.eq_1
@[go_sem] def c27_10_wp := wp_of c27_10.eq_1
@[go_sem] def c27_11_wp := wp_of c27_11.eq_1
@[go_sem] def c27_12_wp := wp_of c27_12.eq_1
@[go_sem] def c27_13_wp := wp_of c27_13.eq_1
@[go_sem] def c27_14_wp := wp_of c27_14.eq_1
@[go_sem] def c27_15_wp := wp_of c27_15.eq_1
@[go_sem] def c27_16_wp := wp_of c27_16.eq_1
@[go_sem] def c27_17_wp := wp_of c27_17.eq_1
@[go_sem] def c27_18_wp := wp_of c27_18.eq_1
@[go_sem] def c27_19_wp := wp_of c27_19.eq_1
@[go_sem] def c27_20_wp := wp_of c27_20.eq_1
@[go_sem] def c27_21_wp := wp_of c27_21.eq_1
@[go_sem] def c27_22_wp := wp_of c27_22.eq_1
@[go_sem] def c27_23_wp := wp_of c27_23.eq_1
@[go_sem] def c27_24_wp := wp_of c27_24.eq_1
@[go_sem] def c27_25_wp := wp_of c27_25.eq_1
@[go_sem] def c27_26_wp := wp_of c27_26.eq_1
@[go_sem] def c27_27_wp := wp_of c27_27.eq_1
@[go_sem] def c27_28_wp := wp_of c27_28.eq_1
@[go_sem] def c27_29_wp := wp_of c27_29.eq_1
@[go_sem] def c27_30_wp := wp_of c27_30.eq_1
@[go_sem] def c27_31_wp := wp_of c27_31.eq_1
@[go_sem] def c27_32_wp := wp_of c27_32.eq_1
@[go_sem] def c27_33_wp := wp_of c27_33.eq_1
@[go_sem] def c27_34_wp := wp_of c27_34.eq_1
@[go_sem] def c27_35_wp := wp_of c27_35.eq_1
@[go_sem] def c27_36_wp := wp_of c27_36.eq_1
def c27 : AFn := ⟨52, [.t 2], c27_36⟩
theorem c27_ok : compF Tryz.prog Tryz.f27 = some c27 := by kernel_rfl
theorem a27 {args : List AV} {σ : ASt} {R : AV → ASt → Prop} (hl : args.length ≤ 52) (h : c27_36.wp Tryz.prog (RetQ [.t 2] R) (init args) σ) : ACalls Tryz.prog 27 args σ R := acalls_of Tryz.func27 c27_ok hl h
/-! 58: tabular/tabularref01.Size -/
def c58_0 : ACode := .ops [
 ⟨some 2, none, .q (.mv (.v (.int .u64 0))), []⟩]
def c58_1 : ACode := .ops [
 ⟨some 3, none, .q (.mv (.t 0)), []⟩,
 ⟨some 4, none, .q (.bin .lss (.t 3) (.v (.int .i64 0))), []⟩]
def c58_2 : ACode := .ops [
 ⟨some 5, none, .q (.mv (.t 0)), []⟩,
 ⟨some 6, none, .q (.bin .add (.t 5) (.v (.int .i64 1))), []⟩,
 ⟨some 7, none, .q (.un .neg (.t 6)), []⟩,
 ⟨some 8, none, .q (.conv .u64 (.t 7)), []⟩,
 ⟨some 9, none, .q (.bin .add (.t 8) (.v (.int .u64 1))), []⟩,
 ⟨some 2, none, .q (.mv (.t 9)), []⟩]
def c58_3 : ACode := .seq c58_2 .ret
def c58_4 : ACode := .cond (.t 4) c58_3 .skip
def c58_5 : ACode := .seq c58_1 c58_4
def c58_6 : ACode := .ops [
 ⟨some 10, none, .q (.mv (.t 0)), []⟩,
 ⟨some 11, none, .q (.conv .u64 (.t 10)), []⟩,
 ⟨some 2, none, .q (.mv (.t 11)), []⟩]
def c58_7 : ACode := .seq c58_6 .ret
def c58_8 : ACode := .seq c58_5 c58_7
def c58_9 : ACode := .seq c58_0 c58_8
@[go_sem] def c58_0_wp := wp_of c58_0.eq_1
@[go_sem] def c58_1_wp := wp_of c58_1.eq_1
@[go_sem] def c58_2_wp := wp_of c58_2.eq_1
@[go_sem] def c58_3_wp := wp_of c58_3.eq_1
@[go_sem] def c58_4_wp := wp_of c58_4.eq_1
@[go_sem] def c58_5_wp := wp_of c58_5.eq_1
@[go_sem] def c58_6_wp := wp_of c58_6.eq_1
@[go_sem] def c58_7_wp := wp_of c58_7.eq_1
@[go_sem] def c58_8_wp := wp_of c58_8.eq_1
@[go_sem] def c58_9_wp := wp_of c58_9.eq_1
def c58 : AFn := ⟨12, [.t 2], c58_9⟩
theorem c58_ok : compF Tryz.prog Tryz.f58 = some c58 := by kernel_rfl
theorem a58 {args : List AV} {σ : ASt} {R : AV → ASt → Prop} (hl : args.length ≤ 12) (h : c58_9.wp Tryz.prog (RetQ [.t 2] R) (init args) σ) : ACalls Tryz.prog 58 args σ R := acalls_of Tryz.func58 c58_ok hl h
end Go.A
namespace Go.A
open Go.Proofs
theorem rsize_ok (a : Int) (h : a.natAbs ≤ 999999999999999999) : Pure Tryz.prog 58 [.int .i64 a] (.int .u64 (a.natAbs : Nat)) := by
 intro σ
 refine a58 (by simp) ?_
 by_cases h0 : a < 0
 ·have e : IntKind.u64.wrap (0 - (a + 1)) = 0 - (a + 1) := by rw [IntKind.wrap_u64]; omega
  have e2 : 0 - (a + 1) + 1 = ((a.natAbs : Nat) : Int) := by omega
  simp (disch := first | assumption | omega) only [go_sem, reduceCtorEq, ↓reduceIte, h0, e, e2]
  exact retC_by (by repeat' (first | exact Drop.refl _ | with_reducible refine Drop.off ?_ (by assumption))) (.refl _) ⟨rfl, rfl⟩
 ·have e : IntKind.u64.wrap a = ((a.natAbs : Nat) : Int) := by rw [IntKind.wrap_u64]; omega
  simp (disch := first | assumption | omega) only [go_sem, reduceCtorEq, ↓reduceIte, h0, e]
  exact retC_by (by repeat' (first | exact Drop.refl _ | with_reducible refine Drop.off ?_ (by assumption))) (.refl _) ⟨rfl, rfl⟩
end Go.A
namespace Go.A
open Go.Proofs
theorem pad_dd (u : Nat) : padP (Lib.decDigits u) 4 = Lib.decDigits (u / 10000) ++ fourP (u % 10000) := by
 by_cases h : 10000 ≤ u
 ·have e : Lib.decDigits u = Lib.decDigits (u / 10000) ++ fourP (u % 10000) := by
   rw [dd_big (by omega), dd_big (by omega), dd_big (by omega), dd_big (by omega)]
   unfold fourP
   simp only [List.append_assoc, List.cons_append, List.nil_append]
   congr 1
   ·congr 1; omega
   ·congr 1
    ·congr 1; omega
    congr 1
    ·congr 1; omega
    congr 1
    ·congr 1; omega
    congr 1
    ·congr 1; omega
  have hl : 4 < (Lib.decDigits u).length := by
   have := List.length_pos_iff.2 (dd_len_pos (u / 10000))
   rw [e, List.length_append, show (fourP (u % 10000)).length = 4 from rfl]
   omega
  rw [padP_done hl, e]
 ·have e0 : Lib.decDigits (u / 10000) = [48] := by rw [show u / 10000 = 0 by omega, dd_small (by omega)]; rfl
  have em : u % 10000 = u := by omega
  rw [e0, em]
  have z : (48 : UInt8) = UInt8.ofNat (48 + 0) := rfl
  by_cases h1 : u < 10
  ·rw [dd_small h1]
   unfold padP fourP
   rw [show u / 1000 = 0 by omega, show u / 100 % 10 = 0 by omega, show u / 10 % 10 = 0 by omega, show u % 10 = u by omega]
   rfl
  ·by_cases h2 : u < 100
   ·rw [dd_big h1, dd_small (by omega)]
    unfold padP fourP
    rw [show u / 1000 = 0 by omega, show u / 100 % 10 = 0 by omega, show u / 10 % 10 = u / 10 by omega]
    rfl
   ·by_cases h3 : u < 1000
    ·rw [dd_big h1, dd_big (by omega), dd_small (by omega)]
     unfold padP fourP
     rw [show u / 1000 = 0 by omega, show u / 100 % 10 = u / 10 / 10 by omega]
     rfl
    ·rw [dd_big h1, dd_big (by omega), dd_big (by omega), dd_small (by omega)]
     unfold padP fourP
     rw [show u / 1000 = u / 10 / 10 / 10 by omega, show u / 100 % 10 = u / 10 / 10 % 10 by omega]
     rfl
theorem trim_snoc (l : List UInt8) : Lib.trimRightB (l ++ [48]) 48 = Lib.trimRightB l 48 := by
 unfold Lib.trimRightB
 rw [List.reverse_append]
 simp
theorem trim_stop {l : List UInt8} {c : UInt8} (h : c ≠ 48) : Lib.trimRightB (l ++ [c]) 48 = l ++ [c] := by
 unfold Lib.trimRightB
 rw [List.reverse_append]
 simp [h]
theorem trim_four {p : Nat} (hp : p < 10000) : Lib.trimRightB (fourP p) 48 = [] ↔ p = 0 := by
 constructor
 ·intro h
  have h1 := trim_nil h
  unfold fourP at h1
  have g1 := congrArg UInt8.toNat (h1 (UInt8.ofNat (48 + p / 1000)) (by simp))
  have g2 := congrArg UInt8.toNat (h1 (UInt8.ofNat (48 + p / 100 % 10)) (by simp))
  have g3 := congrArg UInt8.toNat (h1 (UInt8.ofNat (48 + p / 10 % 10)) (by simp))
  have g4 := congrArg UInt8.toNat (h1 (UInt8.ofNat (48 + p % 10)) (by simp))
  rw [dig_nat (by omega)] at g1 g2 g3 g4
  have e48 : (48 : UInt8).toNat = 48 := rfl
  rw [e48] at g1 g2 g3 g4
  omega
 ·rintro rfl
  decide
theorem text_is (a : Int) : textD a = (if a < 0 then [45] else []) ++ (Lib.decDigits (a.natAbs / 10000) ++ if Lib.trimRightB (fourP (a.natAbs % 10000)) 48 = [] then [] else 46 :: Lib.trimRightB (fourP (a.natAbs % 10000)) 48) := by
 unfold textD placesP
 have hp : a.natAbs % 10000 < 10000 := by omega
 rw [dd_four hp]
 by_cases h0 : a.natAbs % 10000 = 0
 ·rw [if_pos h0, if_pos ((trim_four hp).2 h0)]
 ·rw [if_neg h0, if_neg fun h => h0 ((trim_four hp).1 h)]
end Go.A
namespace Go.A
open Go.Proofs
theorem fourP_len (p : Nat) : (fourP p).length = 4 := rfl
end Go.A
namespace Go.A
open Go.Proofs
theorem drtext_ok {a : Int} (ha : a.natAbs ≤ 999999999999999999) : Pure Tryz.prog 27 [.int .i64 a] (.str (textD a)) := by
 intro σ
 have hS := rsize_ok a ha
 have hDg := rdigits_ok a.natAbs (by omega)
 have hpad := pad_dd a.natAbs
 have hdl : (Lib.decDigits a.natAbs).length ≤ 18 := dd_len 17 _ (by omega)
 rw [text_is]
 have hm : a.natAbs % 10000 < 10000 := by omega
 generalize a.natAbs / 10000 = q at *
 generalize a.natAbs % 10000 = m at *
 generalize Lib.decDigits a.natAbs = S at *
 have hql : (Lib.decDigits q).length ≤ 19 := by
  have := congrArg List.length hpad
  unfold padP at this
  simp [fourP_len] at this
  omega
 generalize Lib.decDigits q = W at *
 refine a27 (by simp) ?_
 simp (disch := first | assumption | omega) only [go_sem, reduceCtorEq, ↓reduceIte]
 refine hS.use ?_
 simp (disch := first | assumption | omega) only [go_sem, ↓reduceIte]
 refine hDg.use ?_
 simp (disch := first | assumption | omega) only [go_sem, ↓reduceIte]
 refine wp_loop_on (fun (l : List UInt8) a1 s2 => padP l 4 = W ++ fourP m ∧ l.length ≤ 40 ∧ (a1 0 = .int .i64 a ∧ a1 3 = .str l) ∧ s2 = σ) (fun l => 40 - l.length) S ⟨hpad, by omega, ?_, rfl⟩ ?_
 ·simp (disch := first | assumption | omega) only [go_sem, reduceCtorEq, ↓reduceIte]
 rintro l a1 s2 ⟨hpl, hl, hf, rfl⟩
 by_cases hle : l.length ≤ 4
 ·have hle' : (l.length : Int) < 5 := by omega
  have e1 : binS .add [48] l = some (.str (48 :: l)) := binS_add (by simp; omega)
  simp (disch := first | assumption | omega) only [go_sem, reduceCtorEq, Nat.reduceEqDiff, ↓reduceIte, hf, hle', e1]
  exact ⟨48 :: l, by simp; omega, by rw [padP_more hle, hpl], by simp; omega, rfl⟩
 ·have hle' : ¬ (l.length : Int) < 5 := by omega
  rw [padP_done (by omega)] at hpl
  have hll : l.length = W.length + 4 := by rw [hpl]; simp [fourP_len]
  have e0 : (l.length : Int) - 4 = W.length := by omega
  have n0 : ((W.length : Nat) : Int).toNat = W.length := by omega
  have t0 : l.take W.length = W := by rw [hpl]; simp
  have t1 : l.drop W.length = fourP m := by rw [hpl]; simp
  have g3 : (W.length : Int) ≤ l.length := by omega
  have h4 := fourP_len m
  generalize fourP m = P at *
  simp (disch := first | assumption | omega) only [go_sem, Nat.reduceEqDiff, ↓reduceIte, hf, hle', e0, n0, t0, t1, List.take_length]
  refine wp_loop_on (fun (x : List UInt8) a2 s3 => Lib.trimRightB x 48 = Lib.trimRightB P 48 ∧ x.length ≤ 4 ∧ (a2 0 = .int .i64 a ∧ a2 4 = .str W ∧ a2 5 = .str x) ∧ s3 = s2) (fun x => x.length) P ⟨rfl, by omega, ?_, rfl⟩ ?_
  ·simp (disch := first | assumption | omega) only [go_sem, reduceCtorEq, Nat.reduceEqDiff, ↓reduceIte, hf]
  rintro x a2 s3 ⟨hx, hxl, hf, rfl⟩
  obtain ⟨F, hF⟩ : ∃ F, F = ACode.wp Tryz.prog c27_31 := ⟨_, rfl⟩
  have fin : ∀ (a3 : AFr), Lib.trimRightB P 48 = x → (a3 0 = .int .i64 a ∧ a3 4 = .str W ∧ a3 5 = .str x) → F (RetQ [.t 2] fun v σ' => v = .str ((if a < 0 then [45] else []) ++ (W ++ if Lib.trimRightB P 48 = [] then [] else 46 :: Lib.trimRightB P 48)) ∧ σ' = s3) a3 s3 := by
   intro a3 hP hf
   rw [hF, hP]
   by_cases hx0 : x = []
   ·subst hx0
    rw [if_pos (show ([] : List UInt8) = [] from rfl), List.append_nil]
    by_cases hn : a < 0
    ·rw [if_pos hn]
     have e1 : binS .add [45] W = some (.str ([45] ++ W)) := binS_add (by simp; omega)
     simp (disch := first | assumption | omega) only [go_sem, reduceCtorEq, Nat.reduceEqDiff, Int.reduceLT, ↓reduceIte, hf, hn, e1]
     exact retC_by (by repeat' (first | exact Drop.refl _ | with_reducible refine Drop.off ?_ (by assumption))) (.refl _) ⟨rfl, rfl⟩
    ·rw [if_neg hn]
     simp (disch := first | assumption | omega) only [go_sem, reduceCtorEq, Nat.reduceEqDiff, Int.reduceLT, ↓reduceIte, hf, hn]
     exact retC_by (by repeat' (first | exact Drop.refl _ | with_reducible refine Drop.off ?_ (by assumption))) (.refl _) ⟨rfl, rfl⟩
   ·rw [if_neg hx0]
    have hpos : (0 : Int) < x.length := by
     have := List.length_pos_iff.2 hx0
     omega
    have e2 : binS .add [46] x = some (.str (46 :: x)) := binS_add (by simp; omega)
    have e3 : binS .add W (46 :: x) = some (.str (W ++ 46 :: x)) := binS_add (by simp; omega)
    by_cases hn : a < 0
    ·rw [if_pos hn]
     have e1 : binS .add [45] (W ++ 46 :: x) = some (.str ([45] ++ (W ++ 46 :: x))) := binS_add (by simp; omega)
     simp (disch := first | assumption | omega) only [go_sem, reduceCtorEq, Nat.reduceEqDiff, ↓reduceIte, hf, hpos, hn, e2, e3, e1]
     exact retC_by (by repeat' (first | exact Drop.refl _ | with_reducible refine Drop.off ?_ (by assumption))) (.refl _) ⟨rfl, rfl⟩
    ·rw [if_neg hn]
     simp (disch := first | assumption | omega) only [go_sem, reduceCtorEq, Nat.reduceEqDiff, ↓reduceIte, hf, hpos, hn, e2, e3]
     exact retC_by (by repeat' (first | exact Drop.refl _ | with_reducible refine Drop.off ?_ (by assumption))) (.refl _) ⟨rfl, rfl⟩
  rcases List.eq_nil_or_concat x with rfl | ⟨y, c, rfl⟩
  ·simp (disch := first | assumption | omega) only [go_sem, Nat.reduceEqDiff, Int.reduceLT, ↓reduceIte, hf, ←hF]
   refine fin _ hx.symm ?_
   simp (disch := first | assumption | omega) only [go_sem, reduceCtorEq, Nat.reduceEqDiff, ↓reduceIte, hf]
  ·rw [List.concat_eq_append] at *
   obtain ⟨x, hxe⟩ : ∃ x, x = y ++ [c] := ⟨_, rfl⟩
   have hlen : x.length = y.length + 1 := by rw [hxe]; simp
   have hidx : x[y.length]? = some c := by rw [hxe]; simp
   have htk : x.take y.length = y := by rw [hxe]; simp
   rw [← hxe] at hx hxl hf fin ⊢
   have g5 : (0 : Int) < x.length := by omega
   have g6 : (x.length : Int) - 1 = y.length := by omega
   have g7 : (y.length : Int) < x.length := by omega
   have g8 : (y.length : Int) ≤ x.length := by omega
   have n5 : ((y.length : Nat) : Int).toNat = y.length := by omega
   by_cases hc : c = 48
   ·have hc' : (c.toNat : Int) = 48 := by rw [hc]; rfl
    have hx2 : Lib.trimRightB y 48 = Lib.trimRightB P 48 := by rw [← hx, hxe, hc, trim_snoc]
    simp (disch := first | assumption | omega) only [go_sem, reduceCtorEq, Nat.reduceEqDiff, ↓reduceIte, hf, hidx, g5, g6, n5, htk, hc']
    exact ⟨y, by omega, hx2, by omega, rfl⟩
   ·have hc' : ¬ (c.toNat : Int) = 48 := fun h => hc (UInt8.toNat_inj.1 (by have e : (48 : UInt8).toNat = 48 := rfl; omega))
    simp (disch := first | assumption | omega) only [go_sem, Nat.reduceEqDiff, ↓reduceIte, hf, hidx, g5, g6, n5, hc', ←hF]
    refine fin _ (by rw [← hx, hxe, trim_stop hc]) ?_
    simp (disch := first | assumption | omega) only [go_sem, reduceCtorEq, Nat.reduceEqDiff, ↓reduceIte, hf]
end Go.A
namespace Go.A
open Go.Proofs
/-! 8: tabular/tabularref12.Print -/
def c8_0 : ACode := .ops [
 ⟨some 1, none, .e (.box (.t 0)), []⟩,
 ⟨some 2, none, .q (.mv (.v (.str []))), []⟩]
def c8_1 : ACode := .ops [
 ⟨some 6, none, .q (.fa 0 (.t 1)), []⟩,
 ⟨some 7, none, .q (.ld none (.t 6)), []⟩]
def c8_2 : ACode := .ops [
 ⟨some 9, none, .q (.bin .eql (.t 7) (.v (.int .i64 1))), []⟩,
 ⟨some 8, none, .q (.mv (.t 9)), []⟩]
def c8_3 : ACode := .ops [
 ⟨some 10, none, .q (.fa 1 (.t 1)), []⟩,
 ⟨some 11, none, .q (.ld none (.t 10)), []⟩,
 ⟨some 12, none, .e (.call 27 [(.t 11)]), []⟩,
 ⟨some 2, none, .q (.mv (.t 12)), []⟩]
def c8_4 : ACode := .seq c8_3 .ret
def c8_5 : ACode := .ops [
 ⟨some 14, none, .q (.bin .eql (.t 7) (.v (.int .i64 2))), []⟩,
 ⟨some 13, none, .q (.mv (.t 14)), []⟩]
def c8_6 : ACode := .ops [
 ⟨some 15, none, .q (.fa 2 (.t 1)), []⟩,
 ⟨some 16, none, .q (.ld none (.t 15)), []⟩,
 ⟨some 17, none, .e (.call 28 [(.t 16)]), []⟩,
 ⟨some 2, none, .q (.mv (.t 17)), []⟩]
def c8_7 : ACode := .seq c8_6 .ret
def c8_8 : ACode := .ops [
 ⟨some 19, none, .q (.bin .eql (.t 7) (.v (.int .i64 3))), []⟩,
 ⟨some 18, none, .q (.mv (.t 19)), []⟩]
def c8_9 : ACode := .ops [
 ⟨some 20, none, .q (.fa 1 (.t 1)), []⟩,
 ⟨some 21, none, .q (.ld none (.t 20)), []⟩,
 ⟨some 22, none, .q (.bin .eql (.t 21) (.v (.int .i64 1))), []⟩]
def c8_10 : ACode := .ops [
 ⟨some 2, none, .q (.mv (.v (.str [84, 82, 85, 69]))), []⟩]
def c8_11 : ACode := .seq c8_10 .ret
def c8_12 : ACode := .cond (.t 22) c8_11 .skip
def c8_13 : ACode := .seq c8_9 c8_12
def c8_14 : ACode := .ops [
 ⟨some 2, none, .q (.mv (.v (.str [70, 65, 76, 83, 69]))), []⟩]
def c8_15 : ACode := .seq c8_14 .ret
def c8_16 : ACode := .seq c8_13 c8_15
def c8_17 : ACode := .ops [
 ⟨some 24, none, .q (.bin .eql (.t 7) (.v (.int .i64 4))), []⟩,
 ⟨some 23, none, .q (.mv (.t 24)), []⟩]
def c8_18 : ACode := .ops [
 ⟨some 26, none, .q (.fa 1 (.t 1)), []⟩,
 ⟨some 27, none, .q (.ld none (.t 26)), []⟩,
 ⟨some 28, none, .q (.bin .quo (.t 27) (.v (.int .i64 10000))), []⟩,
 ⟨some 29, none, .q (.bin .sub (.t 28) (.v (.int .i64 1))), []⟩,
 ⟨some 25, none, .e (.call 20 []), [⟨none, .ld none (.t 26), 27⟩]⟩,
 ⟨some 30, none, .q (.ia 1 (.t 25) (.t 29)), []⟩,
 ⟨some 31, none, .q (.ld none (.t 30)), []⟩,
 ⟨some 2, none, .q (.mv (.t 31)), []⟩]
def c8_19 : ACode := .seq c8_18 .ret
def c8_20 : ACode := .ops [
 ⟨some 33, none, .q (.bin .eql (.t 7) (.v (.int .i64 5))), []⟩,
 ⟨some 32, none, .q (.mv (.t 33)), []⟩]
def c8_21 : ACode := .ops [
 ⟨some 34, none, .q (.fa 3 (.t 1)), []⟩,
 ⟨some 35, none, .q (.ld (some 4) (.t 34)), []⟩,
 ⟨some 36, none, .e (.call 29 [(.t 35)]), []⟩,
 ⟨some 2, none, .q (.mv (.t 36)), []⟩]
def c8_22 : ACode := .seq c8_21 .ret
def c8_23 : ACode := .ops [
 ⟨some 38, none, .q (.bin .eql (.t 7) (.v (.int .i64 6))), []⟩,
 ⟨some 37, none, .q (.mv (.t 38)), []⟩]
def c8_24 : ACode := .ops [
 ⟨some 39, none, .q (.fa 3 (.t 1)), []⟩,
 ⟨some 40, none, .q (.ld (some 4) (.t 39)), []⟩,
 ⟨some 43, none, .q (.fa 7 (.t 1)), []⟩,
 ⟨some 44, none, .q (.ld (some 4) (.t 43)), []⟩,
 ⟨some 41, none, .e (.call 29 [(.t 40)]), [⟨none, .ld (some 4) (.t 43), 44⟩]⟩,
 ⟨some 42, none, .q (.bin .add (.t 41) (.v (.str [58]))), []⟩,
 ⟨some 45, none, .e (.call 29 [(.t 44)]), []⟩,
 ⟨some 46, none, .q (.bin .add (.t 42) (.t 45)), []⟩,
 ⟨some 2, none, .q (.mv (.t 46)), []⟩]
def c8_25 : ACode := .seq c8_24 .ret
def c8_26 : ACode := .ops [
 ⟨some 48, none, .q (.bin .eql (.t 7) (.v (.int .i64 7))), []⟩,
 ⟨some 47, none, .q (.mv (.t 48)), []⟩]
def c8_27 : ACode := .ops [
 ⟨some 49, none, .q (.fa 11 (.t 1)), []⟩,
 ⟨some 50, none, .q (.ld none (.t 49)), []⟩,
 ⟨some 51, none, .q (.ia 12 (.t 50) (.v (.int .i64 0))), []⟩,
 ⟨some 52, none, .q (.ld (some 12) (.t 51)), []⟩,
 ⟨some 53, none, .e (.call 30 [(.t 52), (.v (.int .i64 6))]), []⟩,
 ⟨some 54, none, .q (.bin .add (.v (.str [45])) (.t 53)), []⟩,
 ⟨some 2, none, .q (.mv (.t 54)), []⟩]
def c8_28 : ACode := .seq c8_27 .ret
def c8_29 : ACode := .ops [
 ⟨some 56, none, .q (.bin .eql (.t 7) (.v (.int .i64 8))), []⟩,
 ⟨some 55, none, .q (.mv (.t 56)), []⟩]
def c8_30 : ACode := .ops [
 ⟨some 57, none, .q (.fa 11 (.t 1)), []⟩,
 ⟨some 58, none, .q (.ld none (.t 57)), []⟩,
 ⟨some 59, none, .q (.ia 12 (.t 58) (.v (.int .i64 0))), []⟩,
 ⟨some 60, none, .q (.ld (some 12) (.t 59)), []⟩,
 ⟨some 61, none, .e (.call 30 [(.t 60), (.v (.int .i64 6))]), []⟩,
 ⟨some 62, none, .q (.bin .add (.v (.str [43])) (.t 61)), []⟩,
 ⟨some 2, none, .q (.mv (.t 62)), []⟩]
def c8_31 : ACode := .seq c8_30 .ret
def c8_32 : ACode := .ops [
 ⟨some 64, none, .q (.bin .eql (.t 7) (.v (.int .i64 9))), []⟩,
 ⟨some 63, none, .q (.mv (.t 64)), []⟩]
def c8_33 : ACode := .ops [
 ⟨some 65, none, .q (.fa 11 (.t 1)), []⟩,
 ⟨some 66, none, .q (.ld none (.t 65)), []⟩,
 ⟨some 67, none, .q (.ia 12 (.t 66) (.v (.int .i64 0))), []⟩,
 ⟨some 68, none, .q (.ld (some 12) (.t 67)), []⟩,
 ⟨some 69, none, .e (.call 30 [(.t 68), (.v (.int .i64 7))]), []⟩,
 ⟨some 70, none, .q (.bin .add (.t 69) (.v (.str [37]))), []⟩,
 ⟨some 2, none, .q (.mv (.t 70)), []⟩]
def c8_34 : ACode := .seq c8_33 .ret
def c8_35 : ACode := .ops [
 ⟨some 72, none, .q (.bin .eql (.t 7) (.v (.int .i64 22))), []⟩,
 ⟨some 71, none, .q (.mv (.t 72)), []⟩]
def c8_36 : ACode := .ops [
 ⟨some 73, none, .q (.fa 2 (.t 1)), []⟩,
 ⟨some 74, none, .q (.ld none (.t 73)), []⟩,
 ⟨some 75, none, .q (.bin .add (.t 74) (.v (.str [40]))), []⟩,
 ⟨some 3, none, .q (.mv (.t 75)), []⟩]
def c8_37 : ACode := .ops [
 ⟨some 76, none, .q (.fa 11 (.t 1)), []⟩,
 ⟨some 77, none, .q (.ld none (.t 76)), []⟩,
 ⟨some 78, none, .q (.len (.t 77)), []⟩,
 ⟨some 79, none, .q (.mv (.v (.int .i64 0))), []⟩]
def c8_38 : ACode := .ops [
 ⟨some 80, none, .q (.bin .lss (.t 79) (.t 78)), []⟩]
def c8_39 : ACode := .cond (.t 80) .skip (.exit 1)
def c8_40 : ACode := .ops [
 ⟨some 81, none, .q (.mv (.t 79)), []⟩,
 ⟨some 82, none, .q (.ia 12 (.t 77) (.t 79)), []⟩,
 ⟨some 83, none, .q (.ld (some 12) (.t 82)), []⟩,
 ⟨some 5, none, .e (.alloc [(.int .i64 0), (.int .i64 0), (.str []), (.int .i64 0), (.int .i64 0), (.bool false), (.bool false), (.int .i64 0), (.int .i64 0), (.bool false), (.bool false), (.sl .full [])]), []⟩,
 ⟨some 4, none, .q (.mv (.t 81)), []⟩,
 ⟨none, none, .e (.store 12 (.t 5) (.t 83)), []⟩]
def c8_41 : ACode := .ops [
 ⟨some 84, none, .q (.mv (.t 4)), []⟩,
 ⟨some 85, none, .q (.bin .gtr (.t 84) (.v (.int .i64 0))), []⟩]
def c8_42 : ACode := .ops [
 ⟨some 86, none, .q (.mv (.t 3)), []⟩,
 ⟨some 87, none, .q (.bin .add (.t 86) (.v (.str [44]))), []⟩,
 ⟨some 3, none, .q (.mv (.t 87)), []⟩]
def c8_43 : ACode := .cond (.t 85) c8_42 .skip
def c8_44 : ACode := .seq c8_41 c8_43
def c8_45 : ACode := .ops [
 ⟨some 88, none, .q (.mv (.t 3)), []⟩,
 ⟨some 89, none, .q (.ld (some 12) (.t 5)), []⟩,
 ⟨some 90, none, .e (.call 8 [(.t 89)]), []⟩,
 ⟨some 91, none, .q (.bin .add (.t 88) (.t 90)), []⟩,
 ⟨some 3, none, .q (.mv (.t 91)), []⟩]
def c8_46 : ACode := .seq c8_44 c8_45
def c8_47 : ACode := .seq c8_40 c8_46
def c8_48 : ACode := .block 2 c8_47
def c8_49 : ACode := .ops [
 ⟨some 92, none, .q (.bin .add (.t 79) (.v (.int .i64 1))), []⟩,
 ⟨some 79, none, .q (.mv (.t 92)), []⟩]
def c8_50 : ACode := .seq c8_48 c8_49
def c8_51 : ACode := .seq c8_39 c8_50
def c8_52 : ACode := .seq c8_38 c8_51
def c8_53 : ACode := .loop c8_52
def c8_54 : ACode := .block 1 c8_53
def c8_55 : ACode := .seq c8_37 c8_54
def c8_56 : ACode := .ops [
 ⟨some 93, none, .q (.mv (.t 3)), []⟩,
 ⟨some 94, none, .q (.bin .add (.t 93) (.v (.str [41]))), []⟩,
 ⟨some 2, none, .q (.mv (.t 94)), []⟩]
def c8_57 : ACode := .seq c8_56 .ret
def c8_58 : ACode := .seq c8_55 c8_57
def c8_59 : ACode := .seq c8_36 c8_58
def c8_60 : ACode := .ops [
 ⟨some 96, none, .q (.bin .eql (.t 7) (.v (.int .i64 23))), []⟩,
 ⟨some 95, none, .q (.mv (.t 96)), []⟩]
def c8_61 : ACode := .ops [
 ⟨some 2, none, .q (.mv (.v (.str []))), []⟩]
def c8_62 : ACode := .seq c8_61 .ret
def c8_63 : ACode := .cond (.t 95) c8_62 .skip
def c8_64 : ACode := .seq c8_60 c8_63
def c8_65 : ACode := .cond (.t 71) c8_59 c8_64
def c8_66 : ACode := .seq c8_35 c8_65
def c8_67 : ACode := .cond (.t 63) c8_34 c8_66
def c8_68 : ACode := .seq c8_32 c8_67
def c8_69 : ACode := .cond (.t 55) c8_31 c8_68
def c8_70 : ACode := .seq c8_29 c8_69
def c8_71 : ACode := .cond (.t 47) c8_28 c8_70
def c8_72 : ACode := .seq c8_26 c8_71
def c8_73 : ACode := .cond (.t 37) c8_25 c8_72
def c8_74 : ACode := .seq c8_23 c8_73
def c8_75 : ACode := .cond (.t 32) c8_22 c8_74
def c8_76 : ACode := .seq c8_20 c8_75
def c8_77 : ACode := .cond (.t 23) c8_19 c8_76
def c8_78 : ACode := .seq c8_17 c8_77
def c8_79 : ACode := .cond (.t 18) c8_16 c8_78
def c8_80 : ACode := .seq c8_8 c8_79
def c8_81 : ACode := .cond (.t 13) c8_7 c8_80
def c8_82 : ACode := .seq c8_5 c8_81
def c8_83 : ACode := .cond (.t 8) c8_4 c8_82
def c8_84 : ACode := .seq c8_2 c8_83
def c8_85 : ACode := .block 0 c8_84
def c8_86 : ACode := .seq c8_1 c8_85
def c8_87 : ACode := .ops [
 ⟨some 97, none, .q (.fa 11 (.t 1)), []⟩,
 ⟨some 98, none, .q (.ld none (.t 97)), []⟩,
 ⟨some 99, none, .q (.ia 12 (.t 98) (.v (.int .i64 0))), []⟩,
 ⟨some 100, none, .q (.ld (some 12) (.t 99)), []⟩,
 ⟨some 101, none, .q (.fa 0 (.t 1)), []⟩,
 ⟨some 102, none, .q (.ld none (.t 101)), []⟩,
 ⟨some 106, none, .q (.fa 0 (.t 1)), []⟩,
 ⟨some 107, none, .q (.ld none (.t 106)), []⟩,
 ⟨some 108, none, .q (.bin .sub (.t 107) (.v (.int .i64 10))), []⟩,
 ⟨some 112, none, .q (.fa 11 (.t 1)), []⟩,
 ⟨some 113, none, .q (.ld none (.t 112)), []⟩,
 ⟨some 114, none, .q (.ia 12 (.t 113) (.v (.int .i64 1))), []⟩,
 ⟨some 115, none, .q (.ld (some 12) (.t 114)), []⟩,
 ⟨some 116, none, .q (.fa 0 (.t 1)), []⟩,
 ⟨some 117, none, .q (.ld none (.t 116)), []⟩,
 ⟨some 103, none, .e (.call 31 [(.t 102)]), [⟨none, .ld none (.t 97), 98⟩, ⟨none, .ld (some 12) (.t 99), 100⟩, ⟨none, .ld none (.t 106), 107⟩, ⟨none, .ld none (.t 112), 113⟩, ⟨none, .ld (some 12) (.t 114), 115⟩, ⟨none, .ld none (.t 116), 117⟩]⟩,
 ⟨some 104, none, .e (.call 30 [(.t 100), (.t 103)]), [⟨none, .ld none (.t 106), 107⟩, ⟨none, .ld none (.t 112), 113⟩, ⟨none, .ld (some 12) (.t 114), 115⟩, ⟨none, .ld none (.t 116), 117⟩]⟩,
 ⟨some 105, none, .e (.call 17 []), [⟨none, .ld none (.t 106), 107⟩, ⟨none, .ld none (.t 112), 113⟩, ⟨none, .ld (some 12) (.t 114), 115⟩, ⟨none, .ld none (.t 116), 117⟩]⟩,
 ⟨some 109, none, .q (.ia 1 (.t 105) (.t 108)), []⟩,
 ⟨some 110, none, .q (.ld none (.t 109)), []⟩,
 ⟨some 111, none, .q (.bin .add (.t 104) (.t 110)), []⟩,
 ⟨some 118, none, .e (.call 31 [(.t 117)]), [⟨none, .ld none (.t 106), 107⟩, ⟨none, .ld none (.t 112), 113⟩, ⟨none, .ld (some 12) (.t 114), 115⟩, ⟨none, .ld none (.t 109), 110⟩]⟩,
 ⟨some 119, none, .q (.bin .add (.t 118) (.v (.int .i64 1))), []⟩,
 ⟨some 120, none, .e (.call 30 [(.t 115), (.t 119)]), [⟨none, .ld none (.t 106), 107⟩, ⟨none, .ld none (.t 109), 110⟩]⟩,
 ⟨some 121, none, .q (.bin .add (.t 111) (.t 120)), []⟩,
 ⟨some 2, none, .q (.mv (.t 121)), []⟩]
def c8_88 : ACode := .seq c8_87 .ret
def c8_89 : ACode := .seq c8_86 c8_88
def c8_90 : ACode := .seq c8_0 c8_89
@[go_sem] def c8_0_wp := wp_of c8_0.eq_1
@[go_sem] def c8_1_wp := wp_of c8_1.eq_1
@[go_sem] def c8_2_wp := wp_of c8_2.eq_1
@[go_sem] def c8_3_wp := wp_of c8_3.eq_1
@[go_sem] def c8_4_wp := wp_of c8_4.eq_1
@[go_sem] def c8_5_wp := wp_of c8_5.eq_1
@[go_sem] def c8_6_wp := wp_of c8_6.eq_1
@[go_sem] def c8_7_wp := wp_of c8_7.eq_1
@[go_sem] def c8_8_wp := wp_of c8_8.eq_1
@[go_sem] def c8_9_wp := wp_of c8_9.eq_1
@[go_sem] def c8_10_wp := wp_of c8_10.eq_1
@[go_sem] def c8_11_wp := wp_of c8_11.eq_1
@[go_sem] def c8_12_wp := wp_of c8_12.eq_1
@[go_sem] def c8_13_wp := wp_of c8_13.eq_1
@[go_sem] def c8_14_wp := wp_of c8_14.eq_1
@[go_sem] def c8_15_wp := wp_of c8_15.eq_1
@[go_sem] def c8_16_wp := wp_of c8_16.eq_1
@[go_sem] def c8_17_wp := wp_of c8_17.eq_1
@[go_sem] def c8_18_wp := wp_of c8_18.eq_1
@[go_sem] def c8_19_wp := wp_of c8_19.eq_1
@[go_sem] def c8_20_wp := wp_of c8_20.eq_1
@[go_sem] def c8_21_wp := wp_of c8_21.eq_1
@[go_sem] def c8_22_wp := wp_of c8_22.eq_1
@[go_sem] def c8_23_wp := wp_of c8_23.eq_1
@[go_sem] def c8_24_wp := wp_of c8_24.eq_1
@[go_sem] def c8_25_wp := wp_of c8_25.eq_1
@[go_sem] def c8_26_wp := wp_of c8_26.eq_1
@[go_sem] def c8_27_wp := wp_of c8_27.eq_1
@[go_sem] def c8_28_wp := wp_of c8_28.eq_1
@[go_sem] def c8_29_wp := wp_of c8_29.eq_1
@[go_sem] def c8_30_wp := wp_of c8_30.eq_1
@[go_sem] def c8_31_wp := wp_of c8_31.eq_1
@[go_sem] def c8_32_wp := wp_of c8_32.eq_1
@[go_sem] def c8_33_wp := wp_of c8_33.eq_1
@[go_sem] def c8_34_wp := wp_of c8_34.eq_1
@[go_sem] def c8_35_wp := wp_of c8_35.eq_1
@[go_sem] def c8_36_wp := wp_of c8_36.eq_1
@[go_sem] def c8_37_wp := wp_of c8_37.eq_1
@[go_sem] def c8_38_wp := wp_of c8_38.eq_1
@[go_sem] def c8_39_wp := wp_of c8_39.eq_1
@[go_sem] def c8_40_wp := wp_of c8_40.eq_1
@[go_sem] def c8_41_wp := wp_of c8_41.eq_1
@[go_sem] def c8_42_wp := wp_of c8_42.eq_1
@[go_sem] def c8_43_wp := wp_of c8_43.eq_1
@[go_sem] def c8_44_wp := wp_of c8_44.eq_1
@[go_sem] def c8_45_wp := wp_of c8_45.eq_1
@[go_sem] def c8_46_wp := wp_of c8_46.eq_1
@[go_sem] def c8_47_wp := wp_of c8_47.eq_1
@[go_sem] def c8_48_wp := wp_of c8_48.eq_1
@[go_sem] def c8_49_wp := wp_of c8_49.eq_1
@[go_sem] def c8_50_wp := wp_of c8_50.eq_1
@[go_sem] def c8_51_wp := wp_of c8_51.eq_1
@[go_sem] def c8_52_wp := wp_of c8_52.eq_1
@[go_sem] def c8_53_wp := wp_of c8_53.eq_1
@[go_sem] def c8_54_wp := wp_of c8_54.eq_1
@[go_sem] def c8_55_wp := wp_of c8_55.eq_1
@[go_sem] def c8_56_wp := wp_of c8_56.eq_1
@[go_sem] def c8_57_wp := wp_of c8_57.eq_1
@[go_sem] def c8_58_wp := wp_of c8_58.eq_1
@[go_sem] def c8_59_wp := wp_of c8_59.eq_1
@[go_sem] def c8_60_wp := wp_of c8_60.eq_1
@[go_sem] def c8_61_wp := wp_of c8_61.eq_1
@[go_sem] def c8_62_wp := wp_of c8_62.eq_1
@[go_sem] def c8_63_wp := wp_of c8_63.eq_1
@[go_sem] def c8_64_wp := wp_of c8_64.eq_1
@[go_sem] def c8_65_wp := wp_of c8_65.eq_1
@[go_sem] def c8_66_wp := wp_of c8_66.eq_1
@[go_sem] def c8_67_wp := wp_of c8_67.eq_1
@[go_sem] def c8_68_wp := wp_of c8_68.eq_1
@[go_sem] def c8_69_wp := wp_of c8_69.eq_1
@[go_sem] def c8_70_wp := wp_of c8_70.eq_1
@[go_sem] def c8_71_wp := wp_of c8_71.eq_1
@[go_sem] def c8_72_wp := wp_of c8_72.eq_1
@[go_sem] def c8_73_wp := wp_of c8_73.eq_1
@[go_sem] def c8_74_wp := wp_of c8_74.eq_1
@[go_sem] def c8_75_wp := wp_of c8_75.eq_1
@[go_sem] def c8_76_wp := wp_of c8_76.eq_1
@[go_sem] def c8_77_wp := wp_of c8_77.eq_1
@[go_sem] def c8_78_wp := wp_of c8_78.eq_1
@[go_sem] def c8_79_wp := wp_of c8_79.eq_1
@[go_sem] def c8_80_wp := wp_of c8_80.eq_1
@[go_sem] def c8_81_wp := wp_of c8_81.eq_1
@[go_sem] def c8_82_wp := wp_of c8_82.eq_1
@[go_sem] def c8_83_wp := wp_of c8_83.eq_1
@[go_sem] def c8_84_wp := wp_of c8_84.eq_1
@[go_sem] def c8_85_wp := wp_of c8_85.eq_1
@[go_sem] def c8_86_wp := wp_of c8_86.eq_1
@[go_sem] def c8_87_wp := wp_of c8_87.eq_1
@[go_sem] def c8_88_wp := wp_of c8_88.eq_1
@[go_sem] def c8_89_wp := wp_of c8_89.eq_1
@[go_sem] def c8_90_wp := wp_of c8_90.eq_1
def c8 : AFn := ⟨122, [.t 2], c8_90⟩
theorem c8_ok : compF Tryz.prog Tryz.f8 = some c8 := by kernel_rfl
theorem a8 {args : List AV} {σ : ASt} {R : AV → ASt → Prop} (hl : args.length ≤ 122) (h : c8_90.wp Tryz.prog (RetQ [.t 2] R) (init args) σ) : ACalls Tryz.prog 8 args σ R := acalls_of Tryz.func8 c8_ok hl h
/-! 20: tabular/tabularref11.Errors -/
def c20_0 : ACode := .ops [
 ⟨some 0, none, .q (.mv (.v (.sl .full []))), []⟩]
def c20_1 : ACode := .ops [
 ⟨some 1, none, .q (.bsl 1 [(.v (.str [35, 68, 73, 86, 47, 48, 33])), (.v (.str [35, 78, 85, 77, 33])), (.v (.str [35, 86, 65, 76, 85, 69, 33])), (.v (.str [35, 82, 69, 70, 33])), (.v (.str [35, 78, 47, 65])), (.v (.str [35, 78, 65, 77, 69, 63])), (.v (.str [35, 67, 89, 67, 76, 69, 33]))]), []⟩,
 ⟨some 0, none, .q (.mv (.t 1)), []⟩]
def c20_2 : ACode := .seq c20_1 .ret
def c20_3 : ACode := .seq c20_0 c20_2
@[go_sem] def c20_0_wp := wp_of c20_0.eq_1
@[go_sem] def c20_1_wp := wp_of c20_1.eq_1
@[go_sem] def c20_2_wp := wp_of c20_2.eq_1
@[go_sem] def c20_3_wp := wp_of c20_3.eq_1
def c20 : AFn := ⟨2, [.t 0], c20_3⟩
theorem c20_ok : compF Tryz.prog Tryz.f20 = some c20 := by kernel_rfl
theorem a20 {args : List AV} {σ : ASt} {R : AV → ASt → Prop} (hl : args.length ≤ 2) (h : c20_3.wp Tryz.prog (RetQ [.t 0] R) (init args) σ) : ACalls Tryz.prog 20 args σ R := acalls_of Tryz.func20 c20_ok hl h
/-! 28: tabular/tabularref11.Quote -/
def c28_0 : ACode := .ops [
 ⟨some 2, none, .q (.mv (.v (.str []))), []⟩]
def c28_1 : ACode := .ops [
 ⟨some 3, none, .q (.mv (.v (.str [34]))), []⟩]
def c28_2 : ACode := .ops [
 ⟨some 4, none, .q (.mv (.v (.int .i64 0))), []⟩]
def c28_3 : ACode := .ops [
 ⟨some 5, none, .q (.mv (.t 4)), []⟩,
 ⟨some 6, none, .q (.mv (.t 0)), []⟩,
 ⟨some 7, none, .q (.lenS (.t 6)), []⟩,
 ⟨some 8, none, .q (.bin .lss (.t 5) (.t 7)), []⟩]
def c28_4 : ACode := .cond (.t 8) .skip (.exit 0)
def c28_5 : ACode := .seq c28_3 c28_4
def c28_6 : ACode := .ops [
 ⟨some 11, none, .q (.mv (.t 0)), []⟩,
 ⟨some 12, none, .q (.mv (.t 4)), []⟩,
 ⟨some 13, none, .q (.idx (.t 11) (.t 12)), []⟩,
 ⟨some 14, none, .q (.bin .eql (.t 13) (.v (.int .u8 34))), []⟩]
def c28_7 : ACode := .ops [
 ⟨some 15, none, .q (.mv (.t 3)), []⟩,
 ⟨some 16, none, .q (.bin .add (.t 15) (.v (.str [34]))), []⟩,
 ⟨some 3, none, .q (.mv (.t 16)), []⟩]
def c28_8 : ACode := .cond (.t 14) c28_7 .skip
def c28_9 : ACode := .seq c28_6 c28_8
def c28_10 : ACode := .ops [
 ⟨some 17, none, .q (.mv (.t 3)), []⟩,
 ⟨some 18, none, .q (.mv (.t 0)), []⟩,
 ⟨some 19, none, .q (.mv (.t 4)), []⟩,
 ⟨some 20, none, .q (.mv (.t 4)), []⟩,
 ⟨some 21, none, .q (.bin .add (.t 20) (.v (.int .i64 1))), []⟩,
 ⟨some 22, none, .q (.sls (true, 0) (.t 18) (.t 19) (.t 21)), []⟩,
 ⟨some 23, none, .q (.bin .add (.t 17) (.t 22)), []⟩,
 ⟨some 3, none, .q (.mv (.t 23)), []⟩]
def c28_11 : ACode := .seq c28_9 c28_10
def c28_12 : ACode := .block 1 c28_11
def c28_13 : ACode := .ops [
 ⟨some 9, none, .q (.mv (.t 4)), []⟩,
 ⟨some 10, none, .q (.bin .add (.t 9) (.v (.int .i64 1))), []⟩,
 ⟨some 4, none, .q (.mv (.t 10)), []⟩]
def c28_14 : ACode := .seq c28_12 c28_13
def c28_15 : ACode := .seq c28_5 c28_14
def c28_16 : ACode := .loop c28_15
def c28_17 : ACode := .block 0 c28_16
def c28_18 : ACode := .seq c28_2 c28_17
def c28_19 : ACode := .ops [
 ⟨some 24, none, .q (.mv (.t 3)), []⟩,
 ⟨some 25, none, .q (.bin .add (.t 24) (.v (.str [34]))), []⟩,
 ⟨some 2, none, .q (.mv (.t 25)), []⟩]
def c28_20 : ACode := .seq c28_19 .ret
def c28_21 : ACode := .seq c28_18 c28_20
def c28_22 : ACode := .seq c28_1 c28_21
def c28_23 : ACode := .seq c28_0 c28_22
@[go_sem] def c28_0_wp := wp_of c28_0.eq_1
@[go_sem] def c28_1_wp := wp_of c28_1.eq_1
@[go_sem] def c28_2_wp := wp_of c28_2.eq_1
@[go_sem] def c28_3_wp := wp_of c28_3.eq_1
@[go_sem] def c28_4_wp := wp_of c28_4.eq_1
@[go_sem] def c28_5_wp := wp_of c28_5.eq_1
@[go_sem] def c28_6_wp := wp_of c28_6.eq_1
@[go_sem] def c28_7_wp := wp_of c28_7.eq_1
@[go_sem] def c28_8_wp := wp_of c28_8.eq_1
@[go_sem] def c28_9_wp := wp_of c28_9.eq_1
@[go_sem] def c28_10_wp := wp_of c28_10.eq_1
@[go_sem] def c28_11_wp := wp_of c28_11.eq_1
@[go_sem] def c28_12_wp := wp_of c28_12.eq_1
@[go_sem] def c28_13_wp := wp_of c28_13.eq_1
@[go_sem] def c28_14_wp := wp_of c28_14.eq_1
@[go_sem] def c28_15_wp := wp_of c28_15.eq_1
@[go_sem] def c28_16_wp := wp_of c28_16.eq_1
@[go_sem] def c28_17_wp := wp_of c28_17.eq_1
@[go_sem] def c28_18_wp := wp_of c28_18.eq_1
@[go_sem] def c28_19_wp := wp_of c28_19.eq_1
@[go_sem] def c28_20_wp := wp_of c28_20.eq_1
@[go_sem] def c28_21_wp := wp_of c28_21.eq_1
@[go_sem] def c28_22_wp := wp_of c28_22.eq_1
@[go_sem] def c28_23_wp := wp_of c28_23.eq_1
def c28 : AFn := ⟨26, [.t 2], c28_23⟩
theorem c28_ok : compF Tryz.prog Tryz.f28 = some c28 := by kernel_rfl
theorem a28 {args : List AV} {σ : ASt} {R : AV → ASt → Prop} (hl : args.length ≤ 26) (h : c28_23.wp Tryz.prog (RetQ [.t 2] R) (init args) σ) : ACalls Tryz.prog 28 args σ R := acalls_of Tryz.func28 c28_ok hl h
/-! 30: tabular/tabularref12.inside -/
def c30_0 : ACode := .ops [
 ⟨some 2, none, .e (.box (.t 0)), []⟩,
 ⟨some 4, none, .q (.mv (.v (.str []))), []⟩]
def c30_1 : ACode := .ops [
 ⟨some 5, none, .q (.fa 0 (.t 2)), []⟩,
 ⟨some 6, none, .q (.ld none (.t 5)), []⟩,
 ⟨some 7, none, .e (.call 31 [(.t 6)]), []⟩,
 ⟨some 8, none, .q (.mv (.t 1)), []⟩,
 ⟨some 9, none, .q (.bin .lss (.t 7) (.t 8)), []⟩]
def c30_2 : ACode := .ops [
 ⟨some 10, none, .q (.ld (some 12) (.t 2)), []⟩,
 ⟨some 11, none, .e (.call 8 [(.t 10)]), []⟩,
 ⟨some 12, none, .q (.bin .add (.v (.str [40])) (.t 11)), []⟩,
 ⟨some 13, none, .q (.bin .add (.t 12) (.v (.str [41]))), []⟩,
 ⟨some 4, none, .q (.mv (.t 13)), []⟩]
def c30_3 : ACode := .seq c30_2 .ret
def c30_4 : ACode := .cond (.t 9) c30_3 .skip
def c30_5 : ACode := .seq c30_1 c30_4
def c30_6 : ACode := .ops [
 ⟨some 14, none, .q (.ld (some 12) (.t 2)), []⟩,
 ⟨some 15, none, .e (.call 8 [(.t 14)]), []⟩,
 ⟨some 4, none, .q (.mv (.t 15)), []⟩]
def c30_7 : ACode := .seq c30_6 .ret
def c30_8 : ACode := .seq c30_5 c30_7
def c30_9 : ACode := .seq c30_0 c30_8
@[go_sem] def c30_0_wp := wp_of c30_0.eq_1
@[go_sem] def c30_1_wp := wp_of c30_1.eq_1
@[go_sem] def c30_2_wp := wp_of c30_2.eq_1
@[go_sem] def c30_3_wp := wp_of c30_3.eq_1
@[go_sem] def c30_4_wp := wp_of c30_4.eq_1
@[go_sem] def c30_5_wp := wp_of c30_5.eq_1
@[go_sem] def c30_6_wp := wp_of c30_6.eq_1
@[go_sem] def c30_7_wp := wp_of c30_7.eq_1
@[go_sem] def c30_8_wp := wp_of c30_8.eq_1
@[go_sem] def c30_9_wp := wp_of c30_9.eq_1
def c30 : AFn := ⟨16, [.t 4], c30_9⟩
theorem c30_ok : compF Tryz.prog Tryz.f30 = some c30 := by kernel_rfl
theorem a30 {args : List AV} {σ : ASt} {R : AV → ASt → Prop} (hl : args.length ≤ 16) (h : c30_9.wp Tryz.prog (RetQ [.t 4] R) (init args) σ) : ACalls Tryz.prog 30 args σ R := acalls_of Tryz.func30 c30_ok hl h
/-! 31: tabular/tabularref12.Level -/
def c31_0 : ACode := .ops [
 ⟨some 2, none, .q (.mv (.v (.int .i64 0))), []⟩]
def c31_1 : ACode := .ops [
 ⟨some 3, none, .q (.mv (.t 0)), []⟩]
def c31_2 : ACode := .ops [
 ⟨some 5, none, .q (.bin .eql (.t 3) (.v (.int .i64 7))), []⟩,
 ⟨some 4, none, .q (.mv (.t 5)), []⟩]
def c31_3 : ACode := .ops [
 ⟨some 6, none, .q (.bin .eql (.t 3) (.v (.int .i64 8))), []⟩,
 ⟨some 4, none, .q (.mv (.t 6)), []⟩]
def c31_4 : ACode := .cond (.t 4) .skip c31_3
def c31_5 : ACode := .seq c31_2 c31_4
def c31_6 : ACode := .ops [
 ⟨some 2, none, .q (.mv (.v (.int .i64 6))), []⟩]
def c31_7 : ACode := .seq c31_6 .ret
def c31_8 : ACode := .ops [
 ⟨some 8, none, .q (.bin .eql (.t 3) (.v (.int .i64 9))), []⟩,
 ⟨some 7, none, .q (.mv (.t 8)), []⟩]
def c31_9 : ACode := .ops [
 ⟨some 2, none, .q (.mv (.v (.int .i64 7))), []⟩]
def c31_10 : ACode := .seq c31_9 .ret
def c31_11 : ACode := .ops [
 ⟨some 10, none, .q (.bin .eql (.t 3) (.v (.int .i64 10))), []⟩,
 ⟨some 9, none, .q (.mv (.t 10)), []⟩]
def c31_12 : ACode := .ops [
 ⟨some 11, none, .q (.bin .eql (.t 3) (.v (.int .i64 11))), []⟩,
 ⟨some 9, none, .q (.mv (.t 11)), []⟩]
def c31_13 : ACode := .cond (.t 9) .skip c31_12
def c31_14 : ACode := .seq c31_11 c31_13
def c31_15 : ACode := .ops [
 ⟨some 2, none, .q (.mv (.v (.int .i64 3))), []⟩]
def c31_16 : ACode := .seq c31_15 .ret
def c31_17 : ACode := .ops [
 ⟨some 13, none, .q (.bin .eql (.t 3) (.v (.int .i64 12))), []⟩,
 ⟨some 12, none, .q (.mv (.t 13)), []⟩]
def c31_18 : ACode := .ops [
 ⟨some 14, none, .q (.bin .eql (.t 3) (.v (.int .i64 13))), []⟩,
 ⟨some 12, none, .q (.mv (.t 14)), []⟩]
def c31_19 : ACode := .cond (.t 12) .skip c31_18
def c31_20 : ACode := .seq c31_17 c31_19
def c31_21 : ACode := .ops [
 ⟨some 2, none, .q (.mv (.v (.int .i64 4))), []⟩]
def c31_22 : ACode := .seq c31_21 .ret
def c31_23 : ACode := .ops [
 ⟨some 16, none, .q (.bin .eql (.t 3) (.v (.int .i64 14))), []⟩,
 ⟨some 15, none, .q (.mv (.t 16)), []⟩]
def c31_24 : ACode := .ops [
 ⟨some 2, none, .q (.mv (.v (.int .i64 5))), []⟩]
def c31_25 : ACode := .seq c31_24 .ret
def c31_26 : ACode := .ops [
 ⟨some 18, none, .q (.bin .eql (.t 3) (.v (.int .i64 15))), []⟩,
 ⟨some 17, none, .q (.mv (.t 18)), []⟩]
def c31_27 : ACode := .ops [
 ⟨some 2, none, .q (.mv (.v (.int .i64 2))), []⟩]
def c31_28 : ACode := .seq c31_27 .ret
def c31_29 : ACode := .ops [
 ⟨some 20, none, .q (.bin .eql (.t 3) (.v (.int .i64 16))), []⟩,
 ⟨some 19, none, .q (.mv (.t 20)), []⟩]
def c31_30 : ACode := .ops [
 ⟨some 21, none, .q (.bin .eql (.t 3) (.v (.int .i64 17))), []⟩,
 ⟨some 19, none, .q (.mv (.t 21)), []⟩]
def c31_31 : ACode := .ops [
 ⟨some 22, none, .q (.bin .eql (.t 3) (.v (.int .i64 18))), []⟩,
 ⟨some 19, none, .q (.mv (.t 22)), []⟩]
def c31_32 : ACode := .ops [
 ⟨some 23, none, .q (.bin .eql (.t 3) (.v (.int .i64 19))), []⟩,
 ⟨some 19, none, .q (.mv (.t 23)), []⟩]
def c31_33 : ACode := .ops [
 ⟨some 24, none, .q (.bin .eql (.t 3) (.v (.int .i64 20))), []⟩,
 ⟨some 19, none, .q (.mv (.t 24)), []⟩]
def c31_34 : ACode := .ops [
 ⟨some 25, none, .q (.bin .eql (.t 3) (.v (.int .i64 21))), []⟩,
 ⟨some 19, none, .q (.mv (.t 25)), []⟩]
def c31_35 : ACode := .cond (.t 19) .skip c31_34
def c31_36 : ACode := .seq c31_33 c31_35
def c31_37 : ACode := .cond (.t 19) .skip c31_36
def c31_38 : ACode := .seq c31_32 c31_37
def c31_39 : ACode := .cond (.t 19) .skip c31_38
def c31_40 : ACode := .seq c31_31 c31_39
def c31_41 : ACode := .cond (.t 19) .skip c31_40
def c31_42 : ACode := .seq c31_30 c31_41
def c31_43 : ACode := .cond (.t 19) .skip c31_42
def c31_44 : ACode := .seq c31_29 c31_43
def c31_45 : ACode := .ops [
 ⟨some 2, none, .q (.mv (.v (.int .i64 1))), []⟩]
def c31_46 : ACode := .seq c31_45 .ret
def c31_47 : ACode := .cond (.t 19) c31_46 .skip
def c31_48 : ACode := .seq c31_44 c31_47
def c31_49 : ACode := .cond (.t 17) c31_28 c31_48
def c31_50 : ACode := .seq c31_26 c31_49
def c31_51 : ACode := .cond (.t 15) c31_25 c31_50
def c31_52 : ACode := .seq c31_23 c31_51
def c31_53 : ACode := .cond (.t 12) c31_22 c31_52
def c31_54 : ACode := .seq c31_20 c31_53
def c31_55 : ACode := .cond (.t 9) c31_16 c31_54
def c31_56 : ACode := .seq c31_14 c31_55
def c31_57 : ACode := .cond (.t 7) c31_10 c31_56
def c31_58 : ACode := .seq c31_8 c31_57
def c31_59 : ACode := .cond (.t 4) c31_7 c31_58
def c31_60 : ACode := .seq c31_5 c31_59
def c31_61 : ACode := .block 0 c31_60
def c31_62 : ACode := .seq c31_1 c31_61
def c31_63 : ACode := .ops [
 ⟨some 2, none, .q (.mv (.v (.int .i64 8))), []⟩]
def c31_64 : ACode := .seq c31_63 .ret
def c31_65 : ACode := .seq c31_62 c31_64
def c31_66 : ACode := .seq c31_0 c31_65
@[go_sem] def c31_0_wp := wp_of c31_0.eq_1
@[go_sem] def c31_1_wp := wp_of c31_1.eq_1
@[go_sem] def c31_2_wp := wp_of c31_2.eq_1
@[go_sem] def c31_3_wp := wp_of c31_3.eq_1
@[go_sem] def c31_4_wp := wp_of c31_4.eq_1
@[go_sem] def c31_5_wp := wp_of c31_5.eq_1
@[go_sem] def c31_6_wp := wp_of c31_6.eq_1
@[go_sem] def c31_7_wp := wp_of c31_7.eq_1
@[go_sem] def c31_8_wp := wp_of c31_8.eq_1
@[go_sem] def c31_9_wp := wp_of c31_9.eq_1
@[go_sem] def c31_10_wp := wp_of c31_10.eq_1
@[go_sem] def c31_11_wp := wp_of c31_11.eq_1
@[go_sem] def c31_12_wp := wp_of c31_12.eq_1
@[go_sem] def c31_13_wp := wp_of c31_13.eq_1
@[go_sem] def c31_14_wp := wp_of c31_14.eq_1
@[go_sem] def c31_15_wp := wp_of c31_15.eq_1
@[go_sem] def c31_16_wp := wp_of c31_16.eq_1
@[go_sem] def c31_17_wp := wp_of c31_17.eq_1
@[go_sem] def c31_18_wp := wp_of c31_18.eq_1
@[go_sem] def c31_19_wp := wp_of c31_19.eq_1
@[go_sem] def c31_20_wp := wp_of c31_20.eq_1
@[go_sem] def c31_21_wp := wp_of c31_21.eq_1
@[go_sem] def c31_22_wp := wp_of c31_22.eq_1
@[go_sem] def c31_23_wp := wp_of c31_23.eq_1
@[go_sem] def c31_24_wp := wp_of c31_24.eq_1
@[go_sem] def c31_25_wp := wp_of c31_25.eq_1
@[go_sem] def c31_26_wp := wp_of c31_26.eq_1
@[go_sem] def c31_27_wp := wp_of c31_27.eq_1
@[go_sem] def c31_28_wp := wp_of c31_28.eq_1
@[go_sem] def c31_29_wp := wp_of c31_29.eq_1
@[go_sem] def c31_30_wp := wp_of c31_30.eq_1
@[go_sem] def c31_31_wp := wp_of c31_31.eq_1
@[go_sem] def c31_32_wp := wp_of c31_32.eq_1
@[go_sem] def c31_33_wp := wp_of c31_33.eq_1
@[go_sem] def c31_34_wp := wp_of c31_34.eq_1
@[go_sem] def c31_35_wp := wp_of c31_35.eq_1
@[go_sem] def c31_36_wp := wp_of c31_36.eq_1
@[go_sem] def c31_37_wp := wp_of c31_37.eq_1
@[go_sem] def c31_38_wp := wp_of c31_38.eq_1
@[go_sem] def c31_39_wp := wp_of c31_39.eq_1
@[go_sem] def c31_40_wp := wp_of c31_40.eq_1
@[go_sem] def c31_41_wp := wp_of c31_41.eq_1
@[go_sem] def c31_42_wp := wp_of c31_42.eq_1
@[go_sem] def c31_43_wp := wp_of c31_43.eq_1
@[go_sem] def c31_44_wp := wp_of c31_44.eq_1
@[go_sem] def c31_45_wp := wp_of c31_45.eq_1
@[go_sem] def c31_46_wp := wp_of c31_46.eq_1
@[go_sem] def c31_47_wp := wp_of c31_47.eq_1
@[go_sem] def c31_48_wp := wp_of c31_48.eq_1
@[go_sem] def c31_49_wp := wp_of c31_49.eq_1
@[go_sem] def c31_50_wp := wp_of c31_50.eq_1
@[go_sem] def c31_51_wp := wp_of c31_51.eq_1
@[go_sem] def c31_52_wp := wp_of c31_52.eq_1
@[go_sem] def c31_53_wp := wp_of c31_53.eq_1
@[go_sem] def c31_54_wp := wp_of c31_54.eq_1
@[go_sem] def c31_55_wp := wp_of c31_55.eq_1
@[go_sem] def c31_56_wp := wp_of c31_56.eq_1
@[go_sem] def c31_57_wp := wp_of c31_57.eq_1
@[go_sem] def c31_58_wp := wp_of c31_58.eq_1
@[go_sem] def c31_59_wp := wp_of c31_59.eq_1
@[go_sem] def c31_60_wp := wp_of c31_60.eq_1
@[go_sem] def c31_61_wp := wp_of c31_61.eq_1
@[go_sem] def c31_62_wp := wp_of c31_62.eq_1
@[go_sem] def c31_63_wp := wp_of c31_63.eq_1
@[go_sem] def c31_64_wp := wp_of c31_64.eq_1
@[go_sem] def c31_65_wp := wp_of c31_65.eq_1
@[go_sem] def c31_66_wp := wp_of c31_66.eq_1
def c31 : AFn := ⟨26, [.t 2], c31_66⟩
theorem c31_ok : compF Tryz.prog Tryz.f31 = some c31 := by kernel_rfl
theorem a31 {args : List AV} {σ : ASt} {R : AV → ASt → Prop} (hl : args.length ≤ 26) (h : c31_66.wp Tryz.prog (RetQ [.t 2] R) (init args) σ) : ACalls Tryz.prog 31 args σ R := acalls_of Tryz.func31 c31_ok hl h
end Go.A
namespace Go.A
open Go.Proofs Go.Lib
theorem rerrors_ok : Pure Tryz.prog 20 [] (.sl .full (errL.map AV.str)) := by
 intro σ
 refine a20 (by simp) ?_
 simp (disch := first | assumption | omega) only [go_sem, ↓reduceIte, Bool.true_and]
 exact retC_by (.refl _) (.refl _) ⟨rfl, rfl⟩
theorem rquote_ok (s : List UInt8) (hs : s.length ≤ 1000000) : Pure Tryz.prog 28 [.str s] (.str (quotT s)) := by
 intro σ
 have hq : quotT s = 34 :: dbl s ++ [34] := rfl
 rw [hq]
 have hdl := dbl_le2 s
 refine a28 (by simp) ?_
 simp (disch := first | assumption | omega | (simp only [List.length_append, List.length_cons, List.length_nil]; omega)) only [go_sem]
 refine wp_loop_by (fun (i : Nat) a σ' => i ≤ s.length ∧ (a 0 = .str s ∧ a 3 = .str (34 :: dbl (s.take i)) ∧ a 4 = .int .i64 i) ∧ σ' = σ) (fun i => s.length - i) 0 (Dr.now ⟨Nat.zero_le _, by simp [AFr.upd, init, dbl], rfl⟩) ?_
 rintro i a σ1 ⟨hi, hf, rfl⟩
 by_cases hlt : i < s.length
 ·have hlt' : (i : Int) < s.length := by omega
  have hx : s[i]? = some (s[i]'hlt) := List.getElem?_eq_getElem hlt
  have htk : s.take (i + 1) = s.take i ++ [s[i]'hlt] := List.take_succ_eq_append_getElem hlt
  have hdi := dbl_le2 (s.take i)
  have hli : (s.take i).length = i := by rw [List.length_take]; omega
  obtain ⟨c, hc⟩ : ∃ c, s[i]'hlt = c := ⟨_, rfl⟩
  rw [hc] at hx htk
  have hpc : (s.take (i + 1)).drop i = [c] := by rw [htk]; exact List.drop_left' hli
  have e1 : ((i : Int) + 1).toNat = i + 1 := by omega
  have e2 : (i : Int) ≤ (i : Int) + 1 := by omega
  have e3 : (i : Int) + 1 ≤ s.length := by omega
  have hdb : dbl (s.take (i + 1)) = dbl (s.take i) ++ dbl [c] := by rw [htk, dbl_app]
  generalize dbl (s.take i) = D at *
  by_cases h34 : c = 34
  ·subst h34
   have hd2 : dbl [34] = [34, 34] := rfl
   rw [hd2] at hdb
   have c34 : ((34 : UInt8).toNat : Int) = 34 := rfl
   simp (disch := first | assumption | omega | (simp only [List.length_append, List.length_cons, List.length_nil]; omega)) only [go_sem, reduceCtorEq, Nat.reduceEqDiff, ↓reduceIte, hf, hlt', hx, c34, e1, hpc]
   refine ⟨i + 1, by dsimp only; omega, Dr.now ⟨hlt, ?_, rfl⟩⟩
   rw [hdb]
   simp [hf, AFr.upd]
  ·have hd2 : dbl [c] = [c] := by rw [dbl_o h34]; rfl
   rw [hd2] at hdb
   have c34 : ¬ ((c.toNat : Int) = 34) := by
    intro h
    apply h34
    apply UInt8.toNat_inj.1
    have : c.toNat = 34 := by omega
    rw [this]
    rfl
   simp (disch := first | assumption | omega | (simp only [List.length_append, List.length_cons, List.length_nil]; omega)) only [go_sem, reduceCtorEq, Nat.reduceEqDiff, ↓reduceIte, hf, hlt', hx, c34, e1, hpc]
   refine ⟨i + 1, by dsimp only; omega, Dr.now ⟨hlt, ?_, rfl⟩⟩
   rw [hdb]
   simp [hf, AFr.upd]
 ·have hlt' : ¬ (i : Int) < s.length := by omega
  rw [List.take_of_length_le (by omega)] at hf
  generalize dbl s = D at *
  simp (disch := first | assumption | omega | (simp only [List.length_append, List.length_cons, List.length_nil]; omega)) only [go_sem, reduceCtorEq, Nat.reduceEqDiff, ↓reduceIte, hf, hlt']
  exact retC_by (.refl _) (.refl _) ⟨rfl, rfl⟩
theorem nf_op {n : Nd} (h : Nf n) : 1 ≤ n.op ∧ n.op ≤ 23 := by
 cases h with
 | sign ho _ _ => simp only [Nd.op]; omega
 | bin hi _ _ _ _ => simp only [Nd.op]; omega
 | _ => simp only [Nd.op]; omega
theorem rlevel_ok (op : Int) (h1 : 1 ≤ op) (h2 : op ≤ 23) : Pure Tryz.prog 31 [.int .i64 op] (.int .i64 (levelP op)) := by
 intro σ
 have : op = 1 ∨ op = 2 ∨ op = 3 ∨ op = 4 ∨ op = 5 ∨ op = 6 ∨ op = 7 ∨ op = 8 ∨ op = 9 ∨ op = 10 ∨ op = 11 ∨ op = 12 ∨ op = 13 ∨ op = 14 ∨ op = 15 ∨ op = 16 ∨ op = 17 ∨ op = 18 ∨ op = 19 ∨ op = 20 ∨ op = 21 ∨ op = 22 ∨ op = 23 := by omega
 rcases this with rfl | rfl | rfl | rfl | rfl | rfl | rfl | rfl | rfl | rfl | rfl | rfl | rfl | rfl | rfl | rfl | rfl | rfl | rfl | rfl | rfl | rfl | rfl
 all_goals
  refine a31 (by simp) ?_
  simp (disch := first | assumption | omega) only [go_sem, reduceCtorEq, Nat.reduceEqDiff, Int.reduceEq, ↓reduceIte]
  exact retC_by (.refl _) (.refl _) ⟨rfl, rfl⟩
theorem rinside_ok {x : Nd} (hp : Pure Tryz.prog 8 [x.av] (.str x.spell)) (ho : 1 ≤ x.op ∧ x.op ≤ 23) (least : Int) (hl : x.spell.length ≤ 900000000) : Pure Tryz.prog 30 [x.av, .int .i64 least] (.str (insT least x.op x.spell)) := by
 intro σ
 have hv := rlevel_ok x.op ho.1 ho.2
 unfold insT
 generalize x.spell = w at *
 obtain ⟨l, hl0⟩ : ∃ l, levelP x.op = l := ⟨_, rfl⟩
 rw [hl0] at hv ⊢
 clear hl0
 obtain ⟨o, m, s, a, b, ks⟩ := x
 rw [op_mk] at hv
 rw [Nd.av_cs] at hp ⊢
 generalize ks.map Nd.av = L at *
 refine a30 (by simp) ?_
 simp (disch := first | assumption | omega) only [go_sem]
 refine boxC_by rfl fun c hc => ?_
 simp (disch := first | assumption | omega) only [go_sem, Nat.reduceEqDiff, ↓reduceIte]
 refine hv.use ?_
 by_cases hlt : l < least
 ·rw [if_neg (by omega)]
  have e1 : binS .add [40] w = some (.str (40 :: w)) := binS_add (by simp; omega)
  have e2 : binS .add (40 :: w) [41] = some (.str (40 :: w ++ [41])) := binS_add (by simp; omega)
  simp (disch := first | assumption | omega) only [go_sem, Nat.reduceEqDiff, Nat.reduceLeDiff, ↓reduceIte, hlt]
  refine hp.use ?_
  simp (disch := first | assumption | omega) only [go_sem, ↓reduceIte, e1, e2]
  exact retC_by (Drop.set hc) (.refl _) ⟨rfl, rfl⟩
 ·rw [if_pos (by omega)]
  simp (disch := first | assumption | omega) only [go_sem, Nat.reduceEqDiff, Nat.reduceLeDiff, ↓reduceIte, hlt]
  refine hp.use ?_
  simp (disch := first | assumption | omega) only [go_sem, ↓reduceIte]
  exact retC_by (Drop.set hc) (.refl _) ⟨rfl, rfl⟩
theorem nf_kid_len {least op : Int} {x : List UInt8} : x.length ≤ (insT least op x).length := by
 unfold insT
 split
 ·omega
 ·simp; omega
theorem joinS_kid {ks : List Nd} {x : Nd} (h : x ∈ ks) : x.spell.length ≤ (joinS ks).length := by
 have flat : ∀ l : List Nd, x ∈ l → x.spell.length ≤ (l.flatMap fun k => 44 :: k.spell).length := by
  intro l
  induction l with
  | nil => intro h; cases h
  | cons y l ih =>
    intro h
    rw [List.flatMap_cons, List.length_append, List.length_cons]
    rcases List.mem_cons.1 h with rfl | h
    ·omega
    ·have := ih h; omega
 cases ks with
 | nil => cases h
 | cons y l =>
   rw [joinS, List.length_append]
   rcases List.mem_cons.1 h with rfl | h
   ·omega
   ·have := flat l h; omega
theorem joinS_take (ks : List Nd) (i : Nat) (hi : i < ks.length) : joinS (ks.take (i + 1)) = joinS (ks.take i) ++ ((if i = 0 then [] else [44]) ++ (ks[i]).spell) := by
 cases ks with
 | nil => simp at hi
 | cons x l =>
   cases i with
   | zero => simp [joinS]
   | succ i =>
     rw [List.take_succ_cons, List.take_succ_cons, joinS, joinS]
     have hl : i < l.length := by simpa using hi
     have e : (l.take (i + 1)).flatMap (fun k => 44 :: k.spell) = (l.take i).flatMap (fun k => 44 :: k.spell) ++ (44 :: (l[i]).spell) := by rw [List.take_succ_eq_append_getElem hl, List.flatMap_append, List.flatMap_singleton]
     rw [e]
     simp
theorem joinS_take_le (ks : List Nd) (i : Nat) (hi : i ≤ ks.length) : (joinS (ks.take i)).length ≤ (joinS ks).length := by
 induction h : ks.length - i generalizing i with
 | zero =>
   rw [List.take_of_length_le (by omega)]
   omega
 | succ d ih =>
   have := ih (i + 1) (by omega) (by omega)
   rw [joinS_take ks i (by omega), List.length_append] at this
   omega
set_option maxHeartbeats 2000000 in
theorem rprint_nf {n : Nd} (h : Nf n) : n.spell.length ≤ 900000000 → Pure Tryz.prog 8 [n.av] (.str n.spell) := by
 induction h with
 | @num n h0 h1 =>
   intro hl σ
   have e : (Nd.mk 1 n [] .zero .zero []).spell = textD n := rfl
   have hc := drtext_ok (a := n) (by omega)
   rw [e, Nd.av_cs]
   generalize textD n = w at *
   refine a8 (by simp) ?_
   simp (disch := first | assumption | omega | (simp only [List.length_append, List.length_cons, List.length_nil]; omega)) only [go_sem]
   refine boxC_by rfl fun c hc' => ?_
   simp (disch := first | assumption | omega | (simp only [List.length_append, List.length_cons, List.length_nil]; omega)) only [go_sem, Nat.reduceEqDiff, ↓reduceIte]
   refine hc.use ?_
   simp (disch := first | assumption | omega | (simp only [List.length_append, List.length_cons, List.length_nil]; omega)) only [go_sem, ↓reduceIte]
   exact retC_by (Drop.set hc') (.refl _) ⟨rfl, rfl⟩
 | @text s _ hs =>
   intro hl σ
   have e : (Nd.mk 2 0 s .zero .zero []).spell = quotT s := rfl
   have hc := rquote_ok s (by omega)
   rw [e, Nd.av_cs]
   generalize quotT s = w at *
   refine a8 (by simp) ?_
   simp (disch := first | assumption | omega | (simp only [List.length_append, List.length_cons, List.length_nil]; omega)) only [go_sem]
   refine boxC_by rfl fun c hc' => ?_
   simp (disch := first | assumption | omega | (simp only [List.length_append, List.length_cons, List.length_nil]; omega)) only [go_sem, Nat.reduceEqDiff, Int.reduceEq, ↓reduceIte]
   refine hc.use ?_
   simp (disch := first | assumption | omega | (simp only [List.length_append, List.length_cons, List.length_nil]; omega)) only [go_sem, ↓reduceIte]
   exact retC_by (Drop.set hc') (.refl _) ⟨rfl, rfl⟩
 | @truth b hb =>
   intro hl σ
   rw [Nd.av_cs]
   rcases hb with rfl | rfl
   ·refine a8 (by simp) ?_
    simp (disch := first | assumption | omega | (simp only [List.length_append, List.length_cons, List.length_nil]; omega)) only [go_sem]
    refine boxC_by rfl fun c hc' => ?_
    simp (disch := first | assumption | omega | (simp only [List.length_append, List.length_cons, List.length_nil]; omega)) only [go_sem, Nat.reduceEqDiff, Int.reduceEq, ↓reduceIte]
    exact retC_by (Drop.set hc') (.refl _) ⟨rfl, rfl⟩
   ·refine a8 (by simp) ?_
    simp (disch := first | assumption | omega | (simp only [List.length_append, List.length_cons, List.length_nil]; omega)) only [go_sem]
    refine boxC_by rfl fun c hc' => ?_
    simp (disch := first | assumption | omega | (simp only [List.length_append, List.length_cons, List.length_nil]; omega)) only [go_sem, Nat.reduceEqDiff, Int.reduceEq, ↓reduceIte]
    exact retC_by (Drop.set hc') (.refl _) ⟨rfl, rfl⟩
 | @fail k hk =>
   intro hl σ
   have e : (Nd.mk 4 (((k : Int) + 1) * 10000) [] .zero .zero []).spell = errL.getD k [] := fail_text hk
   have he := rerrors_ok
   have hq : (((k : Int) + 1) * 10000).tdiv 10000 = (k : Int) + 1 := Int.mul_tdiv_cancel _ (by decide)
   have hq2 : (k : Int) + 1 - 1 = k := by omega
   have hx : (errL.map AV.str)[k]? = some (.str (errL.getD k [])) := by
    rw [List.getElem?_map, List.getD_eq_getElem?_getD]
    have : k < errL.length := hk
    rw [List.getElem?_eq_getElem this]
    rfl
   have hlt : (k : Int) < (errL.map AV.str).length := by
    have : (errL.map AV.str).length = 7 := rfl
    omega
   rw [e, Nd.av_cs]
   generalize errL.getD k [] = w at *
   generalize ((k : Int) + 1) * 10000 = N at *
   generalize errL.map AV.str = E at *
   refine a8 (by simp) ?_
   simp (disch := first | assumption | omega | (simp only [List.length_append, List.length_cons, List.length_nil]; omega)) only [go_sem]
   refine boxC_by rfl fun c hc' => ?_
   simp (disch := first | assumption | omega | (simp only [List.length_append, List.length_cons, List.length_nil]; omega)) only [go_sem, Nat.reduceEqDiff, Int.reduceEq, ↓reduceIte, hq, hq2]
   refine he.use ?_
   simp (disch := first | assumption | omega | (simp only [List.length_append, List.length_cons, List.length_nil]; omega)) only [go_sem, Nat.reduceEqDiff, ↓reduceIte, hx]
   exact retC_by (Drop.set hc') (.refl _) ⟨rfl, rfl⟩
 | @cell r hr =>
   intro hl σ
   have e : (Nd.mk 5 0 [] r .zero []).spell = textP r := rfl
   have hc := reftext_ok hr
   rw [e, Nd.av_cs]
   unfold refAV at hc
   generalize textP r = w at *
   refine a8 (by simp) ?_
   simp (disch := first | assumption | omega | (simp only [List.length_append, List.length_cons, List.length_nil]; omega)) only [go_sem]
   refine boxC_by rfl fun c hc' => ?_
   simp (disch := first | assumption | omega | (simp only [List.length_append, List.length_cons, List.length_nil]; omega)) only [go_sem, Nat.reduceEqDiff, Nat.reduceAdd, Nat.reduceLeDiff, Int.reduceEq, ↓reduceIte]
   refine hc.use ?_
   simp (disch := first | assumption | omega | (simp only [List.length_append, List.length_cons, List.length_nil]; omega)) only [go_sem, ↓reduceIte]
   exact retC_by (Drop.set hc') (.refl _) ⟨rfl, rfl⟩
 | @area r q hr hq =>
   intro hl σ
   have e : (Nd.mk 6 0 [] r q []).spell = textP r ++ [58] ++ textP q := rfl
   have hc1 := reftext_ok hr
   have hc2 := reftext_ok hq
   have l1 := text_len hr
   have l2 := text_len hq
   rw [e, Nd.av_cs]
   unfold refAV at hc1 hc2
   generalize textP r = w1 at *
   generalize textP q = w2 at *
   refine a8 (by simp) ?_
   simp (disch := first | assumption | omega | (simp only [List.length_append, List.length_cons, List.length_nil]; omega)) only [go_sem]
   refine boxC_by rfl fun c hc' => ?_
   simp (disch := first | assumption | omega | (simp only [List.length_append, List.length_cons, List.length_nil]; omega)) only [go_sem, Nat.reduceEqDiff, Nat.reduceAdd, Nat.reduceLeDiff, Int.reduceEq, ↓reduceIte]
   refine hc1.use ?_
   simp (disch := first | assumption | omega | (simp only [List.length_append, List.length_cons, List.length_nil]; omega)) only [go_sem, Nat.reduceEqDiff, Nat.reduceAdd, Nat.reduceLeDiff, ↓reduceIte]
   refine hc2.use ?_
   simp (disch := first | assumption | omega | (simp only [List.length_append, List.length_cons, List.length_nil]; omega)) only [go_sem, Nat.reduceEqDiff, ↓reduceIte]
   exact retC_by (Drop.set hc') (.refl _) ⟨by simp [resV_one], rfl⟩
 | @sign op x ho hx hne ih =>
   intro hl σ
   rw [spell_sign ho] at hl ⊢
   rw [List.length_append, List.length_singleton] at hl
   have hk := nf_kid_len (least := 6) (op := x.op) (x := x.spell)
   have hin := rinside_ok (ih (by omega)) (nf_op hx) 6 (by omega)
   rw [Nd.av_cs]
   generalize insT 6 x.op x.spell = w at *
   have hmx : ([x].map Nd.av)[0]? = some x.av := rfl
   obtain ⟨xo, xm, xs, xa, xb, xk⟩ := x
   rw [Nd.av_cs] at hmx hin
   have hlm : ([Nd.mk xo xm xs xa xb xk].map Nd.av).length = 1 := rfl
   generalize [Nd.mk xo xm xs xa xb xk].map Nd.av = L at *
   rcases ho with rfl | rfl
   ·refine a8 (by simp) ?_
    simp (disch := first | assumption | omega | (simp only [List.length_append, List.length_cons, List.length_nil]; omega)) only [go_sem, ↓reduceIte]
    refine boxC_by rfl fun c hc' => ?_
    simp (disch := first | assumption | omega | (simp only [List.length_append, List.length_cons, List.length_nil]; omega)) only [go_sem, Nat.reduceEqDiff, Nat.reduceLeDiff, Int.reduceEq, ↓reduceIte, hmx]
    refine hin.use ?_
    simp (disch := first | assumption | omega | (simp only [List.length_append, List.length_cons, List.length_nil]; omega)) only [go_sem, ↓reduceIte]
    exact retC_by (Drop.set hc') (.refl _) ⟨rfl, rfl⟩
   ·refine a8 (by simp) ?_
    simp (disch := first | assumption | omega | (simp only [List.length_append, List.length_cons, List.length_nil]; omega)) only [go_sem, Int.reduceEq, ↓reduceIte]
    refine boxC_by rfl fun c hc' => ?_
    simp (disch := first | assumption | omega | (simp only [List.length_append, List.length_cons, List.length_nil]; omega)) only [go_sem, Nat.reduceEqDiff, Nat.reduceLeDiff, Int.reduceEq, ↓reduceIte, hmx]
    refine hin.use ?_
    simp (disch := first | assumption | omega | (simp only [List.length_append, List.length_cons, List.length_nil]; omega)) only [go_sem, ↓reduceIte]
    exact retC_by (Drop.set hc') (.refl _) ⟨rfl, rfl⟩
 | @hund x hx hne ih =>
   intro hl σ
   rw [spell_hund] at hl ⊢
   rw [List.length_append, List.length_singleton] at hl
   have hk := nf_kid_len (least := 7) (op := x.op) (x := x.spell)
   have hin := rinside_ok (ih (by omega)) (nf_op hx) 7 (by omega)
   rw [Nd.av_cs]
   generalize insT 7 x.op x.spell = w at *
   have hmx : ([x].map Nd.av)[0]? = some x.av := rfl
   obtain ⟨xo, xm, xs, xa, xb, xk⟩ := x
   rw [Nd.av_cs] at hmx hin
   have hlm : ([Nd.mk xo xm xs xa xb xk].map Nd.av).length = 1 := rfl
   generalize [Nd.mk xo xm xs xa xb xk].map Nd.av = L at *
   refine a8 (by simp) ?_
   simp (disch := first | assumption | omega | (simp only [List.length_append, List.length_cons, List.length_nil]; omega)) only [go_sem]
   refine boxC_by rfl fun c hc' => ?_
   simp (disch := first | assumption | omega | (simp only [List.length_append, List.length_cons, List.length_nil]; omega)) only [go_sem, Nat.reduceEqDiff, Nat.reduceLeDiff, Int.reduceEq, ↓reduceIte, hmx]
   refine hin.use ?_
   simp (disch := first | assumption | omega | (simp only [List.length_append, List.length_cons, List.length_nil]; omega)) only [go_sem, ↓reduceIte]
   exact retC_by (Drop.set hc') (.refl _) ⟨rfl, rfl⟩
 | @bin i x y hi hx hnx hy hny ihx ihy =>
   intro hl σ
   rw [spell_bin hi] at hl ⊢
   rw [List.length_append, List.length_append] at hl
   have hlv := rlevel_ok (10 + (i : Int)) (by omega) (by omega)
   have hsg := r12signs_ok
   have hk1 := nf_kid_len (least := levelP (10 + i)) (op := x.op) (x := x.spell)
   have hk2 := nf_kid_len (least := levelP (10 + i) + 1) (op := y.op) (x := y.spell)
   have hin1 := rinside_ok (ihx (by omega)) (nf_op hx) (levelP (10 + i)) (by omega)
   have hin2 := rinside_ok (ihy (by omega)) (nf_op hy) (levelP (10 + i) + 1) (by omega)
   rw [Nd.av_cs]
   obtain ⟨lv, hlve⟩ : ∃ lv, levelP (10 + (i : Int)) = lv := ⟨_, rfl⟩
   have hlr := lev_bin i hi
   rw [hlve] at hlv hin1 hin2 hl hlr ⊢
   generalize insT lv x.op x.spell = w1 at *
   generalize insT (lv + 1) y.op y.spell = w2 at *
   have hmx : ([x, y].map Nd.av)[0]? = some x.av := rfl
   have hmy : ([x, y].map Nd.av)[1]? = some y.av := rfl
   obtain ⟨xo, xm, xs, xa, xb, xk⟩ := x
   obtain ⟨yo, ym, ys, ya, yb, yk⟩ := y
   rw [Nd.av_cs] at hmx hmy hin1 hin2
   have hlm : ([Nd.mk xo xm xs xa xb xk, Nd.mk yo ym ys ya yb yk].map Nd.av).length = 2 := rfl
   generalize [Nd.mk xo xm xs xa xb xk, Nd.mk yo ym ys ya yb yk].map Nd.av = L at *
   have hx : (signL.map AV.str)[i]? = some (.str (signL.getD i [])) := by
    rw [List.getElem?_map, List.getD_eq_getElem?_getD]
    have : i < signL.length := hi
    rw [List.getElem?_eq_getElem this]
    rfl
   have hsl : (signL.map AV.str).length = 12 := rfl
   generalize signL.getD i [] = sg at *
   generalize signL.map AV.str = SG at *
   have q0 : 10 + (i : Int) - 10 = i := by omega
   have q1 : ¬ (10 + (i : Int) = 1) := by omega
   have q2 : ¬ (10 + (i : Int) = 2) := by omega
   have q3 : ¬ (10 + (i : Int) = 3) := by omega
   have q4 : ¬ (10 + (i : Int) = 4) := by omega
   have q5 : ¬ (10 + (i : Int) = 5) := by omega
   have q6 : ¬ (10 + (i : Int) = 6) := by omega
   have q7 : ¬ (10 + (i : Int) = 7) := by omega
   have q8 : ¬ (10 + (i : Int) = 8) := by omega
   have q9 : ¬ (10 + (i : Int) = 9) := by omega
   have q22 : ¬ (10 + (i : Int) = 22) := by omega
   have q23 : ¬ (10 + (i : Int) = 23) := by omega
   refine a8 (by simp) ?_
   simp (disch := first | assumption | omega | (simp only [List.length_append, List.length_cons, List.length_nil]; omega)) only [go_sem]
   refine boxC_by rfl fun c hc' => ?_
   simp (disch := first | assumption | omega | (simp only [List.length_append, List.length_cons, List.length_nil]; omega)) only [go_sem, Nat.reduceEqDiff, Nat.reduceLeDiff, ↓reduceIte, Int.reduceToNat, q0, q1, q2, q3, q4, q5, q6, q7, q8, q9, q22, q23, hmx, hmy]
   refine hlv.use ?_
   simp (disch := first | assumption | omega | (simp only [List.length_append, List.length_cons, List.length_nil]; omega)) only [go_sem, Nat.reduceEqDiff, Nat.reduceLeDiff, ↓reduceIte]
   refine hin1.use ?_
   simp (disch := first | assumption | omega | (simp only [List.length_append, List.length_cons, List.length_nil]; omega)) only [go_sem, Nat.reduceEqDiff, Nat.reduceLeDiff, ↓reduceIte]
   refine hsg.use ?_
   simp (disch := first | assumption | omega | (simp only [List.length_append, List.length_cons, List.length_nil]; omega)) only [go_sem, Nat.reduceEqDiff, Nat.reduceLeDiff, ↓reduceIte, hx]
   refine hlv.use ?_
   simp (disch := first | assumption | omega | (simp only [List.length_append, List.length_cons, List.length_nil]; omega)) only [go_sem, Nat.reduceEqDiff, Nat.reduceLeDiff, ↓reduceIte]
   refine hin2.use ?_
   simp (disch := first | assumption | omega | (simp only [List.length_append, List.length_cons, List.length_nil]; omega)) only [go_sem, Nat.reduceEqDiff, ↓reduceIte]
   exact retC_by (Drop.set hc') (.refl _) ⟨by simp [resV_one], rfl⟩
 | @call s ks hs hsl hk hm ih =>
   intro hl σ
   rw [spell_call] at hl ⊢
   rw [List.length_append, List.length_append, List.length_append, List.length_singleton, List.length_singleton] at hl
   have hkid : ∀ x ∈ ks, Pure Tryz.prog 8 [x.av] (.str x.spell) := fun x hx => ih x hx (by have := joinS_kid hx; omega)
   rw [Nd.av_cs]
   refine a8 (by simp) ?_
   simp (disch := first | assumption | omega | (simp only [List.length_append, List.length_cons, List.length_nil]; omega)) only [go_sem]
   refine boxC_by rfl fun c hc' => ?_
   have hlm : (ks.map Nd.av).length = ks.length := List.length_map _
   simp (disch := first | assumption | omega | (simp only [List.length_append, List.length_cons, List.length_nil]; omega)) only [go_sem, Nat.reduceEqDiff, Int.reduceEq, ↓reduceIte, hlm]
   refine wp_loop_by (fun (i : Nat) a1 s2 => i ≤ ks.length ∧ (a1 3 = .str (s ++ ([40] ++ joinS (ks.take i))) ∧ a1 77 = .sl .shr (ks.map Nd.av) ∧ a1 78 = .int .i64 ks.length ∧ a1 79 = .int .i64 i) ∧ s2 = σ) (fun i => ks.length - i) 0 (Dr.drop (Drop.set hc') ⟨Nat.zero_le _, ?_, rfl⟩) ?_
   ·simp only [List.take_zero, joinS]
    simp (disch := first | assumption | omega | (simp only [List.length_append, List.length_cons, List.length_nil]; omega)) only [go_sem, Nat.reduceEqDiff, ↓reduceIte]
   rintro i a1 s2 ⟨hi, hf, rfl⟩
   have htl := joinS_take_le ks i hi
   by_cases hlt : i < ks.length
   ·have hlt' : (i : Int) < ks.length := by omega
    have hx : ks[i]? = some (ks[i]'hlt) := List.getElem?_eq_getElem hlt
    have hnx := joinS_take ks i hlt
    have hcall := hkid _ (List.getElem_mem hlt)
    have hsx := joinS_kid (List.getElem_mem hlt)
    obtain ⟨x, hxe⟩ : ∃ x, ks[i]'hlt = x := ⟨_, rfl⟩
    rw [hxe] at hx hcall hnx hsx
    have hmx := Nd.get hx
    obtain ⟨w, hw⟩ : ∃ w, x.spell = w := ⟨_, rfl⟩
    rw [hw] at hcall hnx hsx
    obtain ⟨xo, xm, xs, xa, xb, xk⟩ := x
    rw [Nd.av_cs] at hmx hcall
    generalize ks.map Nd.av = L at *
    obtain ⟨J, hJ⟩ : ∃ J, joinS (ks.take i) = J := ⟨_, rfl⟩
    rw [hJ] at hf hnx htl
    simp (disch := first | assumption | omega | (simp only [List.length_append, List.length_cons, List.length_nil]; omega)) only [go_sem, Nat.reduceEqDiff, Nat.reduceLeDiff, ↓reduceIte, hf, hlt', hmx]
    refine allocC_by fun d hd => ?_
    by_cases hi0 : i = 0
    ·subst hi0
     have hz : ¬ ((0 : Int) < ((0 : Nat) : Int)) := by decide
     simp (disch := first | assumption | omega | (simp only [List.length_append, List.length_cons, List.length_nil]; omega)) only [go_sem, Nat.reduceEqDiff, Nat.reduceAdd, Nat.reduceLeDiff, Int.reduceLT, ↓reduceIte, hf, ASt.set_set]
     refine hcall.use ?_
     simp (disch := first | assumption | omega | (simp only [List.length_append, List.length_cons, List.length_nil]; omega)) only [go_sem, Nat.reduceEqDiff, ↓reduceIte, Int.reduceAdd, hf]
     refine ⟨0 + 1, by dsimp only; omega, Dr.drop (Drop.set hd) ⟨by omega, ?_, rfl⟩⟩
     rw [hnx]
     simp [hf, AFr.upd]
    ·have hz : (0 : Int) < (i : Int) := by omega
     rw [if_neg hi0] at hnx
     simp (disch := first | assumption | omega | (simp only [List.length_append, List.length_cons, List.length_nil]; omega)) only [go_sem, Nat.reduceEqDiff, Nat.reduceAdd, Nat.reduceLeDiff, ↓reduceIte, hf, ASt.set_set, hz]
     refine hcall.use ?_
     simp (disch := first | assumption | omega | (simp only [List.length_append, List.length_cons, List.length_nil]; omega)) only [go_sem, Nat.reduceEqDiff, ↓reduceIte, hf]
     have hil : ks.length ≤ 900000000 := by
      have hcount : ∀ l : List Nd, l.length ≤ (joinS l).length + 1 := by
       intro l
       cases l with
       | nil => simp
       | cons y l =>
         have : ∀ l : List Nd, l.length ≤ (l.flatMap fun k => 44 :: k.spell).length := by
          intro l
          induction l with
          | nil => simp
          | cons z l ih => rw [List.flatMap_cons, List.length_append, List.length_cons, List.length_cons]; omega
         have := this l
         rw [joinS, List.length_append, List.length_cons]
         omega
      have := hcount ks
      omega
     have hwr : IntKind.i64.wrap ((i : Int) + 1) = i + 1 := by rw [IntKind.wrap_i64]; omega
     refine ⟨i + 1, by dsimp only; omega, Dr.drop (Drop.set hd) ⟨by omega, ?_, rfl⟩⟩
     rw [hnx]
     simp [hf, AFr.upd, hwr]
   ·have hlt' : ¬ (i : Int) < ks.length := by omega
    rw [List.take_of_length_le (by omega)] at hf htl
    generalize joinS ks = J at *
    simp (disch := first | assumption | omega | (simp only [List.length_append, List.length_cons, List.length_nil]; omega)) only [go_sem, Nat.reduceEqDiff, ↓reduceIte, hf, hlt']
    exact retC_by (.refl _) (.refl _) ⟨by simp [resV_one], rfl⟩
 | miss =>
   intro hl σ
   rw [Nd.av_cs]
   refine a8 (by simp) ?_
   simp (disch := first | assumption | omega | (simp only [List.length_append, List.length_cons, List.length_nil]; omega)) only [go_sem]
   refine boxC_by rfl fun c hc' => ?_
   simp (disch := first | assumption | omega | (simp only [List.length_append, List.length_cons, List.length_nil]; omega)) only [go_sem, Nat.reduceEqDiff, Int.reduceEq, ↓reduceIte]
   exact retC_by (Drop.set hc') (.refl _) ⟨rfl, rfl⟩
end Go.A
namespace Go.A
open Go.Proofs
/-! 16: tabular/tabularref12.Areas -/
def c16_0 : ACode := .ops [
 ⟨some 2, none, .e (.box (.t 0)), []⟩,
 ⟨some 4, none, .q (.mv (.v (.sl .full []))), []⟩]
def c16_1 : ACode := .ops [
 ⟨some 10, none, .q (.fa 0 (.t 2)), []⟩,
 ⟨some 11, none, .q (.ld none (.t 10)), []⟩,
 ⟨some 12, none, .q (.bin .eql (.t 11) (.v (.int .i64 5))), []⟩,
 ⟨some 13, none, .q (.mv (.t 12)), []⟩,
 ⟨some 14, some (13, false), .q (.fa 0 (.t 2)), []⟩,
 ⟨some 15, some (13, false), .q (.ld none (.t 14)), []⟩,
 ⟨some 16, some (13, false), .q (.bin .eql (.t 15) (.v (.int .i64 6))), []⟩,
 ⟨some 17, none, .q (.pick (.t 13) (.v (.bool true)) (.t 16)), []⟩]
def c16_2 : ACode := .ops [
 ⟨some 18, none, .q (.ld (some 12) (.t 2)), []⟩,
 ⟨some 19, none, .e (.call 34 [(.t 18)]), []⟩,
 ⟨some 5, none, .e (.alloc [(.int .i64 0), (.int .i64 0), (.int .i64 0), (.int .i64 0)]), []⟩,
 ⟨none, none, .e (.store 4 (.t 5) (.t 19)), []⟩]
def c16_3 : ACode := .ops [
 ⟨some 20, none, .q (.mv (.t 1)), []⟩,
 ⟨some 21, none, .q (.len (.t 20)), []⟩,
 ⟨some 22, none, .q (.mv (.v (.int .i64 0))), []⟩]
def c16_4 : ACode := .ops [
 ⟨some 23, none, .q (.bin .lss (.t 22) (.t 21)), []⟩]
def c16_5 : ACode := .cond (.t 23) .skip (.exit 0)
def c16_6 : ACode := .ops [
 ⟨some 24, none, .q (.ia 4 (.t 20) (.t 22)), []⟩,
 ⟨some 25, none, .q (.ld (some 4) (.t 24)), []⟩,
 ⟨some 7, none, .e (.alloc [(.int .i64 0), (.int .i64 0), (.int .i64 0), (.int .i64 0)]), []⟩,
 ⟨none, none, .e (.store 4 (.t 7) (.t 25)), []⟩]
def c16_7 : ACode := .ops [
 ⟨some 26, none, .q (.ld (some 4) (.t 7)), []⟩,
 ⟨some 27, none, .q (.ld (some 4) (.t 5)), []⟩,
 ⟨some 28, none, .q (.eqs false [(0, 0), (1, 0), (2, 0), (3, 0)] (.t 26) (.t 27)), []⟩]
def c16_8 : ACode := .ops [
 ⟨some 29, none, .q (.mv (.t 1)), []⟩,
 ⟨some 4, none, .q (.mv (.t 29)), []⟩]
def c16_9 : ACode := .seq c16_8 .ret
def c16_10 : ACode := .cond (.t 28) c16_9 .skip
def c16_11 : ACode := .seq c16_7 c16_10
def c16_12 : ACode := .seq c16_6 c16_11
def c16_13 : ACode := .block 1 c16_12
def c16_14 : ACode := .ops [
 ⟨some 30, none, .q (.bin .add (.t 22) (.v (.int .i64 1))), []⟩,
 ⟨some 22, none, .q (.mv (.t 30)), []⟩]
def c16_15 : ACode := .seq c16_13 c16_14
def c16_16 : ACode := .seq c16_5 c16_15
def c16_17 : ACode := .seq c16_4 c16_16
def c16_18 : ACode := .loop c16_17
def c16_19 : ACode := .block 0 c16_18
def c16_20 : ACode := .seq c16_3 c16_19
def c16_21 : ACode := .ops [
 ⟨some 31, none, .q (.bsl 4 []), []⟩,
 ⟨some 32, none, .q (.mv (.t 1)), []⟩,
 ⟨some 34, none, .q (.ld (some 4) (.t 5)), []⟩,
 ⟨some 35, none, .q (.bsl 4 [(.t 34)]), []⟩,
 ⟨some 33, none, .e (.app 47 4 32 [(.int .i64 0), (.int .i64 0), (.int .i64 0), (.int .i64 0)] (.t 31) (.t 32)), [⟨none, .ld (some 4) (.t 5), 34⟩]⟩,
 ⟨some 36, none, .e (.app 47 4 32 [(.int .i64 0), (.int .i64 0), (.int .i64 0), (.int .i64 0)] (.t 33) (.t 35)), []⟩,
 ⟨some 4, none, .q (.mv (.t 36)), []⟩]
def c16_22 : ACode := .seq c16_21 .ret
def c16_23 : ACode := .seq c16_20 c16_22
def c16_24 : ACode := .seq c16_2 c16_23
def c16_25 : ACode := .cond (.t 17) c16_24 .skip
def c16_26 : ACode := .seq c16_1 c16_25
def c16_27 : ACode := .ops [
 ⟨some 37, none, .q (.fa 11 (.t 2)), []⟩,
 ⟨some 38, none, .q (.ld none (.t 37)), []⟩,
 ⟨some 39, none, .q (.len (.t 38)), []⟩,
 ⟨some 40, none, .q (.mv (.v (.int .i64 0))), []⟩]
def c16_28 : ACode := .ops [
 ⟨some 41, none, .q (.bin .lss (.t 40) (.t 39)), []⟩]
def c16_29 : ACode := .cond (.t 41) .skip (.exit 2)
def c16_30 : ACode := .ops [
 ⟨some 42, none, .q (.ia 12 (.t 38) (.t 40)), []⟩,
 ⟨some 43, none, .q (.ld (some 12) (.t 42)), []⟩,
 ⟨some 9, none, .e (.alloc [(.int .i64 0), (.int .i64 0), (.str []), (.int .i64 0), (.int .i64 0), (.bool false), (.bool false), (.int .i64 0), (.int .i64 0), (.bool false), (.bool false), (.sl .full [])]), []⟩,
 ⟨none, none, .e (.store 12 (.t 9) (.t 43)), []⟩]
def c16_31 : ACode := .ops [
 ⟨some 44, none, .q (.ld (some 12) (.t 9)), []⟩,
 ⟨some 45, none, .q (.mv (.t 1)), []⟩,
 ⟨some 46, none, .e (.call 16 [(.t 44), (.t 45)]), []⟩,
 ⟨some 1, none, .q (.mv (.t 46)), []⟩]
def c16_32 : ACode := .seq c16_30 c16_31
def c16_33 : ACode := .block 3 c16_32
def c16_34 : ACode := .ops [
 ⟨some 47, none, .q (.bin .add (.t 40) (.v (.int .i64 1))), []⟩,
 ⟨some 40, none, .q (.mv (.t 47)), []⟩]
def c16_35 : ACode := .seq c16_33 c16_34
def c16_36 : ACode := .seq c16_29 c16_35
def c16_37 : ACode := .seq c16_28 c16_36
def c16_38 : ACode := .loop c16_37
def c16_39 : ACode := .block 2 c16_38
def c16_40 : ACode := .seq c16_27 c16_39
def c16_41 : ACode := .ops [
 ⟨some 48, none, .q (.mv (.t 1)), []⟩,
 ⟨some 4, none, .q (.mv (.t 48)), []⟩]
def c16_42 : ACode := .seq c16_41 .ret
def c16_43 : ACode := .seq c16_40 c16_42
def c16_44 : ACode := .seq c16_26 c16_43
def c16_45 : ACode := .seq c16_0 c16_44
@[go_sem] def c16_0_wp := wp_of c16_0.eq_1
@[go_sem] def c16_1_wp := wp_of c16_1.eq_1
@[go_sem] def c16_2_wp := wp_of c16_2.eq_1
@[go_sem] def c16_3_wp := wp_of c16_3.eq_1
@[go_sem] def c16_4_wp := wp_of c16_4.eq_1
@[go_sem] def c16_5_wp := wp_of c16_5.eq_1
@[go_sem] def c16_6_wp := wp_of c16_6.eq_1
@[go_sem] def c16_7_wp := wp_of c16_7.eq_1
@[go_sem] def c16_8_wp := wp_of c16_8.eq_1
@[go_sem] def c16_9_wp := wp_of c16_9.eq_1
@[go_sem] def c16_10_wp := wp_of c16_10.eq_1
@[go_sem] def c16_11_wp := wp_of c16_11.eq_1
@[go_sem] def c16_12_wp := wp_of c16_12.eq_1
@[go_sem] def c16_13_wp := wp_of c16_13.eq_1
@[go_sem] def c16_14_wp := wp_of c16_14.eq_1
@[go_sem] def c16_15_wp := wp_of c16_15.eq_1
@[go_sem] def c16_16_wp := wp_of c16_16.eq_1
@[go_sem] def c16_17_wp := wp_of c16_17.eq_1
@[go_sem] def c16_18_wp := wp_of c16_18.eq_1
@[go_sem] def c16_19_wp := wp_of c16_19.eq_1
@[go_sem] def c16_20_wp := wp_of c16_20.eq_1
@[go_sem] def c16_21_wp := wp_of c16_21.eq_1
@[go_sem] def c16_22_wp := wp_of c16_22.eq_1
@[go_sem] def c16_23_wp := wp_of c16_23.eq_1
@[go_sem] def c16_24_wp := wp_of c16_24.eq_1
@[go_sem] def c16_25_wp := wp_of c16_25.eq_1
@[go_sem] def c16_26_wp := wp_of c16_26.eq_1
@[go_sem] def c16_27_wp := wp_of c16_27.eq_1
@[go_sem] def c16_28_wp := wp_of c16_28.eq_1
@[go_sem] def c16_29_wp := wp_of c16_29.eq_1
@[go_sem] def c16_30_wp := wp_of c16_30.eq_1
@[go_sem] def c16_31_wp := wp_of c16_31.eq_1
@[go_sem] def c16_32_wp := wp_of c16_32.eq_1
@[go_sem] def c16_33_wp := wp_of c16_33.eq_1
@[go_sem] def c16_34_wp := wp_of c16_34.eq_1
@[go_sem] def c16_35_wp := wp_of c16_35.eq_1
@[go_sem] def c16_36_wp := wp_of c16_36.eq_1
@[go_sem] def c16_37_wp := wp_of c16_37.eq_1
@[go_sem] def c16_38_wp := wp_of c16_38.eq_1
@[go_sem] def c16_39_wp := wp_of c16_39.eq_1
@[go_sem] def c16_40_wp := wp_of c16_40.eq_1
@[go_sem] def c16_41_wp := wp_of c16_41.eq_1
@[go_sem] def c16_42_wp := wp_of c16_42.eq_1
@[go_sem] def c16_43_wp := wp_of c16_43.eq_1
@[go_sem] def c16_44_wp := wp_of c16_44.eq_1
@[go_sem] def c16_45_wp := wp_of c16_45.eq_1
def c16 : AFn := ⟨49, [.t 4], c16_45⟩
theorem c16_ok : compF Tryz.prog Tryz.f16 = some c16 := by kernel_rfl
theorem a16 {args : List AV} {σ : ASt} {R : AV → ASt → Prop} (hl : args.length ≤ 49) (h : c16_45.wp Tryz.prog (RetQ [.t 4] R) (init args) σ) : ACalls Tryz.prog 16 args σ R := acalls_of Tryz.func16 c16_ok hl h
/-! 34: tabular/tabularref12.rect -/
def c34_0 : ACode := .ops [
 ⟨some 1, none, .e (.box (.t 0)), []⟩,
 ⟨some 2, none, .e (.alloc [(.int .i64 0), (.int .i64 0), (.int .i64 0), (.int .i64 0)]), []⟩]
def c34_1 : ACode := .ops [
 ⟨some 4, none, .q (.fa 7 (.t 1)), []⟩,
 ⟨some 5, none, .q (.ld (some 4) (.t 4)), []⟩,
 ⟨some 3, none, .e (.alloc [(.int .i64 0), (.int .i64 0), (.bool false), (.bool false)]), []⟩,
 ⟨none, none, .e (.store 4 (.t 3) (.t 5)), []⟩]
def c34_2 : ACode := .ops [
 ⟨some 6, none, .q (.fa 0 (.t 1)), []⟩,
 ⟨some 7, none, .q (.ld none (.t 6)), []⟩,
 ⟨some 8, none, .q (.bin .eql (.t 7) (.v (.int .i64 5))), []⟩]
def c34_3 : ACode := .ops [
 ⟨some 9, none, .q (.fa 3 (.t 1)), []⟩,
 ⟨some 10, none, .q (.ld (some 4) (.t 9)), []⟩,
 ⟨none, none, .e (.store 4 (.t 3) (.t 10)), []⟩]
def c34_4 : ACode := .cond (.t 8) c34_3 .skip
def c34_5 : ACode := .seq c34_2 c34_4
def c34_6 : ACode := .ops [
 ⟨some 11, none, .q (.fa 3 (.t 1)), []⟩,
 ⟨some 12, none, .q (.fa 0 (.t 11)), []⟩,
 ⟨some 13, none, .q (.ld none (.t 12)), []⟩,
 ⟨some 14, none, .q (.fa 0 (.t 3)), []⟩,
 ⟨some 15, none, .q (.ld none (.t 14)), []⟩,
 ⟨some 16, none, .q (.mnx false (.t 13) (.t 15)), []⟩,
 ⟨some 17, none, .q (.fa 3 (.t 1)), []⟩,
 ⟨some 18, none, .q (.fa 1 (.t 17)), []⟩,
 ⟨some 19, none, .q (.ld none (.t 18)), []⟩,
 ⟨some 20, none, .q (.fa 1 (.t 3)), []⟩,
 ⟨some 21, none, .q (.ld none (.t 20)), []⟩,
 ⟨some 22, none, .q (.mnx false (.t 19) (.t 21)), []⟩,
 ⟨some 23, none, .q (.fa 3 (.t 1)), []⟩,
 ⟨some 24, none, .q (.fa 0 (.t 23)), []⟩,
 ⟨some 25, none, .q (.ld none (.t 24)), []⟩,
 ⟨some 26, none, .q (.fa 0 (.t 3)), []⟩,
 ⟨some 27, none, .q (.ld none (.t 26)), []⟩,
 ⟨some 28, none, .q (.mnx true (.t 25) (.t 27)), []⟩,
 ⟨some 29, none, .q (.fa 3 (.t 1)), []⟩,
 ⟨some 30, none, .q (.fa 0 (.t 29)), []⟩,
 ⟨some 31, none, .q (.ld none (.t 30)), []⟩,
 ⟨some 32, none, .q (.fa 0 (.t 3)), []⟩,
 ⟨some 33, none, .q (.ld none (.t 32)), []⟩,
 ⟨some 34, none, .q (.mnx false (.t 31) (.t 33)), []⟩,
 ⟨some 35, none, .q (.bin .sub (.t 28) (.t 34)), []⟩,
 ⟨some 36, none, .q (.bin .add (.t 35) (.v (.int .i64 1))), []⟩,
 ⟨some 37, none, .q (.fa 3 (.t 1)), []⟩,
 ⟨some 38, none, .q (.fa 1 (.t 37)), []⟩,
 ⟨some 39, none, .q (.ld none (.t 38)), []⟩,
 ⟨some 40, none, .q (.fa 1 (.t 3)), []⟩,
 ⟨some 41, none, .q (.ld none (.t 40)), []⟩,
 ⟨some 42, none, .q (.mnx true (.t 39) (.t 41)), []⟩,
 ⟨some 43, none, .q (.fa 3 (.t 1)), []⟩,
 ⟨some 44, none, .q (.fa 1 (.t 43)), []⟩,
 ⟨some 45, none, .q (.ld none (.t 44)), []⟩,
 ⟨some 46, none, .q (.fa 1 (.t 3)), []⟩,
 ⟨some 47, none, .q (.ld none (.t 46)), []⟩,
 ⟨some 48, none, .q (.mnx false (.t 45) (.t 47)), []⟩,
 ⟨some 49, none, .q (.bin .sub (.t 42) (.t 48)), []⟩,
 ⟨some 50, none, .q (.bin .add (.t 49) (.v (.int .i64 1))), []⟩,
 ⟨some 51, none, .q (.build [(.int .i64 0), (.int .i64 0), (.int .i64 0), (.int .i64 0)] [(0, 1, (.t 16)), (1, 1, (.t 22)), (2, 1, (.t 36)), (3, 1, (.t 50))]), []⟩,
 ⟨none, none, .e (.store 4 (.t 2) (.t 51)), []⟩]
def c34_7 : ACode := .seq c34_6 .ret
def c34_8 : ACode := .seq c34_5 c34_7
def c34_9 : ACode := .seq c34_1 c34_8
def c34_10 : ACode := .seq c34_0 c34_9
@[go_sem] def c34_0_wp := wp_of c34_0.eq_1
@[go_sem] def c34_1_wp := wp_of c34_1.eq_1
@[go_sem] def c34_2_wp := wp_of c34_2.eq_1
@[go_sem] def c34_3_wp := wp_of c34_3.eq_1
@[go_sem] def c34_4_wp := wp_of c34_4.eq_1
@[go_sem] def c34_5_wp := wp_of c34_5.eq_1
@[go_sem] def c34_6_wp := wp_of c34_6.eq_1
@[go_sem] def c34_7_wp := wp_of c34_7.eq_1
@[go_sem] def c34_8_wp := wp_of c34_8.eq_1
@[go_sem] def c34_9_wp := wp_of c34_9.eq_1
@[go_sem] def c34_10_wp := wp_of c34_10.eq_1
def c34 : AFn := ⟨52, [.c 2 (some 4)], c34_10⟩
theorem c34_ok : compF Tryz.prog Tryz.f34 = some c34 := by kernel_rfl
theorem a34 {args : List AV} {σ : ASt} {R : AV → ASt → Prop} (hl : args.length ≤ 52) (h : c34_10.wp Tryz.prog (RetQ [.c 2 (some 4)] R) (init args) σ) : ACalls Tryz.prog 34 args σ R := acalls_of Tryz.func34 c34_ok hl h
end Go.A
