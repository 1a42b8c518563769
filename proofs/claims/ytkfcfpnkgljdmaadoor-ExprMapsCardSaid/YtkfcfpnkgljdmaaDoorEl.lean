/- Grown trees; references laid elsewhere: plain. · ExprMaps, walked. -/
import Derived.Test.YtkfcfpnkgljdmaaDoorEj
import Derived.Test.YtkfcfpnkgljdmaaDoorCodeEl
namespace Go.A
open Go.Proofs Go.Lib
set_option maxRecDepth 100000
set_option linter.unusedSimpArgs false
set_option linter.unusedVariables false

mutual
/-- References have no kids. -/
def Nd.rl : Nd → Prop
  | .mk op _ _ _ _ ks => ((op = 5 ∨ op = 6) → ks = []) ∧ Nd.rls ks
def Nd.rls : List Nd → Prop
  | [] => True
  | x :: xs => x.rl ∧ Nd.rls xs
end
theorem rls_mem : ∀ {l : List Nd}, Nd.rls l ↔ ∀ x ∈ l, x.rl
  | [] => by simp [Nd.rls]
  | x :: xs => by rw [Nd.rls, rls_mem (l := xs)]; simp
theorem nodeG_facts (p : Pt) (ks : List Nd) (hl : ks.length = cntG (opG p.op) (kkG p.n)) : ∃ o m s a b, nodeG p ks = .mk o m s a b ks ∧ nodeOk o m s a b ks.length ∧ ((o = 5 ∨ o = 6) → ks = []) := by
  have hop := opG_rng p.op
  have hkk := kkG_rng p.n
  have h3 := cntG_le (opG p.op) (kkG p.n) hkk.1
  have f1 : (opG p.op = 7 ∨ opG p.op = 8 ∨ opG p.op = 9) → ks.length = 1 := fun h => by rw [hl]; unfold cntG; rw [if_pos h]
  have f2 : (10 ≤ opG p.op ∧ opG p.op ≤ 21) → ks.length = 2 := fun h => by rw [hl]; unfold cntG; rw [if_neg (by omega), if_neg (by omega), if_pos h]
  have f3 : (opG p.op = 5 ∨ opG p.op = 6) → ks = [] := fun h => by
    have : ks.length = 0 := by rw [hl]; unfold cntG; rw [if_neg (by omega), if_neg (by omega), if_neg (by omega)]
    exact List.eq_nil_of_length_eq_zero this
  have h7 : 0 ≤ (kkG p.n).tmod 7 ∧ (kkG p.n).tmod 7 < 7 := ⟨Int.tmod_nonneg _ hkk.1, Int.tmod_lt_of_pos _ (by decide)⟩
  have hq : ((1 + (kkG p.n).tmod 7) * 10000).tdiv 10000 = 1 + (kkG p.n).tmod 7 := Int.mul_tdiv_cancel _ (by decide)
  have pa := placeR_good p.a
  have pb := placeR_good p.b
  rw [hl] at f1 f2
  have hk : ks.length ≤ 3 := by omega
  unfold nodeG nodeOk
  rw [hl]
  split
  · refine ⟨_, _, _, _, _, rfl, ⟨by omega, fun _ => by omega, fun h => by omega, fun h => by omega, fun h => by omega, fun h => by omega, fun h => by omega, fun h => by omega, fun h => by omega, by omega⟩, fun h => by omega⟩
  split
  · refine ⟨_, _, _, _, _, rfl, ⟨by omega, fun h => by omega, fun h => by omega, fun h => by omega, fun h => by omega, fun h => by omega, fun h => by omega, fun h => by omega, fun h => by omega, by omega⟩, fun h => by omega⟩
  split
  · refine ⟨_, _, _, _, _, rfl, ⟨by omega, fun h => by omega, fun h => by omega, fun h => by rw [hq]; omega, fun h => by omega, fun h => by omega, fun h => by omega, fun h => by omega, fun h => by omega, by omega⟩, fun h => by omega⟩
  split
  · refine ⟨_, _, _, _, _, rfl, ⟨by omega, fun h => by omega, fun h => ?_, fun h => by omega, fun h => by omega, fun h => by omega, fun h => by omega, fun h => by omega, fun h => by omega, by omega⟩, fun h => by omega⟩
    split
    · rw [List.length_take]; omega
    · simp
  split
  · refine ⟨_, _, _, _, _, rfl, ⟨by omega, fun h => by omega, fun h => by omega, fun h => by omega, fun h => by omega, fun h => pa, fun h => by omega, fun h => by omega, fun h => by omega, by omega⟩, fun h => f3 (by omega)⟩
  split
  · refine ⟨_, _, _, _, _, rfl, ⟨by omega, fun h => by omega, fun h => by omega, fun h => by omega, fun h => by omega, fun h => pa, fun h => pb, fun h => by omega, fun h => by omega, by omega⟩, fun h => f3 (by omega)⟩
  split
  · refine ⟨_, _, _, _, _, rfl, ⟨by omega, fun h => by omega, fun h => by omega, fun h => by omega, fun h => by omega, fun h => by omega, fun h => by omega, fun h => by omega, fun h => by omega, by omega⟩, fun h => by omega⟩
  split
  · refine ⟨_, _, _, _, _, rfl, ⟨by omega, fun h => by omega, fun h => by omega, fun h => by omega, fun h => ?_, fun h => by omega, fun h => by omega, fun h => by omega, fun h => by omega, by omega⟩, fun h => by omega⟩
    have hr : (kkG p.n).tmod 4 = 0 ∨ (kkG p.n).tmod 4 = 1 ∨ (kkG p.n).tmod 4 = 2 ∨ (kkG p.n).tmod 4 = 3 := by
      have := Int.tmod_nonneg 4 hkk.1
      have := Int.tmod_lt_of_pos (kkG p.n) (show (0 : Int) < 4 by decide)
      omega
    rcases hr with hr | hr | hr | hr <;> rw [hr] <;> decide
  · refine ⟨_, _, _, _, _, rfl, ⟨by omega, fun h => by omega, fun h => by omega, fun h => by omega, fun h => by omega, fun h => by omega, fun h => by omega, fun h => by omega, fun h => by omega, by omega⟩, fun h => by omega⟩
def goodG (x : Nd) : Prop := x.ok ∧ x.rl
theorem good_leaf : goodG (.mk 1 0 [] .zero .zero []) := by
  refine ⟨?_, ?_⟩
  · rw [Nd.ok, Nd.oks]
    refine ⟨?_, trivial⟩
    unfold nodeOk
    simp
  · rw [Nd.rl, Nd.rls]
    exact ⟨fun _ => rfl, trivial⟩
theorem good_miss : goodG missN := by
  unfold missN
  refine ⟨?_, ?_⟩
  · rw [Nd.ok, Nd.oks]
    refine ⟨?_, trivial⟩
    unfold nodeOk
    simp
  · rw [Nd.rl, Nd.rls]
    exact ⟨fun _ => rfl, trivial⟩
theorem good_node (p : Pt) (ks : List Nd) (hl : ks.length = cntG (opG p.op) (kkG p.n)) (hg : ∀ x ∈ ks, goodG x) : goodG (nodeG p ks) ∧ (nodeG p ks).size = 1 + Nd.sizes ks := by
  obtain ⟨o, m, s, a, b, he, h1, h2⟩ := nodeG_facts p ks hl
  rw [he]
  refine ⟨⟨?_, ?_⟩, ?_⟩
  · rw [Nd.ok]; exact ⟨h1, Nd.oks_mem.2 fun x hx => (hg x hx).1⟩
  · rw [Nd.rl]; exact ⟨h2, rls_mem.2 fun x hx => (hg x hx).2⟩
  · rw [Nd.size]
theorem miss_sizes (op kk : Int) (ks : List Nd) : Nd.sizes (missG op kk ks) ≤ Nd.sizes ks := by
  unfold missG
  split
  · rename_i h
    cases ks with
    | nil => simp at h
    | cons x xs =>
      rw [List.tail_cons, Nd.sizes, Nd.sizes]
      have := x.size_pos
      have e : missN.size = 1 := rfl
      omega
  · exact Nat.le_refl _
theorem miss_good (op kk : Int) (ks : List Nd) (hg : ∀ x ∈ ks, goodG x) : ∀ x ∈ missG op kk ks, goodG x := by
  unfold missG
  split
  · intro x hx
    rcases List.mem_cons.1 hx with rfl | hx
    · exact good_miss
    · exact hg x (List.mem_of_mem_tail hx)
  · exact hg
theorem growN_facts (g : Nat → Nd × Nat) (hg : ∀ i, goodG (g i).1 ∧ i ≤ (g i).2 ∧ (g i).1.size ≤ 4 * ((g i).2 - i) + 1) : ∀ c i, (∀ x ∈ (growN g c i).1, goodG x) ∧ i ≤ (growN g c i).2 ∧ Nd.sizes (growN g c i).1 ≤ 4 * ((growN g c i).2 - i) + c
  | 0, i => by rw [growN]; exact ⟨fun x hx => by simp at hx, Nat.le_refl _, by rw [Nd.sizes]; omega⟩
  | c + 1, i => by
    obtain ⟨h1, h2, h3⟩ := hg i
    obtain ⟨i1, i2, i3⟩ := growN_facts g hg c (g i).2
    rw [growN]
    refine ⟨fun x hx => ?_, by dsimp only; omega, ?_⟩
    · rcases List.mem_cons.1 hx with rfl | hx
      · exact h1
      · exact i1 x hx
    · dsimp only
      rw [Nd.sizes]
      omega
theorem growK_facts (L : List Pt) : ∀ k i, goodG (growK L k i).1 ∧ i ≤ (growK L k i).2 ∧ (growK L k i).1.size ≤ 4 * ((growK L k i).2 - i) + 1
  | 0, i => ⟨good_leaf, Nat.le_refl _, by show (1 : Nat) ≤ _; omega⟩
  | k + 1, i => by
    rw [growK]
    split
    · exact ⟨good_leaf, Nat.le_refl _, by show (1 : Nat) ≤ _; omega⟩
    · rename_i p hp
      obtain ⟨h1, h2, h3⟩ := growN_facts (growK L k) (growK_facts L k) (cntG (opG p.op) (kkG p.n)) (i + 1)
      have hc := cntG_le (opG p.op) (kkG p.n) (kkG_rng p.n).1
      have hl := growN_len (growK L k) (cntG (opG p.op) (kkG p.n)) (i + 1)
      generalize growN (growK L k) (cntG (opG p.op) (kkG p.n)) (i + 1) = R at *
      obtain ⟨KS, J⟩ := R
      dsimp only at *
      obtain ⟨g1, g2⟩ := good_node p (missG (opG p.op) (kkG p.n) KS) (by rw [missG_len]; exact hl) (miss_good _ _ _ h1)
      have hs := miss_sizes (opG p.op) (kkG p.n) KS
      exact ⟨g1, by omega, by rw [g2]; omega⟩
theorem growP_facts (L : List Pt) : (growP L).ok ∧ (growP L).rl ∧ (growP L).size ≤ 1000 := by
  have h := growK_facts (L.take 40) 41 0
  have h2 := growK_le (L.take 40) 40 (by rw [List.length_take]; omega) 41 0 (by omega)
  unfold growP
  exact ⟨h.1.1, h.1.2, by omega⟩
/-- A reference alone. -/
def cellN (r : Ref) : Nd := .mk 5 0 [] r .zero []
mutual
def Nd.hasR : Nd → Bool
  | .mk op _ _ _ _ ks => decide (op = 5 ∨ op = 6) || Nd.hasRs ks
def Nd.hasRs : List Nd → Bool
  | [] => false
  | x :: xs => x.hasR || Nd.hasRs xs
end
theorem addR_idem (out : List Rc) (q : Rc) : addR (addR out q) q = addR out q := by
  unfold addR
  by_cases h : q ∈ out
  · rw [if_pos h, if_pos h]
  · rw [if_neg h, if_pos (by simp)]
theorem areas_cell (r : Ref) (out : List Rc) : Nd.areas out (cellN r) = addR out ⟨r.row, r.col, 1, 1⟩ := by
  unfold cellN
  rw [Nd.areas, if_pos (.inl rfl), Nd.areass]
  unfold rectN
  rw [if_pos rfl]
mutual
theorem areas_map (r : Ref) : ∀ (n : Nd) (out : List Rc), Nd.areas out (Nd.map (fun _ => cellN r) n) = if n.hasR = true then addR out ⟨r.row, r.col, 1, 1⟩ else out
  | .mk op m s a b ks, out => by
    rw [Nd.map, Nd.hasR]
    by_cases h : op = 5 ∨ op = 6
    · rw [if_pos h, areas_cell, if_pos (by simp [h])]
    · rw [if_neg h, Nd.areas, if_neg h, areass_map r ks out, decide_eq_false h, Bool.false_or]
theorem areass_map (r : Ref) : ∀ (l : List Nd) (out : List Rc), Nd.areass out (Nd.maps (fun _ => cellN r) l) = if Nd.hasRs l = true then addR out ⟨r.row, r.col, 1, 1⟩ else out
  | [], out => by rw [Nd.maps, Nd.areass, Nd.hasRs, if_neg (by simp)]
  | x :: xs, out => by
    rw [Nd.maps, Nd.areass, areas_map r x out, areass_map r xs, Nd.hasRs]
    cases x.hasR <;> cases Nd.hasRs xs <;> simp [addR_idem]
end
theorem addR_pos (out : List Rc) (q : Rc) : out.length ≤ (addR out q).length ∧ 0 < (addR out q).length := by
  unfold addR
  split
  · rename_i h
    exact ⟨Nat.le_refl _, List.length_pos_of_mem h⟩
  · simp
mutual
theorem areas_grow : ∀ (n : Nd) (out : List Rc), out.length ≤ (Nd.areas out n).length ∧ (n.hasR = true → 0 < (Nd.areas out n).length) ∧ (n.hasR = false → Nd.areas out n = out)
  | .mk op m s a b ks, out => by
    rw [Nd.areas, Nd.hasR]
    by_cases h : op = 5 ∨ op = 6
    · rw [if_pos h, decide_eq_true h, Bool.true_or]
      have h1 := addR_pos out (rectN op a b)
      have h2 := areass_grow ks (addR out (rectN op a b))
      exact ⟨by omega, fun _ => by omega, fun h => by simp at h⟩
    · rw [if_neg h, decide_eq_false h, Bool.false_or]
      exact areass_grow ks out
theorem areass_grow : ∀ (l : List Nd) (out : List Rc), out.length ≤ (Nd.areass out l).length ∧ (Nd.hasRs l = true → 0 < (Nd.areass out l).length) ∧ (Nd.hasRs l = false → Nd.areass out l = out)
  | [], out => by rw [Nd.areass, Nd.hasRs]; exact ⟨Nat.le_refl _, fun h => by simp at h, fun _ => rfl⟩
  | x :: xs, out => by
    rw [Nd.areass, Nd.hasRs]
    have h1 := areas_grow x out
    have h2 := areass_grow xs (Nd.areas out x)
    refine ⟨by omega, fun h => ?_, fun h => ?_⟩
    · rcases Bool.or_eq_true_iff.1 h with h | h
      · have := h1.2.1 h; omega
      · exact h2.2.1 h
    · obtain ⟨ha, hb⟩ := Bool.or_eq_false_iff.1 h
      rw [h2.2.2 hb, h1.2.2 ha]
end
mutual
theorem map_no (f : Nd → Nd) : ∀ n : Nd, n.hasR = false → Nd.map f n = n
  | .mk op m s a b ks, h => by
    rw [Nd.hasR, Bool.or_eq_false_iff] at h
    rw [Nd.map, if_neg (of_decide_eq_false h.1), maps_no f ks h.2]
theorem maps_no (f : Nd → Nd) : ∀ l : List Nd, Nd.hasRs l = false → Nd.maps f l = l
  | [], _ => rfl
  | x :: xs, h => by
    rw [Nd.hasRs, Bool.or_eq_false_iff] at h
    rw [Nd.maps, map_no f x h.1, maps_no f xs h.2]
end
mutual
theorem map_id : ∀ n : Nd, Nd.map (fun x => x) n = n
  | .mk op m s a b ks => by rw [Nd.map, maps_id ks]; split <;> rfl
theorem maps_id : ∀ l : List Nd, Nd.maps (fun x => x) l = l
  | [] => rfl
  | x :: xs => by rw [Nd.maps, map_id x, maps_id xs]
end
mutual
theorem map_size (r : Ref) : ∀ n : Nd, n.rl → (Nd.map (fun _ => cellN r) n).size = n.size ∧ (Nd.map (fun _ => cellN r) n).depth = n.depth
  | .mk op m s a b ks, h => by
    rw [Nd.rl] at h
    rw [Nd.map]
    by_cases ho : op = 5 ∨ op = 6
    · rw [if_pos ho, h.1 ho]
      exact ⟨rfl, rfl⟩
    · rw [if_neg ho, Nd.size, Nd.size, Nd.depth, Nd.depth, (maps_size r ks h.2).1, (maps_size r ks h.2).2]
      exact ⟨rfl, rfl⟩
theorem maps_size (r : Ref) : ∀ l : List Nd, Nd.rls l → Nd.sizes (Nd.maps (fun _ => cellN r) l) = Nd.sizes l ∧ Nd.depths (Nd.maps (fun _ => cellN r) l) = Nd.depths l
  | [], _ => ⟨rfl, rfl⟩
  | x :: xs, h => by
    rw [Nd.rls] at h
    rw [Nd.maps, Nd.sizes, Nd.sizes, Nd.depths, Nd.depths, (map_size r x h.1).1, (maps_size r xs h.2).1, (map_size r x h.1).2, (maps_size r xs h.2).2]
    exact ⟨rfl, rfl⟩
end
theorem cell_ok {r : Ref} (hr : r.good = true) : (cellN r).ok := by
  unfold cellN
  rw [Nd.ok, Nd.oks]
  refine ⟨?_, trivial⟩
  unfold nodeOk
  simp [hr]
mutual
theorem map_ok {r : Ref} (hr : r.good = true) : ∀ n : Nd, n.ok → (Nd.map (fun _ => cellN r) n).ok
  | .mk op m s a b ks, h => by
    rw [Nd.map]
    split
    · exact cell_ok hr
    · rw [Nd.ok] at h ⊢
      have hl : (Nd.maps (fun _ => cellN r) ks).length = ks.length := by rw [Nd.maps_map, List.length_map]
      rw [hl]
      exact ⟨h.1, maps_ok hr ks h.2⟩
theorem maps_ok {r : Ref} (hr : r.good = true) : ∀ l : List Nd, Nd.oks l → Nd.oks (Nd.maps (fun _ => cellN r) l)
  | [], h => h
  | x :: xs, h => by
    rw [Nd.oks] at h
    rw [Nd.maps, Nd.oks]
    exact ⟨map_ok hr x h.1, maps_ok hr xs h.2⟩
end
end Go.A
namespace Go.A
open Go.Proofs Go.Lib
set_option maxRecDepth 100000
set_option linter.unusedSimpArgs false
set_option linter.unusedVariables false

theorem map1_ok (r : Ref) (b : Nat) : MapF (.func (.func 12) [] [.ptr b 0]) (fun _ => cellN r) (fun σ => σ b = some (.obj [.int .i64 r.row, .int .i64 r.col, .bool r.absRow, .bool r.absCol])) := by
  refine ⟨_, _, rfl, by kernel_rfl, fun σ c q hI hc => ?_, fun x σ hI _ => ?_⟩
  · dsimp only at hI ⊢
    rw [ASt.set_ne]
    · exact hI
    · rintro rfl; rw [hI] at hc; cases hc
  · dsimp only at hI
    obtain ⟨xo, xm, xs, xa, xb, xk⟩ := x
    rw [Nd.av_cs]
    unfold cellN
    rw [Nd.av_cs]
    generalize xk.map Nd.av = XK
    refine a12 (by simp) ?_
    simp (disch := first | assumption | omega | (simp only [List.length_append, List.length_cons, List.length_nil]; omega)) only [go_sem, reduceCtorEq, Nat.reduceEqDiff, Nat.reduceAdd, Nat.reduceSub, Nat.reduceMul, Nat.reduceLeDiff, Int.reduceLT, Int.reduceLE, Int.reduceEq, ↓reduceIte, Int.reduceNeg, Int.reduceAdd, Int.reduceSub, Int.reduceMul, true_imp_iff, forall_const, Nat.mul_one, Int.reduceToNat, Nat.reducePow, Int.reducePow, Bool.true_and, Bool.false_and, Bool.and_false]
    refine boxC_by rfl fun c hc => ?_
    have hbc : b ≠ c := by rintro rfl; rw [hI] at hc; cases hc
    simp (disch := first | assumption | omega | (simp only [List.length_append, List.length_cons, List.length_nil]; omega)) only [go_sem, reduceCtorEq, Nat.reduceEqDiff, Nat.reduceAdd, Nat.reduceSub, Nat.reduceMul, Nat.reduceLeDiff, Int.reduceLT, Int.reduceLE, Int.reduceEq, ↓reduceIte, Int.reduceNeg, Int.reduceAdd, Int.reduceSub, Int.reduceMul, true_imp_iff, forall_const, Nat.mul_one, Int.reduceToNat, Nat.reducePow, Int.reducePow, Bool.true_and, Bool.false_and, Bool.and_false]
    refine allocC_by fun d hd => ?_
    have hbd : b ≠ d := by rintro rfl; rw [ASt.set_ne hbc, hI] at hd; cases hd
    repeat (with_reducible replace hd := set_none hd; obtain ⟨_, _, hd⟩ := hd)
    simp (disch := first | assumption | omega | (simp only [List.length_append, List.length_cons, List.length_nil]; omega)) only [go_sem, reduceCtorEq, Nat.reduceEqDiff, Nat.reduceAdd, Nat.reduceSub, Nat.reduceMul, Nat.reduceLeDiff, Int.reduceLT, Int.reduceLE, Int.reduceEq, ↓reduceIte, Int.reduceNeg, Int.reduceAdd, Int.reduceSub, Int.reduceMul, true_imp_iff, forall_const, Nat.mul_one, Int.reduceToNat, Nat.reducePow, Int.reducePow, Bool.true_and, Bool.false_and, Bool.and_false, hI, ASt.set_set]
    refine retC_by (r := .agg [.int .i64 5, .int .i64 0, .str [], .int .i64 r.row, .int .i64 r.col, .bool r.absRow, .bool r.absCol, .int .i64 0, .int .i64 0, .bool false, .bool false, .sl .shr []]) ((Drop.set hc).off (by assumption)) ?_ ⟨rfl, rfl⟩
    exact Fz.agg (.cons (.refl _) (.cons (.refl _) (.cons (.refl _) (.cons (.refl _) (.cons (.refl _) (.cons (.refl _) (.cons (.refl _) (.cons (.refl _) (.cons (.refl _) (.cons (.refl _) (.cons (.refl _) (.cons (.sl _ _) .nil))))))))))))
theorem map2_ok : MapF (.func (.func 13) [] []) (fun x => x) (fun _ => True) := by
  refine ⟨_, _, rfl, by kernel_rfl, fun σ c q hI hc => trivial, fun x σ hI _ => ?_⟩
  obtain ⟨xo, xm, xs, xa, xb, xk⟩ := x
  rw [Nd.av_cs]
  generalize xk.map Nd.av = XK
  refine a13 (by simp) ?_
  simp (disch := first | assumption | omega | (simp only [List.length_append, List.length_cons, List.length_nil]; omega)) only [go_sem, reduceCtorEq, Nat.reduceEqDiff, Nat.reduceAdd, Nat.reduceSub, Nat.reduceMul, Nat.reduceLeDiff, Int.reduceLT, Int.reduceLE, Int.reduceEq, ↓reduceIte, Int.reduceNeg, Int.reduceAdd, Int.reduceSub, Int.reduceMul, true_imp_iff, forall_const, Nat.mul_one, Int.reduceToNat, Nat.reducePow, Int.reducePow, Bool.true_and, Bool.false_and, Bool.and_false]
  refine boxC_by rfl fun c hc => ?_
  simp (disch := first | assumption | omega | (simp only [List.length_append, List.length_cons, List.length_nil]; omega)) only [go_sem, reduceCtorEq, Nat.reduceEqDiff, Nat.reduceAdd, Nat.reduceSub, Nat.reduceMul, Nat.reduceLeDiff, Int.reduceLT, Int.reduceLE, Int.reduceEq, ↓reduceIte, Int.reduceNeg, Int.reduceAdd, Int.reduceSub, Int.reduceMul, true_imp_iff, forall_const, Nat.mul_one, Int.reduceToNat, Nat.reducePow, Int.reducePow, Bool.true_and, Bool.false_and, Bool.and_false]
  refine allocC_by fun d hd => ?_
  repeat (with_reducible replace hd := set_none hd; obtain ⟨_, _, hd⟩ := hd)
  simp (disch := first | assumption | omega | (simp only [List.length_append, List.length_cons, List.length_nil]; omega)) only [go_sem, reduceCtorEq, Nat.reduceEqDiff, Nat.reduceAdd, Nat.reduceSub, Nat.reduceMul, Nat.reduceLeDiff, Int.reduceLT, Int.reduceLE, Int.reduceEq, ↓reduceIte, Int.reduceNeg, Int.reduceAdd, Int.reduceSub, Int.reduceMul, true_imp_iff, forall_const, Nat.mul_one, Int.reduceToNat, Nat.reducePow, Int.reducePow, Bool.true_and, Bool.false_and, Bool.and_false, ASt.set_set]
  exact retC_by ((Drop.set hc).off (by assumption)) (.refl _) ⟨rfl, rfl⟩
theorem Grow_ok (L : List Pt) : Pure Tryd.prog 9 [.sl .shr (L.map Pt.av)] (growP L).av := by
  intro σ
  have hG := grow_le (L.take 40) (by rw [List.length_take]; omega) 41 0 (by rw [List.length_take]; omega) (by omega)
  have hP : (growK (L.take 40) 41 0).1 = growP L := rfl
  rw [hP] at hG
  have hmt : (L.take 40).map Pt.av = (L.map Pt.av).take 40 := List.map_take
  have hml : (L.map Pt.av).length = L.length := by simp
  rw [hmt] at hG
  generalize growP L = n at *
  obtain ⟨op, m, s, a, b, ks⟩ := n
  rw [Nd.av_cs] at hG ⊢
  generalize ks.map Nd.av = KS at *
  generalize (growK (L.take 40) 41 0).2 = J at *
  generalize hXL : L.map Pt.av = XL at *
  have e0 : ((0 : Nat) : Int) = 0 := rfl
  rw [e0] at hG
  refine a9 (by simp) ?_
  simp (disch := first | assumption | omega | (simp only [List.length_append, List.length_cons, List.length_nil]; omega)) only [go_sem, reduceCtorEq, Nat.reduceEqDiff, Nat.reduceAdd, Nat.reduceSub, Nat.reduceMul, Nat.reduceLeDiff, Int.reduceLT, Int.reduceLE, Int.reduceEq, ↓reduceIte, Int.reduceNeg, Int.reduceAdd, Int.reduceSub, Int.reduceMul, true_imp_iff, forall_const, Nat.mul_one, Int.reduceToNat, Nat.reducePow, Int.reducePow, Bool.true_and, Bool.false_and, Bool.and_false]
  refine allocC_by fun b2 h2 => ?_
  by_cases h40 : 40 < XL.length
  · have h40' : (40 : Int) < XL.length := by omega
    have h40t : 40 ≤ XL.length := by omega
    simp (disch := first | assumption | omega | (simp only [List.length_append, List.length_cons, List.length_nil]; omega)) only [go_sem, reduceCtorEq, Nat.reduceEqDiff, Nat.reduceAdd, Nat.reduceSub, Nat.reduceMul, Nat.reduceLeDiff, Int.reduceLT, Int.reduceLE, Int.reduceEq, ↓reduceIte, Int.reduceNeg, Int.reduceAdd, Int.reduceSub, Int.reduceMul, true_imp_iff, forall_const, Nat.mul_one, Int.reduceToNat, Nat.reducePow, Int.reducePow, Bool.true_and, Bool.false_and, Bool.and_false, h40', h40t]
    refine hG.use ?_
    simp (disch := first | assumption | omega | (simp only [List.length_append, List.length_cons, List.length_nil]; omega)) only [go_sem, reduceCtorEq, Nat.reduceEqDiff, Nat.reduceAdd, Nat.reduceSub, Nat.reduceMul, Nat.reduceLeDiff, Int.reduceLT, Int.reduceLE, Int.reduceEq, ↓reduceIte, Int.reduceNeg, Int.reduceAdd, Int.reduceSub, Int.reduceMul, true_imp_iff, forall_const, Nat.mul_one, Int.reduceToNat, Nat.reducePow, Int.reducePow, Bool.true_and, Bool.false_and, Bool.and_false]
    refine allocC_by fun b3 h3 => ?_
    repeat (with_reducible replace h3 := set_none h3; obtain ⟨_, _, h3⟩ := h3)
    simp (disch := first | assumption | omega | (simp only [List.length_append, List.length_cons, List.length_nil]; omega)) only [go_sem, reduceCtorEq, Nat.reduceEqDiff, Nat.reduceAdd, Nat.reduceSub, Nat.reduceMul, Nat.reduceLeDiff, Int.reduceLT, Int.reduceLE, Int.reduceEq, ↓reduceIte, Int.reduceNeg, Int.reduceAdd, Int.reduceSub, Int.reduceMul, true_imp_iff, forall_const, Nat.mul_one, Int.reduceToNat, Nat.reducePow, Int.reducePow, Bool.true_and, Bool.false_and, Bool.and_false, ASt.set_set]
    exact retC_by (((Drop.set h2).off (by assumption)).off h2) (.refl _) ⟨rfl, rfl⟩
  · have h40' : ¬ (40 : Int) < XL.length := by omega
    rw [List.take_of_length_le (by omega)] at hG
    simp (disch := first | assumption | omega | (simp only [List.length_append, List.length_cons, List.length_nil]; omega)) only [go_sem, reduceCtorEq, Nat.reduceEqDiff, Nat.reduceAdd, Nat.reduceSub, Nat.reduceMul, Nat.reduceLeDiff, Int.reduceLT, Int.reduceLE, Int.reduceEq, ↓reduceIte, Int.reduceNeg, Int.reduceAdd, Int.reduceSub, Int.reduceMul, true_imp_iff, forall_const, Nat.mul_one, Int.reduceToNat, Nat.reducePow, Int.reducePow, Bool.true_and, Bool.false_and, Bool.and_false, h40']
    refine hG.use ?_
    simp (disch := first | assumption | omega | (simp only [List.length_append, List.length_cons, List.length_nil]; omega)) only [go_sem, reduceCtorEq, Nat.reduceEqDiff, Nat.reduceAdd, Nat.reduceSub, Nat.reduceMul, Nat.reduceLeDiff, Int.reduceLT, Int.reduceLE, Int.reduceEq, ↓reduceIte, Int.reduceNeg, Int.reduceAdd, Int.reduceSub, Int.reduceMul, true_imp_iff, forall_const, Nat.mul_one, Int.reduceToNat, Nat.reducePow, Int.reducePow, Bool.true_and, Bool.false_and, Bool.and_false]
    refine allocC_by fun b3 h3 => ?_
    repeat (with_reducible replace h3 := set_none h3; obtain ⟨_, _, h3⟩ := h3)
    simp (disch := first | assumption | omega | (simp only [List.length_append, List.length_cons, List.length_nil]; omega)) only [go_sem, reduceCtorEq, Nat.reduceEqDiff, Nat.reduceAdd, Nat.reduceSub, Nat.reduceMul, Nat.reduceLeDiff, Int.reduceLT, Int.reduceLE, Int.reduceEq, ↓reduceIte, Int.reduceNeg, Int.reduceAdd, Int.reduceSub, Int.reduceMul, true_imp_iff, forall_const, Nat.mul_one, Int.reduceToNat, Nat.reducePow, Int.reducePow, Bool.true_and, Bool.false_and, Bool.and_false, ASt.set_set]
    exact retC_by (((Drop.set h2).off (by assumption)).off h2) (.refl _) ⟨rfl, rfl⟩
theorem Tab.new {σ : ASt} {b : Nat} {r : Option Role} (h : Tab σ) (hb : σ b = none) : Tab (σ.set b r) := by
  unfold Tab at h ⊢
  rw [ASt.set_ne]
  · exact h
  · intro e; rw [e, hb] at h; cases h
set_option maxHeartbeats 4000000 in
theorem ExprMaps_any {σ : ASt} (hT : Tab σ) (hM : MaxL σ) (L : List Pt) (tt : Ref) : ACalls Tryd.prog 4 [.sl .shr (L.map Pt.av), refAV tt] σ fun v σ' => v = .bool true ∧ σ' = σ := by
  have g1 := Grow_ok L
  have g2 := place_ok tt
  have hgood := placeR_good tt
  obtain ⟨hok, hrl, hsz⟩ := growP_facts L
  generalize growP L = n at *
  generalize placeR tt = r at *
  have hmo := map_ok hgood n hok
  obtain ⟨ms, md⟩ := map_size r n hrl
  have g3 := fun (b : Nat) => map_le _ _ _ (map1_ok r b) n.size n (Nat.le_refl _) (by omega)
  have g4 := map_le _ _ _ map2_ok n.size n (Nat.le_refl _) (by omega)
  have g5 := Areas_ok _ hmo (by omega)
  have g6 := Areas_ok _ hok (by omega)
  have g7 := esame_ok (Nd.map (fun _ => cellN r) n) n (by omega) (by omega)
  have g8 := esame_ok n n (by omega) (by omega)
  have g9 := nsize_ok (Nd.map (fun _ => cellN r) n) (by omega)
  have g10 := nsize_ok n (by omega)
  have g11 := ndepth_ok (Nd.map (fun _ => cellN r) n) (by omega)
  have g12 := ndepth_ok n (by omega)
  have g13 := refrect_ok r
  rw [map_id n] at g4
  rw [Nd.same_refl] at g8
  rw [ms] at g9
  rw [md] at g11
  rw [areas_map r n []] at g5
  obtain ⟨_, hpos, hnil⟩ := areas_grow n []
  have hno : n.hasR = false → Nd.same (Nd.map (fun _ => cellN r) n) n = true := fun h => by rw [map_no _ n h]; exact Nd.same_refl n
  generalize hmm : Nd.map (fun _ => cellN r) n = m at *
  generalize Nd.same m n = sm at *
  generalize Nd.areas [] n = RL at *
  generalize n.size = N at *
  generalize n.depth = D at *
  generalize hH : n.hasR = H at *
  have hRl : (RL.map Rc.av).length = RL.length := by simp
  obtain ⟨X, hX⟩ : ∃ X, List.map Rc.av (if H = true then addR [] (⟨r.row, r.col, 1, 1⟩ : Rc) else []) = X := ⟨_, rfl⟩
  rw [hX] at g5
  have hex : ∃ o k s a b KS, n.av = .agg (Nd.cs o k s a b KS) := by
    obtain ⟨o, k, s, a, b, ks⟩ := n
    exact ⟨_, _, _, _, _, _, Nd.av_cs o k s a b ks⟩
  have hex2 : ∃ o k s a b KS, m.av = .agg (Nd.cs o k s a b KS) := by
    obtain ⟨o, k, s, a, b, ks⟩ := m
    exact ⟨_, _, _, _, _, _, Nd.av_cs o k s a b ks⟩
  obtain ⟨o, k, s, a, b, KS, hn⟩ := hex
  obtain ⟨o', k', s', a', b', MS, hm⟩ := hex2
  rw [hn] at g1 g3 g4 g6 g7 g8 g10 g12
  rw [hm] at g3 g5 g7 g9 g11
  have hro : refAV r = .agg [.int .i64 r.row, .int .i64 r.col, .bool r.absRow, .bool r.absCol] := rfl
  have hto : refAV tt = .agg [.int .i64 tt.row, .int .i64 tt.col, .bool tt.absRow, .bool tt.absCol] := rfl
  rw [hro, hto] at g2
  rw [hro] at g13
  rw [hto]
  refine a4 (by simp) ?_
  simp (disch := first | assumption | omega | (simp only [List.length_append, List.length_cons, List.length_nil]; omega)) only [go_sem, reduceCtorEq, Nat.reduceEqDiff, Nat.reduceAdd, Nat.reduceSub, Nat.reduceMul, Nat.reduceLeDiff, Int.reduceLT, Int.reduceLE, Int.reduceEq, ↓reduceIte, Int.reduceNeg, Int.reduceAdd, Int.reduceSub, Int.reduceMul, true_imp_iff, forall_const, Nat.mul_one, Int.reduceToNat, Nat.reducePow, Int.reducePow, Bool.true_and, Bool.false_and, Bool.and_false]
  refine boxC_by rfl fun b3 h3 => ?_
  simp (disch := first | assumption | omega | (simp only [List.length_append, List.length_cons, List.length_nil]; omega)) only [go_sem, reduceCtorEq, Nat.reduceEqDiff, Nat.reduceAdd, Nat.reduceSub, Nat.reduceMul, Nat.reduceLeDiff, Int.reduceLT, Int.reduceLE, Int.reduceEq, ↓reduceIte, Int.reduceNeg, Int.reduceAdd, Int.reduceSub, Int.reduceMul, true_imp_iff, forall_const, Nat.mul_one, Int.reduceToNat, Nat.reducePow, Int.reducePow, Bool.true_and, Bool.false_and, Bool.and_false]
  refine g1.use ?_
  simp (disch := first | assumption | omega | (simp only [List.length_append, List.length_cons, List.length_nil]; omega)) only [go_sem, reduceCtorEq, Nat.reduceEqDiff, Nat.reduceAdd, Nat.reduceSub, Nat.reduceMul, Nat.reduceLeDiff, Int.reduceLT, Int.reduceLE, Int.reduceEq, ↓reduceIte, Int.reduceNeg, Int.reduceAdd, Int.reduceSub, Int.reduceMul, true_imp_iff, forall_const, Nat.mul_one, Int.reduceToNat, Nat.reducePow, Int.reducePow, Bool.true_and, Bool.false_and, Bool.and_false]
  refine allocC_by fun b5 h5 => ?_
  have z5 := h5
  repeat (with_reducible replace h5 := set_none h5; obtain ⟨_, _, h5⟩ := h5)
  have n35 : b3 ≠ b5 := by assumption
  have hsw : ∀ (ρ : ASt) (X Y Z : Option Role), ((ρ.set b3 X).set b5 Y).set b3 Z = (ρ.set b3 Z).set b5 Y := fun _ _ _ _ => set_mid n35
  obtain ⟨F, hF⟩ : ∃ F, F = ACode.wp Tryd.prog c4_16 := ⟨_, rfl⟩
  simp (disch := first | assumption | omega | (simp only [List.length_append, List.length_cons, List.length_nil]; omega)) only [go_sem, reduceCtorEq, Nat.reduceEqDiff, Nat.reduceAdd, Nat.reduceSub, Nat.reduceMul, Nat.reduceLeDiff, Int.reduceLT, Int.reduceLE, Int.reduceEq, ↓reduceIte, Int.reduceNeg, Int.reduceAdd, Int.reduceSub, Int.reduceMul, true_imp_iff, forall_const, Nat.mul_one, Int.reduceToNat, Nat.reducePow, Int.reducePow, Bool.true_and, Bool.false_and, Bool.and_false, ASt.set_set, ←hF]
  refine g2.use ?_
  simp (disch := first | assumption | omega | (simp only [List.length_append, List.length_cons, List.length_nil]; omega)) only [go_sem, reduceCtorEq, Nat.reduceEqDiff, Nat.reduceAdd, Nat.reduceSub, Nat.reduceMul, Nat.reduceLeDiff, Int.reduceLT, Int.reduceLE, Int.reduceEq, ↓reduceIte, Int.reduceNeg, Int.reduceAdd, Int.reduceSub, Int.reduceMul, true_imp_iff, forall_const, Nat.mul_one, Int.reduceToNat, Nat.reducePow, Int.reducePow, Bool.true_and, Bool.false_and, Bool.and_false, hsw, ASt.set_set, ←hF]
  have T5 : Tab ((σ.set b3 (some (.obj [.int .i64 r.row, .int .i64 r.col, .bool r.absRow, .bool r.absCol]))).set b5 (some (.obj (Nd.cs o k s a b KS)))) := (hT.new h3).new (by rw [ASt.set_ne (Ne.symm n35)]; assumption)
  have M5 : MaxL ((σ.set b3 (some (.obj [.int .i64 r.row, .int .i64 r.col, .bool r.absRow, .bool r.absCol]))).set b5 (some (.obj (Nd.cs o k s a b KS)))) := (hM.set h3).set (by rw [ASt.set_ne (Ne.symm n35)]; assumption)
  have D5 : Drop ((σ.set b3 (some (.obj [.int .i64 r.row, .int .i64 r.col, .bool r.absRow, .bool r.absCol]))).set b5 (some (.obj (Nd.cs o k s a b KS)))) σ := (Drop.set h3).off (by assumption)
  have r3 : ((σ.set b3 (some (.obj [.int .i64 r.row, .int .i64 r.col, .bool r.absRow, .bool r.absCol]))).set b5 (some (.obj (Nd.cs o k s a b KS)))) b3 = some (.obj [.int .i64 r.row, .int .i64 r.col, .bool r.absRow, .bool r.absCol]) := by rw [ASt.set_ne n35, ASt.set_same]
  have r5 : ((σ.set b3 (some (.obj [.int .i64 r.row, .int .i64 r.col, .bool r.absRow, .bool r.absCol]))).set b5 (some (.obj (Nd.cs o k s a b KS)))) b5 = some (.obj (Nd.cs o k s a b KS)) := ASt.set_same _ _ _
  generalize (σ.set b3 (some (.obj [.int .i64 r.row, .int .i64 r.col, .bool r.absRow, .bool r.absCol]))).set b5 (some (.obj (Nd.cs o k s a b KS))) = τ at *
  rw [hF]
  clear hF hsw
  simp (disch := first | assumption | omega | (simp only [List.length_append, List.length_cons, List.length_nil]; omega)) only [go_sem, reduceCtorEq, Nat.reduceEqDiff, Nat.reduceAdd, Nat.reduceSub, Nat.reduceMul, Nat.reduceLeDiff, Int.reduceLT, Int.reduceLE, Int.reduceEq, ↓reduceIte, Int.reduceNeg, Int.reduceAdd, Int.reduceSub, Int.reduceMul, true_imp_iff, forall_const, Nat.mul_one, Int.reduceToNat, Nat.reducePow, Int.reducePow, Bool.true_and, Bool.false_and, Bool.and_false, r3, r5]
  refine (g3 b3 τ r3).mono ?_
  rintro v σ' ⟨rfl, rfl⟩
  simp (disch := first | assumption | omega | (simp only [List.length_append, List.length_cons, List.length_nil]; omega)) only [go_sem, reduceCtorEq, Nat.reduceEqDiff, Nat.reduceAdd, Nat.reduceSub, Nat.reduceMul, Nat.reduceLeDiff, Int.reduceLT, Int.reduceLE, Int.reduceEq, ↓reduceIte, Int.reduceNeg, Int.reduceAdd, Int.reduceSub, Int.reduceMul, true_imp_iff, forall_const, Nat.mul_one, Int.reduceToNat, Nat.reducePow, Int.reducePow, Bool.true_and, Bool.false_and, Bool.and_false]
  refine allocC_by fun b6 h6 => ?_
  have n36 : b3 ≠ b6 := by rintro rfl; rw [r3] at h6; cases h6
  have n56 : b5 ≠ b6 := by rintro rfl; rw [r5] at h6; cases h6
  simp (disch := first | assumption | omega | (simp only [List.length_append, List.length_cons, List.length_nil]; omega)) only [go_sem, reduceCtorEq, Nat.reduceEqDiff, Nat.reduceAdd, Nat.reduceSub, Nat.reduceMul, Nat.reduceLeDiff, Int.reduceLT, Int.reduceLE, Int.reduceEq, ↓reduceIte, Int.reduceNeg, Int.reduceAdd, Int.reduceSub, Int.reduceMul, true_imp_iff, forall_const, Nat.mul_one, Int.reduceToNat, Nat.reducePow, Int.reducePow, Bool.true_and, Bool.false_and, Bool.and_false, r3, r5, ASt.set_set]
  have D6 := D5.off (r := some (.obj (Nd.cs o' k' s' a' b' MS))) (D5.nil h6)
  refine (g4 _ trivial).mono ?_
  rintro v σ' ⟨rfl, rfl⟩
  simp (disch := first | assumption | omega | (simp only [List.length_append, List.length_cons, List.length_nil]; omega)) only [go_sem, reduceCtorEq, Nat.reduceEqDiff, Nat.reduceAdd, Nat.reduceSub, Nat.reduceMul, Nat.reduceLeDiff, Int.reduceLT, Int.reduceLE, Int.reduceEq, ↓reduceIte, Int.reduceNeg, Int.reduceAdd, Int.reduceSub, Int.reduceMul, true_imp_iff, forall_const, Nat.mul_one, Int.reduceToNat, Nat.reducePow, Int.reducePow, Bool.true_and, Bool.false_and, Bool.and_false]
  refine allocC_by fun b7 h7 => ?_
  have h7' := h7
  rw [ASt.set_ne (by rintro rfl; rw [ASt.set_same] at h7; cases h7)] at h7'
  have n37 : b3 ≠ b7 := by rintro rfl; rw [r3] at h7'; cases h7'
  have n57 : b5 ≠ b7 := by rintro rfl; rw [r5] at h7'; cases h7'
  have n67 : b6 ≠ b7 := by rintro rfl; rw [ASt.set_same] at h7; cases h7
  have D7 := D6.off (r := some (.obj (Nd.cs o k s a b KS))) (D6.nil h7)
  have hA := eawake_ok ((T5.new h6).new h7 (r := some (.obj (Nd.cs o k s a b KS)))) ((M5.set h6).set h7 (r := some (.obj (Nd.cs o k s a b KS))))
  simp (disch := first | assumption | omega | (simp only [List.length_append, List.length_cons, List.length_nil]; omega)) only [go_sem, reduceCtorEq, Nat.reduceEqDiff, Nat.reduceAdd, Nat.reduceSub, Nat.reduceMul, Nat.reduceLeDiff, Int.reduceLT, Int.reduceLE, Int.reduceEq, ↓reduceIte, Int.reduceNeg, Int.reduceAdd, Int.reduceSub, Int.reduceMul, true_imp_iff, forall_const, Nat.mul_one, Int.reduceToNat, Nat.reducePow, Int.reducePow, Bool.true_and, Bool.false_and, Bool.and_false, r3, r5, ASt.set_set]
  refine g5.use ?_
  simp (disch := first | assumption | omega | (simp only [List.length_append, List.length_cons, List.length_nil]; omega)) only [go_sem, reduceCtorEq, Nat.reduceEqDiff, Nat.reduceAdd, Nat.reduceSub, Nat.reduceMul, Nat.reduceLeDiff, Int.reduceLT, Int.reduceLE, Int.reduceEq, ↓reduceIte, Int.reduceNeg, Int.reduceAdd, Int.reduceSub, Int.reduceMul, true_imp_iff, forall_const, Nat.mul_one, Int.reduceToNat, Nat.reducePow, Int.reducePow, Bool.true_and, Bool.false_and, Bool.and_false, r3, r5]
  refine g6.use ?_
  cases H with
  | false =>
    have hnl := hnil rfl
    subst hnl
    have hX0 : X = [] := by rw [← hX]; rfl
    subst hX0
    rw [hno rfl] at g7
    simp (disch := first | assumption | omega | (simp only [List.length_append, List.length_cons, List.length_nil]; omega)) only [go_sem, reduceCtorEq, Nat.reduceEqDiff, Nat.reduceAdd, Nat.reduceSub, Nat.reduceMul, Nat.reduceLeDiff, Int.reduceLT, Int.reduceLE, Int.reduceEq, ↓reduceIte, Int.reduceNeg, Int.reduceAdd, Int.reduceSub, Int.reduceMul, true_imp_iff, forall_const, Nat.mul_one, Int.reduceToNat, Nat.reducePow, Int.reducePow, Bool.true_and, Bool.false_and, Bool.and_false, r3, r5]
    refine hA.mono ?_
    rintro v σ' ⟨rfl, rfl⟩
    simp (disch := first | assumption | omega | (simp only [List.length_append, List.length_cons, List.length_nil]; omega)) only [go_sem, reduceCtorEq, Nat.reduceEqDiff, Nat.reduceAdd, Nat.reduceSub, Nat.reduceMul, Nat.reduceLeDiff, Int.reduceLT, Int.reduceLE, Int.reduceEq, ↓reduceIte, Int.reduceNeg, Int.reduceAdd, Int.reduceSub, Int.reduceMul, true_imp_iff, forall_const, Nat.mul_one, Int.reduceToNat, Nat.reducePow, Int.reducePow, Bool.true_and, Bool.false_and, Bool.and_false, r3, r5]
    refine g7.use ?_
    simp (disch := first | assumption | omega | (simp only [List.length_append, List.length_cons, List.length_nil]; omega)) only [go_sem, reduceCtorEq, Nat.reduceEqDiff, Nat.reduceAdd, Nat.reduceSub, Nat.reduceMul, Nat.reduceLeDiff, Int.reduceLT, Int.reduceLE, Int.reduceEq, ↓reduceIte, Int.reduceNeg, Int.reduceAdd, Int.reduceSub, Int.reduceMul, true_imp_iff, forall_const, Nat.mul_one, Int.reduceToNat, Nat.reducePow, Int.reducePow, Bool.true_and, Bool.false_and, Bool.and_false, r3, r5]
    exact retC_by D7 (.refl _) ⟨rfl, rfl⟩
  | true =>
    have hX0 : X = [.agg [.int .i64 r.row, .int .i64 r.col, .int .i64 1, .int .i64 1]] := by rw [← hX]; rfl
    clear hX
    subst hX0
    have hp0 := hpos rfl
    have hp0' : ¬ (RL.length : Int) = 0 := by omega
    unfold Rc.av at g13
    simp (disch := first | assumption | omega | (simp only [List.length_append, List.length_cons, List.length_nil]; omega)) only [go_sem, reduceCtorEq, Nat.reduceEqDiff, Nat.reduceAdd, Nat.reduceSub, Nat.reduceMul, Nat.reduceLeDiff, Int.reduceLT, Int.reduceLE, Int.reduceEq, ↓reduceIte, Int.reduceNeg, Int.reduceAdd, Int.reduceSub, Int.reduceMul, true_imp_iff, forall_const, Nat.mul_one, Int.reduceToNat, Nat.reducePow, Int.reducePow, Bool.true_and, Bool.false_and, Bool.and_false, r3, r5, hp0', hRl]
    refine hA.mono ?_
    rintro v σ' ⟨rfl, rfl⟩
    simp (disch := first | assumption | omega | (simp only [List.length_append, List.length_cons, List.length_nil]; omega)) only [go_sem, reduceCtorEq, Nat.reduceEqDiff, Nat.reduceAdd, Nat.reduceSub, Nat.reduceMul, Nat.reduceLeDiff, Int.reduceLT, Int.reduceLE, Int.reduceEq, ↓reduceIte, Int.reduceNeg, Int.reduceAdd, Int.reduceSub, Int.reduceMul, true_imp_iff, forall_const, Nat.mul_one, Int.reduceToNat, Nat.reducePow, Int.reducePow, Bool.true_and, Bool.false_and, Bool.and_false, r3, r5]
    refine g8.use ?_
    simp (disch := first | assumption | omega | (simp only [List.length_append, List.length_cons, List.length_nil]; omega)) only [go_sem, reduceCtorEq, Nat.reduceEqDiff, Nat.reduceAdd, Nat.reduceSub, Nat.reduceMul, Nat.reduceLeDiff, Int.reduceLT, Int.reduceLE, Int.reduceEq, ↓reduceIte, Int.reduceNeg, Int.reduceAdd, Int.reduceSub, Int.reduceMul, true_imp_iff, forall_const, Nat.mul_one, Int.reduceToNat, Nat.reducePow, Int.reducePow, Bool.true_and, Bool.false_and, Bool.and_false, r3, r5]
    refine g13.use ?_
    simp (disch := first | assumption | omega | (simp only [List.length_append, List.length_cons, List.length_nil]; omega)) only [go_sem, reduceCtorEq, Nat.reduceEqDiff, Nat.reduceAdd, Nat.reduceSub, Nat.reduceMul, Nat.reduceLeDiff, Int.reduceLT, Int.reduceLE, Int.reduceEq, ↓reduceIte, Int.reduceNeg, Int.reduceAdd, Int.reduceSub, Int.reduceMul, true_imp_iff, forall_const, Nat.mul_one, Int.reduceToNat, Nat.reducePow, Int.reducePow, Bool.true_and, Bool.false_and, Bool.and_false, r3, r5]
    refine g9.use ?_
    simp (disch := first | assumption | omega | (simp only [List.length_append, List.length_cons, List.length_nil]; omega)) only [go_sem, reduceCtorEq, Nat.reduceEqDiff, Nat.reduceAdd, Nat.reduceSub, Nat.reduceMul, Nat.reduceLeDiff, Int.reduceLT, Int.reduceLE, Int.reduceEq, ↓reduceIte, Int.reduceNeg, Int.reduceAdd, Int.reduceSub, Int.reduceMul, true_imp_iff, forall_const, Nat.mul_one, Int.reduceToNat, Nat.reducePow, Int.reducePow, Bool.true_and, Bool.false_and, Bool.and_false, r3, r5]
    refine g10.use ?_
    simp (disch := first | assumption | omega | (simp only [List.length_append, List.length_cons, List.length_nil]; omega)) only [go_sem, reduceCtorEq, Nat.reduceEqDiff, Nat.reduceAdd, Nat.reduceSub, Nat.reduceMul, Nat.reduceLeDiff, Int.reduceLT, Int.reduceLE, Int.reduceEq, ↓reduceIte, Int.reduceNeg, Int.reduceAdd, Int.reduceSub, Int.reduceMul, true_imp_iff, forall_const, Nat.mul_one, Int.reduceToNat, Nat.reducePow, Int.reducePow, Bool.true_and, Bool.false_and, Bool.and_false, r3, r5]
    refine g11.use ?_
    simp (disch := first | assumption | omega | (simp only [List.length_append, List.length_cons, List.length_nil]; omega)) only [go_sem, reduceCtorEq, Nat.reduceEqDiff, Nat.reduceAdd, Nat.reduceSub, Nat.reduceMul, Nat.reduceLeDiff, Int.reduceLT, Int.reduceLE, Int.reduceEq, ↓reduceIte, Int.reduceNeg, Int.reduceAdd, Int.reduceSub, Int.reduceMul, true_imp_iff, forall_const, Nat.mul_one, Int.reduceToNat, Nat.reducePow, Int.reducePow, Bool.true_and, Bool.false_and, Bool.and_false, r3, r5]
    refine g12.use ?_
    simp (disch := first | assumption | omega | (simp only [List.length_append, List.length_cons, List.length_nil]; omega)) only [go_sem, reduceCtorEq, Nat.reduceEqDiff, Nat.reduceAdd, Nat.reduceSub, Nat.reduceMul, Nat.reduceLeDiff, Int.reduceLT, Int.reduceLE, Int.reduceEq, ↓reduceIte, Int.reduceNeg, Int.reduceAdd, Int.reduceSub, Int.reduceMul, true_imp_iff, forall_const, Nat.mul_one, Int.reduceToNat, Nat.reducePow, Int.reducePow, Bool.true_and, Bool.false_and, Bool.and_false, r3, r5]
    exact retC_by D7 (.refl _) ⟨rfl, rfl⟩
end Go.A
