/- Plain: lists that are written are read again; are cut off; have one spelling. -/
import Derived.Test.YthkcifdjfoggeaaVk
namespace Go.A
open Go.Vint
set_option maxRecDepth 100000
set_option linter.unusedSimpArgs false
set_option linter.unusedVariables false

theorem risF_err {s : List UInt8} {p : Nat} {e : Int} (he : e ≠ 0) : ∀ {k : Nat} {l : List Int}, risF s k l p e = (l, p, e)
  | 0, l => rfl
  | k + 1, l => by unfold risF; rw [if_pos he]
theorem risF_e0 {s : List UInt8} {p p' k : Nat} {e : Int} {l L : List Int} (h : risF s k l p e = (L, p', 0)) : e = 0 := by
  by_cases he : e = 0
  · exact he
  · rw [risF_err he] at h; simp at h; exact h.2.2
theorem numsB_drop {l : List Int} {i : Nat} {g : Int} (h : l[i]? = some g) : numsB (l.drop i) = uintB g.toNat ++ numsB (l.drop (i + 1)) := by
  obtain ⟨h1, h2⟩ := List.getElem?_eq_some_iff.1 h
  rw [List.drop_eq_getElem_cons h1, h2]; rfl
theorem take_last {L : List Int} {j : Nat} {y : Int} (h : L[j]? = some y) : (L.take (j + 1)).getLast? = some y := by
  obtain ⟨h1, h2⟩ := List.getElem?_eq_some_iff.1 h
  rw [List.take_succ_eq_append_getElem h1, h2]; simp
theorem take_snoc {L : List Int} {j : Nat} {y : Int} (h : L[j]? = some y) : L.take j ++ [y] = L.take (j + 1) := by
  obtain ⟨h1, h2⟩ := List.getElem?_eq_some_iff.1 h
  rw [List.take_succ_eq_append_getElem h1, h2]
/-- The gap at a place, and what is made of it. -/
theorem gap_at {L : List Int} (hL : Rises L) {i : Nat} {x : Int} (hx : L[i]? = some x) : ∃ g : Nat, (gaps L)[i]? = some (g : Int) ∧ g < 18446744073709551616 ∧
    ((i = 0 ∧ x = g) ∨ ∃ j y, i = j + 1 ∧ L[j]? = some y ∧ 0 ≤ y ∧ y + g + 1 = x ∧ x ≤ 18446744073709551615) := by
  obtain ⟨x0, x1⟩ := hL.at_ hx
  cases i with
  | zero => exact ⟨x.toNat, by rw [gaps_zero hx]; congr 1; omega, by omega, .inl ⟨rfl, by omega⟩⟩
  | succ j =>
    have hlt := (List.getElem?_eq_some_iff.1 hx).1
    have hy : L[j]? = some (L[j]'(by omega)) := List.getElem?_eq_getElem (by omega)
    obtain ⟨y, hyy⟩ : ∃ y, L[j]'(by omega) = y := ⟨_, rfl⟩
    rw [hyy] at hy
    obtain ⟨y0, y1⟩ := hL.at_ hy
    have := hL.2 j y x hy hx
    exact ⟨(x - y - 1).toNat, by rw [gaps_succ hy hx]; congr 1; omega, by omega, .inr ⟨j, y, rfl, hy, y0, by omega, x1⟩⟩
theorem risF_back {L : List Int} (hL : Rises L) {s r : List UInt8} : ∀ (k i p : Nat), i + k = L.length → s.drop p = numsB ((gaps L).drop i) ++ r → risF s k (L.take i) p 0 = (L, p + (numsB ((gaps L).drop i)).length, 0)
  | 0, i, p, hk, h => by
    have e1 : L.take i = L := List.take_of_length_le (by omega)
    have e2 : (gaps L).drop i = [] := List.drop_eq_nil_of_le (by rw [gaps_length]; omega)
    rw [e1, e2]; rfl
  | k + 1, i, p, hk, h => by
    have hx : L[i]? = some (L[i]'(by omega)) := List.getElem?_eq_getElem (by omega)
    obtain ⟨x, hxx⟩ : ∃ x, L[i]'(by omega) = x := ⟨_, rfl⟩
    rw [hxx] at hx
    obtain ⟨g, hg, hg1, hcase⟩ := gap_at hL hx
    have hn := numsB_drop hg
    rw [Int.toNat_natCast] at hn
    rw [hn, List.append_assoc] at h
    have hr := readU_uint h hg1
    have hd := drop_app h
    have ih := risF_back hL k (i + 1) (p + (uintB g).length) (by omega) hd
    rw [hn, List.length_append, ← Nat.add_assoc, ← ih]
    rcases hcase with ⟨rfl, rfl⟩ | ⟨j, y, rfl, hy, y0, hxy, x1⟩
    · rw [risF, if_neg (by simp)]
      simp only [List.take_zero, List.getLast?_nil, hr, List.nil_append]
      rw [← take_snoc hx, List.take_zero, List.nil_append]
    · have ha : afterP s p 0 y = (x, p + (uintB g).length, 0) := by
        unfold afterP
        rw [hr]
        dsimp only
        rw [if_neg (by omega), hxy, Int.emod_eq_of_lt (by omega) (by omega)]
      rw [show risF s (k + 1) (L.take (j + 1)) p 0 = risF s k (L.take (j + 1) ++ [(afterP s p 0 y).1]) (afterP s p 0 y).2.1 (afterP s p 0 y).2.2 by
        rw [risF, if_neg (by simp), take_last hy]]
      rw [ha]
      dsimp only
      rw [take_snoc hx]
theorem risF_cut {L : List Int} (hL : Rises L) {s : List UInt8} : ∀ (k i p j : Nat), i + k = L.length → s.drop p = (numsB ((gaps L).drop i)).take j → j < (numsB ((gaps L).drop i)).length → (risF s k (L.take i) p 0).2.2 = 2
  | 0, i, p, j, hk, h, hj => by
    have e2 : (gaps L).drop i = [] := List.drop_eq_nil_of_le (by rw [gaps_length]; omega)
    rw [e2] at hj
    simp [numsB] at hj
  | k + 1, i, p, m, hk, h, hm => by
    have hx : L[i]? = some (L[i]'(by omega)) := List.getElem?_eq_getElem (by omega)
    obtain ⟨x, hxx⟩ : ∃ x, L[i]'(by omega) = x := ⟨_, rfl⟩
    rw [hxx] at hx
    obtain ⟨g, hg, hg1, hcase⟩ := gap_at hL hx
    have hn := numsB_drop hg
    rw [Int.toNat_natCast] at hn
    rw [hn] at h hm
    have key : ∀ v : Int, ∀ p1 e1, ((p1 = p ∧ e1 = 2) ∨ (v = x ∧ p1 = p + (uintB g).length ∧ e1 = 0 ∧ (uintB g).length ≤ m)) → (risF s k (L.take i ++ [v]) p1 e1).2.2 = 2 := by
      rintro v p1 e1 (⟨rfl, rfl⟩ | ⟨rfl, rfl, rfl, hgm⟩)
      · rw [risF_err (by omega)]
      · rw [take_snoc hx]
        rw [List.take_append, List.take_of_length_le hgm] at h
        rw [List.length_append] at hm
        exact risF_cut hL k (i + 1) _ (m - (uintB g).length) (by omega) (drop_app h) (by omega)
    by_cases hgm : m < (uintB g).length
    · rw [List.take_append_of_le_length (by omega)] at h
      have hr := readU_cut h hgm hg1
      rcases hcase with ⟨rfl, rfl⟩ | ⟨j, y, rfl, hy, y0, hxy, x1⟩
      · rw [risF, if_neg (by simp)]
        simp only [List.take_zero, List.getLast?_nil, hr]
        exact key _ _ _ (.inl ⟨rfl, rfl⟩)
      · rw [risF, if_neg (by simp), take_last hy]
        dsimp only
        refine key _ _ _ (.inl ?_)
        unfold afterP
        rw [hr]
        simp
    · have h2 := h
      rw [List.take_append, List.take_of_length_le (by omega)] at h2
      have hr := readU_uint h2 hg1
      rcases hcase with ⟨rfl, rfl⟩ | ⟨j, y, rfl, hy, y0, hxy, x1⟩
      · rw [risF, if_neg (by simp)]
        simp only [List.take_zero, List.getLast?_nil, hr]
        exact key _ _ _ (.inr ⟨rfl, rfl, rfl, by omega⟩)
      · have ha : afterP s p 0 y = (x, p + (uintB g).length, 0) := by
          unfold afterP
          rw [hr]
          dsimp only
          rw [if_neg (by omega), hxy, Int.emod_eq_of_lt (by omega) (by omega)]
        rw [risF, if_neg (by simp), take_last hy]
        dsimp only
        rw [ha]
        exact key _ _ _ (.inr ⟨rfl, rfl, rfl, by omega⟩)
theorem rises_one {u : Nat} (h : u < 18446744073709551616) : Rises [(u : Int)] := by
  refine ⟨fun x hx => ?_, fun k x y hx hy => ?_⟩
  · simp at hx; subst hx; omega
  · simp at hy
theorem rises_snoc {l : List Int} (h : Rises l) {x v : Int} (hx : l.getLast? = some x) (hv : x < v) (hv1 : v ≤ 18446744073709551615) : Rises (l ++ [v]) := by
  obtain ⟨m, rfl⟩ : ∃ m, l = m ++ [x] := by
    rcases nil_or_snoc l with rfl | ⟨a, b, rfl⟩
    · simp at hx
    · simp at hx; subst hx; exact ⟨a, rfl⟩
  have h0 : (0 : Int) ≤ x := (h.1 x (by simp)).1
  refine ⟨fun y hy => ?_, fun k a b ha hb => ?_⟩
  · rcases List.mem_append.1 hy with hy | hy
    · exact h.1 y hy
    · simp at hy; subst hy; omega
  · have hlt := (List.getElem?_eq_some_iff.1 hb).1
    simp only [List.length_append, List.length_singleton] at hlt
    rcases Nat.lt_or_ge (k + 1) (m ++ [x]).length with h1 | h1
    · rw [List.getElem?_append_left (by omega)] at ha
      rw [List.getElem?_append_left h1] at hb
      exact h.2 k a b ha hb
    · simp only [List.length_append, List.length_singleton] at h1
      obtain rfl : k = m.length := by omega
      simp at ha hb
      omega
theorem risF_of {s : List UInt8} : ∀ (k : Nat) (l : List Int) (p : Nat) (e : Int) (L : List Int) (p' : Nat), p ≤ s.length → Rises l → risF s k l p e = (L, p', 0) →
    e = 0 ∧ Rises L ∧ L.take l.length = l ∧ L.length = l.length + k ∧ s.drop p = numsB ((gaps L).drop l.length) ++ s.drop p' ∧ p' ≤ s.length
  | 0, l, p, e, L, p', hp, hl, h => by
    simp only [risF, Prod.mk.injEq] at h
    obtain ⟨rfl, rfl, rfl⟩ := h
    have e2 : (gaps l).drop l.length = [] := List.drop_eq_nil_of_le (by rw [gaps_length]; omega)
    exact ⟨rfl, hl, List.take_of_length_le (Nat.le_refl _), rfl, by rw [e2]; rfl, hp⟩
  | k + 1, l, p, e, L, p', hp, hl, h => by
    obtain rfl := risF_e0 h
    rw [risF, if_neg (by simp)] at h
    obtain ⟨f1, f2, f3, f4⟩ := readU_facts s p 0 hp
    have fin : ∀ (v : Int) (u p1 : Nat), readU s p 0 = (u, p1, 0) → p1 ≤ s.length → Rises (l ++ [v]) → ((l = [] ∧ v = u) ∨ ∃ x, l.getLast? = some x ∧ v - x - 1 = u) → risF s k (l ++ [v]) p1 0 = (L, p', 0) →
        (0 : Int) = 0 ∧ Rises L ∧ L.take l.length = l ∧ L.length = l.length + (k + 1) ∧ s.drop p = numsB ((gaps L).drop l.length) ++ s.drop p' ∧ p' ≤ s.length := by
      intro v u p1 hr hp1 hri hv hrest
      obtain ⟨_, h2, h3, h4, h5, h6⟩ := risF_of k (l ++ [v]) p1 0 L p' hp1 hri hrest
      obtain ⟨_, _, h8⟩ := readU_ok hr
      simp only [List.length_append, List.length_singleton] at h3 h4 h5
      have hget : L[l.length]? = some v := by
        have : (L.take (l.length + 1))[l.length]? = some v := by rw [h3]; simp
        rw [List.getElem?_take, if_pos (by omega)] at this
        exact this
      have htl : L.take l.length = l := by
        have : (L.take (l.length + 1)).take l.length = l := by rw [h3]; simp
        rwa [List.take_take, Nat.min_eq_left (by omega)] at this
      have hgap : (gaps L)[l.length]? = some (u : Int) := by
        rcases hv with ⟨rfl, rfl⟩ | ⟨x, hx, hvx⟩
        · exact gaps_zero hget
        · obtain ⟨j, hj⟩ : ∃ j, l.length = j + 1 := by
            cases l with
            | nil => simp at hx
            | cons a b => exact ⟨b.length, rfl⟩
          obtain ⟨x', hx1, hx2⟩ := last_at hj
          rw [hx] at hx1
          injection hx1 with hx1
          subst hx1
          have hLj : L[j]? = some x := by
            rw [← htl] at hx2
            rw [List.getElem?_take, if_pos (by omega)] at hx2
            exact hx2
          rw [hj] at hget ⊢
          rw [gaps_succ hLj hget, hvx]
      refine ⟨rfl, h2, htl, by omega, ?_, h6⟩
      rw [numsB_drop hgap, Int.toNat_natCast, List.append_assoc, ← h5]
      exact h8
    split at h
    · rename_i hnone
      have hl0 : l = [] := List.getLast?_eq_none_iff.1 hnone
      have he1 := risF_e0 h
      rw [he1] at h
      exact fin _ (readU s p 0).1 (readU s p 0).2.1 (Prod.ext rfl (Prod.ext rfl he1)) f2 (by rw [hl0]; exact rises_one f1) (.inl ⟨hl0, rfl⟩) h
    · rename_i x hx
      have hxb := hl.1 x (List.mem_of_getLast? hx)
      have he1 := risF_e0 h
      rw [he1] at h
      unfold afterP at h he1
      split at h
      · rename_i hc; rw [if_pos hc] at he1; simp at he1
      · rename_i hc
        rw [if_neg hc] at he1
        dsimp only at h he1
        have hlt : x + (readU s p 0).1 + 1 < 18446744073709551616 := by omega
        rw [Int.emod_eq_of_lt (by omega) (by omega)] at h
        exact fin _ (readU s p 0).1 (readU s p 0).2.1 (Prod.ext rfl (Prod.ext rfl he1)) f2 (rises_snoc hl hx (by omega) (by omega)) (.inr ⟨x, hx, by omega⟩) h

theorem spaF_err {s : List UInt8} {p : Nat} {e : Int} (he : e ≠ 0) : ∀ {k : Nat} {l : List (Int × Int)}, spaF s k l p e = (l, p, e)
  | 0, l => rfl
  | k + 1, l => by rw [spaF, if_pos he]
theorem flat_last {l : List (Int × Int)} {x : Int × Int} (h : l.getLast? = some x) : (flat l).getLast? = some x.2 := by
  rcases nil_or_snoc l with rfl | ⟨a, b, rfl⟩
  · simp at h
  · simp at h; subst h; simp [flat_append, flat]
theorem afterP_err {s : List UInt8} {p : Nat} {e : Int} (he : e ≠ 0) (x : Int) : (afterP s p e x).2 = (p, e) := by
  unfold afterP readU
  rw [if_pos he]
  dsimp only
  rw [if_neg (by rintro ⟨h, _⟩; exact he h)]
/-- Spans are read as their numbers are. -/
theorem spaF_ris (s : List UInt8) : ∀ (k : Nat) (l : List (Int × Int)) (p : Nat) (e : Int), (spaF s k l p e).2 = (risF s (2 * k) (flat l) p e).2 ∧ ((spaF s k l p e).2.2 = 0 → flat (spaF s k l p e).1 = (risF s (2 * k) (flat l) p e).1)
  | 0, l, p, e => ⟨rfl, fun _ => rfl⟩
  | k + 1, l, p, e => by
    by_cases he : e ≠ 0
    · rw [spaF_err he, risF_err he]
      exact ⟨rfl, fun h => absurd h he⟩
    · obtain rfl : e = 0 := by omega
      have two : ∀ (u : Int) (p1 : Nat) (e1 : Int), (spaF s k (l ++ [(u, (afterP s p1 e1 u).1)]) (afterP s p1 e1 u).2.1 (afterP s p1 e1 u).2.2).2 = (risF s (2 * k + 1) (flat l ++ [u]) p1 e1).2 ∧
          ((spaF s k (l ++ [(u, (afterP s p1 e1 u).1)]) (afterP s p1 e1 u).2.1 (afterP s p1 e1 u).2.2).2.2 = 0 → flat (spaF s k (l ++ [(u, (afterP s p1 e1 u).1)]) (afterP s p1 e1 u).2.1 (afterP s p1 e1 u).2.2).1 = (risF s (2 * k + 1) (flat l ++ [u]) p1 e1).1) := by
        intro u p1 e1
        by_cases he1 : e1 ≠ 0
        · have ha := afterP_err (s := s) (p := p1) he1 u
          rw [risF_err he1, ha, spaF_err he1]
          exact ⟨rfl, fun h => absurd h he1⟩
        · obtain rfl : e1 = 0 := by omega
          rw [risF, if_neg (by simp)]
          have hlast : (flat l ++ [u]).getLast? = some u := by simp
          rw [hlast]
          dsimp only
          have := spaF_ris s k (l ++ [(u, (afterP s p1 0 u).1)]) (afterP s p1 0 u).2.1 (afterP s p1 0 u).2.2
          have hfl : flat (l ++ [(u, (afterP s p1 0 u).1)]) = flat l ++ [u] ++ [(afterP s p1 0 u).1] := by simp [flat_append, flat]
          rw [hfl] at this
          exact this
      rw [show 2 * (k + 1) = (2 * k + 1) + 1 by omega]
      rcases nil_or_snoc l with rfl | ⟨a, b, rfl⟩
      · rw [spaF, risF, if_neg (by simp), if_neg (by simp)]
        exact two _ _ _
      · have hlb : (a ++ [b]).getLast? = some b := by simp
        have hfb := flat_last hlb
        rw [spaF, risF, if_neg (by simp), if_neg (by simp), hlb, hfb]
        exact two _ _ _

theorem count_back {s r : List UInt8} {p n most : Nat} (h : s.drop p = uintB n ++ r) (hn : n ≤ most) (hm : most ≤ 1000000) : countP s p 0 most = (n, p + (uintB n).length, 0) := by
  have hr := readU_uint h (by omega)
  unfold countP
  rw [hr]
  dsimp only
  rw [if_neg (by simp), if_neg (by omega)]
theorem count_cut {s : List UInt8} {p n most j : Nat} (h : s.drop p = (uintB n).take j) (hj : j < (uintB n).length) (hn : n ≤ 1000000) : countP s p 0 most = (0, p, 2) := by
  have hr := readU_cut h hj (by omega)
  unfold countP
  rw [hr]
  dsimp only
  rw [if_pos (by simp)]
theorem count_of {s : List UInt8} {p p' n most : Nat} {e : Int} (h : countP s p e most = (n, p', 0)) : e = 0 ∧ s.drop p = uintB n ++ s.drop p' ∧ n ≤ most := by
  unfold countP at h
  split at h
  · rename_i he
    simp only [Prod.mk.injEq] at h
    exact absurd h.2.2 he
  · rename_i he
    split at h
    · simp at h
    · simp only [Prod.mk.injEq] at h
      obtain ⟨h1, h2, _⟩ := h
      obtain ⟨h3, _, h5⟩ := readU_ok (show readU s p e = (n, p', 0) from Prod.ext h1 (Prod.ext h2 (by simpa using he)))
      exact ⟨h3, h5, by omega⟩

theorem risingR_back {L : List Int} (hL : Rises L) {s r : List UInt8} {p most : Nat} (h : s.drop p = risingB L ++ r) (hn : L.length ≤ most) (hm : most ≤ 1000000) : risingR s p 0 most = (L, p + (risingB L).length, 0) := by
  unfold risingB at h ⊢
  rw [List.append_assoc] at h
  have hc := count_back h hn hm
  have hd := drop_app h
  have := risF_back hL (s := s) (r := r) L.length 0 (p + (uintB L.length).length) (by omega) (by simpa using hd)
  simp only [List.take_zero, List.drop_zero] at this
  unfold risingR
  rw [hc]
  dsimp only
  rw [this]
  dsimp only
  rw [if_neg (by simp), List.length_append, Nat.add_assoc]
theorem risingR_cut {L : List Int} (hL : Rises L) {most j : Nat} (hj : j < (risingB L).length) (hn : L.length ≤ most) (hm : most ≤ 1000000) : (risingR ((risingB L).take j) 0 0 most).2.2 = 2 := by
  unfold risingB at hj ⊢
  have e : ((uintB L.length ++ numsB (gaps L)).take j).drop 0 = (uintB L.length ++ numsB (gaps L)).take j := rfl
  by_cases hju : j < (uintB L.length).length
  · rw [List.take_append_of_le_length (by omega)] at e ⊢
    have hc := count_cut (most := most) e hju (by omega)
    unfold risingR
    rw [hc]
    dsimp only
    rw [risF_err (by omega)]
    simp
  · rw [List.take_append, List.take_of_length_le (by omega)] at e ⊢
    have hc := count_back e hn hm
    have hd := drop_app e
    have := risF_cut hL (s := uintB L.length ++ (numsB (gaps L)).take (j - (uintB L.length).length)) L.length 0 (0 + (uintB L.length).length) (j - (uintB L.length).length) (by omega) hd (by rw [List.drop_zero]; rw [List.length_append] at hj; omega)
    simp only [List.take_zero] at this
    unfold risingR
    rw [hc]
    dsimp only
    rw [if_pos (by rw [this]; simp)]
    exact this
theorem risingR_of {s : List UInt8} {p most p' : Nat} {e : Int} {L : List Int} (hp : p ≤ s.length) (h : risingR s p e most = (L, p', 0)) : e = 0 ∧ Rises L ∧ s.drop p = risingB L ++ s.drop p' ∧ L.length ≤ most := by
  unfold risingR at h
  split at h
  · rename_i he
    simp only [Prod.mk.injEq] at h
    rw [h.2] at he
    simp at he
  · rename_i he
    obtain ⟨c1, c2⟩ := countP_facts s p e most hp
    have hri : Rises [] := ⟨fun x hx => by simp at hx, fun k x y hx => by simp at hx⟩
    obtain ⟨h1, h2, h3, h4, h5, h6⟩ := risF_of _ _ _ _ _ _ c2 hri h
    obtain ⟨h7, h8, h9⟩ := count_of (Prod.ext rfl (Prod.ext rfl h1) : countP s p e most = ((countP s p e most).1, (countP s p e most).2.1, 0))
    simp only [List.length_nil, Nat.zero_add, List.drop_zero] at h4 h5
    refine ⟨h7, h2, ?_, by omega⟩
    unfold risingB
    rw [List.append_assoc, ← h5, h4]
    exact h8

theorem flat_inj : ∀ {a b : List (Int × Int)}, flat a = flat b → a = b
  | [], [], _ => rfl
  | [], x :: b, h => by simp [flat] at h
  | x :: a, [], h => by simp [flat] at h
  | x :: a, y :: b, h => by
    simp only [flat, List.flatMap_cons, List.cons_append, List.nil_append, List.cons.injEq] at h
    obtain ⟨h1, h2, h3⟩ := h
    rw [Prod.ext h1 h2, flat_inj h3]
theorem spansR_back {L : List (Int × Int)} (hL : Rises (flat L)) {s r : List UInt8} {p most : Nat} (h : s.drop p = spansB L ++ r) (hn : L.length ≤ most) (hm : most ≤ 1000000) : spansR s p 0 most = (L, p + (spansB L).length, 0) := by
  unfold spansB at h ⊢
  rw [List.append_assoc] at h
  have hc := count_back h hn hm
  have hd := drop_app h
  have := risF_back hL (s := s) (r := r) (2 * L.length) 0 (p + (uintB L.length).length) (by rw [flat_length]; omega) (by simpa using hd)
  simp only [List.take_zero, List.drop_zero] at this
  obtain ⟨h1, h2⟩ := spaF_ris s L.length [] (p + (uintB L.length).length) 0
  rw [show flat [] = [] from rfl, this] at h1 h2
  have h0 : (spaF s L.length [] (p + (uintB L.length).length) 0).2.2 = 0 := by rw [h1]
  have h3 := flat_inj (h2 h0)
  unfold spansR
  rw [hc]
  dsimp only
  rw [if_neg (by simp [h0])]
  refine Prod.ext h3 ?_
  rw [h1, List.length_append, Nat.add_assoc]
theorem spansR_of {s : List UInt8} {p most p' : Nat} {e : Int} {L : List (Int × Int)} (hp : p ≤ s.length) (h : spansR s p e most = (L, p', 0)) : e = 0 ∧ Rises (flat L) ∧ s.drop p = spansB L ++ s.drop p' ∧ L.length ≤ most := by
  unfold spansR at h
  split at h
  · rename_i he
    simp only [Prod.mk.injEq] at h
    rw [h.2] at he
    simp at he
  · rename_i he
    obtain ⟨c1, c2⟩ := countP_facts s p e most hp
    have hri : Rises [] := ⟨fun x hx => by simp at hx, fun k x y hx => by simp at hx⟩
    obtain ⟨g1, g2⟩ := spaF_ris s (countP s p e most).1 [] (countP s p e most).2.1 (countP s p e most).2.2
    rw [h] at g1 g2
    have g3 := g2 rfl
    obtain ⟨h1, h2, h3, h4, h5, h6⟩ := risF_of _ _ _ _ (flat L) p' c2 hri (Prod.ext g3.symm g1.symm)
    obtain ⟨h7, h8, h9⟩ := count_of (Prod.ext rfl (Prod.ext rfl h1) : countP s p e most = ((countP s p e most).1, (countP s p e most).2.1, 0))
    simp only [List.length_nil, Nat.zero_add, List.drop_zero] at h4 h5
    rw [flat_length] at h4
    refine ⟨h7, h2, ?_, by omega⟩
    unfold spansB
    rw [List.append_assoc, ← h5, show L.length = (countP s p e most).1 by omega]
    exact h8
end Go.A
