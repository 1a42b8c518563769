/- The document's Right, walked; VintBack, walked. -/
import Derived.Test.YthkcifdjfoggeaaVo
namespace Go.A
open Go.Proofs Go.Vint
set_option maxRecDepth 100000
set_option linter.unusedSimpArgs false
set_option linter.unusedVariables false

/-- A span that stands where it may. -/
def RightAt (L : List (Int × Int)) (i : Nat) : Prop := ∀ x, L[i]? = some x → x.1 < x.2 ∧ ∀ j y, i = j + 1 → L[j]? = some y → y.2 < x.1
def Right (L : List (Int × Int)) : Prop := ∀ i, i < L.length → RightAt L i
open Classical in
noncomputable def rightB (L : List (Int × Int)) : Bool := decide (Right L)
theorem refRight_ok (L : List (Int × Int)) (hn : L.length ≤ 1000000) : Pure Try.prog 22 [spansV L] (.bool (rightB L)) := by
  intro σ
  obtain ⟨q, hq⟩ : ∃ q, rightB L = q := ⟨_, rfl⟩
  rw [hq]
  unfold rightB at hq
  refine a22 (by simp) ?_
  simp (disch := first | assumption | omega | (simp only [List.length_append]; omega)) only [go_sem, reduceCtorEq, Nat.reduceEqDiff, Nat.reduceAdd, Nat.reduceSub, Nat.reduceMul, Nat.reduceLeDiff, Int.reduceLT, Int.reduceLE, Int.reduceEq, ↓reduceIte, Int.reduceNeg, Int.reduceAdd, Int.reduceSub, Int.reduceMul, true_imp_iff, forall_const, Nat.mul_one, Int.reduceToNat, Nat.reducePow, Int.reducePow, Bool.true_and, Bool.false_and, Bool.and_false, spansV]
  refine wp_loop_by (fun (i : Nat) a σ' => (i ≤ L.length ∧ ∀ k, k < i → RightAt L k) ∧ (a 0 = .sl .shr (L.map spanV) ∧ a 5 = .sl .shr (L.map spanV) ∧ a 6 = .int .i64 L.length ∧ a 7 = .int .i64 i) ∧ σ' = σ)
    (fun i => L.length - i) 0 (Dr.now ⟨⟨Nat.zero_le _, fun k hk => by omega⟩, ?_, rfl⟩) ?_
  · simp (disch := first | assumption | omega | (simp only [List.length_append]; omega)) only [go_sem, reduceCtorEq, Nat.reduceEqDiff, Nat.reduceAdd, Nat.reduceSub, Nat.reduceMul, Nat.reduceLeDiff, Int.reduceLT, Int.reduceLE, Int.reduceEq, ↓reduceIte, Int.reduceNeg, Int.reduceAdd, Int.reduceSub, Int.reduceMul, true_imp_iff, forall_const, Nat.mul_one, Int.reduceToNat, Nat.reducePow, Int.reducePow, Bool.true_and, Bool.false_and, Bool.and_false]
  rintro i a σ1 ⟨⟨hi, hall⟩, hf, rfl⟩
  by_cases hlt : i < L.length
  · have hlt' : (i : Int) < L.length := by omega
    have hx : L[i]? = some (L[i]'hlt) := List.getElem?_eq_getElem hlt
    obtain ⟨x, hxx⟩ : ∃ x, L[i]'hlt = x := ⟨_, rfl⟩
    rw [hxx] at hx
    have hmx := spanV_map_get hx
    have bad : ¬ RightAt L i → q = false := fun h => by
      rw [← hq]; simp only [decide_eq_false_iff_not]; exact fun hr => h (hr i hlt)
    simp (disch := first | assumption | omega | (simp only [List.length_append]; omega)) only [go_sem, reduceCtorEq, Nat.reduceEqDiff, Nat.reduceAdd, Nat.reduceSub, Nat.reduceMul, Nat.reduceLeDiff, Int.reduceLT, Int.reduceLE, Int.reduceEq, ↓reduceIte, Int.reduceNeg, Int.reduceAdd, Int.reduceSub, Int.reduceMul, true_imp_iff, forall_const, Nat.mul_one, Int.reduceToNat, Nat.reducePow, Int.reducePow, Bool.true_and, Bool.false_and, Bool.and_false, hf, hlt', hmx]
    refine allocC_by fun c hc => ?_
    by_cases h1 : x.2 ≤ x.1
    · have hb := bad (fun h => by have := (h x hx).1; omega)
      subst hb
      simp (disch := first | assumption | omega | (simp only [List.length_append]; omega)) only [go_sem, reduceCtorEq, Nat.reduceEqDiff, Nat.reduceAdd, Nat.reduceSub, Nat.reduceMul, Nat.reduceLeDiff, Int.reduceLT, Int.reduceLE, Int.reduceEq, ↓reduceIte, Int.reduceNeg, Int.reduceAdd, Int.reduceSub, Int.reduceMul, true_imp_iff, forall_const, Nat.mul_one, Int.reduceToNat, Nat.reducePow, Int.reducePow, Bool.true_and, Bool.false_and, Bool.and_false, hf, h1]
      exact retC_by (Drop.set hc) (.refl _) ⟨rfl, rfl⟩
    · by_cases hi0 : i = 0
      · have hz : ¬ (0 : Int) < i := by omega
        simp (disch := first | assumption | omega | (simp only [List.length_append]; omega)) only [go_sem, reduceCtorEq, Nat.reduceEqDiff, Nat.reduceAdd, Nat.reduceSub, Nat.reduceMul, Nat.reduceLeDiff, Int.reduceLT, Int.reduceLE, Int.reduceEq, ↓reduceIte, Int.reduceNeg, Int.reduceAdd, Int.reduceSub, Int.reduceMul, true_imp_iff, forall_const, Nat.mul_one, Int.reduceToNat, Nat.reducePow, Int.reducePow, Bool.true_and, Bool.false_and, Bool.and_false, hf, h1, hz]
        refine ⟨i + 1, by dsimp only; omega, Dr.lay hc ⟨⟨by omega, fun k hk => ?_⟩, ?_, rfl⟩⟩
        · obtain rfl : k = i := by omega
          intro z hz2
          rw [hx] at hz2
          injection hz2 with hz2
          subst hz2
          exact ⟨by omega, fun j y hj _ => by omega⟩
        · simp (disch := first | assumption | omega | (simp only [List.length_append]; omega)) only [go_sem, reduceCtorEq, Nat.reduceEqDiff, Nat.reduceAdd, Nat.reduceSub, Nat.reduceMul, Nat.reduceLeDiff, Int.reduceLT, Int.reduceLE, Int.reduceEq, ↓reduceIte, Int.reduceNeg, Int.reduceAdd, Int.reduceSub, Int.reduceMul, true_imp_iff, forall_const, Nat.mul_one, Int.reduceToNat, Nat.reducePow, Int.reducePow, Bool.true_and, Bool.false_and, Bool.and_false, hf]
      · obtain ⟨j, hji⟩ : ∃ j, i = j + 1 := ⟨i - 1, by omega⟩
        have hy : L[j]? = some (L[j]'(by omega)) := List.getElem?_eq_getElem (by omega)
        obtain ⟨y, hyy⟩ : ∃ y, L[j]'(by omega) = y := ⟨_, rfl⟩
        rw [hyy] at hy
        have hmy := spanV_map_get hy
        have hnz : (0 : Int) < i := by omega
        have hsub : (i : Int) - 1 = j := by omega
        by_cases h2 : x.1 ≤ y.2
        · have hb := bad (fun h => by have := (h x hx).2 j y hji hy; omega)
          subst hb
          simp (disch := first | assumption | omega | (simp only [List.length_append]; omega)) only [go_sem, reduceCtorEq, Nat.reduceEqDiff, Nat.reduceAdd, Nat.reduceSub, Nat.reduceMul, Nat.reduceLeDiff, Int.reduceLT, Int.reduceLE, Int.reduceEq, ↓reduceIte, Int.reduceNeg, Int.reduceAdd, Int.reduceSub, Int.reduceMul, true_imp_iff, forall_const, Nat.mul_one, Int.reduceToNat, Nat.reducePow, Int.reducePow, Bool.true_and, Bool.false_and, Bool.and_false, hf, h1, hnz, hsub, hmy, h2]
          exact retC_by (Drop.set hc) (.refl _) ⟨rfl, rfl⟩
        · simp (disch := first | assumption | omega | (simp only [List.length_append]; omega)) only [go_sem, reduceCtorEq, Nat.reduceEqDiff, Nat.reduceAdd, Nat.reduceSub, Nat.reduceMul, Nat.reduceLeDiff, Int.reduceLT, Int.reduceLE, Int.reduceEq, ↓reduceIte, Int.reduceNeg, Int.reduceAdd, Int.reduceSub, Int.reduceMul, true_imp_iff, forall_const, Nat.mul_one, Int.reduceToNat, Nat.reducePow, Int.reducePow, Bool.true_and, Bool.false_and, Bool.and_false, hf, h1, hnz, hsub, hmy, h2]
          refine ⟨i + 1, by dsimp only; omega, Dr.lay hc ⟨⟨by omega, fun k hk => ?_⟩, ?_, rfl⟩⟩
          · by_cases hki : k = i
            · subst hki
              intro z hz2
              rw [hx] at hz2
              injection hz2 with hz2
              subst hz2
              refine ⟨by omega, fun j' y' hj' hy' => ?_⟩
              obtain rfl : j' = j := by omega
              rw [hy] at hy'
              injection hy' with hy'
              subst hy'
              omega
            · exact hall k (by omega)
          · simp (disch := first | assumption | omega | (simp only [List.length_append]; omega)) only [go_sem, reduceCtorEq, Nat.reduceEqDiff, Nat.reduceAdd, Nat.reduceSub, Nat.reduceMul, Nat.reduceLeDiff, Int.reduceLT, Int.reduceLE, Int.reduceEq, ↓reduceIte, Int.reduceNeg, Int.reduceAdd, Int.reduceSub, Int.reduceMul, true_imp_iff, forall_const, Nat.mul_one, Int.reduceToNat, Nat.reducePow, Int.reducePow, Bool.true_and, Bool.false_and, Bool.and_false, hf]
  · have hlt' : ¬ (i : Int) < L.length := by omega
    have hb : q = true := by rw [← hq]; simp only [decide_eq_true_eq]; exact fun k hk => hall k (by omega)
    subst hb
    simp (disch := first | assumption | omega | (simp only [List.length_append]; omega)) only [go_sem, reduceCtorEq, Nat.reduceEqDiff, Nat.reduceAdd, Nat.reduceSub, Nat.reduceMul, Nat.reduceLeDiff, Int.reduceLT, Int.reduceLE, Int.reduceEq, ↓reduceIte, Int.reduceNeg, Int.reduceAdd, Int.reduceSub, Int.reduceMul, true_imp_iff, forall_const, Nat.mul_one, Int.reduceToNat, Nat.reducePow, Int.reducePow, Bool.true_and, Bool.false_and, Bool.and_false, hf, hlt']
    exact retC_by (Drop.refl _) (.refl _) ⟨rfl, rfl⟩

theorem textP_back {s x r : List UInt8} {p : Nat} (h : s.drop p = textB x ++ r) (hx : x.length ≤ 200) : textP s p 0 200 = (x, p + (textB x).length, 0) := by
  unfold textB at h ⊢
  rw [List.append_assoc] at h
  have hr := readU_uint h (by omega)
  have hd := drop_app h
  have hlen : s.length - (p + (uintB x.length).length) = x.length + r.length := by
    have := congrArg List.length hd
    simpa using this
  unfold textP
  rw [hr]
  dsimp only
  by_cases h0 : s.length < p + (uintB x.length).length + x.length
  · have hx0 : x.length = 0 := by omega
    have hr0 : r.length = 0 := by omega
    have hge : s.length < p + (uintB x.length).length := by omega
    exfalso
    have := congrArg List.length h
    rw [List.length_drop, List.length_append] at this
    have hp := uintB_pos x.length
    omega
  · rw [if_neg (by simp), if_neg (by omega), if_neg h0, hd]
    simp; omega

def putsB (l : List Thing) : List UInt8 := l.flatMap putB
theorem putsB_len {l : List Thing} (h : ∀ t ∈ l, t.ok) : (putsB l).length ≤ 210 * l.length := by
  induction l with
  | nil => simp [putsB]
  | cons t l ih =>
    have h1 := putB_len (h t (by simp))
    have h2 := ih fun x hx => h x (by simp [hx])
    simp only [putsB, List.flatMap_cons, List.length_append, List.length_cons] at h2 ⊢
    omega
theorem thing_at {l : List Thing} {i : Nat} {t : Thing} (h : l[i]? = some t) : (l.map thingV)[i]? = some (.agg [.int .i64 t.kind, .int .i64 t.n, .int .u64 t.u, .str t.s, .sl .shr (t.l.map (AV.int .u64))]) := by
  rw [List.getElem?_map, h]; rfl
theorem drop_role {σ : ASt} {d c : Nat} {q r r' : Role} (hcd : c ≠ d) (hc : σ c = none) : Drop (((σ.set d (some r)).set c (some q)).set d (some r')) (σ.set d (some r')) := by
  rw [set_swap hcd, ASt.set_set]
  exact Drop.set (by rw [ASt.set_ne hcd]; exact hc)

set_option maxHeartbeats 2000000 in
theorem VintBack_any (l : List Thing) (hl : l.length ≤ 9223372036854775807) (ht : ∀ t ∈ l, t.ok) (σ : ASt) : ACalls Try.prog 9 [.sl .shr (l.map thingV)] σ fun v _ => v = .bool true := by
  refine a9 (by simp) ?_
  obtain ⟨F, hF⟩ : ∃ F, F = ACode.wp Try.prog c9_82 := ⟨_, rfl⟩
  obtain ⟨G, hG⟩ : ∃ F, F = ACode.wp Try.prog c9_80 := ⟨_, rfl⟩
  have hput : ∀ i, ∀ t ∈ l.take i, t.ok := fun i t h => ht t (List.mem_of_mem_take h)
  have hlen : ∀ i, (putsB (l.take i)).length ≤ 210 * i := fun i => by
    have := putsB_len (hput i)
    simp only [List.length_take] at this
    omega
  obtain ⟨s, hs⟩ : ∃ s, putsB (l.take 20) = s := ⟨_, rfl⟩
  have hsl : s.length ≤ 4200 := by rw [← hs]; exact hlen 20
  -- the end
  have fin : ∀ (a : AFr) (σ1 : ASt) (d p : Nat), a 5 = .ptr d 0 → s.length ≤ p → σ1 d = rd s p 0 → G (RetQ [.t 2] fun v _ => v = .bool true) a σ1 := by
    intro a σ1 d p h5 hp hd
    have hnp : ¬ p < s.length := by omega
    rw [hG]
    simp (disch := first | assumption | omega | (simp only [List.length_append]; omega)) only [go_sem, reduceCtorEq, Nat.reduceEqDiff, Nat.reduceAdd, Nat.reduceSub, Nat.reduceMul, Nat.reduceLeDiff, Int.reduceLT, Int.reduceLE, Int.reduceEq, ↓reduceIte, Int.reduceNeg, Int.reduceAdd, Int.reduceSub, Int.reduceMul, true_imp_iff, forall_const, Nat.mul_one, Int.reduceToNat, Nat.reducePow, Int.reducePow, Bool.true_and, Bool.false_and, Bool.and_false]
    refine awake_ok.use ?_
    simp (disch := first | assumption | omega | (simp only [List.length_append]; omega)) only [go_sem, reduceCtorEq, Nat.reduceEqDiff, Nat.reduceAdd, Nat.reduceSub, Nat.reduceMul, Nat.reduceLeDiff, Int.reduceLT, Int.reduceLE, Int.reduceEq, ↓reduceIte, Int.reduceNeg, Int.reduceAdd, Int.reduceSub, Int.reduceMul, true_imp_iff, forall_const, Nat.mul_one, Int.reduceToNat, Nat.reducePow, Int.reducePow, Bool.true_and, Bool.false_and, Bool.and_false, h5]
    refine (rdone_ok s p 0 d _ hd).mono ?_
    rw [if_neg hnp]
    rintro v σ' ⟨rfl, rfl⟩
    simp (disch := first | assumption | omega | (simp only [List.length_append]; omega)) only [go_sem, reduceCtorEq, Nat.reduceEqDiff, Nat.reduceAdd, Nat.reduceSub, Nat.reduceMul, Nat.reduceLeDiff, Int.reduceLT, Int.reduceLE, Int.reduceEq, ↓reduceIte, Int.reduceNeg, Int.reduceAdd, Int.reduceSub, Int.reduceMul, true_imp_iff, forall_const, Nat.mul_one, Int.reduceToNat, Nat.reducePow, Int.reducePow, Bool.true_and, Bool.false_and, Bool.and_false]
    exact retC_by (Drop.refl _) (.refl _) rfl
  -- from the reader on
  have back : ∀ (a : AFr) (b : Nat) (σ1 : ASt), a 0 = .sl .shr (l.map thingV) → a 3 = .ptr b 0 → W σ b s σ1 → F (RetQ [.t 2] fun v _ => v = .bool true) a σ1 := by
    intro a b σ1 h0 h3 hW
    rw [hF]
    simp (disch := first | assumption | omega | (simp only [List.length_append]; omega)) only [go_sem, reduceCtorEq, Nat.reduceEqDiff, Nat.reduceAdd, Nat.reduceSub, Nat.reduceMul, Nat.reduceLeDiff, Int.reduceLT, Int.reduceLE, Int.reduceEq, ↓reduceIte, Int.reduceNeg, Int.reduceAdd, Int.reduceSub, Int.reduceMul, true_imp_iff, forall_const, Nat.mul_one, Int.reduceToNat, Nat.reducePow, Int.reducePow, Bool.true_and, Bool.false_and, Bool.and_false, h0, h3, ←hG]
    refine (wbytes_ok _ b _ _ hW).mono ?_
    rintro v σ2 ⟨rfl, rfl⟩
    simp (disch := first | assumption | omega | (simp only [List.length_append]; omega)) only [go_sem, reduceCtorEq, Nat.reduceEqDiff, Nat.reduceAdd, Nat.reduceSub, Nat.reduceMul, Nat.reduceLeDiff, Int.reduceLT, Int.reduceLE, Int.reduceEq, ↓reduceIte, Int.reduceNeg, Int.reduceAdd, Int.reduceSub, Int.reduceMul, true_imp_iff, forall_const, Nat.mul_one, Int.reduceToNat, Nat.reducePow, Int.reducePow, Bool.true_and, Bool.false_and, Bool.and_false, h0, ←hG]
    refine (rread_ok s σ2).mono ?_
    rintro v σ3 ⟨d, rfl, hd, rfl⟩
    clear hW h3
    simp (disch := first | assumption | omega | (simp only [List.length_append]; omega)) only [go_sem, reduceCtorEq, Nat.reduceEqDiff, Nat.reduceAdd, Nat.reduceSub, Nat.reduceMul, Nat.reduceLeDiff, Int.reduceLT, Int.reduceLE, Int.reduceEq, ↓reduceIte, Int.reduceNeg, Int.reduceAdd, Int.reduceSub, Int.reduceMul, true_imp_iff, forall_const, Nat.mul_one, Int.reduceToNat, Nat.reducePow, Int.reducePow, Bool.true_and, Bool.false_and, Bool.and_false, h0, ←hG]
    refine wp_loop_by (fun (i : Nat × Nat) a σ' => (i.1 ≤ l.length ∧ i.1 ≤ 20 ∧ i.2 ≤ s.length ∧ s.drop i.2 = putsB ((l.take 20).drop i.1)) ∧ (a 0 = .sl .shr (l.map thingV) ∧ a 5 = .ptr d 0 ∧ a 6 = .int .i64 i.1) ∧ σ' = σ2.set d (rd s i.2 0))
      (fun i => 20 - i.1) (0, 0) (Dr.now ⟨⟨Nat.zero_le _, Nat.zero_le _, Nat.zero_le _, by rw [← hs]; rfl⟩, ?_, rfl⟩) ?_
    · simp (disch := first | assumption | omega | (simp only [List.length_append]; omega)) only [go_sem, reduceCtorEq, Nat.reduceEqDiff, Nat.reduceAdd, Nat.reduceSub, Nat.reduceMul, Nat.reduceLeDiff, Int.reduceLT, Int.reduceLE, Int.reduceEq, ↓reduceIte, Int.reduceNeg, Int.reduceAdd, Int.reduceSub, Int.reduceMul, true_imp_iff, forall_const, Nat.mul_one, Int.reduceToNat, Nat.reducePow, Int.reducePow, Bool.true_and, Bool.false_and, Bool.and_false, h0]
    clear h0
    rintro ⟨i, p⟩ a σ1 ⟨⟨hi, hi20, hp, hdr⟩, hf, rfl⟩
    dsimp only at hi hi20 hp hdr hf
    by_cases hlt : i < l.length ∧ i < 20
    · have hlt1 : (i : Int) < l.length := by omega
      have hlt2 : (i : Int) < 20 := by omega
      have hx : l[i]? = some (l[i]'hlt.1) := List.getElem?_eq_getElem hlt.1
      obtain ⟨t, hxx⟩ : ∃ t, l[i]'hlt.1 = t := ⟨_, rfl⟩
      rw [hxx] at hx
      have hmap := thing_at hx
      have htok := ht t (List.mem_of_getElem? hx)
      have hdr2 : s.drop p = putB t ++ putsB ((l.take 20).drop (i + 1)) := by
        have hx2 : (l.take 20)[i]? = some t := by rw [List.getElem?_take, if_pos hlt.2]; exact hx
        obtain ⟨g1, g2⟩ := List.getElem?_eq_some_iff.1 hx2
        rw [hdr, List.drop_eq_getElem_cons g1, g2]; rfl
      obtain ⟨rst, hrst⟩ : ∃ r, putsB ((l.take 20).drop (i + 1)) = r := ⟨_, rfl⟩
      rw [hrst] at hdr2
      have hd2 := drop_app hdr2
      have hp2 : p + (putB t).length ≤ s.length := by
        have := congrArg List.length hdr2
        rw [List.length_drop, List.length_append] at this
        omega
      obtain ⟨n1, n2, u1, u2, l1, l2⟩ := htok
      have hrr := risingL_rises l2
      have hrl := risingL_len t.l
      have hsr := spansL_rises l2
      have hsl2 := spansL_len t.l
      clear hxx
      obtain ⟨kind, n, u, x, L⟩ := t
      dsimp only at *
      obtain ⟨P, hP⟩ : ∃ P, putB ⟨kind, n, u, x, L⟩ = P := ⟨_, rfl⟩
      rw [hP] at hdr2 hd2 hp2
      unfold putB at hP
      dsimp only at hP
      simp (disch := first | assumption | omega | (simp only [List.length_append]; omega)) only [go_sem, reduceCtorEq, Nat.reduceEqDiff, Nat.reduceAdd, Nat.reduceSub, Nat.reduceMul, Nat.reduceLeDiff, Int.reduceLT, Int.reduceLE, Int.reduceEq, ↓reduceIte, Int.reduceNeg, Int.reduceAdd, Int.reduceSub, Int.reduceMul, true_imp_iff, forall_const, Nat.mul_one, Int.reduceToNat, Nat.reducePow, Int.reducePow, Bool.true_and, Bool.false_and, Bool.and_false, hf, hlt1, hlt2, hmap, ←hG]
      refine allocC_by fun c hc => ?_
      obtain ⟨hcd, hdc, hc0⟩ := set_none (show (σ2.set d (some (.obj [.str s, .int .i64 p, .int .i64 0]))) c = none from hc)
      obtain ⟨TT, hTT⟩ : ∃ T, T = (σ2.set d (rd s p 0)).set c (some (.obj [.int .i64 kind, .int .i64 n, .int .u64 u, .str x, .sl .shr (L.map (AV.int .u64))])) := ⟨_, rfl⟩
      have hTd : TT d = rd s p 0 := by rw [hTT, ASt.set_ne hdc, ASt.set_same]
      have hTc : TT c = some (.obj [.int .i64 kind, .int .i64 n, .int .u64 u, .str x, .sl .shr (L.map (AV.int .u64))]) := by rw [hTT, ASt.set_same]
      have hTD : ∀ p', Drop (TT.set d (rd s p' 0)) (σ2.set d (rd s p' 0)) := fun p' => by rw [hTT]; exact drop_role hcd hc0
      have hTS : Drop TT (σ2.set d (rd s p 0)) := by rw [hTT]; exact Drop.set hc
      have next : ∀ (a' : AFr) (σ' : ASt) (p' : Nat), p' ≤ s.length → s.drop p' = rst → Drop σ' (σ2.set d (rd s p' 0)) → (a' 0 = .sl .shr (l.map thingV) ∧ a' 5 = .ptr d 0 ∧ a' 6 = .int .i64 ((i : Int) + 1)) →
          Again (fun (i : Nat × Nat) a σ' => (i.1 ≤ l.length ∧ i.1 ≤ 20 ∧ i.2 ≤ s.length ∧ s.drop i.2 = putsB ((l.take 20).drop i.1)) ∧ (a 0 = .sl .shr (l.map thingV) ∧ a 5 = .ptr d 0 ∧ a 6 = .int .i64 i.1) ∧ σ' = σ2.set d (rd s i.2 0)) (fun i => 20 - i.1) (i, p) a' σ' := by
        intro a' σ' p' g1 g2 g3 g4
        exact ⟨(i + 1, p'), by dsimp only; omega, Dr.drop g3 ⟨⟨by dsimp only; omega, by dsimp only; omega, g1, by dsimp only; rw [hrst]; exact g2⟩, g4, rfl⟩⟩
      by_cases k1 : kind = 1
      · rw [if_pos k1] at hP
        subst k1
        subst hP
        have hr := readU_uint hdr2 (by omega)
        simp (disch := first | assumption | omega | (simp only [List.length_append]; omega)) only [go_sem, reduceCtorEq, Nat.reduceEqDiff, Nat.reduceAdd, Nat.reduceSub, Nat.reduceMul, Nat.reduceLeDiff, Int.reduceLT, Int.reduceLE, Int.reduceEq, ↓reduceIte, Int.reduceNeg, Int.reduceAdd, Int.reduceSub, Int.reduceMul, true_imp_iff, forall_const, Nat.mul_one, Int.reduceToNat, Nat.reducePow, Int.reducePow, Bool.true_and, Bool.false_and, Bool.and_false, hf, ←hG]
        rw [← hTT]
        refine (ruint_ok s p 0 d TT hTd (by omega) hp).mono ?_
        rw [hr]
        rintro v σ' ⟨rfl, rfl⟩
        have hc2 : TT.set d (rd s (p + (uintB u.toNat).length) 0) c = _ := (ASt.set_ne hcd).trans hTc
        have hun : ((u.toNat : Nat) : Int) = u := by omega
        simp (disch := first | assumption | omega | (simp only [List.length_append]; omega)) only [go_sem, reduceCtorEq, Nat.reduceEqDiff, Nat.reduceAdd, Nat.reduceSub, Nat.reduceMul, Nat.reduceLeDiff, Int.reduceLT, Int.reduceLE, Int.reduceEq, ↓reduceIte, Int.reduceNeg, Int.reduceAdd, Int.reduceSub, Int.reduceMul, true_imp_iff, forall_const, Nat.mul_one, Int.reduceToNat, Nat.reducePow, Int.reducePow, Bool.true_and, Bool.false_and, Bool.and_false, hf, hc2, hun, ←hG]
        refine next _ _ _ hp2 hd2 (hTD _) ?_
        simp (disch := first | assumption | omega | (simp only [List.length_append]; omega)) only [go_sem, reduceCtorEq, Nat.reduceEqDiff, Nat.reduceAdd, Nat.reduceSub, Nat.reduceMul, Nat.reduceLeDiff, Int.reduceLT, Int.reduceLE, Int.reduceEq, ↓reduceIte, Int.reduceNeg, Int.reduceAdd, Int.reduceSub, Int.reduceMul, true_imp_iff, forall_const, Nat.mul_one, Int.reduceToNat, Nat.reducePow, Int.reducePow, Bool.true_and, Bool.false_and, Bool.and_false, hf]
      rw [if_neg k1] at hP
      by_cases k2 : kind = 2
      · rw [if_pos k2] at hP
        subst k2
        subst hP
        obtain ⟨fb1, fb2⟩ := foldI_bd n1 n2
        have hr := readU_uint hdr2 (by omega)
        simp (disch := first | assumption | omega | (simp only [List.length_append]; omega)) only [go_sem, reduceCtorEq, Nat.reduceEqDiff, Nat.reduceAdd, Nat.reduceSub, Nat.reduceMul, Nat.reduceLeDiff, Int.reduceLT, Int.reduceLE, Int.reduceEq, ↓reduceIte, Int.reduceNeg, Int.reduceAdd, Int.reduceSub, Int.reduceMul, true_imp_iff, forall_const, Nat.mul_one, Int.reduceToNat, Nat.reducePow, Int.reducePow, Bool.true_and, Bool.false_and, Bool.and_false, hf, ←hG]
        rw [← hTT]
        refine (rint_ok s p 0 d TT hTd (by omega) hp).mono ?_
        rw [hr]
        rintro v σ' ⟨rfl, rfl⟩
        have hc2 : TT.set d (rd s (p + (uintB (foldI n).toNat).length) 0) c = _ := (ASt.set_ne hcd).trans hTc
        have hun := unf_fold n1 n2
        simp (disch := first | assumption | omega | (simp only [List.length_append]; omega)) only [go_sem, reduceCtorEq, Nat.reduceEqDiff, Nat.reduceAdd, Nat.reduceSub, Nat.reduceMul, Nat.reduceLeDiff, Int.reduceLT, Int.reduceLE, Int.reduceEq, ↓reduceIte, Int.reduceNeg, Int.reduceAdd, Int.reduceSub, Int.reduceMul, true_imp_iff, forall_const, Nat.mul_one, Int.reduceToNat, Nat.reducePow, Int.reducePow, Bool.true_and, Bool.false_and, Bool.and_false, hf, hc2, hun, ←hG]
        refine next _ _ _ hp2 hd2 (hTD _) ?_
        simp (disch := first | assumption | omega | (simp only [List.length_append]; omega)) only [go_sem, reduceCtorEq, Nat.reduceEqDiff, Nat.reduceAdd, Nat.reduceSub, Nat.reduceMul, Nat.reduceLeDiff, Int.reduceLT, Int.reduceLE, Int.reduceEq, ↓reduceIte, Int.reduceNeg, Int.reduceAdd, Int.reduceSub, Int.reduceMul, true_imp_iff, forall_const, Nat.mul_one, Int.reduceToNat, Nat.reducePow, Int.reducePow, Bool.true_and, Bool.false_and, Bool.and_false, hf]
      rw [if_neg k2] at hP
      by_cases k3 : kind = 3
      · rw [if_pos k3] at hP
        subst k3
        subst hP
        have hr := textP_back hdr2 (by simp; omega)
        simp (disch := first | assumption | omega | (simp only [List.length_append]; omega)) only [go_sem, reduceCtorEq, Nat.reduceEqDiff, Nat.reduceAdd, Nat.reduceSub, Nat.reduceMul, Nat.reduceLeDiff, Int.reduceLT, Int.reduceLE, Int.reduceEq, ↓reduceIte, Int.reduceNeg, Int.reduceAdd, Int.reduceSub, Int.reduceMul, true_imp_iff, forall_const, Nat.mul_one, Int.reduceToNat, Nat.reducePow, Int.reducePow, Bool.true_and, Bool.false_and, Bool.and_false, hf, ←hG]
        rw [← hTT]
        refine (rtext_ok s p 0 200 d TT hTd (by omega) hp (by omega)).mono ?_
        rw [hr]
        rintro v σ' ⟨rfl, rfl⟩
        have hc2 : TT.set d (rd s (p + (textB (x.take 200)).length) 0) c = _ := (ASt.set_ne hcd).trans hTc
        simp (disch := first | assumption | omega | (simp only [List.length_append]; omega)) only [go_sem, reduceCtorEq, Nat.reduceEqDiff, Nat.reduceAdd, Nat.reduceSub, Nat.reduceMul, Nat.reduceLeDiff, Int.reduceLT, Int.reduceLE, Int.reduceEq, ↓reduceIte, Int.reduceNeg, Int.reduceAdd, Int.reduceSub, Int.reduceMul, true_imp_iff, forall_const, Nat.mul_one, Int.reduceToNat, Nat.reducePow, Int.reducePow, Bool.true_and, Bool.false_and, Bool.and_false, hf, hc2, ←hG]
        refine (cut_ok x 200).use ?_
        simp (disch := first | assumption | omega | (simp only [List.length_append]; omega)) only [go_sem, reduceCtorEq, Nat.reduceEqDiff, Nat.reduceAdd, Nat.reduceSub, Nat.reduceMul, Nat.reduceLeDiff, Int.reduceLT, Int.reduceLE, Int.reduceEq, ↓reduceIte, Int.reduceNeg, Int.reduceAdd, Int.reduceSub, Int.reduceMul, true_imp_iff, forall_const, Nat.mul_one, Int.reduceToNat, Nat.reducePow, Int.reducePow, Bool.true_and, Bool.false_and, Bool.and_false, hf, hc2, ←hG]
        refine next _ _ _ hp2 hd2 (hTD _) ?_
        simp (disch := first | assumption | omega | (simp only [List.length_append]; omega)) only [go_sem, reduceCtorEq, Nat.reduceEqDiff, Nat.reduceAdd, Nat.reduceSub, Nat.reduceMul, Nat.reduceLeDiff, Int.reduceLT, Int.reduceLE, Int.reduceEq, ↓reduceIte, Int.reduceNeg, Int.reduceAdd, Int.reduceSub, Int.reduceMul, true_imp_iff, forall_const, Nat.mul_one, Int.reduceToNat, Nat.reducePow, Int.reducePow, Bool.true_and, Bool.false_and, Bool.and_false, hf]
      rw [if_neg k3] at hP
      by_cases k4 : kind = 4
      · rw [if_pos k4] at hP
        subst k4
        subst hP
        have hr := risingR_back hrr hdr2 (most := 20) (by omega) (by omega)
        simp (disch := first | assumption | omega | (simp only [List.length_append]; omega)) only [go_sem, reduceCtorEq, Nat.reduceEqDiff, Nat.reduceAdd, Nat.reduceSub, Nat.reduceMul, Nat.reduceLeDiff, Int.reduceLT, Int.reduceLE, Int.reduceEq, ↓reduceIte, Int.reduceNeg, Int.reduceAdd, Int.reduceSub, Int.reduceMul, true_imp_iff, forall_const, Nat.mul_one, Int.reduceToNat, Nat.reducePow, Int.reducePow, Bool.true_and, Bool.false_and, Bool.and_false, hf, ←hG]
        rw [← hTT]
        refine (rrising_ok s p 0 20 d TT hTd (by omega) hp (by omega)).mono ?_
        rw [hr]
        rintro v σ' ⟨rfl, rfl⟩
        have hc2 : TT.set d (rd s (p + (risingB (risingL L)).length) 0) c = _ := (ASt.set_ne hcd).trans hTc
        simp (disch := first | assumption | omega | (simp only [List.length_append]; omega)) only [go_sem, reduceCtorEq, Nat.reduceEqDiff, Nat.reduceAdd, Nat.reduceSub, Nat.reduceMul, Nat.reduceLeDiff, Int.reduceLT, Int.reduceLE, Int.reduceEq, ↓reduceIte, Int.reduceNeg, Int.reduceAdd, Int.reduceSub, Int.reduceMul, true_imp_iff, forall_const, Nat.mul_one, Int.reduceToNat, Nat.reducePow, Int.reducePow, Bool.true_and, Bool.false_and, Bool.and_false, hf, hc2, ←hG]
        refine (rising_ok L l1).use ?_
        simp (disch := first | assumption | omega | (simp only [List.length_append]; omega)) only [go_sem, reduceCtorEq, Nat.reduceEqDiff, Nat.reduceAdd, Nat.reduceSub, Nat.reduceMul, Nat.reduceLeDiff, Int.reduceLT, Int.reduceLE, Int.reduceEq, ↓reduceIte, Int.reduceNeg, Int.reduceAdd, Int.reduceSub, Int.reduceMul, true_imp_iff, forall_const, Nat.mul_one, Int.reduceToNat, Nat.reducePow, Int.reducePow, Bool.true_and, Bool.false_and, Bool.and_false, hf, hc2, ←hG]
        refine (sameNumbers_ok _ _ (by omega) (by omega)).use ?_
        rw [if_pos rfl]
        simp (disch := first | assumption | omega | (simp only [List.length_append]; omega)) only [go_sem, reduceCtorEq, Nat.reduceEqDiff, Nat.reduceAdd, Nat.reduceSub, Nat.reduceMul, Nat.reduceLeDiff, Int.reduceLT, Int.reduceLE, Int.reduceEq, ↓reduceIte, Int.reduceNeg, Int.reduceAdd, Int.reduceSub, Int.reduceMul, true_imp_iff, forall_const, Nat.mul_one, Int.reduceToNat, Nat.reducePow, Int.reducePow, Bool.true_and, Bool.false_and, Bool.and_false, hf, hc2, ←hG]
        refine next _ _ _ hp2 hd2 (hTD _) ?_
        simp (disch := first | assumption | omega | (simp only [List.length_append]; omega)) only [go_sem, reduceCtorEq, Nat.reduceEqDiff, Nat.reduceAdd, Nat.reduceSub, Nat.reduceMul, Nat.reduceLeDiff, Int.reduceLT, Int.reduceLE, Int.reduceEq, ↓reduceIte, Int.reduceNeg, Int.reduceAdd, Int.reduceSub, Int.reduceMul, true_imp_iff, forall_const, Nat.mul_one, Int.reduceToNat, Nat.reducePow, Int.reducePow, Bool.true_and, Bool.false_and, Bool.and_false, hf]
      rw [if_neg k4] at hP
      by_cases k5 : kind = 5
      · rw [if_pos k5] at hP
        subst k5
        subst hP
        have hr := spansR_back hsr hdr2 (most := 10) (by omega) (by omega)
        simp (disch := first | assumption | omega | (simp only [List.length_append]; omega)) only [go_sem, reduceCtorEq, Nat.reduceEqDiff, Nat.reduceAdd, Nat.reduceSub, Nat.reduceMul, Nat.reduceLeDiff, Int.reduceLT, Int.reduceLE, Int.reduceEq, ↓reduceIte, Int.reduceNeg, Int.reduceAdd, Int.reduceSub, Int.reduceMul, true_imp_iff, forall_const, Nat.mul_one, Int.reduceToNat, Nat.reducePow, Int.reducePow, Bool.true_and, Bool.false_and, Bool.and_false, hf, ←hG]
        rw [← hTT]
        refine (spans_ok L l1).use ?_
        simp (disch := first | assumption | omega | (simp only [List.length_append]; omega)) only [go_sem, reduceCtorEq, Nat.reduceEqDiff, Nat.reduceAdd, Nat.reduceSub, Nat.reduceMul, Nat.reduceLeDiff, Int.reduceLT, Int.reduceLE, Int.reduceEq, ↓reduceIte, Int.reduceNeg, Int.reduceAdd, Int.reduceSub, Int.reduceMul, true_imp_iff, forall_const, Nat.mul_one, Int.reduceToNat, Nat.reducePow, Int.reducePow, Bool.true_and, Bool.false_and, Bool.and_false, hf, ←hG]
        refine (told_ok _ (by omega)).use ?_
        simp (disch := first | assumption | omega | (simp only [List.length_append]; omega)) only [go_sem, reduceCtorEq, Nat.reduceEqDiff, Nat.reduceAdd, Nat.reduceSub, Nat.reduceMul, Nat.reduceLeDiff, Int.reduceLT, Int.reduceLE, Int.reduceEq, ↓reduceIte, Int.reduceNeg, Int.reduceAdd, Int.reduceSub, Int.reduceMul, true_imp_iff, forall_const, Nat.mul_one, Int.reduceToNat, Nat.reducePow, Int.reducePow, Bool.true_and, Bool.false_and, Bool.and_false, hf, ←hG]
        refine (refRight_ok _ (by omega)).use ?_
        obtain ⟨rb, hrb⟩ : ∃ r, rightB (spansL L) = r := ⟨_, rfl⟩
        rw [hrb]
        cases rb
        · simp (disch := first | assumption | omega | (simp only [List.length_append]; omega)) only [go_sem, reduceCtorEq, Nat.reduceEqDiff, Nat.reduceAdd, Nat.reduceSub, Nat.reduceMul, Nat.reduceLeDiff, Int.reduceLT, Int.reduceLE, Int.reduceEq, ↓reduceIte, Int.reduceNeg, Int.reduceAdd, Int.reduceSub, Int.reduceMul, true_imp_iff, forall_const, Nat.mul_one, Int.reduceToNat, Nat.reducePow, Int.reducePow, Bool.true_and, Bool.false_and, Bool.and_false, hf, ←hG]
          refine awake_ok.use ?_
          simp (disch := first | assumption | omega | (simp only [List.length_append]; omega)) only [go_sem, reduceCtorEq, Nat.reduceEqDiff, Nat.reduceAdd, Nat.reduceSub, Nat.reduceMul, Nat.reduceLeDiff, Int.reduceLT, Int.reduceLE, Int.reduceEq, ↓reduceIte, Int.reduceNeg, Int.reduceAdd, Int.reduceSub, Int.reduceMul, true_imp_iff, forall_const, Nat.mul_one, Int.reduceToNat, Nat.reducePow, Int.reducePow, Bool.true_and, Bool.false_and, Bool.and_false, hf, ←hG]
          exact retC_by (Drop.refl _) (.refl _) rfl
        · simp (disch := first | assumption | omega | (simp only [List.length_append]; omega)) only [go_sem, reduceCtorEq, Nat.reduceEqDiff, Nat.reduceAdd, Nat.reduceSub, Nat.reduceMul, Nat.reduceLeDiff, Int.reduceLT, Int.reduceLE, Int.reduceEq, ↓reduceIte, Int.reduceNeg, Int.reduceAdd, Int.reduceSub, Int.reduceMul, true_imp_iff, forall_const, Nat.mul_one, Int.reduceToNat, Nat.reducePow, Int.reducePow, Bool.true_and, Bool.false_and, Bool.and_false, hf, ←hG]
          refine (rspans_ok s p 0 10 d TT hTd (by omega) hp (by omega)).mono ?_
          rw [hr]
          rintro v σ' ⟨rfl, rfl⟩
          have hc2 : TT.set d (rd s (p + (spansB (spansL L)).length) 0) c = _ := (ASt.set_ne hcd).trans hTc
          simp (disch := first | assumption | omega | (simp only [List.length_append]; omega)) only [go_sem, reduceCtorEq, Nat.reduceEqDiff, Nat.reduceAdd, Nat.reduceSub, Nat.reduceMul, Nat.reduceLeDiff, Int.reduceLT, Int.reduceLE, Int.reduceEq, ↓reduceIte, Int.reduceNeg, Int.reduceAdd, Int.reduceSub, Int.reduceMul, true_imp_iff, forall_const, Nat.mul_one, Int.reduceToNat, Nat.reducePow, Int.reducePow, Bool.true_and, Bool.false_and, Bool.and_false, hf, hc2, ←hG]
          refine (told_ok _ (by omega)).use ?_
          simp (disch := first | assumption | omega | (simp only [List.length_append]; omega)) only [go_sem, reduceCtorEq, Nat.reduceEqDiff, Nat.reduceAdd, Nat.reduceSub, Nat.reduceMul, Nat.reduceLeDiff, Int.reduceLT, Int.reduceLE, Int.reduceEq, ↓reduceIte, Int.reduceNeg, Int.reduceAdd, Int.reduceSub, Int.reduceMul, true_imp_iff, forall_const, Nat.mul_one, Int.reduceToNat, Nat.reducePow, Int.reducePow, Bool.true_and, Bool.false_and, Bool.and_false, hf, hc2, ←hG]
          refine (sameSpans_ok _ _ (by omega) (by omega)).use ?_
          rw [if_pos rfl]
          simp (disch := first | assumption | omega | (simp only [List.length_append]; omega)) only [go_sem, reduceCtorEq, Nat.reduceEqDiff, Nat.reduceAdd, Nat.reduceSub, Nat.reduceMul, Nat.reduceLeDiff, Int.reduceLT, Int.reduceLE, Int.reduceEq, ↓reduceIte, Int.reduceNeg, Int.reduceAdd, Int.reduceSub, Int.reduceMul, true_imp_iff, forall_const, Nat.mul_one, Int.reduceToNat, Nat.reducePow, Int.reducePow, Bool.true_and, Bool.false_and, Bool.and_false, hf, hc2, ←hG]
          refine next _ _ _ hp2 hd2 (hTD _) ?_
          simp (disch := first | assumption | omega | (simp only [List.length_append]; omega)) only [go_sem, reduceCtorEq, Nat.reduceEqDiff, Nat.reduceAdd, Nat.reduceSub, Nat.reduceMul, Nat.reduceLeDiff, Int.reduceLT, Int.reduceLE, Int.reduceEq, ↓reduceIte, Int.reduceNeg, Int.reduceAdd, Int.reduceSub, Int.reduceMul, true_imp_iff, forall_const, Nat.mul_one, Int.reduceToNat, Nat.reducePow, Int.reducePow, Bool.true_and, Bool.false_and, Bool.and_false, hf]
      rw [if_neg k5] at hP
      subst hP
      simp (disch := first | assumption | omega | (simp only [List.length_append]; omega)) only [go_sem, reduceCtorEq, Nat.reduceEqDiff, Nat.reduceAdd, Nat.reduceSub, Nat.reduceMul, Nat.reduceLeDiff, Int.reduceLT, Int.reduceLE, Int.reduceEq, ↓reduceIte, Int.reduceNeg, Int.reduceAdd, Int.reduceSub, Int.reduceMul, true_imp_iff, forall_const, Nat.mul_one, Int.reduceToNat, Nat.reducePow, Int.reducePow, Bool.true_and, Bool.false_and, Bool.and_false, hf, k1, k2, k3, k4, k5, ←hG]
      rw [← hTT]
      refine next _ _ p hp hdr2 hTS ?_
      simp (disch := first | assumption | omega | (simp only [List.length_append]; omega)) only [go_sem, reduceCtorEq, Nat.reduceEqDiff, Nat.reduceAdd, Nat.reduceSub, Nat.reduceMul, Nat.reduceLeDiff, Int.reduceLT, Int.reduceLE, Int.reduceEq, ↓reduceIte, Int.reduceNeg, Int.reduceAdd, Int.reduceSub, Int.reduceMul, true_imp_iff, forall_const, Nat.mul_one, Int.reduceToNat, Nat.reducePow, Int.reducePow, Bool.true_and, Bool.false_and, Bool.and_false, hf]
    · have hnil : (l.take 20).drop i = [] := List.drop_eq_nil_of_le (by simp; omega)
      rw [hnil] at hdr
      have hge : s.length ≤ p := by
        have := congrArg List.length hdr
        simp [putsB] at this
        omega
      by_cases hlt1 : (i : Int) < l.length
      · have hlt2 : ¬ (i : Int) < 20 := by omega
        simp (disch := first | assumption | omega | (simp only [List.length_append]; omega)) only [go_sem, reduceCtorEq, Nat.reduceEqDiff, Nat.reduceAdd, Nat.reduceSub, Nat.reduceMul, Nat.reduceLeDiff, Int.reduceLT, Int.reduceLE, Int.reduceEq, ↓reduceIte, Int.reduceNeg, Int.reduceAdd, Int.reduceSub, Int.reduceMul, true_imp_iff, forall_const, Nat.mul_one, Int.reduceToNat, Nat.reducePow, Int.reducePow, Bool.true_and, Bool.false_and, Bool.and_false, hf, hlt1, hlt2, ←hG]
        refine fin _ _ d p ?_ hge (ASt.set_same _ _ _)
        simp (disch := first | assumption | omega | (simp only [List.length_append]; omega)) only [go_sem, reduceCtorEq, Nat.reduceEqDiff, Nat.reduceAdd, Nat.reduceSub, Nat.reduceMul, Nat.reduceLeDiff, Int.reduceLT, Int.reduceLE, Int.reduceEq, ↓reduceIte, Int.reduceNeg, Int.reduceAdd, Int.reduceSub, Int.reduceMul, true_imp_iff, forall_const, Nat.mul_one, Int.reduceToNat, Nat.reducePow, Int.reducePow, Bool.true_and, Bool.false_and, Bool.and_false, hf]
      · simp (disch := first | assumption | omega | (simp only [List.length_append]; omega)) only [go_sem, reduceCtorEq, Nat.reduceEqDiff, Nat.reduceAdd, Nat.reduceSub, Nat.reduceMul, Nat.reduceLeDiff, Int.reduceLT, Int.reduceLE, Int.reduceEq, ↓reduceIte, Int.reduceNeg, Int.reduceAdd, Int.reduceSub, Int.reduceMul, true_imp_iff, forall_const, Nat.mul_one, Int.reduceToNat, Nat.reducePow, Int.reducePow, Bool.true_and, Bool.false_and, Bool.and_false, hf, hlt1, ←hG]
        refine fin _ _ d p ?_ hge (ASt.set_same _ _ _)
        simp (disch := first | assumption | omega | (simp only [List.length_append]; omega)) only [go_sem, reduceCtorEq, Nat.reduceEqDiff, Nat.reduceAdd, Nat.reduceSub, Nat.reduceMul, Nat.reduceLeDiff, Int.reduceLT, Int.reduceLE, Int.reduceEq, ↓reduceIte, Int.reduceNeg, Int.reduceAdd, Int.reduceSub, Int.reduceMul, true_imp_iff, forall_const, Nat.mul_one, Int.reduceToNat, Nat.reducePow, Int.reducePow, Bool.true_and, Bool.false_and, Bool.and_false, hf]
  simp (disch := first | assumption | omega | (simp only [List.length_append]; omega)) only [go_sem, reduceCtorEq, Nat.reduceEqDiff, Nat.reduceAdd, Nat.reduceSub, Nat.reduceMul, Nat.reduceLeDiff, Int.reduceLT, Int.reduceLE, Int.reduceEq, ↓reduceIte, Int.reduceNeg, Int.reduceAdd, Int.reduceSub, Int.reduceMul, true_imp_iff, forall_const, Nat.mul_one, Int.reduceToNat, Nat.reducePow, Int.reducePow, Bool.true_and, Bool.false_and, Bool.and_false, ←hF]
  refine allocC_by fun b hb => ?_
  simp (disch := first | assumption | omega | (simp only [List.length_append]; omega)) only [go_sem, reduceCtorEq, Nat.reduceEqDiff, Nat.reduceAdd, Nat.reduceSub, Nat.reduceMul, Nat.reduceLeDiff, Int.reduceLT, Int.reduceLE, Int.reduceEq, ↓reduceIte, Int.reduceNeg, Int.reduceAdd, Int.reduceSub, Int.reduceMul, true_imp_iff, forall_const, Nat.mul_one, Int.reduceToNat, Nat.reducePow, Int.reducePow, Bool.true_and, Bool.false_and, Bool.and_false, ←hF]
  refine wp_loop_on (fun (i : Nat) a σ' => (i ≤ l.length ∧ i ≤ 20) ∧ (a 0 = .sl .shr (l.map thingV) ∧ a 3 = .ptr b 0 ∧ a 4 = .int .i64 i) ∧ W σ b (putsB (l.take i)) σ')
    (fun i => 20 - i) 0 ⟨⟨Nat.zero_le _, Nat.zero_le _⟩, ?_, ⟨.full, .inl ⟨rfl, rfl, rfl⟩⟩⟩ ?_
  · simp (disch := first | assumption | omega | (simp only [List.length_append]; omega)) only [go_sem, reduceCtorEq, Nat.reduceEqDiff, Nat.reduceAdd, Nat.reduceSub, Nat.reduceMul, Nat.reduceLeDiff, Int.reduceLT, Int.reduceLE, Int.reduceEq, ↓reduceIte, Int.reduceNeg, Int.reduceAdd, Int.reduceSub, Int.reduceMul, true_imp_iff, forall_const, Nat.mul_one, Int.reduceToNat, Nat.reducePow, Int.reducePow, Bool.true_and, Bool.false_and, Bool.and_false]
  rintro i a σ1 ⟨⟨hi, hi20⟩, hf, hW⟩
  by_cases hlt : i < l.length ∧ i < 20
  · have hlt1 : (i : Int) < l.length := by omega
    have hlt2 : (i : Int) < 20 := by omega
    have hx : l[i]? = some (l[i]'hlt.1) := List.getElem?_eq_getElem hlt.1
    obtain ⟨t, hxx⟩ : ∃ t, l[i]'hlt.1 = t := ⟨_, rfl⟩
    rw [hxx] at hx
    have hmap := thing_at hx
    have hle := hlen i
    have hput := put_ok σ b t _ σ1 hW (ht t (List.mem_of_getElem? hx)) (by omega)
    unfold thingV at hput
    simp (disch := first | assumption | omega | (simp only [List.length_append]; omega)) only [go_sem, reduceCtorEq, Nat.reduceEqDiff, Nat.reduceAdd, Nat.reduceSub, Nat.reduceMul, Nat.reduceLeDiff, Int.reduceLT, Int.reduceLE, Int.reduceEq, ↓reduceIte, Int.reduceNeg, Int.reduceAdd, Int.reduceSub, Int.reduceMul, true_imp_iff, forall_const, Nat.mul_one, Int.reduceToNat, Nat.reducePow, Int.reducePow, Bool.true_and, Bool.false_and, Bool.and_false, hf, hlt1, hlt2, hmap, ←hF]
    refine hput.mono ?_
    rintro v σ2 ⟨rfl, hW2⟩
    simp (disch := first | assumption | omega | (simp only [List.length_append]; omega)) only [go_sem, reduceCtorEq, Nat.reduceEqDiff, Nat.reduceAdd, Nat.reduceSub, Nat.reduceMul, Nat.reduceLeDiff, Int.reduceLT, Int.reduceLE, Int.reduceEq, ↓reduceIte, Int.reduceNeg, Int.reduceAdd, Int.reduceSub, Int.reduceMul, true_imp_iff, forall_const, Nat.mul_one, Int.reduceToNat, Nat.reducePow, Int.reducePow, Bool.true_and, Bool.false_and, Bool.and_false, hf, ←hF]
    refine ⟨i + 1, by omega, ⟨by omega, by omega⟩, ?_, ?_⟩
    · simp (disch := first | assumption | omega | (simp only [List.length_append]; omega)) only [go_sem, reduceCtorEq, Nat.reduceEqDiff, Nat.reduceAdd, Nat.reduceSub, Nat.reduceMul, Nat.reduceLeDiff, Int.reduceLT, Int.reduceLE, Int.reduceEq, ↓reduceIte, Int.reduceNeg, Int.reduceAdd, Int.reduceSub, Int.reduceMul, true_imp_iff, forall_const, Nat.mul_one, Int.reduceToNat, Nat.reducePow, Int.reducePow, Bool.true_and, Bool.false_and, Bool.and_false, hf]
    · have : putsB (l.take (i + 1)) = putsB (l.take i) ++ putB t := by
        rw [List.take_succ_eq_append_getElem hlt.1, hxx]
        simp [putsB]
      rw [this]; exact hW2
  · have e : putsB (l.take i) = s := by
      rw [← hs]
      rcases Nat.lt_or_ge i 20 with h | h
      · rw [List.take_of_length_le (by omega), List.take_of_length_le (by omega)]
      · rw [show i = 20 by omega]
    rw [e] at hW
    by_cases hlt1 : (i : Int) < l.length
    · have hlt2 : ¬ (i : Int) < 20 := by omega
      simp (disch := first | assumption | omega | (simp only [List.length_append]; omega)) only [go_sem, reduceCtorEq, Nat.reduceEqDiff, Nat.reduceAdd, Nat.reduceSub, Nat.reduceMul, Nat.reduceLeDiff, Int.reduceLT, Int.reduceLE, Int.reduceEq, ↓reduceIte, Int.reduceNeg, Int.reduceAdd, Int.reduceSub, Int.reduceMul, true_imp_iff, forall_const, Nat.mul_one, Int.reduceToNat, Nat.reducePow, Int.reducePow, Bool.true_and, Bool.false_and, Bool.and_false, hf, hlt1, hlt2, ←hF]
      refine back _ b _ ?_ ?_ hW
      · simp (disch := first | assumption | omega | (simp only [List.length_append]; omega)) only [go_sem, reduceCtorEq, Nat.reduceEqDiff, Nat.reduceAdd, Nat.reduceSub, Nat.reduceMul, Nat.reduceLeDiff, Int.reduceLT, Int.reduceLE, Int.reduceEq, ↓reduceIte, Int.reduceNeg, Int.reduceAdd, Int.reduceSub, Int.reduceMul, true_imp_iff, forall_const, Nat.mul_one, Int.reduceToNat, Nat.reducePow, Int.reducePow, Bool.true_and, Bool.false_and, Bool.and_false, hf]
      · simp (disch := first | assumption | omega | (simp only [List.length_append]; omega)) only [go_sem, reduceCtorEq, Nat.reduceEqDiff, Nat.reduceAdd, Nat.reduceSub, Nat.reduceMul, Nat.reduceLeDiff, Int.reduceLT, Int.reduceLE, Int.reduceEq, ↓reduceIte, Int.reduceNeg, Int.reduceAdd, Int.reduceSub, Int.reduceMul, true_imp_iff, forall_const, Nat.mul_one, Int.reduceToNat, Nat.reducePow, Int.reducePow, Bool.true_and, Bool.false_and, Bool.and_false, hf]
    · simp (disch := first | assumption | omega | (simp only [List.length_append]; omega)) only [go_sem, reduceCtorEq, Nat.reduceEqDiff, Nat.reduceAdd, Nat.reduceSub, Nat.reduceMul, Nat.reduceLeDiff, Int.reduceLT, Int.reduceLE, Int.reduceEq, ↓reduceIte, Int.reduceNeg, Int.reduceAdd, Int.reduceSub, Int.reduceMul, true_imp_iff, forall_const, Nat.mul_one, Int.reduceToNat, Nat.reducePow, Int.reducePow, Bool.true_and, Bool.false_and, Bool.and_false, hf, hlt1, ←hF]
      refine back _ b _ ?_ ?_ hW
      · simp (disch := first | assumption | omega | (simp only [List.length_append]; omega)) only [go_sem, reduceCtorEq, Nat.reduceEqDiff, Nat.reduceAdd, Nat.reduceSub, Nat.reduceMul, Nat.reduceLeDiff, Int.reduceLT, Int.reduceLE, Int.reduceEq, ↓reduceIte, Int.reduceNeg, Int.reduceAdd, Int.reduceSub, Int.reduceMul, true_imp_iff, forall_const, Nat.mul_one, Int.reduceToNat, Nat.reducePow, Int.reducePow, Bool.true_and, Bool.false_and, Bool.and_false, hf]
      · simp (disch := first | assumption | omega | (simp only [List.length_append]; omega)) only [go_sem, reduceCtorEq, Nat.reduceEqDiff, Nat.reduceAdd, Nat.reduceSub, Nat.reduceMul, Nat.reduceLeDiff, Int.reduceLT, Int.reduceLE, Int.reduceEq, ↓reduceIte, Int.reduceNeg, Int.reduceAdd, Int.reduceSub, Int.reduceMul, true_imp_iff, forall_const, Nat.mul_one, Int.reduceToNat, Nat.reducePow, Int.reducePow, Bool.true_and, Bool.false_and, Bool.and_false, hf]
end Go.A
