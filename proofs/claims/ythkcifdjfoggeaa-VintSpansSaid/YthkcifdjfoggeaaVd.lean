/- The writer's methods, walked. -/
import Derived.Test.YthkcifdjfoggeaaVc
import Derived.Test.YthkcifdjfoggeaaCodeA
namespace Go.A
open Go.Proofs Go.Vint
set_option maxRecDepth 100000
set_option linter.unusedSimpArgs false
set_option linter.unusedVariables false

/-- A writer that has gathered these bytes. -/
def W (σ0 : ASt) (b : Nat) (l : List UInt8) (σ : ASt) : Prop := ∃ k, Grown (σ0.set b (some (.obj [.sl k (bytesAV l)]))) σ k (bytesAV l).length 1
theorem W.cell {σ0 σ : ASt} {b : Nat} {l : List UInt8} {k : SK} (h : Grown (σ0.set b (some (.obj [.sl k (bytesAV l)]))) σ k (bytesAV l).length 1) : σ b = some (.obj [.sl k (bytesAV l)]) := h.at (ASt.set_same _ _ _)
theorem bytesAV_app (l m : List UInt8) : bytesAV l ++ bytesAV m = bytesAV (l ++ m) := by simp [bytesAV]
theorem bytesAV_one {n : Int} (h0 : 0 ≤ n) (h1 : n < 256) : [AV.int .u8 n] = bytesAV [u8Of n] := by
  have := u8_nat (n := n.toNat) (by omega)
  simp only [bytesAV, u8Of, List.map_cons, List.map_nil, this]
  rw [Int.toNat_of_nonneg h0]
theorem bytes_leaves (l : List UInt8) : leaves ((bytesAV l).flatMap AV.cells) = true := by unfold bytesAV; exact leaves_map (fun _ => rfl) l
theorem bytes_well (l : List UInt8) : wellSz 1 (bytesAV l) = true := by unfold bytesAV; exact wellSz_map (f := fun c : UInt8 => AV.int .u8 c.toNat) (fun _ => ⟨rfl, rfl⟩) l
/-- Bytes are gathered: what is behind an append and its store. -/
theorem W.app {σ0 σ : ASt} {b : Nat} {l m : List UInt8} {k k' : SK} (h : Grown (σ0.set b (some (.obj [.sl k (bytesAV l)]))) σ k' (bytesAV l ++ bytesAV m).length 1) :
    W σ0 b (l ++ m) (σ.set b (some (.obj [.sl k' (bytesAV l ++ bytesAV m)]))) := by
  rw [bytesAV_app] at h ⊢
  exact ⟨k', h.obj⟩
theorem or128 (u : Int) : ((BitVec.ofInt 8 (u % 256) ||| BitVec.ofInt 8 128).toNat : Int) = 128 + u % 128 := by
  have h : IntKind.wrap .u8 ((BitVec.ofInt 8 (u % 256) ||| BitVec.ofInt 8 128).toNat : Int) = 128 + u % 128 := or_128 u
  rwa [IntKind.wrap_u8, Int.emod_eq_of_lt (by omega) (by omega)] at h
theorem fold64 {n : Int} (h1 : -9223372036854775808 ≤ n) (h2 : n ≤ 9223372036854775807) :
    ((BitVec.ofInt 64 (IntKind.wrap .u64 (IntKind.wrap .u64 n * 2)) ^^^ BitVec.ofInt 64 (IntKind.wrap .u64 (n / 9223372036854775808))).toNat : Int) = foldI n := by
  have h : IntKind.wrap .u64 ((BitVec.ofInt 64 (IntKind.wrap .u64 (IntKind.wrap .u64 n * 2)) ^^^ BitVec.ofInt 64 (IntKind.wrap .u64 (n / 9223372036854775808))).toNat : Int) = foldI n := fold_bits n h1 h2
  rwa [IntKind.wrap_u64, Int.emod_eq_of_lt (by omega) (by omega)] at h
theorem appB_by {σ σ0 : ASt} {k k2 : SK} {xs z : List AV} {n m : Int} {K : AV → ASt → Prop} (h : Grown σ0 σ k xs.length 1) (hn : n = m) (h0 : 0 ≤ m) (h1 : m < 256) (hl : xs.length < 4611686018427)
    (hK : ∀ k' σ', Grown σ0 σ' k' (xs ++ bytesAV [u8Of m]).length 1 → K (.sl k' (xs ++ bytesAV [u8Of m])) σ') : appC 1 1 z (.sl k xs) (.sl k2 [.int .u8 n]) σ K := by
  subst hn
  rw [bytesAV_one h0 h1]
  exact appC_by h rfl rfl (by simp [bytesAV]; omega) (by simp [bytesAV]; omega) hK
theorem wrap8 (u : Int) : IntKind.wrap .u8 u = u % 256 := IntKind.wrap_u8 u

theorem wuint_ok (σ0 : ASt) (b : Nat) (u : Int) (l : List UInt8) (σ : ASt) (hW : W σ0 b l σ) (h0 : 0 ≤ u) (h1 : u ≤ 18446744073709551615) (hl : l.length + (uintB u.toNat).length ≤ 1000000) :
    ACalls Try.prog 40 [.ptr b 0, .int .u64 u] σ fun v σ' => v = .tuple [] ∧ W σ0 b (l ++ uintB u.toNat) σ' := by
  obtain ⟨q, hq⟩ : ∃ q, l ++ uintB u.toNat = q := ⟨_, rfl⟩
  have hql : q.length ≤ 1000000 := by rw [← hq]; simpa using hl
  rw [hq]
  refine a40 (by simp) ?_
  simp (disch := first | assumption | omega | (simp only [List.length_append]; omega)) only [go_sem, reduceCtorEq, Nat.reduceEqDiff, Nat.reduceAdd, Nat.reduceSub, Nat.reduceMul, Nat.reduceLeDiff, Int.reduceLT, Int.reduceLE, Int.reduceEq, ↓reduceIte, Int.reduceNeg, Int.reduceAdd, Int.reduceSub, Int.reduceMul, true_imp_iff, forall_const, Nat.mul_one, Int.reduceToNat, Nat.reducePow, Int.reducePow, Bool.true_and, Bool.false_and, Bool.and_false]
  refine wp_loop_on (fun (i : Int × List UInt8) a σ' => (0 ≤ i.1 ∧ i.1 ≤ 18446744073709551615 ∧ i.2 ++ uintB i.1.toNat = q) ∧ (a 0 = .ptr b 0 ∧ a 1 = .int .u64 i.1) ∧ W σ0 b i.2 σ') (fun i => i.1.toNat) (u, l) ⟨⟨h0, h1, hq⟩, ?_, hW⟩ ?_
  · simp (disch := first | assumption | omega | (simp only [List.length_append]; omega)) only [go_sem, reduceCtorEq, Nat.reduceEqDiff, Nat.reduceAdd, Nat.reduceSub, Nat.reduceMul, Nat.reduceLeDiff, Int.reduceLT, Int.reduceLE, Int.reduceEq, ↓reduceIte, Int.reduceNeg, Int.reduceAdd, Int.reduceSub, Int.reduceMul, true_imp_iff, forall_const, Nat.mul_one, Int.reduceToNat, Nat.reducePow, Int.reducePow, Bool.true_and, Bool.false_and, Bool.and_false]
  rintro ⟨u, l⟩ a σ ⟨⟨h0, h1, hq⟩, hf, k, hg⟩
  dsimp only at h0 h1 hq hf hg
  have hb := W.cell hg
  have hll : l.length ≤ 1000000 := by rw [← hq] at hql; simp at hql; omega
  have hll' : (bytesAV l).length ≤ 1000000 := by simpa [bytesAV] using hll
  by_cases hu : 127 < u
  · have hw := wrap8 u
    simp (disch := first | assumption | omega | (simp only [List.length_append]; omega)) only [go_sem, reduceCtorEq, Nat.reduceEqDiff, Nat.reduceAdd, Nat.reduceSub, Nat.reduceMul, Nat.reduceLeDiff, Int.reduceLT, Int.reduceLE, Int.reduceEq, ↓reduceIte, Int.reduceNeg, Int.reduceAdd, Int.reduceSub, Int.reduceMul, true_imp_iff, forall_const, Nat.mul_one, Int.reduceToNat, Nat.reducePow, Int.reducePow, Bool.true_and, Bool.false_and, Bool.and_false, hf, hb, hu, hw]
    refine appB_by hg (or128 u) (by omega) (by omega) (by omega) fun k' σ' hg' => ?_
    have hb' := (hg'.at (ASt.set_same _ _ _))
    simp (disch := first | assumption | omega | (simp only [List.length_append]; omega)) only [go_sem, reduceCtorEq, Nat.reduceEqDiff, Nat.reduceAdd, Nat.reduceSub, Nat.reduceMul, Nat.reduceLeDiff, Int.reduceLT, Int.reduceLE, Int.reduceEq, ↓reduceIte, Int.reduceNeg, Int.reduceAdd, Int.reduceSub, Int.reduceMul, true_imp_iff, forall_const, Nat.mul_one, Int.reduceToNat, Nat.reducePow, Int.reducePow, Bool.true_and, Bool.false_and, Bool.and_false, hf, hb']
    refine ⟨(u / 128, l ++ [u8Of (128 + u % 128)]), by dsimp only; omega, ⟨by dsimp only; omega, by dsimp only; omega, ?_⟩, ?_, W.app hg'⟩
    · dsimp only
      rw [← hq, uintB_j (u := u) (by omega)]
      simp
    · simp (disch := first | assumption | omega | (simp only [List.length_append]; omega)) only [go_sem, reduceCtorEq, Nat.reduceEqDiff, Nat.reduceAdd, Nat.reduceSub, Nat.reduceMul, Nat.reduceLeDiff, Int.reduceLT, Int.reduceLE, Int.reduceEq, ↓reduceIte, Int.reduceNeg, Int.reduceAdd, Int.reduceSub, Int.reduceMul, true_imp_iff, forall_const, Nat.mul_one, Int.reduceToNat, Nat.reducePow, Int.reducePow, Bool.true_and, Bool.false_and, Bool.and_false, hf]
  · have hw := wrap8 u
    have hw2 : u % 256 = u := by omega
    rw [hw2] at hw
    have hu' := uintB_i h0 (by omega)
    rw [hu'] at hq
    subst hq
    simp (disch := first | assumption | omega | (simp only [List.length_append]; omega)) only [go_sem, reduceCtorEq, Nat.reduceEqDiff, Nat.reduceAdd, Nat.reduceSub, Nat.reduceMul, Nat.reduceLeDiff, Int.reduceLT, Int.reduceLE, Int.reduceEq, ↓reduceIte, Int.reduceNeg, Int.reduceAdd, Int.reduceSub, Int.reduceMul, true_imp_iff, forall_const, Nat.mul_one, Int.reduceToNat, Nat.reducePow, Int.reducePow, Bool.true_and, Bool.false_and, Bool.and_false, hf, hb, hu, hw]
    refine appB_by hg rfl (by omega) (by omega) (by omega) fun k' σ' hg' => ?_
    have hb' := (hg'.at (ASt.set_same _ _ _))
    simp (disch := first | assumption | omega | (simp only [List.length_append]; omega)) only [go_sem, reduceCtorEq, Nat.reduceEqDiff, Nat.reduceAdd, Nat.reduceSub, Nat.reduceMul, Nat.reduceLeDiff, Int.reduceLT, Int.reduceLE, Int.reduceEq, ↓reduceIte, Int.reduceNeg, Int.reduceAdd, Int.reduceSub, Int.reduceMul, true_imp_iff, forall_const, Nat.mul_one, Int.reduceToNat, Nat.reducePow, Int.reducePow, Bool.true_and, Bool.false_and, Bool.and_false, hf, hb']
    exact retC_by (Drop.refl _) (.refl _) ⟨rfl, W.app hg'⟩

theorem wint_ok (σ0 : ASt) (b : Nat) (n : Int) (l : List UInt8) (σ : ASt) (hW : W σ0 b l σ) (h1 : -9223372036854775808 ≤ n) (h2 : n ≤ 9223372036854775807) (hl : l.length + 10 ≤ 1000000) :
    ACalls Try.prog 41 [.ptr b 0, .int .i64 n] σ fun v σ' => v = .tuple [] ∧ W σ0 b (l ++ uintB (foldI n).toNat) σ' := by
  refine a41 (by simp) ?_
  obtain ⟨f0, f1⟩ := foldI_bd h1 h2
  simp (disch := first | assumption | omega | (simp only [List.length_append]; omega)) only [go_sem, reduceCtorEq, Nat.reduceEqDiff, Nat.reduceAdd, Nat.reduceSub, Nat.reduceMul, Nat.reduceLeDiff, Int.reduceLT, Int.reduceLE, Int.reduceEq, ↓reduceIte, Int.reduceNeg, Int.reduceAdd, Int.reduceSub, Int.reduceMul, true_imp_iff, forall_const, Nat.mul_one, Int.reduceToNat, Nat.reducePow, Int.reducePow, Bool.true_and, Bool.false_and, Bool.and_false]
  refine ACalls.of_eq (congrArg (fun x => [AV.ptr b 0, AV.int .u64 x]) (fold64 h1 h2)) ?_
  refine (wuint_ok σ0 b (foldI n) l σ hW f0 f1 (by have := uintB_le f1; omega)).mono ?_
  rintro v σ' ⟨rfl, h⟩
  simp (disch := first | assumption | omega | (simp only [List.length_append]; omega)) only [go_sem, reduceCtorEq, Nat.reduceEqDiff, Nat.reduceAdd, Nat.reduceSub, Nat.reduceMul, Nat.reduceLeDiff, Int.reduceLT, Int.reduceLE, Int.reduceEq, ↓reduceIte, Int.reduceNeg, Int.reduceAdd, Int.reduceSub, Int.reduceMul, true_imp_iff, forall_const, Nat.mul_one, Int.reduceToNat, Nat.reducePow, Int.reducePow, Bool.true_and, Bool.false_and, Bool.and_false]
  exact retC_by (Drop.refl _) (.refl _) ⟨rfl, h⟩

theorem wtext_ok (σ0 : ASt) (b : Nat) (s l : List UInt8) (σ : ASt) (hW : W σ0 b l σ) (hl : l.length + 10 + s.length ≤ 1000000) :
    ACalls Try.prog 43 [.ptr b 0, .str s] σ fun v σ' => v = .tuple [] ∧ W σ0 b (l ++ textB s) σ' := by
  refine a43 (by simp) ?_
  simp (disch := first | assumption | omega | (simp only [List.length_append]; omega)) only [go_sem, reduceCtorEq, Nat.reduceEqDiff, Nat.reduceAdd, Nat.reduceSub, Nat.reduceMul, Nat.reduceLeDiff, Int.reduceLT, Int.reduceLE, Int.reduceEq, ↓reduceIte, Int.reduceNeg, Int.reduceAdd, Int.reduceSub, Int.reduceMul, true_imp_iff, forall_const, Nat.mul_one, Int.reduceToNat, Nat.reducePow, Int.reducePow, Bool.true_and, Bool.false_and, Bool.and_false]
  have hu := uintB_le (u := s.length) (by omega)
  rw [Int.toNat_natCast] at hu
  refine (wuint_ok σ0 b s.length l σ hW (by omega) (by omega) (by rw [Int.toNat_natCast]; omega)).mono ?_
  rintro v σ' ⟨rfl, k, hg⟩
  rw [Int.toNat_natCast] at hg
  have hb := W.cell hg
  simp (disch := first | assumption | omega | (simp only [List.length_append]; omega)) only [go_sem, reduceCtorEq, Nat.reduceEqDiff, Nat.reduceAdd, Nat.reduceSub, Nat.reduceMul, Nat.reduceLeDiff, Int.reduceLT, Int.reduceLE, Int.reduceEq, ↓reduceIte, Int.reduceNeg, Int.reduceAdd, Int.reduceSub, Int.reduceMul, true_imp_iff, forall_const, Nat.mul_one, Int.reduceToNat, Nat.reducePow, Int.reducePow, Bool.true_and, Bool.false_and, Bool.and_false, hb]
  have hlen : (bytesAV (l ++ uintB s.length)).length + s.length ≤ 140737488355328 := by simp [bytesAV]; omega
  refine appsC_by hg hlen fun k' σ' hg' => ?_
  have hb' := (hg'.at (ASt.set_same _ _ _))
  simp (disch := first | assumption | omega | (simp only [List.length_append]; omega)) only [go_sem, reduceCtorEq, Nat.reduceEqDiff, Nat.reduceAdd, Nat.reduceSub, Nat.reduceMul, Nat.reduceLeDiff, Int.reduceLT, Int.reduceLE, Int.reduceEq, ↓reduceIte, Int.reduceNeg, Int.reduceAdd, Int.reduceSub, Int.reduceMul, true_imp_iff, forall_const, Nat.mul_one, Int.reduceToNat, Nat.reducePow, Int.reducePow, Bool.true_and, Bool.false_and, Bool.and_false, hb']
  refine retC_by (Drop.refl _) (.refl _) ⟨rfl, ?_⟩
  have : l ++ textB s = (l ++ uintB s.length) ++ s := by simp [textB]
  rw [this]
  refine W.app (k := k) ?_
  rw [List.length_append, bytesAV_length (l := s)]
  exact hg'

theorem wbytes_ok (σ0 : ASt) (b : Nat) (l : List UInt8) (σ : ASt) (hW : W σ0 b l σ) : ACalls Try.prog 12 [.ptr b 0] σ fun v σ' => v = .str l ∧ σ' = σ := by
  obtain ⟨k, hg⟩ := hW
  have hb := W.cell hg
  refine a12 (by simp) ?_
  simp (disch := first | assumption | omega | (simp only [List.length_append]; omega)) only [go_sem, reduceCtorEq, Nat.reduceEqDiff, Nat.reduceAdd, Nat.reduceSub, Nat.reduceMul, Nat.reduceLeDiff, Int.reduceLT, Int.reduceLE, Int.reduceEq, ↓reduceIte, Int.reduceNeg, Int.reduceAdd, Int.reduceSub, Int.reduceMul, true_imp_iff, forall_const, Nat.mul_one, Int.reduceToNat, Nat.reducePow, Int.reducePow, Bool.true_and, Bool.false_and, Bool.and_false, hb]
  exact retC_by (Drop.refl _) (.refl _) ⟨rfl, rfl⟩

/-- Something that is not the writer's comes and goes. -/
theorem W.add {σ0 σ : ASt} {b c : Nat} {l : List UInt8} {r : Role} (h : W σ0 b l σ) (hc : σ c = none) : W (σ0.set c (some r)) b l (σ.set c (some r)) ∧ c ≠ b ∧ σ0 c = none := by
  obtain ⟨k, hg⟩ := h
  have hb := W.cell hg
  have hcb : c ≠ b := by rintro rfl; rw [hb] at hc; cases hc
  have h0 : σ0 c = none := by
    rcases hg with ⟨_, _, rfl⟩ | ⟨t, _, _, rfl⟩
    · rwa [ASt.set_ne hcb] at hc
    · obtain ⟨_, _, hc⟩ := set_none hc
      rwa [ASt.set_ne hcb] at hc
  refine ⟨⟨k, ?_⟩, hcb, h0⟩
  rcases hg with ⟨h1, h2, rfl⟩ | ⟨t, h1, h2, rfl⟩
  · exact .inl ⟨h1, h2, set_swap (Ne.symm hcb)⟩
  · obtain ⟨h3, h4, _⟩ := set_none hc
    obtain ⟨h5, h6, h7⟩ := set_none h2
    refine .inr ⟨t, h1, ?_, ?_⟩
    · rw [ASt.set_ne h5, ASt.set_ne (Ne.symm h3)]; exact h7
    · rw [set_swap h4, set_swap (Ne.symm hcb)]
theorem W.off {σ0 σ : ASt} {b c : Nat} {l : List UInt8} {r : Role} (h : W (σ0.set c (some r)) b l σ) (hcb : c ≠ b) (hc : σ0 c = none) : ∃ σ', Drop σ σ' ∧ W σ0 b l σ' ∧ σ = σ'.set c (some r) := by
  obtain ⟨k, hg⟩ := h
  rcases hg with ⟨h1, h2, rfl⟩ | ⟨t, h1, h2, rfl⟩
  · refine ⟨σ0.set b (some (.obj [.sl k (bytesAV l)])), ?_, ⟨k, .inl ⟨h1, h2, rfl⟩⟩, (set_swap hcb)⟩
    rw [set_swap hcb]
    exact Drop.set (by rw [ASt.set_ne hcb]; exact hc)
  · obtain ⟨h3, h4, h5⟩ := set_none h2
    obtain ⟨h6, h7, h8⟩ := set_none h5
    have e : ((σ0.set c (some r)).set b (some (.obj [.sl k (bytesAV l)]))).set t (some (.tok ((bytesAV l).length * 1))) = ((σ0.set b (some (.obj [.sl k (bytesAV l)]))).set t (some (.tok ((bytesAV l).length * 1)))).set c (some r) := by
      rw [set_swap hcb, set_swap h7]
    refine ⟨(σ0.set b (some (.obj [.sl k (bytesAV l)]))).set t (some (.tok ((bytesAV l).length * 1))), ?_, ⟨k, .inr ⟨t, h1, ?_, rfl⟩⟩, e⟩
    · rw [e]
      exact Drop.set (by rw [ASt.set_ne h7, ASt.set_ne hcb]; exact hc)
    · rw [ASt.set_ne h3]; exact h8

theorem W.role {σ0 σ : ASt} {b c : Nat} {l : List UInt8} {r : Role} (h : W (σ0.set c (some r)) b l σ) (hcb : c ≠ b) : σ c = some r := by
  obtain ⟨k, hg⟩ := h
  exact hg.at (by rw [ASt.set_ne hcb, ASt.set_same])
def u64sAV (L : List Int) : AV := .sl .shr (L.map (AV.int .u64))
theorem wrising_ok (σ0 : ASt) (b : Nat) (L : List Int) (l : List UInt8) (σ : ASt) (hW : W σ0 b l σ) (hL : Rises L) (hn : L.length ≤ 1000) (hl : l.length + 10 + 10 * L.length ≤ 900000) :
    ACalls Try.prog 45 [.ptr b 0, u64sAV L] σ fun v σ' => v = .tuple [] ∧ W σ0 b (l ++ risingB L) σ' := by
  refine a45 (by simp) ?_
  have hu := uintB_le (u := L.length) (by omega)
  rw [Int.toNat_natCast] at hu
  have hgl := gaps_length L
  have hgb := gaps_bd hL
  simp (disch := first | assumption | omega | (simp only [List.length_append]; omega)) only [go_sem, reduceCtorEq, Nat.reduceEqDiff, Nat.reduceAdd, Nat.reduceSub, Nat.reduceMul, Nat.reduceLeDiff, Int.reduceLT, Int.reduceLE, Int.reduceEq, ↓reduceIte, Int.reduceNeg, Int.reduceAdd, Int.reduceSub, Int.reduceMul, true_imp_iff, forall_const, Nat.mul_one, Int.reduceToNat, Nat.reducePow, Int.reducePow, Bool.true_and, Bool.false_and, Bool.and_false, u64sAV]
  refine (wuint_ok σ0 b L.length l σ hW (by omega) (by omega) (by rw [Int.toNat_natCast]; omega)).mono ?_
  rintro v σ1 ⟨rfl, hW1⟩
  rw [Int.toNat_natCast] at hW1
  simp (disch := first | assumption | omega | (simp only [List.length_append]; omega)) only [go_sem, reduceCtorEq, Nat.reduceEqDiff, Nat.reduceAdd, Nat.reduceSub, Nat.reduceMul, Nat.reduceLeDiff, Int.reduceLT, Int.reduceLE, Int.reduceEq, ↓reduceIte, Int.reduceNeg, Int.reduceAdd, Int.reduceSub, Int.reduceMul, true_imp_iff, forall_const, Nat.mul_one, Int.reduceToNat, Nat.reducePow, Int.reducePow, Bool.true_and, Bool.false_and, Bool.and_false]
  have hnl : ∀ i, (numsB ((gaps L).take i)).length ≤ 10 * L.length := fun i => by
    have := numsB_len ((gaps L).take i) (fun x hx => hgb x (List.mem_of_mem_take hx))
    simp at this
    omega
  refine wp_loop_on (fun (i : Nat) a σ' => i ≤ L.length ∧ (a 0 = .ptr b 0 ∧ a 1 = .sl .shr (L.map (AV.int .u64)) ∧ a 11 = .sl .shr (L.map (AV.int .u64)) ∧ a 12 = .int .i64 L.length ∧ a 13 = .int .i64 i) ∧ W σ0 b (l ++ uintB L.length ++ numsB ((gaps L).take i)) σ')
    (fun i => L.length - i) 0 ⟨Nat.zero_le _, ?_, by simpa [numsB] using hW1⟩ ?_
  · simp (disch := first | assumption | omega | (simp only [List.length_append]; omega)) only [go_sem, reduceCtorEq, Nat.reduceEqDiff, Nat.reduceAdd, Nat.reduceSub, Nat.reduceMul, Nat.reduceLeDiff, Int.reduceLT, Int.reduceLE, Int.reduceEq, ↓reduceIte, Int.reduceNeg, Int.reduceAdd, Int.reduceSub, Int.reduceMul, true_imp_iff, forall_const, Nat.mul_one, Int.reduceToNat, Nat.reducePow, Int.reducePow, Bool.true_and, Bool.false_and, Bool.and_false]
  rintro i a σ ⟨hi, hf, hW⟩
  have hni := hnl i
  by_cases hlt : i < L.length
  · have hlt' : (i : Int) < L.length := by omega
    have hidx : L[i]? = some (L[i]'hlt) := List.getElem?_eq_getElem hlt
    obtain ⟨x, hx⟩ : ∃ x, L[i]'hlt = x := ⟨_, rfl⟩
    rw [hx] at hidx
    obtain ⟨x0, x1⟩ := hL.at_ hidx
    have hbx := uintB_le x1
    have hmap : (L.map (AV.int .u64))[i]? = some (.int .u64 x) := by rw [List.getElem?_map, hidx]; rfl
    by_cases hi0 : i = 0
    · subst hi0
      have hz : ((0 : Nat) : Int) = 0 := rfl
      simp (disch := first | assumption | omega | (simp only [List.length_append]; omega)) only [go_sem, reduceCtorEq, Nat.reduceEqDiff, Nat.reduceAdd, Nat.reduceSub, Nat.reduceMul, Nat.reduceLeDiff, Int.reduceLT, Int.reduceLE, Int.reduceEq, ↓reduceIte, Int.reduceNeg, Int.reduceAdd, Int.reduceSub, Int.reduceMul, true_imp_iff, forall_const, Nat.mul_one, Int.reduceToNat, Nat.reducePow, Int.reducePow, Bool.true_and, Bool.false_and, Bool.and_false, hf, hlt', hmap, hz]
      refine (wuint_ok σ0 b x _ σ hW x0 x1 (by simp only [List.length_append]; omega)).mono ?_
      rintro v σ1 ⟨rfl, hW1⟩
      simp (disch := first | assumption | omega | (simp only [List.length_append]; omega)) only [go_sem, reduceCtorEq, Nat.reduceEqDiff, Nat.reduceAdd, Nat.reduceSub, Nat.reduceMul, Nat.reduceLeDiff, Int.reduceLT, Int.reduceLE, Int.reduceEq, ↓reduceIte, Int.reduceNeg, Int.reduceAdd, Int.reduceSub, Int.reduceMul, true_imp_iff, forall_const, Nat.mul_one, Int.reduceToNat, Nat.reducePow, Int.reducePow, Bool.true_and, Bool.false_and, Bool.and_false, hf]
      refine ⟨0 + 1, by omega, by omega, ?_, ?_⟩
      · simp (disch := first | assumption | omega | (simp only [List.length_append]; omega)) only [go_sem, reduceCtorEq, Nat.reduceEqDiff, Nat.reduceAdd, Nat.reduceSub, Nat.reduceMul, Nat.reduceLeDiff, Int.reduceLT, Int.reduceLE, Int.reduceEq, ↓reduceIte, Int.reduceNeg, Int.reduceAdd, Int.reduceSub, Int.reduceMul, true_imp_iff, forall_const, Nat.mul_one, Int.reduceToNat, Nat.reducePow, Int.reducePow, Bool.true_and, Bool.false_and, Bool.and_false, hf]
      · rw [numsB_snoc (gaps_zero hidx), ← List.append_assoc]; exact hW1
    · obtain ⟨j, hji⟩ : ∃ j, i = j + 1 := ⟨i - 1, by omega⟩
      have hj : L[j]? = some (L[j]'(by omega)) := List.getElem?_eq_getElem (by omega)
      obtain ⟨y, hy⟩ : ∃ y, L[j]'(by omega) = y := ⟨_, rfl⟩
      rw [hy] at hj
      obtain ⟨y0, y1⟩ := hL.at_ hj
      have hxy := hL.2 j y x hj (hji ▸ hidx)
      have hbx' := uintB_le (u := x - y - 1) (by omega)
      have hmapj : (L.map (AV.int .u64))[j]? = some (.int .u64 y) := by rw [List.getElem?_map, hj]; rfl
      have hnz : ¬ (i : Int) = 0 := by omega
      have hsub : (i : Int) - 1 = j := by omega
      simp (disch := first | assumption | omega | (simp only [List.length_append]; omega)) only [go_sem, reduceCtorEq, Nat.reduceEqDiff, Nat.reduceAdd, Nat.reduceSub, Nat.reduceMul, Nat.reduceLeDiff, Int.reduceLT, Int.reduceLE, Int.reduceEq, ↓reduceIte, Int.reduceNeg, Int.reduceAdd, Int.reduceSub, Int.reduceMul, true_imp_iff, forall_const, Nat.mul_one, Int.reduceToNat, Nat.reducePow, Int.reducePow, Bool.true_and, Bool.false_and, Bool.and_false, hf, hlt', hmap, hnz, hsub, hmapj]
      refine (wuint_ok σ0 b (x - y - 1) _ σ hW (by omega) (by omega) (by simp only [List.length_append]; omega)).mono ?_
      rintro v σ1 ⟨rfl, hW1⟩
      simp (disch := first | assumption | omega | (simp only [List.length_append]; omega)) only [go_sem, reduceCtorEq, Nat.reduceEqDiff, Nat.reduceAdd, Nat.reduceSub, Nat.reduceMul, Nat.reduceLeDiff, Int.reduceLT, Int.reduceLE, Int.reduceEq, ↓reduceIte, Int.reduceNeg, Int.reduceAdd, Int.reduceSub, Int.reduceMul, true_imp_iff, forall_const, Nat.mul_one, Int.reduceToNat, Nat.reducePow, Int.reducePow, Bool.true_and, Bool.false_and, Bool.and_false, hf]
      refine ⟨i + 1, by omega, by omega, ?_, ?_⟩
      · simp (disch := first | assumption | omega | (simp only [List.length_append]; omega)) only [go_sem, reduceCtorEq, Nat.reduceEqDiff, Nat.reduceAdd, Nat.reduceSub, Nat.reduceMul, Nat.reduceLeDiff, Int.reduceLT, Int.reduceLE, Int.reduceEq, ↓reduceIte, Int.reduceNeg, Int.reduceAdd, Int.reduceSub, Int.reduceMul, true_imp_iff, forall_const, Nat.mul_one, Int.reduceToNat, Nat.reducePow, Int.reducePow, Bool.true_and, Bool.false_and, Bool.and_false, hf]
      · have := numsB_snoc (gaps_succ hj (hji ▸ hidx))
        rw [hji, this, ← List.append_assoc, ← hji]; exact hW1
  · have hlt' : ¬ (i : Int) < L.length := by omega
    have e : (gaps L).take i = gaps L := List.take_of_length_le (by omega)
    rw [e, List.append_assoc] at hW
    simp (disch := first | assumption | omega | (simp only [List.length_append]; omega)) only [go_sem, reduceCtorEq, Nat.reduceEqDiff, Nat.reduceAdd, Nat.reduceSub, Nat.reduceMul, Nat.reduceLeDiff, Int.reduceLT, Int.reduceLE, Int.reduceEq, ↓reduceIte, Int.reduceNeg, Int.reduceAdd, Int.reduceSub, Int.reduceMul, true_imp_iff, forall_const, Nat.mul_one, Int.reduceToNat, Nat.reducePow, Int.reducePow, Bool.true_and, Bool.false_and, Bool.and_false, hf, hlt']
    exact retC_by (Drop.refl _) (.refl _) ⟨rfl, hW⟩

def spanV (p : Int × Int) : AV := .agg [.int .u64 p.1, .int .u64 p.2]
def spansV (L : List (Int × Int)) : AV := .sl .shr (L.map spanV)
theorem wspans_ok (σ0 : ASt) (b : Nat) (L : List (Int × Int)) (l : List UInt8) (σ : ASt) (hW : W σ0 b l σ) (hL : Rises (flat L)) (hn : L.length ≤ 1000) (hl : l.length + 10 + 20 * L.length ≤ 900000) :
    ACalls Try.prog 46 [.ptr b 0, spansV L] σ fun v σ' => v = .tuple [] ∧ W σ0 b (l ++ spansB L) σ' := by
  refine a46 (by simp) ?_
  have hu := uintB_le (u := L.length) (by omega)
  rw [Int.toNat_natCast] at hu
  have hfl := flat_length L
  have hgl := gaps_length (flat L)
  have hgb := gaps_bd hL
  simp (disch := first | assumption | omega | (simp only [List.length_append]; omega)) only [go_sem, reduceCtorEq, Nat.reduceEqDiff, Nat.reduceAdd, Nat.reduceSub, Nat.reduceMul, Nat.reduceLeDiff, Int.reduceLT, Int.reduceLE, Int.reduceEq, ↓reduceIte, Int.reduceNeg, Int.reduceAdd, Int.reduceSub, Int.reduceMul, true_imp_iff, forall_const, Nat.mul_one, Int.reduceToNat, Nat.reducePow, Int.reducePow, Bool.true_and, Bool.false_and, Bool.and_false, spansV]
  refine (wuint_ok σ0 b L.length l σ hW (by omega) (by omega) (by rw [Int.toNat_natCast]; omega)).mono ?_
  rintro v σ1 ⟨rfl, hW1⟩
  rw [Int.toNat_natCast] at hW1
  simp (disch := first | assumption | omega | (simp only [List.length_append]; omega)) only [go_sem, reduceCtorEq, Nat.reduceEqDiff, Nat.reduceAdd, Nat.reduceSub, Nat.reduceMul, Nat.reduceLeDiff, Int.reduceLT, Int.reduceLE, Int.reduceEq, ↓reduceIte, Int.reduceNeg, Int.reduceAdd, Int.reduceSub, Int.reduceMul, true_imp_iff, forall_const, Nat.mul_one, Int.reduceToNat, Nat.reducePow, Int.reducePow, Bool.true_and, Bool.false_and, Bool.and_false]
  have hnl : ∀ i, (numsB ((gaps (flat L)).take i)).length ≤ 20 * L.length := fun i => by
    have := numsB_len ((gaps (flat L)).take i) (fun x hx => hgb x (List.mem_of_mem_take hx))
    simp only [List.length_take] at this
    omega
  refine wp_loop_by (fun (i : Nat × Int) a σ' => (i.1 ≤ L.length ∧ EndOf L i.1 i.2) ∧ (a 0 = .ptr b 0 ∧ a 4 = .int .u64 i.2 ∧ a 12 = .sl .shr (L.map spanV) ∧ a 13 = .int .i64 L.length ∧ a 14 = .int .i64 i.1) ∧ W σ0 b (l ++ uintB L.length ++ numsB ((gaps (flat L)).take (i.1 * 2))) σ')
    (fun i => L.length - i.1) (0, 0) (Dr.now ⟨⟨Nat.zero_le _, .inl ⟨rfl, rfl⟩⟩, ?_, by simpa [numsB] using hW1⟩) ?_
  · simp (disch := first | assumption | omega | (simp only [List.length_append]; omega)) only [go_sem, reduceCtorEq, Nat.reduceEqDiff, Nat.reduceAdd, Nat.reduceSub, Nat.reduceMul, Nat.reduceLeDiff, Int.reduceLT, Int.reduceLE, Int.reduceEq, ↓reduceIte, Int.reduceNeg, Int.reduceAdd, Int.reduceSub, Int.reduceMul, true_imp_iff, forall_const, Nat.mul_one, Int.reduceToNat, Nat.reducePow, Int.reducePow, Bool.true_and, Bool.false_and, Bool.and_false]
  rintro ⟨i, e⟩ a σ ⟨⟨hi, hend⟩, hf, hW⟩
  dsimp only at hi hend hf hW
  have hni := hnl (i * 2)
  by_cases hlt : i < L.length
  · have hlt' : (i : Int) < L.length := by omega
    have hidx : L[i]? = some (L[i]'hlt) := List.getElem?_eq_getElem hlt
    obtain ⟨x, hx⟩ : ∃ x, L[i]'hlt = x := ⟨_, rfl⟩
    rw [hx] at hidx
    obtain ⟨x0, x1, x2⟩ := flat_at hL hidx
    have hb1 := uintB_le (u := x.1) (by omega)
    have hb2 := uintB_le (u := x.2 - x.1 - 1) (by omega)
    have hmap : (L.map spanV)[i]? = some (.agg [.int .u64 x.1, .int .u64 x.2]) := by rw [List.getElem?_map, hidx]; rfl
    rcases hend with ⟨rfl, rfl⟩ | ⟨j, p, hji, hj, rfl⟩
    · have hz : ((0 : Nat) : Int) = 0 := rfl
      simp (disch := first | assumption | omega | (simp only [List.length_append]; omega)) only [go_sem, reduceCtorEq, Nat.reduceEqDiff, Nat.reduceAdd, Nat.reduceSub, Nat.reduceMul, Nat.reduceLeDiff, Int.reduceLT, Int.reduceLE, Int.reduceEq, ↓reduceIte, Int.reduceNeg, Int.reduceAdd, Int.reduceSub, Int.reduceMul, true_imp_iff, forall_const, Nat.mul_one, Int.reduceToNat, Nat.reducePow, Int.reducePow, Bool.true_and, Bool.false_and, Bool.and_false, hf, hlt', hmap, hz]
      refine allocC_by fun c hc => ?_
      obtain ⟨hWa, hcb, hc0⟩ := hW.add hc (r := .obj [.int .u64 x.1, .int .u64 x.2])
      simp (disch := first | assumption | omega | (simp only [List.length_append]; omega)) only [go_sem, reduceCtorEq, Nat.reduceEqDiff, Nat.reduceAdd, Nat.reduceSub, Nat.reduceMul, Nat.reduceLeDiff, Int.reduceLT, Int.reduceLE, Int.reduceEq, ↓reduceIte, Int.reduceNeg, Int.reduceAdd, Int.reduceSub, Int.reduceMul, true_imp_iff, forall_const, Nat.mul_one, Int.reduceToNat, Nat.reducePow, Int.reducePow, Bool.true_and, Bool.false_and, Bool.and_false, hf]
      refine (wuint_ok _ b x.1 _ _ hWa x0 (by omega) (by simp only [List.length_append]; omega)).mono ?_
      rintro v σ1 ⟨rfl, hW1⟩
      have hc1 := hW1.role hcb
      simp (disch := first | assumption | omega | (simp only [List.length_append]; omega)) only [go_sem, reduceCtorEq, Nat.reduceEqDiff, Nat.reduceAdd, Nat.reduceSub, Nat.reduceMul, Nat.reduceLeDiff, Int.reduceLT, Int.reduceLE, Int.reduceEq, ↓reduceIte, Int.reduceNeg, Int.reduceAdd, Int.reduceSub, Int.reduceMul, true_imp_iff, forall_const, Nat.mul_one, Int.reduceToNat, Nat.reducePow, Int.reducePow, Bool.true_and, Bool.false_and, Bool.and_false, hf, hc1]
      refine (wuint_ok _ b (x.2 - x.1 - 1) _ _ hW1 (by omega) (by omega) (by simp only [List.length_append]; omega)).mono ?_
      rintro v σ2 ⟨rfl, hW2⟩
      have hc2 := hW2.role hcb
      simp (disch := first | assumption | omega | (simp only [List.length_append]; omega)) only [go_sem, reduceCtorEq, Nat.reduceEqDiff, Nat.reduceAdd, Nat.reduceSub, Nat.reduceMul, Nat.reduceLeDiff, Int.reduceLT, Int.reduceLE, Int.reduceEq, ↓reduceIte, Int.reduceNeg, Int.reduceAdd, Int.reduceSub, Int.reduceMul, true_imp_iff, forall_const, Nat.mul_one, Int.reduceToNat, Nat.reducePow, Int.reducePow, Bool.true_and, Bool.false_and, Bool.and_false, hf, hc2]
      obtain ⟨σ3, hd, hW3, _⟩ := hW2.off hcb hc0
      refine ⟨(0 + 1, x.2), by dsimp only; omega, Dr.drop hd ⟨⟨by dsimp only; omega, .inr ⟨0, x, rfl, hidx, rfl⟩⟩, ?_, ?_⟩⟩
      · simp (disch := first | assumption | omega | (simp only [List.length_append]; omega)) only [go_sem, reduceCtorEq, Nat.reduceEqDiff, Nat.reduceAdd, Nat.reduceSub, Nat.reduceMul, Nat.reduceLeDiff, Int.reduceLT, Int.reduceLE, Int.reduceEq, ↓reduceIte, Int.reduceNeg, Int.reduceAdd, Int.reduceSub, Int.reduceMul, true_imp_iff, forall_const, Nat.mul_one, Int.reduceToNat, Nat.reducePow, Int.reducePow, Bool.true_and, Bool.false_and, Bool.and_false, hf]
      · dsimp only
        rw [spans_zero hidx, ← List.append_assoc, ← List.append_assoc]; exact hW3
    · have hnz : ¬ (i : Int) = 0 := by omega
      have hlp := flat_next hL hj (hji ▸ hidx)
      obtain ⟨p0, p1, p2⟩ := flat_at hL hj
      have hb3 := uintB_le (u := x.1 - p.2 - 1) (by omega)
      simp (disch := first | assumption | omega | (simp only [List.length_append]; omega)) only [go_sem, reduceCtorEq, Nat.reduceEqDiff, Nat.reduceAdd, Nat.reduceSub, Nat.reduceMul, Nat.reduceLeDiff, Int.reduceLT, Int.reduceLE, Int.reduceEq, ↓reduceIte, Int.reduceNeg, Int.reduceAdd, Int.reduceSub, Int.reduceMul, true_imp_iff, forall_const, Nat.mul_one, Int.reduceToNat, Nat.reducePow, Int.reducePow, Bool.true_and, Bool.false_and, Bool.and_false, hf, hlt', hmap, hnz]
      refine allocC_by fun c hc => ?_
      obtain ⟨hWa, hcb, hc0⟩ := hW.add hc (r := .obj [.int .u64 x.1, .int .u64 x.2])
      simp (disch := first | assumption | omega | (simp only [List.length_append]; omega)) only [go_sem, reduceCtorEq, Nat.reduceEqDiff, Nat.reduceAdd, Nat.reduceSub, Nat.reduceMul, Nat.reduceLeDiff, Int.reduceLT, Int.reduceLE, Int.reduceEq, ↓reduceIte, Int.reduceNeg, Int.reduceAdd, Int.reduceSub, Int.reduceMul, true_imp_iff, forall_const, Nat.mul_one, Int.reduceToNat, Nat.reducePow, Int.reducePow, Bool.true_and, Bool.false_and, Bool.and_false, hf, hnz]
      refine (wuint_ok _ b (x.1 - p.2 - 1) _ _ hWa (by omega) (by omega) (by simp only [List.length_append]; omega)).mono ?_
      rintro v σ1 ⟨rfl, hW1⟩
      have hc1 := hW1.role hcb
      simp (disch := first | assumption | omega | (simp only [List.length_append]; omega)) only [go_sem, reduceCtorEq, Nat.reduceEqDiff, Nat.reduceAdd, Nat.reduceSub, Nat.reduceMul, Nat.reduceLeDiff, Int.reduceLT, Int.reduceLE, Int.reduceEq, ↓reduceIte, Int.reduceNeg, Int.reduceAdd, Int.reduceSub, Int.reduceMul, true_imp_iff, forall_const, Nat.mul_one, Int.reduceToNat, Nat.reducePow, Int.reducePow, Bool.true_and, Bool.false_and, Bool.and_false, hf, hc1]
      refine (wuint_ok _ b (x.2 - x.1 - 1) _ _ hW1 (by omega) (by omega) (by simp only [List.length_append]; omega)).mono ?_
      rintro v σ2 ⟨rfl, hW2⟩
      have hc2 := hW2.role hcb
      simp (disch := first | assumption | omega | (simp only [List.length_append]; omega)) only [go_sem, reduceCtorEq, Nat.reduceEqDiff, Nat.reduceAdd, Nat.reduceSub, Nat.reduceMul, Nat.reduceLeDiff, Int.reduceLT, Int.reduceLE, Int.reduceEq, ↓reduceIte, Int.reduceNeg, Int.reduceAdd, Int.reduceSub, Int.reduceMul, true_imp_iff, forall_const, Nat.mul_one, Int.reduceToNat, Nat.reducePow, Int.reducePow, Bool.true_and, Bool.false_and, Bool.and_false, hf, hc2]
      obtain ⟨σ3, hd, hW3, _⟩ := hW2.off hcb hc0
      refine ⟨(i + 1, x.2), by dsimp only; omega, Dr.drop hd ⟨⟨by dsimp only; omega, .inr ⟨i, x, rfl, hidx, rfl⟩⟩, ?_, ?_⟩⟩
      · simp (disch := first | assumption | omega | (simp only [List.length_append]; omega)) only [go_sem, reduceCtorEq, Nat.reduceEqDiff, Nat.reduceAdd, Nat.reduceSub, Nat.reduceMul, Nat.reduceLeDiff, Int.reduceLT, Int.reduceLE, Int.reduceEq, ↓reduceIte, Int.reduceNeg, Int.reduceAdd, Int.reduceSub, Int.reduceMul, true_imp_iff, forall_const, Nat.mul_one, Int.reduceToNat, Nat.reducePow, Int.reducePow, Bool.true_and, Bool.false_and, Bool.and_false, hf]
      · dsimp only
        have := spans_succ hj (hji ▸ hidx)
        rw [hji, this, ← List.append_assoc, ← List.append_assoc, ← hji]; exact hW3
  · have hlt' : ¬ (i : Int) < L.length := by omega
    have e : (gaps (flat L)).take (i * 2) = gaps (flat L) := List.take_of_length_le (by omega)
    rw [e, List.append_assoc] at hW
    simp (disch := first | assumption | omega | (simp only [List.length_append]; omega)) only [go_sem, reduceCtorEq, Nat.reduceEqDiff, Nat.reduceAdd, Nat.reduceSub, Nat.reduceMul, Nat.reduceLeDiff, Int.reduceLT, Int.reduceLE, Int.reduceEq, ↓reduceIte, Int.reduceNeg, Int.reduceAdd, Int.reduceSub, Int.reduceMul, true_imp_iff, forall_const, Nat.mul_one, Int.reduceToNat, Nat.reducePow, Int.reducePow, Bool.true_and, Bool.false_and, Bool.and_false, hf, hlt']
    exact retC_by (Drop.refl _) (.refl _) ⟨rfl, hW⟩
end Go.A
