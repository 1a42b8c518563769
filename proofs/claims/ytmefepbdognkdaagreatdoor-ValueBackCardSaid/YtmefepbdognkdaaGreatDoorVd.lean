/- The writer's methods, walked. -/
import Derived.Test.YtmefepbdognkdaaGreatDoorVc
import Derived.Test.YtmefepbdognkdaaGreatDoorCodeVd
namespace Go.A
open Go.Proofs Go.Vint
set_option maxRecDepth 100000
set_option linter.unusedSimpArgs false
set_option linter.unusedVariables false

/-- A writer that has gathered these bytes. -/
def W (σ0 : ASt) (b : Nat) (l : List UInt8) (σ : ASt) : Prop := ∃ k, Grown (σ0.set b (some (.obj [.sl k (bytesAV l)]))) σ k (bytesAV l).length 1
theorem W.cell {σ0 σ : ASt} {b : Nat} {l : List UInt8} {k : SK} (h : Grown (σ0.set b (some (.obj [.sl k (bytesAV l)]))) σ k (bytesAV l).length 1) : σ b = some (.obj [.sl k (bytesAV l)]) := h.at (ASt.set_same _ _ _)
theorem vb_app (l m : List UInt8) : bytesAV l ++ bytesAV m = bytesAV (l ++ m) := by simp [bytesAV]
theorem bytesAV_one {n : Int} (h0 : 0 ≤ n) (h1 : n < 256) : [AV.int .u8 n] = bytesAV [u8Of n] := by
  have := u8_nat (n := n.toNat) (by omega)
  simp only [bytesAV, u8Of, List.map_cons, List.map_nil, this]
  rw [Int.toNat_of_nonneg h0]
theorem vb_leaves (l : List UInt8) : leaves ((bytesAV l).flatMap AV.cells) = true := by unfold bytesAV; exact leaves_map (fun _ => rfl) l
theorem vb_well (l : List UInt8) : wellSz 1 (bytesAV l) = true := by unfold bytesAV; exact wellSz_map (f := fun c : UInt8 => AV.int .u8 c.toNat) (fun _ => ⟨rfl, rfl⟩) l
/-- Bytes are gathered: what is behind an append and its store. -/
theorem W.app {σ0 σ : ASt} {b : Nat} {l m : List UInt8} {k k' : SK} (h : Grown (σ0.set b (some (.obj [.sl k (bytesAV l)]))) σ k' (bytesAV l ++ bytesAV m).length 1) :
    W σ0 b (l ++ m) (σ.set b (some (.obj [.sl k' (bytesAV l ++ bytesAV m)]))) := by
  rw [vb_app] at h ⊢
  exact ⟨k', h.obj⟩
theorem or128 (u : Int) : ((BitVec.ofInt 8 (u % 256) ||| BitVec.ofInt 8 128).toNat : Int) = 128 + u % 128 := by
  have h : IntKind.wrap .u8 ((BitVec.ofInt 8 (u % 256) ||| BitVec.ofInt 8 128).toNat : Int) = 128 + u % 128 := or_128 u
  rwa [IntKind.wrap_u8, Int.emod_eq_of_lt (by omega) (by omega)] at h
theorem fold64 {n : Int} (h1 : -9223372036854775808 ≤ n) (h2 : n ≤ 9223372036854775807) :
    ((BitVec.ofInt 64 (IntKind.wrap .u64 (IntKind.wrap .u64 n * 2)) ^^^ BitVec.ofInt 64 (IntKind.wrap .u64 (n / 9223372036854775808))).toNat : Int) = foldI n := by
  have h : IntKind.wrap .u64 ((BitVec.ofInt 64 (IntKind.wrap .u64 (IntKind.wrap .u64 n * 2)) ^^^ BitVec.ofInt 64 (IntKind.wrap .u64 (n / 9223372036854775808))).toNat : Int) = foldI n := fold_bits n h1 h2
  rwa [IntKind.wrap_u64, Int.emod_eq_of_lt (by omega) (by omega)] at h
theorem vappB {T : TypeId} {σ σ0 : ASt} {k k2 : SK} {xs z : List AV} {n m : Int} {K : AV → ASt → Prop} (h : Grown σ0 σ k xs.length 1) (hn : n = m) (h0 : 0 ≤ m) (h1 : m < 256) (hl : xs.length < 4611686018427)
    (hK : ∀ k' σ', Grown σ0 σ' k' (xs ++ bytesAV [u8Of m]).length 1 → K (.sl k' (xs ++ bytesAV [u8Of m])) σ') : appC T 1 1 z (.sl k xs) (.sl k2 [.int .u8 n]) σ K := by
  subst hn
  rw [bytesAV_one h0 h1]
  exact appC_by h rfl rfl (by simp [bytesAV]; omega) (by simp [bytesAV]; omega) hK
theorem wrap8 (u : Int) : IntKind.wrap .u8 u = u % 256 := IntKind.wrap_u8 u

theorem wuint_ok (σ0 : ASt) (b : Nat) (u : Int) (l : List UInt8) (σ : ASt) (hW : W σ0 b l σ) (h0 : 0 ≤ u) (h1 : u ≤ 18446744073709551615) (hl : l.length + (uintB u.toNat).length ≤ 1000000) :
    ACalls Tryz.prog 103 [.ptr b 0, .int .u64 u] σ fun v σ' => v = .tuple [] ∧ W σ0 b (l ++ uintB u.toNat) σ' := by
  obtain ⟨q, hq⟩ : ∃ q, l ++ uintB u.toNat = q := ⟨_, rfl⟩
  have hql : q.length ≤ 1000000 := by rw [← hq]; simpa using hl
  rw [hq]
  refine a103 (by simp) ?_
  simp (disch := first | assumption | omega | (simp only [List.length_append, List.length_cons, List.length_nil]; omega)) only [go_sem, reduceCtorEq, Nat.reduceEqDiff, Nat.reduceAdd, Nat.reduceSub, Nat.reduceMul, Nat.reduceLeDiff, Int.reduceLT, Int.reduceLE, Int.reduceEq, ↓reduceIte, Int.reduceNeg, Int.reduceAdd, Int.reduceSub, Int.reduceMul, true_imp_iff, forall_const, Nat.mul_one, Int.reduceToNat, Nat.reducePow, Int.reducePow, Bool.true_and, Bool.false_and, Bool.and_false]
  refine wp_loop_on (fun (i : Int × List UInt8) a σ' => (0 ≤ i.1 ∧ i.1 ≤ 18446744073709551615 ∧ i.2 ++ uintB i.1.toNat = q) ∧ (a 0 = .ptr b 0 ∧ a 1 = .int .u64 i.1) ∧ W σ0 b i.2 σ') (fun i => i.1.toNat) (u, l) ⟨⟨h0, h1, hq⟩, ?_, hW⟩ ?_
  · simp (disch := first | assumption | omega | (simp only [List.length_append, List.length_cons, List.length_nil]; omega)) only [go_sem, reduceCtorEq, Nat.reduceEqDiff, Nat.reduceAdd, Nat.reduceSub, Nat.reduceMul, Nat.reduceLeDiff, Int.reduceLT, Int.reduceLE, Int.reduceEq, ↓reduceIte, Int.reduceNeg, Int.reduceAdd, Int.reduceSub, Int.reduceMul, true_imp_iff, forall_const, Nat.mul_one, Int.reduceToNat, Nat.reducePow, Int.reducePow, Bool.true_and, Bool.false_and, Bool.and_false]
  rintro ⟨u, l⟩ a σ ⟨⟨h0, h1, hq⟩, hf, k, hg⟩
  dsimp only at h0 h1 hq hf hg
  have hb := W.cell hg
  have hll : l.length ≤ 1000000 := by rw [← hq] at hql; simp at hql; omega
  have hll' : (bytesAV l).length ≤ 1000000 := by simpa [bytesAV] using hll
  by_cases hu : 127 < u
  · have hw := wrap8 u
    simp (disch := first | assumption | omega | (simp only [List.length_append, List.length_cons, List.length_nil]; omega)) only [go_sem, reduceCtorEq, Nat.reduceEqDiff, Nat.reduceAdd, Nat.reduceSub, Nat.reduceMul, Nat.reduceLeDiff, Int.reduceLT, Int.reduceLE, Int.reduceEq, ↓reduceIte, Int.reduceNeg, Int.reduceAdd, Int.reduceSub, Int.reduceMul, true_imp_iff, forall_const, Nat.mul_one, Int.reduceToNat, Nat.reducePow, Int.reducePow, Bool.true_and, Bool.false_and, Bool.and_false, hf, hb, hu, hw]
    refine vappB hg (or128 u) (by omega) (by omega) (by omega) fun k' σ' hg' => ?_
    have hb' := (hg'.at (ASt.set_same _ _ _))
    simp (disch := first | assumption | omega | (simp only [List.length_append, List.length_cons, List.length_nil]; omega)) only [go_sem, reduceCtorEq, Nat.reduceEqDiff, Nat.reduceAdd, Nat.reduceSub, Nat.reduceMul, Nat.reduceLeDiff, Int.reduceLT, Int.reduceLE, Int.reduceEq, ↓reduceIte, Int.reduceNeg, Int.reduceAdd, Int.reduceSub, Int.reduceMul, true_imp_iff, forall_const, Nat.mul_one, Int.reduceToNat, Nat.reducePow, Int.reducePow, Bool.true_and, Bool.false_and, Bool.and_false, hf, hb']
    refine ⟨(u / 128, l ++ [u8Of (128 + u % 128)]), by dsimp only; omega, ⟨by dsimp only; omega, by dsimp only; omega, ?_⟩, ?_, W.app hg'⟩
    · dsimp only
      rw [← hq, uintB_j (u := u) (by omega)]
      simp
    · simp (disch := first | assumption | omega | (simp only [List.length_append, List.length_cons, List.length_nil]; omega)) only [go_sem, reduceCtorEq, Nat.reduceEqDiff, Nat.reduceAdd, Nat.reduceSub, Nat.reduceMul, Nat.reduceLeDiff, Int.reduceLT, Int.reduceLE, Int.reduceEq, ↓reduceIte, Int.reduceNeg, Int.reduceAdd, Int.reduceSub, Int.reduceMul, true_imp_iff, forall_const, Nat.mul_one, Int.reduceToNat, Nat.reducePow, Int.reducePow, Bool.true_and, Bool.false_and, Bool.and_false, hf]
  · have hw := wrap8 u
    have hw2 : u % 256 = u := by omega
    rw [hw2] at hw
    have hu' := uintB_i h0 (by omega)
    rw [hu'] at hq
    subst hq
    simp (disch := first | assumption | omega | (simp only [List.length_append, List.length_cons, List.length_nil]; omega)) only [go_sem, reduceCtorEq, Nat.reduceEqDiff, Nat.reduceAdd, Nat.reduceSub, Nat.reduceMul, Nat.reduceLeDiff, Int.reduceLT, Int.reduceLE, Int.reduceEq, ↓reduceIte, Int.reduceNeg, Int.reduceAdd, Int.reduceSub, Int.reduceMul, true_imp_iff, forall_const, Nat.mul_one, Int.reduceToNat, Nat.reducePow, Int.reducePow, Bool.true_and, Bool.false_and, Bool.and_false, hf, hb, hu, hw]
    refine vappB hg rfl (by omega) (by omega) (by omega) fun k' σ' hg' => ?_
    have hb' := (hg'.at (ASt.set_same _ _ _))
    simp (disch := first | assumption | omega | (simp only [List.length_append, List.length_cons, List.length_nil]; omega)) only [go_sem, reduceCtorEq, Nat.reduceEqDiff, Nat.reduceAdd, Nat.reduceSub, Nat.reduceMul, Nat.reduceLeDiff, Int.reduceLT, Int.reduceLE, Int.reduceEq, ↓reduceIte, Int.reduceNeg, Int.reduceAdd, Int.reduceSub, Int.reduceMul, true_imp_iff, forall_const, Nat.mul_one, Int.reduceToNat, Nat.reducePow, Int.reducePow, Bool.true_and, Bool.false_and, Bool.and_false, hf, hb']
    exact retC_by (Drop.refl _) (.refl _) ⟨rfl, W.app hg'⟩

theorem wint_ok (σ0 : ASt) (b : Nat) (n : Int) (l : List UInt8) (σ : ASt) (hW : W σ0 b l σ) (h1 : -9223372036854775808 ≤ n) (h2 : n ≤ 9223372036854775807) (hl : l.length + 10 ≤ 1000000) :
    ACalls Tryz.prog 104 [.ptr b 0, .int .i64 n] σ fun v σ' => v = .tuple [] ∧ W σ0 b (l ++ uintB (foldI n).toNat) σ' := by
  refine a104 (by simp) ?_
  obtain ⟨f0, f1⟩ := foldI_bd h1 h2
  simp (disch := first | assumption | omega | (simp only [List.length_append, List.length_cons, List.length_nil]; omega)) only [go_sem, reduceCtorEq, Nat.reduceEqDiff, Nat.reduceAdd, Nat.reduceSub, Nat.reduceMul, Nat.reduceLeDiff, Int.reduceLT, Int.reduceLE, Int.reduceEq, ↓reduceIte, Int.reduceNeg, Int.reduceAdd, Int.reduceSub, Int.reduceMul, true_imp_iff, forall_const, Nat.mul_one, Int.reduceToNat, Nat.reducePow, Int.reducePow, Bool.true_and, Bool.false_and, Bool.and_false]
  refine ACalls.of_eq (congrArg (fun x => [AV.ptr b 0, AV.int .u64 x]) (fold64 h1 h2)) ?_
  refine (wuint_ok σ0 b (foldI n) l σ hW f0 f1 (by have := uintB_le f1; omega)).mono ?_
  rintro v σ' ⟨rfl, h⟩
  simp (disch := first | assumption | omega | (simp only [List.length_append, List.length_cons, List.length_nil]; omega)) only [go_sem, reduceCtorEq, Nat.reduceEqDiff, Nat.reduceAdd, Nat.reduceSub, Nat.reduceMul, Nat.reduceLeDiff, Int.reduceLT, Int.reduceLE, Int.reduceEq, ↓reduceIte, Int.reduceNeg, Int.reduceAdd, Int.reduceSub, Int.reduceMul, true_imp_iff, forall_const, Nat.mul_one, Int.reduceToNat, Nat.reducePow, Int.reducePow, Bool.true_and, Bool.false_and, Bool.and_false]
  exact retC_by (Drop.refl _) (.refl _) ⟨rfl, h⟩

theorem wtext_ok (σ0 : ASt) (b : Nat) (s l : List UInt8) (σ : ASt) (hW : W σ0 b l σ) (hl : l.length + 10 + s.length ≤ 1000000) :
    ACalls Tryz.prog 105 [.ptr b 0, .str s] σ fun v σ' => v = .tuple [] ∧ W σ0 b (l ++ textB s) σ' := by
  refine a105 (by simp) ?_
  simp (disch := first | assumption | omega | (simp only [List.length_append, List.length_cons, List.length_nil]; omega)) only [go_sem, reduceCtorEq, Nat.reduceEqDiff, Nat.reduceAdd, Nat.reduceSub, Nat.reduceMul, Nat.reduceLeDiff, Int.reduceLT, Int.reduceLE, Int.reduceEq, ↓reduceIte, Int.reduceNeg, Int.reduceAdd, Int.reduceSub, Int.reduceMul, true_imp_iff, forall_const, Nat.mul_one, Int.reduceToNat, Nat.reducePow, Int.reducePow, Bool.true_and, Bool.false_and, Bool.and_false]
  have hu := uintB_le (u := s.length) (by omega)
  rw [Int.toNat_natCast] at hu
  refine (wuint_ok σ0 b s.length l σ hW (by omega) (by omega) (by rw [Int.toNat_natCast]; omega)).mono ?_
  rintro v σ' ⟨rfl, k, hg⟩
  rw [Int.toNat_natCast] at hg
  have hb := W.cell hg
  simp (disch := first | assumption | omega | (simp only [List.length_append, List.length_cons, List.length_nil]; omega)) only [go_sem, reduceCtorEq, Nat.reduceEqDiff, Nat.reduceAdd, Nat.reduceSub, Nat.reduceMul, Nat.reduceLeDiff, Int.reduceLT, Int.reduceLE, Int.reduceEq, ↓reduceIte, Int.reduceNeg, Int.reduceAdd, Int.reduceSub, Int.reduceMul, true_imp_iff, forall_const, Nat.mul_one, Int.reduceToNat, Nat.reducePow, Int.reducePow, Bool.true_and, Bool.false_and, Bool.and_false, hb]
  have hlen : (bytesAV (l ++ uintB s.length)).length + s.length ≤ 140737488355328 := by simp [bytesAV]; omega
  refine appsC_by hg hlen fun k' σ' hg' => ?_
  have hb' := (hg'.at (ASt.set_same _ _ _))
  simp (disch := first | assumption | omega | (simp only [List.length_append, List.length_cons, List.length_nil]; omega)) only [go_sem, reduceCtorEq, Nat.reduceEqDiff, Nat.reduceAdd, Nat.reduceSub, Nat.reduceMul, Nat.reduceLeDiff, Int.reduceLT, Int.reduceLE, Int.reduceEq, ↓reduceIte, Int.reduceNeg, Int.reduceAdd, Int.reduceSub, Int.reduceMul, true_imp_iff, forall_const, Nat.mul_one, Int.reduceToNat, Nat.reducePow, Int.reducePow, Bool.true_and, Bool.false_and, Bool.and_false, hb']
  refine retC_by (Drop.refl _) (.refl _) ⟨rfl, ?_⟩
  have : l ++ textB s = (l ++ uintB s.length) ++ s := by simp [textB]
  rw [this]
  refine W.app (k := k) ?_
  rw [List.length_append, bytesAV_length (l := s)]
  exact hg'

theorem wbytes_ok (σ0 : ASt) (b : Nat) (l : List UInt8) (σ : ASt) (hW : W σ0 b l σ) : ACalls Tryz.prog 32 [.ptr b 0] σ fun v σ' => v = .str l ∧ σ' = σ := by
  obtain ⟨k, hg⟩ := hW
  have hb := W.cell hg
  refine a32 (by simp) ?_
  simp (disch := first | assumption | omega | (simp only [List.length_append, List.length_cons, List.length_nil]; omega)) only [go_sem, reduceCtorEq, Nat.reduceEqDiff, Nat.reduceAdd, Nat.reduceSub, Nat.reduceMul, Nat.reduceLeDiff, Int.reduceLT, Int.reduceLE, Int.reduceEq, ↓reduceIte, Int.reduceNeg, Int.reduceAdd, Int.reduceSub, Int.reduceMul, true_imp_iff, forall_const, Nat.mul_one, Int.reduceToNat, Nat.reducePow, Int.reducePow, Bool.true_and, Bool.false_and, Bool.and_false, hb]
  exact retC_by (Drop.refl _) (.refl _) ⟨rfl, rfl⟩

/-- Something that is not the writer's comes and goes. -/
theorem W.add {σ0 σ : ASt} {b c : Nat} {l : List UInt8} {r : Role} (h : W σ0 b l σ) (hc : σ c = none) : W (σ0.set c (some r)) b l (σ.set c (some r)) ∧ c ≠ b ∧ σ0 c = none := by
  obtain ⟨k, hg⟩ := h
  have hb := W.cell hg
  have hcb : c ≠ b := by rintro rfl; rw [hb] at hc; cases hc
  have h0 : σ0 c = none := by
    rcases hg with ⟨_, _, rfl⟩ | ⟨t, T, _, _, rfl⟩
    · rwa [ASt.set_ne hcb] at hc
    · obtain ⟨_, _, hc⟩ := set_none hc
      rwa [ASt.set_ne hcb] at hc
  refine ⟨⟨k, ?_⟩, hcb, h0⟩
  rcases hg with ⟨h1, h2, rfl⟩ | ⟨t, T, h1, h2, rfl⟩
  · exact .inl ⟨h1, h2, set_swap (Ne.symm hcb)⟩
  · obtain ⟨h3, h4, _⟩ := set_none hc
    obtain ⟨h5, h6, h7⟩ := set_none h2
    refine .inr ⟨t, T, h1, ?_, ?_⟩
    · rw [ASt.set_ne h5, ASt.set_ne (Ne.symm h3)]; exact h7
    · rw [set_swap h4, set_swap (Ne.symm hcb)]
theorem W.off {σ0 σ : ASt} {b c : Nat} {l : List UInt8} {r : Role} (h : W (σ0.set c (some r)) b l σ) (hcb : c ≠ b) (hc : σ0 c = none) : ∃ σ', Drop σ σ' ∧ W σ0 b l σ' ∧ σ = σ'.set c (some r) := by
  obtain ⟨k, hg⟩ := h
  rcases hg with ⟨h1, h2, rfl⟩ | ⟨t, T, h1, h2, rfl⟩
  · refine ⟨σ0.set b (some (.obj [.sl k (bytesAV l)])), ?_, ⟨k, .inl ⟨h1, h2, rfl⟩⟩, (set_swap hcb)⟩
    rw [set_swap hcb]
    exact Drop.set (by rw [ASt.set_ne hcb]; exact hc)
  · obtain ⟨h3, h4, h5⟩ := set_none h2
    obtain ⟨h6, h7, h8⟩ := set_none h5
    have e : ((σ0.set c (some r)).set b (some (.obj [.sl k (bytesAV l)]))).set t (some (.tok ((bytesAV l).length * 1))) = ((σ0.set b (some (.obj [.sl k (bytesAV l)]))).set t (some (.tok ((bytesAV l).length * 1)))).set c (some r) := by
      rw [set_swap hcb, set_swap h7]
    refine ⟨(σ0.set b (some (.obj [.sl k (bytesAV l)]))).set t (some (.tok ((bytesAV l).length * 1))), ?_, ⟨k, .inr ⟨t, T, h1, ?_, rfl⟩⟩, e⟩
    · rw [e]
      exact Drop.set (by rw [ASt.set_ne h7, ASt.set_ne hcb]; exact hc)
    · rw [ASt.set_ne h3]; exact h8

theorem W.role {σ0 σ : ASt} {b c : Nat} {l : List UInt8} {r : Role} (h : W (σ0.set c (some r)) b l σ) (hcb : c ≠ b) : σ c = some r := by
  obtain ⟨k, hg⟩ := h
  exact hg.at (by rw [ASt.set_ne hcb, ASt.set_same])
def u64sAV (L : List Int) : AV := .sl .shr (L.map (AV.int .u64))
def spanV (p : Int × Int) : AV := .agg [.int .u64 p.1, .int .u64 p.2]
def spansV (L : List (Int × Int)) : AV := .sl .shr (L.map spanV)
end Go.A
