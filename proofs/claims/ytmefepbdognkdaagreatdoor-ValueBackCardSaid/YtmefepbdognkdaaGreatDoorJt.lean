/- ValueBack. -/
import Derived.Test.YtmefepbdognkdaaGreatDoorJs
import Derived.Test.YtmefepbdognkdaaGreatDoorCodeJt
namespace Go.A
open Go.Proofs Go.Lib Go.Vint
set_option maxRecDepth 100000
set_option linter.unusedSimpArgs false
set_option linter.unusedVariables false

theorem errV_len (k : Nat) : (errV.getD k []).length ≤ 10 := by
  have h : ∀ x ∈ errV, x.length ≤ 10 := by decide
  rw [List.getD_eq_getElem?_getD]
  cases hx : errV[k]? with
  | none => simp
  | some x => exact h x (List.mem_of_getElem? hx)
theorem typedP_len (v : PV) (hg : v.good) (ht : ∀ t, v = .text t → t.length ≤ 2000) : (typedP v).length ≤ 100000 := by
  cases v with
  | text s =>
    have := ht s rfl
    have ht : typedP (.text s) = if inputP s = .text s then s else 39 :: s := rfl
    rw [ht]
    split
    · omega
    · simp only [List.length_cons]; omega
  | num n =>
    have h : typedP (.num n) = textD n := rfl
    rw [h]
    have := textD_len (a := n) hg
    omega
  | blank => show ([] : List UInt8).length ≤ 100000; simp
  | bool b => cases b <;> decide
  | fail n =>
    have h : typedP (.fail n) = errV.getD (n - 1).toNat [] := rfl
    rw [h]
    have := errV_len (n - 1).toNat
    omega
theorem putB_len (v : PV) (hg : v.good) (ht : ∀ t, v = .text t → t.length ≤ 2000) : (putB v).length ≤ 3000 := by
  obtain ⟨k, y, z, hp, hB, hy, hz, hk⟩ := put_pl v hg ht
  have h1 := uintB_le (u := k) (by omega)
  have hb := foldI_bd (n := y) (by omega) (by omega)
  have h2 := uintB_le (u := foldI y) (by omega)
  have h3 := uintB_le (u := (z.length : Int)) (by omega)
  rw [Int.toNat_natCast] at h3
  rw [hB]
  unfold plB
  rw [List.length_append]
  split
  · omega
  · split
    · simp only [textB, List.length_append]; omega
    · simp; omega
set_option maxHeartbeats 2000000 in
theorem ValueBack_any {σ : ASt} (hU : U8 σ) (hT : Tab σ) (p : Pl) :
    ACalls Tryz.prog 6 [plAV p] σ fun v σ' => v = .bool true ∧ σ' = σ := by
  obtain ⟨k1, n1, s1⟩ := p
  have hC := lcut_ok s1 1000
  have hl : (s1.take 1000).length ≤ 4611686018427387904 := by rw [List.length_take]; omega
  have M1 := fun (τ : ASt) (h : U8 τ) => made15_ok h ⟨k1, n1, s1.take 1000⟩ hl
  obtain ⟨x, y, z, ht, _⟩ := tell_kind (ofP ⟨k1, n1, s1.take 1000⟩)
  have hg := ofP_good ⟨k1, n1, s1.take 1000⟩
  have hback := of_tell ⟨k1, n1, s1.take 1000⟩
  have htx : ∀ t, ofP ⟨k1, n1, s1.take 1000⟩ = .text t → t.length ≤ 2000 := fun t h => (ofP_text _ t h).2
  have hsm := ofP_small ⟨k1, n1, s1.take 1000⟩
  have hTo := told_ok (ofP ⟨k1, n1, s1.take 1000⟩)
  rw [ht] at M1 hTo
  generalize ofP ⟨k1, n1, s1.take 1000⟩ = v at *
  generalize s1.take 1000 = s at *
  have hty := typed_law v hg
  have hin := input_ok (typedP v) (typedP_len v hg htx)
  rw [hty] at hin
  have hpl := putB_len v hg htx
  unfold plAV at M1 ⊢
  dsimp only at M1 ⊢
  rw [show (((1000 : Nat)) : Int) = 1000 from rfl] at hC
  refine a6 (by simp) ?_
  simp (disch := first | assumption | omega | (simp only [List.length_append, List.length_cons, List.length_nil]; omega)) only [go_sem, reduceCtorEq, Nat.reduceEqDiff, Nat.reduceAdd, Nat.reduceSub, Nat.reduceMul, Nat.reduceLeDiff, Int.reduceLT, Int.reduceLE, Int.reduceEq, ↓reduceIte, Int.reduceNeg, Int.reduceAdd, Int.reduceSub, Int.reduceMul, true_imp_iff, forall_const, Nat.mul_one, Int.reduceToNat, Nat.reducePow, Int.reducePow, Bool.true_and, Bool.false_and, Bool.and_false]
  refine boxC_by rfl fun b hb => ?_
  simp (disch := first | assumption | omega | (simp only [List.length_append, List.length_cons, List.length_nil]; omega)) only [go_sem, reduceCtorEq, Nat.reduceEqDiff, Nat.reduceAdd, Nat.reduceSub, Nat.reduceMul, Nat.reduceLeDiff, Int.reduceLT, Int.reduceLE, Int.reduceEq, ↓reduceIte, Int.reduceNeg, Int.reduceAdd, Int.reduceSub, Int.reduceMul, true_imp_iff, forall_const, Nat.mul_one, Int.reduceToNat, Nat.reducePow, Int.reducePow, Bool.true_and, Bool.false_and, Bool.and_false]
  refine hC.use ?_
  simp (disch := first | assumption | omega | (simp only [List.length_append, List.length_cons, List.length_nil]; omega)) only [go_sem, reduceCtorEq, Nat.reduceEqDiff, Nat.reduceAdd, Nat.reduceSub, Nat.reduceMul, Nat.reduceLeDiff, Int.reduceLT, Int.reduceLE, Int.reduceEq, ↓reduceIte, Int.reduceNeg, Int.reduceAdd, Int.reduceSub, Int.reduceMul, true_imp_iff, forall_const, Nat.mul_one, Int.reduceToNat, Nat.reducePow, Int.reducePow, Bool.true_and, Bool.false_and, Bool.and_false, ASt.set_set]
  have U1 := hU.set hb (r := some (.obj [.int .i64 k1, .int .i64 n1, .str s]))
  refine (M1 _ U1).mono ?_
  rintro r σ' ⟨rfl, rfl⟩
  simp (disch := first | assumption | omega | (simp only [List.length_append, List.length_cons, List.length_nil]; omega)) only [go_sem, reduceCtorEq, Nat.reduceEqDiff, Nat.reduceAdd, Nat.reduceSub, Nat.reduceMul, Nat.reduceLeDiff, Int.reduceLT, Int.reduceLE, Int.reduceEq, ↓reduceIte, Int.reduceNeg, Int.reduceAdd, Int.reduceSub, Int.reduceMul, true_imp_iff, forall_const, Nat.mul_one, Int.reduceToNat, Nat.reducePow, Int.reducePow, Bool.true_and, Bool.false_and, Bool.and_false]
  refine allocC_by fun c hc => ?_
  have hcc := hc
  repeat (with_reducible replace hc := set_none hc; obtain ⟨_, _, hc⟩ := hc)
  have U2 := U1.set hcc (r := some (.obj [.int .i64 x, .int .i64 y, .str z]))
  have T1 : Tab (σ.set b (some (.obj [.int .i64 k1, .int .i64 n1, .str s]))) := by
    unfold Tab at hT ⊢
    rw [ASt.set_ne]
    · exact hT
    · intro e; rw [← e, hT] at hb; cases hb
  have T2 : Tab ((σ.set b (some (.obj [.int .i64 k1, .int .i64 n1, .str s]))).set c (some (.obj [.int .i64 x, .int .i64 y, .str z]))) := by
    unfold Tab at T1 ⊢
    rw [ASt.set_ne]
    · exact T1
    · intro e; rw [← e, T1] at hcc; cases hcc
  have D2 : Drop ((σ.set b (some (.obj [.int .i64 k1, .int .i64 n1, .str s]))).set c (some (.obj [.int .i64 x, .int .i64 y, .str z]))) σ := (Drop.set hb).over (by assumption)
  have hcr : ((σ.set b (some (.obj [.int .i64 k1, .int .i64 n1, .str s]))).set c (some (.obj [.int .i64 x, .int .i64 y, .str z]))) c = some (.obj [.int .i64 x, .int .i64 y, .str z]) := ASt.set_same _ _ _
  obtain ⟨F, hF⟩ : ∃ F, F = ACode.wp Tryz.prog c6_11 := ⟨_, rfl⟩
  simp (disch := first | assumption | omega | (simp only [List.length_append, List.length_cons, List.length_nil]; omega)) only [go_sem, reduceCtorEq, Nat.reduceEqDiff, Nat.reduceAdd, Nat.reduceSub, Nat.reduceMul, Nat.reduceLeDiff, Int.reduceLT, Int.reduceLE, Int.reduceEq, ↓reduceIte, Int.reduceNeg, Int.reduceAdd, Int.reduceSub, Int.reduceMul, true_imp_iff, forall_const, Nat.mul_one, Int.reduceToNat, Nat.reducePow, Int.reducePow, Bool.true_and, Bool.false_and, Bool.and_false, ASt.set_set, ←hF]
  generalize (σ.set b (some (.obj [.int .i64 k1, .int .i64 n1, .str s]))).set c (some (.obj [.int .i64 x, .int .i64 y, .str z])) = σ2 at *
  rw [hF]
  refine allocC_by fun w hw => ?_
  have hW0 : W σ2 w [] (σ2.set w (some (.obj [.sl .full []]))) := ⟨.full, .inl ⟨rfl, rfl, rfl⟩⟩
  simp (disch := first | assumption | omega | (simp only [List.length_append, List.length_cons, List.length_nil]; omega)) only [go_sem, reduceCtorEq, Nat.reduceEqDiff, Nat.reduceAdd, Nat.reduceSub, Nat.reduceMul, Nat.reduceLeDiff, Int.reduceLT, Int.reduceLE, Int.reduceEq, ↓reduceIte, Int.reduceNeg, Int.reduceAdd, Int.reduceSub, Int.reduceMul, true_imp_iff, forall_const, Nat.mul_one, Int.reduceToNat, Nat.reducePow, Int.reducePow, Bool.true_and, Bool.false_and, Bool.and_false]
  refine (vput_ok σ2 w v [] _ hW0 hg htx (by simp)).mono ?_
  rintro r σ3 ⟨rfl, hW⟩
  rw [List.nil_append] at hW
  have hat : ∀ (x : Nat) (R : Role), σ2 x = some R → σ3 x = some R := by
    obtain ⟨kk, hgk⟩ := hW
    intro x R hx
    refine hgk.at ?_
    rw [ASt.set_ne]
    · exact hx
    · rintro rfl; rw [hx] at hw; cases hw
  have D3 : Drop σ3 σ2 := by
    obtain ⟨kk, hgk⟩ := hW
    exact hgk.drop.trans (Drop.set hw)
  have hBy := wbytes_ok σ2 w (putB v) σ3 hW
  simp (disch := first | assumption | omega | (simp only [List.length_append, List.length_cons, List.length_nil]; omega)) only [go_sem, reduceCtorEq, Nat.reduceEqDiff, Nat.reduceAdd, Nat.reduceSub, Nat.reduceMul, Nat.reduceLeDiff, Int.reduceLT, Int.reduceLE, Int.reduceEq, ↓reduceIte, Int.reduceNeg, Int.reduceAdd, Int.reduceSub, Int.reduceMul, true_imp_iff, forall_const, Nat.mul_one, Int.reduceToNat, Nat.reducePow, Int.reducePow, Bool.true_and, Bool.false_and, Bool.and_false]
  refine hBy.mono ?_
  rintro r σ' ⟨rfl, rfl⟩
  simp (disch := first | assumption | omega | (simp only [List.length_append, List.length_cons, List.length_nil]; omega)) only [go_sem, reduceCtorEq, Nat.reduceEqDiff, Nat.reduceAdd, Nat.reduceSub, Nat.reduceMul, Nat.reduceLeDiff, Int.reduceLT, Int.reduceLE, Int.reduceEq, ↓reduceIte, Int.reduceNeg, Int.reduceAdd, Int.reduceSub, Int.reduceMul, true_imp_iff, forall_const, Nat.mul_one, Int.reduceToNat, Nat.reducePow, Int.reducePow, Bool.true_and, Bool.false_and, Bool.and_false]
  refine (rread_ok (putB v) _).mono ?_
  rintro r σ' ⟨d, rfl, hd, rfl⟩
  have U3 : U8 (σ'.set d (rd (putB v) 0 0)) := U8.set ⟨hat _ _ U2.1, hat _ _ U2.2⟩ hd
  have G := vget_ok U3 (putB v) 0 d v [] (ASt.set_same _ _ _) (by omega) (by omega) (by simp) hg hback htx
  rw [ASt.set_set, Nat.zero_add] at G
  simp (disch := first | assumption | omega | (simp only [List.length_append, List.length_cons, List.length_nil]; omega)) only [go_sem, reduceCtorEq, Nat.reduceEqDiff, Nat.reduceAdd, Nat.reduceSub, Nat.reduceMul, Nat.reduceLeDiff, Int.reduceLT, Int.reduceLE, Int.reduceEq, ↓reduceIte, Int.reduceNeg, Int.reduceAdd, Int.reduceSub, Int.reduceMul, true_imp_iff, forall_const, Nat.mul_one, Int.reduceToNat, Nat.reducePow, Int.reducePow, Bool.true_and, Bool.false_and, Bool.and_false]
  refine G.mono ?_
  rintro r σ4 ⟨rfl, rfl⟩
  have U4 : U8 (σ'.set d (rd (putB v) (putB v).length 0)) := U8.set ⟨hat _ _ U2.1, hat _ _ U2.2⟩ hd
  have T4 : Tab (σ'.set d (rd (putB v) (putB v).length 0)) := by
    have h := hat _ _ T2
    unfold Tab
    rw [ASt.set_ne]
    · exact h
    · intro e; rw [← e, h] at hd; cases hd
  have D4 : Drop (σ'.set d (rd (putB v) (putB v).length 0)) σ := ((Drop.set hd).trans D3).trans D2
  have hcr4 : (σ'.set d (rd (putB v) (putB v).length 0)) c = some (.obj [.int .i64 x, .int .i64 y, .str z]) := by
    have h := hat _ _ hcr
    rw [ASt.set_ne]
    · exact h
    · rintro rfl; rw [h] at hd; cases hd
  have hdd : (σ'.set d (rd (putB v) (putB v).length 0)) d = rd (putB v) (putB v).length 0 := ASt.set_same _ _ _
  have hDo := rdone_ok (putB v) (putB v).length 0 d _ hdd
  rw [if_neg (by omega), set_self hdd] at hDo
  have A4 := vawake_ok U4
  have Ty := typed_ok T4 v hg hsm
  generalize σ'.set d (rd (putB v) (putB v).length 0) = σ4 at *
  generalize typedP v = tv at *
  generalize v.av = a at *
  simp (disch := first | assumption | omega | (simp only [List.length_append, List.length_cons, List.length_nil]; omega)) only [go_sem, reduceCtorEq, Nat.reduceEqDiff, Nat.reduceAdd, Nat.reduceSub, Nat.reduceMul, Nat.reduceLeDiff, Int.reduceLT, Int.reduceLE, Int.reduceEq, ↓reduceIte, Int.reduceNeg, Int.reduceAdd, Int.reduceSub, Int.reduceMul, true_imp_iff, forall_const, Nat.mul_one, Int.reduceToNat, Nat.reducePow, Int.reducePow, Bool.true_and, Bool.false_and, Bool.and_false]
  refine A4.mono ?_
  rintro r σ' ⟨rfl, rfl⟩
  simp (disch := first | assumption | omega | (simp only [List.length_append, List.length_cons, List.length_nil]; omega)) only [go_sem, reduceCtorEq, Nat.reduceEqDiff, Nat.reduceAdd, Nat.reduceSub, Nat.reduceMul, Nat.reduceLeDiff, Int.reduceLT, Int.reduceLE, Int.reduceEq, ↓reduceIte, Int.reduceNeg, Int.reduceAdd, Int.reduceSub, Int.reduceMul, true_imp_iff, forall_const, Nat.mul_one, Int.reduceToNat, Nat.reducePow, Int.reducePow, Bool.true_and, Bool.false_and, Bool.and_false, hcr4]
  refine Ty.mono ?_
  rintro r σ' ⟨rfl, rfl⟩
  simp (disch := first | assumption | omega | (simp only [List.length_append, List.length_cons, List.length_nil]; omega)) only [go_sem, reduceCtorEq, Nat.reduceEqDiff, Nat.reduceAdd, Nat.reduceSub, Nat.reduceMul, Nat.reduceLeDiff, Int.reduceLT, Int.reduceLE, Int.reduceEq, ↓reduceIte, Int.reduceNeg, Int.reduceAdd, Int.reduceSub, Int.reduceMul, true_imp_iff, forall_const, Nat.mul_one, Int.reduceToNat, Nat.reducePow, Int.reducePow, Bool.true_and, Bool.false_and, Bool.and_false, hcr4]
  refine hin.use ?_
  simp (disch := first | assumption | omega | (simp only [List.length_append, List.length_cons, List.length_nil]; omega)) only [go_sem, reduceCtorEq, Nat.reduceEqDiff, Nat.reduceAdd, Nat.reduceSub, Nat.reduceMul, Nat.reduceLeDiff, Int.reduceLT, Int.reduceLE, Int.reduceEq, ↓reduceIte, Int.reduceNeg, Int.reduceAdd, Int.reduceSub, Int.reduceMul, true_imp_iff, forall_const, Nat.mul_one, Int.reduceToNat, Nat.reducePow, Int.reducePow, Bool.true_and, Bool.false_and, Bool.and_false, hcr4]
  refine hTo.use ?_
  simp (disch := first | assumption | omega | (simp only [List.length_append, List.length_cons, List.length_nil]; omega)) only [go_sem, reduceCtorEq, Nat.reduceEqDiff, Nat.reduceAdd, Nat.reduceSub, Nat.reduceMul, Nat.reduceLeDiff, Int.reduceLT, Int.reduceLE, Int.reduceEq, ↓reduceIte, Int.reduceNeg, Int.reduceAdd, Int.reduceSub, Int.reduceMul, true_imp_iff, forall_const, Nat.mul_one, Int.reduceToNat, Nat.reducePow, Int.reducePow, Bool.true_and, Bool.false_and, Bool.and_false, hcr4]
  refine hTo.use ?_
  simp (disch := first | assumption | omega | (simp only [List.length_append, List.length_cons, List.length_nil]; omega)) only [go_sem, reduceCtorEq, Nat.reduceEqDiff, Nat.reduceAdd, Nat.reduceSub, Nat.reduceMul, Nat.reduceLeDiff, Int.reduceLT, Int.reduceLE, Int.reduceEq, ↓reduceIte, Int.reduceNeg, Int.reduceAdd, Int.reduceSub, Int.reduceMul, true_imp_iff, forall_const, Nat.mul_one, Int.reduceToNat, Nat.reducePow, Int.reducePow, Bool.true_and, Bool.false_and, Bool.and_false, hcr4]
  refine hDo.mono ?_
  rintro r σ' ⟨rfl, rfl⟩
  simp (disch := first | assumption | omega | (simp only [List.length_append, List.length_cons, List.length_nil]; omega)) only [go_sem, reduceCtorEq, Nat.reduceEqDiff, Nat.reduceAdd, Nat.reduceSub, Nat.reduceMul, Nat.reduceLeDiff, Int.reduceLT, Int.reduceLE, Int.reduceEq, ↓reduceIte, Int.reduceNeg, Int.reduceAdd, Int.reduceSub, Int.reduceMul, true_imp_iff, forall_const, Nat.mul_one, Int.reduceToNat, Nat.reducePow, Int.reducePow, Bool.true_and, Bool.false_and, Bool.and_false]
  exact retC_by D4 (.refl _) ⟨rfl, rfl⟩
end Go.A
