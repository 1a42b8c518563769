/- Part 10 of what ExprTells leans on: Re Ms Mv Mw Mp. -/
import Derived.Test.YtpkbdbjdiklepaaGreatDoorRows
import Derived.ProofKit
import Derived.LaidMore
import Derived.OpenShut
import Derived.Stop.LaidErr
import Derived.MakeChecks
import Derived.SevenTiedAt
import Derived.Lay
import Derived.ChangeArms
import Derived.Lib.LaidU8
import Derived.Lib.LaidTab
import Derived.Shelf.Vars
import Derived.HandedShaped
import Derived.Test.YtpkbdbjdiklepaaGreatDoorZFExprTellsi
set_option linter.defProp false
set_option linter.unusedSimpArgs false
set_option linter.unusedVariables false
set_option maxRecDepth 100000
namespace Go.A
open Go.Proofs Go.Lib Go.Vint
set_option maxHeartbeats 4000000 in
theorem ExprTells_any {σ : ASt} (hU : U8 σ) (hT : Tab σ) (hM : MaxL σ) (l1 l2 : List Pt) : ACalls Tryz.prog 3 [.sl .shr (l1.map Pt.av), .sl .shr (l2.map Pt.av)] σ fun v σ' => v = .bool true ∧ σ' = σ := by
 have hG1 := Grow_ok l1
 have hG2 := Grow_ok l2
 obtain ⟨hg, _, hbl⟩ := growP_gd l1
 obtain ⟨hok1, _, hs1⟩ := growP_facts l1
 obtain ⟨hok2, _, hs2⟩ := growP_facts l2
 obtain ⟨hn1, _⟩ := growK_nf (l1.take 40) 41 0
 have e1 : (growK (l1.take 40) 41 0).1 = growP l1 := rfl
 rw [e1] at hn1
 clear e1
 generalize growP l1 = m at *
 generalize growP l2 = n at *
 have hsp := nf_spell hn1
 have hA : ∀ τ, Tab τ → MaxL τ → ACalls Tryz.prog 6 [] τ fun v σ' => v = .bool true ∧ σ' = τ := fun τ h1 h2 => eawake_ok h1 h2
 have hTM := told_ok m (by omega)
 have hTN := told_ok n (by omega)
 have hP := fun (τ : ASt) (hT : Tab τ) (hM : MaxL τ) => print_ok hT hM m hok1 (by omega)
 have hRP := rprint_nf hn1 (by omega)
 have hS := esame_ok m n (by omega) (by omega)
 have hRS := rsame_ok m n (by omega) (by omega)
 have hSS := esame_ok m m (by omega) (by omega)
 rw [Nd.same_refl] at hSS
 have hZ := nsize_ok m (by omega)
 have hRZ := rsize12_ok m (by omega)
 have hD := ndepth_ok m (by omega)
 have hRD := rdepth_ok m (by omega)
 have hAr := Areas_ok m hok1 (by omega)
 have hRA := rareas_nf hn1 [] (by simp only [List.length_nil]; omega)
 have hW := ewrite_ok m hg
 have hRW := rwrite_ok m (by omega) hg (by omega)
 have hSg := esigns_ok
 have hRSg := r12signs_ok
 have hEr := rerrors_ok
 have hop := nf_op hn1
 have hfa : m.op = 4 → ∃ k : Nat, k < 7 ∧ m = .mk 4 (((k : Int) + 1) * 10000) [] .zero .zero [] := by
  intro h
  cases hn1 with
  | @fail k hk => exact ⟨k, hk, rfl⟩
  | sign ho _ _ => rw [op_mk] at h; omega
  | bin hi _ _ _ _ => rw [op_mk] at h; omega
  | _ => rw [op_mk] at h; omega
 have hal := Nd.areas_len m []
 rw [List.length_nil, Nat.zero_add] at hal
 replace hal := Nat.le_trans hal hs1
 generalize m.spell = SP at *
 generalize Nd.same m n = SA at *
 generalize m.size = SZ at *
 generalize m.depth = DE at *
 generalize (Nd.areas [] m) = AR at *
 generalize m.bytes = BY at *
 rw [List.map_nil] at hRA
 obtain ⟨o, mm, s, a, b, ks⟩ := m
 obtain ⟨o', mm', s', a', b', ks'⟩ := n
 have hFl := failure_any o mm s a b ks
 rw [op_mk] at hop hfa
 rw [Nd.av_cs] at *
 rw [Nd.av_cs] at hS hRS
 generalize ks.map Nd.av = KL at *
 generalize ks'.map Nd.av = KL' at *
 generalize l1.map Pt.av = P1 at *
 generalize l2.map Pt.av = P2 at *
 refine a3 (by simp) ?_
 obtain ⟨F, hF⟩ : ∃ F, F = ACode.wp Tryz.prog c3_72 := ⟨_, rfl⟩
 simp (disch := first | assumption | omega) only [go_sem, reduceCtorEq, ↓reduceIte, ←hF]
 refine hG1.use ?_
 simp (disch := first | assumption | omega) only [go_sem, Nat.reduceEqDiff, ↓reduceIte]
 refine hG2.use ?_
 simp (disch := first | assumption | omega) only [go_sem]
 refine allocC_by fun c5 h5 => ?_
 simp (disch := first | assumption | omega) only [go_sem]
 refine allocC_by fun c6 h6 => ?_
 repeat (with_reducible replace h6 := set_none h6; obtain ⟨_, _, h6⟩ := h6)
 simp (disch := first | assumption | omega) only [go_sem, Nat.reduceEqDiff, Nat.reduceAdd, Nat.reduceLeDiff, ↓reduceIte]
 rw [hF]
 refine wp_cut (x := c3_2) (y := c3_71) (fun a1 σ1 => ∃ c7 c8, Drop σ1 σ ∧ σ1 c5 = some (.obj (Nd.cs o mm s a b KL)) ∧ σ1 c6 = some (.obj (Nd.cs o' mm' s' a' b' KL')) ∧ σ1 c7 = some (.obj (Nd.cs o mm s a b KL)) ∧ σ1 c8 = some (.obj (Nd.cs o' mm' s' a' b' KL')) ∧
  (a1 5 = .ptr c5 0 ∧ a1 6 = .ptr c6 0 ∧ a1 7 = .ptr c7 0 ∧ a1 8 = .ptr c8 0)) ?_ ?_
 ·have fin : ∀ (c7 c8 : Nat) (a1 : AFr) (σ1 : ASt), Drop σ1 σ → σ1 c5 = some (.obj (Nd.cs o mm s a b KL)) → σ1 c6 = some (.obj (Nd.cs o' mm' s' a' b' KL')) → σ1 c7 = some (.obj (Nd.cs o mm s a b KL)) → σ1 c8 = some (.obj (Nd.cs o' mm' s' a' b' KL')) →
    (a1 5 = .ptr c5 0 ∧ a1 6 = .ptr c6 0 ∧ a1 7 = .ptr c7 0 ∧ a1 8 = .ptr c8 0) → ∃ c7 c8, Drop σ1 σ ∧ σ1 c5 = some (.obj (Nd.cs o mm s a b KL)) ∧ σ1 c6 = some (.obj (Nd.cs o' mm' s' a' b' KL')) ∧ σ1 c7 = some (.obj (Nd.cs o mm s a b KL)) ∧ σ1 c8 = some (.obj (Nd.cs o' mm' s' a' b' KL')) ∧
  (a1 5 = .ptr c5 0 ∧ a1 6 = .ptr c6 0 ∧ a1 7 = .ptr c7 0 ∧ a1 8 = .ptr c8 0) := fun c7 c8 a1 σ1 h1 h2 h3 h4 h5 h6 => ⟨c7, c8, h1, h2, h3, h4, h5, h6⟩
  simp (disch := first | assumption | omega) only [go_sem, Nat.reduceEqDiff, Nat.reduceLeDiff, ↓reduceIte]
  refine bothT_by ?_ ?_
  ·try simp (disch := first | assumption | omega) only [go_sem, Nat.reduceEqDiff, ↓reduceIte]
   refine hTM.use ?_
   simp (disch := first | assumption | omega) only [go_sem, Nat.reduceEqDiff, Nat.reduceLeDiff, ↓reduceIte]
   refine bothT_by ?_ ?_
   ·try simp (disch := first | assumption | omega) only [go_sem, Nat.reduceEqDiff, ↓reduceIte]
    refine hTN.use ?_
    simp (disch := first | assumption | omega) only [go_sem]
    refine bothT_by ?_ ?_
    ·try simp (disch := first | assumption | omega) only [go_sem]
     refine allocC_by fun c7 h7 => ?_
     repeat (with_reducible replace h7 := set_none h7; obtain ⟨_, _, h7⟩ := h7)
     simp (disch := first | assumption | omega) only [go_sem]
     refine allocC_by fun c8 h8 => ?_
     repeat (with_reducible replace h8 := set_none h8; obtain ⟨_, _, h8⟩ := h8)
     simp (disch := first | assumption | omega) only [go_sem, Nat.reduceEqDiff, Nat.reduceAdd, Nat.reduceLeDiff, ↓reduceIte]
     refine ⟨c7, c8, by repeat' (first | exact Drop.refl _ | with_reducible refine Drop.off ?_ (by assumption)), ?_⟩
     repeat' (first | refine And.intro ?_ ?_ | exact ASt.set_same _ _ _ | refine (ASt.set_ne (by assumption)).trans ?_ | rfl)
    ·try simp (disch := first | assumption | omega) only [go_sem]
     refine allocC_by fun c8 h8 => ?_
     repeat (with_reducible replace h8 := set_none h8; obtain ⟨_, _, h8⟩ := h8)
     simp (disch := first | assumption | omega) only [go_sem]
     refine allocC_by fun c7 h7 => ?_
     repeat (with_reducible replace h7 := set_none h7; obtain ⟨_, _, h7⟩ := h7)
     simp (disch := first | assumption | omega) only [go_sem, Nat.reduceEqDiff, Nat.reduceAdd, Nat.reduceLeDiff, ↓reduceIte, ASt.set_set]
     refine ⟨c7, c8, by repeat' (first | exact Drop.refl _ | with_reducible refine Drop.off ?_ (by assumption)), ?_⟩
     repeat' (first | refine And.intro ?_ ?_ | exact ASt.set_same _ _ _ | refine (ASt.set_ne (by assumption)).trans ?_ | rfl)
   ·try simp (disch := first | assumption | omega) only [go_sem, reduceCtorEq, Nat.reduceEqDiff, Nat.reduceAdd, Nat.reduceSub, Nat.reduceMul, Nat.reduceLeDiff, Int.reduceLT, Int.reduceLE, Int.reduceEq, ↓reduceIte, Int.reduceNeg, Int.reduceAdd, Int.reduceSub, Int.reduceMul, true_imp_iff, forall_const, Nat.mul_one, Int.reduceToNat, Nat.reducePow, Int.reducePow, Bool.true_and, Bool.false_and, Bool.and_false]
    refine bothT_by ?_ ?_
    ·try simp (disch := first | assumption | omega) only [go_sem]
     refine allocC_by fun c7 h7 => ?_
     repeat (with_reducible replace h7 := set_none h7; obtain ⟨_, _, h7⟩ := h7)
     simp (disch := first | assumption | omega) only [go_sem]
     refine bothT_by ?_ ?_
     ·try simp (disch := first | assumption | omega) only [go_sem, Nat.reduceEqDiff, ↓reduceIte]
      refine hTN.use ?_
      simp (disch := first | assumption | omega) only [go_sem]
      refine allocC_by fun c8 h8 => ?_
      repeat (with_reducible replace h8 := set_none h8; obtain ⟨_, _, h8⟩ := h8)
      simp (disch := first | assumption | omega) only [go_sem, Nat.reduceEqDiff, Nat.reduceAdd, Nat.reduceLeDiff, ↓reduceIte]
      refine ⟨c7, c8, by repeat' (first | exact Drop.refl _ | with_reducible refine Drop.off ?_ (by assumption)), ?_⟩
      repeat' (first | refine And.intro ?_ ?_ | exact ASt.set_same _ _ _ | refine (ASt.set_ne (by assumption)).trans ?_ | rfl)
     ·try simp (disch := first | assumption | omega) only [go_sem]
      refine allocC_by fun c8 h8 => ?_
      repeat (with_reducible replace h8 := set_none h8; obtain ⟨_, _, h8⟩ := h8)
      simp (disch := first | assumption | omega) only [go_sem, Nat.reduceEqDiff, ↓reduceIte]
      refine hTN.use ?_
      simp (disch := first | assumption | omega) only [go_sem, Nat.reduceEqDiff, Nat.reduceAdd, Nat.reduceLeDiff, ↓reduceIte]
      refine ⟨c7, c8, by repeat' (first | exact Drop.refl _ | with_reducible refine Drop.off ?_ (by assumption)), ?_⟩
      repeat' (first | refine And.intro ?_ ?_ | exact ASt.set_same _ _ _ | refine (ASt.set_ne (by assumption)).trans ?_ | rfl)
    ·try simp (disch := first | assumption | omega) only [go_sem]
     refine allocC_by fun c8 h8 => ?_
     repeat (with_reducible replace h8 := set_none h8; obtain ⟨_, _, h8⟩ := h8)
     simp (disch := first | assumption | omega) only [go_sem]
     refine bothT_by ?_ ?_
     ·try simp (disch := first | assumption | omega) only [go_sem, Nat.reduceEqDiff, ↓reduceIte]
      refine hTN.use ?_
      simp (disch := first | assumption | omega) only [go_sem]
      refine allocC_by fun c7 h7 => ?_
      repeat (with_reducible replace h7 := set_none h7; obtain ⟨_, _, h7⟩ := h7)
      simp (disch := first | assumption | omega) only [go_sem, Nat.reduceEqDiff, Nat.reduceAdd, Nat.reduceLeDiff, ↓reduceIte, ASt.set_set]
      refine ⟨c7, c8, by repeat' (first | exact Drop.refl _ | with_reducible refine Drop.off ?_ (by assumption)), ?_⟩
      repeat' (first | refine And.intro ?_ ?_ | exact ASt.set_same _ _ _ | refine (ASt.set_ne (by assumption)).trans ?_ | rfl)
     ·try simp (disch := first | assumption | omega) only [go_sem]
      refine allocC_by fun c7 h7 => ?_
      repeat (with_reducible replace h7 := set_none h7; obtain ⟨_, _, h7⟩ := h7)
      simp (disch := first | assumption | omega) only [go_sem, Nat.reduceEqDiff, ↓reduceIte]
      refine hTN.use ?_
      simp (disch := first | assumption | omega) only [go_sem, Nat.reduceEqDiff, Nat.reduceAdd, Nat.reduceLeDiff, ↓reduceIte]
      refine ⟨c7, c8, by repeat' (first | exact Drop.refl _ | with_reducible refine Drop.off ?_ (by assumption)), ?_⟩
      repeat' (first | refine And.intro ?_ ?_ | exact ASt.set_same _ _ _ | refine (ASt.set_ne (by assumption)).trans ?_ | rfl)
  ·try simp (disch := first | assumption | omega) only [go_sem, reduceCtorEq, Nat.reduceEqDiff, Nat.reduceAdd, Nat.reduceSub, Nat.reduceMul, Nat.reduceLeDiff, Int.reduceLT, Int.reduceLE, Int.reduceEq, ↓reduceIte, Int.reduceNeg, Int.reduceAdd, Int.reduceSub, Int.reduceMul, true_imp_iff, forall_const, Nat.mul_one, Int.reduceToNat, Nat.reducePow, Int.reducePow, Bool.true_and, Bool.false_and, Bool.and_false]
   refine bothT_by ?_ ?_
   ·try simp (disch := first | assumption | omega) only [go_sem]
    refine allocC_by fun c7 h7 => ?_
    repeat (with_reducible replace h7 := set_none h7; obtain ⟨_, _, h7⟩ := h7)
    simp (disch := first | assumption | omega) only [go_sem]
    refine bothT_by ?_ ?_
    ·try simp (disch := first | assumption | omega) only [go_sem, Nat.reduceEqDiff, ↓reduceIte]
     refine hTM.use ?_
     simp (disch := first | assumption | omega) only [go_sem, Nat.reduceEqDiff, Nat.reduceLeDiff, ↓reduceIte]
     refine bothT_by ?_ ?_
     ·try simp (disch := first | assumption | omega) only [go_sem, Nat.reduceEqDiff, ↓reduceIte]
      refine hTN.use ?_
      simp (disch := first | assumption | omega) only [go_sem]
      refine allocC_by fun c8 h8 => ?_
      repeat (with_reducible replace h8 := set_none h8; obtain ⟨_, _, h8⟩ := h8)
      simp (disch := first | assumption | omega) only [go_sem, Nat.reduceEqDiff, Nat.reduceAdd, Nat.reduceLeDiff, ↓reduceIte]
      refine ⟨c7, c8, by repeat' (first | exact Drop.refl _ | with_reducible refine Drop.off ?_ (by assumption)), ?_⟩
      repeat' (first | refine And.intro ?_ ?_ | exact ASt.set_same _ _ _ | refine (ASt.set_ne (by assumption)).trans ?_ | rfl)
     ·try simp (disch := first | assumption | omega) only [go_sem]
      refine allocC_by fun c8 h8 => ?_
      repeat (with_reducible replace h8 := set_none h8; obtain ⟨_, _, h8⟩ := h8)
      simp (disch := first | assumption | omega) only [go_sem, Nat.reduceEqDiff, ↓reduceIte]
      refine hTN.use ?_
      simp (disch := first | assumption | omega) only [go_sem, Nat.reduceEqDiff, Nat.reduceAdd, Nat.reduceLeDiff, ↓reduceIte]
      refine ⟨c7, c8, by repeat' (first | exact Drop.refl _ | with_reducible refine Drop.off ?_ (by assumption)), ?_⟩
      repeat' (first | refine And.intro ?_ ?_ | exact ASt.set_same _ _ _ | refine (ASt.set_ne (by assumption)).trans ?_ | rfl)
    ·try simp (disch := first | assumption | omega) only [go_sem]
     refine allocC_by fun c8 h8 => ?_
     repeat (with_reducible replace h8 := set_none h8; obtain ⟨_, _, h8⟩ := h8)
     simp (disch := first | assumption | omega) only [go_sem, Nat.reduceEqDiff, ↓reduceIte]
     refine hTM.use ?_
     simp (disch := first | assumption | omega) only [go_sem, Nat.reduceEqDiff, Nat.reduceLeDiff, ↓reduceIte]
     refine hTN.use ?_
     simp (disch := first | assumption | omega) only [go_sem, Nat.reduceEqDiff, Nat.reduceAdd, Nat.reduceLeDiff, ↓reduceIte]
     refine ⟨c7, c8, by repeat' (first | exact Drop.refl _ | with_reducible refine Drop.off ?_ (by assumption)), ?_⟩
     repeat' (first | refine And.intro ?_ ?_ | exact ASt.set_same _ _ _ | refine (ASt.set_ne (by assumption)).trans ?_ | rfl)
   ·try simp (disch := first | assumption | omega) only [go_sem]
    refine allocC_by fun c8 h8 => ?_
    repeat (with_reducible replace h8 := set_none h8; obtain ⟨_, _, h8⟩ := h8)
    simp (disch := first | assumption | omega) only [go_sem]
    refine bothT_by ?_ ?_
    ·try simp (disch := first | assumption | omega) only [go_sem, Nat.reduceEqDiff, ↓reduceIte]
     refine hTM.use ?_
     simp (disch := first | assumption | omega) only [go_sem, Nat.reduceEqDiff, Nat.reduceLeDiff, ↓reduceIte]
     refine bothT_by ?_ ?_
     ·try simp (disch := first | assumption | omega) only [go_sem, Nat.reduceEqDiff, ↓reduceIte]
      refine hTN.use ?_
      simp (disch := first | assumption | omega) only [go_sem]
      refine allocC_by fun c7 h7 => ?_
      repeat (with_reducible replace h7 := set_none h7; obtain ⟨_, _, h7⟩ := h7)
      simp (disch := first | assumption | omega) only [go_sem, Nat.reduceEqDiff, Nat.reduceAdd, Nat.reduceLeDiff, ↓reduceIte, ASt.set_set]
      refine ⟨c7, c8, by repeat' (first | exact Drop.refl _ | with_reducible refine Drop.off ?_ (by assumption)), ?_⟩
      repeat' (first | refine And.intro ?_ ?_ | exact ASt.set_same _ _ _ | refine (ASt.set_ne (by assumption)).trans ?_ | rfl)
     ·try simp (disch := first | assumption | omega) only [go_sem]
      refine allocC_by fun c7 h7 => ?_
      repeat (with_reducible replace h7 := set_none h7; obtain ⟨_, _, h7⟩ := h7)
      simp (disch := first | assumption | omega) only [go_sem, Nat.reduceEqDiff, ↓reduceIte]
      refine hTN.use ?_
      simp (disch := first | assumption | omega) only [go_sem, Nat.reduceEqDiff, Nat.reduceAdd, Nat.reduceLeDiff, ↓reduceIte]
      refine ⟨c7, c8, by repeat' (first | exact Drop.refl _ | with_reducible refine Drop.off ?_ (by assumption)), ?_⟩
      repeat' (first | refine And.intro ?_ ?_ | exact ASt.set_same _ _ _ | refine (ASt.set_ne (by assumption)).trans ?_ | rfl)
    ·try simp (disch := first | assumption | omega) only [go_sem]
     refine allocC_by fun c7 h7 => ?_
     repeat (with_reducible replace h7 := set_none h7; obtain ⟨_, _, h7⟩ := h7)
     simp (disch := first | assumption | omega) only [go_sem, Nat.reduceEqDiff, ↓reduceIte]
     refine hTM.use ?_
     simp (disch := first | assumption | omega) only [go_sem, Nat.reduceEqDiff, Nat.reduceLeDiff, ↓reduceIte]
     refine hTN.use ?_
     simp (disch := first | assumption | omega) only [go_sem, Nat.reduceEqDiff, Nat.reduceAdd, Nat.reduceLeDiff, ↓reduceIte]
     refine ⟨c7, c8, by repeat' (first | exact Drop.refl _ | with_reducible refine Drop.off ?_ (by assumption)), ?_⟩
     repeat' (first | refine And.intro ?_ ?_ | exact ASt.set_same _ _ _ | refine (ASt.set_ne (by assumption)).trans ?_ | rfl)
 ·rintro a1 σ1 ⟨c7, c8, hDr, r5, r6, r7, r8, hf⟩
  have T1 : Tab σ1 := hDr.had hT
  have M1 : MaxL σ1 := by
   obtain ⟨mx, hmx⟩ := hM
   exact ⟨mx, hDr.had hmx⟩
  obtain ⟨F2, hF2⟩ : ∃ F2, F2 = ACode.wp Tryz.prog c3_70 := ⟨_, rfl⟩
  simp (disch := first | assumption | omega) only [go_sem, ←hF2]
  refine (hA _ T1 M1).mono ?_
  rintro v σ2 ⟨rfl, rfl⟩
  simp (disch := first | assumption | omega) only [go_sem, Nat.reduceEqDiff, Nat.reduceLeDiff, ↓reduceIte, hf, r5, r7]
  refine (hP _ T1 M1).mono ?_
  rintro v σ3 ⟨rfl, rfl⟩
  simp (disch := first | assumption | omega) only [go_sem, Nat.reduceEqDiff, Nat.reduceLeDiff, ↓reduceIte, forall_const, hf, r7]
  refine hRP.use ?_
  simp (disch := first | assumption | omega) only [go_sem, Nat.reduceEqDiff, Nat.reduceLeDiff, ↓reduceIte, hf, r5, r6, r7, r8, eq_self]
  refine hS.use ?_
  simp (disch := first | assumption | omega) only [go_sem, Nat.reduceEqDiff, Nat.reduceLeDiff, ↓reduceIte, forall_const, hf, r7, r8]
  refine hRS.use ?_
  have hbb : decide (SA = SA) = true := by simp
  simp (disch := first | assumption | omega) only [go_sem, Nat.reduceEqDiff, Nat.reduceLeDiff, ↓reduceIte, hf, r5, eq_self]
  refine hSS.use ?_
  simp (disch := first | assumption | omega) only [go_sem, Nat.reduceEqDiff, Nat.reduceLeDiff, ↓reduceIte, hf, r5, r7]
  refine hZ.use ?_
  simp (disch := first | assumption | omega) only [go_sem, Nat.reduceEqDiff, Nat.reduceLeDiff, ↓reduceIte, forall_const, hf, r7]
  refine hRZ.use ?_
  simp (disch := first | assumption | omega) only [go_sem, Nat.reduceEqDiff, Nat.reduceLeDiff, ↓reduceIte, hf, r5, r7, eq_self]
  refine hD.use ?_
  simp (disch := first | assumption | omega) only [go_sem, Nat.reduceEqDiff, Nat.reduceLeDiff, ↓reduceIte, forall_const, hf, r7]
  refine hRD.use ?_
  simp (disch := first | assumption | omega) only [go_sem, Nat.reduceEqDiff, ↓reduceIte, eq_self]
  rw [hF2]
  clear hF2
  obtain ⟨F3, hF3⟩ : ∃ F3, F3 = ACode.wp Tryz.prog c3_66 := ⟨_, rfl⟩
  simp (disch := first | assumption | omega) only [go_sem, Nat.reduceEqDiff, Nat.reduceLeDiff, ↓reduceIte, hf, r5]
  refine hAr.use ?_
  simp (disch := first | assumption | omega) only [go_sem, Nat.reduceEqDiff, Nat.reduceLeDiff, ↓reduceIte, hf, r7]
  refine ACalls.shr (by simp (disch := first | assumption | omega) only [go_sem]) (hRA.use ?_)
  have hlm : (AR.map Rc.av).length = AR.length := List.length_map _
  simp (disch := first | assumption | omega) only [go_sem, Nat.reduceEqDiff, ↓reduceIte, eq_self, hlm, ←hF3]
  refine wp_loop_on (fun (i : Nat) a2 s2 => i ≤ AR.length ∧ (a2 5 = .ptr c5 0 ∧ a2 7 = .ptr c7 0 ∧ a2 9 = .sl .shr (AR.map Rc.av) ∧ a2 10 = .sl .shr (AR.map Rc.av) ∧ a2 72 = .int .i64 AR.length ∧ a2 73 = .int .i64 i) ∧ s2 = σ3) (fun i => AR.length - i) 0 ⟨Nat.zero_le _, ?_, rfl⟩ ?_
  ·simp (disch := first | assumption | omega) only [go_sem, Nat.reduceEqDiff, ↓reduceIte, hf]
  rintro i a2 s2 ⟨hi, hf, rfl⟩
  by_cases hlt : i < AR.length
  ·have hlt' : (i : Int) < AR.length := by omega
   have hx : AR[i]? = some (AR[i]'hlt) := List.getElem?_eq_getElem hlt
   obtain ⟨x, hxe⟩ : ∃ x, AR[i]'hlt = x := ⟨_, rfl⟩
   rw [hxe] at hx
   have hmx := Rc.get hx
   rw [show x.av = .agg [.int .i64 x.row, .int .i64 x.col, .int .i64 x.rows, .int .i64 x.cols] from rfl] at hmx
   generalize AR.map Rc.av = XL at *
   simp (disch := first | assumption | omega) only [go_sem, Nat.reduceEqDiff, Nat.reduceAdd, Nat.reduceLeDiff, ↓reduceIte, Bool.true_and, hf, hlt', hmx, eq_self]
   exact ⟨i + 1, by omega, by omega, rfl⟩
  have hlt' : ¬ (i : Int) < AR.length := by omega
  simp (disch := first | assumption | omega) only [go_sem, ↓reduceIte, hf, hlt']
  rw [hF3]
  clear hF3
  obtain ⟨F4, hF4⟩ : ∃ F4, F4 = ACode.wp Tryz.prog c3_64 := ⟨_, rfl⟩
  have hln : (signL.map AV.str).length = 12 := rfl
  have hsx : ∀ i : Nat, i < 12 → ∃ x, (signL.map AV.str)[i]? = some (.str x) := fun i h => by
   have hl : i < signL.length := h
   exact ⟨signL[i]'hl, by rw [List.getElem?_map, List.getElem?_eq_getElem hl]; rfl⟩
  generalize signL.map AV.str = SL at *
  simp (disch := first | assumption | omega) only [go_sem]
  refine hRSg.use ?_
  simp (disch := first | assumption | omega) only [go_sem, ↓reduceIte, hln, ←hF4]
  refine wp_loop_on (fun (i : Nat) a2 s3 => i ≤ 12 ∧ (a2 5 = .ptr c5 0 ∧ a2 7 = .ptr c7 0 ∧ a2 12 = .sl .shr SL ∧ a2 88 = .int .i64 12 ∧ a2 89 = .int .i64 i) ∧ s3 = s2) (fun i => 12 - i) 0 ⟨Nat.zero_le _, ?_, rfl⟩ ?_
  ·simp (disch := first | assumption | omega) only [go_sem, Nat.reduceEqDiff, ↓reduceIte, hf]
  rintro i a3 s3 ⟨hi, hf, rfl⟩
  by_cases hlt : i < 12
  ·have hlt' : (i : Int) < 12 := by omega
   obtain ⟨x, hmx⟩ := hsx i hlt
   simp (disch := first | assumption | omega) only [go_sem, Nat.reduceEqDiff, ↓reduceIte, hf, hlt', hln]
   refine hSg.use ?_
   simp (disch := first | assumption | omega) only [go_sem, Nat.reduceEqDiff, ↓reduceIte, hf, hln, hmx, eq_self]
   refine hSg.use ?_
   simp (disch := first | assumption | omega) only [go_sem, Nat.reduceEqDiff, ↓reduceIte, forall_const, hf, hmx, eq_self]
   exact ⟨i + 1, by omega, by omega, rfl⟩
  have hlt' : ¬ (i : Int) < 12 := by omega
  simp (disch := first | assumption | omega) only [go_sem, ↓reduceIte, hf, hlt']
  rw [hF4]
  clear hF4
  have hmm : -9223372036854775808 ≤ mm ∧ mm ≤ 9223372036854775807 := by
   clear hfa hsx hf
   cases hn1 <;> omega
  have hFl := hFl hmm.1 hmm.2
  simp (disch := first | assumption | omega) only [go_sem]
  refine allocC_by fun c9 h9 => ?_
  have n5 : c5 ≠ c9 := by rintro rfl; rw [r5] at h9; cases h9
  have n7 : c7 ≠ c9 := by rintro rfl; rw [r7] at h9; cases h9
  have r59 : ∀ X : Option Role, (s3.set c9 X) c5 = some (.obj (Nd.cs o mm s a b KL)) := fun X => by rw [ASt.set_ne n5]; exact r5
  simp (disch := first | assumption | omega) only [go_sem, Nat.reduceEqDiff, Nat.reduceLeDiff, ↓reduceIte, hf, r59]
  refine (hW s3 c9 [] _ (W.new h9) (by simp only [List.length_nil]; omega)).mono ?_
  rintro v σ4 ⟨rfl, W1⟩
  rw [List.nil_append] at W1
  have r5 := W1.at n5 r5
  have r7 := W1.at n7 r7
  have D1 := (W1.drop h9).trans hDr
  by_cases h4 : o = 4
  ·obtain ⟨k, hk, he⟩ := hfa h4
   have hmk : mm = ((k : Int) + 1) * 10000 := by injection he
   have hq : mm.tdiv 10000 = (k : Int) + 1 := by rw [hmk]; exact Int.mul_tdiv_cancel _ (by decide)
   have hq2 : (k : Int) + 1 - 1 = k := by omega
   have hft : failT o mm = errL.getD k [] := by
    unfold failT
    rw [hq, if_neg (by omega), hq2, Int.toNat_natCast]
   have hx : (errL.map AV.str)[k]? = some (.str (errL.getD k [])) := by
    rw [List.getElem?_map, List.getD_eq_getElem?_getD]
    have : k < errL.length := hk
    rw [List.getElem?_eq_getElem this]
    rfl
   have hkl : (k : Int) < (errL.map AV.str).length := by
    have : (errL.map AV.str).length = 7 := rfl
    omega
   rw [hft] at hFl
   clear he hft hmk
   generalize errL.getD k [] = TX at *
   generalize errL.map AV.str = EL at *
   subst h4
   simp (disch := first | assumption | omega) only [go_sem, Nat.reduceEqDiff, ↓reduceIte, hf, r5, r7]
   refine hEr.use ?_
   simp (disch := first | assumption | omega) only [go_sem, Nat.reduceEqDiff, Nat.reduceLeDiff, ↓reduceIte, hf, r7, hq, hq2, hx]
   refine (wbytes_ok _ c9 BY _ W1).mono ?_
   rintro v σ5 ⟨rfl, rfl⟩
   simp (disch := first | assumption | omega) only [go_sem, Nat.reduceEqDiff, Nat.reduceLeDiff, ↓reduceIte, hf, r7]
   refine hRW.use ?_
   simp (disch := first | assumption | omega) only [go_sem, Nat.reduceEqDiff, Nat.reduceLeDiff, ↓reduceIte, hf, r5, eq_self]
   refine hFl.use ?_
   simp (disch := first | assumption | omega) only [go_sem, Nat.reduceEqDiff, ↓reduceIte, eq_self]
   exact retC_by D1 (.refl _) ⟨rfl, rfl⟩
  ·have hft : failT o mm = [] := by unfold failT; rw [if_pos (.inl h4)]
   rw [hft] at hFl
   simp (disch := first | assumption | omega) only [go_sem, Nat.reduceEqDiff, Nat.reduceLeDiff, ↓reduceIte, hf, r5, r7, h4]
   refine (wbytes_ok _ c9 BY _ W1).mono ?_
   rintro v σ5 ⟨rfl, rfl⟩
   simp (disch := first | assumption | omega) only [go_sem, Nat.reduceEqDiff, Nat.reduceLeDiff, ↓reduceIte, hf, r7]
   refine hRW.use ?_
   simp (disch := first | assumption | omega) only [go_sem, Nat.reduceEqDiff, Nat.reduceLeDiff, ↓reduceIte, hf, r5, eq_self]
   refine hFl.use ?_
   simp (disch := first | assumption | omega) only [go_sem, Nat.reduceEqDiff, ↓reduceIte, eq_self]
   exact retC_by D1 (.refl _) ⟨rfl, rfl⟩
end Go.A
namespace Go.Proofs.YtpkbdbjdiklepaaGreatDoor
open Go Go.ChangeShapes Go.WideShapes Go.ChangeAt Go.RowKit Go.A Go.Lib Go.Shelf
theorem row_own : ownKnob Tryz.prog.godebug = none := by kernel_rfl
theorem row_laid : laidOutB Tryz.prog = true := by kernel_rfl
theorem first_eq : Rows.laid_unicode_utf8_first = firstData := by kernel_rfl
theorem acc_eq : (Rows.laid_unicode_utf8_acceptRanges : DataW Unit) = acceptData := by kernel_rfl
theorem u8_extra : U8Extra Tryz.prog Tryz.lays260_ren := ⟨by kernel_rfl, by kernel_rfl, by kernel_rfl, by kernel_rfl, by kernel_rfl, by kernel_rfl, by kernel_rfl⟩
theorem var_size {P : Program} {w : World} {n : String} {d : DataW Unit} (h : VarReads P w n d) {g : Nat} (hg : P.globalNamed n = some g) {t e : TypeId} {k : Nat} (hty : (P.globals[g]?).map (·.type) = some t) (ht : P.underlying t = some (.array k e)) :
  ∃ cs T fr, w.heap[g]? = some (.cells cs T fr) ∧ cs.size = P.cellsOf t := by
 obtain ⟨g', t', cs, fuel, p, hg', hty', hvar, hd⟩ := h
 obtain rfl := Option.some.inj (hg.symm.trans hg')
 obtain rfl := Option.some.inj (hty.symm.trans hty')
 have hlen : cs.toList.length = P.cellsOf t := by
  cases fuel with
  | zero => simp [DataW.trod] at hd
  | succ fuel =>
    simp only [DataW.trod, ht] at hd
    split at hd
    ·assumption
    ·cases hd
 unfold World.var? at hvar
 rw [hg, Option.bind_some] at hvar
 split at hvar
 ·rename_i cs' T fr hheap
  injection hvar with hvar
  subst hvar
  exact ⟨_, _, _, hheap, by simpa using hlen⟩
 ·cases hvar
theorem ints_reps {σ : ASt} {w : World} {k : IntKind} : ∀ zs : List Int, Reps σ w (zs.map (AV.int k)) (zs.map (Value.int k))
 | [] => .nil
 | z :: zs => .cons (.int k z) (ints_reps zs)
theorem reps_one {σ : ASt} {w : World} {a : AV} {vs : List Value} (h : Reps σ w [a] vs) : ∃ v, vs = [v] ∧ Rep σ w a v := by
 cases h with
 | cons h1 h2 => cases h2; exact ⟨_, rfl, h1⟩
theorem reps_two {σ : ASt} {w : World} {a b : AV} {vs : List Value} (h : Reps σ w [a, b] vs) : ∃ u v, vs = [u, v] ∧ Rep σ w a u ∧ Rep σ w b v := by
 cases h with
 | cons h1 h2 =>
   cases h2 with
   | cons h2 h3 => cases h3; exact ⟨_, _, rfl, h1, h2⟩
theorem reps_three {σ : ASt} {w : World} {a b c : AV} {vs : List Value} (h : Reps σ w [a, b, c] vs) : ∃ u v x, vs = [u, v, x] ∧ Rep σ w a u ∧ Rep σ w b v ∧ Rep σ w c x := by
 cases h with
 | cons h1 h2 =>
   obtain ⟨_, _, rfl, h2, h3⟩ := reps_two h2
   exact ⟨_, _, _, rfl, h1, h2, h3⟩
theorem reps_four {σ : ASt} {w : World} {a b c d : AV} {vs : List Value} (h : Reps σ w [a, b, c, d] vs) : ∃ u v x y, vs = [u, v, x, y] ∧ Rep σ w a u ∧ Rep σ w b v ∧ Rep σ w c x ∧ Rep σ w d y := by
 cases h with
 | cons h1 h2 =>
   obtain ⟨_, _, _, rfl, h2, h3, h4⟩ := reps_three h2
   exact ⟨_, _, _, _, rfl, h1, h2, h3, h4⟩
theorem slice_reads {P : Program} {w : World} {name : String} {g : Nat} {t e : TypeId} {k : IntKind} {l : List Int} (hn : P.globalNamed name = some g) (hy : (P.globals[g]?).map (·.type) = some t)
  (ht : P.underlying t = some (.slice e)) (he : P.underlying e = some (.int k)) (hc : P.cellsOf e = 1) (hl : 0 < l.length) (h : VarReads P w name (.slice (l.map fun x => .lit (.int k x)) [])) :
  ∃ R o cap T fr, w.heap[g]? = some (.cells #[.slice (some ⟨R, o, none⟩) l.length cap] T fr) ∧ l.length ≤ cap ∧ ∀ j z, l[j]? = some z → w.cell? ⟨R, o + j, none⟩ = some (.int k z) := by
 obtain ⟨g', t', cs, fuel, p, hg, hty, hvar, hd⟩ := h
 obtain rfl := Option.some.inj (hn.symm.trans hg)
 obtain rfl := Option.some.inj (hy.symm.trans hty)
 rcases DataW.trod_slice ht hd with ⟨_, hx⟩ | ⟨a, len, cap, el, rs, m, rfl, hcs, hx, _, hlc, _, hel, helem, hsp, _⟩
 ·cases hx
 have e0 := congrArg Prod.fst hx
 simp only [DataW.slice.injEq] at e0
 obtain ⟨eE, eR⟩ := e0
 have hlen : len = l.length := by
  have := congrArg List.length eE
  simp at this
  omega
 have hcell : ∀ i z, l[i]? = some z → w.cell? (a.add i) = some (.int k z) := by
  intro i z hiz
  have hi : i < l.length := (List.getElem?_eq_some_iff.1 hiz).1
  have h1 := helem i (by omega)
  rw [hc] at h1
  obtain ⟨b, hb⟩ : ∃ b, el[i]? = some b := ⟨el[i]'(by omega), List.getElem?_eq_getElem (by omega)⟩
  rw [hb] at h1
  obtain ⟨ce, hce, hte⟩ := Option.bind_eq_some_iff.1 h1
  obtain ⟨z', hz, hbz, _⟩ := DataW.trod_int he hte
  have hb1 : b.1 = .lit (.int k z) := by
   have := congrArg (·[i]?) eE
   simp only [List.getElem?_map, hiz, hb, Option.map_some, Option.some.injEq] at this
   exact this.symm
  rw [hbz] at hb1
  simp only [DataW.lit.injEq, Lit.int.injEq, true_and] at hb1
  obtain ⟨_, _, hcc⟩ := World.cells?_some hce
  have := hcc 0 (by omega)
  rw [hz] at this
  simp only [Nat.mul_one] at this
  have e1 : (a.add i).add 0 = a.add i := by simp [Addr.add]
  rw [e1] at this
  rw [this, ← hb1]
  rfl
 obtain ⟨z0, hz0⟩ : ∃ z, l[0]? = some z := ⟨l[0], List.getElem?_eq_getElem hl⟩
 obtain ⟨R, o, sR⟩ := a
 obtain rfl : sR = none := by
  have h00 := hcell 0 z0 hz0
  have : (Addr.add ⟨R, o, sR⟩ 0) = ⟨R, o, sR⟩ := by simp [Addr.add]
  rw [this] at h00
  exact Go.Proofs.cell_spot h00
 unfold World.var? at hvar
 rw [hn, Option.bind_some] at hvar
 split at hvar
 ·rename_i cs' T fr hheap
  injection hvar with hvar
  subst hvar
  have hcs2 : cs' = #[.slice (some ⟨R, o, none⟩) l.length cap] := by
   rw [← hlen]
   exact Array.ext' (by simpa using hcs)
  subst hcs2
  exact ⟨R, o, cap, T, fr, hheap, by omega, fun j z hj => by have := hcell j z hj; rwa [Addr.add_lit] at this⟩
 ·cases hvar
theorem fix_ok {σ : ASt} {W : World} {b : Nat} {zs : List Int} (hs : σ b = some (.fix (zs.map (AV.int .u8)))) {cs : Array Value} {T : TypeId} {fr : Nat × Nat} (hh : W.heap[b]? = some (.cells cs T fr)) (hsz : cs.size = zs.length)
  (hc : ∀ j z, zs[j]? = some z → W.cell? ⟨b, j, none⟩ = some (.int .u8 z)) : RoleOk σ W b (.fix (zs.map (AV.int .u8))) := by
 have hlt : b < W.heap.size := (Array.getElem?_eq_some_iff.1 hh).1
 refine ⟨At.mk' (ints_reps _) (fun j _ => ⟨hlt, .inr (.inl ⟨_, hs⟩)⟩) (fun j v hj => ?_), cs, T, fr, hh, by simpa using hsz⟩
 rw [List.getElem?_map] at hj
 obtain ⟨z, hz, rfl⟩ := Option.map_eq_some_iff.1 hj
 rw [Nat.zero_add]
 exact hc j z hz
def stOf : List (Nat × List AV) → ASt
 | [], _ => none
 | p :: ps, b => if b = p.1 then some (.fix p.2) else stOf ps b
theorem stOf_fix : ∀ {ps : List (Nat × List AV)} {b : Nat} {r : Role}, stOf ps b = some r → ∃ l, r = .fix l
 | [], _, _, h => by cases h
 | p :: ps, b, r, h => by
   simp only [stOf] at h
   split at h
   ·injection h with h; exact ⟨_, h.symm⟩
   ·exact stOf_fix h
theorem stOf_mem : ∀ {ps : List (Nat × List AV)} {b : Nat} {r : Role}, stOf ps b = some r → ∃ l, (b, l) ∈ ps ∧ r = .fix l
 | [], _, _, h => by cases h
 | p :: ps, b, r, h => by
   simp only [stOf] at h
   split at h
   ·rename_i hb
    injection h with h
    subst hb
    exact ⟨p.2, List.mem_cons_self, h.symm⟩
   ·obtain ⟨l, hl, he⟩ := stOf_mem h
    exact ⟨l, List.mem_cons_of_mem _ hl, he⟩
theorem still_fix {σ : ASt} (hfx : ∀ b r, σ b = some r → ∃ l, r = .fix l) {w : World} {b o : Nat} (h : b < w.heap.size) : Still σ w b o := by
 refine ⟨h, ?_⟩
 cases hb : σ b with
 | none => exact .inl rfl
 | some r => obtain ⟨l, rfl⟩ := hfx b r hb; exact .inr (.inl ⟨_, rfl⟩)
theorem row_of {σ : ASt} {w : World} {b : Nat} {k : IntKind} (hst : ∀ o, Still σ w b o) : ∀ (zs : List Int) (o : Nat), (∀ j z, zs[j]? = some z → w.cell? ⟨b, o + j, none⟩ = some (.int k z)) → Row σ w b o 1 (zs.map (AV.int k))
 | [], o, _ => .nil _ _ _
 | z :: zs, o, h => .cons rfl (.cons (hst o) (h 0 z rfl) (.int k z) (.nil _ _)) (row_of hst zs (o + 1) fun j z' hj => by
   have := h (j + 1) z' (by simpa using hj)
   rwa [show o + (j + 1) = o + 1 + j by omega] at this)
end Go.Proofs.YtpkbdbjdiklepaaGreatDoor
namespace Go.A
section
variable {σ : ASt} {w : World}
theorem Still.fixed (hfx : ∀ b r, σ b = some r → ∃ l, r = .fix l) {b o : Nat} (h : Still noRole w b o) : Still σ w b o := by
 refine ⟨h.1, ?_⟩
 cases hb : σ b with
 | none => exact .inl rfl
 | some r => obtain ⟨l, rfl⟩ := hfx b r hb; exact .inr (.inl ⟨_, rfl⟩)
theorem Stands.fixed (hfx : ∀ b r, σ b = some r → ∃ l, r = .fix l) (b : Nat) : Stands σ b := by
 refine ⟨fun cs h => ?_, fun l p h => ?_, fun T cs h => ?_⟩ <;> (obtain ⟨l, hl⟩ := hfx b _ h; cases hl)
theorem SK.ok_fixed (hfx : ∀ b r, σ b = some r → ∃ l, r = .fix l) {k : SK} {b o n c sz : Nat} (h : k.ok noRole w b o n c sz) : k.ok σ w b o n c sz := by
 cases k with
 | shr => trivial
 | full => exact h
 | tok t s T => exact ⟨h.1, h.2.1, h.2.2.1, h.2.2.2.1, Stands.fixed hfx b⟩
mutual
theorem Rep.fixed (hfx : ∀ b r, σ b = some r → ∃ l, r = .fix l) : ∀ {a : AV} {v : Value}, Rep noRole w a v → Rep σ w a v
 | _, _, .any v => .any v
 | _, _, .bool b => .bool b
 | _, _, .int k n => .int k n
 | _, _, .str l => .str l
 | _, _, .ptr b o => .ptr b o
 | _, _, .imm h1 => .imm (h1.fixed hfx)
 | _, _, .nilp => .nilp
 | _, _, .slE A c => .slE A c
 | _, _, .slN => .slN
 | _, _, .sl h1 h2 h3 h4 h5 => .sl (h1.fixed hfx) h2 h3 (SK.ok_fixed hfx h4) h5
 | _, _, .msl b o n c => .msl b o n c
 | _, _, .agg h1 => .agg (h1.fixed hfx)
 | _, _, .tuple h1 => .tuple (h1.fixed hfx)
 | _, _, .iface h1 => .iface (h1.fixed hfx)
 | _, _, .nili => .nili
 | _, _, .func h1 h2 => .func (h1.fixed hfx) (h2.fixed hfx)
 | _, _, .nilf => .nilf
theorem Reps.fixed (hfx : ∀ b r, σ b = some r → ∃ l, r = .fix l) : ∀ {avs : List AV} {vs : List Value}, Reps noRole w avs vs → Reps σ w avs vs
 | _, _, .nil => .nil
 | _, _, .cons h1 h2 => .cons (h1.fixed hfx) (h2.fixed hfx)
theorem At.fixed (hfx : ∀ b r, σ b = some r → ∃ l, r = .fix l) : ∀ {b o : Nat} {avs : List AV}, At noRole w b o avs → At σ w b o avs
 | _, _, _, .nil b o => .nil b o
 | _, _, _, .cons h1 h2 h3 h4 => .cons (h1.fixed hfx) h2 (h3.fixed hfx) (h4.fixed hfx)
theorem Row.fixed (hfx : ∀ b r, σ b = some r → ∃ l, r = .fix l) : ∀ {b o sz : Nat} {avs : List AV}, Row noRole w b o sz avs → Row σ w b o sz avs
 | _, _, _, _, .nil b o sz => .nil b o sz
 | _, _, _, _, .cons h1 h2 h3 => .cons h1 (h2.fixed hfx) (h3.fixed hfx)
end
end
end Go.A
namespace Go.Proofs.YtpkbdbjdiklepaaGreatDoor
open Go Go.ChangeShapes Go.WideShapes Go.ChangeAt Go.RowKit Go.A Go.Lib Go.Shelf
theorem u8_roles {σ : ASt} {W : World} (h3 : VarReads Tryz.prog W "unicode/utf8.first" firstData) (h4 : VarReads Tryz.prog W "unicode/utf8.acceptRanges" acceptData) :
  (σ 2 = some (.fix (firstTab.map (AV.int .u8))) → RoleOk σ W 2 (.fix (firstTab.map (AV.int .u8)))) ∧ (σ 3 = some (.fix (accTab.map (AV.int .u8))) → RoleOk σ W 3 (.fix (accTab.map (AV.int .u8)))) := by
 have hT := utf8Tabs_of_reads (ρ := Tryz.lays260_ren) Tryz.lays260 u8_extra h3 h4
 obtain ⟨hT1, hT2⟩ := hT
 have hT1 : ∀ c, c < 256 → W.cell? ⟨2, c, none⟩ = some (.int .u8 (firstT c)) := hT1
 have hT2 : ∀ i, i < 16 → W.cell? ⟨3, 2 * i, none⟩ = some (.int .u8 (accLo i)) ∧ W.cell? ⟨3, 2 * i + 1, none⟩ = some (.int .u8 (accHi i)) := hT2
 constructor
 ·intro hs
  obtain ⟨cs, T, fr, hh, hsz⟩ := var_size h3 (g := 2) (by kernel_rfl) u8_extra.y3 (Tryz.lays260.t119)
  refine fix_ok hs hh (hsz.trans (by kernel_rfl)) fun j z hj => ?_
  have hl := (List.getElem?_eq_some_iff.1 hj).1
  simp only [firstTab, List.length_map, List.length_range] at hl
  simp only [firstTab, List.getElem?_map, List.getElem?_range hl, Option.map_some, Option.some.injEq] at hj
  subst hj
  exact hT1 j hl
 ·intro hs
  obtain ⟨cs, T, fr, hh, hsz⟩ := var_size h4 (g := 3) (by kernel_rfl) u8_extra.y4 (Tryz.lays260.t139)
  refine fix_ok hs hh (hsz.trans (by kernel_rfl)) fun j z hj => ?_
  have hl := (List.getElem?_eq_some_iff.1 hj).1
  have key : ∀ j, j < 32 → accTab[j]? = some (if j % 2 = 0 then (accLo (j / 2) : Int) else accHi (j / 2)) := by decide
  have hl : j < 32 := hl
  rw [key j hl] at hj
  injection hj with hj
  subst hj
  obtain ⟨g1, g2⟩ := hT2 (j / 2) (by omega)
  split
  ·rw [show 2 * (j / 2) = j by omega] at g1; exact g1
  ·rw [show 2 * (j / 2) + 1 = j by omega] at g2; exact g2
theorem pow_role {σ : ASt} {W : World} (hfx : ∀ b r, σ b = some r → ∃ l, r = .fix l) (h3 : VarReads Tryz.prog W "internal/strconv.uint64pow10" (Lib.tabData .u64 Lib.pow10Tab)) :
  RoleOk σ W 0 (.fix (Lib.pow10Tab.map (AV.int .u64))) := by
 obtain ⟨g', t', cs, fuel, p, hg', ht', hvar, hd⟩ := h3
 obtain rfl := Option.some.inj ((show Tryz.prog.globalNamed "internal/strconv.uint64pow10" = some 0 by kernel_rfl).symm.trans hg')
 obtain rfl := Option.some.inj ((show (Tryz.prog.globals[0]?).map (·.type) = some 133 by kernel_rfl).symm.trans ht')
 have hcs := cells_of_tab (n := 20) (e := 74) (k := .u64) (by kernel_rfl) (by kernel_rfl) (by kernel_rfl) (by kernel_rfl) hd
 unfold World.var? at hvar
 rw [show Tryz.prog.globalNamed "internal/strconv.uint64pow10" = some 0 by kernel_rfl, Option.bind_some] at hvar
 split at hvar
 ·rename_i cs' T fr hheap
  injection hvar with hvar
  have hlt : 0 < W.heap.size := (Array.getElem?_eq_some_iff.1 hheap).1
  have he : cs' = (Lib.pow10Tab.map fun z => Value.int .u64 z).toArray := by rw [hvar]; exact Array.ext' (by simpa using hcs)
  refine ⟨At.mk' (ints_reps _) (fun j _ => still_fix hfx hlt) (fun j v hj => ?_), cs', T, fr, hheap, by rw [he]; simp⟩
  simp only [World.cell?, hheap, Nat.zero_add, he]
  simpa using hj
 ·cases hvar
theorem calls_st {ps : List (Nat × List AV)} {f : FuncId} {args : List AV} {vs : List Value} {w : World} (h : ACalls Tryz.prog f args (stOf ps) fun r σ' => r = .bool true ∧ σ' = stOf ps) (hs : Sim (stOf ps) w) (hr : Reps (stOf ps) w args vs) :
  Calls Tryz.prog f ⟨vs⟩ w fun e w' => e = .returned (.bool true) ∧ Ext w w' :=
 (h w vs hs hr).mono fun e w' ⟨u, r, σ', he, ⟨hrt, hst⟩, hle, _, hrep⟩ => by
  subst hrt hst
  cases hrep
  refine ⟨he, Ext.of_below ⟨hle.os, hle.tape, hle.output, hle.size, fun k hk => ?_⟩⟩
  cases hn : stOf ps k with
  | none => exact (hle.keep k hk hn).2
  | some r =>
    obtain ⟨l, rfl⟩ := stOf_fix hn
    exact (hle.fix k _ hk hn).2
end Go.Proofs.YtpkbdbjdiklepaaGreatDoor
namespace Go.Proofs.YtpkbdbjdiklepaaGreatDoor
open Go Go.ChangeShapes Go.WideShapes Go.ChangeAt Go.RowKit Go.A Go.Lib Go.Shelf
def laidV : List (String × DataW Unit) := [("math/bits.deBruijn32tab", Rows.laid_math_bits_deBruijn32tab), ("math/bits.deBruijn64tab", Rows.laid_math_bits_deBruijn64tab), ("internal/strconv.uint64pow10", Rows.laid_internal_strconv_uint64pow10), ("unicode/utf8.acceptRanges", Rows.laid_unicode_utf8_acceptRanges), ("unicode/utf8.first", Rows.laid_unicode_utf8_first)]
def vPs : List (Nat × List AV) := [(2, firstTab.map (AV.int .u8)), (3, accTab.map (AV.int .u8)), (0, Lib.pow10Tab.map (AV.int .u64))]
def vSt : ASt := stOf vPs
theorem vSt_u8 : U8 vSt := ⟨by simp [vSt, vPs, stOf], by simp [vSt, vPs, stOf]⟩
theorem vSt_tab : Tab vSt := by simp [Tab, vSt, vPs, stOf]
theorem v_sim {W : World} (h : laidMetH Tryz.prog laidV W) : Sim vSt W := by
 rw [MakeChecks.laidMetH_plain _ _ _ (by kernel_rfl)] at h
 have hp : VarReads Tryz.prog W "internal/strconv.uint64pow10" (Lib.tabData .u64 Lib.pow10Tab) := Lib.laidMet.reads h (.tail _ (.tail _ (.head _)))
 have h4 : VarReads Tryz.prog W "unicode/utf8.acceptRanges" acceptData := acc_eq ▸ Lib.laidMet.reads h (.tail _ (.tail _ (.tail _ (.head _))))
 have h3 : VarReads Tryz.prog W "unicode/utf8.first" firstData := first_eq ▸ Lib.laidMet.reads h (.tail _ (.tail _ (.tail _ (.tail _ (.head _)))))
 obtain ⟨r1, r2⟩ := u8_roles (σ := vSt) h3 h4
 intro b r hb
 obtain ⟨l, hl, rfl⟩ := stOf_mem hb
 simp only [vPs, List.mem_cons, List.not_mem_nil, or_false, Prod.mk.injEq] at hl
 rcases hl with ⟨rfl, rfl⟩ | ⟨rfl, rfl⟩ | ⟨rfl, rfl⟩
 ·exact r1 vSt_u8.1
 ·exact r2 vSt_u8.2
 ·exact pow_role (fun _ _ => stOf_fix) hp
theorem calls_v {f : FuncId} {args : List AV} {vs : List Value} {w : World} (h : ACalls Tryz.prog f args vSt fun r σ' => r = .bool true ∧ σ' = vSt) (hs : Sim vSt w) (hr : Reps vSt w args vs) :
  Calls Tryz.prog f ⟨vs⟩ w fun e w' => e = .returned (.bool true) ∧ Ext w w' := calls_st h hs hr
end Go.Proofs.YtpkbdbjdiklepaaGreatDoor
namespace Go
variable {H : Type} {enc : TypeId × Value → H}
theorem A.returnsInHanded_and_shaped {a : Assume} {C : Checked} {os : Os} {f : FuncId} {fn : Func} {s : ChangeSpec} {conds : List PathCond} {apart fresh handsOn again : Bool} {X : World → Array Value → Prop}
  (hX : ∀ (w w' : World) (args : Array Value), w.heap = w'.heap → X w args → X w' args)
  (own : ownKnob C.prog.godebug = none) (started : os.Started) (noInit : C.prog.inits.idxOf? f = none) (hfn : C.prog.funcs[f]? = some fn)
  (witness : ∃ (w : World) (tape : Tape) (i : Input), w.os = os ∧ (w.forCall tape i).Shaped C.prog ∧ i.vars = [] ∧ Input.okWide C.prog (w.forCall tape i) .any w.heap.size f i ∧
   ((s.pre enc C.prog fn conds apart (w.forCall tape i).memory i.args ∧ X (w.forCall tape i).memory i.args) ∧ sizedMet enc C.prog fn (OpenSpec.ofChange s) apart (w.forCall tape i).memory i.args) ∧ a.holds C.prog (lone (Frame.enter C.prog f i.args .normal) [] (w.forCall tape i)))
  (contract : ∀ (W : World) (base : Nat) (args : Array Value) (ds gs : List (DataW H)) (before : List MemPlace),
   (∀ (j : Nat) t v, fn.params[j]? = some t → args[j]? = some v → Value.okWide C.prog W .any base t v) →
   DataW.Whole enc C.prog fn.params.toList s.vars apart W args.toList ds gs before →
   W.ShapedOpen C.prog → X W args →
   Calls C.prog f args W fun e W' => ∃ v, e = .returned v ∧ s.post enc C.prog fn apart fresh handsOn again W args v W') :
  ReturnsInHanded a C os f .any (fun w args => (s.pre enc C.prog fn conds apart w args ∧ X w args) ∧ sizedMet enc C.prog fn (OpenSpec.ofChange s) apart w args) (s.post enc C.prog fn apart fresh handsOn again) := by
 refine returnsInHanded_of_calls own started noInit witness ?_
 intro w tape i _ hsh _ hok hpre hholds
 obtain ⟨_, _, _, fn', hfn', _, _, _, _, hval⟩ := hok
 have e : fn' = fn := Option.some.inj (hfn'.symm.trans hfn)
 subst e
 obtain ⟨⟨⟨ds, gs, before, hw, hc⟩, hx⟩, hz⟩ := hpre
 have hw' := DataW.Whole.of_heap (w' := w.forCall tape i) (by rfl) hw
 refine (contract (w.forCall tape i) w.heap.size i.args ds gs before hval hw' hsh (hX _ _ _ (by rfl) hx)).mono fun e W' ⟨v, he, hp⟩ => ?_
 subst he
 exact ChangeSpec.post_blind hp
end Go
namespace Go.Proofs.YtpkbdbjdiklepaaGreatDoor
open Go Go.ChangeShapes Go.WideShapes Go.ChangeAt Go.RowKit Go.A Go.Lib Go.Shelf
def wSt (m : Int) : ASt := fun b => if b = 1 then some (.fix ([m].map (AV.int .i64))) else vSt b
theorem wSt_u8 (m : Int) : U8 (wSt m) := ⟨by simp [wSt, vSt, vPs, stOf], by simp [wSt, vSt, vPs, stOf]⟩
theorem wSt_tab (m : Int) : Tab (wSt m) := by simp [Tab, wSt, vSt, vPs, stOf]
theorem wSt_max (m : Int) : MaxL (wSt m) := ⟨m, by simp [wSt]⟩
theorem wSt_fix {m : Int} {b : Nat} {r : Role} (h : wSt m b = some r) : ∃ l, r = .fix l := by
 unfold wSt at h
 split at h
 ·injection h with h; exact ⟨_, h.symm⟩
 ·exact stOf_fix h
theorem w_sim {W : World} (hsh : W.ShapedOpen Tryz.prog) (h : laidMetH Tryz.prog laidV W) : ∃ m, Sim (wSt m) W := by
 rw [MakeChecks.laidMetH_plain _ _ _ (by kernel_rfl)] at h
 have hp : VarReads Tryz.prog W "internal/strconv.uint64pow10" (Lib.tabData .u64 Lib.pow10Tab) := Lib.laidMet.reads h (.tail _ (.tail _ (.head _)))
 have h4 : VarReads Tryz.prog W "unicode/utf8.acceptRanges" acceptData := acc_eq ▸ Lib.laidMet.reads h (.tail _ (.tail _ (.tail _ (.head _))))
 have h3 : VarReads Tryz.prog W "unicode/utf8.first" firstData := first_eq ▸ Lib.laidMet.reads h (.tail _ (.tail _ (.tail _ (.tail _ (.head _)))))
 obtain ⟨m, hm⟩ := Go.Proofs.cell_of_shapedOpen_int (g := 1) (zero := #[.int .i64 0]) (t := 3) hsh (of_decide_eq_true (by kernel_rfl)) (by kernel_rfl) rfl (by kernel_rfl) (by kernel_rfl) Tryz.underlying3
 have hm : W.cell? ⟨1, 0, none⟩ = some (.int .i64 m) := hm
 obtain ⟨cs, hh, hsz, _⟩ := hsh.1 1 #[.int .i64 0] 3 (of_decide_eq_true (by kernel_rfl)) (by kernel_rfl)
 obtain ⟨r1, r2⟩ := u8_roles (σ := wSt m) h3 h4
 refine ⟨m, fun b r hb => ?_⟩
 have hb0 := hb
 unfold wSt at hb
 split at hb
 ·rename_i hbb
  subst hbb
  injection hb with hb
  subst hb
  have hlt : 1 < W.heap.size := (Array.getElem?_eq_some_iff.1 hh).1
  refine ⟨At.mk' (ints_reps _) (fun j _ => ⟨hlt, .inr (.inl ⟨_, hb0⟩)⟩) (fun j v hj => ?_), cs, _, _, hh, hsz⟩
  match j, hj with
  | 0, hj => injection hj with hj; subst hj; exact hm
 ·obtain ⟨l, hl, rfl⟩ := stOf_mem hb
  simp only [vPs, List.mem_cons, List.not_mem_nil, or_false, Prod.mk.injEq] at hl
  rcases hl with ⟨rfl, rfl⟩ | ⟨rfl, rfl⟩ | ⟨rfl, rfl⟩
  ·exact r1 (wSt_u8 m).1
  ·exact r2 (wSt_u8 m).2
  ·exact pow_role (fun _ _ => wSt_fix) hp
theorem calls_w {m : Int} {f : FuncId} {args : List AV} {vs : List Value} {w : World} (h : ACalls Tryz.prog f args (wSt m) fun r σ' => r = .bool true ∧ σ' = wSt m) (hs : Sim (wSt m) w) (hr : Reps (wSt m) w args vs) :
  Calls Tryz.prog f ⟨vs⟩ w fun e w' => e = .returned (.bool true) ∧ Ext w w' :=
 (h w vs hs hr).mono fun e w' ⟨u, r, σ', he, ⟨hrt, hst⟩, hle, _, hrep⟩ => by
  subst hrt hst
  cases hrep
  refine ⟨he, Ext.of_below ⟨hle.os, hle.tape, hle.output, hle.size, fun k hk => ?_⟩⟩
  cases hn : wSt m k with
  | none => exact (hle.keep k hk hn).2
  | some r =>
    obtain ⟨l, rfl⟩ := wSt_fix hn
    exact (hle.fix k _ hk hn).2
end Go.Proofs.YtpkbdbjdiklepaaGreatDoor
namespace Go.Proofs.YtpkbdbjdiklepaaGreatDoor
open Go Go.ChangeShapes Go.WideShapes Go.ChangeAt Go.RowKit Go.A
def refTy : Ty := .pair (.int .i64) (.pair (.int .i64) (.pair .bool (.pair .bool .unit)))
def partTy : Ty := .pair (.int .i64) (.pair (.int .i64) (.pair .str (.pair refTy (.pair refTy .unit))))
theorem parts_of : ∀ xs : List (List AV), (∀ x ∈ xs, partTy.ok x) → ∃ L : List Pt, xs.map partTy.mk = L.map Pt.av
 | [], _ => ⟨[], rfl⟩
 | x :: xs, h => by
   obtain ⟨L, hL⟩ := parts_of xs fun y hy => h y (List.mem_cons_of_mem _ hy)
   obtain ⟨_, _, rfl, ⟨o, rfl, _⟩, _, _, rfl, ⟨n, rfl, _⟩, _, _, rfl, ⟨s, rfl, _⟩, _, _, rfl, ⟨_, _, rfl, ⟨r1, rfl, _⟩, _, _, rfl, ⟨c1, rfl, _⟩, _, _, rfl, ⟨p1, rfl⟩, _, _, rfl, ⟨q1, rfl⟩, rfl⟩, _, _, rfl, ⟨_, _, rfl, ⟨r2, rfl, _⟩, _, _, rfl, ⟨c2, rfl, _⟩, _, _, rfl, ⟨p2, rfl⟩, _, _, rfl, ⟨q2, rfl⟩, rfl⟩, rfl⟩ := h x List.mem_cons_self
   exact ⟨⟨o, n, s, ⟨r1, c1, p1, q1⟩, ⟨r2, c2, p2, q2⟩⟩ :: L, by rw [List.map_cons, hL]; rfl⟩
end Go.Proofs.YtpkbdbjdiklepaaGreatDoor
