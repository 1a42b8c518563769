/- Part 11 of what ShiftBack leans on: Sc CodeSe Se CodeSf Sf Sh Sk CodeSl Sl Ms Mv Mw Mx. -/
import Derived.Test.YtelbefdoehlmhaaGreatDoorProg
import Derived.KernelRfl
import Derived.Test.YtelbefdoehlmhaaGreatDoorRows
import Derived.ProofKit
import Derived.LaidMore
import Derived.OpenShut
import Derived.Stop.LaidErr
import Derived.MakeChecks
import Derived.SevenTiedAt
import Derived.Lay
import Derived.ChangeArms
import Derived.Lib.LaidU8
import Derived.Lib.LaidTab
import Derived.Shelf.Vars
import Derived.HandedShaped
import Derived.Test.YtelbefdoehlmhaaGreatDoorZShiftBackj
set_option linter.defProp false
set_option linter.unusedSimpArgs false
set_option linter.unusedVariables false
set_option maxRecDepth 100000
namespace Go.A
open Go.Proofs Go.Lib
def copyN (rows cols : Int) : Nd → Nd
 | .mk op n s a b ks =>
   if op = 5 then if (movedP a rows cols).2 = true then .mk op n s (movedP a rows cols).1 b ks else goneN
   else if (movedP a rows cols).2 = true ∧ (movedP b rows cols).2 = true then .mk op n s (movedP a rows cols).1 (movedP b rows cols).1 ks else goneN
def Nd.copy (n : Nd) (rows cols : Int) : Nd := Nd.map (copyN rows cols) n
def CopAt (rows cols : Int) (c c2 : Nat) (σ : ASt) : Prop := σ c = some (.obj [.int .i64 rows]) ∧ σ c2 = some (.obj [.int .i64 cols])
theorem shCopy1_ok (rows cols : Int) (c c2 : Nat) (x : Nd) (hx : x.ok) (ho : x.op = 5 ∨ x.op = 6) (σ : ASt) (hσ : CopAt rows cols c c2 σ) :
  ACalls Tryz.prog 33 [x.av, .ptr c 0, .ptr c2 0] σ fun v σ' => v = (copyN rows cols x).av ∧ σ' = σ := by
 obtain ⟨op, n, s, a, b, ks⟩ := x
 have hr := ok_refs hx
 obtain ⟨hs1, hs2⟩ := hσ
 change op = 5 ∨ op = 6 at ho
 have hg : Pure Tryz.prog 35 [] (.agg [.int .i64 4, .int .i64 40000, .str [], .int .i64 0, .int .i64 0, .bool false, .bool false, .int .i64 0, .int .i64 0, .bool false, .bool false, .sl .shr []]) := by
  have := shgone_ok
  rw [Nd.av_cs] at this
  exact this
 have hga := gone_av
 have na := good_near (hr.1 ho)
 have hm := moved_ok a rows cols ⟨na.1, na.2.1⟩ ⟨na.2.2.1, na.2.2.2⟩
 have hm2 : op ≠ 5 → Pure Tryz.prog 34 [refAV b, .int .i64 rows, .int .i64 cols] (.tuple [refAV (movedP b rows cols).1, .bool (movedP b rows cols).2]) := fun h => by
  have nb := good_near (hr.2 (by omega))
  exact moved_ok b rows cols ⟨nb.1, nb.2.1⟩ ⟨nb.2.2.1, nb.2.2.2⟩
 have hav : ∀ r u : Ref, (Nd.mk op n s r u ks).av = .agg [.int .i64 op, .int .i64 n, .str s, .int .i64 r.row, .int .i64 r.col, .bool r.absRow, .bool r.absCol, .int .i64 u.row, .int .i64 u.col, .bool u.absRow, .bool u.absCol, .sl .shr (ks.map Nd.av)] := fun r u => Nd.av_cs ..
 rw [copyN, hav]
 obtain ⟨⟨a', ok⟩, hA⟩ : ∃ q, movedP a rows cols = q := ⟨_, rfl⟩
 obtain ⟨⟨b', ok2⟩, hB⟩ : ∃ q, movedP b rows cols = q := ⟨_, rfl⟩
 rw [hA] at hm ⊢
 rw [hB] at hm2 ⊢
 dsimp only at hm hm2 ⊢
 unfold refAV at hm hm2
 by_cases h5 : op = 5
 ·rw [if_pos h5]
  cases ok with
  | true =>
    rw [if_pos rfl, hav]
    generalize ks.map Nd.av = L at *
    refine a33 (by simp) ?_
    simp (disch := first | assumption | omega) only [go_sem]
    refine boxC_by rfl fun d hd => ?_
    have hcd : c ≠ d := by rintro rfl; rw [hd] at hs1; cases hs1
    have hcd2 : c2 ≠ d := by rintro rfl; rw [hd] at hs2; cases hs2
    simp (disch := first | assumption | omega) only [go_sem]
    refine allocC_by fun t ht => ?_
    have hct : c ≠ t := by rintro rfl; rw [ASt.set_ne hcd, hs1] at ht; cases ht
    have hct2 : c2 ≠ t := by rintro rfl; rw [ASt.set_ne hcd2, hs2] at ht; cases ht
    repeat (with_reducible replace ht := set_none ht; obtain ⟨_, _, ht⟩ := ht)
    have hdt : d ≠ t := by assumption
    simp (disch := first | assumption | omega) only [go_sem, Nat.reduceEqDiff, Nat.reduceAdd, Nat.reduceLeDiff, ↓reduceIte, hs1, hs2]
    refine hm.use ?_
    simp (disch := first | assumption | omega) only [go_sem, Nat.reduceEqDiff, ↓reduceIte]
    refine allocC_by fun u hu => ?_
    repeat (with_reducible replace hu := set_none hu; obtain ⟨_, _, hu⟩ := hu)
    have hdu : d ≠ u := by assumption
    have htu : t ≠ u := by assumption
    have hsw : ∀ (ρ : ASt) (X Y Z W : Option Role), (((ρ.set d X).set t Y).set u Z).set d W = ((ρ.set d W).set t Y).set u Z := fun ρ X Y Z W => by rw [set_swap (Ne.symm hdu), set_mid hdt]
    have hsw2 : ∀ (ρ : ASt) (X Y Z : Option Role), ((ρ.set t X).set u Y).set t Z = (ρ.set t Z).set u Y := fun _ _ _ _ => set_mid htu
    simp (disch := first | assumption | omega) only [go_sem, Nat.reduceEqDiff, Nat.reduceAdd, Nat.reduceLeDiff, ↓reduceIte, Bool.true_and, h5, hsw, hsw2, ASt.set_set]
    exact retC_by (by repeat' (first | exact Drop.refl _ | with_reducible refine Drop.off ?_ (by assumption))) (.refl _) ⟨rfl, rfl⟩
  | false =>
    rw [if_neg (by simp), hga]
    generalize ks.map Nd.av = L at *
    refine a33 (by simp) ?_
    simp (disch := first | assumption | omega) only [go_sem]
    refine boxC_by rfl fun d hd => ?_
    have hcd : c ≠ d := by rintro rfl; rw [hd] at hs1; cases hs1
    have hcd2 : c2 ≠ d := by rintro rfl; rw [hd] at hs2; cases hs2
    simp (disch := first | assumption | omega) only [go_sem]
    refine allocC_by fun t ht => ?_
    have hct : c ≠ t := by rintro rfl; rw [ASt.set_ne hcd, hs1] at ht; cases ht
    have hct2 : c2 ≠ t := by rintro rfl; rw [ASt.set_ne hcd2, hs2] at ht; cases ht
    repeat (with_reducible replace ht := set_none ht; obtain ⟨_, _, ht⟩ := ht)
    simp (disch := first | assumption | omega) only [go_sem, Nat.reduceEqDiff, Nat.reduceAdd, Nat.reduceLeDiff, ↓reduceIte, hs1, hs2]
    refine hm.use ?_
    simp (disch := first | assumption | omega) only [go_sem, Nat.reduceEqDiff, ↓reduceIte]
    refine allocC_by fun u hu => ?_
    repeat (with_reducible replace hu := set_none hu; obtain ⟨_, _, hu⟩ := hu)
    have htu : t ≠ u := by assumption
    have hsw2 : ∀ (ρ : ASt) (X Y Z : Option Role), ((ρ.set t X).set u Y).set t Z = (ρ.set t Z).set u Y := fun _ _ _ _ => set_mid htu
    simp (disch := first | assumption | omega) only [go_sem, Nat.reduceEqDiff, Nat.reduceAdd, Nat.reduceLeDiff, ↓reduceIte, Bool.true_and, h5, ASt.set_set]
    refine hg.use ?_
    simp (disch := first | assumption | omega) only [go_sem, Nat.reduceEqDiff, Nat.reduceAdd, Nat.reduceLeDiff, ↓reduceIte, Bool.true_and, hsw2]
    exact retC_by (by repeat' (first | exact Drop.refl _ | with_reducible refine Drop.off ?_ (by assumption))) (.refl _) ⟨rfl, rfl⟩
 ·rw [if_neg h5]
  have hm2 := hm2 h5
  cases ok with
  | true =>
    cases ok2 with
    | true =>
      rw [if_pos ⟨rfl, rfl⟩, hav]
      generalize ks.map Nd.av = L at *
      refine a33 (by simp) ?_
      simp (disch := first | assumption | omega) only [go_sem]
      refine boxC_by rfl fun d hd => ?_
      have hcd : c ≠ d := by rintro rfl; rw [hd] at hs1; cases hs1
      have hcd2 : c2 ≠ d := by rintro rfl; rw [hd] at hs2; cases hs2
      simp (disch := first | assumption | omega) only [go_sem]
      refine allocC_by fun t ht => ?_
      have hct : c ≠ t := by rintro rfl; rw [ASt.set_ne hcd, hs1] at ht; cases ht
      have hct2 : c2 ≠ t := by rintro rfl; rw [ASt.set_ne hcd2, hs2] at ht; cases ht
      have ht0 := ht
      repeat (with_reducible replace ht := set_none ht; obtain ⟨_, _, ht⟩ := ht)
      have hdt : d ≠ t := by assumption
      simp (disch := first | assumption | omega) only [go_sem, Nat.reduceEqDiff, Nat.reduceAdd, Nat.reduceLeDiff, ↓reduceIte, hs1, hs2]
      refine hm.use ?_
      simp (disch := first | assumption | omega) only [go_sem, Nat.reduceEqDiff, ↓reduceIte]
      refine allocC_by fun u hu => ?_
      have hcu : c ≠ u := by rintro rfl; rw [ASt.set_ne hct, ASt.set_ne hcd, hs1] at hu; cases hu
      have hcu2 : c2 ≠ u := by rintro rfl; rw [ASt.set_ne hct2, ASt.set_ne hcd2, hs2] at hu; cases hu
      repeat (with_reducible replace hu := set_none hu; obtain ⟨_, _, hu⟩ := hu)
      have hdu : d ≠ u := by assumption
      have htu : t ≠ u := by assumption
      simp (disch := first | assumption | omega) only [go_sem, Nat.reduceEqDiff, Nat.reduceAdd, Nat.reduceLeDiff, ↓reduceIte, Bool.true_and, h5, hs1, hs2]
      refine hm2.use ?_
      simp (disch := first | assumption | omega) only [go_sem, Nat.reduceEqDiff, ↓reduceIte]
      refine allocC_by fun w hw => ?_
      repeat (with_reducible replace hw := set_none hw; obtain ⟨_, _, hw⟩ := hw)
      have hdw : d ≠ w := by assumption
      have htw : t ≠ w := by assumption
      have huw : u ≠ w := by assumption
      have hsw : ∀ (ρ : ASt) (X Y Z V W : Option Role), ((((ρ.set d X).set t Y).set u Z).set w V).set d W = (((ρ.set d W).set t Y).set u Z).set w V := fun ρ X Y Z V W => by rw [set_swap (Ne.symm hdw), set_swap (Ne.symm hdu), set_mid hdt]
      have hsw2 : ∀ (ρ : ASt) (X Y Z V : Option Role), (((ρ.set t X).set u Y).set w Z).set t V = ((ρ.set t V).set u Y).set w Z := fun ρ X Y Z V => by rw [set_swap (Ne.symm htw), set_mid htu]
      have hsw3 : ∀ (ρ : ASt) (X Y Z : Option Role), ((ρ.set u X).set w Y).set u Z = (ρ.set u Z).set w Y := fun _ _ _ _ => set_mid huw
      simp (disch := first | assumption | omega) only [go_sem, Nat.reduceEqDiff, Nat.reduceAdd, Nat.reduceLeDiff, ↓reduceIte, Bool.true_and, hsw, hsw2, ASt.set_set]
      exact retC_by (by repeat' (first | exact Drop.refl _ | with_reducible refine Drop.off ?_ (by assumption))) (.refl _) ⟨rfl, rfl⟩
    | false =>
      rw [if_neg (by simp), hga]
      generalize ks.map Nd.av = L at *
      refine a33 (by simp) ?_
      simp (disch := first | assumption | omega) only [go_sem]
      refine boxC_by rfl fun d hd => ?_
      have hcd : c ≠ d := by rintro rfl; rw [hd] at hs1; cases hs1
      have hcd2 : c2 ≠ d := by rintro rfl; rw [hd] at hs2; cases hs2
      simp (disch := first | assumption | omega) only [go_sem]
      refine allocC_by fun t ht => ?_
      have hct : c ≠ t := by rintro rfl; rw [ASt.set_ne hcd, hs1] at ht; cases ht
      have hct2 : c2 ≠ t := by rintro rfl; rw [ASt.set_ne hcd2, hs2] at ht; cases ht
      repeat (with_reducible replace ht := set_none ht; obtain ⟨_, _, ht⟩ := ht)
      simp (disch := first | assumption | omega) only [go_sem, Nat.reduceEqDiff, Nat.reduceAdd, Nat.reduceLeDiff, ↓reduceIte, hs1, hs2]
      refine hm.use ?_
      simp (disch := first | assumption | omega) only [go_sem, Nat.reduceEqDiff, ↓reduceIte]
      refine allocC_by fun u hu => ?_
      have hcu : c ≠ u := by rintro rfl; rw [ASt.set_ne hct, ASt.set_ne hcd, hs1] at hu; cases hu
      have hcu2 : c2 ≠ u := by rintro rfl; rw [ASt.set_ne hct2, ASt.set_ne hcd2, hs2] at hu; cases hu
      repeat (with_reducible replace hu := set_none hu; obtain ⟨_, _, hu⟩ := hu)
      have htu : t ≠ u := by assumption
      simp (disch := first | assumption | omega) only [go_sem, Nat.reduceEqDiff, Nat.reduceAdd, Nat.reduceLeDiff, ↓reduceIte, Bool.true_and, h5, hs1, hs2]
      refine hm2.use ?_
      simp (disch := first | assumption | omega) only [go_sem, Nat.reduceEqDiff, ↓reduceIte]
      refine allocC_by fun w hw => ?_
      repeat (with_reducible replace hw := set_none hw; obtain ⟨_, _, hw⟩ := hw)
      have htw : t ≠ w := by assumption
      have huw : u ≠ w := by assumption
      have hsw2 : ∀ (ρ : ASt) (X Y Z V : Option Role), (((ρ.set t X).set u Y).set w Z).set t V = ((ρ.set t V).set u Y).set w Z := fun ρ X Y Z V => by rw [set_swap (Ne.symm htw), set_mid htu]
      simp (disch := first | assumption | omega) only [go_sem, Nat.reduceEqDiff, Nat.reduceAdd, Nat.reduceLeDiff, ↓reduceIte, Bool.true_and, ASt.set_set]
      refine hg.use ?_
      simp (disch := first | assumption | omega) only [go_sem, Nat.reduceEqDiff, Nat.reduceAdd, Nat.reduceLeDiff, ↓reduceIte, Bool.true_and, hsw2]
      exact retC_by (by repeat' (first | exact Drop.refl _ | with_reducible refine Drop.off ?_ (by assumption))) (.refl _) ⟨rfl, rfl⟩
  | false =>
    rw [if_neg (by simp), hga]
    generalize ks.map Nd.av = L at *
    refine a33 (by simp) ?_
    simp (disch := first | assumption | omega) only [go_sem]
    refine boxC_by rfl fun d hd => ?_
    have hcd : c ≠ d := by rintro rfl; rw [hd] at hs1; cases hs1
    have hcd2 : c2 ≠ d := by rintro rfl; rw [hd] at hs2; cases hs2
    simp (disch := first | assumption | omega) only [go_sem]
    refine allocC_by fun t ht => ?_
    have hct : c ≠ t := by rintro rfl; rw [ASt.set_ne hcd, hs1] at ht; cases ht
    have hct2 : c2 ≠ t := by rintro rfl; rw [ASt.set_ne hcd2, hs2] at ht; cases ht
    repeat (with_reducible replace ht := set_none ht; obtain ⟨_, _, ht⟩ := ht)
    simp (disch := first | assumption | omega) only [go_sem, Nat.reduceEqDiff, Nat.reduceAdd, Nat.reduceLeDiff, ↓reduceIte, hs1, hs2]
    refine hm.use ?_
    simp (disch := first | assumption | omega) only [go_sem, Nat.reduceEqDiff, ↓reduceIte]
    refine allocC_by fun u hu => ?_
    have hcu : c ≠ u := by rintro rfl; rw [ASt.set_ne hct, ASt.set_ne hcd, hs1] at hu; cases hu
    have hcu2 : c2 ≠ u := by rintro rfl; rw [ASt.set_ne hct2, ASt.set_ne hcd2, hs2] at hu; cases hu
    repeat (with_reducible replace hu := set_none hu; obtain ⟨_, _, hu⟩ := hu)
    have htu : t ≠ u := by assumption
    simp (disch := first | assumption | omega) only [go_sem, Nat.reduceEqDiff, Nat.reduceAdd, Nat.reduceLeDiff, ↓reduceIte, Bool.true_and, h5, hs1, hs2]
    refine hm2.use ?_
    simp (disch := first | assumption | omega) only [go_sem, Nat.reduceEqDiff, ↓reduceIte]
    refine allocC_by fun w hw => ?_
    repeat (with_reducible replace hw := set_none hw; obtain ⟨_, _, hw⟩ := hw)
    have htw : t ≠ w := by assumption
    have huw : u ≠ w := by assumption
    have hsw2 : ∀ (ρ : ASt) (X Y Z V : Option Role), (((ρ.set t X).set u Y).set w Z).set t V = ((ρ.set t V).set u Y).set w Z := fun ρ X Y Z V => by rw [set_swap (Ne.symm htw), set_mid htu]
    simp (disch := first | assumption | omega) only [go_sem, Nat.reduceEqDiff, Nat.reduceAdd, Nat.reduceLeDiff, ↓reduceIte, Bool.true_and, ASt.set_set]
    refine hg.use ?_
    simp (disch := first | assumption | omega) only [go_sem, Nat.reduceEqDiff, Nat.reduceAdd, Nat.reduceLeDiff, ↓reduceIte, Bool.true_and, hsw2]
    exact retC_by (by repeat' (first | exact Drop.refl _ | with_reducible refine Drop.off ?_ (by assumption))) (.refl _) ⟨rfl, rfl⟩
theorem copy_map (rows cols : Int) (c c2 : Nat) : MapG Nd.ok (.func (.func 33) [] [.ptr c 0, .ptr c2 0]) (copyN rows cols) (CopAt rows cols c c2) := by
 refine ⟨33, [.ptr c 0, .ptr c2 0], rfl, by kernel_rfl, fun σ b r hσ hb => ⟨?_, ?_⟩, fun x σ hσ hx ho => shCopy1_ok rows cols c c2 x hx ho σ hσ⟩
 ·rw [ASt.set_ne]
  ·exact hσ.1
  ·rintro rfl; rw [hσ.1] at hb; cases hb
 ·rw [ASt.set_ne]
  ·exact hσ.2
  ·rintro rfl; rw [hσ.2] at hb; cases hb
theorem shcopy_ok (n : Nd) (hn : n.ok) (hs : n.size ≤ 1000000000) (rows cols : Int) : Pure Tryz.prog 13 [n.av, .int .i64 rows, .int .i64 cols] (n.copy rows cols).av := by
 intro σ
 have hM := fun c c2 => mapg_le _ (copyN rows cols) (CopAt rows cols c c2) Nd.ok ok_kids (copy_map rows cols c c2) n.size n (Nat.le_refl _) hs hn
 unfold Nd.copy
 obtain ⟨⟨wo, wm, ws, wa, wb, wk⟩, hw⟩ : ∃ w, Nd.map (copyN rows cols) n = w := ⟨_, rfl⟩
 rw [hw, Nd.av_cs]
 simp only [hw, Nd.av_cs] at hM
 obtain ⟨op, m, s, a, b, ks⟩ := n
 have hav : (Nd.mk op m s a b ks).av = .agg [.int .i64 op, .int .i64 m, .str s, .int .i64 a.row, .int .i64 a.col, .bool a.absRow, .bool a.absCol, .int .i64 b.row, .int .i64 b.col, .bool b.absRow, .bool b.absCol, .sl .shr (ks.map Nd.av)] := Nd.av_cs ..
 rw [hav]
 unfold Nd.cs at hM ⊢
 simp only [hav] at hM
 generalize ks.map Nd.av = L at *
 generalize wk.map Nd.av = WL at *
 refine a13 (by simp) ?_
 simp (disch := first | assumption | omega) only [go_sem]
 refine boxC_by rfl fun d hd => ?_
 simp (disch := first | assumption | omega) only [go_sem, Nat.reduceEqDiff, ↓reduceIte]
 refine boxC_by rfl fun c hc => ?_
 have hdc : d ≠ c := by rintro rfl; rw [ASt.set_same] at hc; cases hc
 repeat (with_reducible replace hc := set_none hc; obtain ⟨_, _, hc⟩ := hc)
 simp (disch := first | assumption | omega) only [go_sem, Nat.reduceEqDiff, ↓reduceIte]
 refine boxC_by rfl fun c2 hc2 => ?_
 have hcc : c ≠ c2 := by rintro rfl; rw [ASt.set_same] at hc2; cases hc2
 repeat (with_reducible replace hc2 := set_none hc2; obtain ⟨_, _, hc2⟩ := hc2)
 simp (disch := first | assumption | omega) only [go_sem]
 refine allocC_by fun t ht => ?_
 have hct2 : c2 ≠ t := by rintro rfl; rw [ASt.set_same] at ht; cases ht
 have hct : c ≠ t := by rintro rfl; rw [ASt.set_ne hcc, ASt.set_same] at ht; cases ht
 repeat (with_reducible replace ht := set_none ht; obtain ⟨_, _, ht⟩ := ht)
 simp (disch := first | assumption | omega) only [go_sem, Nat.reduceEqDiff, Nat.reduceAdd, Nat.reduceLeDiff, ↓reduceIte]
 refine (hM c c2 _ ⟨?_, ?_⟩).mono ?_
 ·rw [ASt.set_ne hct, ASt.set_ne hcc, ASt.set_same]
 ·rw [ASt.set_ne hct2, ASt.set_same]
 rintro v σ' ⟨rfl, rfl⟩
 simp (disch := first | assumption | omega) only [go_sem, Nat.reduceEqDiff, Nat.reduceAdd, Nat.reduceLeDiff, ↓reduceIte, Bool.true_and, ASt.set_set]
 exact retC_by (by repeat' (first | exact Drop.refl _ | with_reducible refine Drop.off ?_ (by assumption))) (.refl _) ⟨rfl, rfl⟩
mutual
def Nd.okB : Nd → Bool
 | .mk op n s a b ks => (decide (1 ≤ op ∧ op ≤ 23) && (decide (op ≠ 1) || decide (n.natAbs ≤ 999999999999999999)) && (decide (op ≠ 2) || decide (s.length ≤ 100000)) && (decide (op ≠ 4) || decide (1 ≤ n.tdiv 10000 ∧ n.tdiv 10000 ≤ 7)) && (decide (op ≠ 22) || !s.isEmpty) && (decide (¬ (op = 5 ∨ op = 6)) || a.good) && (decide (op ≠ 6) || b.good) && (decide (¬ (op = 7 ∨ op = 8 ∨ op = 9)) || decide (1 ≤ ks.length)) && (decide (¬ (10 ≤ op ∧ op ≤ 21)) || decide (2 ≤ ks.length)) && decide (ks.length ≤ 1000000)) && Nd.oksB ks
def Nd.oksB : List Nd → Bool
 | [] => true
 | x :: xs => Nd.okB x && Nd.oksB xs
end
mutual
theorem okB_ok : ∀ {n : Nd}, n.okB = true → n.ok
 | .mk op n s a b ks, h => by
   rw [Nd.okB] at h
   simp only [Bool.and_eq_true, Bool.or_eq_true, decide_eq_true_eq, Bool.not_eq_true'] at h
   obtain ⟨⟨⟨⟨⟨⟨⟨⟨⟨⟨h1, h2⟩, h3⟩, h4⟩, h5⟩, h6⟩, h7⟩, h8⟩, h9⟩, h10⟩, h11⟩ := h
   rw [Nd.ok]
   refine ⟨⟨h1, fun h => h2.resolve_left (by omega), fun h => h3.resolve_left (by omega), fun h => h4.resolve_left (by omega), fun h hs => ?_, fun h => h6.resolve_left (fun k => k h), fun h => h7.resolve_left (by omega), fun h => h8.resolve_left (fun k => k h), fun h => h9.resolve_left (fun k => k h), h10⟩, oksB_ok h11⟩
   have := h5.resolve_left (by omega)
   rw [hs] at this
   cases this
theorem oksB_ok : ∀ {l : List Nd}, Nd.oksB l = true → Nd.oks l
 | [], _ => trivial
 | x :: xs, h => by
   rw [Nd.oksB, Bool.and_eq_true] at h
   exact ⟨okB_ok h.1, oksB_ok h.2⟩
end
def edIn : Edt := ⟨false, 1, 1, 2, 0⟩
def edOut : Edt := ⟨false, 2, 1, 1, 0⟩
def edMove : Edt := ⟨false, 3, 0, 1, 2⟩
def awT : List UInt8 := [65, 49, 43, 65, 50, 43, 65, 49, 58, 65, 51]
theorem aw_0 : (parseR awT).2.2 = 0 ∧ (parseR awT).1.size = 5 := by decide +kernel
theorem aw_1 : (parseR awT).1.okB = true := by decide +kernel
theorem aw_2 : (edIn.tree (parseR awT).1).okB = true ∧ (edOut.tree (parseR awT).1).okB = true ∧ (edMove.tree (parseR awT).1).okB = true ∧ ((parseR awT).1.copy 1 1).okB = true := by decide +kernel
theorem aw_3 : (edIn.tree (parseR awT).1).spell = [65, 49, 43, 65, 52, 43, 65, 49, 58, 65, 53] ∧ (edOut.tree (parseR awT).1).spell = [65, 49, 43, 35, 82, 69, 70, 33, 43, 65, 49, 58, 65, 50] ∧
  (edMove.tree (parseR awT).1).spell = [65, 51, 43, 65, 49, 43, 65, 50, 58, 65, 51] ∧ ((parseR awT).1.copy 1 1).spell = [66, 50, 43, 66, 51, 43, 66, 50, 58, 66, 52] := by decide +kernel
end Go.A
namespace Go.A
open Go.Proofs
/-! 4: tabular/tabularlaw14.ShiftMoves -/
/-! 10: tabular/tabularlaw14.awake -/
def c10_0 : ACode := .ops [
 ⟨some 0, none, .q (.mv (.v (.bool false))), []⟩]
def c10_1 : ACode := .ops [
 ⟨some 8, none, .e (.call 8 [(.v (.str [65, 49, 43, 65, 50, 43, 65, 49, 58, 65, 51]))]), []⟩,
 ⟨some 7, none, .q (.mv (.t 8)), []⟩,
 ⟨some 9, none, .q (.ext 0 (.t 7)), []⟩,
 ⟨some 10, none, .q (.ext 1 (.t 7)), []⟩,
 ⟨some 11, none, .q (.ext 2 (.t 7)), []⟩,
 ⟨some 1, none, .e (.alloc [(.int .i64 0), (.int .i64 0), (.str []), (.int .i64 0), (.int .i64 0), (.bool false), (.bool false), (.int .i64 0), (.int .i64 0), (.bool false), (.bool false), (.sl .full [])]), []⟩,
 ⟨none, none, .e (.store 12 (.t 1) (.t 9)), []⟩,
 ⟨some 2, none, .q (.mv (.t 10)), []⟩,
 ⟨some 3, none, .q (.mv (.t 11)), []⟩]
def c10_2 : ACode := .ops [
 ⟨some 12, none, .q (.build [(.bool false), (.int .i64 0), (.int .i64 0), (.int .i64 0), (.int .i64 0)] [(1, 1, (.v (.int .i64 1))), (2, 1, (.v (.int .i64 1))), (3, 1, (.v (.int .i64 2)))]), []⟩,
 ⟨some 4, none, .e (.alloc [(.bool false), (.int .i64 0), (.int .i64 0), (.int .i64 0), (.int .i64 0)]), []⟩,
 ⟨none, none, .e (.store 5 (.t 4) (.t 12)), []⟩]
def c10_3 : ACode := .ops [
 ⟨some 13, none, .q (.build [(.bool false), (.int .i64 0), (.int .i64 0), (.int .i64 0), (.int .i64 0)] [(1, 1, (.v (.int .i64 2))), (2, 1, (.v (.int .i64 1))), (3, 1, (.v (.int .i64 1)))]), []⟩,
 ⟨some 5, none, .e (.alloc [(.bool false), (.int .i64 0), (.int .i64 0), (.int .i64 0), (.int .i64 0)]), []⟩,
 ⟨none, none, .e (.store 5 (.t 5) (.t 13)), []⟩]
def c10_4 : ACode := .ops [
 ⟨some 14, none, .q (.build [(.bool false), (.int .i64 0), (.int .i64 0), (.int .i64 0), (.int .i64 0)] [(1, 1, (.v (.int .i64 3))), (2, 1, (.v (.int .i64 0))), (3, 1, (.v (.int .i64 1))), (4, 1, (.v (.int .i64 2)))]), []⟩,
 ⟨some 6, none, .e (.alloc [(.bool false), (.int .i64 0), (.int .i64 0), (.int .i64 0), (.int .i64 0)]), []⟩,
 ⟨none, none, .e (.store 5 (.t 6) (.t 14)), []⟩]
def c10_5 : ACode := .ops [
 ⟨some 15, none, .q (.mv (.t 3)), []⟩,
 ⟨some 16, none, .q (.bin .eql (.t 15) (.v (.int .i64 0))), []⟩,
 ⟨some 17, none, .q (.mv (.t 16)), []⟩,
 ⟨some 18, some (17, true), .q (.ld (some 5) (.t 4)), []⟩,
 ⟨some 19, some (17, true), .q (.ld (some 12) (.t 1)), []⟩,
 ⟨some 20, some (17, true), .e (.call 17 [(.t 18), (.t 19)]), []⟩,
 ⟨some 21, some (17, true), .e (.call 31 [(.t 20)]), []⟩,
 ⟨some 22, some (17, true), .q (.bin .eql (.t 21) (.v (.str [65, 49, 43, 65, 52, 43, 65, 49, 58, 65, 53]))), []⟩,
 ⟨some 23, none, .q (.pick (.t 17) (.t 22) (.v (.bool false))), []⟩,
 ⟨some 24, none, .q (.mv (.t 23)), []⟩,
 ⟨some 25, some (24, true), .q (.ld (some 5) (.t 5)), []⟩,
 ⟨some 26, some (24, true), .q (.ld (some 12) (.t 1)), []⟩,
 ⟨some 27, some (24, true), .e (.call 17 [(.t 25), (.t 26)]), []⟩,
 ⟨some 28, some (24, true), .e (.call 31 [(.t 27)]), []⟩,
 ⟨some 29, some (24, true), .q (.bin .eql (.t 28) (.v (.str [65, 49, 43, 35, 82, 69, 70, 33, 43, 65, 49, 58, 65, 50]))), []⟩,
 ⟨some 30, none, .q (.pick (.t 24) (.t 29) (.v (.bool false))), []⟩,
 ⟨some 31, none, .q (.mv (.t 30)), []⟩,
 ⟨some 32, some (31, true), .q (.ld (some 5) (.t 6)), []⟩,
 ⟨some 33, some (31, true), .q (.ld (some 12) (.t 1)), []⟩,
 ⟨some 34, some (31, true), .e (.call 17 [(.t 32), (.t 33)]), []⟩,
 ⟨some 35, some (31, true), .e (.call 31 [(.t 34)]), []⟩,
 ⟨some 36, some (31, true), .q (.bin .eql (.t 35) (.v (.str [65, 51, 43, 65, 49, 43, 65, 50, 58, 65, 51]))), []⟩,
 ⟨some 37, none, .q (.pick (.t 31) (.t 36) (.v (.bool false))), []⟩,
 ⟨some 38, none, .q (.mv (.t 37)), []⟩,
 ⟨some 39, some (38, true), .q (.ld (some 12) (.t 1)), []⟩,
 ⟨some 40, some (38, true), .e (.call 13 [(.t 39), (.v (.int .i64 1)), (.v (.int .i64 1))]), []⟩,
 ⟨some 41, some (38, true), .e (.call 31 [(.t 40)]), []⟩,
 ⟨some 42, some (38, true), .q (.bin .eql (.t 41) (.v (.str [66, 50, 43, 66, 51, 43, 66, 50, 58, 66, 52]))), []⟩,
 ⟨some 43, none, .q (.pick (.t 38) (.t 42) (.v (.bool false))), []⟩,
 ⟨some 0, none, .q (.mv (.t 43)), []⟩]
def c10_6 : ACode := .seq c10_5 .ret
def c10_7 : ACode := .seq c10_4 c10_6
def c10_8 : ACode := .seq c10_3 c10_7
def c10_9 : ACode := .seq c10_2 c10_8
def c10_10 : ACode := .seq c10_1 c10_9
def c10_11 : ACode := .seq c10_0 c10_10
@[go_sem] def c10_0_wp := wp_of c10_0.eq_1
@[go_sem] def c10_1_wp := wp_of c10_1.eq_1
@[go_sem] def c10_2_wp := wp_of c10_2.eq_1
@[go_sem] def c10_3_wp := wp_of c10_3.eq_1
@[go_sem] def c10_4_wp := wp_of c10_4.eq_1
@[go_sem] def c10_5_wp := wp_of c10_5.eq_1
@[go_sem] def c10_6_wp := wp_of c10_6.eq_1
@[go_sem] def c10_7_wp := wp_of c10_7.eq_1
@[go_sem] def c10_8_wp := wp_of c10_8.eq_1
@[go_sem] def c10_9_wp := wp_of c10_9.eq_1
@[go_sem] def c10_10_wp := wp_of c10_10.eq_1
@[go_sem] def c10_11_wp := wp_of c10_11.eq_1
def c10 : AFn := ⟨44, [.t 0], c10_11⟩
theorem c10_ok : compF Tryz.prog Tryz.f10 = some c10 := by kernel_rfl
theorem a10 {args : List AV} {σ : ASt} {R : AV → ASt → Prop} (hl : args.length ≤ 44) (h : c10_11.wp Tryz.prog (RetQ [.t 0] R) (init args) σ) : ACalls Tryz.prog 10 args σ R := acalls_of Tryz.func10 c10_ok hl h
end Go.A
namespace Go.A
open Go.Proofs Go.Lib
theorem LV.set {σ : ASt} {b : Nat} {r : Option Role} (h : LV σ) (hb : σ b = none) : LV (σ.set b r) := by
 unfold LV at h ⊢
 rw [ASt.set_ne]
 ·exact h
 ·intro e; rw [e, hb] at h; cases h
theorem shawake_ok {σ : ASt} (hT : Tab σ) (hM : MaxL σ) (hU : U8 σ) (hV : LV σ) : ACalls Tryz.prog 10 [] σ fun v σ' => v = .bool true ∧ σ' = σ := by
 have hP := parseR_ok hU hV [65, 49, 43, 65, 50, 43, 65, 49, 58, 65, 51] (by decide)
 obtain ⟨f0, f1⟩ := aw_0
 have f2 := aw_1
 obtain ⟨f3, f4, f5, f6⟩ := aw_2
 obtain ⟨g3, g4, g5, g6⟩ := aw_3
 unfold awT at f0 f1 f2 f3 f4 f5 f6 g3 g4 g5 g6
 obtain ⟨⟨n, k, er⟩, hR⟩ : ∃ R, parseR [65, 49, 43, 65, 50, 43, 65, 49, 58, 65, 51] = R := ⟨_, rfl⟩
 rw [hR] at hP f0 f1 f2 f3 f4 f5 f6 g3 g4 g5 g6
 dsimp only at hP f0 f1 f2 f3 f4 f5 f6 g3 g4 g5 g6
 subst f0
 have hn := okB_ok f2
 have t1 : Pure Tryz.prog 17 [.agg [.bool false, .int .i64 1, .int .i64 1, .int .i64 2, .int .i64 0], n.av] (edIn.tree n).av := shtree_ok edIn ⟨by decide, by decide, by decide, by decide, fun h => absurd rfl h⟩ n hn (by omega)
 have t2 : Pure Tryz.prog 17 [.agg [.bool false, .int .i64 2, .int .i64 1, .int .i64 1, .int .i64 0], n.av] (edOut.tree n).av := shtree_ok edOut ⟨by decide, by decide, by decide, by decide, fun _ h => absurd rfl h⟩ n hn (by omega)
 have t3 : Pure Tryz.prog 17 [.agg [.bool false, .int .i64 3, .int .i64 0, .int .i64 1, .int .i64 2], n.av] (edMove.tree n).av := shtree_ok edMove ⟨by decide, by decide, by decide, by decide, fun _ _ => by decide⟩ n hn (by omega)
 have t4 := shcopy_ok n hn (by omega) 1 1
 have p1 := fun (τ : ASt) (hT : Tab τ) (hM : MaxL τ) => print_ok hT hM (edIn.tree n) (okB_ok f3) (by rw [g3]; decide)
 have p2 := fun (τ : ASt) (hT : Tab τ) (hM : MaxL τ) => print_ok hT hM (edOut.tree n) (okB_ok f4) (by rw [g4]; decide)
 have p3 := fun (τ : ASt) (hT : Tab τ) (hM : MaxL τ) => print_ok hT hM (edMove.tree n) (okB_ok f5) (by rw [g5]; decide)
 have p4 := fun (τ : ASt) (hT : Tab τ) (hM : MaxL τ) => print_ok hT hM (n.copy 1 1) (okB_ok f6) (by rw [g6]; decide)
 simp only [g3] at p1
 simp only [g4] at p2
 simp only [g5] at p3
 simp only [g6] at p4
 clear f1 f2 f3 f4 f5 f6 g3 g4 g5 g6 hR
 generalize (edIn.tree n).av = T1 at *
 generalize (edOut.tree n).av = T2 at *
 generalize (edMove.tree n).av = T3 at *
 generalize (n.copy 1 1).av = T4 at *
 obtain ⟨op, m, s, a, b, ks⟩ := n
 have hav : (Nd.mk op m s a b ks).av = .agg [.int .i64 op, .int .i64 m, .str s, .int .i64 a.row, .int .i64 a.col, .bool a.absRow, .bool a.absCol, .int .i64 b.row, .int .i64 b.col, .bool b.absRow, .bool b.absCol, .sl .shr (ks.map Nd.av)] := Nd.av_cs ..
 rw [hav] at hP t1 t2 t3 t4
 generalize ks.map Nd.av = L at *
 refine a10 (by simp) ?_
 simp (disch := first | assumption | omega) only [go_sem]
 refine hP.mono ?_
 rintro v σ' ⟨rfl, rfl⟩
 simp (disch := first | assumption | omega) only [go_sem, Nat.reduceEqDiff, ↓reduceIte]
 refine allocC_by fun b1 h1 => ?_
 have T1' := Tab.set (r := some (.obj [.int .i64 op, .int .i64 m, .str s, .int .i64 a.row, .int .i64 a.col, .bool a.absRow, .bool a.absCol, .int .i64 b.row, .int .i64 b.col, .bool b.absRow, .bool b.absCol, .sl .shr L])) hT h1
 have M1' := MaxL.set (r := some (.obj [.int .i64 op, .int .i64 m, .str s, .int .i64 a.row, .int .i64 a.col, .bool a.absRow, .bool a.absCol, .int .i64 b.row, .int .i64 b.col, .bool b.absRow, .bool b.absCol, .sl .shr L])) hM h1
 simp (disch := first | assumption | omega) only [go_sem, Nat.reduceEqDiff, Nat.reduceAdd, Nat.reduceLeDiff, ↓reduceIte, Bool.true_and, ASt.set_set]
 refine allocC_by fun b2 h2 => ?_
 have h20 : (σ'.set b1 (some (.obj [.int .i64 op, .int .i64 m, .str s, .int .i64 a.row, .int .i64 a.col, .bool a.absRow, .bool a.absCol, .int .i64 b.row, .int .i64 b.col, .bool b.absRow, .bool b.absCol, .sl .shr L]))) b2 = none := h2
 have T2' := Tab.set (r := some (.obj [.bool false, .int .i64 1, .int .i64 1, .int .i64 2, .int .i64 0])) T1' h20
 have M2' := MaxL.set (r := some (.obj [.bool false, .int .i64 1, .int .i64 1, .int .i64 2, .int .i64 0])) M1' h20
 repeat (with_reducible replace h2 := set_none h2; obtain ⟨_, _, h2⟩ := h2)
 simp (disch := first | assumption | omega) only [go_sem, Nat.reduceEqDiff, Nat.reduceAdd, Nat.reduceLeDiff, ↓reduceIte, Bool.true_and, ASt.set_set]
 refine allocC_by fun b3 h3 => ?_
 have h30 := h3
 have T3' := Tab.set (r := some (.obj [.bool false, .int .i64 2, .int .i64 1, .int .i64 1, .int .i64 0])) T2' h30
 have M3' := MaxL.set (r := some (.obj [.bool false, .int .i64 2, .int .i64 1, .int .i64 1, .int .i64 0])) M2' h30
 repeat (with_reducible replace h3 := set_none h3; obtain ⟨_, _, h3⟩ := h3)
 simp (disch := first | assumption | omega) only [go_sem, Nat.reduceEqDiff, Nat.reduceAdd, Nat.reduceLeDiff, ↓reduceIte, Bool.true_and, ASt.set_set]
 refine allocC_by fun b4 h4 => ?_
 have h40 := h4
 have T4' := Tab.set (r := some (.obj [.bool false, .int .i64 3, .int .i64 0, .int .i64 1, .int .i64 2])) T3' h40
 have M4' := MaxL.set (r := some (.obj [.bool false, .int .i64 3, .int .i64 0, .int .i64 1, .int .i64 2])) M3' h40
 repeat (with_reducible replace h4 := set_none h4; obtain ⟨_, _, h4⟩ := h4)
 simp (disch := first | assumption | omega) only [go_sem, Nat.reduceEqDiff, Nat.reduceAdd, Nat.reduceLeDiff, ↓reduceIte, Bool.true_and, ASt.set_set, eq_self]
 refine t1.use ?_
 simp (disch := first | assumption | omega) only [go_sem, Nat.reduceEqDiff, ↓reduceIte, eq_self]
 refine (p1 _ T4' M4').mono ?_
 rintro v τ ⟨rfl, rfl⟩
 simp (disch := first | assumption | omega) only [go_sem, Nat.reduceEqDiff, Nat.reduceAdd, Nat.reduceLeDiff, ↓reduceIte, eq_self]
 refine t2.use ?_
 simp (disch := first | assumption | omega) only [go_sem, Nat.reduceEqDiff, ↓reduceIte, eq_self]
 refine (p2 _ T4' M4').mono ?_
 rintro v τ ⟨rfl, rfl⟩
 simp (disch := first | assumption | omega) only [go_sem, Nat.reduceEqDiff, Nat.reduceAdd, Nat.reduceLeDiff, ↓reduceIte, eq_self]
 refine t3.use ?_
 simp (disch := first | assumption | omega) only [go_sem, Nat.reduceEqDiff, ↓reduceIte, eq_self]
 refine (p3 _ T4' M4').mono ?_
 rintro v τ ⟨rfl, rfl⟩
 simp (disch := first | assumption | omega) only [go_sem, Nat.reduceEqDiff, Nat.reduceAdd, Nat.reduceLeDiff, ↓reduceIte, eq_self]
 refine t4.use ?_
 simp (disch := first | assumption | omega) only [go_sem, Nat.reduceEqDiff, ↓reduceIte, eq_self]
 refine (p4 _ T4' M4').mono ?_
 rintro v τ ⟨rfl, rfl⟩
 simp (disch := first | assumption | omega) only [go_sem, Nat.reduceEqDiff, ↓reduceIte, eq_self]
 exact retC_by (by repeat' (first | exact Drop.refl _ | with_reducible refine Drop.off ?_ (by assumption))) (.refl _) ⟨rfl, rfl⟩
end Go.A
namespace Go.A
open Go.Proofs
/-! 22: tabular/tabularlaw14.small -/
def c22_0 : ACode := .ops [
 ⟨some 3, none, .e (.box (.t 0)), []⟩,
 ⟨some 6, none, .q (.mv (.v (.bool false))), []⟩]
def c22_1 : ACode := .ops [
 ⟨some 9, none, .q (.ld (some 12) (.t 3)), []⟩,
 ⟨some 10, none, .e (.call 25 [(.t 9)]), []⟩,
 ⟨some 11, none, .q (.len (.t 10)), []⟩,
 ⟨some 12, none, .q (.mv (.v (.int .i64 0))), []⟩]
def c22_2 : ACode := .ops [
 ⟨some 13, none, .q (.bin .lss (.t 12) (.t 11)), []⟩]
def c22_3 : ACode := .cond (.t 13) .skip (.exit 0)
def c22_4 : ACode := .ops [
 ⟨some 14, none, .q (.ia 4 (.t 10) (.t 12)), []⟩,
 ⟨some 15, none, .q (.ld (some 4) (.t 14)), []⟩,
 ⟨some 8, none, .e (.alloc [(.int .i64 0), (.int .i64 0), (.int .i64 0), (.int .i64 0)]), []⟩,
 ⟨none, none, .e (.store 4 (.t 8) (.t 15)), []⟩]
def c22_5 : ACode := .ops [
 ⟨some 16, none, .q (.fa 0 (.t 8)), []⟩,
 ⟨some 17, none, .q (.ld none (.t 16)), []⟩,
 ⟨some 18, none, .q (.fa 2 (.t 8)), []⟩,
 ⟨some 19, none, .q (.ld none (.t 18)), []⟩,
 ⟨some 20, none, .q (.bin .add (.t 17) (.t 19)), []⟩,
 ⟨some 21, none, .q (.mv (.t 1)), []⟩,
 ⟨some 22, none, .q (.bin .gtr (.t 20) (.t 21)), []⟩,
 ⟨some 23, none, .q (.mv (.t 22)), []⟩,
 ⟨some 24, some (23, false), .q (.fa 1 (.t 8)), []⟩,
 ⟨some 25, some (23, false), .q (.ld none (.t 24)), []⟩,
 ⟨some 26, some (23, false), .q (.fa 3 (.t 8)), []⟩,
 ⟨some 27, some (23, false), .q (.ld none (.t 26)), []⟩,
 ⟨some 28, some (23, false), .q (.bin .add (.t 25) (.t 27)), []⟩,
 ⟨some 29, some (23, false), .q (.mv (.t 2)), []⟩,
 ⟨some 30, some (23, false), .q (.bin .gtr (.t 28) (.t 29)), []⟩,
 ⟨some 31, none, .q (.pick (.t 23) (.v (.bool true)) (.t 30)), []⟩]
def c22_6 : ACode := .ops [
 ⟨some 6, none, .q (.mv (.v (.bool false))), []⟩]
def c22_7 : ACode := .seq c22_6 .ret
def c22_8 : ACode := .cond (.t 31) c22_7 .skip
def c22_9 : ACode := .seq c22_5 c22_8
def c22_10 : ACode := .seq c22_4 c22_9
def c22_11 : ACode := .block 1 c22_10
def c22_12 : ACode := .ops [
 ⟨some 32, none, .q (.bin .add (.t 12) (.v (.int .i64 1))), []⟩,
 ⟨some 12, none, .q (.mv (.t 32)), []⟩]
def c22_13 : ACode := .seq c22_11 c22_12
def c22_14 : ACode := .seq c22_3 c22_13
def c22_15 : ACode := .seq c22_2 c22_14
def c22_16 : ACode := .loop c22_15
def c22_17 : ACode := .block 0 c22_16
def c22_18 : ACode := .seq c22_1 c22_17
def c22_19 : ACode := .ops [
 ⟨some 6, none, .q (.mv (.v (.bool true))), []⟩]
def c22_20 : ACode := .seq c22_19 .ret
def c22_21 : ACode := .seq c22_18 c22_20
def c22_22 : ACode := .seq c22_0 c22_21
@[go_sem] def c22_0_wp := wp_of c22_0.eq_1
@[go_sem] def c22_1_wp := wp_of c22_1.eq_1
@[go_sem] def c22_2_wp := wp_of c22_2.eq_1
@[go_sem] def c22_3_wp := wp_of c22_3.eq_1
@[go_sem] def c22_4_wp := wp_of c22_4.eq_1
@[go_sem] def c22_5_wp := wp_of c22_5.eq_1
@[go_sem] def c22_6_wp := wp_of c22_6.eq_1
@[go_sem] def c22_7_wp := wp_of c22_7.eq_1
@[go_sem] def c22_8_wp := wp_of c22_8.eq_1
@[go_sem] def c22_9_wp := wp_of c22_9.eq_1
@[go_sem] def c22_10_wp := wp_of c22_10.eq_1
@[go_sem] def c22_11_wp := wp_of c22_11.eq_1
@[go_sem] def c22_12_wp := wp_of c22_12.eq_1
@[go_sem] def c22_13_wp := wp_of c22_13.eq_1
@[go_sem] def c22_14_wp := wp_of c22_14.eq_1
@[go_sem] def c22_15_wp := wp_of c22_15.eq_1
@[go_sem] def c22_16_wp := wp_of c22_16.eq_1
@[go_sem] def c22_17_wp := wp_of c22_17.eq_1
@[go_sem] def c22_18_wp := wp_of c22_18.eq_1
@[go_sem] def c22_19_wp := wp_of c22_19.eq_1
@[go_sem] def c22_20_wp := wp_of c22_20.eq_1
@[go_sem] def c22_21_wp := wp_of c22_21.eq_1
@[go_sem] def c22_22_wp := wp_of c22_22.eq_1
def c22 : AFn := ⟨33, [.t 6], c22_22⟩
theorem c22_ok : compF Tryz.prog Tryz.f22 = some c22 := by kernel_rfl
theorem a22 {args : List AV} {σ : ASt} {R : AV → ASt → Prop} (hl : args.length ≤ 33) (h : c22_22.wp Tryz.prog (RetQ [.t 6] R) (init args) σ) : ACalls Tryz.prog 22 args σ R := acalls_of Tryz.func22 c22_ok hl h
end Go.A
namespace Go.A
open Go.Proofs Go.Lib
mutual
def Nd.allR (Q : Nd → Prop) : Nd → Prop
 | .mk op n s a b ks => if op = 5 ∨ op = 6 then Q (.mk op n s a b ks) else Nd.allRs Q ks
def Nd.allRs (Q : Nd → Prop) : List Nd → Prop
 | [] => True
 | x :: xs => Nd.allR Q x ∧ Nd.allRs Q xs
end
mutual
theorem Nd.allR_mono {Q Q' : Nd → Prop} (h : ∀ x, (x.op = 5 ∨ x.op = 6) → Q x → Q' x) : ∀ {n : Nd}, Nd.allR Q n → Nd.allR Q' n
 | .mk op n s a b ks, k => by
   rw [Nd.allR] at k ⊢
   split
   ·rename_i ho
    rw [if_pos ho] at k
    exact h _ ho k
   ·rename_i ho
    rw [if_neg ho] at k
    exact Nd.allRs_mono h k
theorem Nd.allRs_mono {Q Q' : Nd → Prop} (h : ∀ x, (x.op = 5 ∨ x.op = 6) → Q x → Q' x) : ∀ {l : List Nd}, Nd.allRs Q l → Nd.allRs Q' l
 | [], _ => by rw [Nd.allRs]; trivial
 | x :: xs, k => by
   rw [Nd.allRs] at k ⊢
   exact ⟨Nd.allR_mono h k.1, Nd.allRs_mono h k.2⟩
end
mutual
theorem Nd.allR_and {Q Q' : Nd → Prop} : ∀ {n : Nd}, Nd.allR Q n → Nd.allR Q' n → Nd.allR (fun x => Q x ∧ Q' x) n
 | .mk op n s a b ks, k, k' => by
   rw [Nd.allR] at k k' ⊢
   split
   ·rename_i ho
    rw [if_pos ho] at k k'
    exact ⟨k, k'⟩
   ·rename_i ho
    rw [if_neg ho] at k k'
    exact Nd.allRs_and k k'
theorem Nd.allRs_and {Q Q' : Nd → Prop} : ∀ {l : List Nd}, Nd.allRs Q l → Nd.allRs Q' l → Nd.allRs (fun x => Q x ∧ Q' x) l
 | [], _, _ => by rw [Nd.allRs]; trivial
 | x :: xs, k, k' => by
   rw [Nd.allRs] at k k' ⊢
   exact ⟨Nd.allR_and k.1 k'.1, Nd.allRs_and k.2 k'.2⟩
end
theorem gd_kids {op n : Int} {s : List UInt8} {a b : Ref} {ks : List Nd} (h : (Nd.mk op n s a b ks).gd) : ∀ x ∈ ks, x.gd := by
 obtain ⟨h1, h2⟩ := h
 rw [Nd.ok] at h1
 rw [Nd.nk] at h2
 exact fun x hx => ⟨Nd.oks_mem.1 h1.2 x hx, nks_mem.1 h2.2 x hx⟩
mutual
theorem gd_refs : ∀ {n : Nd}, n.gd → Nd.allR Nd.gd n
 | .mk op n s a b ks, h => by
   rw [Nd.allR]
   split
   ·exact h
   ·exact gds_refs (gd_kids h)
theorem gds_refs : ∀ {l : List Nd}, (∀ x ∈ l, x.gd) → Nd.allRs Nd.gd l
 | [], _ => by rw [Nd.allRs]; trivial
 | x :: xs, h => by
   rw [Nd.allRs]
   exact ⟨gd_refs (h x List.mem_cons_self), gds_refs fun y hy => h y (List.mem_cons_of_mem _ hy)⟩
end
theorem maps_len (f : Nd → Nd) (l : List Nd) : (Nd.maps f l).length = l.length := by rw [Nd.maps_map, List.length_map]
mutual
theorem map_gd {f : Nd → Nd} : ∀ {n : Nd}, n.gd → Nd.allR (fun x => (f x).gd) n → (Nd.map f n).gd
 | .mk op n s a b ks, h, k => by
   rw [Nd.allR] at k
   rw [Nd.map]
   split
   ·rename_i ho
    rw [if_pos ho] at k
    exact k
   ·rename_i ho
    rw [if_neg ho] at k
    have hk := h.1
    rw [Nd.ok] at hk
    exact gd_mk (by rw [maps_len]; exact hk.1) (fun h => absurd h ho) (maps_gd (gd_kids h) k)
theorem maps_gd {f : Nd → Nd} : ∀ {l : List Nd}, (∀ x ∈ l, x.gd) → Nd.allRs (fun x => (f x).gd) l → ∀ x ∈ Nd.maps f l, x.gd
 | [], _, _ => by rw [Nd.maps]; exact no_kids (x := missN)
 | x :: xs, h, k => by
   rw [Nd.allRs] at k
   rw [Nd.maps]
   intro y hy
   rcases List.mem_cons.1 hy with rfl | hy
   ·exact map_gd (h x List.mem_cons_self) k.1
   ·exact maps_gd (fun z hz => h z (List.mem_cons_of_mem _ hz)) k.2 y hy
end
mutual
theorem map_size {f : Nd → Nd} : ∀ {n : Nd}, Nd.allR (fun x => (f x).size = x.size) n → (Nd.map f n).size = n.size
 | .mk op n s a b ks, k => by
   rw [Nd.allR] at k
   rw [Nd.map]
   split
   ·rename_i ho
    rw [if_pos ho] at k
    exact k
   ·rename_i ho
    rw [if_neg ho] at k
    rw [Nd.size, Nd.size, maps_size k]
theorem maps_size {f : Nd → Nd} : ∀ {l : List Nd}, Nd.allRs (fun x => (f x).size = x.size) l → Nd.sizes (Nd.maps f l) = Nd.sizes l
 | [], _ => by rw [Nd.maps]
 | x :: xs, k => by
   rw [Nd.allRs] at k
   rw [Nd.maps, Nd.sizes, Nd.sizes, map_size k.1, maps_size k.2]
end
mutual
theorem map_back {f g : Nd → Nd} : ∀ {n : Nd}, Nd.allR (fun x => ((f x).op = 5 ∨ (f x).op = 6) ∧ g (f x) = x) n → Nd.map g (Nd.map f n) = n
 | .mk op n s a b ks, k => by
   rw [Nd.allR] at k
   rw [Nd.map]
   split
   ·rename_i ho
    rw [if_pos ho] at k
    obtain ⟨k1, k2⟩ := k
    obtain ⟨⟨o', n', s', a', b', ks'⟩, hw⟩ : ∃ w, f (.mk op n s a b ks) = w := ⟨_, rfl⟩
    rw [hw] at k1 k2 ⊢
    have k1 : o' = 5 ∨ o' = 6 := k1
    rw [Nd.map, if_pos k1]
    exact k2
   ·rename_i ho
    rw [if_neg ho] at k
    rw [Nd.map, if_neg ho, maps_back k]
theorem maps_back {f g : Nd → Nd} : ∀ {l : List Nd}, Nd.allRs (fun x => ((f x).op = 5 ∨ (f x).op = 6) ∧ g (f x) = x) l → Nd.maps g (Nd.maps f l) = l
 | [], _ => by rw [Nd.maps, Nd.maps]
 | x :: xs, k => by
   rw [Nd.allRs] at k
   rw [Nd.maps, Nd.maps, map_back k.1, maps_back k.2]
end
def rectR : Nd → Rc | .mk op _ _ a b _ => rectN op a b
theorem addR_mem {out : List Rc} {r q : Rc} (h : q ∈ out) : q ∈ addR out r := by
 unfold addR
 split
 ·exact h
 ·simp [h]
theorem addR_self (out : List Rc) (r : Rc) : r ∈ addR out r := by
 unfold addR
 split
 ·assumption
 ·simp
theorem addR_elim {out : List Rc} {r q : Rc} (h : q ∈ addR out r) : q ∈ out ∨ q = r := by
 unfold addR at h
 split at h
 ·exact .inl h
 ·simpa using h
mutual
theorem areas_mono : ∀ (n : Nd) {out : List Rc} {q : Rc}, q ∈ out → q ∈ Nd.areas out n
 | .mk op n s a b ks, out, q, h => by
   rw [Nd.areas]
   refine areass_mono ks ?_
   split
   ·exact addR_mem h
   ·exact h
theorem areass_mono : ∀ (l : List Nd) {out : List Rc} {q : Rc}, q ∈ out → q ∈ Nd.areass out l
 | [], out, q, h => by rw [Nd.areass]; exact h
 | x :: xs, out, q, h => by rw [Nd.areass]; exact areass_mono xs (areas_mono x h)
end
mutual
theorem areas_has : ∀ (n : Nd) (out L : List Rc), (∀ q ∈ Nd.areas out n, q ∈ L) → Nd.allR (fun x => rectR x ∈ L) n
 | .mk op n s a b ks, out, L, h => by
   rw [Nd.areas] at h
   rw [Nd.allR]
   split
   ·rename_i ho
    rw [if_pos ho] at h
    exact h _ (areass_mono ks (addR_self _ _))
   ·rename_i ho
    rw [if_neg ho] at h
    exact areass_has ks out L h
theorem areass_has : ∀ (l : List Nd) (out L : List Rc), (∀ q ∈ Nd.areass out l, q ∈ L) → Nd.allRs (fun x => rectR x ∈ L) l
 | [], out, L, h => by rw [Nd.allRs]; trivial
 | x :: xs, out, L, h => by
   rw [Nd.areass] at h
   rw [Nd.allRs]
   exact ⟨areas_has x out L fun q hq => h q (areass_mono xs hq), areass_has xs _ L h⟩
end
mutual
theorem areas_from {Q : Rc → Prop} : ∀ (n : Nd) (out : List Rc), n.gd → (∀ q ∈ out, Q q) → Nd.allR (fun x => Q (rectR x)) n → ∀ q ∈ Nd.areas out n, Q q
 | .mk op n s a b ks, out, hg, ho, k => by
   rw [Nd.areas]
   rw [Nd.allR] at k
   by_cases h : op = 5 ∨ op = 6
   ·rw [if_pos h] at k ⊢
    have hk : ks = [] := by
     have := hg.2
     rw [Nd.nk] at this
     exact this.1 h
    subst hk
    rw [Nd.areass]
    intro q hq
    rcases addR_elim hq with hq | rfl
    ·exact ho q hq
    ·exact k
   ·rw [if_neg h] at k ⊢
    exact areass_from ks out (gd_kids hg) ho k
theorem areass_from {Q : Rc → Prop} : ∀ (l : List Nd) (out : List Rc), (∀ x ∈ l, x.gd) → (∀ q ∈ out, Q q) → Nd.allRs (fun x => Q (rectR x)) l → ∀ q ∈ Nd.areass out l, Q q
 | [], out, hg, ho, k => by rw [Nd.areass]; exact ho
 | x :: xs, out, hg, ho, k => by
   rw [Nd.areass]
   rw [Nd.allRs] at k
   exact areass_from xs _ (fun y hy => hg y (List.mem_cons_of_mem _ hy)) (areas_from x out (hg x List.mem_cons_self) ho k.1) k.2
end
def Rc.fine (r : Rc) : Prop := 0 ≤ r.row ∧ r.row < 3000 ∧ 0 ≤ r.col ∧ r.col < 3000 ∧ 0 ≤ r.rows ∧ r.rows ≤ 3000 ∧ 0 ≤ r.cols ∧ r.cols ≤ 3000
theorem norm_vals (a b : Ref) : (normP a b).1.row = min a.row b.row ∧ (normP a b).2.row = max a.row b.row ∧ (normP a b).1.col = min a.col b.col ∧ (normP a b).2.col = max a.col b.col := by
 unfold normP normC normR
 split <;> split <;> dsimp only at * <;> omega
theorem ref_fine {x : Nd} (h : x.gd) (ho : x.op = 5 ∨ x.op = 6) : (rectR x).fine := by
 obtain ⟨op, n, s, a, b, ks⟩ := x
 obtain ⟨h1, h2⟩ := ok_refs h.1
 change op = 5 ∨ op = 6 at ho
 have ha := h1 ho
 simp only [Ref.good, decide_eq_true_eq] at ha h2
 show (rectN op a b).fine
 unfold rectN Rc.fine
 split
 ·dsimp only; omega
 ·rename_i h5
  have hb := h2 (by omega)
  obtain ⟨n1, n2, n3, n4⟩ := norm_vals a b
  dsimp only
  rw [n1, n2, n3, n4]
  omega
theorem areas_fine {n : Nd} (h : n.gd) : ∀ q ∈ Nd.areas [] n, q.fine :=
 areas_from n [] h (fun q hq => by cases hq) (Nd.allR_mono (fun x ho hx => ref_fine hx ho) (gd_refs h))
def smallB (rows cols : Int) (l : List Rc) : Bool := l.all fun r => decide (r.row + r.rows ≤ rows ∧ r.col + r.cols ≤ cols)
set_option maxHeartbeats 1000000 in
theorem shsmall_ok (n : Nd) (hn : n.gd) (hs : n.size ≤ 1000000) (rows cols : Int) : Pure Tryz.prog 22 [n.av, .int .i64 rows, .int .i64 cols] (.bool (smallB rows cols (Nd.areas [] n))) := by
 intro σ
 have hA := Areas_ok n hn.1 hs
 have hf := areas_fine hn
 have hl := Nd.areas_len n []
 simp only [List.length_nil] at hl
 generalize Nd.areas [] n = l at *
 obtain ⟨op, m, s, a, b, ks⟩ := n
 have hav : (Nd.mk op m s a b ks).av = .agg [.int .i64 op, .int .i64 m, .str s, .int .i64 a.row, .int .i64 a.col, .bool a.absRow, .bool a.absCol, .int .i64 b.row, .int .i64 b.col, .bool b.absRow, .bool b.absCol, .sl .shr (ks.map Nd.av)] := Nd.av_cs ..
 rw [hav] at hA ⊢
 generalize ks.map Nd.av = L at *
 obtain ⟨q, hq⟩ : ∃ q, smallB rows cols l = q := ⟨_, rfl⟩
 rw [hq]
 refine a22 (by simp) ?_
 simp (disch := first | assumption | omega) only [go_sem]
 refine boxC_by rfl fun c hc => ?_
 simp (disch := first | assumption | omega) only [go_sem, Nat.reduceEqDiff, Nat.reduceAdd, Nat.reduceLeDiff, ↓reduceIte]
 refine hA.use ?_
 simp (disch := first | assumption | omega) only [go_sem, ↓reduceIte]
 refine wp_loop_by (fun (i : Nat) a1 s2 => (i ≤ l.length ∧ smallB rows cols (l.drop i) = q) ∧ (a1 1 = .int .i64 rows ∧ a1 2 = .int .i64 cols ∧ a1 10 = .sl .shr (l.map Rc.av) ∧ a1 11 = .int .i64 l.length ∧ a1 12 = .int .i64 i) ∧ s2 = σ.set c (some (.obj [.int .i64 op, .int .i64 m, .str s, .int .i64 a.row, .int .i64 a.col, .bool a.absRow, .bool a.absCol, .int .i64 b.row, .int .i64 b.col, .bool b.absRow, .bool b.absCol, .sl .shr L]))) (fun i => l.length - i) 0 (Dr.now ⟨⟨Nat.zero_le _, by rw [List.drop_zero]; exact hq⟩, ?_, rfl⟩) ?_
 ·simp (disch := first | assumption | omega) only [go_sem, Nat.reduceEqDiff, ↓reduceIte]
 rintro i a1 s2 ⟨⟨hi, hqi⟩, hf1, rfl⟩
 by_cases hlt : i < l.length
 ·have hlt' : (i : Int) < l.length := by omega
  have hx : l[i]? = some (l[i]'hlt) := List.getElem?_eq_getElem hlt
  have hfx := hf _ (List.getElem_mem hlt)
  rw [List.drop_eq_getElem_cons hlt, smallB, List.all_cons] at hqi
  obtain ⟨x, hxe⟩ : ∃ x, l[i]'hlt = x := ⟨_, rfl⟩
  rw [hxe] at hx hqi hfx
  have hmx := Rc.get hx
  rw [show x.av = .agg [.int .i64 x.row, .int .i64 x.col, .int .i64 x.rows, .int .i64 x.cols] from rfl] at hmx
  generalize l.map Rc.av = XL at *
  unfold Rc.fine at hfx
  simp (disch := first | assumption | omega) only [go_sem, Nat.reduceEqDiff, Nat.reduceAdd, Nat.reduceLeDiff, ↓reduceIte, hf1, hlt', hmx]
  refine allocC_by fun d hd => ?_
  have hd0 := hd
  repeat (with_reducible replace hd := set_none hd; obtain ⟨_, _, hd⟩ := hd)
  by_cases h1 : rows < x.row + x.rows
  ·rw [decide_eq_false (by omega), Bool.false_and] at hqi
   subst hqi
   simp (disch := first | assumption | omega) only [go_sem, Nat.reduceEqDiff, Nat.reduceAdd, Nat.reduceLeDiff, ↓reduceIte, Bool.true_and, hf1, ASt.set_set, h1]
   exact retC_by ((Drop.set hc).off (by assumption)) (.refl _) ⟨rfl, rfl⟩
  by_cases h2 : cols < x.col + x.cols
  ·rw [decide_eq_false (by omega), Bool.false_and] at hqi
   subst hqi
   simp (disch := first | assumption | omega) only [go_sem, Nat.reduceEqDiff, Nat.reduceAdd, Nat.reduceLeDiff, ↓reduceIte, Bool.true_and, hf1, ASt.set_set, h1, h2]
   exact retC_by ((Drop.set hc).off (by assumption)) (.refl _) ⟨rfl, rfl⟩
  rw [decide_eq_true (by omega), Bool.true_and] at hqi
  simp (disch := first | assumption | omega) only [go_sem, Nat.reduceEqDiff, Nat.reduceAdd, Nat.reduceLeDiff, ↓reduceIte, Bool.true_and, hf1, ASt.set_set, h1, h2]
  refine ⟨i + 1, by dsimp only; omega, Dr.drop (Drop.set hd0) ⟨⟨by omega, hqi⟩, ?_, rfl⟩⟩
  simp (disch := first | assumption | omega) only [go_sem, Nat.reduceEqDiff, ↓reduceIte, hf1]
 ·have hlt' : ¬ (i : Int) < l.length := by omega
  rw [List.drop_eq_nil_of_le (by omega)] at hqi
  subst hqi
  simp (disch := first | assumption | omega) only [go_sem, ↓reduceIte, hf1, hlt']
  exact retC_by (Drop.set hc) (.refl _) ⟨rfl, rfl⟩
theorem small_refs {n : Nd} {rows cols : Int} (h : n.gd) (hs : smallB rows cols (Nd.areas [] n) = true) :
  Nd.allR (fun x => x.gd ∧ (rectR x).row + (rectR x).rows ≤ rows ∧ (rectR x).col + (rectR x).cols ≤ cols) n := by
 have h1 := areas_has n [] (Nd.areas [] n) fun q hq => hq
 refine Nd.allR_and (gd_refs h) (Nd.allR_mono (fun x _ hx => ?_) h1)
 unfold smallB at hs
 have := List.all_eq_true.1 hs _ hx
 simpa using this
theorem rect_in {op : Int} {a b : Ref} (ho : op = 5 ∨ op = 6) {rows cols : Int} (h : (rectN op a b).row + (rectN op a b).rows ≤ rows ∧ (rectN op a b).col + (rectN op a b).cols ≤ cols) :
  (a.row < rows ∧ a.col < cols) ∧ (op = 6 → b.row < rows ∧ b.col < cols) := by
 unfold rectN at h
 split at h
 ·dsimp only at h; omega
 ·obtain ⟨n1, n2, n3, n4⟩ := norm_vals a b
  dsimp only at h
  rw [n1, n2, n3, n4] at h
  omega
end Go.A
namespace Go.A
open Go.Proofs Go.Lib
structure Edt.six (e : Edt) : Prop where
 a0 : 0 ≤ e.at'
 n1 : 1 ≤ e.n
 k : (e.kind = 1 ∧ e.at' ≤ 600) ∨ (e.kind = 2 ∧ e.at' + e.n ≤ 600) ∨ (e.kind = 3 ∧ e.at' + e.n ≤ 600 ∧ 0 ≤ e.dst ∧ e.dst + e.n ≤ 600)
theorem good_six {e : Edt} (h : e.good 600 = true) : e.six := by
 unfold Edt.good at h
 split at h
 ·cases h
 rename_i h0
 split at h
 ·rename_i k
  have := of_decide_eq_true h
  exact ⟨by omega, by omega, .inl ⟨k, by omega⟩⟩
 split at h
 ·rename_i k
  have := of_decide_eq_true h
  exact ⟨by omega, by omega, .inr (.inl ⟨k, by omega⟩)⟩
 split at h
 ·rename_i k
  have := of_decide_eq_true h
  exact ⟨by omega, by omega, .inr (.inr ⟨k, by omega, by omega, by omega⟩)⟩
 ·cases h
theorem ahead_eq (p d i : Int) : (p ≤ i ∧ ahead p d i = i + d) ∨ (¬ p ≤ i ∧ ahead p d i = i) := by
 unfold ahead
 split
 ·exact .inl ⟨by assumption, rfl⟩
 ·exact .inr ⟨by assumption, rfl⟩
theorem place_ins {e : Edt} (k : e.kind = 1) (i : Int) : e.place i = (ahead e.at' e.n i, decide (ahead e.at' e.n i < e.most)) := by unfold Edt.place; rw [if_pos k]
theorem place_del {e : Edt} (k : e.kind = 2) {i : Int} (h : ¬ (e.at' ≤ i ∧ i < e.at' + e.n)) : e.place i = (ahead e.at' (-e.n) i, true) := by
 unfold Edt.place; rw [if_neg (by omega), if_neg h, if_pos k]
theorem place_mov {e : Edt} (k : e.kind = 3) (i : Int) : (e.at' ≤ i ∧ i < e.at' + e.n ∧ e.place i = (i - e.at' + e.dst, true)) ∨ (¬ (e.at' ≤ i ∧ i < e.at' + e.n) ∧ e.place i = (ahead e.dst e.n (ahead e.at' (-e.n) i), true)) := by
 by_cases h : e.at' ≤ i ∧ i < e.at' + e.n
 ·refine .inl ⟨h.1, h.2, ?_⟩
  unfold Edt.place; rw [if_neg (by omega), if_pos h, if_neg (by omega)]
 ·refine .inr ⟨h, ?_⟩
  unfold Edt.place; rw [if_neg (by omega), if_neg h, if_neg (by omega)]
theorem set_good {e : Edt} {a : Ref} {i : Int} (ha : a.good = true) (h0 : 0 ≤ i) (h1 : i < e.most) : (e.set a i).good = true := by
 simp only [Ref.good, decide_eq_true_eq] at ha ⊢
 unfold Edt.set
 unfold Edt.most at h1
 split
 ·rename_i hc; rw [if_pos hc] at h1; dsimp only; omega
 ·rename_i hc; rw [if_neg hc] at h1; dsimp only; omega
theorem set_of (e : Edt) (a : Ref) : e.set a (e.of a) = a := by
 unfold Edt.set Edt.of
 split <;> rfl
end Go.A
namespace Go.A
open Go.Proofs Go.Lib
def Edt.back (e : Edt) : Edt := if e.kind = 1 then ⟨e.cols, 2, e.at', e.n, 0⟩ else ⟨e.cols, 3, e.dst, e.n, e.at'⟩
theorem good_room {e : Edt} (h : e.good 600 = true) (k : e.kind = 1) : e.n + 600 ≤ e.most := by
 unfold Edt.good at h
 split at h
 ·cases h
 first | rw [if_pos k] at h | skip
 have := of_decide_eq_true h
 omega
structure Edt.two (e : Edt) : Prop where
 six : e.six
 k : (e.kind = 1 ∧ e.n + 600 ≤ e.most) ∨ e.kind = 3
theorem back_cols (e : Edt) : e.back.cols = e.cols := by unfold Edt.back; split <;> rfl
theorem back_fit {e : Edt} (h : e.two) : e.back.fit := by
 obtain ⟨⟨a0, n1, hk⟩, k⟩ := h
 have hm := most_rng e
 unfold Edt.back
 rcases k with ⟨k, k2⟩ | k
 ·rw [if_pos k]
  exact ⟨a0, by dsimp only; omega, by dsimp only; omega, by dsimp only; omega, fun _ h => absurd rfl h⟩
 ·rw [if_neg (by omega)]
  exact ⟨by dsimp only; omega, by dsimp only; omega, by dsimp only; omega, by dsimp only; omega, fun _ _ => by dsimp only; omega⟩
theorem place_two {e : Edt} (h : e.two) {i : Int} (i0 : 0 ≤ i) (i1 : i < 500) : (e.place i).2 = true ∧ 0 ≤ (e.place i).1 ∧ (e.place i).1 < e.most ∧ e.back.place (e.place i).1 = (i, true) := by
 obtain ⟨⟨a0, n1, hk⟩, k⟩ := h
 have hm := most_rng e
 rcases k with ⟨k, k2⟩ | k
 ·rw [place_ins k]
  have h1 := ahead_eq e.at' e.n i
  have hb : e.back = ⟨e.cols, 2, e.at', e.n, 0⟩ := if_pos k
  have hp := place_del (e := e.back) (i := ahead e.at' e.n i) (by rw [hb]) (by rw [hb]; dsimp only; omega)
  rw [hb] at hp ⊢
  dsimp only at hp ⊢
  rw [hp]
  have h2 := ahead_eq e.at' (-e.n) (ahead e.at' e.n i)
  refine ⟨decide_eq_true (by omega), by omega, by omega, ?_⟩
  rw [Prod.mk.injEq]
  exact ⟨by omega, rfl⟩
 ·have hb : e.back = ⟨e.cols, 3, e.dst, e.n, e.at'⟩ := if_neg (by omega)
  have hpb := fun j => place_mov (e := e.back) (by rw [hb]) j
  rw [hb] at hpb ⊢
  dsimp only at hpb
  rcases place_mov k i with ⟨p1, p2, p3⟩ | ⟨p1, p3⟩
  ·rw [p3]
   dsimp only
   refine ⟨rfl, by omega, by omega, ?_⟩
   rcases hpb (i - e.at' + e.dst) with ⟨q1, q2, q3⟩ | ⟨q1, q3⟩
   ·rw [q3, Prod.mk.injEq]; exact ⟨by omega, rfl⟩
   ·omega
  ·rw [p3]
   dsimp only
   have h1 := ahead_eq e.at' (-e.n) i
   have h2 := ahead_eq e.dst e.n (ahead e.at' (-e.n) i)
   refine ⟨rfl, by omega, by omega, ?_⟩
   rcases hpb (ahead e.dst e.n (ahead e.at' (-e.n) i)) with ⟨q1, q2, q3⟩ | ⟨q1, q3⟩
   ·omega
   ·rw [q3, Prod.mk.injEq]
    have h3 := ahead_eq e.dst (-e.n) (ahead e.dst e.n (ahead e.at' (-e.n) i))
    have h4 := ahead_eq e.at' e.n (ahead e.dst (-e.n) (ahead e.dst e.n (ahead e.at' (-e.n) i)))
    exact ⟨by omega, rfl⟩
theorem place_up {e : Edt} (h : e.two) (k : e.kind = 1) {f t : Int} (hft : f ≤ t) : (e.place f).1 ≤ (e.place t).1 ∧ (f < t → (e.place f).1 < (e.place t).1) := by
 have := h.six.n1
 rw [place_ins k, place_ins k]
 have h1 := ahead_eq e.at' e.n f
 have h2 := ahead_eq e.at' e.n t
 dsimp only
 omega
theorem span_two {e : Edt} (h : e.two) {f t : Int} (f0 : 0 ≤ f) (ft : f ≤ t) (t1 : t < 500) :
  e.span f t = (min (e.place f).1 (e.place t).1, max (e.place f).1 (e.place t).1, true) := by
 have pf := (place_two h f0 (by omega)).1
 have pt := (place_two h (i := t) (by omega) t1).1
 unfold Edt.span
 rcases h.k with ⟨k, _⟩ | k
 ·have := (place_up h k ft).1
  rw [if_pos k, if_pos pf, if_pos pt, Int.min_eq_left this, Int.max_eq_right this]
 ·rw [if_neg (by omega), if_neg (by omega)]
theorem span_back {e : Edt} (h : e.two) (k : e.kind = 1) {f t : Int} (f0 : 0 ≤ f) (ft : f ≤ t) (t1 : t < 500) : e.back.span (e.place f).1 (e.place t).1 = (f, t, true) := by
 have pf := (place_two h f0 (by omega)).2.2.2
 have pt := (place_two h (i := t) (by omega) t1).2.2.2
 have hb : e.back = ⟨e.cols, 2, e.at', e.n, 0⟩ := if_pos k
 have h1 := ahead_eq e.at' e.n f
 have h2 := ahead_eq e.at' e.n t
 have n1 := h.six.n1
 rw [place_ins k] at pf pt ⊢
 rw [place_ins k]
 dsimp only at pf pt ⊢
 unfold Edt.span
 rw [hb] at pf pt ⊢
 dsimp only
 rw [if_neg (by decide), if_pos rfl, if_neg (by omega), if_neg (c := e.at' ≤ ahead e.at' e.n f ∧ ahead e.at' e.n f < e.at' + e.n) (by omega), if_neg (c := e.at' ≤ ahead e.at' e.n t ∧ ahead e.at' e.n t < e.at' + e.n) (by omega), pf, pt]
 dsimp only
 rw [Int.min_eq_left ft, Int.max_eq_right ft]
theorem span_move {e : Edt} (h : e.two) (k : e.kind = 3) {f : Int} (f0 : 0 ≤ f) (f1 : f < 500) : e.back.span (e.place f).1 (e.place f).1 = (f, f, true) := by
 have pf := (place_two h f0 f1).2.2.2
 have hb : e.back = ⟨e.cols, 3, e.dst, e.n, e.at'⟩ := if_neg (by omega)
 unfold Edt.span
 rw [hb] at pf ⊢
 dsimp only
 rw [if_neg (by decide), if_neg (by decide), pf]
 dsimp only
 rw [Int.min_self, Int.max_self]
theorem of_set (e : Edt) (a : Ref) (i : Int) : e.of (e.set a i) = i := by unfold Edt.of Edt.set; split <;> rfl
theorem set_set (e : Edt) (a : Ref) (i j : Int) : e.set (e.set a i) j = e.set a j := by unfold Edt.set; split <;> rfl
theorem back_of (e : Edt) (a : Ref) : e.back.of a = e.of a := by unfold Edt.of; rw [back_cols]
theorem back_set (e : Edt) (a : Ref) (i : Int) : e.back.set a i = e.set a i := by unfold Edt.set; rw [back_cols]
def Sn (x : Nd) : Prop := x.gd ∧ (rectR x).row + (rectR x).rows ≤ 500 ∧ (rectR x).col + (rectR x).cols ≤ 500
theorem of_lt5 {e : Edt} {a : Ref} (h : a.row < 500 ∧ a.col < 500) : e.of a < 500 := by unfold Edt.of; split <;> omega
theorem node_cell (e : Edt) (n : Int) (s : List UInt8) (a b : Ref) (ks : List Nd) : e.node (.mk 5 n s a b ks) = e.cell (.mk 5 n s a b ks) := rfl
theorem node_area (e : Edt) (n : Int) (s : List UInt8) (a b : Ref) (ks : List Nd) : e.node (.mk 6 n s a b ks) = e.area (.mk 6 n s a b ks) := rfl
theorem node_two {e : Edt} (h : e.two) {x : Nd} (ho : x.op = 5 ∨ x.op = 6) (hx : Sn x) :
  (e.node x).gd ∧ (e.node x).size = x.size ∧ ((e.node x).op = 5 ∨ (e.node x).op = 6) ∧ ((e.kind = 1 ∨ ((rectR x).rows ≤ 1 ∧ (rectR x).cols ≤ 1)) → e.back.node (e.node x) = x) := by
 obtain ⟨op, n, s, a, b, ks⟩ := x
 change op = 5 ∨ op = 6 at ho
 obtain ⟨hg, hs⟩ := hx
 have hk : ks = [] := by
  have := hg.2
  rw [Nd.nk] at this
  exact this.1 ho
 subst hk
 obtain ⟨g1, g2⟩ := ok_refs hg.1
 obtain ⟨s1, s2⟩ := rect_in ho hs
 have hok := hg.1
 rw [Nd.ok] at hok
 obtain ⟨⟨e1, e2, e3, e4, e5, e6, e7, e8, e9, e10⟩, _⟩ := hok
 have oa := of_rng (e := e) (g1 ho)
 have la := of_lt5 (e := e) s1
 obtain ⟨pa1, pa2, pa3, pa4⟩ := place_two h oa.1 la
 by_cases h5 : op = 5
 ·subst h5
  have hn : e.node (.mk 5 n s a b []) = .mk 5 n s (e.set a (e.place (e.of a)).1) b [] := by
   rw [node_cell, Edt.cell, if_pos pa1]
  rw [hn]
  refine ⟨leaf_gd ⟨e1, e2, e3, e4, e5, fun _ => set_good (g1 ho) pa2 pa3, e7, e8, e9, e10⟩, by rw [leaf_size, leaf_size], .inl rfl, fun _ => ?_⟩
  rw [node_cell, Edt.cell, back_of, of_set, pa4, if_pos rfl, back_set, set_set, set_of]
 ·obtain rfl : op = 6 := ho.resolve_left h5
  have ob := of_rng (e := e) (g2 rfl)
  have lb := of_lt5 (e := e) (s2 rfl)
  obtain ⟨pb1, pb2, pb3, pb4⟩ := place_two h ob.1 lb
  have q0 : 0 ≤ min (e.of a) (e.of b) := by clear e4 e9 e8; omega
  have q1 : min (e.of a) (e.of b) ≤ max (e.of a) (e.of b) := by clear e4 e9 e8; omega
  have q2 : max (e.of a) (e.of b) < 500 := by clear e4 e9 e8; omega
  have hsp := span_two h q0 q1 q2
  have hss : (rectR (.mk 6 n s a b [])).rows ≤ 1 ∧ (rectR (.mk 6 n s a b [])).cols ≤ 1 → e.of a = e.of b := by
   show (rectN 6 a b).rows ≤ 1 ∧ (rectN 6 a b).cols ≤ 1 → _
   unfold rectN
   rw [if_neg (by decide)]
   obtain ⟨n1, n2, n3, n4⟩ := norm_vals a b
   dsimp only
   rw [n1, n2, n3, n4]
   unfold Edt.of
   clear e4 e9 e8
   intro hh
   split <;> omega
  have hn : e.node (.mk 6 n s a b []) = e.area (.mk 6 n s a b []) := rfl
  rw [hn, Edt.area, hsp, if_pos rfl]
  by_cases hlt : e.of b < e.of a
  ·rw [if_pos hlt]
   dsimp only
   rw [Int.min_eq_right (by omega : e.of b ≤ e.of a), Int.max_eq_left (by omega : e.of b ≤ e.of a)]
   refine ⟨leaf_gd ⟨e1, e2, e3, e4, e5, fun _ => set_good (g1 ho) (by clear e4 e9 e8; omega) (by clear e4 e9 e8; omega), fun _ => set_good (g2 rfl) (by clear e4 e9 e8; omega) (by clear e4 e9 e8; omega), e8, e9, e10⟩, by rw [leaf_size, leaf_size], .inr rfl, fun hs1 => ?_⟩
   rcases hs1 with k | hs1
   ·obtain ⟨u1, u2⟩ := place_up h k (show e.of b ≤ e.of a by omega)
    have u2 := u2 hlt
    rw [Int.min_eq_left u1, Int.max_eq_right u1]
    rw [node_area, Edt.area, back_of, back_of, of_set, of_set, Int.min_eq_right u1, Int.max_eq_left u1, span_back h k ob.1 (by omega) la, if_pos rfl, if_pos u2]
    dsimp only
    rw [back_set, back_set, set_set, set_set, set_of, set_of]
   ·have := hss hs1
    omega
  ·rw [if_neg hlt]
   dsimp only
   rw [Int.min_eq_left (by omega : e.of a ≤ e.of b), Int.max_eq_right (by omega : e.of a ≤ e.of b)]
   refine ⟨leaf_gd ⟨e1, e2, e3, e4, e5, fun _ => set_good (g1 ho) (by clear e4 e9 e8; omega) (by clear e4 e9 e8; omega), fun _ => set_good (g2 rfl) (by clear e4 e9 e8; omega) (by clear e4 e9 e8; omega), e8, e9, e10⟩, by rw [leaf_size, leaf_size], .inr rfl, fun hs1 => ?_⟩
   rcases hs1 with k | hs1
   ·obtain ⟨u1, u2⟩ := place_up h k (show e.of a ≤ e.of b by omega)
    rw [Int.min_eq_left u1, Int.max_eq_right u1]
    rw [node_area, Edt.area, back_of, back_of, of_set, of_set, Int.min_eq_left u1, Int.max_eq_right u1, span_back h k oa.1 (by omega) lb, if_pos rfl, if_neg (by omega)]
    dsimp only
    rw [back_set, back_set, set_set, set_set, set_of, set_of]
   ·have hab := hss hs1
    rw [← hab, Int.min_self, Int.max_self]
    rcases h.k with ⟨k, _⟩ | k
    ·have hb2 : e.back.span (e.place (e.of a)).1 (e.place (e.of a)).1 = (e.of a, e.of a, true) := span_back h k oa.1 (Int.le_refl _) la
     rw [node_area, Edt.area, back_of, back_of, of_set, of_set, Int.min_self, Int.max_self, hb2, if_pos rfl, if_neg (by omega)]
     dsimp only
     rw [back_set, back_set, set_set, set_set, set_of]
     rw [hab, set_of]
    ·have hb2 := span_move h k oa.1 la
     rw [node_area, Edt.area, back_of, back_of, of_set, of_set, Int.min_self, Int.max_self, hb2, if_pos rfl, if_neg (by omega)]
     dsimp only
     rw [back_set, back_set, set_set, set_set, set_of]
     rw [hab, set_of]
theorem sn_refs {n : Nd} (h : n.gd) (hs : smallB 500 500 (Nd.areas [] n) = true) : Nd.allR Sn n := small_refs h hs
theorem tree_two {e : Edt} (h2 : e.two) {n : Nd} (h : n.gd) (hs : smallB 500 500 (Nd.areas [] n) = true) : (e.tree n).gd ∧ (e.tree n).size = n.size :=
 ⟨map_gd h (Nd.allR_mono (fun x ho hx => (node_two h2 ho hx).1) (sn_refs h hs)), map_size (Nd.allR_mono (fun x ho hx => (node_two h2 ho hx).2.1) (sn_refs h hs))⟩
def narrowB (l : List Rc) : Bool := l.all fun r => decide (r.rows ≤ 1) && decide (r.cols ≤ 1)
theorem tree_back {e : Edt} (h2 : e.two) {n : Nd} (h : n.gd) (hs : smallB 500 500 (Nd.areas [] n) = true) (hk : e.kind = 1 ∨ narrowB (Nd.areas [] n) = true) : e.back.tree (e.tree n) = n := by
 have h1 := Nd.allR_and (sn_refs h hs) (areas_has n [] (Nd.areas [] n) fun q hq => hq)
 refine map_back (Nd.allR_mono (fun x ho hx => ?_) h1)
 obtain ⟨hx1, hx2⟩ := hx
 obtain ⟨g1, g2, g3, g4⟩ := node_two h2 ho hx1
 refine ⟨g3, g4 (hk.imp id fun hn => ?_)⟩
 unfold narrowB at hn
 have := List.all_eq_true.1 hn _ hx2
 simpa using this
end Go.A
namespace Go.A
open Go.Proofs
/-! 7: tabular/tabularlaw14.ShiftBack -/
def c7_0 : ACode := .ops [
 ⟨some 3, none, .e (.box (.t 1)), []⟩,
 ⟨some 4, none, .q (.mv (.v (.bool false))), []⟩]
def c7_1 : ACode := .ops [
 ⟨some 14, none, .q (.mv (.t 0)), []⟩,
 ⟨some 15, none, .e (.call 9 [(.t 14), (.v (.int .i64 300))]), []⟩,
 ⟨some 16, none, .e (.call 8 [(.t 15)]), []⟩,
 ⟨some 13, none, .q (.mv (.t 16)), []⟩,
 ⟨some 17, none, .q (.ext 0 (.t 13)), []⟩,
 ⟨some 18, none, .q (.ext 1 (.t 13)), []⟩,
 ⟨some 19, none, .q (.ext 2 (.t 13)), []⟩,
 ⟨some 5, none, .e (.alloc [(.int .i64 0), (.int .i64 0), (.str []), (.int .i64 0), (.int .i64 0), (.bool false), (.bool false), (.int .i64 0), (.int .i64 0), (.bool false), (.bool false), (.sl .full [])]), []⟩,
 ⟨none, none, .e (.store 12 (.t 5) (.t 17)), []⟩,
 ⟨some 6, none, .q (.mv (.t 18)), []⟩,
 ⟨some 7, none, .q (.mv (.t 19)), []⟩]
def c7_2 : ACode := .ops [
 ⟨some 20, none, .q (.mv (.t 7)), []⟩,
 ⟨some 21, none, .q (.bin .neq (.t 20) (.v (.int .i64 0))), []⟩,
 ⟨some 22, none, .q (.mv (.t 21)), []⟩,
 ⟨some 23, some (22, false), .q (.ld (some 12) (.t 5)), []⟩,
 ⟨some 24, some (22, false), .e (.call 22 [(.t 23), (.v (.int .i64 500)), (.v (.int .i64 500))]), []⟩,
 ⟨some 25, some (22, false), .q (.un .not (.t 24)), []⟩,
 ⟨some 26, none, .q (.pick (.t 22) (.v (.bool true)) (.t 25)), []⟩,
 ⟨some 27, none, .q (.mv (.t 26)), []⟩,
 ⟨some 28, some (27, false), .q (.ld (some 5) (.t 3)), []⟩,
 ⟨some 29, some (27, false), .e (.call 20 [(.t 28), (.v (.int .i64 600))]), []⟩,
 ⟨some 30, some (27, false), .q (.un .not (.t 29)), []⟩,
 ⟨some 31, none, .q (.pick (.t 27) (.v (.bool true)) (.t 30)), []⟩]
def c7_3 : ACode := .ops [
 ⟨some 32, none, .e (.call 10 []), []⟩,
 ⟨some 4, none, .q (.mv (.t 32)), []⟩]
def c7_4 : ACode := .seq c7_3 .ret
def c7_5 : ACode := .cond (.t 31) c7_4 .skip
def c7_6 : ACode := .seq c7_2 c7_5
def c7_7 : ACode := .ops [
 ⟨some 34, none, .q (.ld (some 5) (.t 3)), []⟩,
 ⟨some 35, none, .e (.call 26 [(.t 34)]), []⟩,
 ⟨some 33, none, .q (.mv (.t 35)), []⟩,
 ⟨some 36, none, .q (.ext 0 (.t 33)), []⟩,
 ⟨some 37, none, .q (.ext 1 (.t 33)), []⟩,
 ⟨some 8, none, .e (.alloc [(.bool false), (.int .i64 0), (.int .i64 0), (.int .i64 0), (.int .i64 0)]), []⟩,
 ⟨none, none, .e (.store 5 (.t 8) (.t 36)), []⟩,
 ⟨some 9, none, .q (.mv (.t 37)), []⟩]
def c7_8 : ACode := .ops [
 ⟨some 38, none, .q (.mv (.t 9)), []⟩,
 ⟨some 39, none, .q (.un .not (.t 38)), []⟩]
def c7_9 : ACode := .ops [
 ⟨some 40, none, .e (.call 10 []), []⟩,
 ⟨some 41, none, .q (.mv (.t 40)), []⟩,
 ⟨some 42, some (41, true), .q (.fa 1 (.t 3)), []⟩,
 ⟨some 43, some (41, true), .q (.ld none (.t 42)), []⟩,
 ⟨some 44, some (41, true), .q (.bin .eql (.t 43) (.v (.int .i64 2))), []⟩,
 ⟨some 45, none, .q (.pick (.t 41) (.t 44) (.v (.bool false))), []⟩,
 ⟨some 46, none, .q (.mv (.t 45)), []⟩,
 ⟨some 47, some (46, true), .q (.ld (some 5) (.t 8)), []⟩,
 ⟨some 48, some (46, true), .q (.build [(.bool false), (.int .i64 0), (.int .i64 0), (.int .i64 0), (.int .i64 0)] []), []⟩,
 ⟨some 49, some (46, true), .q (.eqs false [(0, 1), (1, 0), (2, 0), (3, 0), (4, 0)] (.t 47) (.t 48)), []⟩,
 ⟨some 50, none, .q (.pick (.t 46) (.t 49) (.v (.bool false))), []⟩,
 ⟨some 4, none, .q (.mv (.t 50)), []⟩]
def c7_10 : ACode := .seq c7_9 .ret
def c7_11 : ACode := .cond (.t 39) c7_10 .skip
def c7_12 : ACode := .seq c7_8 c7_11
def c7_13 : ACode := .tree (.seg [
 ⟨some 51, none, .q (.ld (some 5) (.t 8)), []⟩,
 ⟨some 52, none, .q (.ld (some 5) (.t 3)), []⟩,
 ⟨some 53, none, .q (.ld (some 12) (.t 5)), []⟩] (.both (.seg [
 ⟨some 54, none, .e (.call 17 [(.t 52), (.t 53)]), [⟨none, .ld (some 5) (.t 8), 51⟩]⟩] (.both (.seg [
 ⟨some 55, none, .e (.call 17 [(.t 51), (.t 54)]), []⟩,
 ⟨some 10, none, .e (.alloc [(.int .i64 0), (.int .i64 0), (.str []), (.int .i64 0), (.int .i64 0), (.bool false), (.bool false), (.int .i64 0), (.int .i64 0), (.bool false), (.bool false), (.sl .full [])]), []⟩,
 ⟨none, none, .e (.store 12 (.t 10) (.t 55)), []⟩] .done) (.seg [
 ⟨some 10, none, .e (.alloc [(.int .i64 0), (.int .i64 0), (.str []), (.int .i64 0), (.int .i64 0), (.bool false), (.bool false), (.int .i64 0), (.int .i64 0), (.bool false), (.bool false), (.sl .full [])]), []⟩,
 ⟨some 55, none, .e (.call 17 [(.t 51), (.t 54)]), []⟩,
 ⟨none, none, .e (.store 12 (.t 10) (.t 55)), []⟩] .done))) (.seg [
 ⟨some 10, none, .e (.alloc [(.int .i64 0), (.int .i64 0), (.str []), (.int .i64 0), (.int .i64 0), (.bool false), (.bool false), (.int .i64 0), (.int .i64 0), (.bool false), (.bool false), (.sl .full [])]), []⟩,
 ⟨some 54, none, .e (.call 17 [(.t 52), (.t 53)]), [⟨none, .ld (some 5) (.t 8), 51⟩]⟩,
 ⟨some 55, none, .e (.call 17 [(.t 51), (.t 54)]), []⟩,
 ⟨none, none, .e (.store 12 (.t 10) (.t 55)), []⟩] .done)))
def c7_14 : ACode := .ops [
 ⟨some 56, none, .q (.fa 1 (.t 3)), []⟩,
 ⟨some 57, none, .q (.ld none (.t 56)), []⟩,
 ⟨some 58, none, .q (.bin .eql (.t 57) (.v (.int .i64 1))), []⟩]
def c7_15 : ACode := .ops [
 ⟨some 59, none, .e (.call 10 []), []⟩,
 ⟨some 60, none, .q (.mv (.t 59)), []⟩,
 ⟨some 61, some (60, true), .q (.ld (some 12) (.t 10)), []⟩,
 ⟨some 62, some (60, true), .q (.ld (some 12) (.t 5)), []⟩,
 ⟨some 63, some (60, true), .e (.call 23 [(.t 61), (.t 62)]), []⟩,
 ⟨some 64, none, .q (.pick (.t 60) (.t 63) (.v (.bool false))), []⟩,
 ⟨some 4, none, .q (.mv (.t 64)), []⟩]
def c7_16 : ACode := .seq c7_15 .ret
def c7_17 : ACode := .cond (.t 58) c7_16 .skip
def c7_18 : ACode := .seq c7_14 c7_17
def c7_19 : ACode := .ops [
 ⟨some 65, none, .q (.ld (some 12) (.t 5)), []⟩,
 ⟨some 66, none, .e (.call 25 [(.t 65)]), []⟩,
 ⟨some 67, none, .q (.len (.t 66)), []⟩,
 ⟨some 68, none, .q (.mv (.v (.int .i64 0))), []⟩]
def c7_20 : ACode := .ops [
 ⟨some 69, none, .q (.bin .lss (.t 68) (.t 67)), []⟩]
def c7_21 : ACode := .cond (.t 69) .skip (.exit 0)
def c7_22 : ACode := .ops [
 ⟨some 70, none, .q (.ia 4 (.t 66) (.t 68)), []⟩,
 ⟨some 71, none, .q (.ld (some 4) (.t 70)), []⟩,
 ⟨some 12, none, .e (.alloc [(.int .i64 0), (.int .i64 0), (.int .i64 0), (.int .i64 0)]), []⟩,
 ⟨none, none, .e (.store 4 (.t 12) (.t 71)), []⟩]
def c7_23 : ACode := .ops [
 ⟨some 72, none, .q (.fa 2 (.t 12)), []⟩,
 ⟨some 73, none, .q (.ld none (.t 72)), []⟩,
 ⟨some 74, none, .q (.bin .gtr (.t 73) (.v (.int .i64 1))), []⟩,
 ⟨some 75, none, .q (.mv (.t 74)), []⟩,
 ⟨some 76, some (75, false), .q (.fa 3 (.t 12)), []⟩,
 ⟨some 77, some (75, false), .q (.ld none (.t 76)), []⟩,
 ⟨some 78, some (75, false), .q (.bin .gtr (.t 77) (.v (.int .i64 1))), []⟩,
 ⟨some 79, none, .q (.pick (.t 75) (.v (.bool true)) (.t 78)), []⟩]
def c7_24 : ACode := .ops [
 ⟨some 80, none, .e (.call 10 []), []⟩,
 ⟨some 4, none, .q (.mv (.t 80)), []⟩]
def c7_25 : ACode := .seq c7_24 .ret
def c7_26 : ACode := .cond (.t 79) c7_25 .skip
def c7_27 : ACode := .seq c7_23 c7_26
def c7_28 : ACode := .seq c7_22 c7_27
def c7_29 : ACode := .block 1 c7_28
def c7_30 : ACode := .ops [
 ⟨some 81, none, .q (.bin .add (.t 68) (.v (.int .i64 1))), []⟩,
 ⟨some 68, none, .q (.mv (.t 81)), []⟩]
def c7_31 : ACode := .seq c7_29 c7_30
def c7_32 : ACode := .seq c7_21 c7_31
def c7_33 : ACode := .seq c7_20 c7_32
def c7_34 : ACode := .loop c7_33
def c7_35 : ACode := .block 0 c7_34
def c7_36 : ACode := .seq c7_19 c7_35
def c7_37 : ACode := .ops [
 ⟨some 82, none, .e (.call 10 []), []⟩,
 ⟨some 83, none, .q (.mv (.t 82)), []⟩,
 ⟨some 84, some (83, true), .q (.ld (some 12) (.t 10)), []⟩,
 ⟨some 85, some (83, true), .q (.ld (some 12) (.t 5)), []⟩,
 ⟨some 86, some (83, true), .e (.call 23 [(.t 84), (.t 85)]), []⟩,
 ⟨some 87, none, .q (.pick (.t 83) (.t 86) (.v (.bool false))), []⟩,
 ⟨some 4, none, .q (.mv (.t 87)), []⟩]
def c7_38 : ACode := .seq c7_37 .ret
def c7_39 : ACode := .seq c7_36 c7_38
def c7_40 : ACode := .seq c7_18 c7_39
def c7_41 : ACode := .seq c7_13 c7_40
def c7_42 : ACode := .seq c7_12 c7_41
def c7_43 : ACode := .seq c7_7 c7_42
def c7_44 : ACode := .seq c7_6 c7_43
def c7_45 : ACode := .seq c7_1 c7_44
def c7_46 : ACode := .seq c7_0 c7_45
@[go_sem] def c7_0_wp := wp_of c7_0.eq_1
@[go_sem] def c7_1_wp := wp_of c7_1.eq_1
@[go_sem] def c7_2_wp := wp_of c7_2.eq_1
@[go_sem] def c7_3_wp := wp_of c7_3.eq_1
@[go_sem] def c7_4_wp := wp_of c7_4.eq_1
@[go_sem] def c7_5_wp := wp_of c7_5.eq_1
@[go_sem] def c7_6_wp := wp_of c7_6.eq_1
@[go_sem] def c7_7_wp := wp_of c7_7.eq_1
@[go_sem] def c7_8_wp := wp_of c7_8.eq_1
@[go_sem] def c7_9_wp := wp_of c7_9.eq_1
@[go_sem] def c7_10_wp := wp_of c7_10.eq_1
@[go_sem] def c7_11_wp := wp_of c7_11.eq_1
@[go_sem] def c7_12_wp := wp_of c7_12.eq_1
@[go_sem] def c7_13_wp := wp_of c7_13.eq_1
@[go_sem] def c7_14_wp := wp_of c7_14.eq_1
@[go_sem] def c7_15_wp := wp_of c7_15.eq_1
@[go_sem] def c7_16_wp := wp_of c7_16.eq_1
@[go_sem] def c7_17_wp := wp_of c7_17.eq_1
@[go_sem] def c7_18_wp := wp_of c7_18.eq_1
@[go_sem] def c7_19_wp := wp_of c7_19.eq_1
@[go_sem] def c7_20_wp := wp_of c7_20.eq_1
@[go_sem] def c7_21_wp := wp_of c7_21.eq_1
@[go_sem] def c7_22_wp := wp_of c7_22.eq_1
@[go_sem] def c7_23_wp := wp_of c7_23.eq_1
@[go_sem] def c7_24_wp := wp_of c7_24.eq_1
@[go_sem] def c7_25_wp := wp_of c7_25.eq_1
@[go_sem] def c7_26_wp := wp_of c7_26.eq_1
@[go_sem] def c7_27_wp := wp_of c7_27.eq_1
@[go_sem] def c7_28_wp := wp_of c7_28.eq_1
@[go_sem] def c7_29_wp := wp_of c7_29.eq_1
@[go_sem] def c7_30_wp := wp_of c7_30.eq_1
@[go_sem] def c7_31_wp := wp_of c7_31.eq_1
@[go_sem] def c7_32_wp := wp_of c7_32.eq_1
@[go_sem] def c7_33_wp := wp_of c7_33.eq_1
@[go_sem] def c7_34_wp := wp_of c7_34.eq_1
@[go_sem] def c7_35_wp := wp_of c7_35.eq_1
@[go_sem] def c7_36_wp := wp_of c7_36.eq_1
@[go_sem] def c7_37_wp := wp_of c7_37.eq_1
@[go_sem] def c7_38_wp := wp_of c7_38.eq_1
@[go_sem] def c7_39_wp := wp_of c7_39.eq_1
@[go_sem] def c7_40_wp := wp_of c7_40.eq_1
@[go_sem] def c7_42_wp := wp_of c7_42.eq_1
@[go_sem] def c7_43_wp := wp_of c7_43.eq_1
@[go_sem] def c7_44_wp := wp_of c7_44.eq_1
@[go_sem] def c7_45_wp := wp_of c7_45.eq_1
@[go_sem] def c7_46_wp := wp_of c7_46.eq_1
def c7 : AFn := ⟨88, [.t 4], c7_46⟩
theorem c7_ok : compF Tryz.prog Tryz.f7 = some c7 := by kernel_rfl
theorem a7 {args : List AV} {σ : ASt} {R : AV → ASt → Prop} (hl : args.length ≤ 88) (h : c7_46.wp Tryz.prog (RetQ [.t 4] R) (init args) σ) : ACalls Tryz.prog 7 args σ R := acalls_of Tryz.func7 c7_ok hl h
/-! 26: (tabular/shift.Edit).Back -/
def c26_0 : ACode := .ops [
 ⟨some 1, none, .e (.box (.t 0)), []⟩,
 ⟨some 2, none, .e (.alloc [(.bool false), (.int .i64 0), (.int .i64 0), (.int .i64 0), (.int .i64 0)]), []⟩,
 ⟨some 3, none, .q (.mv (.v (.bool false))), []⟩]
def c26_1 : ACode := .ops [
 ⟨some 4, none, .q (.fa 1 (.t 1)), []⟩,
 ⟨some 5, none, .q (.ld none (.t 4)), []⟩]
def c26_2 : ACode := .ops [
 ⟨some 7, none, .q (.bin .eql (.t 5) (.v (.int .i64 1))), []⟩,
 ⟨some 6, none, .q (.mv (.t 7)), []⟩]
def c26_3 : ACode := .ops [
 ⟨some 8, none, .q (.fa 0 (.t 1)), []⟩,
 ⟨some 9, none, .q (.ld none (.t 8)), []⟩,
 ⟨some 10, none, .q (.fa 2 (.t 1)), []⟩,
 ⟨some 11, none, .q (.ld none (.t 10)), []⟩,
 ⟨some 12, none, .q (.fa 3 (.t 1)), []⟩,
 ⟨some 13, none, .q (.ld none (.t 12)), []⟩,
 ⟨some 14, none, .q (.build [(.bool false), (.int .i64 0), (.int .i64 0), (.int .i64 0), (.int .i64 0)] [(0, 1, (.t 9)), (1, 1, (.v (.int .i64 2))), (2, 1, (.t 11)), (3, 1, (.t 13))]), []⟩,
 ⟨none, none, .e (.store 5 (.t 2) (.t 14)), []⟩,
 ⟨some 3, none, .q (.mv (.v (.bool true))), []⟩]
def c26_4 : ACode := .seq c26_3 .ret
def c26_5 : ACode := .ops [
 ⟨some 16, none, .q (.bin .eql (.t 5) (.v (.int .i64 3))), []⟩,
 ⟨some 15, none, .q (.mv (.t 16)), []⟩]
def c26_6 : ACode := .ops [
 ⟨some 17, none, .q (.fa 0 (.t 1)), []⟩,
 ⟨some 18, none, .q (.ld none (.t 17)), []⟩,
 ⟨some 19, none, .q (.fa 4 (.t 1)), []⟩,
 ⟨some 20, none, .q (.ld none (.t 19)), []⟩,
 ⟨some 21, none, .q (.fa 3 (.t 1)), []⟩,
 ⟨some 22, none, .q (.ld none (.t 21)), []⟩,
 ⟨some 23, none, .q (.fa 2 (.t 1)), []⟩,
 ⟨some 24, none, .q (.ld none (.t 23)), []⟩,
 ⟨some 25, none, .q (.build [(.bool false), (.int .i64 0), (.int .i64 0), (.int .i64 0), (.int .i64 0)] [(0, 1, (.t 18)), (1, 1, (.v (.int .i64 3))), (2, 1, (.t 20)), (3, 1, (.t 22)), (4, 1, (.t 24))]), []⟩,
 ⟨none, none, .e (.store 5 (.t 2) (.t 25)), []⟩,
 ⟨some 3, none, .q (.mv (.v (.bool true))), []⟩]
def c26_7 : ACode := .seq c26_6 .ret
def c26_8 : ACode := .cond (.t 15) c26_7 .skip
def c26_9 : ACode := .seq c26_5 c26_8
def c26_10 : ACode := .cond (.t 6) c26_4 c26_9
def c26_11 : ACode := .seq c26_2 c26_10
def c26_12 : ACode := .block 0 c26_11
def c26_13 : ACode := .seq c26_1 c26_12
def c26_14 : ACode := .ops [
 ⟨some 26, none, .q (.build [(.bool false), (.int .i64 0), (.int .i64 0), (.int .i64 0), (.int .i64 0)] []), []⟩,
 ⟨none, none, .e (.store 5 (.t 2) (.t 26)), []⟩,
 ⟨some 3, none, .q (.mv (.v (.bool false))), []⟩]
def c26_15 : ACode := .seq c26_14 .ret
def c26_16 : ACode := .seq c26_13 c26_15
def c26_17 : ACode := .seq c26_0 c26_16
@[go_sem] def c26_0_wp := wp_of c26_0.eq_1
@[go_sem] def c26_1_wp := wp_of c26_1.eq_1
@[go_sem] def c26_2_wp := wp_of c26_2.eq_1
@[go_sem] def c26_3_wp := wp_of c26_3.eq_1
@[go_sem] def c26_4_wp := wp_of c26_4.eq_1
@[go_sem] def c26_5_wp := wp_of c26_5.eq_1
@[go_sem] def c26_6_wp := wp_of c26_6.eq_1
@[go_sem] def c26_7_wp := wp_of c26_7.eq_1
@[go_sem] def c26_8_wp := wp_of c26_8.eq_1
@[go_sem] def c26_9_wp := wp_of c26_9.eq_1
@[go_sem] def c26_10_wp := wp_of c26_10.eq_1
@[go_sem] def c26_11_wp := wp_of c26_11.eq_1
@[go_sem] def c26_12_wp := wp_of c26_12.eq_1
@[go_sem] def c26_13_wp := wp_of c26_13.eq_1
@[go_sem] def c26_14_wp := wp_of c26_14.eq_1
@[go_sem] def c26_15_wp := wp_of c26_15.eq_1
@[go_sem] def c26_16_wp := wp_of c26_16.eq_1
@[go_sem] def c26_17_wp := wp_of c26_17.eq_1
def c26 : AFn := ⟨27, [.c 2 (some 5), .t 3], c26_17⟩
theorem c26_ok : compF Tryz.prog Tryz.f26 = some c26 := by kernel_rfl
theorem a26 {args : List AV} {σ : ASt} {R : AV → ASt → Prop} (hl : args.length ≤ 27) (h : c26_17.wp Tryz.prog (RetQ [.c 2 (some 5), .t 3] R) (init args) σ) : ACalls Tryz.prog 26 args σ R := acalls_of Tryz.func26 c26_ok hl h
end Go.A
namespace Go.A
open Go.Proofs Go.Lib
def Edt.none : Edt := ⟨false, 0, 0, 0, 0⟩
theorem node_size (e : Edt) {x : Nd} (ho : x.op = 5 ∨ x.op = 6) (hx : x.gd) : (e.node x).size = x.size := by
 obtain ⟨op, n, s, a, b, ks⟩ := x
 change op = 5 ∨ op = 6 at ho
 have hk : ks = [] := by
  have := hx.2
  rw [Nd.nk] at this
  exact this.1 ho
 subst hk
 have hgs : goneN.size = 1 := leaf_size _ _ _ _ _
 rcases ho with rfl | rfl
 ·rw [node_cell, Edt.cell]
  split
  ·rw [leaf_size, leaf_size]
  ·rw [hgs, leaf_size]
 ·rw [node_area, Edt.area]
  split
  ·split
   ·rw [leaf_size, leaf_size]
   ·rw [leaf_size, leaf_size]
  ·rw [hgs, leaf_size]
theorem tree_size (e : Edt) {n : Nd} (h : n.gd) : (e.tree n).size = n.size := map_size (Nd.allR_mono (fun x ho hx => node_size e ho hx) (gd_refs h))
theorem shback_ok (e : Edt) : Pure Tryz.prog 26 [e.av] (.tuple [(if e.kind = 1 ∨ e.kind = 3 then e.back else Edt.none).av, .bool (decide (e.kind = 1 ∨ e.kind = 3))]) := by
 intro σ
 have hb : e.kind ≠ 1 → e.back = ⟨e.cols, 3, e.dst, e.n, e.at'⟩ := fun h => if_neg h
 have hb1 : e.kind = 1 → e.back = ⟨e.cols, 2, e.at', e.n, 0⟩ := fun h => if_pos h
 unfold Edt.av
 refine a26 (by simp) ?_
 simp (disch := first | assumption | omega) only [go_sem]
 refine boxC_by rfl fun b hb0 => ?_
 simp (disch := first | assumption | omega) only [go_sem]
 refine allocC_by fun c hc => ?_
 have hc0 := hc
 repeat (with_reducible replace hc := set_none hc; obtain ⟨_, _, hc⟩ := hc)
 by_cases k1 : e.kind = 1
 ·rw [if_pos (.inl k1), decide_eq_true (.inl k1), hb1 k1]
  simp (disch := first | assumption | omega) only [go_sem, Nat.reduceEqDiff, Nat.reduceAdd, Nat.reduceLeDiff, ↓reduceIte, Bool.true_and, k1, ASt.set_set]
  exact retC_by (by repeat' (first | exact Drop.refl _ | with_reducible refine Drop.off ?_ (by assumption))) (.refl _) ⟨rfl, rfl⟩
 ·by_cases k3 : e.kind = 3
  ·rw [if_pos (.inr k3), decide_eq_true (.inr k3), hb k1]
   simp (disch := first | assumption | omega) only [go_sem, Nat.reduceEqDiff, Nat.reduceAdd, Nat.reduceLeDiff, Int.reduceEq, ↓reduceIte, Bool.true_and, k3, ASt.set_set]
   exact retC_by (by repeat' (first | exact Drop.refl _ | with_reducible refine Drop.off ?_ (by assumption))) (.refl _) ⟨rfl, rfl⟩
  ·rw [if_neg (by omega), decide_eq_false (by omega)]
   simp (disch := first | assumption | omega) only [go_sem, Nat.reduceEqDiff, Nat.reduceAdd, Nat.reduceLeDiff, ↓reduceIte, Bool.true_and, k1, k3, ASt.set_set]
   exact retC_by (by repeat' (first | exact Drop.refl _ | with_reducible refine Drop.off ?_ (by assumption))) (.refl _) ⟨rfl, rfl⟩
set_option maxHeartbeats 4000000 in
theorem ShiftBack_any {σ : ASt} (hT : Tab σ) (hM : MaxL σ) (hU : U8 σ) (hV : LV σ) (s : List UInt8) (e : Edt) :
  ACalls Tryz.prog 7 [.str s, .agg e.cs] σ fun v σ' => v = .bool true ∧ σ' = σ := by
 have hA : ∀ τ, Tab τ → MaxL τ → U8 τ → LV τ → ACalls Tryz.prog 10 [] τ fun v σ' => v = .bool true ∧ σ' = τ := fun τ h1 h2 h3 h4 => shawake_ok h1 h2 h3 h4
 have hc : Pure Tryz.prog 9 [.str s, .int .i64 300] (.str (s.take 300)) := cut_ok s 300
 have hlen : (s.take 300).length ≤ 100000 := by rw [List.length_take]; omega
 have hP := fun τ (hU : U8 τ) (hV : LV τ) => parseR_ok hU hV (s.take 300) hlen
 have hgd := parseR_gd (s := s.take 300)
 obtain ⟨⟨n, k, er⟩, hR⟩ : ∃ R, parseR (s.take 300) = R := ⟨_, rfl⟩
 rw [hR] at hP hgd
 dsimp only at hP hgd
 clear hR
 generalize s.take 300 = s' at *
 have hG : Pure Tryz.prog 20 [.agg e.cs, .int .i64 600] (.bool (e.good 600)) := shgood_ok e 600
 have hB : Pure Tryz.prog 26 [.agg e.cs] (.tuple [.agg (if e.kind = 1 ∨ e.kind = 3 then e.back else Edt.none).cs, .bool (decide (e.kind = 1 ∨ e.kind = 3))]) := shback_ok e
 by_cases he : er = 0
 ·obtain ⟨hg, hsz⟩ := hgd he
  subst he
  clear hgd
  have hS := shsmall_ok n hg (by omega) 500 500
  cases hb : smallB 500 500 (Nd.areas [] n) with
  | false =>
    rw [hb] at hS
    clear hg hsz hb
    obtain ⟨op, m, s, a, b, ks⟩ := n
    have hav : (Nd.mk op m s a b ks).av = .agg [.int .i64 op, .int .i64 m, .str s, .int .i64 a.row, .int .i64 a.col, .bool a.absRow, .bool a.absCol, .int .i64 b.row, .int .i64 b.col, .bool b.absRow, .bool b.absCol, .sl .shr (ks.map Nd.av)] := Nd.av_cs ..
    simp only [hav] at hP
    rw [hav] at hS
    generalize ks.map Nd.av = L at *
    refine a7 (by simp) ?_
    simp (disch := first | assumption | omega) only [go_sem]
    refine boxC_by rfl fun c0 h0 => ?_
    have T1 := Tab.set (r := some (.obj e.cs)) hT h0
    have M1 := MaxL.set (r := some (.obj e.cs)) hM h0
    have U1 := U8.set (r := some (.obj e.cs)) hU h0
    have V1 := LV.set (r := some (.obj e.cs)) hV h0
    simp (disch := first | assumption | omega) only [go_sem, reduceCtorEq, ↓reduceIte]
    refine hc.use ?_
    simp (disch := first | assumption | omega) only [go_sem, ↓reduceIte]
    refine (hP _ U1 V1).mono ?_
    rintro v σ' ⟨rfl, rfl⟩
    simp (disch := first | assumption | omega) only [go_sem, Nat.reduceEqDiff, ↓reduceIte]
    refine allocC_by fun c1 h1 => ?_
    have h10 := h1
    have T2 := fun r => Tab.set (r := r) T1 h10
    have M2 := fun r => MaxL.set (r := r) M1 h10
    have U2 := fun r => U8.set (r := r) U1 h10
    have V2 := fun r => LV.set (r := r) V1 h10
    repeat (with_reducible replace h1 := set_none h1; obtain ⟨_, _, h1⟩ := h1)
    simp (disch := first | assumption | omega) only [go_sem, Nat.reduceEqDiff, Nat.reduceAdd, Nat.reduceLeDiff, ↓reduceIte, Bool.true_and, ASt.set_set]
    refine hS.use ?_
    simp (disch := first | assumption | omega) only [go_sem, Nat.reduceEqDiff, ↓reduceIte]
    refine (hA _ (T2 _) (M2 _) (U2 _) (V2 _)).mono ?_
    rintro v σ' ⟨rfl, rfl⟩
    simp (disch := first | assumption | omega) only [go_sem, ↓reduceIte]
    exact retC_by (by repeat' (first | exact Drop.refl _ | with_reducible refine Drop.off ?_ (by assumption))) (.refl _) ⟨rfl, rfl⟩
  | true =>
    rw [hb] at hS
    cases hgo : e.good 600 with
    | false =>
      rw [hgo] at hG
      clear hg hsz hb
      obtain ⟨op, m, s, a, b, ks⟩ := n
      have hav : (Nd.mk op m s a b ks).av = .agg [.int .i64 op, .int .i64 m, .str s, .int .i64 a.row, .int .i64 a.col, .bool a.absRow, .bool a.absCol, .int .i64 b.row, .int .i64 b.col, .bool b.absRow, .bool b.absCol, .sl .shr (ks.map Nd.av)] := Nd.av_cs ..
      simp only [hav] at hP
      rw [hav] at hS
      generalize ks.map Nd.av = L at *
      refine a7 (by simp) ?_
      simp (disch := first | assumption | omega) only [go_sem]
      refine boxC_by rfl fun c0 h0 => ?_
      have T1 := Tab.set (r := some (.obj e.cs)) hT h0
      have M1 := MaxL.set (r := some (.obj e.cs)) hM h0
      have U1 := U8.set (r := some (.obj e.cs)) hU h0
      have V1 := LV.set (r := some (.obj e.cs)) hV h0
      simp (disch := first | assumption | omega) only [go_sem, reduceCtorEq, ↓reduceIte]
      refine hc.use ?_
      simp (disch := first | assumption | omega) only [go_sem, ↓reduceIte]
      refine (hP _ U1 V1).mono ?_
      rintro v σ' ⟨rfl, rfl⟩
      simp (disch := first | assumption | omega) only [go_sem, Nat.reduceEqDiff, ↓reduceIte]
      refine allocC_by fun c1 h1 => ?_
      have h10 := h1
      have T2 := fun r => Tab.set (r := r) T1 h10
      have M2 := fun r => MaxL.set (r := r) M1 h10
      have U2 := fun r => U8.set (r := r) U1 h10
      have V2 := fun r => LV.set (r := r) V1 h10
      repeat (with_reducible replace h1 := set_none h1; obtain ⟨_, _, h1⟩ := h1)
      simp (disch := first | assumption | omega) only [go_sem, Nat.reduceEqDiff, Nat.reduceAdd, Nat.reduceLeDiff, ↓reduceIte, Bool.true_and, ASt.set_set]
      refine hS.use ?_
      simp (disch := first | assumption | omega) only [go_sem, Nat.reduceEqDiff, Nat.reduceLeDiff, ↓reduceIte]
      refine hG.use ?_
      simp (disch := first | assumption | omega) only [go_sem, Nat.reduceEqDiff, ↓reduceIte]
      refine (hA _ (T2 _) (M2 _) (U2 _) (V2 _)).mono ?_
      rintro v σ' ⟨rfl, rfl⟩
      simp (disch := first | assumption | omega) only [go_sem, ↓reduceIte]
      exact retC_by (by repeat' (first | exact Drop.refl _ | with_reducible refine Drop.off ?_ (by assumption))) (.refl _) ⟨rfl, rfl⟩
    | true =>
      have h6 := good_six hgo
      have hfit := Edt.good_fit hgo
      rw [hgo] at hG
      by_cases hk : e.kind = 1 ∨ e.kind = 3
      ·have h2 : e.two := ⟨h6, hk.imp (fun k => ⟨k, good_room hgo k⟩) id⟩
       rw [if_pos hk, decide_eq_true hk] at hB
       obtain ⟨g1, g2⟩ := tree_two h2 hg hb
       have ht1 : Pure Tryz.prog 17 [.agg e.cs, n.av] (e.tree n).av := shtree_ok e hfit n hg.1 (by omega)
       have ht2 : Pure Tryz.prog 17 [.agg e.back.cs, (e.tree n).av] (e.back.tree (e.tree n)).av := shtree_ok e.back (back_fit h2) (e.tree n) g1.1 (by omega)
       have hAr := Areas_ok n hg.1 (by omega)
       have hbk := tree_back h2 hg hb
       have e1 := esame_ok n n (by omega) (by omega)
       rw [Nd.same_refl] at e1
       have hfn := areas_fine hg
       have hll : (Nd.areas [] n).length ≤ 10000 := by have := Nd.areas_len n []; simp only [List.length_nil] at this; omega
       generalize Nd.areas [] n = l at *
       have hwz := tree_size e.back g1
       obtain ⟨W, hW⟩ : ∃ W, e.back.tree (e.tree n) = W := ⟨_, rfl⟩
       rw [hW] at ht2 hbk hwz
       generalize (e.tree n).av = X at *
       generalize (e.tree n).size = xs at *
       clear g1 hg hb hfit h6 hW hgo
       have e2 : Nd.same W n = true ∨ ¬ (e.kind = 1 ∨ narrowB l = true) := by
        by_cases hh : e.kind = 1 ∨ narrowB l = true
        ·exact .inl (by rw [hbk hh]; exact Nd.same_refl n)
        ·exact .inr hh
       have hws : W.size ≤ 1000000000 ∧ n.size ≤ 1000000000 := ⟨by rw [hwz]; omega, by omega⟩
       have e3 := esame_ok W n hws.1 hws.2
       generalize Nd.same W n = sm at *
       clear e1 hbk hws hwz g2 hsz
       obtain ⟨op, m, s, a, b, ks⟩ := n
       obtain ⟨wo, wm, ws, wa, wb, wk⟩ := W
       have hav : (Nd.mk op m s a b ks).av = .agg [.int .i64 op, .int .i64 m, .str s, .int .i64 a.row, .int .i64 a.col, .bool a.absRow, .bool a.absCol, .int .i64 b.row, .int .i64 b.col, .bool b.absRow, .bool b.absCol, .sl .shr (ks.map Nd.av)] := Nd.av_cs ..
       have hwv : (Nd.mk wo wm ws wa wb wk).av = .agg [.int .i64 wo, .int .i64 wm, .str ws, .int .i64 wa.row, .int .i64 wa.col, .bool wa.absRow, .bool wa.absCol, .int .i64 wb.row, .int .i64 wb.col, .bool wb.absRow, .bool wb.absCol, .sl .shr (wk.map Nd.av)] := Nd.av_cs ..
       simp only [hav] at hP
       rw [hav] at hS ht1 hAr e3
       rw [hwv] at ht2 e3
       generalize ks.map Nd.av = L at *
       generalize wk.map Nd.av = WL at *
       obtain ⟨F, hF⟩ : ∃ F, F = ACode.wp Tryz.prog c7_41 := ⟨_, rfl⟩
       have rest : ∀ (c0 c1 c2 : Nat) (a1 : AFr) (τ : ASt), Tab τ → MaxL τ → U8 τ → LV τ → Drop τ σ → τ c0 = some (.obj e.cs) → τ c1 = some (.obj [.int .i64 op, .int .i64 m, .str s, .int .i64 a.row, .int .i64 a.col, .bool a.absRow, .bool a.absCol, .int .i64 b.row, .int .i64 b.col, .bool b.absRow, .bool b.absCol, .sl .shr L]) → τ c2 = some (.obj e.back.cs) →
         (a1 3 = .ptr c0 0 ∧ a1 5 = .ptr c1 0 ∧ a1 8 = .ptr c2 0) → F (RetQ [.t 4] fun v τ' => v = .bool true ∧ τ' = σ) a1 τ := by
        intro c0 c1 c2 a1 τ hT hM hU hV hdr q0 q1 q2 hf
        rw [hF]
        refine wp_cut (x := c7_13) (y := c7_40) (fun a' τ' => ∃ d, τ d = none ∧ τ' = τ.set d (some (.obj [.int .i64 wo, .int .i64 wm, .str ws, .int .i64 wa.row, .int .i64 wa.col, .bool wa.absRow, .bool wa.absCol, .int .i64 wb.row, .int .i64 wb.col, .bool wb.absRow, .bool wb.absCol, .sl .shr WL])) ∧ (a' 3 = .ptr c0 0 ∧ a' 5 = .ptr c1 0 ∧ a' 10 = .ptr d 0)) ?_ ?_
        ·simp (disch := first | assumption | omega) only [go_sem, Nat.reduceEqDiff, Nat.reduceAdd, Nat.reduceLeDiff, ↓reduceIte, hf, q0, q1, q2]
         refine bothT_by ?_ ?_
         ·simp (disch := first | assumption | omega) only [go_sem, Nat.reduceEqDiff, ↓reduceIte]
          refine ht1.use ?_
          simp (disch := first | assumption | omega) only [go_sem, Nat.reduceEqDiff, Nat.reduceLeDiff, ↓reduceIte, q2, hf]
          refine bothT_by ?_ ?_
          ·simp (disch := first | assumption | omega) only [go_sem, Nat.reduceEqDiff, ↓reduceIte]
           refine ht2.use ?_
           simp (disch := first | assumption | omega) only [go_sem]
           refine allocC_by fun d hd => ?_
           simp (disch := first | assumption | omega) only [go_sem, Nat.reduceEqDiff, Nat.reduceAdd, Nat.reduceLeDiff, ↓reduceIte, Bool.true_and, ASt.set_set]
           exact ⟨d, hd, rfl, by simp [hf]⟩
          ·simp (disch := first | assumption | omega) only [go_sem]
           refine allocC_by fun d hd => ?_
           simp (disch := first | assumption | omega) only [go_sem, Nat.reduceEqDiff, ↓reduceIte]
           refine ht2.use ?_
           simp (disch := first | assumption | omega) only [go_sem, Nat.reduceEqDiff, Nat.reduceAdd, Nat.reduceLeDiff, ↓reduceIte, Bool.true_and, ASt.set_set]
           exact ⟨d, hd, rfl, by simp [hf]⟩
         ·simp (disch := first | assumption | omega) only [go_sem]
          refine allocC_by fun d hd => ?_
          have k2 : ∀ r, (τ.set d r) c2 = some (.obj e.back.cs) := fun r => by rw [ASt.set_ne (by rintro rfl; rw [q2] at hd; cases hd)]; exact q2
          simp (disch := first | assumption | omega) only [go_sem, Nat.reduceEqDiff, ↓reduceIte]
          refine ht1.use ?_
          simp (disch := first | assumption | omega) only [go_sem, Nat.reduceEqDiff, Nat.reduceLeDiff, ↓reduceIte, k2, hf]
          refine ht2.use ?_
          simp (disch := first | assumption | omega) only [go_sem, Nat.reduceEqDiff, Nat.reduceAdd, Nat.reduceLeDiff, ↓reduceIte, Bool.true_and, ASt.set_set]
          exact ⟨d, hd, rfl, by simp [hf]⟩
        ·rintro a2 τ2 ⟨d, hd, rfl, hf2⟩
         have k0 : ∀ r, (τ.set d r) c0 = some (.obj e.cs) := fun r => by rw [ASt.set_ne (by rintro rfl; rw [q0] at hd; cases hd)]; exact q0
         have k1 : ∀ r, (τ.set d r) c1 = some (.obj [.int .i64 op, .int .i64 m, .str s, .int .i64 a.row, .int .i64 a.col, .bool a.absRow, .bool a.absCol, .int .i64 b.row, .int .i64 b.col, .bool b.absRow, .bool b.absCol, .sl .shr L]) := fun r => by rw [ASt.set_ne (by rintro rfl; rw [q1] at hd; cases hd)]; exact q1
         have T9 := fun r => Tab.set (r := r) hT hd
         have M9 := fun r => MaxL.set (r := r) hM hd
         have U9 := fun r => U8.set (r := r) hU hd
         have V9 := fun r => LV.set (r := r) hV hd
         have hd9 : ∀ r, Drop (τ.set d r) σ := fun r => (Drop.set hd).trans hdr
         have awk := hA _ (T9 (some (.obj [.int .i64 wo, .int .i64 wm, .str ws, .int .i64 wa.row, .int .i64 wa.col, .bool wa.absRow, .bool wa.absCol, .int .i64 wb.row, .int .i64 wb.col, .bool wb.absRow, .bool wb.absCol, .sl .shr WL]))) (M9 _) (U9 _) (V9 _)
         by_cases k1' : e.kind = 1
         ·have hsm : sm = true := e2.resolve_right fun h => h (.inl k1')
          subst hsm
          simp (disch := first | assumption | omega) only [go_sem, ↓reduceIte, hf2, k0, k1']
          refine awk.mono ?_
          rintro v σ' ⟨rfl, rfl⟩
          simp (disch := first | assumption | omega) only [go_sem, Nat.reduceEqDiff, Nat.reduceAdd, Nat.reduceLeDiff, ↓reduceIte, hf2, k1]
          refine e3.use ?_
          simp (disch := first | assumption | omega) only [go_sem, Nat.reduceEqDiff, ↓reduceIte]
          exact retC_by (hd9 _) (.refl _) ⟨rfl, rfl⟩
         ·simp (disch := first | assumption | omega) only [go_sem, Nat.reduceEqDiff, Nat.reduceAdd, Nat.reduceLeDiff, ↓reduceIte, hf2, k0, k1, k1']
          refine hAr.use ?_
          simp (disch := first | assumption | omega) only [go_sem, ↓reduceIte]
          refine wp_loop_by (fun (i : Nat) a3 s3 => (i ≤ l.length ∧ narrowB (l.drop i) = narrowB l) ∧ (a3 3 = .ptr c0 0 ∧ a3 5 = .ptr c1 0 ∧ a3 10 = .ptr d 0 ∧ a3 66 = .sl .shr (l.map Rc.av) ∧ a3 67 = .int .i64 l.length ∧ a3 68 = .int .i64 i) ∧ s3 = τ.set d (some (.obj [.int .i64 wo, .int .i64 wm, .str ws, .int .i64 wa.row, .int .i64 wa.col, .bool wa.absRow, .bool wa.absCol, .int .i64 wb.row, .int .i64 wb.col, .bool wb.absRow, .bool wb.absCol, .sl .shr WL]))) (fun i => l.length - i) 0 (Dr.now ⟨⟨Nat.zero_le _, by rw [List.drop_zero]⟩, by simp [AFr.upd, hf2], rfl⟩) ?_
          rintro i a3 s3 ⟨⟨hi, hqi⟩, hf3, rfl⟩
          by_cases hlt : i < l.length
          ·have hlt' : (i : Int) < l.length := by omega
           have hx : l[i]? = some (l[i]'hlt) := List.getElem?_eq_getElem hlt
           have hfx := hfn _ (List.getElem_mem hlt)
           rw [List.drop_eq_getElem_cons hlt, narrowB, List.all_cons] at hqi
           obtain ⟨x, hxe⟩ : ∃ x, l[i]'hlt = x := ⟨_, rfl⟩
           rw [hxe] at hx hqi hfx
           have hmx := Rc.get hx
           rw [show x.av = .agg [.int .i64 x.row, .int .i64 x.col, .int .i64 x.rows, .int .i64 x.cols] from rfl] at hmx
           generalize l.map Rc.av = XL at *
           simp (disch := first | assumption | omega) only [go_sem, Nat.reduceEqDiff, Nat.reduceAdd, Nat.reduceLeDiff, ↓reduceIte, hf3, hlt', hmx]
           refine allocC_by fun d2 hd2 => ?_
           have hd20 := hd2
           have T8 := fun r => Tab.set (r := r) (T9 _) hd20
           have M8 := fun r => MaxL.set (r := r) (M9 _) hd20
           have U8' := fun r => U8.set (r := r) (U9 _) hd20
           have V8 := fun r => LV.set (r := r) (V9 _) hd20
           have hd8 : ∀ r, Drop ((τ.set d (some (.obj [.int .i64 wo, .int .i64 wm, .str ws, .int .i64 wa.row, .int .i64 wa.col, .bool wa.absRow, .bool wa.absCol, .int .i64 wb.row, .int .i64 wb.col, .bool wb.absRow, .bool wb.absCol, .sl .shr WL]))).set d2 r) σ := fun r => (Drop.set hd20).trans (hd9 _)
           repeat (with_reducible replace hd2 := set_none hd2; obtain ⟨_, _, hd2⟩ := hd2)
           by_cases g1 : 1 < x.rows
           ·simp (disch := first | assumption | omega) only [go_sem, Nat.reduceEqDiff, Nat.reduceAdd, Nat.reduceLeDiff, ↓reduceIte, Bool.true_and, ASt.set_set, g1]
            refine (hA _ (T8 _) (M8 _) (U8' _) (V8 _)).mono ?_
            rintro v σ' ⟨rfl, rfl⟩
            simp (disch := first | assumption | omega) only [go_sem, ↓reduceIte]
            exact retC_by (hd8 _) (.refl _) ⟨rfl, rfl⟩
           by_cases g2 : 1 < x.cols
           ·simp (disch := first | assumption | omega) only [go_sem, Nat.reduceEqDiff, Nat.reduceAdd, Nat.reduceLeDiff, ↓reduceIte, Bool.true_and, ASt.set_set, g1, g2]
            refine (hA _ (T8 _) (M8 _) (U8' _) (V8 _)).mono ?_
            rintro v σ' ⟨rfl, rfl⟩
            simp (disch := first | assumption | omega) only [go_sem, ↓reduceIte]
            exact retC_by (hd8 _) (.refl _) ⟨rfl, rfl⟩
           rw [decide_eq_true (by omega), decide_eq_true (by omega), Bool.true_and, Bool.true_and] at hqi
           simp (disch := first | assumption | omega) only [go_sem, Nat.reduceEqDiff, Nat.reduceAdd, Nat.reduceLeDiff, ↓reduceIte, Bool.true_and, hf3, ASt.set_set, g1, g2]
           refine ⟨i + 1, by dsimp only; omega, Dr.drop (Drop.set hd20) ⟨⟨by omega, hqi⟩, ?_, rfl⟩⟩
           simp (disch := first | assumption | omega) only [go_sem, Nat.reduceEqDiff, ↓reduceIte, hf3]
          ·have hlt' : ¬ (i : Int) < l.length := by omega
           rw [List.drop_eq_nil_of_le (by omega)] at hqi
           have hsm : sm = true := e2.resolve_right fun h => h (.inr hqi.symm)
           subst hsm
           simp (disch := first | assumption | omega) only [go_sem, ↓reduceIte, hf3, hlt']
           refine awk.mono ?_
           rintro v σ' ⟨rfl, rfl⟩
           simp (disch := first | assumption | omega) only [go_sem, Nat.reduceEqDiff, Nat.reduceAdd, Nat.reduceLeDiff, ↓reduceIte, hf3, k1]
           refine e3.use ?_
           simp (disch := first | assumption | omega) only [go_sem, Nat.reduceEqDiff, ↓reduceIte]
           exact retC_by (hd9 _) (.refl _) ⟨rfl, rfl⟩
       refine a7 (by simp) ?_
       simp (disch := first | assumption | omega) only [go_sem]
       refine boxC_by rfl fun c0 h0 => ?_
       have T1 := Tab.set (r := some (.obj e.cs)) hT h0
       have M1 := MaxL.set (r := some (.obj e.cs)) hM h0
       have U1 := U8.set (r := some (.obj e.cs)) hU h0
       have V1 := LV.set (r := some (.obj e.cs)) hV h0
       simp (disch := first | assumption | omega) only [go_sem, reduceCtorEq, ↓reduceIte]
       refine hc.use ?_
       simp (disch := first | assumption | omega) only [go_sem, ↓reduceIte]
       refine (hP _ U1 V1).mono ?_
       rintro v σ' ⟨rfl, rfl⟩
       simp (disch := first | assumption | omega) only [go_sem, Nat.reduceEqDiff, ↓reduceIte]
       refine allocC_by fun c1 h1 => ?_
       have h10 := h1
       have T2 := fun r => Tab.set (r := r) T1 h10
       have M2 := fun r => MaxL.set (r := r) M1 h10
       have U2 := fun r => U8.set (r := r) U1 h10
       have V2 := fun r => LV.set (r := r) V1 h10
       repeat (with_reducible replace h1 := set_none h1; obtain ⟨_, _, h1⟩ := h1)
       simp (disch := first | assumption | omega) only [go_sem, Nat.reduceEqDiff, Nat.reduceAdd, Nat.reduceLeDiff, ↓reduceIte, Bool.true_and, ASt.set_set]
       refine hS.use ?_
       simp (disch := first | assumption | omega) only [go_sem, Nat.reduceEqDiff, Nat.reduceLeDiff, ↓reduceIte]
       refine hG.use ?_
       simp (disch := first | assumption | omega) only [go_sem, Nat.reduceEqDiff, Nat.reduceLeDiff, ↓reduceIte]
       refine hB.use ?_
       simp (disch := first | assumption | omega) only [go_sem, Nat.reduceEqDiff, ↓reduceIte]
       refine allocC_by fun c2 h2 => ?_
       have h20 := h2
       have T3 := fun r => Tab.set (r := r) (T2 _) h20
       have M3 := fun r => MaxL.set (r := r) (M2 _) h20
       have U3 := fun r => U8.set (r := r) (U2 _) h20
       have V3 := fun r => LV.set (r := r) (V2 _) h20
       repeat (with_reducible replace h2 := set_none h2; obtain ⟨_, _, h2⟩ := h2)
       simp (disch := first | assumption | omega) only [go_sem, Nat.reduceEqDiff, Nat.reduceAdd, Nat.reduceLeDiff, ↓reduceIte, ASt.set_set, ←hF]
       have n01 : c0 ≠ c1 := by rintro rfl; rw [ASt.set_same] at h10; cases h10
       have n12 : c1 ≠ c2 := by rintro rfl; rw [ASt.set_same] at h20; cases h20
       have n02 : c0 ≠ c2 := by rintro rfl; rw [ASt.set_ne n01, ASt.set_same] at h20; cases h20
       exact rest c0 c1 c2 _ _ (T3 _) (M3 _) (U3 _) (V3 _) ((Drop.set h20).trans ((Drop.set h10).trans (Drop.set h0))) (by rw [ASt.set_ne n02, ASt.set_ne n01, ASt.set_same]) (by rw [ASt.set_ne n12, ASt.set_same]) (by rw [ASt.set_same]) (by simp [AFr.upd])
      ·have k2 : e.kind = 2 := by rcases h6.k with ⟨k, _⟩ | ⟨k, _⟩ | ⟨k, _⟩ <;> omega
       rw [if_neg hk, decide_eq_false hk] at hB
       clear hg hsz hb
       obtain ⟨op, m, s, a, b, ks⟩ := n
       have hav : (Nd.mk op m s a b ks).av = .agg [.int .i64 op, .int .i64 m, .str s, .int .i64 a.row, .int .i64 a.col, .bool a.absRow, .bool a.absCol, .int .i64 b.row, .int .i64 b.col, .bool b.absRow, .bool b.absCol, .sl .shr (ks.map Nd.av)] := Nd.av_cs ..
       simp only [hav] at hP
       rw [hav] at hS
       generalize ks.map Nd.av = L at *
       refine a7 (by simp) ?_
       simp (disch := first | assumption | omega) only [go_sem]
       refine boxC_by rfl fun c0 h0 => ?_
       have T1 := Tab.set (r := some (.obj e.cs)) hT h0
       have M1 := MaxL.set (r := some (.obj e.cs)) hM h0
       have U1 := U8.set (r := some (.obj e.cs)) hU h0
       have V1 := LV.set (r := some (.obj e.cs)) hV h0
       simp (disch := first | assumption | omega) only [go_sem, reduceCtorEq, ↓reduceIte]
       refine hc.use ?_
       simp (disch := first | assumption | omega) only [go_sem, ↓reduceIte]
       refine (hP _ U1 V1).mono ?_
       rintro v σ' ⟨rfl, rfl⟩
       simp (disch := first | assumption | omega) only [go_sem, Nat.reduceEqDiff, ↓reduceIte]
       refine allocC_by fun c1 h1 => ?_
       have h10 := h1
       have T2 := fun r => Tab.set (r := r) T1 h10
       have M2 := fun r => MaxL.set (r := r) M1 h10
       have U2 := fun r => U8.set (r := r) U1 h10
       have V2 := fun r => LV.set (r := r) V1 h10
       repeat (with_reducible replace h1 := set_none h1; obtain ⟨_, _, h1⟩ := h1)
       simp (disch := first | assumption | omega) only [go_sem, Nat.reduceEqDiff, Nat.reduceAdd, Nat.reduceLeDiff, ↓reduceIte, Bool.true_and, ASt.set_set]
       refine hS.use ?_
       simp (disch := first | assumption | omega) only [go_sem, Nat.reduceEqDiff, Nat.reduceLeDiff, ↓reduceIte]
       refine hG.use ?_
       simp (disch := first | assumption | omega) only [go_sem, Nat.reduceEqDiff, Nat.reduceLeDiff, ↓reduceIte]
       refine hB.use ?_
       simp (disch := first | assumption | omega) only [go_sem, Nat.reduceEqDiff, ↓reduceIte]
       refine allocC_by fun c2 h2 => ?_
       have h20 := h2
       have T3 := fun r => Tab.set (r := r) (T2 _) h20
       have M3 := fun r => MaxL.set (r := r) (M2 _) h20
       have U3 := fun r => U8.set (r := r) (U2 _) h20
       have V3 := fun r => LV.set (r := r) (V2 _) h20
       repeat (with_reducible replace h2 := set_none h2; obtain ⟨_, _, h2⟩ := h2)
       simp (disch := first | assumption | omega) only [go_sem, Nat.reduceEqDiff, Nat.reduceAdd, Nat.reduceLeDiff, ↓reduceIte, ASt.set_set]
       refine (hA _ (T3 _) (M3 _) (U3 _) (V3 _)).mono ?_
       rintro v σ' ⟨rfl, rfl⟩
       simp (disch := first | assumption | omega) only [go_sem, Nat.reduceEqDiff, Nat.reduceLeDiff, ↓reduceIte, Bool.true_and, k2, Edt.none]
       exact retC_by (by repeat' (first | exact Drop.refl _ | with_reducible refine Drop.off ?_ (by assumption))) (.refl _) ⟨rfl, rfl⟩
 ·clear hgd
  obtain ⟨op, m, s, a, b, ks⟩ := n
  have hav : (Nd.mk op m s a b ks).av = .agg [.int .i64 op, .int .i64 m, .str s, .int .i64 a.row, .int .i64 a.col, .bool a.absRow, .bool a.absCol, .int .i64 b.row, .int .i64 b.col, .bool b.absRow, .bool b.absCol, .sl .shr (ks.map Nd.av)] := Nd.av_cs ..
  simp only [hav] at hP
  generalize ks.map Nd.av = L at *
  refine a7 (by simp) ?_
  simp (disch := first | assumption | omega) only [go_sem]
  refine boxC_by rfl fun c0 h0 => ?_
  have T1 := Tab.set (r := some (.obj e.cs)) hT h0
  have M1 := MaxL.set (r := some (.obj e.cs)) hM h0
  have U1 := U8.set (r := some (.obj e.cs)) hU h0
  have V1 := LV.set (r := some (.obj e.cs)) hV h0
  simp (disch := first | assumption | omega) only [go_sem, reduceCtorEq, ↓reduceIte]
  refine hc.use ?_
  simp (disch := first | assumption | omega) only [go_sem, ↓reduceIte]
  refine (hP _ U1 V1).mono ?_
  rintro v σ' ⟨rfl, rfl⟩
  simp (disch := first | assumption | omega) only [go_sem, Nat.reduceEqDiff, ↓reduceIte]
  refine allocC_by fun c1 h1 => ?_
  have h10 := h1
  have T2 := fun r => Tab.set (r := r) T1 h10
  have M2 := fun r => MaxL.set (r := r) M1 h10
  have U2 := fun r => U8.set (r := r) U1 h10
  have V2 := fun r => LV.set (r := r) V1 h10
  repeat (with_reducible replace h1 := set_none h1; obtain ⟨_, _, h1⟩ := h1)
  simp (disch := first | assumption | omega) only [go_sem, Nat.reduceEqDiff, Nat.reduceAdd, Nat.reduceLeDiff, ↓reduceIte, Bool.true_and, ASt.set_set, he]
  refine (hA _ (T2 _) (M2 _) (U2 _) (V2 _)).mono ?_
  rintro v σ' ⟨rfl, rfl⟩
  simp (disch := first | assumption | omega) only [go_sem, ↓reduceIte]
  exact retC_by (by repeat' (first | exact Drop.refl _ | with_reducible refine Drop.off ?_ (by assumption))) (.refl _) ⟨rfl, rfl⟩
end Go.A
namespace Go.Proofs.YtelbefdoehlmhaaGreatDoor
open Go Go.ChangeShapes Go.WideShapes Go.ChangeAt Go.RowKit Go.A Go.Lib Go.Shelf
theorem row_own : ownKnob Tryz.prog.godebug = none := by kernel_rfl
theorem row_laid : laidOutB Tryz.prog = true := by kernel_rfl
theorem first_eq : Rows.laid_unicode_utf8_first = firstData := by kernel_rfl
theorem acc_eq : (Rows.laid_unicode_utf8_acceptRanges : DataW Unit) = acceptData := by kernel_rfl
theorem u8_extra : U8Extra Tryz.prog Tryz.lays260_ren := ⟨by kernel_rfl, by kernel_rfl, by kernel_rfl, by kernel_rfl, by kernel_rfl, by kernel_rfl, by kernel_rfl⟩
theorem var_size {P : Program} {w : World} {n : String} {d : DataW Unit} (h : VarReads P w n d) {g : Nat} (hg : P.globalNamed n = some g) {t e : TypeId} {k : Nat} (hty : (P.globals[g]?).map (·.type) = some t) (ht : P.underlying t = some (.array k e)) :
  ∃ cs T fr, w.heap[g]? = some (.cells cs T fr) ∧ cs.size = P.cellsOf t := by
 obtain ⟨g', t', cs, fuel, p, hg', hty', hvar, hd⟩ := h
 obtain rfl := Option.some.inj (hg.symm.trans hg')
 obtain rfl := Option.some.inj (hty.symm.trans hty')
 have hlen : cs.toList.length = P.cellsOf t := by
  cases fuel with
  | zero => simp [DataW.trod] at hd
  | succ fuel =>
    simp only [DataW.trod, ht] at hd
    split at hd
    ·assumption
    ·cases hd
 unfold World.var? at hvar
 rw [hg, Option.bind_some] at hvar
 split at hvar
 ·rename_i cs' T fr hheap
  injection hvar with hvar
  subst hvar
  exact ⟨_, _, _, hheap, by simpa using hlen⟩
 ·cases hvar
theorem ints_reps {σ : ASt} {w : World} {k : IntKind} : ∀ zs : List Int, Reps σ w (zs.map (AV.int k)) (zs.map (Value.int k))
 | [] => .nil
 | z :: zs => .cons (.int k z) (ints_reps zs)
theorem fix_ok {σ : ASt} {W : World} {b : Nat} {zs : List Int} (hs : σ b = some (.fix (zs.map (AV.int .u8)))) {cs : Array Value} {T : TypeId} {fr : Nat × Nat} (hh : W.heap[b]? = some (.cells cs T fr)) (hsz : cs.size = zs.length)
  (hc : ∀ j z, zs[j]? = some z → W.cell? ⟨b, j, none⟩ = some (.int .u8 z)) : RoleOk σ W b (.fix (zs.map (AV.int .u8))) := by
 have hlt : b < W.heap.size := (Array.getElem?_eq_some_iff.1 hh).1
 refine ⟨At.mk' (ints_reps _) (fun j _ => ⟨hlt, .inr (.inl ⟨_, hs⟩)⟩) (fun j v hj => ?_), cs, T, fr, hh, by simpa using hsz⟩
 rw [List.getElem?_map] at hj
 obtain ⟨z, hz, rfl⟩ := Option.map_eq_some_iff.1 hj
 rw [Nat.zero_add]
 exact hc j z hz
def stOf : List (Nat × List AV) → ASt
 | [], _ => none
 | p :: ps, b => if b = p.1 then some (.fix p.2) else stOf ps b
theorem stOf_fix : ∀ {ps : List (Nat × List AV)} {b : Nat} {r : Role}, stOf ps b = some r → ∃ l, r = .fix l
 | [], _, _, h => by cases h
 | p :: ps, b, r, h => by
   simp only [stOf] at h
   split at h
   ·injection h with h; exact ⟨_, h.symm⟩
   ·exact stOf_fix h
theorem stOf_mem : ∀ {ps : List (Nat × List AV)} {b : Nat} {r : Role}, stOf ps b = some r → ∃ l, (b, l) ∈ ps ∧ r = .fix l
 | [], _, _, h => by cases h
 | p :: ps, b, r, h => by
   simp only [stOf] at h
   split at h
   ·rename_i hb
    injection h with h
    subst hb
    exact ⟨p.2, List.mem_cons_self, h.symm⟩
   ·obtain ⟨l, hl, he⟩ := stOf_mem h
    exact ⟨l, List.mem_cons_of_mem _ hl, he⟩
theorem still_fix {σ : ASt} (hfx : ∀ b r, σ b = some r → ∃ l, r = .fix l) {w : World} {b o : Nat} (h : b < w.heap.size) : Still σ w b o := by
 refine ⟨h, ?_⟩
 cases hb : σ b with
 | none => exact .inl rfl
 | some r => obtain ⟨l, rfl⟩ := hfx b r hb; exact .inr (.inl ⟨_, rfl⟩)
end Go.Proofs.YtelbefdoehlmhaaGreatDoor
namespace Go.A
section
variable {σ : ASt} {w : World}
theorem Still.fixed (hfx : ∀ b r, σ b = some r → ∃ l, r = .fix l) {b o : Nat} (h : Still noRole w b o) : Still σ w b o := by
 refine ⟨h.1, ?_⟩
 cases hb : σ b with
 | none => exact .inl rfl
 | some r => obtain ⟨l, rfl⟩ := hfx b r hb; exact .inr (.inl ⟨_, rfl⟩)
theorem Stands.fixed (hfx : ∀ b r, σ b = some r → ∃ l, r = .fix l) (b : Nat) : Stands σ b := by
 refine ⟨fun cs h => ?_, fun l p h => ?_, fun T cs h => ?_⟩ <;> (obtain ⟨l, hl⟩ := hfx b _ h; cases hl)
theorem SK.ok_fixed (hfx : ∀ b r, σ b = some r → ∃ l, r = .fix l) {k : SK} {b o n c sz : Nat} (h : k.ok noRole w b o n c sz) : k.ok σ w b o n c sz := by
 cases k with
 | shr => trivial
 | full => exact h
 | tok t s T => exact ⟨h.1, h.2.1, h.2.2.1, h.2.2.2.1, Stands.fixed hfx b⟩
mutual
theorem Rep.fixed (hfx : ∀ b r, σ b = some r → ∃ l, r = .fix l) : ∀ {a : AV} {v : Value}, Rep noRole w a v → Rep σ w a v
 | _, _, .any v => .any v
 | _, _, .bool b => .bool b
 | _, _, .int k n => .int k n
 | _, _, .str l => .str l
 | _, _, .ptr b o => .ptr b o
 | _, _, .imm h1 => .imm (h1.fixed hfx)
 | _, _, .nilp => .nilp
 | _, _, .slE A c => .slE A c
 | _, _, .slN => .slN
 | _, _, .sl h1 h2 h3 h4 h5 => .sl (h1.fixed hfx) h2 h3 (SK.ok_fixed hfx h4) h5
 | _, _, .msl b o n c => .msl b o n c
 | _, _, .agg h1 => .agg (h1.fixed hfx)
 | _, _, .tuple h1 => .tuple (h1.fixed hfx)
 | _, _, .iface h1 => .iface (h1.fixed hfx)
 | _, _, .nili => .nili
 | _, _, .func h1 h2 => .func (h1.fixed hfx) (h2.fixed hfx)
 | _, _, .nilf => .nilf
theorem Reps.fixed (hfx : ∀ b r, σ b = some r → ∃ l, r = .fix l) : ∀ {avs : List AV} {vs : List Value}, Reps noRole w avs vs → Reps σ w avs vs
 | _, _, .nil => .nil
 | _, _, .cons h1 h2 => .cons (h1.fixed hfx) (h2.fixed hfx)
theorem At.fixed (hfx : ∀ b r, σ b = some r → ∃ l, r = .fix l) : ∀ {b o : Nat} {avs : List AV}, At noRole w b o avs → At σ w b o avs
 | _, _, _, .nil b o => .nil b o
 | _, _, _, .cons h1 h2 h3 h4 => .cons (h1.fixed hfx) h2 (h3.fixed hfx) (h4.fixed hfx)
theorem Row.fixed (hfx : ∀ b r, σ b = some r → ∃ l, r = .fix l) : ∀ {b o sz : Nat} {avs : List AV}, Row noRole w b o sz avs → Row σ w b o sz avs
 | _, _, _, _, .nil b o sz => .nil b o sz
 | _, _, _, _, .cons h1 h2 h3 => .cons h1 (h2.fixed hfx) (h3.fixed hfx)
end
end
end Go.A
namespace Go.Proofs.YtelbefdoehlmhaaGreatDoor
open Go Go.ChangeShapes Go.WideShapes Go.ChangeAt Go.RowKit Go.A Go.Lib Go.Shelf
theorem u8_roles {σ : ASt} {W : World} (h3 : VarReads Tryz.prog W "unicode/utf8.first" firstData) (h4 : VarReads Tryz.prog W "unicode/utf8.acceptRanges" acceptData) :
  (σ 1 = some (.fix (firstTab.map (AV.int .u8))) → RoleOk σ W 1 (.fix (firstTab.map (AV.int .u8)))) ∧ (σ 2 = some (.fix (accTab.map (AV.int .u8))) → RoleOk σ W 2 (.fix (accTab.map (AV.int .u8)))) := by
 have hT := utf8Tabs_of_reads (ρ := Tryz.lays260_ren) Tryz.lays260 u8_extra h3 h4
 obtain ⟨hT1, hT2⟩ := hT
 have hT1 : ∀ c, c < 256 → W.cell? ⟨1, c, none⟩ = some (.int .u8 (firstT c)) := hT1
 have hT2 : ∀ i, i < 16 → W.cell? ⟨2, 2 * i, none⟩ = some (.int .u8 (accLo i)) ∧ W.cell? ⟨2, 2 * i + 1, none⟩ = some (.int .u8 (accHi i)) := hT2
 constructor
 ·intro hs
  obtain ⟨cs, T, fr, hh, hsz⟩ := var_size h3 (g := 1) (by kernel_rfl) u8_extra.y3 (Tryz.lays260.t119)
  refine fix_ok hs hh (hsz.trans (by kernel_rfl)) fun j z hj => ?_
  have hl := (List.getElem?_eq_some_iff.1 hj).1
  simp only [firstTab, List.length_map, List.length_range] at hl
  simp only [firstTab, List.getElem?_map, List.getElem?_range hl, Option.map_some, Option.some.injEq] at hj
  subst hj
  exact hT1 j hl
 ·intro hs
  obtain ⟨cs, T, fr, hh, hsz⟩ := var_size h4 (g := 2) (by kernel_rfl) u8_extra.y4 (Tryz.lays260.t139)
  refine fix_ok hs hh (hsz.trans (by kernel_rfl)) fun j z hj => ?_
  have hl := (List.getElem?_eq_some_iff.1 hj).1
  have key : ∀ j, j < 32 → accTab[j]? = some (if j % 2 = 0 then (accLo (j / 2) : Int) else accHi (j / 2)) := by decide
  have hl : j < 32 := hl
  rw [key j hl] at hj
  injection hj with hj
  subst hj
  obtain ⟨g1, g2⟩ := hT2 (j / 2) (by omega)
  split
  ·rw [show 2 * (j / 2) = j by omega] at g1; exact g1
  ·rw [show 2 * (j / 2) + 1 = j by omega] at g2; exact g2
theorem pow_role {σ : ASt} {W : World} (hfx : ∀ b r, σ b = some r → ∃ l, r = .fix l) (h3 : VarReads Tryz.prog W "internal/strconv.uint64pow10" (Lib.tabData .u64 Lib.pow10Tab)) :
  RoleOk σ W 4 (.fix (Lib.pow10Tab.map (AV.int .u64))) := by
 obtain ⟨g', t', cs, fuel, p, hg', ht', hvar, hd⟩ := h3
 obtain rfl := Option.some.inj ((show Tryz.prog.globalNamed "internal/strconv.uint64pow10" = some 4 by kernel_rfl).symm.trans hg')
 obtain rfl := Option.some.inj ((show (Tryz.prog.globals[4]?).map (·.type) = some 190 by kernel_rfl).symm.trans ht')
 have hcs := cells_of_tab (n := 20) (e := 140) (k := .u64) (by kernel_rfl) (by kernel_rfl) (by kernel_rfl) (by kernel_rfl) hd
 unfold World.var? at hvar
 rw [show Tryz.prog.globalNamed "internal/strconv.uint64pow10" = some 4 by kernel_rfl, Option.bind_some] at hvar
 split at hvar
 ·rename_i cs' T fr hheap
  injection hvar with hvar
  have hlt : 4 < W.heap.size := (Array.getElem?_eq_some_iff.1 hheap).1
  have he : cs' = (Lib.pow10Tab.map fun z => Value.int .u64 z).toArray := by rw [hvar]; exact Array.ext' (by simpa using hcs)
  refine ⟨At.mk' (ints_reps _) (fun j _ => still_fix hfx hlt) (fun j v hj => ?_), cs', T, fr, hheap, by rw [he]; simp⟩
  simp only [World.cell?, hheap, Nat.zero_add, he]
  simpa using hj
 ·cases hvar
end Go.Proofs.YtelbefdoehlmhaaGreatDoor
namespace Go.Proofs.YtelbefdoehlmhaaGreatDoor
open Go Go.ChangeShapes Go.WideShapes Go.ChangeAt Go.RowKit Go.A Go.Lib Go.Shelf
def vPs : List (Nat × List AV) := [(1, firstTab.map (AV.int .u8)), (2, accTab.map (AV.int .u8)), (4, Lib.pow10Tab.map (AV.int .u64))]
def vSt : ASt := stOf vPs
end Go.Proofs.YtelbefdoehlmhaaGreatDoor
namespace Go
variable {H : Type} {enc : TypeId × Value → H}
theorem A.returnsInHanded_and_shaped {a : Assume} {C : Checked} {os : Os} {f : FuncId} {fn : Func} {s : ChangeSpec} {conds : List PathCond} {apart fresh handsOn again : Bool} {X : World → Array Value → Prop}
  (hX : ∀ (w w' : World) (args : Array Value), w.heap = w'.heap → X w args → X w' args)
  (own : ownKnob C.prog.godebug = none) (started : os.Started) (noInit : C.prog.inits.idxOf? f = none) (hfn : C.prog.funcs[f]? = some fn)
  (witness : ∃ (w : World) (tape : Tape) (i : Input), w.os = os ∧ (w.forCall tape i).Shaped C.prog ∧ i.vars = [] ∧ Input.okWide C.prog (w.forCall tape i) .any w.heap.size f i ∧
   ((s.pre enc C.prog fn conds apart (w.forCall tape i).memory i.args ∧ X (w.forCall tape i).memory i.args) ∧ sizedMet enc C.prog fn (OpenSpec.ofChange s) apart (w.forCall tape i).memory i.args) ∧ a.holds C.prog (lone (Frame.enter C.prog f i.args .normal) [] (w.forCall tape i)))
  (contract : ∀ (W : World) (base : Nat) (args : Array Value) (ds gs : List (DataW H)) (before : List MemPlace),
   (∀ (j : Nat) t v, fn.params[j]? = some t → args[j]? = some v → Value.okWide C.prog W .any base t v) →
   DataW.Whole enc C.prog fn.params.toList s.vars apart W args.toList ds gs before →
   W.ShapedOpen C.prog → X W args →
   Calls C.prog f args W fun e W' => ∃ v, e = .returned v ∧ s.post enc C.prog fn apart fresh handsOn again W args v W') :
  ReturnsInHanded a C os f .any (fun w args => (s.pre enc C.prog fn conds apart w args ∧ X w args) ∧ sizedMet enc C.prog fn (OpenSpec.ofChange s) apart w args) (s.post enc C.prog fn apart fresh handsOn again) := by
 refine returnsInHanded_of_calls own started noInit witness ?_
 intro w tape i _ hsh _ hok hpre hholds
 obtain ⟨_, _, _, fn', hfn', _, _, _, _, hval⟩ := hok
 have e : fn' = fn := Option.some.inj (hfn'.symm.trans hfn)
 subst e
 obtain ⟨⟨⟨ds, gs, before, hw, hc⟩, hx⟩, hz⟩ := hpre
 have hw' := DataW.Whole.of_heap (w' := w.forCall tape i) (by rfl) hw
 refine (contract (w.forCall tape i) w.heap.size i.args ds gs before hval hw' hsh (hX _ _ _ (by rfl) hx)).mono fun e W' ⟨v, he, hp⟩ => ?_
 subst he
 exact ChangeSpec.post_blind hp
end Go
namespace Go.Proofs.YtelbefdoehlmhaaGreatDoor
open Go Go.ChangeShapes Go.WideShapes Go.ChangeAt Go.RowKit Go.A Go.Lib Go.Shelf
def wSt (m : Int) : ASt := fun b => if b = 3 then some (.fix ([m].map (AV.int .i64))) else vSt b
theorem wSt_fix {m : Int} {b : Nat} {r : Role} (h : wSt m b = some r) : ∃ l, r = .fix l := by
 unfold wSt at h
 split at h
 ·injection h with h; exact ⟨_, h.symm⟩
 ·exact stOf_fix h
end Go.Proofs.YtelbefdoehlmhaaGreatDoor
namespace Go.Proofs.YtelbefdoehlmhaaGreatDoor
open Go Go.ChangeShapes Go.WideShapes Go.ChangeAt Go.RowKit Go.A Go.Lib Go.Shelf
theorem strs_trod {H : Type} {enc : TypeId × Value → H} {P : Program} {w : World} {base : Nat} {spare : Nat → Bool} {held : Bool} {fuel : Nat} {t e : TypeId} {cs : List Value} {l : List (List UInt8)} {m : List MemPlace}
  (ht : P.underlying t = some (.slice e)) (he : P.underlying e = some .string) (hc : P.cellsOf e = 1) (hl : 0 < l.length)
  (hd : DataW.trod enc P w base spare held fuel t cs = some (.slice (l.map fun s => .lit (.string s)) [], m)) :
  ∃ R o cap, cs = [.slice (some ⟨R, o, none⟩) l.length cap] ∧ l.length ≤ cap ∧ ∀ j s, l[j]? = some s → w.cell? ⟨R, o + j, none⟩ = some (.string ⟨⟨s⟩⟩) := by
 rcases DataW.trod_slice ht hd with ⟨_, hx⟩ | ⟨a, len, cap, el, rs, k, rfl, hcs, hx, _, hlc, _, hel, helem, hsp, _⟩
 ·cases hx
 have e0 := congrArg Prod.fst hx
 simp only [DataW.slice.injEq] at e0
 obtain ⟨eE, eR⟩ := e0
 have hlen : len = l.length := by
  have := congrArg List.length eE
  simp at this
  omega
 have hcell : ∀ i z, l[i]? = some z → w.cell? (a.add i) = some (.string ⟨⟨z⟩⟩) := by
  intro i z hiz
  have hi : i < l.length := (List.getElem?_eq_some_iff.1 hiz).1
  have h1 := helem i (by omega)
  rw [hc] at h1
  obtain ⟨b, hb⟩ : ∃ b, el[i]? = some b := ⟨el[i]'(by omega), List.getElem?_eq_getElem (by omega)⟩
  rw [hb] at h1
  obtain ⟨ce, hce, hte⟩ := Option.bind_eq_some_iff.1 h1
  obtain ⟨z', hz, hbz, _⟩ := DataW.trod_string he hte
  have hb1 : b.1 = .lit (.string z) := by
   have := congrArg (·[i]?) eE
   simp only [List.getElem?_map, hiz, hb, Option.map_some, Option.some.injEq] at this
   exact this.symm
  rw [hbz] at hb1
  simp only [DataW.lit.injEq, Lit.string.injEq] at hb1
  obtain ⟨_, _, hcc⟩ := World.cells?_some hce
  have := hcc 0 (by omega)
  rw [hz] at this
  simp only [Nat.mul_one] at this
  have e1 : (a.add i).add 0 = a.add i := by simp [Addr.add]
  rw [e1] at this
  rw [this, ← hb1]
  rfl
 obtain ⟨z0, hz0⟩ : ∃ z, l[0]? = some z := ⟨l[0], List.getElem?_eq_getElem hl⟩
 obtain ⟨R, o, sR⟩ := a
 obtain rfl : sR = none := by
  have h00 := hcell 0 z0 hz0
  have : (Addr.add ⟨R, o, sR⟩ 0) = ⟨R, o, sR⟩ := by simp [Addr.add]
  rw [this] at h00
  exact Go.Proofs.cell_spot h00
 exact ⟨R, o, cap, by rw [hcs, hlen], by omega, fun j s hj => by have := hcell j s hj; rwa [Addr.add_lit] at this⟩
theorem block_lt {w : World} {R o : Nat} {s : Option Nat} {v : Value} (h : w.cell? ⟨R, o, none⟩ = some v) : R < w.heap.size := by
 refine Nat.lt_of_not_le fun hge => ?_
 simp [World.cell?, Array.getElem?_eq_none hge] at h
theorem strs_row {σ : ASt} {w : World} {b : Nat} (hst : ∀ o, Still σ w b o) : ∀ (zs : List (List UInt8)) (o : Nat), (∀ j z, zs[j]? = some z → w.cell? ⟨b, o + j, none⟩ = some (.string ⟨⟨z⟩⟩)) → Row σ w b o 1 (zs.map AV.str)
 | [], o, _ => .nil _ _ _
 | z :: zs, o, h => .cons rfl (.cons (hst o) (h 0 z rfl) (.str z) (.nil _ _)) (strs_row hst zs (o + 1) fun j z' hj => by
   have := h (j + 1) z' (by simpa using hj)
   rwa [show o + (j + 1) = o + 1 + j by omega] at this)
theorem strss_row {σ : ASt} {w : World} {b : Nat} (hst : ∀ o, Still σ w b o) : ∀ (zs : List (List (List UInt8))) (o : Nat),
  (∀ j z, zs[j]? = some z → ∃ v, w.cell? ⟨b, o + j, none⟩ = some v ∧ Rep σ w (.sl .shr (z.map AV.str)) v) → Row σ w b o 1 (zs.map fun l => AV.sl .shr (l.map AV.str))
 | [], o, _ => .nil _ _ _
 | z :: zs, o, h => by
   obtain ⟨v, hv, hr⟩ := h 0 z rfl
   exact .cons rfl (.cons (hst o) hv hr (.nil _ _)) (strss_row hst zs (o + 1) fun j z' hj => by
    have := h (j + 1) z' (by simpa using hj)
    rwa [show o + (j + 1) = o + 1 + j by omega] at this)
theorem levels_role {σ : ASt} {W : World} (hfx : ∀ b r, σ b = some r → ∃ l, r = .fix l) (h : VarReads Tryz.prog W "tabular/parse.levels" (.slice (levelsL.map fun l => .slice (l.map fun s => .lit (.string s)) []) [])) :
  RoleOk σ W 0 (.fix [lvAV]) := by
 obtain ⟨g', t', cs, fuel, p, hg, hty, hvar, hd⟩ := h
 obtain rfl := Option.some.inj ((show Tryz.prog.globalNamed "tabular/parse.levels" = some 0 by kernel_rfl).symm.trans hg)
 obtain rfl := Option.some.inj ((show (Tryz.prog.globals[0]?).map (·.type) = some 98 by kernel_rfl).symm.trans hty)
 have ht : Tryz.prog.underlying 98 = some (.slice 100) := by kernel_rfl
 have ht2 : Tryz.prog.underlying 100 = some (.slice 9) := by kernel_rfl
 have he : Tryz.prog.underlying 9 = some .string := by kernel_rfl
 have hc : Tryz.prog.cellsOf 100 = 1 := by kernel_rfl
 have hc2 : Tryz.prog.cellsOf 9 = 1 := by kernel_rfl
 have hpos : ∀ (j : Nat) (z : List (List UInt8)), levelsL[j]? = some z → 0 < z.length := by
  intro j z hj
  match j, hj with
  | 0, hj | 1, hj | 2, hj | 3, hj | 4, hj => injection hj with hj; subst hj; decide
 rcases DataW.trod_slice ht hd with ⟨_, hx⟩ | ⟨a, len, cap, el, rs, k, rfl, hcs, hx, _, hlc, _, hel, helem, hsp, _⟩
 ·cases hx
 have e0 := congrArg Prod.fst hx
 simp only [DataW.slice.injEq] at e0
 obtain ⟨eE, eR⟩ := e0
 have hlen : len = levelsL.length := by
  have := congrArg List.length eE
  simp at this
  omega
 have hcell : ∀ i z, levelsL[i]? = some z → ∃ v, W.cell? (a.add i) = some v ∧ Rep σ W (.sl .shr (z.map AV.str)) v := by
  intro i z hiz
  have hi : i < levelsL.length := (List.getElem?_eq_some_iff.1 hiz).1
  have h1 := helem i (by omega)
  rw [hc] at h1
  obtain ⟨b, hb⟩ : ∃ b, el[i]? = some b := ⟨el[i]'(by omega), List.getElem?_eq_getElem (by omega)⟩
  rw [hb] at h1
  obtain ⟨ce, hce, hte⟩ := Option.bind_eq_some_iff.1 h1
  have hb1 : b.1 = .slice (z.map fun s => .lit (.string s)) [] := by
   have := congrArg (·[i]?) eE
   simp only [List.getElem?_map, hiz, hb, Option.map_some, Option.some.injEq] at this
   exact this.symm
  obtain ⟨b1, b2⟩ := b
  dsimp only at hb1
  subst hb1
  obtain ⟨R, o, cap', rfl, hle, hcells⟩ := strs_trod ht2 he hc2 (hpos i z hiz) hte
  obtain ⟨_, _, hcc⟩ := World.cells?_some hce
  have := hcc 0 (by omega)
  simp only [Nat.mul_one] at this
  have e1 : (a.add i).add 0 = a.add i := by simp [Addr.add]
  rw [e1] at this
  obtain ⟨z0, hz0⟩ : ∃ z0, z[0]? = some z0 := ⟨z[0]'(hpos i z hiz), List.getElem?_eq_getElem (hpos i z hiz)⟩
  have hR := block_lt (s := none) (hcells 0 z0 hz0)
  exact ⟨_, this, .sl (sz := 1) (strs_row (fun o => still_fix hfx hR) z o hcells) (by simp) hle trivial hR⟩
 obtain ⟨R, o, sR⟩ := a
 obtain ⟨v0, h00, _⟩ := hcell 0 [[61], [60, 62], [60], [60, 61], [62], [62, 61]] rfl
 obtain rfl : sR = none := by
  have : (Addr.add ⟨R, o, sR⟩ 0) = ⟨R, o, sR⟩ := by simp [Addr.add]
  rw [this] at h00
  exact Go.Proofs.cell_spot h00
 have hR : R < W.heap.size := by
  have : (Addr.add ⟨R, o, none⟩ 0) = ⟨R, o, none⟩ := by simp [Addr.add]
  rw [this] at h00
  exact block_lt (s := none) h00
 have hrow := strss_row (fun o => still_fix hfx hR) levelsL o fun j z hj => by
  obtain ⟨v, hv, hr⟩ := hcell j z hj
  rw [Addr.add_lit] at hv
  exact ⟨v, hv, hr⟩
 unfold World.var? at hvar
 rw [hg, Option.bind_some] at hvar
 split at hvar
 ·rename_i cs' T fr hheap
  injection hvar with hvar
  subst hvar
  have hcs2 : cs' = #[.slice (some ⟨R, o, none⟩) levelsL.length cap] := by
   rw [← hlen]
   exact Array.ext' (by simpa using hcs)
  subst hcs2
  have hlt : 0 < W.heap.size := (Array.getElem?_eq_some_iff.1 hheap).1
  have hce : W.cell? ⟨0, 0, none⟩ = some (.slice (some ⟨R, o, none⟩) levelsL.length cap) := by simp [World.cell?, hheap]
  have hrep : Rep σ W lvAV (.slice (some ⟨R, o, none⟩) levelsL.length cap) := .sl (sz := 1) hrow (by simp) (by omega) trivial hR
  exact ⟨.cons (still_fix hfx hlt) hce hrep (.nil _ _), _, T, fr, hheap, rfl⟩
 ·cases hvar
def laidX : List (String × DataW Unit) := [("math/bits.deBruijn32tab", Rows.laid_math_bits_deBruijn32tab), ("math/bits.deBruijn64tab", Rows.laid_math_bits_deBruijn64tab), ("internal/strconv.uint64pow10", Rows.laid_internal_strconv_uint64pow10), ("unicode/utf8.acceptRanges", Rows.laid_unicode_utf8_acceptRanges), ("tabular/parse.levels", Rows.laid_tabular_parse_levels), ("unicode/utf8.first", Rows.laid_unicode_utf8_first)]
def xSt (m : Int) : ASt := fun b => if b = 0 then some (.fix [lvAV]) else wSt m b
theorem xSt_u8 (m : Int) : U8 (xSt m) := ⟨by simp [xSt, wSt, vSt, vPs, stOf], by simp [xSt, wSt, vSt, vPs, stOf]⟩
theorem xSt_tab (m : Int) : Tab (xSt m) := by simp [Tab, xSt, wSt, vSt, vPs, stOf]
theorem xSt_max (m : Int) : MaxL (xSt m) := ⟨m, by simp [xSt, wSt]⟩
theorem xSt_lv (m : Int) : LV (xSt m) := by simp [LV, xSt]
theorem xSt_fix {m : Int} {b : Nat} {r : Role} (h : xSt m b = some r) : ∃ l, r = .fix l := by
 unfold xSt at h
 split at h
 ·injection h with h; exact ⟨_, h.symm⟩
 ·exact wSt_fix h
theorem x_sim {W : World} (hsh : W.ShapedOpen Tryz.prog) (h : laidMetH Tryz.prog laidX W) : ∃ m, Sim (xSt m) W := by
 rw [MakeChecks.laidMetH_plain _ _ _ (by kernel_rfl)] at h
 have hp : VarReads Tryz.prog W "internal/strconv.uint64pow10" (Lib.tabData .u64 Lib.pow10Tab) := Lib.laidMet.reads h (.tail _ (.tail _ (.head _)))
 have h4 : VarReads Tryz.prog W "unicode/utf8.acceptRanges" acceptData := acc_eq ▸ Lib.laidMet.reads h (.tail _ (.tail _ (.tail _ (.head _))))
 have h5 : VarReads Tryz.prog W "tabular/parse.levels" (.slice (levelsL.map fun l => .slice (l.map fun s => .lit (.string s)) []) []) := Lib.laidMet.reads h (.tail _ (.tail _ (.tail _ (.tail _ (.head _)))))
 have h3 : VarReads Tryz.prog W "unicode/utf8.first" firstData := first_eq ▸ Lib.laidMet.reads h (.tail _ (.tail _ (.tail _ (.tail _ (.tail _ (.head _))))))
 obtain ⟨m, hm⟩ := Tryz.laysM155.s1_3 W hsh
 have hm : W.cell? ⟨3, 0, none⟩ = some (.int .i64 m) := hm
 obtain ⟨cs, hh, hsz, _⟩ := hsh.1 3 #[.int .i64 0] 3 (of_decide_eq_true (by kernel_rfl)) (by kernel_rfl)
 obtain ⟨r1, r2⟩ := u8_roles (σ := xSt m) h3 h4
 refine ⟨m, fun b r hb => ?_⟩
 have hb0 := hb
 unfold xSt at hb
 split at hb
 ·rename_i hbb
  subst hbb
  injection hb with hb
  subst hb
  exact levels_role (fun _ _ => xSt_fix) h5
 unfold wSt at hb
 split at hb
 ·rename_i hbb
  subst hbb
  injection hb with hb
  subst hb
  have hlt : 3 < W.heap.size := (Array.getElem?_eq_some_iff.1 hh).1
  refine ⟨At.mk' (ints_reps _) (fun j _ => ⟨hlt, .inr (.inl ⟨_, hb0⟩)⟩) (fun j v hj => ?_), cs, _, _, hh, hsz⟩
  match j, hj with
  | 0, hj => injection hj with hj; subst hj; exact hm
 ·obtain ⟨l, hl, rfl⟩ := stOf_mem hb
  simp only [vPs, List.mem_cons, List.not_mem_nil, or_false, Prod.mk.injEq] at hl
  rcases hl with ⟨rfl, rfl⟩ | ⟨rfl, rfl⟩ | ⟨rfl, rfl⟩
  ·exact r1 (xSt_u8 m).1
  ·exact r2 (xSt_u8 m).2
  ·exact pow_role (fun _ _ => xSt_fix) hp
theorem calls_x {m : Int} {f : FuncId} {args : List AV} {vs : List Value} {w : World} (h : ACalls Tryz.prog f args (xSt m) fun r σ' => r = .bool true ∧ σ' = xSt m) (hs : Sim (xSt m) w) (hr : Reps (xSt m) w args vs) :
  Calls Tryz.prog f ⟨vs⟩ w fun e w' => e = .returned (.bool true) ∧ Ext w w' :=
 (h w vs hs hr).mono fun e w' ⟨u, r, σ', he, ⟨hrt, hst⟩, hle, _, hrep⟩ => by
  subst hrt hst
  cases hrep
  refine ⟨he, Ext.of_below ⟨hle.os, hle.tape, hle.output, hle.size, fun k hk => ?_⟩⟩
  cases hn : xSt m k with
  | none => exact (hle.keep k hk hn).2
  | some r =>
    obtain ⟨l, rfl⟩ := xSt_fix hn
    exact (hle.fix k _ hk hn).2
end Go.Proofs.YtelbefdoehlmhaaGreatDoor
