/- Part 10 of what ParseOrder leans on: Qc Ms Mv Mw Mx. -/
import Derived.Test.YtkgondgecdmjpaaGreatDoorRows
import Derived.ProofKit
import Derived.LaidMore
import Derived.OpenShut
import Derived.Stop.LaidErr
import Derived.MakeChecks
import Derived.SevenTiedAt
import Derived.Lay
import Derived.ChangeArms
import Derived.Lib.LaidU8
import Derived.Lib.LaidTab
import Derived.Shelf.Vars
import Derived.HandedShaped
import Derived.Test.YtkgondgecdmjpaaGreatDoorZParseOrderi
set_option linter.defProp false
set_option linter.unusedSimpArgs false
set_option linter.unusedVariables false
set_option maxRecDepth 100000
namespace Go.A
open Go.Proofs Go.Lib
def sgO (a : Nat) : List UInt8 := signL.getD a []
def levO : List Int := [3, 3, 4, 4, 5, 2, 1, 1, 1, 1, 1, 1]
def textO (a b : Nat) : List UInt8 := [49] ++ sgO a ++ [50] ++ sgO b ++ [51]
def numO (k : Nat) : List UInt8 := [[49], [50], [51]].getD k []
def ordN (k : Nat) : Nd := (parseR (numO k)).1
def wantO (a b : Nat) : Nd :=
  if levO.getD a 0 < levO.getD b 0 then .mk (10 + a) 0 [] .zero .zero [ordN 0, .mk (10 + b) 0 [] .zero .zero [ordN 1, ordN 2]]
  else .mk (10 + b) 0 [] .zero .zero [.mk (10 + a) 0 [] .zero .zero [ordN 0, ordN 1], ordN 2]
def ordB (a b : Nat) : Bool := decide ((parseR (textO a b)).2.2 = 0) && Nd.same (parseR (textO a b)).1 (wantO a b) && decide ((parseR (textO a b)).1.size ≤ 100) && decide ((wantO a b).size ≤ 100) && decide ((textO a b).length ≤ 10)
theorem ord_all : ((List.range 12).all fun a => (List.range 12).all fun b => ordB a b) = true := by kernel_rfl
theorem ord_fact {a b : Nat} (ha : a < 12) (hb : b < 12) : (parseR (textO a b)).2.2 = 0 ∧ Nd.same (parseR (textO a b)).1 (wantO a b) = true ∧ (parseR (textO a b)).1.size ≤ 100 ∧ (wantO a b).size ≤ 100 ∧ (textO a b).length ≤ 10 := by
  have := List.all_eq_true.1 (List.all_eq_true.1 ord_all a (List.mem_range.2 ha)) b (List.mem_range.2 hb)
  unfold ordB at this
  simp only [Bool.and_eq_true, decide_eq_true_eq] at this
  obtain ⟨⟨⟨⟨h1, h2⟩, h3⟩, h4⟩, h5⟩ := this
  exact ⟨h1, h2, h3, h4, h5⟩
theorem ordN_0 : ordN 0 = .mk 1 10000 [] .zero .zero [] := by kernel_rfl
theorem ordN_1 : ordN 1 = .mk 1 20000 [] .zero .zero [] := by kernel_rfl
theorem ordN_2 : ordN 2 = .mk 1 30000 [] .zero .zero [] := by kernel_rfl
def numAV (n : Int) : AV := .agg [.int .i64 1, .int .i64 n, .str [], .int .i64 0, .int .i64 0, .bool false, .bool false, .int .i64 0, .int .i64 0, .bool false, .bool false, .sl .shr []]
def binAV (n : Int) (x y : AV) : AV := .agg [.int .i64 n, .int .i64 0, .str [], .int .i64 0, .int .i64 0, .bool false, .bool false, .int .i64 0, .int .i64 0, .bool false, .bool false, .sl .shr [x, y]]
theorem numAV_eq (n : Int) : (Nd.mk 1 n [] .zero .zero []).av = numAV n := by rw [Nd.av_cs]; rfl
theorem binAV_eq (n : Int) (x y : Nd) : (Nd.mk n 0 [] .zero .zero [x, y]).av = binAV n x.av y.av := by rw [Nd.av_cs]; rfl
theorem wantO_lt {a b : Nat} (h : levO.getD a 0 < levO.getD b 0) : (wantO a b).av = binAV (10 + a) (numAV 10000) (binAV (10 + b) (numAV 20000) (numAV 30000)) := by
  unfold wantO; rw [if_pos h, ordN_0, ordN_1, ordN_2]; simp only [binAV_eq, numAV_eq]
theorem wantO_ge {a b : Nat} (h : ¬ levO.getD a 0 < levO.getD b 0) : (wantO a b).av = binAV (10 + b) (binAV (10 + a) (numAV 10000) (numAV 20000)) (numAV 30000) := by
  unfold wantO; rw [if_neg h, ordN_0, ordN_1, ordN_2]; simp only [binAV_eq, numAV_eq]
theorem lev_get {b : Nat} (h : b < 12) : ([.int .i64 3, .int .i64 3, .int .i64 4, .int .i64 4, .int .i64 5, .int .i64 2, .int .i64 1, .int .i64 1, .int .i64 1, .int .i64 1, .int .i64 1, .int .i64 1] : List AV)[b]? = some (.int .i64 (levO.getD b 0)) := by
  match b, h with
  | 0, _ | 1, _ | 2, _ | 3, _ | 4, _ | 5, _ | 6, _ | 7, _ | 8, _ | 9, _ | 10, _ | 11, _ => rfl
  | b + 12, h => omega
theorem sig_get {b : Nat} (h : b < 12) : (signL.map AV.str)[b]? = some (.str (sgO b)) := by
  match b, h with
  | 0, _ | 1, _ | 2, _ | 3, _ | 4, _ | 5, _ | 6, _ | 7, _ | 8, _ | 9, _ | 10, _ | 11, _ => rfl
  | b + 12, h => omega
theorem sg_len : ∀ a < 12, (sgO a).length ≤ 2 := by decide
theorem num_ok {σ : ASt} (hU : U8 σ) (hV : LV σ) (k : Nat) (hk : k < 3) : ACalls Tryz.prog 14 [.int .i64 ((k : Int) + 1)] σ fun v σ' => v = (ordN k).av ∧ σ' = σ := by
  have hP := fun (τ : ASt) (hU : U8 τ) (hV : LV τ) => parseR_ok hU hV (numO k) (by
    match k, hk with
    | 0, _ | 1, _ | 2, _ => decide)
  have hi : ([.str [49], .str [50], .str [51]] : List AV)[k]? = some (.str (numO k)) := by
    match k, hk with
    | 0, _ | 1, _ | 2, _ => rfl
  unfold ordN
  generalize numO k = s at *
  obtain ⟨⟨nd, k', er⟩, hR⟩ : ∃ R, parseR s = R := ⟨_, rfl⟩
  rw [hR] at hP ⊢
  dsimp only at hP ⊢
  obtain ⟨op, m, x, a, b, ks⟩ := nd
  have hav : (Nd.mk op m x a b ks).av = .agg [.int .i64 op, .int .i64 m, .str x, .int .i64 a.row, .int .i64 a.col, .bool a.absRow, .bool a.absCol, .int .i64 b.row, .int .i64 b.col, .bool b.absRow, .bool b.absCol, .sl .shr (ks.map Nd.av)] := Nd.av_cs ..
  rw [hav] at hP ⊢
  generalize ks.map Nd.av = L at *
  refine a14 (by simp) ?_
  simp (disch := first | assumption | omega) only [go_sem]
  refine allocC_by fun d hd => ?_
  have U1 := U8.set (r := some (.obj [.int .i64 0, .int .i64 0, .str [], .int .i64 0, .int .i64 0, .bool false, .bool false, .int .i64 0, .int .i64 0, .bool false, .bool false, .sl .full []])) hU hd
  have V1 := lv_set (r := some (.obj [.int .i64 0, .int .i64 0, .str [], .int .i64 0, .int .i64 0, .bool false, .bool false, .int .i64 0, .int .i64 0, .bool false, .bool false, .sl .full []])) hV hd
  have hsub : (k : Int) + 1 - 1 = k := by omega
  simp (disch := first | assumption | omega) only [go_sem, reduceCtorEq, Nat.reduceEqDiff, ↓reduceIte, Bool.true_and, hsub, hi]
  refine (hP _ U1 V1).mono ?_
  rintro v τ ⟨rfl, rfl⟩
  simp (disch := first | assumption | omega) only [go_sem, Nat.reduceEqDiff, ↓reduceIte]
  refine allocC_by fun e he => ?_
  repeat (with_reducible replace he := set_none he; obtain ⟨_, _, he⟩ := he)
  simp (disch := first | assumption | omega) only [go_sem, Nat.reduceEqDiff, Nat.reduceAdd, Nat.reduceLeDiff, ↓reduceIte, Bool.true_and, ASt.set_set]
  exact retC_by (by repeat' (first | exact Drop.refl _ | with_reducible refine Drop.off ?_ (by assumption))) (.refl _) ⟨rfl, rfl⟩
theorem ParseOrder_any {σ : ASt} (hT : Tab σ) (hM : MaxL σ) (hU : U8 σ) (hV : LV σ) (a b : Int) : ACalls Tryz.prog 6 [.int .i64 a, .int .i64 b] σ fun v σ' => v = .bool true ∧ σ' = σ := by
  have hA := pawake_ok hT hM hU hV
  by_cases hin : 0 ≤ a ∧ a ≤ 11 ∧ 0 ≤ b ∧ b ≤ 11
  · obtain ⟨h0, h1, h2, h3⟩ := hin
    obtain ⟨A, rfl⟩ : ∃ N : Nat, a = (N : Int) := ⟨a.toNat, by omega⟩
    obtain ⟨B, rfl⟩ : ∃ N : Nat, b = (N : Int) := ⟨b.toNat, by omega⟩
    have hA12 : A < 12 := by omega
    have hB12 : B < 12 := by omega
    obtain ⟨f0, f1, f2, f3, f4⟩ := ord_fact hA12 hB12
    have hP := fun (τ : ASt) (hU : U8 τ) (hV : LV τ) => parseR_ok hU hV (textO A B) (by omega)
    have hS : Pure Tryz.prog 13 [] (.sl .shr (signL.map AV.str)) := esigns_ok
    have iA := sig_get hA12
    have iB := sig_get hB12
    have lA := lev_get hA12
    have lB := lev_get hB12
    have hSm := esame_ok (parseR (textO A B)).1 (wantO A B) (by omega) (by omega)
    rw [f1] at hSm
    obtain ⟨⟨nd, k', er⟩, hR⟩ : ∃ R, parseR (textO A B) = R := ⟨_, rfl⟩
    rw [hR] at hP hSm f0
    dsimp only at hP hSm f0
    subst f0
    obtain ⟨op, m, x, p, q, ks⟩ := nd
    have hav : (Nd.mk op m x p q ks).av = .agg [.int .i64 op, .int .i64 m, .str x, .int .i64 p.row, .int .i64 p.col, .bool p.absRow, .bool p.absCol, .int .i64 q.row, .int .i64 q.col, .bool q.absRow, .bool q.absCol, .sl .shr (ks.map Nd.av)] := Nd.av_cs ..
    rw [hav] at hSm
    simp only [hav] at hP
    have hdL : Go.A.deeps (ks.map Nd.av) = ks.map Nd.av := deeps_map ks
    generalize ks.map Nd.av = L at *
    have hn := fun (k : Nat) (hk : k < 3) (τ : ASt) (hU : U8 τ) (hV : LV τ) => num_ok hU hV k hk
    have hn0 := hn 0 (by decide)
    have hn1 := hn 1 (by decide)
    have hn2 := hn 2 (by decide)
    rw [ordN_0, numAV_eq] at hn0
    rw [ordN_1, numAV_eq] at hn1
    rw [ordN_2, numAV_eq] at hn2
    unfold numAV at hn0 hn1 hn2
    clear hn
    unfold textO at hP
    have hS1 : levO.getD A 0 < levO.getD B 0 → _ := fun h => wantO_lt h ▸ hSm
    have hS2 : ¬ levO.getD A 0 < levO.getD B 0 → _ := fun h => wantO_ge h ▸ hSm
    clear hSm
    generalize levO.getD A 0 = la at *
    generalize levO.getD B 0 = lb at *
    unfold binAV numAV at hS1 hS2
    have hl12 : (signL.map AV.str).length = 12 := by decide
    have slA := sg_len A hA12
    have slB := sg_len B hB12
    generalize hSL : signL.map AV.str = SL at *
    obtain ⟨N0, hN0⟩ : ∃ N0 : AV, N0 = .agg [.int .i64 op, .int .i64 m, .str x, .int .i64 p.row, .int .i64 p.col, .bool p.absRow, .bool p.absCol, .int .i64 q.row, .int .i64 q.col, .bool q.absRow, .bool q.absCol, .sl .shr L] := ⟨_, rfl⟩
    refine a6 (by simp) ?_
    obtain ⟨F, hF⟩ : ∃ F, F = ACode.wp Tryz.prog c6_30 := ⟨_, rfl⟩
    simp (disch := first | assumption | omega | (simp only [List.length_append, List.length_cons, List.length_nil]; omega)) only [go_sem, reduceCtorEq, Nat.reduceEqDiff, ↓reduceIte, Bool.true_and, ←hF]
    refine hS.use ?_
    simp (disch := first | assumption | omega | (simp only [List.length_append, List.length_cons, List.length_nil]; omega)) only [go_sem, ↓reduceIte, hl12]
    rw [hF]
    refine wp_cut (x := c6_12) (y := c6_29) (fun a1 σ1 => ∃ d, σ d = none ∧ σ1 = σ.set d (some (.obj [.int .i64 op, .int .i64 m, .str x, .int .i64 p.row, .int .i64 p.col, .bool p.absRow, .bool p.absCol, .int .i64 q.row, .int .i64 q.col, .bool q.absRow, .bool q.absCol, .sl .shr L])) ∧
      a1 0 = .int .i64 A ∧ a1 1 = .int .i64 B ∧ a1 5 = .sl .full [.int .i64 3, .int .i64 3, .int .i64 4, .int .i64 4, .int .i64 5, .int .i64 2, .int .i64 1, .int .i64 1, .int .i64 1, .int .i64 1, .int .i64 1, .int .i64 1] ∧ a1 6 = .ptr d 0 ∧ a1 8 = .int .i64 0) ?_ ?_
    · simp (disch := first | assumption | omega | (simp only [List.length_append, List.length_cons, List.length_nil]; omega)) only [go_sem, reduceCtorEq, Nat.reduceEqDiff, ↓reduceIte]
      refine bothT_by ?_ ?_
      · refine hS.use ?_
        simp (disch := first | assumption | omega | (simp only [List.length_append, List.length_cons, List.length_nil]; omega)) only [go_sem, Nat.reduceEqDiff, ↓reduceIte, iA]
        refine bothT_by ?_ ?_
        · refine hS.use ?_
          simp (disch := first | assumption | omega | (simp only [List.length_append, List.length_cons, List.length_nil]; omega)) only [go_sem, Nat.reduceEqDiff, ↓reduceIte, iB]
          refine bothT_by ?_ ?_
          · refine (hP _ hU hV).mono ?_
            rintro v σ' ⟨rfl, rfl⟩
            simp (disch := first | assumption | omega | (simp only [List.length_append, List.length_cons, List.length_nil]; omega)) only [go_sem, Nat.reduceEqDiff, ↓reduceIte]
            refine allocC_by fun d hd => ?_
            simp (disch := first | assumption | omega | (simp only [List.length_append, List.length_cons, List.length_nil]; omega)) only [go_sem, reduceCtorEq, Nat.reduceEqDiff, Nat.reduceAdd, Nat.reduceLeDiff, ↓reduceIte, Bool.true_and, ASt.set_set]
            exact ⟨d, hd, rfl, by simp [AFr.upd]⟩
          · simp (disch := first | assumption | omega | (simp only [List.length_append, List.length_cons, List.length_nil]; omega)) only [go_sem]
            refine allocC_by fun d hd => ?_
            have U1 := U8.set (r := some (.obj [.int .i64 0, .int .i64 0, .str [], .int .i64 0, .int .i64 0, .bool false, .bool false, .int .i64 0, .int .i64 0, .bool false, .bool false, .sl .full []])) hU hd
            have V1 := lv_set (r := some (.obj [.int .i64 0, .int .i64 0, .str [], .int .i64 0, .int .i64 0, .bool false, .bool false, .int .i64 0, .int .i64 0, .bool false, .bool false, .sl .full []])) hV hd
            simp (disch := first | assumption | omega | (simp only [List.length_append, List.length_cons, List.length_nil]; omega)) only [go_sem, Nat.reduceEqDiff, ↓reduceIte]
            refine (hP _ U1 V1).mono ?_
            rintro v σ' ⟨rfl, rfl⟩
            simp (disch := first | assumption | omega | (simp only [List.length_append, List.length_cons, List.length_nil]; omega)) only [go_sem, reduceCtorEq, Nat.reduceEqDiff, Nat.reduceAdd, Nat.reduceLeDiff, ↓reduceIte, Bool.true_and, ASt.set_set]
            exact ⟨d, hd, rfl, by simp [AFr.upd]⟩
        · simp (disch := first | assumption | omega | (simp only [List.length_append, List.length_cons, List.length_nil]; omega)) only [go_sem]
          refine allocC_by fun d hd => ?_
          have U1 := U8.set (r := some (.obj [.int .i64 0, .int .i64 0, .str [], .int .i64 0, .int .i64 0, .bool false, .bool false, .int .i64 0, .int .i64 0, .bool false, .bool false, .sl .full []])) hU hd
          have V1 := lv_set (r := some (.obj [.int .i64 0, .int .i64 0, .str [], .int .i64 0, .int .i64 0, .bool false, .bool false, .int .i64 0, .int .i64 0, .bool false, .bool false, .sl .full []])) hV hd
          simp (disch := first | assumption | omega | (simp only [List.length_append, List.length_cons, List.length_nil]; omega)) only [go_sem]
          refine hS.use ?_
          simp (disch := first | assumption | omega | (simp only [List.length_append, List.length_cons, List.length_nil]; omega)) only [go_sem, Nat.reduceEqDiff, ↓reduceIte, iB]
          refine (hP _ U1 V1).mono ?_
          rintro v σ' ⟨rfl, rfl⟩
          simp (disch := first | assumption | omega | (simp only [List.length_append, List.length_cons, List.length_nil]; omega)) only [go_sem, reduceCtorEq, Nat.reduceEqDiff, Nat.reduceAdd, Nat.reduceLeDiff, ↓reduceIte, Bool.true_and, ASt.set_set]
          exact ⟨d, hd, rfl, by simp [AFr.upd]⟩
      · simp (disch := first | assumption | omega | (simp only [List.length_append, List.length_cons, List.length_nil]; omega)) only [go_sem]
        refine allocC_by fun d hd => ?_
        have U1 := U8.set (r := some (.obj [.int .i64 0, .int .i64 0, .str [], .int .i64 0, .int .i64 0, .bool false, .bool false, .int .i64 0, .int .i64 0, .bool false, .bool false, .sl .full []])) hU hd
        have V1 := lv_set (r := some (.obj [.int .i64 0, .int .i64 0, .str [], .int .i64 0, .int .i64 0, .bool false, .bool false, .int .i64 0, .int .i64 0, .bool false, .bool false, .sl .full []])) hV hd
        simp (disch := first | assumption | omega | (simp only [List.length_append, List.length_cons, List.length_nil]; omega)) only [go_sem]
        refine hS.use ?_
        simp (disch := first | assumption | omega | (simp only [List.length_append, List.length_cons, List.length_nil]; omega)) only [go_sem, Nat.reduceEqDiff, ↓reduceIte, iA]
        refine hS.use ?_
        simp (disch := first | assumption | omega | (simp only [List.length_append, List.length_cons, List.length_nil]; omega)) only [go_sem, Nat.reduceEqDiff, ↓reduceIte, iB]
        refine (hP _ U1 V1).mono ?_
        rintro v σ' ⟨rfl, rfl⟩
        simp (disch := first | assumption | omega | (simp only [List.length_append, List.length_cons, List.length_nil]; omega)) only [go_sem, reduceCtorEq, Nat.reduceEqDiff, Nat.reduceAdd, Nat.reduceLeDiff, ↓reduceIte, Bool.true_and, ASt.set_set]
        exact ⟨d, hd, rfl, by simp [AFr.upd]⟩
    · rintro a1 σ1 ⟨d, hd, rfl, hf1⟩
      have U1 := U8.set (r := some (.obj [.int .i64 op, .int .i64 m, .str x, .int .i64 p.row, .int .i64 p.col, .bool p.absRow, .bool p.absCol, .int .i64 q.row, .int .i64 q.col, .bool q.absRow, .bool q.absCol, .sl .shr L])) hU hd
      have V1 := lv_set (r := some (.obj [.int .i64 op, .int .i64 m, .str x, .int .i64 p.row, .int .i64 p.col, .bool p.absRow, .bool p.absCol, .int .i64 q.row, .int .i64 q.col, .bool q.absRow, .bool q.absCol, .sl .shr L])) hV hd
      have T1 := Tab.set (r := some (.obj [.int .i64 op, .int .i64 m, .str x, .int .i64 p.row, .int .i64 p.col, .bool p.absRow, .bool p.absCol, .int .i64 q.row, .int .i64 q.col, .bool q.absRow, .bool q.absCol, .sl .shr L])) hT hd
      have M1 := MaxL.set (r := some (.obj [.int .i64 op, .int .i64 m, .str x, .int .i64 p.row, .int .i64 p.col, .bool p.absRow, .bool p.absCol, .int .i64 q.row, .int .i64 q.col, .bool q.absRow, .bool q.absCol, .sl .shr L])) hM hd
      simp (disch := first | assumption | omega | (simp only [List.length_append, List.length_cons, List.length_nil]; omega)) only [go_sem, reduceCtorEq, Nat.reduceEqDiff, ↓reduceIte, hf1]
      refine ⟨by kernel_rfl, (hn0 _ U1 V1).mono ?_⟩
      rintro v σ' ⟨rfl, rfl⟩
      simp (disch := first | assumption | omega | (simp only [List.length_append, List.length_cons, List.length_nil]; omega)) only [go_sem, Nat.reduceEqDiff, ↓reduceIte]
      refine ⟨by kernel_rfl, (hn1 _ U1 V1).mono ?_⟩
      rintro v σ' ⟨rfl, rfl⟩
      simp (disch := first | assumption | omega | (simp only [List.length_append, List.length_cons, List.length_nil]; omega)) only [go_sem, Nat.reduceEqDiff, Nat.reduceAdd, Nat.reduceLeDiff, ↓reduceIte, Bool.true_and]
      refine ⟨by kernel_rfl, (hn2 _ U1 V1).mono ?_⟩
      rintro v σ' ⟨rfl, rfl⟩
      simp (disch := first | assumption | omega | (simp only [List.length_append, List.length_cons, List.length_nil]; omega)) only [go_sem, Nat.reduceEqDiff, Nat.reduceAdd, Nat.reduceLeDiff, ↓reduceIte, Bool.true_and]
      refine allocC_by fun e he => ?_
      have he0 := he
      have U2 := fun r => U8.set (r := r) U1 he0
      have V2 := fun r => lv_set (r := r) V1 he0
      have T2 := fun r => Tab.set (r := r) T1 he0
      have M2 := fun r => MaxL.set (r := r) M1 he0
      have hA2 := fun r => pawake_ok (T2 r) (M2 r) (U2 r) (V2 r)
      repeat (with_reducible replace he := set_none he; obtain ⟨_, _, he⟩ := he)
      have hb1 : (A : Int) = A := rfl
      by_cases hlv : la < lb
      · have hSm := hS1 hlv
        simp (disch := first | assumption | omega | (simp only [List.length_append, List.length_cons, List.length_nil]; omega)) only [go_sem, reduceCtorEq, Nat.reduceEqDiff, Nat.reduceAdd, Nat.reduceLeDiff, ↓reduceIte, Bool.true_and, hf1, lA, lB, hlv, ASt.set_set]
        refine ⟨by kernel_rfl, (hn0 _ (U2 _) (V2 _)).mono ?_⟩
        rintro v σ' ⟨rfl, rfl⟩
        simp (disch := first | assumption | omega | (simp only [List.length_append, List.length_cons, List.length_nil]; omega)) only [go_sem, Nat.reduceEqDiff, ↓reduceIte, hf1]
        refine ⟨by kernel_rfl, (hn1 _ (U2 _) (V2 _)).mono ?_⟩
        rintro v σ' ⟨rfl, rfl⟩
        simp (disch := first | assumption | omega | (simp only [List.length_append, List.length_cons, List.length_nil]; omega)) only [go_sem, Nat.reduceEqDiff, ↓reduceIte]
        refine ⟨by kernel_rfl, (hn2 _ (U2 _) (V2 _)).mono ?_⟩
        rintro v σ' ⟨rfl, rfl⟩
        simp (disch := first | assumption | omega | (simp only [List.length_append, List.length_cons, List.length_nil]; omega)) only [go_sem, Nat.reduceEqDiff, Nat.reduceAdd, Nat.reduceLeDiff, ↓reduceIte, Bool.true_and, ASt.set_set]
        refine (hA2 _).mono ?_
        rintro v τ ⟨rfl, rfl⟩
        simp (disch := first | assumption | omega | (simp only [List.length_append, List.length_cons, List.length_nil]; omega)) only [go_sem, Nat.reduceEqDiff, Nat.reduceAdd, Nat.reduceLeDiff, ↓reduceIte, hf1]
        refine ACalls.deep ?_ (hSm.use ?_)
        · simp only [deeps_cons, deeps_nil, deep_int, deep_str, deep_bool, deep_sl, deep_agg, hdL]
        · simp (disch := first | assumption | omega | (simp only [List.length_append, List.length_cons, List.length_nil]; omega)) only [go_sem, Nat.reduceEqDiff, ↓reduceIte]
          exact retC_by (by repeat' (first | exact Drop.refl _ | with_reducible refine Drop.off ?_ (by assumption))) (.refl _) ⟨rfl, rfl⟩
      · have hSm := hS2 hlv
        simp (disch := first | assumption | omega | (simp only [List.length_append, List.length_cons, List.length_nil]; omega)) only [go_sem, reduceCtorEq, Nat.reduceEqDiff, Nat.reduceAdd, Nat.reduceLeDiff, ↓reduceIte, Bool.true_and, hf1, lA, lB, hlv, ASt.set_set]
        refine (hA2 _).mono ?_
        rintro v τ ⟨rfl, rfl⟩
        simp (disch := first | assumption | omega | (simp only [List.length_append, List.length_cons, List.length_nil]; omega)) only [go_sem, Nat.reduceEqDiff, Nat.reduceAdd, Nat.reduceLeDiff, ↓reduceIte, hf1]
        refine ACalls.deep ?_ (hSm.use ?_)
        · simp only [deeps_cons, deeps_nil, deep_int, deep_str, deep_bool, deep_sl, deep_agg, hdL]
        · simp (disch := first | assumption | omega | (simp only [List.length_append, List.length_cons, List.length_nil]; omega)) only [go_sem, Nat.reduceEqDiff, ↓reduceIte]
          exact retC_by (by repeat' (first | exact Drop.refl _ | with_reducible refine Drop.off ?_ (by assumption))) (.refl _) ⟨rfl, rfl⟩
  · refine a6 (by simp) ?_
    repeat' (first | (simp (disch := first | assumption | omega | (simp only [List.length_append, List.length_cons, List.length_nil]; omega)) only [go_sem, reduceCtorEq, Nat.reduceEqDiff, ↓reduceIte]) | with_reducible refine gC_d (fun h => ?_) (fun h => ?_) | with_reducible refine gC_dn (fun h => ?_) (fun h => ?_) | with_reducible refine condC_d (fun h => ?_) (fun h => ?_) | with_reducible refine condC_n (fun h => ?_) (fun h => ?_) | with_reducible refine condC_b (fun h => ?_) (fun h => ?_) | with_reducible refine boxC_by ?_ fun b hb => ?_)
    all_goals first
      | (exfalso; omega)
      | (refine hA.mono ?_; rintro v σ' ⟨rfl, rfl⟩; simp (disch := first | assumption | omega | (simp only [List.length_append, List.length_cons, List.length_nil]; omega)) only [go_sem, ↓reduceIte]; exact retC_by (.refl _) (.refl _) ⟨rfl, rfl⟩)
end Go.A
namespace Go.Proofs.YtkgondgecdmjpaaGreatDoor
open Go Go.ChangeShapes Go.WideShapes Go.ChangeAt Go.RowKit Go.A Go.Lib Go.Shelf
theorem row_own : ownKnob Tryz.prog.godebug = none := by kernel_rfl
theorem row_laid : laidOutB Tryz.prog = true := by kernel_rfl
theorem first_eq : Rows.laid_unicode_utf8_first = firstData := by kernel_rfl
theorem acc_eq : (Rows.laid_unicode_utf8_acceptRanges : DataW Unit) = acceptData := by kernel_rfl
theorem u8_extra : U8Extra Tryz.prog Tryz.lays260_ren := ⟨by kernel_rfl, by kernel_rfl, by kernel_rfl, by kernel_rfl, by kernel_rfl, by kernel_rfl, by kernel_rfl⟩
theorem var_size {P : Program} {w : World} {n : String} {d : DataW Unit} (h : VarReads P w n d) {g : Nat} (hg : P.globalNamed n = some g) {t e : TypeId} {k : Nat} (hty : (P.globals[g]?).map (·.type) = some t) (ht : P.underlying t = some (.array k e)) :
    ∃ cs T fr, w.heap[g]? = some (.cells cs T fr) ∧ cs.size = P.cellsOf t := by
  obtain ⟨g', t', cs, fuel, p, hg', hty', hvar, hd⟩ := h
  obtain rfl := Option.some.inj (hg.symm.trans hg')
  obtain rfl := Option.some.inj (hty.symm.trans hty')
  have hlen : cs.toList.length = P.cellsOf t := by
    cases fuel with
    | zero => simp [DataW.trod] at hd
    | succ fuel =>
      simp only [DataW.trod, ht] at hd
      split at hd
      · assumption
      · cases hd
  unfold World.var? at hvar
  rw [hg, Option.bind_some] at hvar
  split at hvar
  · rename_i cs' T fr hheap
    injection hvar with hvar
    subst hvar
    exact ⟨_, _, _, hheap, by simpa using hlen⟩
  · cases hvar
theorem ints_reps {σ : ASt} {w : World} {k : IntKind} : ∀ zs : List Int, Reps σ w (zs.map (AV.int k)) (zs.map (Value.int k))
  | [] => .nil
  | z :: zs => .cons (.int k z) (ints_reps zs)
theorem fix_ok {σ : ASt} {W : World} {b : Nat} {zs : List Int} (hs : σ b = some (.fix (zs.map (AV.int .u8)))) {cs : Array Value} {T : TypeId} {fr : Nat × Nat} (hh : W.heap[b]? = some (.cells cs T fr)) (hsz : cs.size = zs.length)
    (hc : ∀ j z, zs[j]? = some z → W.cell? ⟨b, j, none⟩ = some (.int .u8 z)) : RoleOk σ W b (.fix (zs.map (AV.int .u8))) := by
  have hlt : b < W.heap.size := (Array.getElem?_eq_some_iff.1 hh).1
  refine ⟨At.mk' (ints_reps _) (fun j _ => ⟨hlt, .inr (.inl ⟨_, hs⟩)⟩) (fun j v hj => ?_), cs, T, fr, hh, by simpa using hsz⟩
  rw [List.getElem?_map] at hj
  obtain ⟨z, hz, rfl⟩ := Option.map_eq_some_iff.1 hj
  rw [Nat.zero_add]
  exact hc j z hz
def stOf : List (Nat × List AV) → ASt
  | [], _ => none
  | p :: ps, b => if b = p.1 then some (.fix p.2) else stOf ps b
theorem stOf_fix : ∀ {ps : List (Nat × List AV)} {b : Nat} {r : Role}, stOf ps b = some r → ∃ l, r = .fix l
  | [], _, _, h => by cases h
  | p :: ps, b, r, h => by
    simp only [stOf] at h
    split at h
    · injection h with h; exact ⟨_, h.symm⟩
    · exact stOf_fix h
theorem stOf_mem : ∀ {ps : List (Nat × List AV)} {b : Nat} {r : Role}, stOf ps b = some r → ∃ l, (b, l) ∈ ps ∧ r = .fix l
  | [], _, _, h => by cases h
  | p :: ps, b, r, h => by
    simp only [stOf] at h
    split at h
    · rename_i hb
      injection h with h
      subst hb
      exact ⟨p.2, List.mem_cons_self, h.symm⟩
    · obtain ⟨l, hl, he⟩ := stOf_mem h
      exact ⟨l, List.mem_cons_of_mem _ hl, he⟩
theorem still_fix {σ : ASt} (hfx : ∀ b r, σ b = some r → ∃ l, r = .fix l) {w : World} {b o : Nat} (h : b < w.heap.size) : Still σ w b o := by
  refine ⟨h, ?_⟩
  cases hb : σ b with
  | none => exact .inl rfl
  | some r => obtain ⟨l, rfl⟩ := hfx b r hb; exact .inr (.inl ⟨_, rfl⟩)
end Go.Proofs.YtkgondgecdmjpaaGreatDoor
namespace Go.A
section
variable {σ : ASt} {w : World}
theorem Still.fixed (hfx : ∀ b r, σ b = some r → ∃ l, r = .fix l) {b o : Nat} (h : Still noRole w b o) : Still σ w b o := by
  refine ⟨h.1, ?_⟩
  cases hb : σ b with
  | none => exact .inl rfl
  | some r => obtain ⟨l, rfl⟩ := hfx b r hb; exact .inr (.inl ⟨_, rfl⟩)
theorem Stands.fixed (hfx : ∀ b r, σ b = some r → ∃ l, r = .fix l) (b : Nat) : Stands σ b := by
  refine ⟨fun cs h => ?_, fun l p h => ?_, fun T cs h => ?_⟩ <;> (obtain ⟨l, hl⟩ := hfx b _ h; cases hl)
theorem SK.ok_fixed (hfx : ∀ b r, σ b = some r → ∃ l, r = .fix l) {k : SK} {b o n c sz : Nat} (h : k.ok noRole w b o n c sz) : k.ok σ w b o n c sz := by
  cases k with
  | shr => trivial
  | full => exact h
  | tok t s T => exact ⟨h.1, h.2.1, h.2.2.1, h.2.2.2.1, Stands.fixed hfx b⟩
mutual
theorem Rep.fixed (hfx : ∀ b r, σ b = some r → ∃ l, r = .fix l) : ∀ {a : AV} {v : Value}, Rep noRole w a v → Rep σ w a v
  | _, _, .any v => .any v
  | _, _, .bool b => .bool b
  | _, _, .int k n => .int k n
  | _, _, .str l => .str l
  | _, _, .ptr b o => .ptr b o
  | _, _, .imm h1 => .imm (h1.fixed hfx)
  | _, _, .nilp => .nilp
  | _, _, .slE A c => .slE A c
  | _, _, .slN => .slN
  | _, _, .sl h1 h2 h3 h4 h5 => .sl (h1.fixed hfx) h2 h3 (SK.ok_fixed hfx h4) h5
  | _, _, .msl b o n c => .msl b o n c
  | _, _, .agg h1 => .agg (h1.fixed hfx)
  | _, _, .tuple h1 => .tuple (h1.fixed hfx)
  | _, _, .iface h1 => .iface (h1.fixed hfx)
  | _, _, .nili => .nili
  | _, _, .func h1 h2 => .func (h1.fixed hfx) (h2.fixed hfx)
  | _, _, .nilf => .nilf
theorem Reps.fixed (hfx : ∀ b r, σ b = some r → ∃ l, r = .fix l) : ∀ {avs : List AV} {vs : List Value}, Reps noRole w avs vs → Reps σ w avs vs
  | _, _, .nil => .nil
  | _, _, .cons h1 h2 => .cons (h1.fixed hfx) (h2.fixed hfx)
theorem At.fixed (hfx : ∀ b r, σ b = some r → ∃ l, r = .fix l) : ∀ {b o : Nat} {avs : List AV}, At noRole w b o avs → At σ w b o avs
  | _, _, _, .nil b o => .nil b o
  | _, _, _, .cons h1 h2 h3 h4 => .cons (h1.fixed hfx) h2 (h3.fixed hfx) (h4.fixed hfx)
theorem Row.fixed (hfx : ∀ b r, σ b = some r → ∃ l, r = .fix l) : ∀ {b o sz : Nat} {avs : List AV}, Row noRole w b o sz avs → Row σ w b o sz avs
  | _, _, _, _, .nil b o sz => .nil b o sz
  | _, _, _, _, .cons h1 h2 h3 => .cons h1 (h2.fixed hfx) (h3.fixed hfx)
end
end
end Go.A
namespace Go.Proofs.YtkgondgecdmjpaaGreatDoor
open Go Go.ChangeShapes Go.WideShapes Go.ChangeAt Go.RowKit Go.A Go.Lib Go.Shelf
theorem u8_roles {σ : ASt} {W : World} (h3 : VarReads Tryz.prog W "unicode/utf8.first" firstData) (h4 : VarReads Tryz.prog W "unicode/utf8.acceptRanges" acceptData) :
    (σ 1 = some (.fix (firstTab.map (AV.int .u8))) → RoleOk σ W 1 (.fix (firstTab.map (AV.int .u8)))) ∧ (σ 2 = some (.fix (accTab.map (AV.int .u8))) → RoleOk σ W 2 (.fix (accTab.map (AV.int .u8)))) := by
  have hT := utf8Tabs_of_reads (ρ := Tryz.lays260_ren) Tryz.lays260 u8_extra h3 h4
  obtain ⟨hT1, hT2⟩ := hT
  have hT1 : ∀ c, c < 256 → W.cell? ⟨1, c, none⟩ = some (.int .u8 (firstT c)) := hT1
  have hT2 : ∀ i, i < 16 → W.cell? ⟨2, 2 * i, none⟩ = some (.int .u8 (accLo i)) ∧ W.cell? ⟨2, 2 * i + 1, none⟩ = some (.int .u8 (accHi i)) := hT2
  constructor
  · intro hs
    obtain ⟨cs, T, fr, hh, hsz⟩ := var_size h3 (g := 1) (by kernel_rfl) u8_extra.y3 (Tryz.lays260.t119)
    refine fix_ok hs hh (hsz.trans (by kernel_rfl)) fun j z hj => ?_
    have hl := (List.getElem?_eq_some_iff.1 hj).1
    simp only [firstTab, List.length_map, List.length_range] at hl
    simp only [firstTab, List.getElem?_map, List.getElem?_range hl, Option.map_some, Option.some.injEq] at hj
    subst hj
    exact hT1 j hl
  · intro hs
    obtain ⟨cs, T, fr, hh, hsz⟩ := var_size h4 (g := 2) (by kernel_rfl) u8_extra.y4 (Tryz.lays260.t139)
    refine fix_ok hs hh (hsz.trans (by kernel_rfl)) fun j z hj => ?_
    have hl := (List.getElem?_eq_some_iff.1 hj).1
    have key : ∀ j, j < 32 → accTab[j]? = some (if j % 2 = 0 then (accLo (j / 2) : Int) else accHi (j / 2)) := by decide
    have hl : j < 32 := hl
    rw [key j hl] at hj
    injection hj with hj
    subst hj
    obtain ⟨g1, g2⟩ := hT2 (j / 2) (by omega)
    split
    · rw [show 2 * (j / 2) = j by omega] at g1; exact g1
    · rw [show 2 * (j / 2) + 1 = j by omega] at g2; exact g2
theorem pow_role {σ : ASt} {W : World} (hfx : ∀ b r, σ b = some r → ∃ l, r = .fix l) (h3 : VarReads Tryz.prog W "internal/strconv.uint64pow10" (Lib.tabData .u64 Lib.pow10Tab)) :
    RoleOk σ W 3 (.fix (Lib.pow10Tab.map (AV.int .u64))) := by
  obtain ⟨g', t', cs, fuel, p, hg', ht', hvar, hd⟩ := h3
  obtain rfl := Option.some.inj ((show Tryz.prog.globalNamed "internal/strconv.uint64pow10" = some 3 by kernel_rfl).symm.trans hg')
  obtain rfl := Option.some.inj ((show (Tryz.prog.globals[3]?).map (·.type) = some 152 by kernel_rfl).symm.trans ht')
  have hcs := cells_of_tab (n := 20) (e := 97) (k := .u64) (by kernel_rfl) (by kernel_rfl) (by kernel_rfl) (by kernel_rfl) hd
  unfold World.var? at hvar
  rw [show Tryz.prog.globalNamed "internal/strconv.uint64pow10" = some 3 by kernel_rfl, Option.bind_some] at hvar
  split at hvar
  · rename_i cs' T fr hheap
    injection hvar with hvar
    have hlt : 3 < W.heap.size := (Array.getElem?_eq_some_iff.1 hheap).1
    have he : cs' = (Lib.pow10Tab.map fun z => Value.int .u64 z).toArray := by rw [hvar]; exact Array.ext' (by simpa using hcs)
    refine ⟨At.mk' (ints_reps _) (fun j _ => still_fix hfx hlt) (fun j v hj => ?_), cs', T, fr, hheap, by rw [he]; simp⟩
    simp only [World.cell?, hheap, Nat.zero_add, he]
    simpa using hj
  · cases hvar
end Go.Proofs.YtkgondgecdmjpaaGreatDoor
namespace Go.Proofs.YtkgondgecdmjpaaGreatDoor
open Go Go.ChangeShapes Go.WideShapes Go.ChangeAt Go.RowKit Go.A Go.Lib Go.Shelf
def vPs : List (Nat × List AV) := [(1, firstTab.map (AV.int .u8)), (2, accTab.map (AV.int .u8)), (3, Lib.pow10Tab.map (AV.int .u64))]
def vSt : ASt := stOf vPs
end Go.Proofs.YtkgondgecdmjpaaGreatDoor
namespace Go
variable {H : Type} {enc : TypeId × Value → H}
theorem A.returnsInHanded_and_shaped {a : Assume} {C : Checked} {os : Os} {f : FuncId} {fn : Func} {s : ChangeSpec} {conds : List PathCond} {apart fresh handsOn again : Bool} {X : World → Array Value → Prop}
    (hX : ∀ (w w' : World) (args : Array Value), w.heap = w'.heap → X w args → X w' args)
    (own : ownKnob C.prog.godebug = none) (started : os.Started) (noInit : C.prog.inits.idxOf? f = none) (hfn : C.prog.funcs[f]? = some fn)
    (witness : ∃ (w : World) (tape : Tape) (i : Input), w.os = os ∧ (w.forCall tape i).Shaped C.prog ∧ i.vars = [] ∧ Input.okWide C.prog (w.forCall tape i) .any w.heap.size f i ∧
      ((s.pre enc C.prog fn conds apart (w.forCall tape i).memory i.args ∧ X (w.forCall tape i).memory i.args) ∧ sizedMet enc C.prog fn (OpenSpec.ofChange s) apart (w.forCall tape i).memory i.args) ∧ a.holds C.prog (lone (Frame.enter C.prog f i.args .normal) [] (w.forCall tape i)))
    (contract : ∀ (W : World) (base : Nat) (args : Array Value) (ds gs : List (DataW H)) (before : List MemPlace),
      (∀ (j : Nat) t v, fn.params[j]? = some t → args[j]? = some v → Value.okWide C.prog W .any base t v) →
      DataW.Whole enc C.prog fn.params.toList s.vars apart W args.toList ds gs before →
      W.ShapedOpen C.prog → X W args →
      Calls C.prog f args W fun e W' => ∃ v, e = .returned v ∧ s.post enc C.prog fn apart fresh handsOn again W args v W') :
    ReturnsInHanded a C os f .any (fun w args => (s.pre enc C.prog fn conds apart w args ∧ X w args) ∧ sizedMet enc C.prog fn (OpenSpec.ofChange s) apart w args) (s.post enc C.prog fn apart fresh handsOn again) := by
  refine returnsInHanded_of_calls own started noInit witness ?_
  intro w tape i _ hsh _ hok hpre hholds
  obtain ⟨_, _, _, fn', hfn', _, _, _, _, hval⟩ := hok
  have e : fn' = fn := Option.some.inj (hfn'.symm.trans hfn)
  subst e
  obtain ⟨⟨⟨ds, gs, before, hw, hc⟩, hx⟩, hz⟩ := hpre
  have hw' := DataW.Whole.of_heap (w' := w.forCall tape i) (by rfl) hw
  refine (contract (w.forCall tape i) w.heap.size i.args ds gs before hval hw' hsh (hX _ _ _ (by rfl) hx)).mono fun e W' ⟨v, he, hp⟩ => ?_
  subst he
  exact ChangeSpec.post_blind hp
end Go
namespace Go.Proofs.YtkgondgecdmjpaaGreatDoor
open Go Go.ChangeShapes Go.WideShapes Go.ChangeAt Go.RowKit Go.A Go.Lib Go.Shelf
def wSt (m : Int) : ASt := fun b => if b = 4 then some (.fix ([m].map (AV.int .i64))) else vSt b
theorem wSt_fix {m : Int} {b : Nat} {r : Role} (h : wSt m b = some r) : ∃ l, r = .fix l := by
  unfold wSt at h
  split at h
  · injection h with h; exact ⟨_, h.symm⟩
  · exact stOf_fix h
end Go.Proofs.YtkgondgecdmjpaaGreatDoor
namespace Go.Proofs.YtkgondgecdmjpaaGreatDoor
open Go Go.ChangeShapes Go.WideShapes Go.ChangeAt Go.RowKit Go.A Go.Lib Go.Shelf
theorem strs_trod {H : Type} {enc : TypeId × Value → H} {P : Program} {w : World} {base : Nat} {spare : Nat → Bool} {held : Bool} {fuel : Nat} {t e : TypeId} {cs : List Value} {l : List (List UInt8)} {m : List MemPlace}
    (ht : P.underlying t = some (.slice e)) (he : P.underlying e = some .string) (hc : P.cellsOf e = 1) (hl : 0 < l.length)
    (hd : DataW.trod enc P w base spare held fuel t cs = some (.slice (l.map fun s => .lit (.string s)) [], m)) :
    ∃ R o cap, cs = [.slice (some ⟨R, o, none⟩) l.length cap] ∧ l.length ≤ cap ∧ ∀ j s, l[j]? = some s → w.cell? ⟨R, o + j, none⟩ = some (.string ⟨⟨s⟩⟩) := by
  rcases DataW.trod_slice ht hd with ⟨_, hx⟩ | ⟨a, len, cap, el, rs, k, rfl, hcs, hx, _, hlc, _, hel, helem, hsp, _⟩
  · cases hx
  have e0 := congrArg Prod.fst hx
  simp only [DataW.slice.injEq] at e0
  obtain ⟨eE, eR⟩ := e0
  have hlen : len = l.length := by
    have := congrArg List.length eE
    simp at this
    omega
  have hcell : ∀ i z, l[i]? = some z → w.cell? (a.add i) = some (.string ⟨⟨z⟩⟩) := by
    intro i z hiz
    have hi : i < l.length := (List.getElem?_eq_some_iff.1 hiz).1
    have h1 := helem i (by omega)
    rw [hc] at h1
    obtain ⟨b, hb⟩ : ∃ b, el[i]? = some b := ⟨el[i]'(by omega), List.getElem?_eq_getElem (by omega)⟩
    rw [hb] at h1
    obtain ⟨ce, hce, hte⟩ := Option.bind_eq_some_iff.1 h1
    obtain ⟨z', hz, hbz, _⟩ := DataW.trod_string he hte
    have hb1 : b.1 = .lit (.string z) := by
      have := congrArg (·[i]?) eE
      simp only [List.getElem?_map, hiz, hb, Option.map_some, Option.some.injEq] at this
      exact this.symm
    rw [hbz] at hb1
    simp only [DataW.lit.injEq, Lit.string.injEq] at hb1
    obtain ⟨_, _, hcc⟩ := World.cells?_some hce
    have := hcc 0 (by omega)
    rw [hz] at this
    simp only [Nat.mul_one] at this
    have e1 : (a.add i).add 0 = a.add i := by simp [Addr.add]
    rw [e1] at this
    rw [this, ← hb1]
    rfl
  obtain ⟨z0, hz0⟩ : ∃ z, l[0]? = some z := ⟨l[0], List.getElem?_eq_getElem hl⟩
  obtain ⟨R, o, sR⟩ := a
  obtain rfl : sR = none := by
    have h00 := hcell 0 z0 hz0
    have : (Addr.add ⟨R, o, sR⟩ 0) = ⟨R, o, sR⟩ := by simp [Addr.add]
    rw [this] at h00
    exact Go.Proofs.cell_spot h00
  exact ⟨R, o, cap, by rw [hcs, hlen], by omega, fun j s hj => by have := hcell j s hj; rwa [Addr.add_lit] at this⟩
theorem block_lt {w : World} {R o : Nat} {s : Option Nat} {v : Value} (h : w.cell? ⟨R, o, none⟩ = some v) : R < w.heap.size := by
  refine Nat.lt_of_not_le fun hge => ?_
  simp [World.cell?, Array.getElem?_eq_none hge] at h
theorem strs_row {σ : ASt} {w : World} {b : Nat} (hst : ∀ o, Still σ w b o) : ∀ (zs : List (List UInt8)) (o : Nat), (∀ j z, zs[j]? = some z → w.cell? ⟨b, o + j, none⟩ = some (.string ⟨⟨z⟩⟩)) → Row σ w b o 1 (zs.map AV.str)
  | [], o, _ => .nil _ _ _
  | z :: zs, o, h => .cons rfl (.cons (hst o) (h 0 z rfl) (.str z) (.nil _ _)) (strs_row hst zs (o + 1) fun j z' hj => by
      have := h (j + 1) z' (by simpa using hj)
      rwa [show o + (j + 1) = o + 1 + j by omega] at this)
theorem strss_row {σ : ASt} {w : World} {b : Nat} (hst : ∀ o, Still σ w b o) : ∀ (zs : List (List (List UInt8))) (o : Nat),
    (∀ j z, zs[j]? = some z → ∃ v, w.cell? ⟨b, o + j, none⟩ = some v ∧ Rep σ w (.sl .shr (z.map AV.str)) v) → Row σ w b o 1 (zs.map fun l => AV.sl .shr (l.map AV.str))
  | [], o, _ => .nil _ _ _
  | z :: zs, o, h => by
    obtain ⟨v, hv, hr⟩ := h 0 z rfl
    exact .cons rfl (.cons (hst o) hv hr (.nil _ _)) (strss_row hst zs (o + 1) fun j z' hj => by
      have := h (j + 1) z' (by simpa using hj)
      rwa [show o + (j + 1) = o + 1 + j by omega] at this)
theorem levels_role {σ : ASt} {W : World} (hfx : ∀ b r, σ b = some r → ∃ l, r = .fix l) (h : VarReads Tryz.prog W "tabular/parse.levels" (.slice (levelsL.map fun l => .slice (l.map fun s => .lit (.string s)) []) [])) :
    RoleOk σ W 0 (.fix [lvAV]) := by
  obtain ⟨g', t', cs, fuel, p, hg, hty, hvar, hd⟩ := h
  obtain rfl := Option.some.inj ((show Tryz.prog.globalNamed "tabular/parse.levels" = some 0 by kernel_rfl).symm.trans hg)
  obtain rfl := Option.some.inj ((show (Tryz.prog.globals[0]?).map (·.type) = some 70 by kernel_rfl).symm.trans hty)
  have ht : Tryz.prog.underlying 70 = some (.slice 23) := by kernel_rfl
  have ht2 : Tryz.prog.underlying 23 = some (.slice 9) := by kernel_rfl
  have he : Tryz.prog.underlying 9 = some .string := by kernel_rfl
  have hc : Tryz.prog.cellsOf 23 = 1 := by kernel_rfl
  have hc2 : Tryz.prog.cellsOf 9 = 1 := by kernel_rfl
  have hpos : ∀ (j : Nat) (z : List (List UInt8)), levelsL[j]? = some z → 0 < z.length := by
    intro j z hj
    match j, hj with
    | 0, hj | 1, hj | 2, hj | 3, hj | 4, hj => injection hj with hj; subst hj; decide
  rcases DataW.trod_slice ht hd with ⟨_, hx⟩ | ⟨a, len, cap, el, rs, k, rfl, hcs, hx, _, hlc, _, hel, helem, hsp, _⟩
  · cases hx
  have e0 := congrArg Prod.fst hx
  simp only [DataW.slice.injEq] at e0
  obtain ⟨eE, eR⟩ := e0
  have hlen : len = levelsL.length := by
    have := congrArg List.length eE
    simp at this
    omega
  have hcell : ∀ i z, levelsL[i]? = some z → ∃ v, W.cell? (a.add i) = some v ∧ Rep σ W (.sl .shr (z.map AV.str)) v := by
    intro i z hiz
    have hi : i < levelsL.length := (List.getElem?_eq_some_iff.1 hiz).1
    have h1 := helem i (by omega)
    rw [hc] at h1
    obtain ⟨b, hb⟩ : ∃ b, el[i]? = some b := ⟨el[i]'(by omega), List.getElem?_eq_getElem (by omega)⟩
    rw [hb] at h1
    obtain ⟨ce, hce, hte⟩ := Option.bind_eq_some_iff.1 h1
    have hb1 : b.1 = .slice (z.map fun s => .lit (.string s)) [] := by
      have := congrArg (·[i]?) eE
      simp only [List.getElem?_map, hiz, hb, Option.map_some, Option.some.injEq] at this
      exact this.symm
    obtain ⟨b1, b2⟩ := b
    dsimp only at hb1
    subst hb1
    obtain ⟨R, o, cap', rfl, hle, hcells⟩ := strs_trod ht2 he hc2 (hpos i z hiz) hte
    obtain ⟨_, _, hcc⟩ := World.cells?_some hce
    have := hcc 0 (by omega)
    simp only [Nat.mul_one] at this
    have e1 : (a.add i).add 0 = a.add i := by simp [Addr.add]
    rw [e1] at this
    obtain ⟨z0, hz0⟩ : ∃ z0, z[0]? = some z0 := ⟨z[0]'(hpos i z hiz), List.getElem?_eq_getElem (hpos i z hiz)⟩
    have hR := block_lt (s := none) (hcells 0 z0 hz0)
    exact ⟨_, this, .sl (sz := 1) (strs_row (fun o => still_fix hfx hR) z o hcells) (by simp) hle trivial hR⟩
  obtain ⟨R, o, sR⟩ := a
  obtain ⟨v0, h00, _⟩ := hcell 0 [[61], [60, 62], [60], [60, 61], [62], [62, 61]] rfl
  obtain rfl : sR = none := by
    have : (Addr.add ⟨R, o, sR⟩ 0) = ⟨R, o, sR⟩ := by simp [Addr.add]
    rw [this] at h00
    exact Go.Proofs.cell_spot h00
  have hR : R < W.heap.size := by
    have : (Addr.add ⟨R, o, none⟩ 0) = ⟨R, o, none⟩ := by simp [Addr.add]
    rw [this] at h00
    exact block_lt (s := none) h00
  have hrow := strss_row (fun o => still_fix hfx hR) levelsL o fun j z hj => by
    obtain ⟨v, hv, hr⟩ := hcell j z hj
    rw [Addr.add_lit] at hv
    exact ⟨v, hv, hr⟩
  unfold World.var? at hvar
  rw [hg, Option.bind_some] at hvar
  split at hvar
  · rename_i cs' T fr hheap
    injection hvar with hvar
    subst hvar
    have hcs2 : cs' = #[.slice (some ⟨R, o, none⟩) levelsL.length cap] := by
      rw [← hlen]
      exact Array.ext' (by simpa using hcs)
    subst hcs2
    have hlt : 0 < W.heap.size := (Array.getElem?_eq_some_iff.1 hheap).1
    have hce : W.cell? ⟨0, 0, none⟩ = some (.slice (some ⟨R, o, none⟩) levelsL.length cap) := by simp [World.cell?, hheap]
    have hrep : Rep σ W lvAV (.slice (some ⟨R, o, none⟩) levelsL.length cap) := .sl (sz := 1) hrow (by simp) (by omega) trivial hR
    exact ⟨.cons (still_fix hfx hlt) hce hrep (.nil _ _), _, T, fr, hheap, rfl⟩
  · cases hvar
def laidX : List (String × DataW Unit) := [("math/bits.deBruijn32tab", Rows.laid_math_bits_deBruijn32tab), ("math/bits.deBruijn64tab", Rows.laid_math_bits_deBruijn64tab), ("internal/strconv.uint64pow10", Rows.laid_internal_strconv_uint64pow10), ("unicode/utf8.acceptRanges", Rows.laid_unicode_utf8_acceptRanges), ("tabular/parse.levels", Rows.laid_tabular_parse_levels), ("unicode/utf8.first", Rows.laid_unicode_utf8_first)]
def xSt (m : Int) : ASt := fun b => if b = 0 then some (.fix [lvAV]) else wSt m b
theorem xSt_u8 (m : Int) : U8 (xSt m) := ⟨by simp [xSt, wSt, vSt, vPs, stOf], by simp [xSt, wSt, vSt, vPs, stOf]⟩
theorem xSt_tab (m : Int) : Tab (xSt m) := by simp [Tab, xSt, wSt, vSt, vPs, stOf]
theorem xSt_max (m : Int) : MaxL (xSt m) := ⟨m, by simp [xSt, wSt]⟩
theorem xSt_lv (m : Int) : LV (xSt m) := by simp [LV, xSt]
theorem xSt_fix {m : Int} {b : Nat} {r : Role} (h : xSt m b = some r) : ∃ l, r = .fix l := by
  unfold xSt at h
  split at h
  · injection h with h; exact ⟨_, h.symm⟩
  · exact wSt_fix h
theorem x_sim {W : World} (hsh : W.ShapedOpen Tryz.prog) (h : laidMetH Tryz.prog laidX W) : ∃ m, Sim (xSt m) W := by
  rw [MakeChecks.laidMetH_plain _ _ _ (by kernel_rfl)] at h
  have hp : VarReads Tryz.prog W "internal/strconv.uint64pow10" (Lib.tabData .u64 Lib.pow10Tab) := Lib.laidMet.reads h (.tail _ (.tail _ (.head _)))
  have h4 : VarReads Tryz.prog W "unicode/utf8.acceptRanges" acceptData := acc_eq ▸ Lib.laidMet.reads h (.tail _ (.tail _ (.tail _ (.head _))))
  have h5 : VarReads Tryz.prog W "tabular/parse.levels" (.slice (levelsL.map fun l => .slice (l.map fun s => .lit (.string s)) []) []) := Lib.laidMet.reads h (.tail _ (.tail _ (.tail _ (.tail _ (.head _)))))
  have h3 : VarReads Tryz.prog W "unicode/utf8.first" firstData := first_eq ▸ Lib.laidMet.reads h (.tail _ (.tail _ (.tail _ (.tail _ (.tail _ (.head _))))))
  obtain ⟨m, hm⟩ := Tryz.laysM155.s1_3 W hsh
  have hm : W.cell? ⟨4, 0, none⟩ = some (.int .i64 m) := hm
  obtain ⟨cs, hh, hsz, _⟩ := hsh.1 4 #[.int .i64 0] 3 (of_decide_eq_true (by kernel_rfl)) (by kernel_rfl)
  obtain ⟨r1, r2⟩ := u8_roles (σ := xSt m) h3 h4
  refine ⟨m, fun b r hb => ?_⟩
  have hb0 := hb
  unfold xSt at hb
  split at hb
  · rename_i hbb
    subst hbb
    injection hb with hb
    subst hb
    exact levels_role (fun _ _ => xSt_fix) h5
  unfold wSt at hb
  split at hb
  · rename_i hbb
    subst hbb
    injection hb with hb
    subst hb
    have hlt : 4 < W.heap.size := (Array.getElem?_eq_some_iff.1 hh).1
    refine ⟨At.mk' (ints_reps _) (fun j _ => ⟨hlt, .inr (.inl ⟨_, hb0⟩)⟩) (fun j v hj => ?_), cs, _, _, hh, hsz⟩
    match j, hj with
    | 0, hj => injection hj with hj; subst hj; exact hm
  · obtain ⟨l, hl, rfl⟩ := stOf_mem hb
    simp only [vPs, List.mem_cons, List.not_mem_nil, or_false, Prod.mk.injEq] at hl
    rcases hl with ⟨rfl, rfl⟩ | ⟨rfl, rfl⟩ | ⟨rfl, rfl⟩
    · exact r1 (xSt_u8 m).1
    · exact r2 (xSt_u8 m).2
    · exact pow_role (fun _ _ => xSt_fix) hp
theorem calls_x {m : Int} {f : FuncId} {args : List AV} {vs : List Value} {w : World} (h : ACalls Tryz.prog f args (xSt m) fun r σ' => r = .bool true ∧ σ' = xSt m) (hs : Sim (xSt m) w) (hr : Reps (xSt m) w args vs) :
    Calls Tryz.prog f ⟨vs⟩ w fun e w' => e = .returned (.bool true) ∧ Ext w w' :=
  (h w vs hs hr).mono fun e w' ⟨u, r, σ', he, ⟨hrt, hst⟩, hle, _, hrep⟩ => by
    subst hrt hst
    cases hrep
    refine ⟨he, Ext.of_below ⟨hle.os, hle.tape, hle.output, hle.size, fun k hk => ?_⟩⟩
    cases hn : xSt m k with
    | none => exact (hle.keep k hk hn).2
    | some r =>
      obtain ⟨l, rfl⟩ := xSt_fix hn
      exact (hle.fix k _ hk hn).2
end Go.Proofs.YtkgondgecdmjpaaGreatDoor
