/- Part 11 of what ShiftMoves leans on: Pf CodePg Pg Ph CodePi Pi CodeSc Sc CodeSe Se. -/
import Derived.Test.YtelbefdoehlmhaaGreatDoorProg
import Derived.KernelRfl
import Derived.Test.YtelbefdoehlmhaaGreatDoorZShiftMovesj
namespace Go.A
open Go.Proofs Go.Lib
set_option maxRecDepth 100000
set_option linter.unusedSimpArgs false
set_option linter.unusedVariables false
set_option maxHeartbeats 4000000 in
theorem name_walk {T : List Tok} (hT : TokOk T) (f : Nat) (ih : ∀ f', f' < f + 1 → WalkF T f') (b : Nat) (s : PSt) (r : Nd × PSt) (h : nameP T (f + 1) s = some r) (hf : Fit T s) (hk3 : (curT T s).kind = 3) (σ : ASt) (hV : LV σ) (hb : σ b = pr T s) :
    ACalls Tryz.prog 115 [.ptr b 0, tokAV (curT T s)] σ fun v σ' => v = r.1.av ∧ σ' = σ.set b (pr T r.2) := by
  rw [nameP] at h
  have hwent := wentF hT.ends
  have he0 : s.err = 0 := cur_err (T := T) (by omega)
  have hn := (hf.next hT.ends (by omega)).1
  have hni : s.i + 1 < T.length := hn.i
  have hlen := hT.len
  have hil := hf.i
  have hget : (T.map tokAV)[s.i + 1]? = some (.agg [.int .i64 (T.getD (s.i + 1) endT).kind, .str (T.getD (s.i + 1) endT).text, .int .i64 (T.getD (s.i + 1) endT).at', .int .i64 (T.getD (s.i + 1) endT).col]) := tok_get hni
  have hTL : (T.map tokAV).length = T.length := by simp
  have hge2 := hT.ends.more (s.i + 1) hni
  have hpr : ∀ x : PSt, pr T x = some (.obj [.sl .shr (T.map tokAV), .int .i64 x.i, .int .i64 x.deep, .int .i64 x.err, .int .i64 x.bad]) := fun x => rfl
  have hcur := hk3
  generalize hct : curT T s = tk at *
  generalize hN : T.getD (s.i + 1) endT = tn at *
  have htv : tokAV tk = .agg [.int .i64 tk.kind, .str tk.text, .int .i64 tk.at', .int .i64 tk.col] := rfl
  rw [htv]
  obtain ⟨TC, hTC⟩ : ∃ TC, ([.int .i64 tk.kind, .str tk.text, .int .i64 tk.at', .int .i64 tk.col] : List AV) = TC := ⟨_, rfl⟩
  have hbn : σ b ≠ none := (pr_fix hb).2
  refine a115 (by simp) ?_
  simp (disch := first | assumption | omega | (simp only [List.length_append, List.length_cons, List.length_nil]; omega)) only [go_sem]
  refine boxC_by rfl fun c hc => ?_
  have hbc : b ≠ c := by rintro rfl; exact hbn hc
  have hbσ : (σ.set c (some (.obj [.int .i64 tk.kind, .str tk.text, .int .i64 tk.at', .int .i64 tk.col]))) b = pr T s := by rw [ASt.set_ne hbc]; exact hb
  have hVσ : LV (σ.set c (some (.obj [.int .i64 tk.kind, .str tk.text, .int .i64 tk.at', .int .i64 tk.col]))) := by
    unfold LV at hV ⊢
    rw [ASt.set_ne]
    · exact hV
    · rintro e; rw [← e, hV] at hc; cases hc
  have hcσ : (σ.set c (some (.obj [.int .i64 tk.kind, .str tk.text, .int .i64 tk.at', .int .i64 tk.col]))) c = some (.obj [.int .i64 tk.kind, .str tk.text, .int .i64 tk.at', .int .i64 tk.col]) := ASt.set_same _ _ _
  have hDσ : ∀ X : Option Role, Drop ((σ.set c (some (.obj [.int .i64 tk.kind, .str tk.text, .int .i64 tk.at', .int .i64 tk.col]))).set b X) (σ.set b X) := fun X => by
    rw [set_swap (Ne.symm hbc)]
    exact Drop.set (by rw [ASt.set_ne (Ne.symm hbc)]; exact hc)
  simp (disch := first | assumption | omega | (simp only [List.length_append, List.length_cons, List.length_nil]; omega)) only [go_sem]
  refine allocC_by fun d hd => ?_
  generalize hρ : σ.set c (some (.obj [.int .i64 tk.kind, .str tk.text, .int .i64 tk.at', .int .i64 tk.col])) = ρ at *
  obtain ⟨hbd, T2, S2⟩ := St2.of hd (pr_fix hbσ).1 (pr_fix hbσ).2
  have hcd : c ≠ d := by rintro rfl; rw [hcσ] at hd; cases hd
  rw [S2.one, hbσ]
  have q1 := fun Y => S2.a1 (pr T s) Y
  rw [hpr s] at q1
  have e1 : ((s.i : Int) + 1).toNat = s.i + 1 := by omega
  have e2 : ((s.i : Int) + 1) < T.length := by omega
  rw [hpr s]
  simp (disch := first | assumption | omega | (simp only [List.length_append, List.length_cons, List.length_nil]; omega)) only [go_sem, reduceCtorEq, Nat.reduceEqDiff, Nat.reduceAdd, Nat.reduceLeDiff, ↓reduceIte, q1, hget, e1]
  refine allocC_by fun g hg => ?_
  obtain ⟨hbg, hdg, T3, S3⟩ := St3.of S2 (X0 := .obj _) hg
  have ab := S3.ab
  have k3 := S3.s3
  have k2 := S3.s2
  have k1 := S3.s1
  have w3 := S3.a3
  have w2 := S3.a2
  have w1 := S3.a1
  have hcg : c ≠ g := by
    rintro rfl
    rw [S2.other _ _ _ (Ne.symm hbc) hcd, hcσ] at hg
    cases hg
  have wc : ∀ X Y Z, T3 X Y Z c = some (.obj [.int .i64 tk.kind, .str tk.text, .int .i64 tk.at', .int .i64 tk.col]) := fun X Y Z => by rw [S3.other _ _ _ _ (Ne.symm hbc) hcd hcg]; exact hcσ
  have V3 : ∀ X Y Z, LV (T3 X Y Z) := fun X Y Z => S3.fix _ _ _ _ _ hVσ
  have hDr : ∀ X Y Z, Drop (T3 X Y Z) (σ.set b X) := fun X Y Z => (S3.drop _ _ _).trans (hDσ _)
  have w1' := fun Y Z => w1 (pr T s) Y Z
  rw [hpr s] at w1'
  simp (disch := first | assumption | omega | (simp only [List.length_append, List.length_cons, List.length_nil]; omega)) only [go_sem, Nat.reduceEqDiff, Nat.reduceAdd, Nat.reduceLeDiff, ↓reduceIte, Bool.true_and, ab, k3, w3, w1']
  rw [← hpr s]
  by_cases hop : tn.kind = 6 ∧ tn.text = [40]
  · rw [if_pos hop] at h
    obtain ⟨hp1, hp2⟩ := hop
    obtain ⟨g1, g2, g3⟩ := enter_err hT.ends hf he0
    have hen := fun Y Z => penter_ok (T := T) (s := s) hf.i ⟨hf.d0, by have := hf.d1; omega⟩ (w1 (pr T s) Y Z)
    have g4 := fun he => enter2 hT.ends hf (by rw [hct, hcur]; decide) he
    simp (disch := first | assumption | omega | (simp only [List.length_append, List.length_cons, List.length_nil]; omega)) only [go_sem, reduceCtorEq, Nat.reduceEqDiff, ↓reduceIte, hp1, hp2, w3]
    refine (hen _ _).mono ?_
    rintro v σ1 ⟨rfl, rfl⟩
    rw [k1]
    generalize hE : enterP T s = sE at *
    by_cases he : sE.err = 0
    · rw [if_neg (by simp [he])] at h
      cases h1 : argsP T f sE.next.next with
      | none => rw [h1] at h; cases h
      | some r1 =>
        rw [h1] at h
        injection h with h
        subst h
        obtain ⟨f1, f2, f3, f4⟩ := g4 he
        have hl2 := hge2 (by omega)
        have f5 : Fit T sE.next.next := ⟨by show sE.i + 1 + 1 < _; omega, f1.d0, f1.d1, f1.d2⟩
        have hw := (hwent f).args _ _ h1 f5
        have har := fun Y Z => (ih f (by omega)).args b _ r1 h1 f5 _ (V3 (pr T sE.next.next) Y Z) (w1 _ _ _)
        have hlv := fun Y Z => pleave_ok (T := T) (s := r1.2) ⟨hw.fit.d0, by have := hw.fit.d1; omega⟩ (w1 (pr T r1.2) Y Z)
        have hpn : some (Role.obj [.sl .shr (T.map tokAV), .int .i64 ((sE.i : Int) + 2), .int .i64 sE.deep, .int .i64 0, .int .i64 sE.bad]) = pr T sE.next.next := by
          rw [hpr]
          show _ = some (Role.obj [.sl .shr (T.map tokAV), .int .i64 (((sE.i + 1 + 1 : Nat)) : Int), .int .i64 sE.deep, .int .i64 sE.err, .int .i64 sE.bad])
          rw [he, show (((sE.i + 1 + 1 : Nat)) : Int) = (sE.i : Int) + 2 by omega]
        have v1 := fun Y Z => w1 (pr T sE) Y Z
        rw [hpr sE, he] at v1
        have hEi : (sE.i : Int) ≤ 1000000 := by omega
        obtain ⟨L, s1⟩ := r1
        dsimp only at har hlv ⊢
        rw [hpr sE, he]
        simp (disch := first | assumption | omega | (simp only [List.length_append, List.length_cons, List.length_nil]; omega)) only [go_sem, reduceCtorEq, Nat.reduceEqDiff, Nat.reduceAdd, Nat.reduceLeDiff, ↓reduceIte, Bool.true_and, v1, k1]
        rw [hpn]
        simp (disch := first | assumption | omega | (simp only [List.length_append, List.length_cons, List.length_nil]; omega)) only [go_sem, reduceCtorEq, ↓reduceIte, wc]
        refine (har _ _).mono ?_
        rintro v σ1 ⟨rfl, rfl⟩
        rw [k1]
        simp (disch := first | assumption | omega | (simp only [List.length_append, List.length_cons, List.length_nil]; omega)) only [go_sem, Nat.reduceEqDiff, Nat.reduceAdd, Nat.reduceLeDiff, ↓reduceIte, Bool.true_and, wc, w2, k2]
        refine (hlv _ _).mono ?_
        rintro v σ1 ⟨rfl, rfl⟩
        rw [k1]
        simp (disch := first | assumption | omega | (simp only [List.length_append, List.length_cons, List.length_nil]; omega)) only [go_sem, Nat.reduceAdd, Nat.reduceLeDiff, ↓reduceIte, w2]
        rw [Nd.av_cs]
        exact retC_by (hDr _ _ _) (fzN 22 0 tk.text .zero .zero _ _) ⟨rfl, rfl⟩
    · rw [if_pos he] at h
      injection h with h
      subst h
      have hlv := fun Y Z => pleave_ok (T := T) (s := sE) ⟨g1.d0, by have := g1.d1; omega⟩ (w1 (pr T sE) Y Z)
      have v1 : ∀ Y Z, T3 (pr T sE) Y Z b = some (.obj [.sl .shr (T.map tokAV), .int .i64 sE.i, .int .i64 sE.deep, .int .i64 sE.err, .int .i64 sE.bad]) := fun Y Z => w1 _ _ _
      simp (disch := first | assumption | omega | (simp only [List.length_append, List.length_cons, List.length_nil]; omega)) only [go_sem, reduceCtorEq, Nat.reduceEqDiff, Nat.reduceAdd, Nat.reduceLeDiff, ↓reduceIte, Bool.true_and, v1, he, w2, k2]
      refine (hlv _ _).mono ?_
      rintro v σ1 ⟨rfl, rfl⟩
      rw [k1]
      simp (disch := first | assumption | omega | (simp only [List.length_append, List.length_cons, List.length_nil]; omega)) only [go_sem, Nat.reduceAdd, Nat.reduceLeDiff, ↓reduceIte, w2]
      rw [zN_av]
      exact retC_by (hDr _ _ _) (fzN 0 0 [] .zero .zero _ _) ⟨rfl, rfl⟩
  · rw [if_neg hop] at h
    have hpn : some (Role.obj [.sl .shr (T.map tokAV), .int .i64 ((s.i : Int) + 1), .int .i64 s.deep, .int .i64 s.err, .int .i64 s.bad]) = pr T s.next := rfl
    have hfl := fun τ hh => pfail_ok (T := T) (s := s) hf.i 10 (σ := τ) (b := b) hh
    have rest : ∀ a1 : AFr, (a1 0 = .ptr b 0 ∧ a1 3 = .ptr c 0 ∧ a1 4 = .ptr d 0) → ACode.wp Tryz.prog c115_36 (RetQ [.c 4 (some 12)] fun v σ' => v = r.1.av ∧ σ' = σ.set b (pr T r.2)) a1 (T3 (pr T s) (some (.obj zero12)) (some (.obj [.int .i64 tn.kind, .str tn.text, .int .i64 tn.at', .int .i64 tn.col]))) := by
      intro a1 hf1
      unfold zero12
      simp (disch := first | assumption | omega | (simp only [List.length_append, List.length_cons, List.length_nil]; omega)) only [go_sem, Nat.reduceAdd, Nat.reduceLeDiff, ↓reduceIte]
      refine allocC_by fun e he => ?_
      obtain ⟨T4, S4⟩ := St4.of S3 (X0 := .obj _) he
      have ab4 := S4.ab
      have m1 := S4.s1
      have m2 := S4.s2
      have m4 := S4.s4
      have p1 := S4.a1
      have p2 := S4.a2
      have p4 := S4.a4
      have hce : c ≠ e := by rintro rfl; rw [wc] at he; cases he
      have pc : ∀ X Y Z W, T4 X Y Z W c = some (.obj [.int .i64 tk.kind, .str tk.text, .int .i64 tk.at', .int .i64 tk.col]) := fun X Y Z W => by rw [← ab4, ASt.set_ne hce]; exact wc _ _ _
      have hDr4 : ∀ X Y Z W, Drop (T4 X Y Z W) (σ.set b X) := fun X Y Z W => (S4.drop _ _ _ _).trans (hDσ _)
      have v1 := fun Y Z W => p1 (pr T s) Y Z W
      rw [hpr s] at v1
      by_cases t1 : tk.text = [84, 82, 85, 69]
      · rw [if_pos t1] at h
        injection h with h
        subst h
        rw [t1] at pc
        rw [hpr s]
        simp (disch := first | assumption | omega | (simp only [List.length_append, List.length_cons, List.length_nil]; omega)) only [go_sem, reduceCtorEq, Nat.reduceEqDiff, Nat.reduceAdd, Nat.reduceLeDiff, ↓reduceIte, Bool.true_and, hf1, ab4, m4, p4, pc, v1, m1]
        rw [hpn]
        simp (disch := first | assumption | omega | (simp only [List.length_append, List.length_cons, List.length_nil]; omega)) only [go_sem, Nat.reduceEqDiff, Nat.reduceAdd, Nat.reduceLeDiff, ↓reduceIte, Bool.true_and, hf1, p2, m2]
        rw [Nd.av_cs]
        exact retC_by (hDr4 _ _ _ _) (fzN 3 1 [] .zero .zero _ _) ⟨rfl, rfl⟩
      rw [if_neg t1] at h
      by_cases t2 : tk.text = [70, 65, 76, 83, 69]
      · rw [if_pos t2] at h
        injection h with h
        subst h
        have t3 : ¬ ([70, 65, 76, 83, 69] : List UInt8) = [84, 82, 85, 69] := by decide
        rw [hpr s]
        simp (disch := first | assumption | omega | (simp only [List.length_append, List.length_cons, List.length_nil]; omega)) only [go_sem, reduceCtorEq, Nat.reduceEqDiff, Nat.reduceAdd, Nat.reduceLeDiff, ↓reduceIte, Bool.true_and, hf1, ab4, m4, p4, pc, t2, t3, v1, m1]
        rw [hpn]
        simp (disch := first | assumption | omega | (simp only [List.length_append, List.length_cons, List.length_nil]; omega)) only [go_sem, Nat.reduceEqDiff, Nat.reduceAdd, Nat.reduceLeDiff, ↓reduceIte, Bool.true_and, hf1, p2, m2]
        rw [Nd.av_cs]
        exact retC_by (hDr4 _ _ _ _) (fzN 3 0 [] .zero .zero _ _) ⟨rfl, rfl⟩
      rw [if_neg t2] at h
      injection h with h
      subst h
      simp (disch := first | assumption | omega | (simp only [List.length_append, List.length_cons, List.length_nil]; omega)) only [go_sem, reduceCtorEq, Nat.reduceEqDiff, Nat.reduceAdd, Nat.reduceLeDiff, ↓reduceIte, Bool.true_and, hf1, ab4, m4, p4, pc, t1, t2]
      refine (hfl _ (p1 _ _ _ _)).mono ?_
      rintro v σ1 ⟨rfl, rfl⟩
      rw [m1, zN_av, zN_cells]
      simp (disch := first | assumption | omega | (simp only [List.length_append, List.length_cons, List.length_nil]; omega)) only [go_sem, Nat.reduceEqDiff, Nat.reduceAdd, Nat.reduceLeDiff, ↓reduceIte, Bool.true_and, hf1, p2, m2]
      exact retC_by (hDr4 _ _ _ _) (.refl _) ⟨rfl, rfl⟩
    obtain ⟨F, hF⟩ : ∃ F, F = ACode.wp Tryz.prog c115_36 := ⟨_, rfl⟩
    rw [← hF] at rest
    unfold zero12 at rest
    by_cases hp1 : tn.kind = 6
    · have hp2 : ¬ tn.text = [40] := fun h2 => hop ⟨hp1, h2⟩
      rw [hp1] at rest
      simp (disch := first | assumption | omega | (simp only [List.length_append, List.length_cons, List.length_nil]; omega)) only [go_sem, Nat.reduceEqDiff, ↓reduceIte, w3, hp1, hp2, ←hF]
      refine rest _ ?_
      simp (disch := first | assumption | omega | (simp only [List.length_append, List.length_cons, List.length_nil]; omega)) only [go_sem, reduceCtorEq, Nat.reduceEqDiff, ↓reduceIte]
    · simp (disch := first | assumption | omega | (simp only [List.length_append, List.length_cons, List.length_nil]; omega)) only [go_sem, Nat.reduceEqDiff, ↓reduceIte, hp1, ←hF]
      refine rest _ ?_
      simp (disch := first | assumption | omega | (simp only [List.length_append, List.length_cons, List.length_nil]; omega)) only [go_sem, reduceCtorEq, Nat.reduceEqDiff, ↓reduceIte]
end Go.A
namespace Go.A
open Go.Proofs
/-! 95: (*tabular/parse.parser).primary -/
def c95_0 : ACode := .ops [
 ⟨some 2, none, .e (.alloc [(.int .i64 0), (.int .i64 0), (.str []), (.int .i64 0), (.int .i64 0), (.bool false), (.bool false), (.int .i64 0), (.int .i64 0), (.bool false), (.bool false), (.sl .full [])]), []⟩]
def c95_1 : ACode := .ops [
 ⟨some 7, none, .q (.mv (.t 0)), []⟩,
 ⟨some 8, none, .e (.call 29 [(.t 7)]), []⟩,
 ⟨some 3, none, .e (.alloc [(.int .i64 0), (.str []), (.int .i64 0), (.int .i64 0)]), []⟩,
 ⟨none, none, .e (.store 4 (.t 3) (.t 8)), []⟩]
def c95_2 : ACode := .ops [
 ⟨some 9, none, .q (.fa 0 (.t 3)), []⟩,
 ⟨some 10, none, .q (.ld none (.t 9)), []⟩]
def c95_3 : ACode := .ops [
 ⟨some 12, none, .q (.bin .eql (.t 10) (.v (.int .i64 1))), []⟩,
 ⟨some 11, none, .q (.mv (.t 12)), []⟩]
def c95_4 : ACode := .ops [
 ⟨some 14, none, .q (.fa 1 (.t 3)), []⟩,
 ⟨some 15, none, .q (.ld none (.t 14)), []⟩,
 ⟨some 16, none, .e (.call 113 [(.t 15)]), []⟩,
 ⟨some 13, none, .q (.mv (.t 16)), []⟩,
 ⟨some 17, none, .q (.ext 0 (.t 13)), []⟩,
 ⟨some 18, none, .q (.ext 1 (.t 13)), []⟩,
 ⟨some 4, none, .q (.mv (.t 17)), []⟩,
 ⟨some 5, none, .q (.mv (.t 18)), []⟩]
def c95_5 : ACode := .ops [
 ⟨some 19, none, .q (.mv (.t 5)), []⟩,
 ⟨some 20, none, .q (.un .not (.t 19)), []⟩]
def c95_6 : ACode := .ops [
 ⟨some 21, none, .q (.mv (.t 0)), []⟩,
 ⟨some 22, none, .e (.call 30 [(.t 21), (.v (.int .i64 10))]), []⟩,
 ⟨none, none, .e (.store 12 (.t 2) (.t 22)), []⟩]
def c95_7 : ACode := .seq c95_6 .ret
def c95_8 : ACode := .cond (.t 20) c95_7 .skip
def c95_9 : ACode := .seq c95_5 c95_8
def c95_10 : ACode := .ops [
 ⟨some 23, none, .q (.mv (.t 0)), []⟩,
 ⟨some 24, none, .q (.nc (.t 23)), []⟩,
 ⟨some 25, none, .q (.fa 1 (.t 24)), []⟩,
 ⟨some 26, none, .q (.ld none (.t 25)), []⟩,
 ⟨some 27, none, .q (.bin .add (.t 26) (.v (.int .i64 1))), []⟩,
 ⟨some 28, none, .q (.nc (.t 23)), []⟩,
 ⟨some 29, none, .q (.fa 1 (.t 28)), []⟩,
 ⟨none, none, .e (.store 1 (.t 29) (.t 27)), []⟩]
def c95_11 : ACode := .ops [
 ⟨some 30, none, .q (.mv (.t 4)), []⟩,
 ⟨some 31, none, .q (.build [(.int .i64 0), (.int .i64 0), (.str []), (.int .i64 0), (.int .i64 0), (.bool false), (.bool false), (.int .i64 0), (.int .i64 0), (.bool false), (.bool false), (.sl .full [])] [(0, 1, (.v (.int .i64 1))), (1, 1, (.t 30))]), []⟩,
 ⟨none, none, .e (.store 12 (.t 2) (.t 31)), []⟩]
def c95_12 : ACode := .seq c95_11 .ret
def c95_13 : ACode := .seq c95_10 c95_12
def c95_14 : ACode := .seq c95_9 c95_13
def c95_15 : ACode := .seq c95_4 c95_14
def c95_16 : ACode := .ops [
 ⟨some 33, none, .q (.bin .eql (.t 10) (.v (.int .i64 2))), []⟩,
 ⟨some 32, none, .q (.mv (.t 33)), []⟩]
def c95_17 : ACode := .ops [
 ⟨some 34, none, .q (.mv (.t 0)), []⟩,
 ⟨some 35, none, .q (.nc (.t 34)), []⟩,
 ⟨some 36, none, .q (.fa 1 (.t 35)), []⟩,
 ⟨some 37, none, .q (.ld none (.t 36)), []⟩,
 ⟨some 38, none, .q (.bin .add (.t 37) (.v (.int .i64 1))), []⟩,
 ⟨some 39, none, .q (.nc (.t 34)), []⟩,
 ⟨some 40, none, .q (.fa 1 (.t 39)), []⟩,
 ⟨none, none, .e (.store 1 (.t 40) (.t 38)), []⟩]
def c95_18 : ACode := .ops [
 ⟨some 41, none, .q (.fa 1 (.t 3)), []⟩,
 ⟨some 42, none, .q (.ld none (.t 41)), []⟩,
 ⟨some 43, none, .q (.build [(.int .i64 0), (.int .i64 0), (.str []), (.int .i64 0), (.int .i64 0), (.bool false), (.bool false), (.int .i64 0), (.int .i64 0), (.bool false), (.bool false), (.sl .full [])] [(0, 1, (.v (.int .i64 2))), (2, 1, (.t 42))]), []⟩,
 ⟨none, none, .e (.store 12 (.t 2) (.t 43)), []⟩]
def c95_19 : ACode := .seq c95_18 .ret
def c95_20 : ACode := .seq c95_17 c95_19
def c95_21 : ACode := .ops [
 ⟨some 45, none, .q (.bin .eql (.t 10) (.v (.int .i64 5))), []⟩,
 ⟨some 44, none, .q (.mv (.t 45)), []⟩]
def c95_22 : ACode := .ops [
 ⟨some 46, none, .q (.mv (.t 0)), []⟩,
 ⟨some 47, none, .q (.nc (.t 46)), []⟩,
 ⟨some 48, none, .q (.fa 1 (.t 47)), []⟩,
 ⟨some 49, none, .q (.ld none (.t 48)), []⟩,
 ⟨some 50, none, .q (.bin .add (.t 49) (.v (.int .i64 1))), []⟩,
 ⟨some 51, none, .q (.nc (.t 46)), []⟩,
 ⟨some 52, none, .q (.fa 1 (.t 51)), []⟩,
 ⟨none, none, .e (.store 1 (.t 52) (.t 50)), []⟩]
def c95_23 : ACode := .ops [
 ⟨some 54, none, .q (.fa 1 (.t 3)), []⟩,
 ⟨some 55, none, .q (.ld none (.t 54)), []⟩,
 ⟨some 53, none, .e (.call 91 []), [⟨none, .ld none (.t 54), 55⟩]⟩,
 ⟨some 56, none, .e (.call 50 [(.t 53), (.t 55)]), []⟩,
 ⟨some 57, none, .q (.bin .add (.t 56) (.v (.int .i64 1))), []⟩,
 ⟨some 58, none, .q (.bin .mul (.t 57) (.v (.int .i64 10000))), []⟩,
 ⟨some 59, none, .q (.build [(.int .i64 0), (.int .i64 0), (.str []), (.int .i64 0), (.int .i64 0), (.bool false), (.bool false), (.int .i64 0), (.int .i64 0), (.bool false), (.bool false), (.sl .full [])] [(0, 1, (.v (.int .i64 4))), (1, 1, (.t 58))]), []⟩,
 ⟨none, none, .e (.store 12 (.t 2) (.t 59)), []⟩]
def c95_24 : ACode := .seq c95_23 .ret
def c95_25 : ACode := .seq c95_22 c95_24
def c95_26 : ACode := .ops [
 ⟨some 61, none, .q (.bin .eql (.t 10) (.v (.int .i64 4))), []⟩,
 ⟨some 60, none, .q (.mv (.t 61)), []⟩]
def c95_27 : ACode := .ops [
 ⟨some 62, none, .q (.mv (.t 0)), []⟩,
 ⟨some 63, none, .e (.call 114 [(.t 62)]), []⟩,
 ⟨none, none, .e (.store 12 (.t 2) (.t 63)), []⟩]
def c95_28 : ACode := .seq c95_27 .ret
def c95_29 : ACode := .ops [
 ⟨some 65, none, .q (.bin .eql (.t 10) (.v (.int .i64 3))), []⟩,
 ⟨some 64, none, .q (.mv (.t 65)), []⟩]
def c95_30 : ACode := .ops [
 ⟨some 66, none, .q (.mv (.t 0)), []⟩,
 ⟨some 67, none, .q (.ld (some 4) (.t 3)), []⟩,
 ⟨some 68, none, .e (.call 115 [(.t 66), (.t 67)]), []⟩,
 ⟨none, none, .e (.store 12 (.t 2) (.t 68)), []⟩]
def c95_31 : ACode := .seq c95_30 .ret
def c95_32 : ACode := .cond (.t 64) c95_31 .skip
def c95_33 : ACode := .seq c95_29 c95_32
def c95_34 : ACode := .cond (.t 60) c95_28 c95_33
def c95_35 : ACode := .seq c95_26 c95_34
def c95_36 : ACode := .cond (.t 44) c95_25 c95_35
def c95_37 : ACode := .seq c95_21 c95_36
def c95_38 : ACode := .cond (.t 32) c95_20 c95_37
def c95_39 : ACode := .seq c95_16 c95_38
def c95_40 : ACode := .cond (.t 11) c95_15 c95_39
def c95_41 : ACode := .seq c95_3 c95_40
def c95_42 : ACode := .block 0 c95_41
def c95_43 : ACode := .seq c95_2 c95_42
def c95_44 : ACode := .seq c95_1 c95_43
def c95_45 : ACode := .ops [
 ⟨some 69, none, .q (.mv (.t 0)), []⟩,
 ⟨some 70, none, .e (.call 68 [(.t 69), (.v (.str [40]))]), []⟩,
 ⟨some 71, none, .q (.un .not (.t 70)), []⟩]
def c95_46 : ACode := .ops [
 ⟨some 72, none, .q (.mv (.t 0)), []⟩,
 ⟨some 73, none, .e (.call 30 [(.t 72), (.v (.int .i64 10))]), []⟩,
 ⟨none, none, .e (.store 12 (.t 2) (.t 73)), []⟩]
def c95_47 : ACode := .seq c95_46 .ret
def c95_48 : ACode := .cond (.t 71) c95_47 .skip
def c95_49 : ACode := .seq c95_45 c95_48
def c95_50 : ACode := .ops [
 ⟨some 74, none, .q (.mv (.t 0)), []⟩,
 ⟨some 75, none, .e (.call 70 [(.t 74)]), []⟩]
def c95_51 : ACode := .ops [
 ⟨some 77, none, .q (.mv (.t 0)), []⟩,
 ⟨some 78, none, .q (.nc (.t 77)), []⟩,
 ⟨some 79, none, .q (.fa 3 (.t 78)), []⟩,
 ⟨some 80, none, .q (.ld none (.t 79)), []⟩,
 ⟨some 81, none, .q (.bin .eql (.t 80) (.v (.int .i64 0))), []⟩]
def c95_52 : ACode := .ops [
 ⟨some 82, none, .q (.mv (.t 0)), []⟩,
 ⟨some 83, none, .q (.nc (.t 82)), []⟩,
 ⟨some 84, none, .q (.fa 1 (.t 83)), []⟩,
 ⟨some 85, none, .q (.ld none (.t 84)), []⟩,
 ⟨some 86, none, .q (.bin .add (.t 85) (.v (.int .i64 1))), []⟩,
 ⟨some 87, none, .q (.nc (.t 82)), []⟩,
 ⟨some 88, none, .q (.fa 1 (.t 87)), []⟩,
 ⟨none, none, .e (.store 1 (.t 88) (.t 86)), []⟩]
def c95_53 : ACode := .cond (.t 81) c95_52 .skip
def c95_54 : ACode := .seq c95_51 c95_53
def c95_55 : ACode := .ops [
 ⟨some 89, none, .q (.mv (.t 0)), []⟩,
 ⟨some 90, none, .e (.call 28 [(.t 89), (.v (.int .i64 0))]), []⟩,
 ⟨some 6, none, .e (.alloc [(.int .i64 0), (.int .i64 0), (.str []), (.int .i64 0), (.int .i64 0), (.bool false), (.bool false), (.int .i64 0), (.int .i64 0), (.bool false), (.bool false), (.sl .full [])]), []⟩,
 ⟨none, none, .e (.store 12 (.t 6) (.t 90)), []⟩]
def c95_56 : ACode := .ops [
 ⟨some 91, none, .q (.mv (.t 0)), []⟩,
 ⟨some 92, none, .e (.call 116 [(.t 91), (.v (.str [41]))]), []⟩]
def c95_57 : ACode := .ops [
 ⟨some 93, none, .q (.ld (some 12) (.t 6)), []⟩,
 ⟨none, none, .e (.store 12 (.t 2) (.t 93)), []⟩]
def c95_58 : ACode := .seq c95_57 .ret
def c95_59 : ACode := .seq c95_56 c95_58
def c95_60 : ACode := .seq c95_55 c95_59
def c95_61 : ACode := .seq c95_54 c95_60
def c95_62 : ACode := .dfr 71 (.t 0) 76 c95_61
def c95_63 : ACode := .seq c95_50 c95_62
def c95_64 : ACode := .seq c95_49 c95_63
def c95_65 : ACode := .seq c95_44 c95_64
def c95_66 : ACode := .seq c95_0 c95_65
@[go_sem] theorem c95_0_wp : type_of% (wp_of c95_0.eq_1) := wp_of c95_0.eq_1
@[go_sem] theorem c95_1_wp : type_of% (wp_of c95_1.eq_1) := wp_of c95_1.eq_1
@[go_sem] theorem c95_2_wp : type_of% (wp_of c95_2.eq_1) := wp_of c95_2.eq_1
@[go_sem] theorem c95_3_wp : type_of% (wp_of c95_3.eq_1) := wp_of c95_3.eq_1
@[go_sem] theorem c95_4_wp : type_of% (wp_of c95_4.eq_1) := wp_of c95_4.eq_1
@[go_sem] theorem c95_5_wp : type_of% (wp_of c95_5.eq_1) := wp_of c95_5.eq_1
@[go_sem] theorem c95_6_wp : type_of% (wp_of c95_6.eq_1) := wp_of c95_6.eq_1
@[go_sem] theorem c95_7_wp : type_of% (wp_of c95_7.eq_1) := wp_of c95_7.eq_1
@[go_sem] theorem c95_8_wp : type_of% (wp_of c95_8.eq_1) := wp_of c95_8.eq_1
@[go_sem] theorem c95_9_wp : type_of% (wp_of c95_9.eq_1) := wp_of c95_9.eq_1
@[go_sem] theorem c95_10_wp : type_of% (wp_of c95_10.eq_1) := wp_of c95_10.eq_1
@[go_sem] theorem c95_11_wp : type_of% (wp_of c95_11.eq_1) := wp_of c95_11.eq_1
@[go_sem] theorem c95_12_wp : type_of% (wp_of c95_12.eq_1) := wp_of c95_12.eq_1
@[go_sem] theorem c95_13_wp : type_of% (wp_of c95_13.eq_1) := wp_of c95_13.eq_1
@[go_sem] theorem c95_14_wp : type_of% (wp_of c95_14.eq_1) := wp_of c95_14.eq_1
@[go_sem] theorem c95_15_wp : type_of% (wp_of c95_15.eq_1) := wp_of c95_15.eq_1
@[go_sem] theorem c95_16_wp : type_of% (wp_of c95_16.eq_1) := wp_of c95_16.eq_1
@[go_sem] theorem c95_17_wp : type_of% (wp_of c95_17.eq_1) := wp_of c95_17.eq_1
@[go_sem] theorem c95_18_wp : type_of% (wp_of c95_18.eq_1) := wp_of c95_18.eq_1
@[go_sem] theorem c95_19_wp : type_of% (wp_of c95_19.eq_1) := wp_of c95_19.eq_1
@[go_sem] theorem c95_20_wp : type_of% (wp_of c95_20.eq_1) := wp_of c95_20.eq_1
@[go_sem] theorem c95_21_wp : type_of% (wp_of c95_21.eq_1) := wp_of c95_21.eq_1
@[go_sem] theorem c95_22_wp : type_of% (wp_of c95_22.eq_1) := wp_of c95_22.eq_1
@[go_sem] theorem c95_23_wp : type_of% (wp_of c95_23.eq_1) := wp_of c95_23.eq_1
@[go_sem] theorem c95_24_wp : type_of% (wp_of c95_24.eq_1) := wp_of c95_24.eq_1
@[go_sem] theorem c95_25_wp : type_of% (wp_of c95_25.eq_1) := wp_of c95_25.eq_1
@[go_sem] theorem c95_26_wp : type_of% (wp_of c95_26.eq_1) := wp_of c95_26.eq_1
@[go_sem] theorem c95_27_wp : type_of% (wp_of c95_27.eq_1) := wp_of c95_27.eq_1
@[go_sem] theorem c95_28_wp : type_of% (wp_of c95_28.eq_1) := wp_of c95_28.eq_1
@[go_sem] theorem c95_29_wp : type_of% (wp_of c95_29.eq_1) := wp_of c95_29.eq_1
@[go_sem] theorem c95_30_wp : type_of% (wp_of c95_30.eq_1) := wp_of c95_30.eq_1
@[go_sem] theorem c95_31_wp : type_of% (wp_of c95_31.eq_1) := wp_of c95_31.eq_1
@[go_sem] theorem c95_32_wp : type_of% (wp_of c95_32.eq_1) := wp_of c95_32.eq_1
@[go_sem] theorem c95_33_wp : type_of% (wp_of c95_33.eq_1) := wp_of c95_33.eq_1
@[go_sem] theorem c95_34_wp : type_of% (wp_of c95_34.eq_1) := wp_of c95_34.eq_1
@[go_sem] theorem c95_35_wp : type_of% (wp_of c95_35.eq_1) := wp_of c95_35.eq_1
@[go_sem] theorem c95_36_wp : type_of% (wp_of c95_36.eq_1) := wp_of c95_36.eq_1
@[go_sem] theorem c95_37_wp : type_of% (wp_of c95_37.eq_1) := wp_of c95_37.eq_1
@[go_sem] theorem c95_38_wp : type_of% (wp_of c95_38.eq_1) := wp_of c95_38.eq_1
@[go_sem] theorem c95_39_wp : type_of% (wp_of c95_39.eq_1) := wp_of c95_39.eq_1
@[go_sem] theorem c95_40_wp : type_of% (wp_of c95_40.eq_1) := wp_of c95_40.eq_1
@[go_sem] theorem c95_41_wp : type_of% (wp_of c95_41.eq_1) := wp_of c95_41.eq_1
@[go_sem] theorem c95_42_wp : type_of% (wp_of c95_42.eq_1) := wp_of c95_42.eq_1
@[go_sem] theorem c95_43_wp : type_of% (wp_of c95_43.eq_1) := wp_of c95_43.eq_1
@[go_sem] theorem c95_44_wp : type_of% (wp_of c95_44.eq_1) := wp_of c95_44.eq_1
@[go_sem] theorem c95_45_wp : type_of% (wp_of c95_45.eq_1) := wp_of c95_45.eq_1
@[go_sem] theorem c95_46_wp : type_of% (wp_of c95_46.eq_1) := wp_of c95_46.eq_1
@[go_sem] theorem c95_47_wp : type_of% (wp_of c95_47.eq_1) := wp_of c95_47.eq_1
@[go_sem] theorem c95_48_wp : type_of% (wp_of c95_48.eq_1) := wp_of c95_48.eq_1
@[go_sem] theorem c95_49_wp : type_of% (wp_of c95_49.eq_1) := wp_of c95_49.eq_1
@[go_sem] theorem c95_50_wp : type_of% (wp_of c95_50.eq_1) := wp_of c95_50.eq_1
@[go_sem] theorem c95_51_wp : type_of% (wp_of c95_51.eq_1) := wp_of c95_51.eq_1
@[go_sem] theorem c95_52_wp : type_of% (wp_of c95_52.eq_1) := wp_of c95_52.eq_1
@[go_sem] theorem c95_53_wp : type_of% (wp_of c95_53.eq_1) := wp_of c95_53.eq_1
@[go_sem] theorem c95_54_wp : type_of% (wp_of c95_54.eq_1) := wp_of c95_54.eq_1
@[go_sem] theorem c95_55_wp : type_of% (wp_of c95_55.eq_1) := wp_of c95_55.eq_1
@[go_sem] theorem c95_56_wp : type_of% (wp_of c95_56.eq_1) := wp_of c95_56.eq_1
@[go_sem] theorem c95_57_wp : type_of% (wp_of c95_57.eq_1) := wp_of c95_57.eq_1
@[go_sem] theorem c95_58_wp : type_of% (wp_of c95_58.eq_1) := wp_of c95_58.eq_1
@[go_sem] theorem c95_59_wp : type_of% (wp_of c95_59.eq_1) := wp_of c95_59.eq_1
@[go_sem] theorem c95_60_wp : type_of% (wp_of c95_60.eq_1) := wp_of c95_60.eq_1
@[go_sem] theorem c95_61_wp : type_of% (wp_of c95_61.eq_1) := wp_of c95_61.eq_1
@[go_sem] theorem c95_62_wp : type_of% (wp_of c95_62.eq_1) := wp_of c95_62.eq_1
@[go_sem] theorem c95_63_wp : type_of% (wp_of c95_63.eq_1) := wp_of c95_63.eq_1
@[go_sem] theorem c95_64_wp : type_of% (wp_of c95_64.eq_1) := wp_of c95_64.eq_1
@[go_sem] theorem c95_65_wp : type_of% (wp_of c95_65.eq_1) := wp_of c95_65.eq_1
@[go_sem] theorem c95_66_wp : type_of% (wp_of c95_66.eq_1) := wp_of c95_66.eq_1
def c95 : AFn := ⟨94, [.c 2 (some 12)], c95_66⟩
set_option maxRecDepth 100000 in
theorem c95_ok : compF Tryz.prog Tryz.f95 = some c95 := by kernel_rfl
theorem a95 {args : List AV} {σ : ASt} {R : AV → ASt → Prop} (hl : args.length ≤ 94) (h : c95_66.wp Tryz.prog (RetQ [.c 2 (some 12)] R) (init args) σ) : ACalls Tryz.prog 95 args σ R := acalls_of Tryz.func95 c95_ok hl h
end Go.A
namespace Go.A
open Go.Proofs Go.Lib
set_option maxRecDepth 100000
set_option linter.unusedSimpArgs false
set_option linter.unusedVariables false
set_option maxHeartbeats 8000000 in
theorem prim_walk {T : List Tok} (hT : TokOk T) (f : Nat) (ih : ∀ f', f' < f + 1 → WalkF T f') (b : Nat) (s : PSt) (r : Nd × PSt) (h : primP T (f + 1) s = some r) (hf : Fit T s) (σ : ASt) (hV : LV σ) (hb : σ b = pr T s) :
    ACalls Tryz.prog 95 [.ptr b 0] σ fun v σ' => v = r.1.av ∧ σ' = σ.set b (pr T r.2) := by
  rw [primP] at h
  have hwent := wentF hT.ends
  have hlen := hT.len
  have hil := hf.i
  have hpr : ∀ x : PSt, pr T x = some (.obj [.sl .shr (T.map tokAV), .int .i64 x.i, .int .i64 x.deep, .int .i64 x.err, .int .i64 x.bad]) := fun x => rfl
  have hpn : some (Role.obj [.sl .shr (T.map tokAV), .int .i64 ((s.i : Int) + 1), .int .i64 s.deep, .int .i64 s.err, .int .i64 s.bad]) = pr T s.next := rfl
  have htx := hT.cur s
  have hD := dparse_ok (curT T s).text htx
  have hE := tenames_ok
  have hix := strindex_ok errL (curT T s).text (by decide)
  have hrg := idxS_rng (curT T s).text errL 0
  have hel : errL.length = 7 := rfl
  have hidx : idxP errL (curT T s).text = idxS (curT T s).text errL 0 := rfl
  have hAr := fun hk τ hh => area_walk hT b s hf hk τ hh
  have hNa := fun hk r hr τ hv hh => (ih f (by omega)).name b s r hr hf hk τ hv hh
  refine a95 (by simp) ?_
  simp (disch := first | assumption | omega | (simp only [List.length_append, List.length_cons, List.length_nil]; omega)) only [go_sem]
  refine allocC_by fun d hd => ?_
  obtain ⟨hbd, T2, S2⟩ := St2.of hd (pr_fix hb).1 (pr_fix hb).2
  rw [S2.one, hb]
  have q1 := S2.a1
  have hcu := fun X => pcur_ok (T := T) hf.i (q1 (pr T s) X)
  have htv : tokAV (curT T s) = .agg [.int .i64 (curT T s).kind, .str (curT T s).text, .int .i64 (curT T s).at', .int .i64 (curT T s).col] := rfl
  rw [htv] at hcu
  rw [htv] at hNa
  generalize hct : curT T s = tk at *
  simp (disch := first | assumption | omega | (simp only [List.length_append, List.length_cons, List.length_nil]; omega)) only [go_sem, reduceCtorEq, ↓reduceIte]
  refine (hcu _).mono ?_
  rintro v σ1 ⟨rfl, rfl⟩
  simp (disch := first | assumption | omega | (simp only [List.length_append, List.length_cons, List.length_nil]; omega)) only [go_sem]
  refine allocC_by fun e he => ?_
  obtain ⟨hbe, hde, T3, S3⟩ := St3.of S2 (X0 := .obj _) he
  have ab := S3.ab
  have k3 := S3.s3
  have k2 := S3.s2
  have k1 := S3.s1
  have w3 := S3.a3
  have w2 := S3.a2
  have w1 := S3.a1
  have V3 : ∀ X Y Z, LV (T3 X Y Z) := fun X Y Z => S3.fix _ _ _ _ _ hV
  have hDr := S3.drop
  have v1 := fun Y Z => w1 (pr T s) Y Z
  rw [hpr s] at v1
  have hfl := fun τ hh => pfail_ok (T := T) (s := s) hf.i 10 (σ := τ) (b := b) hh
  obtain ⟨F, hF⟩ : ∃ F, F = ACode.wp Tryz.prog c95_64 := ⟨_, rfl⟩
  simp (disch := first | assumption | omega | (simp only [List.length_append, List.length_cons, List.length_nil]; omega)) only [go_sem, Nat.reduceEqDiff, Nat.reduceAdd, Nat.reduceLeDiff, ↓reduceIte, Bool.true_and, ab, k3, w3, ←hF]
  by_cases c1 : tk.kind = 1
  · rw [if_pos c1] at h
    cases hp : parseD tk.text with
    | none =>
      rw [hp] at h hD
      injection h with h
      subst h
      have hD' : Pure Tryz.prog 113 [.str tk.text] (.tuple [.int .i64 0, .bool false]) := hD
      simp (disch := first | assumption | omega | (simp only [List.length_append, List.length_cons, List.length_nil]; omega)) only [go_sem, Nat.reduceEqDiff, ↓reduceIte, c1, w3]
      refine hD'.use ?_
      simp (disch := first | assumption | omega | (simp only [List.length_append, List.length_cons, List.length_nil]; omega)) only [go_sem, reduceCtorEq, Nat.reduceEqDiff, ↓reduceIte]
      refine (hfl _ (w1 _ _ _)).mono ?_
      rintro v σ1 ⟨rfl, rfl⟩
      rw [k1, zN_av, zN_cells]
      simp (disch := first | assumption | omega | (simp only [List.length_append, List.length_cons, List.length_nil]; omega)) only [go_sem, Nat.reduceEqDiff, Nat.reduceAdd, Nat.reduceLeDiff, ↓reduceIte, Bool.true_and, w2, k2]
      exact retC_by (hDr _ _ _) (.refl _) ⟨rfl, rfl⟩
    | some v =>
      rw [hp] at h hD
      injection h with h
      subst h
      have hD' : Pure Tryz.prog 113 [.str tk.text] (.tuple [.int .i64 v, .bool true]) := hD
      simp (disch := first | assumption | omega | (simp only [List.length_append, List.length_cons, List.length_nil]; omega)) only [go_sem, Nat.reduceEqDiff, ↓reduceIte, c1, w3]
      refine hD'.use ?_
      rw [hpr s]
      simp (disch := first | assumption | omega | (simp only [List.length_append, List.length_cons, List.length_nil]; omega)) only [go_sem, reduceCtorEq, Nat.reduceEqDiff, Nat.reduceAdd, Nat.reduceLeDiff, ↓reduceIte, Bool.true_and, v1, k1]
      rw [hpn]
      simp (disch := first | assumption | omega | (simp only [List.length_append, List.length_cons, List.length_nil]; omega)) only [go_sem, Nat.reduceEqDiff, Nat.reduceAdd, Nat.reduceLeDiff, ↓reduceIte, Bool.true_and, w2, k2]
      rw [Nd.av_cs]
      exact retC_by (hDr _ _ _) (fzN 1 v [] .zero .zero _ _) ⟨rfl, rfl⟩
  rw [if_neg c1] at h
  by_cases c2 : tk.kind = 2
  · rw [if_pos c2] at h
    injection h with h
    subst h
    rw [hpr s]
    simp (disch := first | assumption | omega | (simp only [List.length_append, List.length_cons, List.length_nil]; omega)) only [go_sem, reduceCtorEq, Nat.reduceEqDiff, Nat.reduceAdd, Nat.reduceLeDiff, Int.reduceEq, ↓reduceIte, Bool.true_and, c2, w3, v1, k1]
    rw [hpn]
    simp (disch := first | assumption | omega | (simp only [List.length_append, List.length_cons, List.length_nil]; omega)) only [go_sem, Nat.reduceEqDiff, Nat.reduceAdd, Nat.reduceLeDiff, ↓reduceIte, Bool.true_and, w2, k2]
    rw [Nd.av_cs]
    exact retC_by (hDr _ _ _) (fzN 2 0 tk.text .zero .zero _ _) ⟨rfl, rfl⟩
  rw [if_neg c2] at h
  by_cases c5 : tk.kind = 5
  · rw [if_pos c5] at h
    injection h with h
    subst h
    rw [hidx] at hix ⊢
    generalize idxS tk.text errL 0 = q at *
    rw [hpr s]
    simp (disch := first | assumption | omega | (simp only [List.length_append, List.length_cons, List.length_nil]; omega)) only [go_sem, reduceCtorEq, Nat.reduceEqDiff, Nat.reduceAdd, Nat.reduceLeDiff, Int.reduceEq, ↓reduceIte, Bool.true_and, c5, w3, v1, k1]
    rw [hpn]
    refine hE.use ?_
    simp (disch := first | assumption | omega | (simp only [List.length_append, List.length_cons, List.length_nil]; omega)) only [go_sem, Nat.reduceEqDiff, ↓reduceIte, w3]
    refine hix.use ?_
    simp (disch := first | assumption | omega | (simp only [List.length_append, List.length_cons, List.length_nil]; omega)) only [go_sem, Nat.reduceEqDiff, Nat.reduceAdd, Nat.reduceLeDiff, ↓reduceIte, Bool.true_and, w2, k2]
    rw [Nd.av_cs]
    exact retC_by (hDr _ _ _) (fzN 4 ((q + 1) * 10000) [] .zero .zero _ _) ⟨rfl, rfl⟩
  rw [if_neg c5] at h
  by_cases c4 : tk.kind = 4
  · rw [if_pos c4] at h
    injection h with h
    subst h
    have hA := fun Y Z => hAr c4 _ (w1 (pr T s) Y Z)
    clear hAr hNa
    generalize areaP T s = RA at *
    obtain ⟨n, s'⟩ := RA
    dsimp only at hA ⊢
    obtain ⟨o, m, t, x, y, ks⟩ := n
    simp only [Nd.av_cs] at hA ⊢
    generalize ks.map Nd.av = KL at *
    simp (disch := first | assumption | omega | (simp only [List.length_append, List.length_cons, List.length_nil]; omega)) only [go_sem, reduceCtorEq, Nat.reduceEqDiff, Int.reduceEq, ↓reduceIte, c4]
    refine (hA _ _).mono ?_
    rintro v σ1 ⟨rfl, rfl⟩
    rw [k1]
    simp (disch := first | assumption | omega | (simp only [List.length_append, List.length_cons, List.length_nil]; omega)) only [go_sem, Nat.reduceEqDiff, Nat.reduceAdd, Nat.reduceLeDiff, ↓reduceIte, w2, k2]
    exact retC_by (hDr _ _ _) (.refl _) ⟨rfl, rfl⟩
  rw [if_neg c4] at h
  by_cases c3 : tk.kind = 3
  · rw [if_pos c3] at h
    have hA := fun Y Z => hNa c3 r h _ (V3 (pr T s) Y Z) (w1 _ _ _)
    obtain ⟨n, s'⟩ := r
    dsimp only at hA ⊢
    obtain ⟨o, m, t, x, y, ks⟩ := n
    simp only [Nd.av_cs] at hA ⊢
    generalize ks.map Nd.av = KL at *
    rw [c3] at hA
    simp (disch := first | assumption | omega | (simp only [List.length_append, List.length_cons, List.length_nil]; omega)) only [go_sem, reduceCtorEq, Nat.reduceEqDiff, Nat.reduceAdd, Nat.reduceLeDiff, Int.reduceEq, ↓reduceIte, c3, w3]
    refine (hA _ _).mono ?_
    rintro v σ1 ⟨rfl, rfl⟩
    rw [k1]
    simp (disch := first | assumption | omega | (simp only [List.length_append, List.length_cons, List.length_nil]; omega)) only [go_sem, Nat.reduceEqDiff, Nat.reduceAdd, Nat.reduceLeDiff, ↓reduceIte, w2, k2]
    exact retC_by (hDr _ _ _) (.refl _) ⟨rfl, rfl⟩
  rw [if_neg c3] at h
  simp (disch := first | assumption | omega | (simp only [List.length_append, List.length_cons, List.length_nil]; omega)) only [go_sem, Nat.reduceEqDiff, ↓reduceIte, c1, c2, c5, c4, c3]
  rw [hF]
  have hat := fun Y Z => pat_ok hf.i [40] (w1 (pr T s) Y Z)
  simp (disch := first | assumption | omega | (simp only [List.length_append, List.length_cons, List.length_nil]; omega)) only [go_sem, reduceCtorEq, ↓reduceIte]
  refine (hat _ _).mono ?_
  rintro v σ1 ⟨rfl, rfl⟩
  by_cases hop : isOp T s [40] = true
  · rw [if_pos hop] at h
    rw [hop]
    cases h1 : betwP T f 0 (stepP1 (enterP T s)) with
    | none => rw [h1] at h; cases h
    | some r1 =>
      rw [h1] at h
      injection h with h
      subst h
      have hk := isOp_kind hop
      have he0 := cur_err hk
      obtain ⟨e1, e2, e3⟩ := enter_err hT.ends hf he0
      obtain ⟨g1, g2, g3⟩ := enter_fit hT.ends hf hk
      have hw := (hwent f).betw _ _ _ h1 g1
      have hwm := Went.must hT.ends hw.fit [41]
      have hen := fun Y Z => penter_ok (T := T) (s := s) hf.i ⟨hf.d0, by have := hf.d1; omega⟩ (w1 (pr T s) Y Z)
      have hbe' := fun Y Z => (ih f (by omega)).betw b 0 _ r1 (by omega) h1 g1 _ (V3 (pr T (stepP1 (enterP T s))) Y Z) (w1 _ _ _)
      rw [show ((0 : Nat) : Int) = 0 from rfl] at hbe'
      have hst : stepP1 (enterP T s) = if (enterP T s).err = 0 then (enterP T s).next else enterP T s := rfl
      generalize hS : stepP1 (enterP T s) = sS at *
      generalize hE2 : enterP T s = sE at *
      obtain ⟨n1, s1⟩ := r1
      dsimp only at hbe' hw hwm ⊢
      obtain ⟨o, m, t, x, y, ks⟩ := n1
      simp only [Nd.av_cs] at hbe' ⊢
      generalize ks.map Nd.av = KL at *
      simp (disch := first | assumption | omega | (simp only [List.length_append, List.length_cons, List.length_nil]; omega)) only [go_sem, reduceCtorEq, ↓reduceIte]
      refine (hen _ _).mono ?_
      rintro v σ1 ⟨rfl, rfl⟩
      rw [k1]
      have hpE : some (Role.obj [.sl .shr (T.map tokAV), .int .i64 ((sE.i : Int) + 1), .int .i64 sE.deep, .int .i64 sE.err, .int .i64 sE.bad]) = pr T sE.next := rfl
      have hmu := fun τ hh => pmust_ok hT.ends hw.fit hT.len [41] (σ := τ) (b := b) hh
      have hlv := fun τ hh => pleave_ok (T := T) (s := mustP T s1 [41]) ⟨hwm.fit.d0, by have := hwm.fit.d1; omega⟩ (σ := τ) (b := b) hh
      have tail : ∀ a1 : AFr, (a1 0 = .ptr b 0 ∧ a1 2 = .ptr d 0) → ACode.wp Tryz.prog c95_60 (DfrQ Tryz.prog 71 (.ptr b 0) (RetQ [.c 2 (some 12)] fun v σ' => v = .agg (Nd.cs o m t x y KL) ∧ σ' = σ.set b (pr T (leaveP (mustP T s1 [41]))))) a1 (T3 (pr T sS) (some (.obj zero12)) (some (.obj [.int .i64 tk.kind, .str tk.text, .int .i64 tk.at', .int .i64 tk.col]))) := by
        intro a1 hf1
        unfold zero12
        simp (disch := first | assumption | omega | (simp only [List.length_append, List.length_cons, List.length_nil]; omega)) only [go_sem, ↓reduceIte, hf1]
        refine (hbe' _ _).mono ?_
        rintro v σ1 ⟨rfl, rfl⟩
        rw [k1]
        simp (disch := first | assumption | omega | (simp only [List.length_append, List.length_cons, List.length_nil]; omega)) only [go_sem]
        refine allocC_by fun g hg => ?_
        obtain ⟨T4, S4⟩ := St4.of S3 (X0 := .obj _) hg
        have ab4 := S4.ab
        have m1 := S4.s1
        have m2 := S4.s2
        have m4 := S4.s4
        have p1 := S4.a1
        have p2 := S4.a2
        have p4 := S4.a4
        simp (disch := first | assumption | omega | (simp only [List.length_append, List.length_cons, List.length_nil]; omega)) only [go_sem, reduceCtorEq, Nat.reduceEqDiff, Nat.reduceAdd, Nat.reduceLeDiff, ↓reduceIte, hf1, ab4, m4, p4]
        refine (hmu _ (p1 _ _ _ _)).mono ?_
        rintro v σ1 ⟨rfl, rfl⟩
        rw [m1]
        simp (disch := first | assumption | omega | (simp only [List.length_append, List.length_cons, List.length_nil]; omega)) only [go_sem, Nat.reduceEqDiff, Nat.reduceAdd, Nat.reduceLeDiff, ↓reduceIte, hf1, p4, p2, m2]
        refine (hlv _ (p1 _ _ _ _)).mono ?_
        rintro v σ1 ⟨rfl, rfl⟩
        rw [m1]
        simp (disch := first | assumption | omega | (simp only [List.length_append, List.length_cons, List.length_nil]; omega)) only [go_sem, Nat.reduceLeDiff, ↓reduceIte, p2]
        exact retC_by (S4.drop _ _ _ _) (.refl _) ⟨rfl, rfl⟩
      obtain ⟨G, hG⟩ : ∃ G, G = ACode.wp Tryz.prog c95_60 := ⟨_, rfl⟩
      rw [← hG] at tail
      unfold zero12 at tail
      by_cases hee : sE.err = 0
      · rw [if_pos hee] at hst
        subst hst
        have hEi : (sE.i : Int) ≤ 1000000 := by omega
        have x1 := fun Y Z => w1 (pr T sE) Y Z
        rw [hpr sE, hee] at x1
        rw [hee] at hpE
        rw [hpr sE, hee]
        simp (disch := first | assumption | omega | (simp only [List.length_append, List.length_cons, List.length_nil]; omega)) only [go_sem, reduceCtorEq, Nat.reduceEqDiff, Nat.reduceAdd, Nat.reduceLeDiff, ↓reduceIte, Bool.true_and, x1, k1, ←hG]
        rw [hpE]
        refine tail _ ?_
        simp (disch := first | assumption | omega | (simp only [List.length_append, List.length_cons, List.length_nil]; omega)) only [go_sem, reduceCtorEq, Nat.reduceEqDiff, ↓reduceIte]
      · rw [if_neg hee] at hst
        subst hst
        have x1 : ∀ Y Z, T3 (pr T sS) Y Z b = some (.obj [.sl .shr (T.map tokAV), .int .i64 sS.i, .int .i64 sS.deep, .int .i64 sS.err, .int .i64 sS.bad]) := fun Y Z => w1 _ _ _
        simp (disch := first | assumption | omega | (simp only [List.length_append, List.length_cons, List.length_nil]; omega)) only [go_sem, reduceCtorEq, ↓reduceIte, x1, hee, ←hG]
        refine tail _ ?_
        simp (disch := first | assumption | omega | (simp only [List.length_append, List.length_cons, List.length_nil]; omega)) only [go_sem, reduceCtorEq, Nat.reduceEqDiff, ↓reduceIte]
  · rw [if_neg hop] at h
    injection h with h
    subst h
    have hop' : isOp T s [40] = false := by simpa using hop
    rw [hop']
    simp (disch := first | assumption | omega | (simp only [List.length_append, List.length_cons, List.length_nil]; omega)) only [go_sem, reduceCtorEq, ↓reduceIte]
    refine (hfl _ (w1 _ _ _)).mono ?_
    rintro v σ1 ⟨rfl, rfl⟩
    rw [k1, zN_av, zN_cells]
    simp (disch := first | assumption | omega | (simp only [List.length_append, List.length_cons, List.length_nil]; omega)) only [go_sem, Nat.reduceEqDiff, Nat.reduceAdd, Nat.reduceLeDiff, ↓reduceIte, Bool.true_and, w2, k2]
    exact retC_by (hDr _ _ _) (.refl _) ⟨rfl, rfl⟩
theorem walkF {T : List Tok} (hT : TokOk T) : ∀ f, WalkF T f := by
  intro f
  induction f using Nat.strongRecOn with
  | _ f ih =>
  cases f with
  | zero =>
    constructor
    all_goals intros
    all_goals first
      | (rename_i h _ _ _ _; simp only [betwP, signedP, hundredP, primP, argsP, reduceCtorEq] at h)
      | (rename_i h _ _ _ _ _; simp only [nameP, reduceCtorEq] at h)
  | succ f =>
    exact ⟨fun b lvl s r hl h hf σ hV hb => betw_walk hT f ih b lvl s r hl h hf σ hV hb, fun b s r h hf σ hV hb => signed_walk hT f ih b s r h hf σ hV hb,
      fun b s r h hf σ hV hb => hundred_walk hT f ih b s r h hf σ hV hb, fun b s r h hf σ hV hb => prim_walk hT f ih b s r h hf σ hV hb,
      fun b s r h hf hk σ hV hb => name_walk hT f ih b s r h hf hk σ hV hb, fun b s r h hf σ hV hb => args_walk hT f ih b s r h hf σ hV hb⟩
end Go.A
namespace Go.A
open Go.Proofs Go.Lib
set_option maxRecDepth 100000
set_option linter.unusedSimpArgs false
set_option linter.unusedVariables false
def Mz (T : List Tok) (s : PSt) : Nat := if s.err = 0 then T.length - s.i else 0
section
variable {T : List Tok}
theorem Mz_next {s : PSt} (hT : Ends T) (hf : Fit T s) (hk : (curT T s).kind ≠ 0) : Mz T s.next + 1 ≤ Mz T s := by
  have h0 := cur_err hk
  have hi := hf.i
  unfold Mz
  rw [if_pos h0, if_pos (show s.next.err = 0 from h0)]
  show T.length - (s.i + 1) + 1 ≤ _
  omega
theorem Mz_went {s s' : PSt} (h : Went T s s') : Mz T s' ≤ Mz T s := by
  have hl := h.le
  unfold Mz
  by_cases h0 : s.err = 0
  · rw [if_pos h0]
    split <;> omega
  · rw [if_neg h0, if_neg (by rw [(h.err h0).1]; exact h0)]
    exact Nat.le_refl _
theorem Mz_enter {s : PSt} (hT : Ends T) (hf : Fit T s) (hk : (curT T s).kind ≠ 0) : Mz T (stepP1 (enterP T s)) + 1 ≤ Mz T s := by
  have h0 := cur_err hk
  have hi := hf.i
  obtain ⟨e1, e2, e3⟩ := enter_err hT hf h0
  unfold stepP1
  unfold Mz
  rw [if_pos h0]
  by_cases he : (enterP T s).err = 0
  · rw [if_pos he, if_pos (show (enterP T s).next.err = 0 from he)]
    show T.length - ((enterP T s).i + 1) + 1 ≤ _
    omega
  · rw [if_neg he, if_neg he]
    omega
structure SuffF (T : List Tok) (f : Nat) : Prop where
  betw : ∀ lvl s, lvl ≤ 5 → Fit T s → 30 * Mz T s + 20 ≤ f + lvl → ∃ r, betwP T f lvl s = some r
  loop : ∀ lvl n s, lvl < 5 → Fit T s → 30 * Mz T s + 1 ≤ f → ∃ r, loopP T f lvl n s = some r
  signed : ∀ s, Fit T s → 30 * Mz T s + 14 ≤ f → ∃ r, signedP T f s = some r
  hundred : ∀ s, Fit T s → 30 * Mz T s + 13 ≤ f → ∃ r, hundredP T f s = some r
  hloop : ∀ n s, Fit T s → 30 * Mz T s + 1 ≤ f → ∃ r, hloopP T f n s = some r
  prim : ∀ s, Fit T s → 30 * Mz T s + 12 ≤ f → ∃ r, primP T f s = some r
  name : ∀ s, Fit T s → (curT T s).kind = 3 → 30 * Mz T s + 11 ≤ f → ∃ r, nameP T f s = some r
  args : ∀ s, Fit T s → 30 * Mz T s + 25 ≤ f → ∃ r, argsP T f s = some r
  aloop : ∀ l s, Fit T s → 30 * Mz T s + 24 ≤ f → ∃ r, aloopP T f l s = some r
theorem suffF (hT : Ends T) : ∀ f, SuffF T f
  | 0 => by
    constructor
    all_goals intros
    all_goals (exfalso; omega)
  | f + 1 => by
    have ih := suffF hT f
    have hwent := wentF hT f
    constructor
    · intro lvl s hl hf hm
      rw [betwP]
      split
      · exact ih.signed s hf (by omega)
      · obtain ⟨r, hr⟩ := ih.betw (lvl + 1) s (by omega) hf (by omega)
        rw [hr]
        have hw := hwent.betw _ _ _ hr hf
        have hz := Mz_went hw
        exact ih.loop lvl _ _ (by omega) hw.fit (by omega)
    · intro lvl n s hl hf hm
      rw [loopP]
      split
      · rename_i hk
        have hz := Mz_next hT hf (sgn_kind hk)
        have hn := (hf.next hT (sgn_kind hk)).1
        obtain ⟨r, hr⟩ := ih.betw (lvl + 1) s.next (by omega) hn (by omega)
        rw [hr]
        have hw := hwent.betw _ _ _ hr hn
        have hz2 := Mz_went hw
        exact ih.loop lvl _ _ hl hw.fit (by omega)
      · exact ⟨_, rfl⟩
    · intro s hf hm
      rw [signedP]
      split
      · rename_i hk
        have hz := Mz_enter hT hf (isOp_kind hk)
        obtain ⟨r, hr⟩ := ih.signed _ (enter_fit hT hf (isOp_kind hk)).1 (by omega)
        rw [hr]
        exact ⟨_, rfl⟩
      split
      · rename_i hk
        have hz := Mz_enter hT hf (isOp_kind hk)
        obtain ⟨r, hr⟩ := ih.signed _ (enter_fit hT hf (isOp_kind hk)).1 (by omega)
        rw [hr]
        exact ⟨_, rfl⟩
      · exact ih.hundred s hf (by omega)
    · intro s hf hm
      rw [hundredP]
      obtain ⟨r, hr⟩ := ih.prim s hf (by omega)
      rw [hr]
      have hw := hwent.prim _ _ hr hf
      have hz := Mz_went hw
      exact ih.hloop _ _ hw.fit (by omega)
    · intro n s hf hm
      rw [hloopP]
      split
      · rename_i hk
        have hz := Mz_next hT hf (isOp_kind hk)
        exact ih.hloop _ _ (hf.next hT (isOp_kind hk)).1 (by omega)
      · exact ⟨_, rfl⟩
    · intro s hf hm
      rw [primP]
      split
      · split <;> exact ⟨_, rfl⟩
      split
      · exact ⟨_, rfl⟩
      split
      · exact ⟨_, rfl⟩
      split
      · exact ⟨_, rfl⟩
      split
      · rename_i hk
        exact ih.name s hf hk (by omega)
      split
      · rename_i hk
        have hz := Mz_enter hT hf (isOp_kind hk)
        obtain ⟨r, hr⟩ := ih.betw 0 _ (by omega) (enter_fit hT hf (isOp_kind hk)).1 (by omega)
        rw [hr]
        exact ⟨_, rfl⟩
      · exact ⟨_, rfl⟩
    · intro s hf hk hm
      have h0 : s.err = 0 := cur_err (T := T) (by omega)
      have hn := hf.next hT (by omega)
      rw [nameP]
      split
      · rename_i hp
        split
        · exact ⟨_, rfl⟩
        · rename_i he
          obtain ⟨g1, g2, g3, g5⟩ := enter2 hT hf (by omega) (by simpa using he)
          have hl := hT.more (s.i + 1) hn.1.i (by omega)
          have g4 : Fit T (enterP T s).next.next := ⟨by show (enterP T s).i + 1 + 1 < _; omega, g1.d0, g1.d1, g1.d2⟩
          have hz : Mz T (enterP T s).next.next + 1 ≤ Mz T s := by
            have hi := hf.i
            have he' : (enterP T s).err = 0 := by simpa using he
            unfold Mz
            rw [if_pos h0, if_pos (show (enterP T s).next.next.err = 0 from he')]
            show T.length - ((enterP T s).i + 1 + 1) + 1 ≤ _
            omega
          obtain ⟨r, hr⟩ := ih.args _ g4 (by omega)
          rw [hr]
          exact ⟨_, rfl⟩
      split
      · exact ⟨_, rfl⟩
      split <;> exact ⟨_, rfl⟩
    · intro s hf hm
      rw [argsP]
      split
      · exact ⟨_, rfl⟩
      · exact ih.aloop _ s hf (by omega)
    · intro l s hf hm
      rw [aloopP]
      split
      · exact ⟨_, rfl⟩
      · have h1 : ∃ r, (if isOp T s [44] = true ∨ isOp T s [41] = true then some (missN, s) else betwP T f 0 s) = some r ∧ Went T s r.2 := by
          split
          · exact ⟨_, rfl, Went.refl hf⟩
          · obtain ⟨r, hr⟩ := ih.betw 0 s (by omega) hf (by omega)
            exact ⟨r, hr, hwent.betw _ _ _ hr hf⟩
        obtain ⟨r, hr, hw⟩ := h1
        rw [hr]
        dsimp only
        split
        · rename_i hk
          have hz := Mz_next hT hw.fit (isOp_kind hk)
          have hz2 := Mz_went hw
          exact ih.aloop _ _ (hw.fit.next hT (isOp_kind hk)).1 (by omega)
        · exact ⟨_, rfl⟩
end
end Go.A
namespace Go.A
open Go.Proofs
/-! 8: tabular/parse.Parse -/
def c8_0 : ACode := .ops [
 ⟨some 2, none, .e (.alloc [(.int .i64 0), (.int .i64 0), (.str []), (.int .i64 0), (.int .i64 0), (.bool false), (.bool false), (.int .i64 0), (.int .i64 0), (.bool false), (.bool false), (.sl .full [])]), []⟩,
 ⟨some 3, none, .q (.mv (.v (.int .i64 0))), []⟩,
 ⟨some 4, none, .q (.mv (.v (.int .i64 0))), []⟩]
def c8_1 : ACode := .ops [
 ⟨some 11, none, .q (.mv (.t 0)), []⟩,
 ⟨some 12, none, .e (.call 27 [(.t 11)]), []⟩,
 ⟨some 10, none, .q (.mv (.t 12)), []⟩,
 ⟨some 13, none, .q (.ext 0 (.t 10)), []⟩,
 ⟨some 14, none, .q (.ext 1 (.t 10)), []⟩,
 ⟨some 15, none, .q (.ext 2 (.t 10)), []⟩,
 ⟨some 5, none, .q (.mv (.t 13)), []⟩,
 ⟨some 6, none, .q (.mv (.t 14)), []⟩,
 ⟨some 7, none, .q (.mv (.t 15)), []⟩]
def c8_2 : ACode := .ops [
 ⟨some 16, none, .q (.mv (.t 7)), []⟩,
 ⟨some 17, none, .q (.bin .neq (.t 16) (.v (.int .i64 0))), []⟩]
def c8_3 : ACode := .ops [
 ⟨some 18, none, .q (.build [(.int .i64 0), (.int .i64 0), (.str []), (.int .i64 0), (.int .i64 0), (.bool false), (.bool false), (.int .i64 0), (.int .i64 0), (.bool false), (.bool false), (.sl .full [])] []), []⟩,
 ⟨some 19, none, .q (.mv (.t 6)), []⟩,
 ⟨some 20, none, .q (.mv (.t 7)), []⟩,
 ⟨none, none, .e (.store 12 (.t 2) (.t 18)), []⟩,
 ⟨some 3, none, .q (.mv (.t 19)), []⟩,
 ⟨some 4, none, .q (.mv (.t 20)), []⟩]
def c8_4 : ACode := .seq c8_3 .ret
def c8_5 : ACode := .cond (.t 17) c8_4 .skip
def c8_6 : ACode := .seq c8_2 c8_5
def c8_7 : ACode := .ops [
 ⟨some 21, none, .q (.mv (.t 5)), []⟩,
 ⟨some 22, none, .q (.build [(.sl .full []), (.int .i64 0), (.int .i64 0), (.int .i64 0), (.int .i64 0)] [(0, 1, (.t 21))]), []⟩,
 ⟨some 23, none, .e (.box (.t 22)), []⟩,
 ⟨some 8, none, .q (.mv (.t 23)), []⟩]
def c8_8 : ACode := .ops [
 ⟨some 24, none, .q (.mv (.t 8)), []⟩,
 ⟨some 25, none, .e (.call 28 [(.t 24), (.v (.int .i64 0))]), []⟩,
 ⟨some 9, none, .e (.alloc [(.int .i64 0), (.int .i64 0), (.str []), (.int .i64 0), (.int .i64 0), (.bool false), (.bool false), (.int .i64 0), (.int .i64 0), (.bool false), (.bool false), (.sl .full [])]), []⟩,
 ⟨none, none, .e (.store 12 (.t 9) (.t 25)), []⟩]
def c8_9 : ACode := .ops [
 ⟨some 26, none, .q (.mv (.t 8)), []⟩,
 ⟨some 27, none, .e (.call 29 [(.t 26)]), []⟩,
 ⟨some 28, none, .q (.fld 0 none (.t 27)), []⟩,
 ⟨some 29, none, .q (.bin .neq (.t 28) (.v (.int .i64 0))), []⟩]
def c8_10 : ACode := .ops [
 ⟨some 30, none, .q (.mv (.t 8)), []⟩,
 ⟨some 31, none, .e (.call 30 [(.t 30), (.v (.int .i64 10))]), []⟩]
def c8_11 : ACode := .cond (.t 29) c8_10 .skip
def c8_12 : ACode := .seq c8_9 c8_11
def c8_13 : ACode := .ops [
 ⟨some 32, none, .q (.mv (.t 8)), []⟩,
 ⟨some 33, none, .q (.nc (.t 32)), []⟩,
 ⟨some 34, none, .q (.fa 3 (.t 33)), []⟩,
 ⟨some 35, none, .q (.ld none (.t 34)), []⟩,
 ⟨some 36, none, .q (.bin .neq (.t 35) (.v (.int .i64 0))), []⟩]
def c8_14 : ACode := .ops [
 ⟨some 37, none, .q (.build [(.int .i64 0), (.int .i64 0), (.str []), (.int .i64 0), (.int .i64 0), (.bool false), (.bool false), (.int .i64 0), (.int .i64 0), (.bool false), (.bool false), (.sl .full [])] []), []⟩,
 ⟨some 38, none, .q (.mv (.t 8)), []⟩,
 ⟨some 39, none, .q (.nc (.t 38)), []⟩,
 ⟨some 40, none, .q (.fa 4 (.t 39)), []⟩,
 ⟨some 41, none, .q (.ld none (.t 40)), []⟩,
 ⟨some 42, none, .q (.mv (.t 8)), []⟩,
 ⟨some 43, none, .q (.nc (.t 42)), []⟩,
 ⟨some 44, none, .q (.fa 3 (.t 43)), []⟩,
 ⟨some 45, none, .q (.ld none (.t 44)), []⟩,
 ⟨none, none, .e (.store 12 (.t 2) (.t 37)), [⟨none, .ld none (.t 40), 41⟩, ⟨none, .ld none (.t 44), 45⟩]⟩,
 ⟨some 3, none, .q (.mv (.t 41)), []⟩,
 ⟨some 4, none, .q (.mv (.t 45)), []⟩]
def c8_15 : ACode := .seq c8_14 .ret
def c8_16 : ACode := .cond (.t 36) c8_15 .skip
def c8_17 : ACode := .seq c8_13 c8_16
def c8_18 : ACode := .ops [
 ⟨some 46, none, .q (.ld (some 12) (.t 9)), []⟩,
 ⟨none, none, .e (.store 12 (.t 2) (.t 46)), []⟩,
 ⟨some 3, none, .q (.mv (.v (.int .i64 0))), []⟩,
 ⟨some 4, none, .q (.mv (.v (.int .i64 0))), []⟩]
def c8_19 : ACode := .seq c8_18 .ret
def c8_20 : ACode := .seq c8_17 c8_19
def c8_21 : ACode := .seq c8_12 c8_20
def c8_22 : ACode := .seq c8_8 c8_21
def c8_23 : ACode := .seq c8_7 c8_22
def c8_24 : ACode := .seq c8_6 c8_23
def c8_25 : ACode := .seq c8_1 c8_24
def c8_26 : ACode := .seq c8_0 c8_25
@[go_sem] theorem c8_0_wp : type_of% (wp_of c8_0.eq_1) := wp_of c8_0.eq_1
@[go_sem] theorem c8_1_wp : type_of% (wp_of c8_1.eq_1) := wp_of c8_1.eq_1
@[go_sem] theorem c8_2_wp : type_of% (wp_of c8_2.eq_1) := wp_of c8_2.eq_1
@[go_sem] theorem c8_3_wp : type_of% (wp_of c8_3.eq_1) := wp_of c8_3.eq_1
@[go_sem] theorem c8_4_wp : type_of% (wp_of c8_4.eq_1) := wp_of c8_4.eq_1
@[go_sem] theorem c8_5_wp : type_of% (wp_of c8_5.eq_1) := wp_of c8_5.eq_1
@[go_sem] theorem c8_6_wp : type_of% (wp_of c8_6.eq_1) := wp_of c8_6.eq_1
@[go_sem] theorem c8_7_wp : type_of% (wp_of c8_7.eq_1) := wp_of c8_7.eq_1
@[go_sem] theorem c8_8_wp : type_of% (wp_of c8_8.eq_1) := wp_of c8_8.eq_1
@[go_sem] theorem c8_9_wp : type_of% (wp_of c8_9.eq_1) := wp_of c8_9.eq_1
@[go_sem] theorem c8_10_wp : type_of% (wp_of c8_10.eq_1) := wp_of c8_10.eq_1
@[go_sem] theorem c8_11_wp : type_of% (wp_of c8_11.eq_1) := wp_of c8_11.eq_1
@[go_sem] theorem c8_12_wp : type_of% (wp_of c8_12.eq_1) := wp_of c8_12.eq_1
@[go_sem] theorem c8_13_wp : type_of% (wp_of c8_13.eq_1) := wp_of c8_13.eq_1
@[go_sem] theorem c8_14_wp : type_of% (wp_of c8_14.eq_1) := wp_of c8_14.eq_1
@[go_sem] theorem c8_15_wp : type_of% (wp_of c8_15.eq_1) := wp_of c8_15.eq_1
@[go_sem] theorem c8_16_wp : type_of% (wp_of c8_16.eq_1) := wp_of c8_16.eq_1
@[go_sem] theorem c8_17_wp : type_of% (wp_of c8_17.eq_1) := wp_of c8_17.eq_1
@[go_sem] theorem c8_18_wp : type_of% (wp_of c8_18.eq_1) := wp_of c8_18.eq_1
@[go_sem] theorem c8_19_wp : type_of% (wp_of c8_19.eq_1) := wp_of c8_19.eq_1
@[go_sem] theorem c8_20_wp : type_of% (wp_of c8_20.eq_1) := wp_of c8_20.eq_1
@[go_sem] theorem c8_21_wp : type_of% (wp_of c8_21.eq_1) := wp_of c8_21.eq_1
@[go_sem] theorem c8_22_wp : type_of% (wp_of c8_22.eq_1) := wp_of c8_22.eq_1
@[go_sem] theorem c8_23_wp : type_of% (wp_of c8_23.eq_1) := wp_of c8_23.eq_1
@[go_sem] theorem c8_24_wp : type_of% (wp_of c8_24.eq_1) := wp_of c8_24.eq_1
@[go_sem] theorem c8_25_wp : type_of% (wp_of c8_25.eq_1) := wp_of c8_25.eq_1
@[go_sem] theorem c8_26_wp : type_of% (wp_of c8_26.eq_1) := wp_of c8_26.eq_1
def c8 : AFn := ⟨47, [.c 2 (some 12), .t 3, .t 4], c8_26⟩
set_option maxRecDepth 100000 in
theorem c8_ok : compF Tryz.prog Tryz.f8 = some c8 := by kernel_rfl
theorem a8 {args : List AV} {σ : ASt} {R : AV → ASt → Prop} (hl : args.length ≤ 47) (h : c8_26.wp Tryz.prog (RetQ [.c 2 (some 12), .t 3, .t 4] R) (init args) σ) : ACalls Tryz.prog 8 args σ R := acalls_of Tryz.func8 c8_ok hl h
end Go.A
namespace Go.A
open Go.Proofs Go.Lib
set_option maxRecDepth 100000
set_option linter.unusedSimpArgs false
set_option linter.unusedVariables false
structure TokGd (t : Tok) : Prop where
  k1 : 1 ≤ t.kind
  k6 : t.kind ≤ 6
  len : t.text.length ≤ 8100
  num : t.kind = 1 → numB t.text = true
  ref : t.kind = 4 → ∃ w, refB w = true ∧ t.text = greatP w
  err : t.kind = 5 → t.text ∈ errTexts
theorem TokGd.of {kd : Int} {t : List UInt8} {a c : Nat} (h1 : 1 ≤ kd) (h6 : kd ≤ 6) (hl : t.length ≤ 8100) (hn : kd = 1 → numB t = true) (hr : kd = 4 → ∃ w, refB w = true ∧ t = greatP w) (he : kd = 5 → t ∈ errTexts) : TokGd ⟨kd, t, a, c⟩ := ⟨h1, h6, hl, hn, hr, he⟩
theorem no1 {p : Prop} {a b : Int} (h : a = b) (hn : decide (a = b) = false) : p := absurd h (of_decide_eq_false hn)
theorem quotedF_len : ∀ (k : Nat) (r : List UInt8) (p : Nat) (acc : List UInt8) kd t n, quotedF k r p acc = .tok kd t n → kd = 2 ∧ t.length ≤ acc.length + 4 * r.length
  | 0, r, p, acc, kd, t, n, h => by simp [quotedF] at h
  | k + 1, r, p, acc, kd, t, n, h => by
    by_cases hr : r = []
    · subst hr; rw [quotedF_nil] at h; simp at h
    have hw := decodeL_width r
    have hle := decodeL_le r hr
    unfold quotedF at h
    rw [if_neg hr] at h
    split at h
    · simp at h
    split at h
    · have := quotedF_len k _ _ _ kd t n h
      have he := enc_le ((decodeL r).1 : Int)
      rw [List.length_append, List.length_drop] at this
      exact ⟨this.1, by omega⟩
    split at h
    · rename_i h1 h2 h3
      have hl2 := (List.getElem?_eq_some_iff.1 h3).1
      have := quotedF_len k _ _ _ kd t n h
      rw [List.length_append, List.length_drop] at this
      simp only [List.length_cons, List.length_nil] at this
      exact ⟨this.1, by omega⟩
    · simp only [Step.tok.injEq] at h
      obtain ⟨rfl, rfl, rfl⟩ := h
      exact ⟨rfl, by omega⟩
theorem failS_gd (r : List UInt8) : ∀ (es : List (List UInt8)) kd t n, failS r es = .tok kd t n → kd = 5 ∧ t ∈ es
  | [], kd, t, n, h => by simp [failS] at h
  | e :: es, kd, t, n, h => by
    unfold failS at h
    split at h
    · simp only [Step.tok.injEq] at h
      obtain ⟨rfl, rfl, rfl⟩ := h
      exact ⟨rfl, by simp⟩
    · obtain ⟨h1, h2⟩ := failS_gd r es kd t n h
      exact ⟨h1, by simp [h2]⟩
theorem greatP_len (l : List UInt8) : (greatP l).length = l.length := by unfold greatP; simp
theorem alikeP_len (c : Int) : (alikeP c).length ≤ 2 := by
  unfold alikeP
  repeat' split
  all_goals decide
theorem stepP_gd (r : List UInt8) (hl : r.length ≤ 2000) {kd : Int} {t : List UInt8} {n : Nat} (h : stepP r = .tok kd t n) (a c : Nat) : TokGd ⟨kd, t, a, c⟩ := by
  unfold stepP at h
  dsimp only at h
  split at h
  · simp at h
  split at h
  · simp at h
  split at h
  · unfold wordsS at h
    dsimp only at h
    have hw : (r.take (runL wordB r)).length ≤ 8100 := by rw [List.length_take]; omega
    split at h
    · rename_i hn
      simp only [Step.tok.injEq] at h
      obtain ⟨rfl, rfl, rfl⟩ := h
      exact .of (by decide) (by decide) hw (fun _ => hn) (fun h => no1 h (by decide)) (fun h => no1 h (by decide))
    split at h
    · rename_i hn
      simp only [Step.tok.injEq] at h
      obtain ⟨rfl, rfl, rfl⟩ := h
      exact .of (by decide) (by decide) (by rw [greatP_len]; omega) (fun h => no1 h (by decide)) (fun _ => ⟨_, hn, rfl⟩) (fun h => no1 h (by decide))
    split at h
    · simp only [Step.tok.injEq] at h
      obtain ⟨rfl, rfl, rfl⟩ := h
      exact .of (by decide) (by decide) (by rw [greatP_len]; omega) (fun h => no1 h (by decide)) (fun h => no1 h (by decide)) (fun h => no1 h (by decide))
    · simp at h
  split at h
  · obtain ⟨rfl, h2⟩ := quotedF_len _ _ _ _ _ _ _ h
    rw [List.length_drop] at h2
    simp only [List.length_nil] at h2
    exact .of (by decide) (by decide) (by omega) (fun h => no1 h (by decide)) (fun h => no1 h (by decide)) (fun h => no1 h (by decide))
  split at h
  · obtain ⟨rfl, h2⟩ := failS_gd _ _ _ _ _ h
    have := errTexts_len t h2
    exact .of (by decide) (by decide) (by omega) (fun h => no1 h (by decide)) (fun h => no1 h (by decide)) (fun _ => h2)
  · unfold opS at h
    split at h
    · simp only [Step.tok.injEq] at h
      obtain ⟨rfl, rfl, rfl⟩ := h
      have := alikeP_len ((decodeL r).1 : Int)
      exact .of (by decide) (by decide) (by omega) (fun h => no1 h (by decide)) (fun h => no1 h (by decide)) (fun h => no1 h (by decide))
    · split at h
      · rename_i e he
        simp only [Step.tok.injEq] at h
        obtain ⟨rfl, rfl, rfl⟩ := h
        have := twos_len e (twoS_fits r _ _ he).1
        exact .of (by decide) (by decide) (by omega) (fun h => no1 h (by decide)) (fun h => no1 h (by decide)) (fun h => no1 h (by decide))
      · split at h
        · simp only [Step.tok.injEq] at h
          obtain ⟨rfl, rfl, rfl⟩ := h
          exact .of (by decide) (by decide) (by rw [List.length_take]; omega) (fun h => no1 h (by decide)) (fun h => no1 h (by decide)) (fun h => no1 h (by decide))
        · simp at h
theorem lexF_gd : ∀ (k : Nat) (r : List UInt8) (a c : Nat) (acc L : List Tok) (x : Nat), r.length ≤ 2000 → lexF k r a c acc = (L, x, 0) → (∀ t ∈ acc, TokGd t) → ∃ M a' c', L = M ++ [⟨0, [], a', c'⟩] ∧ (∀ t ∈ M, TokGd t) ∧ M.length ≤ acc.length + r.length
  | 0, r, a, c, acc, L, x, hr, h, hacc => by simp [lexF] at h
  | k + 1, r, a, c, acc, L, x, hr, h, hacc => by
    rw [lexF] at h
    split at h
    · simp only [Prod.mk.injEq] at h
      obtain ⟨rfl, _⟩ := h
      exact ⟨acc, a, c, rfl, hacc, by omega⟩
    · rename_i hne
      have hpos := List.length_pos_iff.2 hne
      split at h
      · simp at h
      · obtain ⟨M, a', c', h1, h2, h3⟩ := lexF_gd k _ _ _ _ _ _ (by rw [List.length_drop]; omega) h hacc
        rw [List.length_drop] at h3
        exact ⟨M, a', c', h1, h2, by omega⟩
      · rename_i kd t n hst
        obtain ⟨f1, f2⟩ := (stepP_fits r hne).2 kd t n hst
        obtain ⟨M, a', c', h1, h2, h3⟩ := lexF_gd k _ _ _ _ _ _ (by rw [List.length_drop]; omega) h (fun u hu => by
          rcases List.mem_append.1 hu with hu | hu
          · exact hacc u hu
          · simp at hu; subst hu; exact stepP_gd r hr hst a c)
        rw [List.length_drop, List.length_append, List.length_singleton] at h3
        exact ⟨M, a', c', h1, h2, by omega⟩
theorem lexP_gd {s : List UInt8} (h : (lexP s).2.2 = 0) : ∃ M a' c', (lexP s).1 = M ++ [⟨0, [], a', c'⟩] ∧ (∀ t ∈ M, TokGd t) ∧ M.length ≤ 2000 := by
  unfold lexP at h ⊢
  split
  · rename_i hl; rw [if_pos hl] at h; cases h
  · rename_i hl
    rw [if_neg hl] at h
    obtain ⟨R, hR⟩ : ∃ R, lexF (s.length + 1) s 0 0 [] = R := ⟨_, rfl⟩
    rw [hR] at h ⊢
    obtain ⟨L, x, e⟩ := R
    dsimp only at h ⊢
    subst h
    obtain ⟨M, a', c', h1, h2, h3⟩ := lexF_gd _ _ _ _ _ _ _ (by omega) hR (by simp)
    exact ⟨M, a', c', h1, h2, by simp at h3; omega⟩
theorem getD_app_left {M : List Tok} {e : Tok} {i : Nat} (h : i < M.length) : (M ++ [e]).getD i endT = M.getD i endT := by
  rw [List.getD_eq_getElem?_getD, List.getD_eq_getElem?_getD, List.getElem?_append_left h]
theorem getD_mem {M : List Tok} {i : Nat} (h : i < M.length) : M.getD i endT ∈ M := by
  rw [List.getD_eq_getElem?_getD, List.getElem?_eq_getElem h]
  exact List.getElem_mem h
theorem lex_toks {s : List UInt8} (h : (lexP s).2.2 = 0) : TokOk (lexP s).1 ∧ (lexP s).1.length ≤ 2001 ∧ ∀ i, ((lexP s).1.getD i endT).kind ≠ 0 → TokGd ((lexP s).1.getD i endT) := by
  obtain ⟨M, a', c', h1, h2, h3⟩ := lexP_gd h
  rw [h1]
  have hl : (M ++ [(⟨0, [], a', c'⟩ : Tok)]).length = M.length + 1 := by simp
  have hlast : (M ++ [(⟨0, [], a', c'⟩ : Tok)]).getD M.length endT = ⟨0, [], a', c'⟩ := by
    rw [List.getD_eq_getElem?_getD, List.getElem?_append_right (Nat.le_refl _), Nat.sub_self]; rfl
  have hout : ∀ i, M.length < i → (M ++ [(⟨0, [], a', c'⟩ : Tok)]).getD i endT = endT := fun i hi => by
    rw [List.getD_eq_getElem?_getD, List.getElem?_eq_none (by rw [hl]; omega)]; rfl
  have hgd : ∀ i, i < M.length → TokGd ((M ++ [(⟨0, [], a', c'⟩ : Tok)]).getD i endT) := fun i hi => by
    rw [getD_app_left hi]; exact h2 _ (getD_mem hi)
  refine ⟨⟨⟨by rw [hl]; omega, fun i hi => ?_, fun i hi hk => ?_⟩, by rw [hl]; omega, fun i => ?_⟩, by rw [hl]; omega, fun i hk => ?_⟩
  · rw [hl] at hi
    obtain rfl : i = M.length := by omega
    rw [hlast]
  · rw [hl] at hi ⊢
    rcases Nat.lt_or_ge i M.length with h | h
    · omega
    · obtain rfl : i = M.length := by omega
      rw [hlast] at hk
      exact absurd rfl hk
  · rcases Nat.lt_trichotomy i M.length with h | h | h
    · have := (hgd i h).len; omega
    · subst h; rw [hlast]; simp
    · rw [hout i h]; simp [endT]
  · rcases Nat.lt_trichotomy i M.length with h | h | h
    · exact hgd i h
    · subst h; rw [hlast] at hk; exact absurd rfl hk
    · rw [hout i h] at hk; exact absurd rfl hk
def st0 : PSt := ⟨0, 0, 0, 0⟩
theorem st0_fit {T : List Tok} (h : Ends T) : Fit T st0 := ⟨h.pos, by decide, by decide, fun _ => by decide⟩
def parseR (s : List UInt8) : Nd × Int × Int := (parseT (30 * (lexP s).1.length + 30) s).getD (zN, 0, 0)
theorem betw_some {s : List UInt8} (h : (lexP s).2.2 = 0) : ∃ r, betwP (lexP s).1 (30 * (lexP s).1.length + 30) 0 st0 = some r := by
  obtain ⟨hT, _, _⟩ := lex_toks h
  refine (suffF hT.ends _).betw 0 st0 (by omega) (st0_fit hT.ends) ?_
  unfold Mz
  split
  · show 30 * (_ - 0) + 20 ≤ _
    omega
  · omega
set_option maxHeartbeats 2000000 in
theorem parseR_ok {σ : ASt} (hU : U8 σ) (hV : LV σ) (s : List UInt8) (hs : s.length ≤ 100000) : ACalls Tryz.prog 8 [.str s] σ fun v σ' => v = .tuple [(parseR s).1.av, .int .i64 (parseR s).2.1, .int .i64 (parseR s).2.2] ∧ σ' = σ := by
  have hL := fun (τ : ASt) (h : U8 τ) => lex_ok h s hs
  obtain ⟨R, hR⟩ : ∃ R, parseR s = R := ⟨_, rfl⟩
  rw [hR]
  unfold parseR parseT at hR
  have hbs := betw_some (s := s)
  have hto := lex_toks (s := s)
  obtain ⟨FU, hFU⟩ : ∃ FU, 30 * (lexP s).1.length + 30 = FU := ⟨_, rfl⟩
  rw [hFU] at hR hbs
  generalize lexP s = X at *
  obtain ⟨T, at', er⟩ := X
  dsimp only at *
  have hz : ∀ a e : Int, ∀ σ σ' : ASt, Fz σ σ' (resV [.agg [.int .i64 0, .int .i64 0, .str [], .int .i64 0, .int .i64 0, .bool false, .bool false, .int .i64 0, .int .i64 0, .bool false, .bool false, .sl .full []], .int .i64 a, .int .i64 e]) (.tuple [.agg (Nd.cs 0 0 [] .zero .zero []), .int .i64 a, .int .i64 e]) := fun a e σ σ' =>
    .tuple (.cons (.agg (.cons (.refl _) (.cons (.refl _) (.cons (.refl _) (.cons (.refl _) (.cons (.refl _) (.cons (.refl _) (.cons (.refl _) (.cons (.refl _) (.cons (.refl _) (.cons (.refl _) (.cons (.refl _) (.cons (.sl _ _) .nil))))))))))))) (.cons (.refl _) (.cons (.refl _) .nil)))
  refine a8 (by simp) ?_
  simp (disch := first | assumption | omega | (simp only [List.length_append, List.length_cons, List.length_nil]; omega)) only [go_sem]
  refine allocC_by fun d hd => ?_
  have hUd := hU.set hd (r := some (.obj zero12))
  have hVd : LV (σ.set d (some (.obj zero12))) := by
    unfold LV at hV ⊢
    rw [ASt.set_ne]
    · exact hV
    · rintro e; rw [← e, hV] at hd; cases hd
  unfold zero12 at hUd hVd
  simp (disch := first | assumption | omega | (simp only [List.length_append, List.length_cons, List.length_nil]; omega)) only [go_sem, reduceCtorEq, ↓reduceIte]
  refine (hL _ hUd).mono ?_
  rintro v σ1 ⟨rfl, rfl⟩
  by_cases he : er = 0
  · rw [if_neg (by simp [he])] at hR
    obtain ⟨hT, hTl, _⟩ := hto he
    obtain ⟨r1, hr1⟩ := hbs he
    have hr1' : betwP T FU 0 ⟨0, 0, 0, 0⟩ = some r1 := hr1
    rw [hr1'] at hR
    have hw := (wentF hT.ends FU).betw _ _ _ hr1 (st0_fit hT.ends)
    have hwk := (walkF hT FU).betw
    obtain ⟨n, s1⟩ := r1
    dsimp only at hR hw
    obtain ⟨s2, hs2⟩ : ∃ s2, (if (curT T s1).kind ≠ 0 then failP T s1 10 else s1) = s2 := ⟨_, rfl⟩
    rw [hs2] at hR
    simp (disch := first | assumption | omega | (simp only [List.length_append, List.length_cons, List.length_nil]; omega)) only [go_sem, Nat.reduceEqDiff, Nat.reduceAdd, Nat.reduceLeDiff, ↓reduceIte, he]
    refine boxC_by rfl fun b hb => ?_
    have hbd : b ≠ d := by rintro rfl; rw [ASt.set_same] at hb; cases hb
    have hb0 : σ b = none := by rwa [ASt.set_ne hbd] at hb
    have hbp : (σ.set b (pr T st0)) b = pr T st0 := ASt.set_same _ _ _
    have hVb : LV (σ.set b (pr T st0)) := by
      unfold LV at hV ⊢
      rw [ASt.set_ne]
      · exact hV
      · rintro e; rw [← e, hV] at hb0; cases hb0
    obtain ⟨_, T2, S2⟩ := St2.of (σ := σ.set b (pr T st0)) (b := b) (d := d) (by rw [ASt.set_ne (Ne.symm hbd)]; exact hd) (pr_fix hbp).1 (pr_fix hbp).2
    have V2 : ∀ X Y, LV (T2 X Y) := fun X Y => S2.fix _ _ _ _ hVb
    have hst : ∀ Z : Option Role, (σ.set d Z).set b (some (.obj [.sl .shr (T.map tokAV), .int .i64 0, .int .i64 0, .int .i64 0, .int .i64 0])) = T2 (pr T st0) Z := fun Z => by
      have := S2.ba (pr T st0) Z
      rw [← this, set_swap hbd, ASt.set_set]
      rfl
    have k1 := S2.s1
    have hcb := fun Y => hwk b 0 st0 (n, s1) (by omega) hr1 (st0_fit hT.ends) _ (V2 (pr T st0) Y) (S2.a1 _ _)
    rw [show ((0 : Nat) : Int) = 0 from rfl] at hcb
    dsimp only at hcb
    obtain ⟨o, m, t, x, y, ks⟩ := n
    simp only [Nd.av_cs] at hcb
    generalize hKL : ks.map Nd.av = KL at *
    simp (disch := first | assumption | omega | (simp only [List.length_append, List.length_cons, List.length_nil]; omega)) only [go_sem, ↓reduceIte, hst]
    refine (hcb _).mono ?_
    rintro v σ1 ⟨rfl, rfl⟩
    rw [k1]
    simp (disch := first | assumption | omega | (simp only [List.length_append, List.length_cons, List.length_nil]; omega)) only [go_sem]
    refine allocC_by fun e he2 => ?_
    obtain ⟨hbe, hde, T3, S3⟩ := St3.of S2 (X0 := .obj _) he2
    have ab := S3.ab
    have k3 := S3.s3
    have k2 := S3.s2
    have k1 := S3.s1
    have w3 := S3.a3
    have w2 := S3.a2
    have w1 := S3.a1
    have hDr : ∀ X Y Z, Drop (T3 X Y Z) σ := fun X Y Z => by
      have h1 := S3.drop X Y Z
      rw [ASt.set_set] at h1
      exact h1.trans (Drop.set hb0)
    have hcu := fun Y Z => pcur_ok (T := T) hw.fit.i (w1 (pr T s1) Y Z)
    have hfl := fun τ hh => pfail_ok (T := T) (s := s1) hw.fit.i 10 (σ := τ) (b := b) hh
    generalize curT T s1 = tk at *
    unfold tokAV at hcu
    obtain ⟨F, hF⟩ : ∃ F, F = ACode.wp Tryz.prog c8_20 := ⟨_, rfl⟩
    have fin : ∀ a1 : AFr, (a1 2 = .ptr d 0 ∧ a1 8 = .ptr b 0 ∧ a1 9 = .ptr e 0) → F (RetQ [.c 2 (some 12), .t 3, .t 4] fun v σ' => v = .tuple [R.1.av, .int .i64 R.2.1, .int .i64 R.2.2] ∧ σ' = σ) a1 (T3 (pr T s2) (some (.obj zero12)) (some (.obj (Nd.cs o m t x y KL)))) := by
      intro a1 hf1
      rw [hF]
      unfold zero12
      have x1 : ∀ Y Z, T3 (pr T s2) Y Z b = some (.obj [.sl .shr (T.map tokAV), .int .i64 s2.i, .int .i64 s2.deep, .int .i64 s2.err, .int .i64 s2.bad]) := fun Y Z => w1 _ _ _
      by_cases h2 : s2.err = 0
      · rw [if_neg (by simp [h2])] at hR
        have hR' : (Nd.mk o m t x y ks, (0 : Int), (0 : Int)) = R := hR
        subst hR'
        dsimp only
        rw [Nd.av_cs, hKL]
        simp (disch := first | assumption | omega | (simp only [List.length_append, List.length_cons, List.length_nil]; omega)) only [go_sem, Nat.reduceEqDiff, Nat.reduceAdd, Nat.reduceLeDiff, ↓reduceIte, hf1, x1, h2, w3, w2, k2]
        exact retC_by (hDr _ _ _) (.refl _) ⟨rfl, rfl⟩
      · rw [if_pos h2] at hR
        have hR' : (zN, s2.bad, s2.err) = R := hR
        subst hR'
        dsimp only
        rw [zN_av]
        simp (disch := first | assumption | omega | (simp only [List.length_append, List.length_cons, List.length_nil]; omega)) only [go_sem, Nat.reduceEqDiff, Nat.reduceAdd, Nat.reduceLeDiff, ↓reduceIte, Bool.true_and, hf1, x1, h2, w2, k2]
        exact retC_by (hDr _ _ _) (hz _ _ _ _) ⟨rfl, rfl⟩
    unfold zero12 at fin
    simp (disch := first | assumption | omega | (simp only [List.length_append, List.length_cons, List.length_nil]; omega)) only [go_sem, Nat.reduceEqDiff, Nat.reduceAdd, Nat.reduceLeDiff, ↓reduceIte, ab, k3, w3, ←hF]
    refine (hcu _ _).mono ?_
    rintro v σ1 ⟨rfl, rfl⟩
    by_cases hk : tk.kind = 0
    · rw [if_neg (by simp [hk])] at hs2
      subst hs2
      simp (disch := first | assumption | omega | (simp only [List.length_append, List.length_cons, List.length_nil]; omega)) only [go_sem, ↓reduceIte, hk]
      refine fin _ ?_
      simp (disch := first | assumption | omega | (simp only [List.length_append, List.length_cons, List.length_nil]; omega)) only [go_sem, Nat.reduceEqDiff, ↓reduceIte]
    · rw [if_pos hk] at hs2
      subst hs2
      simp (disch := first | assumption | omega | (simp only [List.length_append, List.length_cons, List.length_nil]; omega)) only [go_sem, Nat.reduceEqDiff, ↓reduceIte, hk]
      refine (hfl _ (w1 _ _ _)).mono ?_
      rintro v σ1 ⟨rfl, rfl⟩
      rw [k1]
      simp (disch := first | assumption | omega | (simp only [List.length_append, List.length_cons, List.length_nil]; omega)) only [go_sem]
      refine fin _ ?_
      simp (disch := first | assumption | omega | (simp only [List.length_append, List.length_cons, List.length_nil]; omega)) only [go_sem, Nat.reduceEqDiff, ↓reduceIte]
  · rw [if_pos he] at hR
    have hR' : (zN, (at' : Int), er) = R := hR
    subst hR'
    rw [zN_av]
    simp (disch := first | assumption | omega | (simp only [List.length_append, List.length_cons, List.length_nil]; omega)) only [go_sem, Nat.reduceEqDiff, Nat.reduceAdd, Nat.reduceLeDiff, ↓reduceIte, Bool.true_and, he, ASt.set_set]
    exact retC_by (Drop.set hd) (hz _ _ _ _) ⟨rfl, rfl⟩
end Go.A
namespace Go.A
open Go.Proofs
/-! 13: tabular/shift.Copy -/
def c13_0 : ACode := .ops [
 ⟨some 3, none, .e (.box (.t 0)), []⟩,
 ⟨some 4, none, .e (.box (.t 1)), []⟩,
 ⟨some 5, none, .e (.box (.t 2)), []⟩,
 ⟨some 6, none, .e (.alloc [(.int .i64 0), (.int .i64 0), (.str []), (.int .i64 0), (.int .i64 0), (.bool false), (.bool false), (.int .i64 0), (.int .i64 0), (.bool false), (.bool false), (.sl .full [])]), []⟩]
def c13_1 : ACode := .ops [
 ⟨some 7, none, .q (.ld (some 12) (.t 3)), []⟩,
 ⟨some 8, none, .q (.mkf (.func 33) [] [(.t 4), (.t 5)]), []⟩,
 ⟨some 9, none, .e (.call 32 [(.t 7), (.t 8)]), []⟩,
 ⟨none, none, .e (.store 12 (.t 6) (.t 9)), []⟩]
def c13_2 : ACode := .seq c13_1 .ret
def c13_3 : ACode := .seq c13_0 c13_2
@[go_sem] theorem c13_0_wp : type_of% (wp_of c13_0.eq_1) := wp_of c13_0.eq_1
@[go_sem] theorem c13_1_wp : type_of% (wp_of c13_1.eq_1) := wp_of c13_1.eq_1
@[go_sem] theorem c13_2_wp : type_of% (wp_of c13_2.eq_1) := wp_of c13_2.eq_1
@[go_sem] theorem c13_3_wp : type_of% (wp_of c13_3.eq_1) := wp_of c13_3.eq_1
def c13 : AFn := ⟨10, [.c 6 (some 12)], c13_3⟩
set_option maxRecDepth 100000 in
theorem c13_ok : compF Tryz.prog Tryz.f13 = some c13 := by kernel_rfl
theorem a13 {args : List AV} {σ : ASt} {R : AV → ASt → Prop} (hl : args.length ≤ 10) (h : c13_3.wp Tryz.prog (RetQ [.c 6 (some 12)] R) (init args) σ) : ACalls Tryz.prog 13 args σ R := acalls_of Tryz.func13 c13_ok hl h
/-! 33: tabular/shift.Copy$1 -/
def c33_0 : ACode := .ops [
 ⟨some 3, none, .e (.box (.t 0)), []⟩,
 ⟨some 4, none, .e (.alloc [(.int .i64 0), (.int .i64 0), (.str []), (.int .i64 0), (.int .i64 0), (.bool false), (.bool false), (.int .i64 0), (.int .i64 0), (.bool false), (.bool false), (.sl .full [])]), []⟩]
def c33_1 : ACode := .ops [
 ⟨some 10, none, .q (.fa 3 (.t 3)), []⟩,
 ⟨some 11, none, .q (.ld (some 4) (.t 10)), []⟩,
 ⟨some 12, none, .q (.ld none (.t 1)), []⟩,
 ⟨some 13, none, .q (.ld none (.t 2)), []⟩,
 ⟨some 14, none, .e (.call 34 [(.t 11), (.t 12), (.t 13)]), []⟩,
 ⟨some 9, none, .q (.mv (.t 14)), []⟩,
 ⟨some 15, none, .q (.ext 0 (.t 9)), []⟩,
 ⟨some 16, none, .q (.ext 1 (.t 9)), []⟩,
 ⟨some 5, none, .e (.alloc [(.int .i64 0), (.int .i64 0), (.bool false), (.bool false)]), []⟩,
 ⟨none, none, .e (.store 4 (.t 5) (.t 15)), []⟩,
 ⟨some 6, none, .q (.mv (.t 16)), []⟩]
def c33_2 : ACode := .ops [
 ⟨some 17, none, .q (.fa 0 (.t 3)), []⟩,
 ⟨some 18, none, .q (.ld none (.t 17)), []⟩,
 ⟨some 19, none, .q (.bin .eql (.t 18) (.v (.int .i64 5))), []⟩]
def c33_3 : ACode := .ops [
 ⟨some 20, none, .q (.mv (.t 6)), []⟩,
 ⟨some 21, none, .q (.un .not (.t 20)), []⟩]
def c33_4 : ACode := .ops [
 ⟨some 22, none, .e (.call 35 []), []⟩,
 ⟨none, none, .e (.store 12 (.t 4) (.t 22)), []⟩]
def c33_5 : ACode := .seq c33_4 .ret
def c33_6 : ACode := .cond (.t 21) c33_5 .skip
def c33_7 : ACode := .seq c33_3 c33_6
def c33_8 : ACode := .ops [
 ⟨some 23, none, .q (.ld (some 4) (.t 5)), []⟩,
 ⟨some 24, none, .q (.fa 3 (.t 3)), []⟩,
 ⟨none, none, .e (.store 4 (.t 24) (.t 23)), []⟩]
def c33_9 : ACode := .ops [
 ⟨some 25, none, .q (.ld (some 12) (.t 3)), []⟩,
 ⟨none, none, .e (.store 12 (.t 4) (.t 25)), []⟩]
def c33_10 : ACode := .seq c33_9 .ret
def c33_11 : ACode := .seq c33_8 c33_10
def c33_12 : ACode := .seq c33_7 c33_11
def c33_13 : ACode := .cond (.t 19) c33_12 .skip
def c33_14 : ACode := .seq c33_2 c33_13
def c33_15 : ACode := .ops [
 ⟨some 27, none, .q (.fa 7 (.t 3)), []⟩,
 ⟨some 28, none, .q (.ld (some 4) (.t 27)), []⟩,
 ⟨some 29, none, .q (.ld none (.t 1)), []⟩,
 ⟨some 30, none, .q (.ld none (.t 2)), []⟩,
 ⟨some 31, none, .e (.call 34 [(.t 28), (.t 29), (.t 30)]), []⟩,
 ⟨some 26, none, .q (.mv (.t 31)), []⟩,
 ⟨some 32, none, .q (.ext 0 (.t 26)), []⟩,
 ⟨some 33, none, .q (.ext 1 (.t 26)), []⟩,
 ⟨some 7, none, .e (.alloc [(.int .i64 0), (.int .i64 0), (.bool false), (.bool false)]), []⟩,
 ⟨none, none, .e (.store 4 (.t 7) (.t 32)), []⟩,
 ⟨some 8, none, .q (.mv (.t 33)), []⟩]
def c33_16 : ACode := .ops [
 ⟨some 34, none, .q (.mv (.t 6)), []⟩,
 ⟨some 35, none, .q (.un .not (.t 34)), []⟩,
 ⟨some 36, none, .q (.mv (.t 35)), []⟩,
 ⟨some 37, some (36, false), .q (.mv (.t 8)), []⟩,
 ⟨some 38, some (36, false), .q (.un .not (.t 37)), []⟩,
 ⟨some 39, none, .q (.pick (.t 36) (.v (.bool true)) (.t 38)), []⟩]
def c33_17 : ACode := .ops [
 ⟨some 40, none, .e (.call 35 []), []⟩,
 ⟨none, none, .e (.store 12 (.t 4) (.t 40)), []⟩]
def c33_18 : ACode := .seq c33_17 .ret
def c33_19 : ACode := .cond (.t 39) c33_18 .skip
def c33_20 : ACode := .seq c33_16 c33_19
def c33_21 : ACode := .ops [
 ⟨some 41, none, .q (.ld (some 4) (.t 5)), []⟩,
 ⟨some 42, none, .q (.ld (some 4) (.t 7)), []⟩,
 ⟨some 43, none, .q (.fa 3 (.t 3)), []⟩,
 ⟨none, none, .e (.store 4 (.t 43) (.t 41)), [⟨none, .ld (some 4) (.t 7), 42⟩]⟩,
 ⟨some 44, none, .q (.fa 7 (.t 3)), []⟩,
 ⟨none, none, .e (.store 4 (.t 44) (.t 42)), []⟩]
def c33_22 : ACode := .ops [
 ⟨some 45, none, .q (.ld (some 12) (.t 3)), []⟩,
 ⟨none, none, .e (.store 12 (.t 4) (.t 45)), []⟩]
def c33_23 : ACode := .seq c33_22 .ret
def c33_24 : ACode := .seq c33_21 c33_23
def c33_25 : ACode := .seq c33_20 c33_24
def c33_26 : ACode := .seq c33_15 c33_25
def c33_27 : ACode := .seq c33_14 c33_26
def c33_28 : ACode := .seq c33_1 c33_27
def c33_29 : ACode := .seq c33_0 c33_28
@[go_sem] theorem c33_0_wp : type_of% (wp_of c33_0.eq_1) := wp_of c33_0.eq_1
@[go_sem] theorem c33_1_wp : type_of% (wp_of c33_1.eq_1) := wp_of c33_1.eq_1
@[go_sem] theorem c33_2_wp : type_of% (wp_of c33_2.eq_1) := wp_of c33_2.eq_1
@[go_sem] theorem c33_3_wp : type_of% (wp_of c33_3.eq_1) := wp_of c33_3.eq_1
@[go_sem] theorem c33_4_wp : type_of% (wp_of c33_4.eq_1) := wp_of c33_4.eq_1
@[go_sem] theorem c33_5_wp : type_of% (wp_of c33_5.eq_1) := wp_of c33_5.eq_1
@[go_sem] theorem c33_6_wp : type_of% (wp_of c33_6.eq_1) := wp_of c33_6.eq_1
@[go_sem] theorem c33_7_wp : type_of% (wp_of c33_7.eq_1) := wp_of c33_7.eq_1
@[go_sem] theorem c33_8_wp : type_of% (wp_of c33_8.eq_1) := wp_of c33_8.eq_1
@[go_sem] theorem c33_9_wp : type_of% (wp_of c33_9.eq_1) := wp_of c33_9.eq_1
@[go_sem] theorem c33_10_wp : type_of% (wp_of c33_10.eq_1) := wp_of c33_10.eq_1
@[go_sem] theorem c33_11_wp : type_of% (wp_of c33_11.eq_1) := wp_of c33_11.eq_1
@[go_sem] theorem c33_12_wp : type_of% (wp_of c33_12.eq_1) := wp_of c33_12.eq_1
@[go_sem] theorem c33_13_wp : type_of% (wp_of c33_13.eq_1) := wp_of c33_13.eq_1
@[go_sem] theorem c33_14_wp : type_of% (wp_of c33_14.eq_1) := wp_of c33_14.eq_1
@[go_sem] theorem c33_15_wp : type_of% (wp_of c33_15.eq_1) := wp_of c33_15.eq_1
@[go_sem] theorem c33_16_wp : type_of% (wp_of c33_16.eq_1) := wp_of c33_16.eq_1
@[go_sem] theorem c33_17_wp : type_of% (wp_of c33_17.eq_1) := wp_of c33_17.eq_1
@[go_sem] theorem c33_18_wp : type_of% (wp_of c33_18.eq_1) := wp_of c33_18.eq_1
@[go_sem] theorem c33_19_wp : type_of% (wp_of c33_19.eq_1) := wp_of c33_19.eq_1
@[go_sem] theorem c33_20_wp : type_of% (wp_of c33_20.eq_1) := wp_of c33_20.eq_1
@[go_sem] theorem c33_21_wp : type_of% (wp_of c33_21.eq_1) := wp_of c33_21.eq_1
@[go_sem] theorem c33_22_wp : type_of% (wp_of c33_22.eq_1) := wp_of c33_22.eq_1
@[go_sem] theorem c33_23_wp : type_of% (wp_of c33_23.eq_1) := wp_of c33_23.eq_1
@[go_sem] theorem c33_24_wp : type_of% (wp_of c33_24.eq_1) := wp_of c33_24.eq_1
@[go_sem] theorem c33_25_wp : type_of% (wp_of c33_25.eq_1) := wp_of c33_25.eq_1
@[go_sem] theorem c33_26_wp : type_of% (wp_of c33_26.eq_1) := wp_of c33_26.eq_1
@[go_sem] theorem c33_27_wp : type_of% (wp_of c33_27.eq_1) := wp_of c33_27.eq_1
@[go_sem] theorem c33_28_wp : type_of% (wp_of c33_28.eq_1) := wp_of c33_28.eq_1
@[go_sem] theorem c33_29_wp : type_of% (wp_of c33_29.eq_1) := wp_of c33_29.eq_1
def c33 : AFn := ⟨46, [.c 4 (some 12)], c33_29⟩
set_option maxRecDepth 100000 in
theorem c33_ok : compF Tryz.prog Tryz.f33 = some c33 := by kernel_rfl
theorem a33 {args : List AV} {σ : ASt} {R : AV → ASt → Prop} (hl : args.length ≤ 46) (h : c33_29.wp Tryz.prog (RetQ [.c 4 (some 12)] R) (init args) σ) : ACalls Tryz.prog 33 args σ R := acalls_of Tryz.func33 c33_ok hl h
end Go.A
namespace Go.A
open Go.Proofs Go.Lib
set_option maxRecDepth 100000
set_option linter.unusedSimpArgs false
set_option linter.unusedVariables false
def copyN (rows cols : Int) : Nd → Nd
  | .mk op n s a b ks =>
    if op = 5 then if (movedP a rows cols).2 = true then .mk op n s (movedP a rows cols).1 b ks else goneN
    else if (movedP a rows cols).2 = true ∧ (movedP b rows cols).2 = true then .mk op n s (movedP a rows cols).1 (movedP b rows cols).1 ks else goneN
def Nd.copy (n : Nd) (rows cols : Int) : Nd := Nd.map (copyN rows cols) n
def CopAt (rows cols : Int) (c c2 : Nat) (σ : ASt) : Prop := σ c = some (.obj [.int .i64 rows]) ∧ σ c2 = some (.obj [.int .i64 cols])
theorem shCopy1_ok (rows cols : Int) (c c2 : Nat) (x : Nd) (hx : x.ok) (ho : x.op = 5 ∨ x.op = 6) (σ : ASt) (hσ : CopAt rows cols c c2 σ) :
    ACalls Tryz.prog 33 [x.av, .ptr c 0, .ptr c2 0] σ fun v σ' => v = (copyN rows cols x).av ∧ σ' = σ := by
  obtain ⟨op, n, s, a, b, ks⟩ := x
  have hr := ok_refs hx
  obtain ⟨hs1, hs2⟩ := hσ
  change op = 5 ∨ op = 6 at ho
  have hg : Pure Tryz.prog 35 [] (.agg [.int .i64 4, .int .i64 40000, .str [], .int .i64 0, .int .i64 0, .bool false, .bool false, .int .i64 0, .int .i64 0, .bool false, .bool false, .sl .shr []]) := by
    have := shgone_ok
    rw [Nd.av_cs] at this
    exact this
  have hga := gone_av
  have na := good_near (hr.1 ho)
  have hm := moved_ok a rows cols ⟨na.1, na.2.1⟩ ⟨na.2.2.1, na.2.2.2⟩
  have hm2 : op ≠ 5 → Pure Tryz.prog 34 [refAV b, .int .i64 rows, .int .i64 cols] (.tuple [refAV (movedP b rows cols).1, .bool (movedP b rows cols).2]) := fun h => by
    have nb := good_near (hr.2 (by omega))
    exact moved_ok b rows cols ⟨nb.1, nb.2.1⟩ ⟨nb.2.2.1, nb.2.2.2⟩
  have hav : ∀ r u : Ref, (Nd.mk op n s r u ks).av = .agg [.int .i64 op, .int .i64 n, .str s, .int .i64 r.row, .int .i64 r.col, .bool r.absRow, .bool r.absCol, .int .i64 u.row, .int .i64 u.col, .bool u.absRow, .bool u.absCol, .sl .shr (ks.map Nd.av)] := fun r u => Nd.av_cs ..
  rw [copyN, hav]
  obtain ⟨⟨a', ok⟩, hA⟩ : ∃ q, movedP a rows cols = q := ⟨_, rfl⟩
  obtain ⟨⟨b', ok2⟩, hB⟩ : ∃ q, movedP b rows cols = q := ⟨_, rfl⟩
  rw [hA] at hm ⊢
  rw [hB] at hm2 ⊢
  dsimp only at hm hm2 ⊢
  unfold refAV at hm hm2
  by_cases h5 : op = 5
  · rw [if_pos h5]
    cases ok with
    | true =>
      rw [if_pos rfl, hav]
      generalize ks.map Nd.av = L at *
      refine a33 (by simp) ?_
      simp (disch := first | assumption | omega | (simp only [List.length_append, List.length_cons, List.length_nil]; omega)) only [go_sem]
      refine boxC_by rfl fun d hd => ?_
      have hcd : c ≠ d := by rintro rfl; rw [hd] at hs1; cases hs1
      have hcd2 : c2 ≠ d := by rintro rfl; rw [hd] at hs2; cases hs2
      simp (disch := first | assumption | omega | (simp only [List.length_append, List.length_cons, List.length_nil]; omega)) only [go_sem]
      refine allocC_by fun t ht => ?_
      have hct : c ≠ t := by rintro rfl; rw [ASt.set_ne hcd, hs1] at ht; cases ht
      have hct2 : c2 ≠ t := by rintro rfl; rw [ASt.set_ne hcd2, hs2] at ht; cases ht
      repeat (with_reducible replace ht := set_none ht; obtain ⟨_, _, ht⟩ := ht)
      have hdt : d ≠ t := by assumption
      simp (disch := first | assumption | omega | (simp only [List.length_append, List.length_cons, List.length_nil]; omega)) only [go_sem, Nat.reduceEqDiff, Nat.reduceAdd, Nat.reduceLeDiff, ↓reduceIte, hs1, hs2]
      refine hm.use ?_
      simp (disch := first | assumption | omega | (simp only [List.length_append, List.length_cons, List.length_nil]; omega)) only [go_sem, Nat.reduceEqDiff, ↓reduceIte]
      refine allocC_by fun u hu => ?_
      repeat (with_reducible replace hu := set_none hu; obtain ⟨_, _, hu⟩ := hu)
      have hdu : d ≠ u := by assumption
      have htu : t ≠ u := by assumption
      have hsw : ∀ (ρ : ASt) (X Y Z W : Option Role), (((ρ.set d X).set t Y).set u Z).set d W = ((ρ.set d W).set t Y).set u Z := fun ρ X Y Z W => by rw [set_swap (Ne.symm hdu), set_mid hdt]
      have hsw2 : ∀ (ρ : ASt) (X Y Z : Option Role), ((ρ.set t X).set u Y).set t Z = (ρ.set t Z).set u Y := fun _ _ _ _ => set_mid htu
      simp (disch := first | assumption | omega | (simp only [List.length_append, List.length_cons, List.length_nil]; omega)) only [go_sem, Nat.reduceEqDiff, Nat.reduceAdd, Nat.reduceLeDiff, ↓reduceIte, Bool.true_and, h5, hsw, hsw2, ASt.set_set]
      exact retC_by (by repeat' (first | exact Drop.refl _ | with_reducible refine Drop.off ?_ (by assumption))) (.refl _) ⟨rfl, rfl⟩
    | false =>
      rw [if_neg (by simp), hga]
      generalize ks.map Nd.av = L at *
      refine a33 (by simp) ?_
      simp (disch := first | assumption | omega | (simp only [List.length_append, List.length_cons, List.length_nil]; omega)) only [go_sem]
      refine boxC_by rfl fun d hd => ?_
      have hcd : c ≠ d := by rintro rfl; rw [hd] at hs1; cases hs1
      have hcd2 : c2 ≠ d := by rintro rfl; rw [hd] at hs2; cases hs2
      simp (disch := first | assumption | omega | (simp only [List.length_append, List.length_cons, List.length_nil]; omega)) only [go_sem]
      refine allocC_by fun t ht => ?_
      have hct : c ≠ t := by rintro rfl; rw [ASt.set_ne hcd, hs1] at ht; cases ht
      have hct2 : c2 ≠ t := by rintro rfl; rw [ASt.set_ne hcd2, hs2] at ht; cases ht
      repeat (with_reducible replace ht := set_none ht; obtain ⟨_, _, ht⟩ := ht)
      simp (disch := first | assumption | omega | (simp only [List.length_append, List.length_cons, List.length_nil]; omega)) only [go_sem, Nat.reduceEqDiff, Nat.reduceAdd, Nat.reduceLeDiff, ↓reduceIte, hs1, hs2]
      refine hm.use ?_
      simp (disch := first | assumption | omega | (simp only [List.length_append, List.length_cons, List.length_nil]; omega)) only [go_sem, Nat.reduceEqDiff, ↓reduceIte]
      refine allocC_by fun u hu => ?_
      repeat (with_reducible replace hu := set_none hu; obtain ⟨_, _, hu⟩ := hu)
      have htu : t ≠ u := by assumption
      have hsw2 : ∀ (ρ : ASt) (X Y Z : Option Role), ((ρ.set t X).set u Y).set t Z = (ρ.set t Z).set u Y := fun _ _ _ _ => set_mid htu
      simp (disch := first | assumption | omega | (simp only [List.length_append, List.length_cons, List.length_nil]; omega)) only [go_sem, Nat.reduceEqDiff, Nat.reduceAdd, Nat.reduceLeDiff, ↓reduceIte, Bool.true_and, h5, ASt.set_set]
      refine hg.use ?_
      simp (disch := first | assumption | omega | (simp only [List.length_append, List.length_cons, List.length_nil]; omega)) only [go_sem, Nat.reduceEqDiff, Nat.reduceAdd, Nat.reduceLeDiff, ↓reduceIte, Bool.true_and, hsw2]
      exact retC_by (by repeat' (first | exact Drop.refl _ | with_reducible refine Drop.off ?_ (by assumption))) (.refl _) ⟨rfl, rfl⟩
  · rw [if_neg h5]
    have hm2 := hm2 h5
    cases ok with
    | true =>
      cases ok2 with
      | true =>
        rw [if_pos ⟨rfl, rfl⟩, hav]
        generalize ks.map Nd.av = L at *
        refine a33 (by simp) ?_
        simp (disch := first | assumption | omega | (simp only [List.length_append, List.length_cons, List.length_nil]; omega)) only [go_sem]
        refine boxC_by rfl fun d hd => ?_
        have hcd : c ≠ d := by rintro rfl; rw [hd] at hs1; cases hs1
        have hcd2 : c2 ≠ d := by rintro rfl; rw [hd] at hs2; cases hs2
        simp (disch := first | assumption | omega | (simp only [List.length_append, List.length_cons, List.length_nil]; omega)) only [go_sem]
        refine allocC_by fun t ht => ?_
        have hct : c ≠ t := by rintro rfl; rw [ASt.set_ne hcd, hs1] at ht; cases ht
        have hct2 : c2 ≠ t := by rintro rfl; rw [ASt.set_ne hcd2, hs2] at ht; cases ht
        have ht0 := ht
        repeat (with_reducible replace ht := set_none ht; obtain ⟨_, _, ht⟩ := ht)
        have hdt : d ≠ t := by assumption
        simp (disch := first | assumption | omega | (simp only [List.length_append, List.length_cons, List.length_nil]; omega)) only [go_sem, Nat.reduceEqDiff, Nat.reduceAdd, Nat.reduceLeDiff, ↓reduceIte, hs1, hs2]
        refine hm.use ?_
        simp (disch := first | assumption | omega | (simp only [List.length_append, List.length_cons, List.length_nil]; omega)) only [go_sem, Nat.reduceEqDiff, ↓reduceIte]
        refine allocC_by fun u hu => ?_
        have hcu : c ≠ u := by rintro rfl; rw [ASt.set_ne hct, ASt.set_ne hcd, hs1] at hu; cases hu
        have hcu2 : c2 ≠ u := by rintro rfl; rw [ASt.set_ne hct2, ASt.set_ne hcd2, hs2] at hu; cases hu
        repeat (with_reducible replace hu := set_none hu; obtain ⟨_, _, hu⟩ := hu)
        have hdu : d ≠ u := by assumption
        have htu : t ≠ u := by assumption
        simp (disch := first | assumption | omega | (simp only [List.length_append, List.length_cons, List.length_nil]; omega)) only [go_sem, Nat.reduceEqDiff, Nat.reduceAdd, Nat.reduceLeDiff, ↓reduceIte, Bool.true_and, h5, hs1, hs2]
        refine hm2.use ?_
        simp (disch := first | assumption | omega | (simp only [List.length_append, List.length_cons, List.length_nil]; omega)) only [go_sem, Nat.reduceEqDiff, ↓reduceIte]
        refine allocC_by fun w hw => ?_
        repeat (with_reducible replace hw := set_none hw; obtain ⟨_, _, hw⟩ := hw)
        have hdw : d ≠ w := by assumption
        have htw : t ≠ w := by assumption
        have huw : u ≠ w := by assumption
        have hsw : ∀ (ρ : ASt) (X Y Z V W : Option Role), ((((ρ.set d X).set t Y).set u Z).set w V).set d W = (((ρ.set d W).set t Y).set u Z).set w V := fun ρ X Y Z V W => by rw [set_swap (Ne.symm hdw), set_swap (Ne.symm hdu), set_mid hdt]
        have hsw2 : ∀ (ρ : ASt) (X Y Z V : Option Role), (((ρ.set t X).set u Y).set w Z).set t V = ((ρ.set t V).set u Y).set w Z := fun ρ X Y Z V => by rw [set_swap (Ne.symm htw), set_mid htu]
        have hsw3 : ∀ (ρ : ASt) (X Y Z : Option Role), ((ρ.set u X).set w Y).set u Z = (ρ.set u Z).set w Y := fun _ _ _ _ => set_mid huw
        simp (disch := first | assumption | omega | (simp only [List.length_append, List.length_cons, List.length_nil]; omega)) only [go_sem, Nat.reduceEqDiff, Nat.reduceAdd, Nat.reduceLeDiff, ↓reduceIte, Bool.true_and, hsw, hsw2, ASt.set_set]
        exact retC_by (by repeat' (first | exact Drop.refl _ | with_reducible refine Drop.off ?_ (by assumption))) (.refl _) ⟨rfl, rfl⟩
      | false =>
        rw [if_neg (by simp), hga]
        generalize ks.map Nd.av = L at *
        refine a33 (by simp) ?_
        simp (disch := first | assumption | omega | (simp only [List.length_append, List.length_cons, List.length_nil]; omega)) only [go_sem]
        refine boxC_by rfl fun d hd => ?_
        have hcd : c ≠ d := by rintro rfl; rw [hd] at hs1; cases hs1
        have hcd2 : c2 ≠ d := by rintro rfl; rw [hd] at hs2; cases hs2
        simp (disch := first | assumption | omega | (simp only [List.length_append, List.length_cons, List.length_nil]; omega)) only [go_sem]
        refine allocC_by fun t ht => ?_
        have hct : c ≠ t := by rintro rfl; rw [ASt.set_ne hcd, hs1] at ht; cases ht
        have hct2 : c2 ≠ t := by rintro rfl; rw [ASt.set_ne hcd2, hs2] at ht; cases ht
        repeat (with_reducible replace ht := set_none ht; obtain ⟨_, _, ht⟩ := ht)
        simp (disch := first | assumption | omega | (simp only [List.length_append, List.length_cons, List.length_nil]; omega)) only [go_sem, Nat.reduceEqDiff, Nat.reduceAdd, Nat.reduceLeDiff, ↓reduceIte, hs1, hs2]
        refine hm.use ?_
        simp (disch := first | assumption | omega | (simp only [List.length_append, List.length_cons, List.length_nil]; omega)) only [go_sem, Nat.reduceEqDiff, ↓reduceIte]
        refine allocC_by fun u hu => ?_
        have hcu : c ≠ u := by rintro rfl; rw [ASt.set_ne hct, ASt.set_ne hcd, hs1] at hu; cases hu
        have hcu2 : c2 ≠ u := by rintro rfl; rw [ASt.set_ne hct2, ASt.set_ne hcd2, hs2] at hu; cases hu
        repeat (with_reducible replace hu := set_none hu; obtain ⟨_, _, hu⟩ := hu)
        have htu : t ≠ u := by assumption
        simp (disch := first | assumption | omega | (simp only [List.length_append, List.length_cons, List.length_nil]; omega)) only [go_sem, Nat.reduceEqDiff, Nat.reduceAdd, Nat.reduceLeDiff, ↓reduceIte, Bool.true_and, h5, hs1, hs2]
        refine hm2.use ?_
        simp (disch := first | assumption | omega | (simp only [List.length_append, List.length_cons, List.length_nil]; omega)) only [go_sem, Nat.reduceEqDiff, ↓reduceIte]
        refine allocC_by fun w hw => ?_
        repeat (with_reducible replace hw := set_none hw; obtain ⟨_, _, hw⟩ := hw)
        have htw : t ≠ w := by assumption
        have huw : u ≠ w := by assumption
        have hsw2 : ∀ (ρ : ASt) (X Y Z V : Option Role), (((ρ.set t X).set u Y).set w Z).set t V = ((ρ.set t V).set u Y).set w Z := fun ρ X Y Z V => by rw [set_swap (Ne.symm htw), set_mid htu]
        simp (disch := first | assumption | omega | (simp only [List.length_append, List.length_cons, List.length_nil]; omega)) only [go_sem, Nat.reduceEqDiff, Nat.reduceAdd, Nat.reduceLeDiff, ↓reduceIte, Bool.true_and, ASt.set_set]
        refine hg.use ?_
        simp (disch := first | assumption | omega | (simp only [List.length_append, List.length_cons, List.length_nil]; omega)) only [go_sem, Nat.reduceEqDiff, Nat.reduceAdd, Nat.reduceLeDiff, ↓reduceIte, Bool.true_and, hsw2]
        exact retC_by (by repeat' (first | exact Drop.refl _ | with_reducible refine Drop.off ?_ (by assumption))) (.refl _) ⟨rfl, rfl⟩
    | false =>
      rw [if_neg (by simp), hga]
      generalize ks.map Nd.av = L at *
      refine a33 (by simp) ?_
      simp (disch := first | assumption | omega | (simp only [List.length_append, List.length_cons, List.length_nil]; omega)) only [go_sem]
      refine boxC_by rfl fun d hd => ?_
      have hcd : c ≠ d := by rintro rfl; rw [hd] at hs1; cases hs1
      have hcd2 : c2 ≠ d := by rintro rfl; rw [hd] at hs2; cases hs2
      simp (disch := first | assumption | omega | (simp only [List.length_append, List.length_cons, List.length_nil]; omega)) only [go_sem]
      refine allocC_by fun t ht => ?_
      have hct : c ≠ t := by rintro rfl; rw [ASt.set_ne hcd, hs1] at ht; cases ht
      have hct2 : c2 ≠ t := by rintro rfl; rw [ASt.set_ne hcd2, hs2] at ht; cases ht
      repeat (with_reducible replace ht := set_none ht; obtain ⟨_, _, ht⟩ := ht)
      simp (disch := first | assumption | omega | (simp only [List.length_append, List.length_cons, List.length_nil]; omega)) only [go_sem, Nat.reduceEqDiff, Nat.reduceAdd, Nat.reduceLeDiff, ↓reduceIte, hs1, hs2]
      refine hm.use ?_
      simp (disch := first | assumption | omega | (simp only [List.length_append, List.length_cons, List.length_nil]; omega)) only [go_sem, Nat.reduceEqDiff, ↓reduceIte]
      refine allocC_by fun u hu => ?_
      have hcu : c ≠ u := by rintro rfl; rw [ASt.set_ne hct, ASt.set_ne hcd, hs1] at hu; cases hu
      have hcu2 : c2 ≠ u := by rintro rfl; rw [ASt.set_ne hct2, ASt.set_ne hcd2, hs2] at hu; cases hu
      repeat (with_reducible replace hu := set_none hu; obtain ⟨_, _, hu⟩ := hu)
      have htu : t ≠ u := by assumption
      simp (disch := first | assumption | omega | (simp only [List.length_append, List.length_cons, List.length_nil]; omega)) only [go_sem, Nat.reduceEqDiff, Nat.reduceAdd, Nat.reduceLeDiff, ↓reduceIte, Bool.true_and, h5, hs1, hs2]
      refine hm2.use ?_
      simp (disch := first | assumption | omega | (simp only [List.length_append, List.length_cons, List.length_nil]; omega)) only [go_sem, Nat.reduceEqDiff, ↓reduceIte]
      refine allocC_by fun w hw => ?_
      repeat (with_reducible replace hw := set_none hw; obtain ⟨_, _, hw⟩ := hw)
      have htw : t ≠ w := by assumption
      have huw : u ≠ w := by assumption
      have hsw2 : ∀ (ρ : ASt) (X Y Z V : Option Role), (((ρ.set t X).set u Y).set w Z).set t V = ((ρ.set t V).set u Y).set w Z := fun ρ X Y Z V => by rw [set_swap (Ne.symm htw), set_mid htu]
      simp (disch := first | assumption | omega | (simp only [List.length_append, List.length_cons, List.length_nil]; omega)) only [go_sem, Nat.reduceEqDiff, Nat.reduceAdd, Nat.reduceLeDiff, ↓reduceIte, Bool.true_and, ASt.set_set]
      refine hg.use ?_
      simp (disch := first | assumption | omega | (simp only [List.length_append, List.length_cons, List.length_nil]; omega)) only [go_sem, Nat.reduceEqDiff, Nat.reduceAdd, Nat.reduceLeDiff, ↓reduceIte, Bool.true_and, hsw2]
      exact retC_by (by repeat' (first | exact Drop.refl _ | with_reducible refine Drop.off ?_ (by assumption))) (.refl _) ⟨rfl, rfl⟩
theorem copy_map (rows cols : Int) (c c2 : Nat) : MapG Nd.ok (.func (.func 33) [] [.ptr c 0, .ptr c2 0]) (copyN rows cols) (CopAt rows cols c c2) := by
  refine ⟨33, [.ptr c 0, .ptr c2 0], rfl, by kernel_rfl, fun σ b r hσ hb => ⟨?_, ?_⟩, fun x σ hσ hx ho => shCopy1_ok rows cols c c2 x hx ho σ hσ⟩
  · rw [ASt.set_ne]
    · exact hσ.1
    · rintro rfl; rw [hσ.1] at hb; cases hb
  · rw [ASt.set_ne]
    · exact hσ.2
    · rintro rfl; rw [hσ.2] at hb; cases hb
theorem shcopy_ok (n : Nd) (hn : n.ok) (hs : n.size ≤ 1000000000) (rows cols : Int) : Pure Tryz.prog 13 [n.av, .int .i64 rows, .int .i64 cols] (n.copy rows cols).av := by
  intro σ
  have hM := fun c c2 => mapg_le _ (copyN rows cols) (CopAt rows cols c c2) Nd.ok ok_kids (copy_map rows cols c c2) n.size n (Nat.le_refl _) hs hn
  unfold Nd.copy
  obtain ⟨⟨wo, wm, ws, wa, wb, wk⟩, hw⟩ : ∃ w, Nd.map (copyN rows cols) n = w := ⟨_, rfl⟩
  rw [hw, Nd.av_cs]
  simp only [hw, Nd.av_cs] at hM
  obtain ⟨op, m, s, a, b, ks⟩ := n
  have hav : (Nd.mk op m s a b ks).av = .agg [.int .i64 op, .int .i64 m, .str s, .int .i64 a.row, .int .i64 a.col, .bool a.absRow, .bool a.absCol, .int .i64 b.row, .int .i64 b.col, .bool b.absRow, .bool b.absCol, .sl .shr (ks.map Nd.av)] := Nd.av_cs ..
  rw [hav]
  unfold Nd.cs at hM ⊢
  simp only [hav] at hM
  generalize ks.map Nd.av = L at *
  generalize wk.map Nd.av = WL at *
  refine a13 (by simp) ?_
  simp (disch := first | assumption | omega | (simp only [List.length_append, List.length_cons, List.length_nil]; omega)) only [go_sem]
  refine boxC_by rfl fun d hd => ?_
  simp (disch := first | assumption | omega | (simp only [List.length_append, List.length_cons, List.length_nil]; omega)) only [go_sem, Nat.reduceEqDiff, ↓reduceIte]
  refine boxC_by rfl fun c hc => ?_
  have hdc : d ≠ c := by rintro rfl; rw [ASt.set_same] at hc; cases hc
  repeat (with_reducible replace hc := set_none hc; obtain ⟨_, _, hc⟩ := hc)
  simp (disch := first | assumption | omega | (simp only [List.length_append, List.length_cons, List.length_nil]; omega)) only [go_sem, Nat.reduceEqDiff, ↓reduceIte]
  refine boxC_by rfl fun c2 hc2 => ?_
  have hcc : c ≠ c2 := by rintro rfl; rw [ASt.set_same] at hc2; cases hc2
  repeat (with_reducible replace hc2 := set_none hc2; obtain ⟨_, _, hc2⟩ := hc2)
  simp (disch := first | assumption | omega | (simp only [List.length_append, List.length_cons, List.length_nil]; omega)) only [go_sem]
  refine allocC_by fun t ht => ?_
  have hct2 : c2 ≠ t := by rintro rfl; rw [ASt.set_same] at ht; cases ht
  have hct : c ≠ t := by rintro rfl; rw [ASt.set_ne hcc, ASt.set_same] at ht; cases ht
  repeat (with_reducible replace ht := set_none ht; obtain ⟨_, _, ht⟩ := ht)
  simp (disch := first | assumption | omega | (simp only [List.length_append, List.length_cons, List.length_nil]; omega)) only [go_sem, Nat.reduceEqDiff, Nat.reduceAdd, Nat.reduceLeDiff, ↓reduceIte]
  refine (hM c c2 _ ⟨?_, ?_⟩).mono ?_
  · rw [ASt.set_ne hct, ASt.set_ne hcc, ASt.set_same]
  · rw [ASt.set_ne hct2, ASt.set_same]
  rintro v σ' ⟨rfl, rfl⟩
  simp (disch := first | assumption | omega | (simp only [List.length_append, List.length_cons, List.length_nil]; omega)) only [go_sem, Nat.reduceEqDiff, Nat.reduceAdd, Nat.reduceLeDiff, ↓reduceIte, Bool.true_and, ASt.set_set]
  exact retC_by (by repeat' (first | exact Drop.refl _ | with_reducible refine Drop.off ?_ (by assumption))) (.refl _) ⟨rfl, rfl⟩
mutual
def Nd.okB : Nd → Bool
  | .mk op n s a b ks => (decide (1 ≤ op ∧ op ≤ 23) && (decide (op ≠ 1) || decide (n.natAbs ≤ 999999999999999999)) && (decide (op ≠ 2) || decide (s.length ≤ 100000)) && (decide (op ≠ 4) || decide (1 ≤ n.tdiv 10000 ∧ n.tdiv 10000 ≤ 7)) && (decide (op ≠ 22) || !s.isEmpty) && (decide (¬ (op = 5 ∨ op = 6)) || a.good) && (decide (op ≠ 6) || b.good) && (decide (¬ (op = 7 ∨ op = 8 ∨ op = 9)) || decide (1 ≤ ks.length)) && (decide (¬ (10 ≤ op ∧ op ≤ 21)) || decide (2 ≤ ks.length)) && decide (ks.length ≤ 1000000)) && Nd.oksB ks
def Nd.oksB : List Nd → Bool
  | [] => true
  | x :: xs => Nd.okB x && Nd.oksB xs
end
mutual
theorem okB_ok : ∀ {n : Nd}, n.okB = true → n.ok
  | .mk op n s a b ks, h => by
    rw [Nd.okB] at h
    simp only [Bool.and_eq_true, Bool.or_eq_true, decide_eq_true_eq, Bool.not_eq_true'] at h
    obtain ⟨⟨⟨⟨⟨⟨⟨⟨⟨⟨h1, h2⟩, h3⟩, h4⟩, h5⟩, h6⟩, h7⟩, h8⟩, h9⟩, h10⟩, h11⟩ := h
    rw [Nd.ok]
    refine ⟨⟨h1, fun h => h2.resolve_left (by omega), fun h => h3.resolve_left (by omega), fun h => h4.resolve_left (by omega), fun h hs => ?_, fun h => h6.resolve_left (fun k => k h), fun h => h7.resolve_left (by omega), fun h => h8.resolve_left (fun k => k h), fun h => h9.resolve_left (fun k => k h), h10⟩, oksB_ok h11⟩
    have := h5.resolve_left (by omega)
    rw [hs] at this
    cases this
theorem oksB_ok : ∀ {l : List Nd}, Nd.oksB l = true → Nd.oks l
  | [], _ => trivial
  | x :: xs, h => by
    rw [Nd.oksB, Bool.and_eq_true] at h
    exact ⟨okB_ok h.1, oksB_ok h.2⟩
end
def edIn : Edt := ⟨false, 1, 1, 2, 0⟩
def edOut : Edt := ⟨false, 2, 1, 1, 0⟩
def edMove : Edt := ⟨false, 3, 0, 1, 2⟩
def awT : List UInt8 := [65, 49, 43, 65, 50, 43, 65, 49, 58, 65, 51]
theorem aw_0 : (parseR awT).2.2 = 0 ∧ (parseR awT).1.size = 5 := by decide +kernel
theorem aw_1 : (parseR awT).1.okB = true := by decide +kernel
theorem aw_2 : (edIn.tree (parseR awT).1).okB = true ∧ (edOut.tree (parseR awT).1).okB = true ∧ (edMove.tree (parseR awT).1).okB = true ∧ ((parseR awT).1.copy 1 1).okB = true := by decide +kernel
theorem aw_3 : (edIn.tree (parseR awT).1).spell = [65, 49, 43, 65, 52, 43, 65, 49, 58, 65, 53] ∧ (edOut.tree (parseR awT).1).spell = [65, 49, 43, 35, 82, 69, 70, 33, 43, 65, 49, 58, 65, 50] ∧
    (edMove.tree (parseR awT).1).spell = [65, 51, 43, 65, 49, 43, 65, 50, 58, 65, 51] ∧ ((parseR awT).1.copy 1 1).spell = [66, 50, 43, 66, 51, 43, 66, 50, 58, 66, 52] := by decide +kernel
end Go.A
namespace Go.A
open Go.Proofs
/-! 4: tabular/tabularlaw14.ShiftMoves -/
def c4_0 : ACode := .ops [
 ⟨some 8, none, .q (.mv (.v (.bool false))), []⟩]
def c4_1 : ACode := .ops [
 ⟨some 16, none, .q (.mv (.t 0)), []⟩,
 ⟨some 17, none, .q (.mv (.t 1)), []⟩,
 ⟨some 18, none, .q (.mv (.t 2)), []⟩,
 ⟨some 19, none, .q (.build [(.bool false), (.int .i64 0), (.int .i64 0), (.int .i64 0), (.int .i64 0)] [(1, 1, (.v (.int .i64 3))), (2, 1, (.t 16)), (3, 1, (.t 17)), (4, 1, (.t 18))]), []⟩,
 ⟨some 9, none, .e (.alloc [(.bool false), (.int .i64 0), (.int .i64 0), (.int .i64 0), (.int .i64 0)]), []⟩,
 ⟨none, none, .e (.store 5 (.t 9) (.t 19)), []⟩]
def c4_2 : ACode := .ops [
 ⟨some 20, none, .q (.mv (.t 3)), []⟩,
 ⟨some 21, none, .q (.bin .gtr (.t 20) (.v (.int .i64 200))), []⟩,
 ⟨some 22, none, .q (.mv (.t 21)), []⟩,
 ⟨some 23, some (22, false), .q (.ld (some 5) (.t 9)), []⟩,
 ⟨some 24, some (22, false), .q (.mv (.t 3)), []⟩,
 ⟨some 25, some (22, false), .e (.call 20 [(.t 23), (.t 24)]), []⟩,
 ⟨some 26, some (22, false), .q (.un .not (.t 25)), []⟩,
 ⟨some 27, none, .q (.pick (.t 22) (.v (.bool true)) (.t 26)), []⟩]
def c4_3 : ACode := .ops [
 ⟨some 28, none, .e (.call 10 []), []⟩,
 ⟨some 8, none, .q (.mv (.t 28)), []⟩]
def c4_4 : ACode := .seq c4_3 .ret
def c4_5 : ACode := .cond (.t 27) c4_4 .skip
def c4_6 : ACode := .seq c4_2 c4_5
def c4_7 : ACode := .ops [
 ⟨some 29, none, .q (.mv (.t 3)), []⟩,
 ⟨some 30, none, .e (.mks 4 1 (.bool false) (.t 29) (.t 29)), []⟩,
 ⟨some 10, none, .q (.mv (.t 30)), []⟩]
def c4_8 : ACode := .ops [
 ⟨some 11, none, .q (.mv (.v (.int .i64 (-1)))), []⟩,
 ⟨some 12, none, .q (.mv (.v (.int .i64 (-1)))), []⟩]
def c4_9 : ACode := .ops [
 ⟨some 13, none, .q (.mv (.v (.int .i64 0))), []⟩]
def c4_10 : ACode := .ops [
 ⟨some 31, none, .q (.mv (.t 13)), []⟩,
 ⟨some 32, none, .q (.mv (.t 3)), []⟩,
 ⟨some 33, none, .q (.bin .lss (.t 31) (.t 32)), []⟩]
def c4_11 : ACode := .cond (.t 33) .skip (.exit 0)
def c4_12 : ACode := .seq c4_10 c4_11
def c4_13 : ACode := .ops [
 ⟨some 37, none, .q (.ld (some 5) (.t 9)), []⟩,
 ⟨some 38, none, .q (.mv (.t 13)), []⟩,
 ⟨some 39, none, .e (.call 21 [(.t 37), (.t 38)]), []⟩,
 ⟨some 36, none, .q (.mv (.t 39)), []⟩,
 ⟨some 40, none, .q (.ext 0 (.t 36)), []⟩,
 ⟨some 41, none, .q (.ext 1 (.t 36)), []⟩,
 ⟨some 14, none, .q (.mv (.t 40)), []⟩,
 ⟨some 15, none, .q (.mv (.t 41)), []⟩]
def c4_14 : ACode := .ops [
 ⟨some 42, none, .q (.mv (.t 15)), []⟩,
 ⟨some 43, none, .q (.un .not (.t 42)), []⟩,
 ⟨some 44, none, .q (.mv (.t 43)), []⟩,
 ⟨some 45, some (44, false), .q (.mv (.t 14)), []⟩,
 ⟨some 46, some (44, false), .q (.bin .lss (.t 45) (.v (.int .i64 0))), []⟩,
 ⟨some 47, none, .q (.pick (.t 44) (.v (.bool true)) (.t 46)), []⟩,
 ⟨some 48, none, .q (.mv (.t 47)), []⟩,
 ⟨some 49, some (48, false), .q (.mv (.t 14)), []⟩,
 ⟨some 50, some (48, false), .q (.mv (.t 3)), []⟩,
 ⟨some 51, some (48, false), .q (.bin .geq (.t 49) (.t 50)), []⟩,
 ⟨some 52, none, .q (.pick (.t 48) (.v (.bool true)) (.t 51)), []⟩,
 ⟨some 53, none, .q (.mv (.t 52)), []⟩,
 ⟨some 54, some (53, false), .q (.mv (.t 10)), []⟩,
 ⟨some 55, some (53, false), .q (.mv (.t 14)), []⟩,
 ⟨some 56, some (53, false), .q (.ia 1 (.t 54) (.t 55)), []⟩,
 ⟨some 57, some (53, false), .q (.ld none (.t 56)), []⟩,
 ⟨some 58, none, .q (.pick (.t 53) (.v (.bool true)) (.t 57)), []⟩]
def c4_15 : ACode := .ops [
 ⟨some 8, none, .q (.mv (.v (.bool false))), []⟩]
def c4_16 : ACode := .seq c4_15 .ret
def c4_17 : ACode := .cond (.t 58) c4_16 .skip
def c4_18 : ACode := .seq c4_14 c4_17
def c4_19 : ACode := .ops [
 ⟨some 59, none, .q (.mv (.t 10)), []⟩,
 ⟨some 60, none, .q (.mv (.t 14)), []⟩,
 ⟨some 61, none, .q (.ia 1 (.t 59) (.t 60)), []⟩,
 ⟨none, none, .e (.store 1 (.t 61) (.v (.bool true))), []⟩]
def c4_20 : ACode := .ops [
 ⟨some 62, none, .q (.mv (.t 13)), []⟩,
 ⟨some 63, none, .q (.mv (.t 0)), []⟩,
 ⟨some 64, none, .q (.bin .geq (.t 62) (.t 63)), []⟩,
 ⟨some 65, none, .q (.mv (.t 64)), []⟩,
 ⟨some 66, some (65, true), .q (.mv (.t 13)), []⟩,
 ⟨some 67, some (65, true), .q (.mv (.t 0)), []⟩,
 ⟨some 68, some (65, true), .q (.mv (.t 1)), []⟩,
 ⟨some 69, some (65, true), .q (.bin .add (.t 67) (.t 68)), []⟩,
 ⟨some 70, some (65, true), .q (.bin .lss (.t 66) (.t 69)), []⟩,
 ⟨some 71, none, .q (.pick (.t 65) (.t 70) (.v (.bool false))), []⟩]
def c4_21 : ACode := .ops [
 ⟨some 72, none, .q (.mv (.t 14)), []⟩,
 ⟨some 73, none, .q (.mv (.t 2)), []⟩,
 ⟨some 74, none, .q (.mv (.t 13)), []⟩,
 ⟨some 75, none, .q (.bin .add (.t 73) (.t 74)), []⟩,
 ⟨some 76, none, .q (.mv (.t 0)), []⟩,
 ⟨some 77, none, .q (.bin .sub (.t 75) (.t 76)), []⟩,
 ⟨some 78, none, .q (.bin .neq (.t 72) (.t 77)), []⟩,
 ⟨some 79, none, .q (.mv (.t 78)), []⟩,
 ⟨some 80, some (79, false), .q (.mv (.t 14)), []⟩,
 ⟨some 81, some (79, false), .q (.mv (.t 12)), []⟩,
 ⟨some 82, some (79, false), .q (.bin .leq (.t 80) (.t 81)), []⟩,
 ⟨some 83, none, .q (.pick (.t 79) (.v (.bool true)) (.t 82)), []⟩]
def c4_22 : ACode := .ops [
 ⟨some 8, none, .q (.mv (.v (.bool false))), []⟩]
def c4_23 : ACode := .seq c4_22 .ret
def c4_24 : ACode := .cond (.t 83) c4_23 .skip
def c4_25 : ACode := .seq c4_21 c4_24
def c4_26 : ACode := .ops [
 ⟨some 84, none, .q (.mv (.t 14)), []⟩,
 ⟨some 12, none, .q (.mv (.t 84)), []⟩]
def c4_27 : ACode := .seq c4_25 c4_26
def c4_28 : ACode := .ops [
 ⟨some 85, none, .q (.mv (.t 14)), []⟩,
 ⟨some 86, none, .q (.mv (.t 11)), []⟩,
 ⟨some 87, none, .q (.bin .leq (.t 85) (.t 86)), []⟩]
def c4_29 : ACode := .ops [
 ⟨some 8, none, .q (.mv (.v (.bool false))), []⟩]
def c4_30 : ACode := .seq c4_29 .ret
def c4_31 : ACode := .cond (.t 87) c4_30 .skip
def c4_32 : ACode := .seq c4_28 c4_31
def c4_33 : ACode := .ops [
 ⟨some 88, none, .q (.mv (.t 14)), []⟩,
 ⟨some 11, none, .q (.mv (.t 88)), []⟩]
def c4_34 : ACode := .seq c4_32 c4_33
def c4_35 : ACode := .cond (.t 71) c4_27 c4_34
def c4_36 : ACode := .seq c4_20 c4_35
def c4_37 : ACode := .seq c4_19 c4_36
def c4_38 : ACode := .seq c4_18 c4_37
def c4_39 : ACode := .seq c4_13 c4_38
def c4_40 : ACode := .block 1 c4_39
def c4_41 : ACode := .ops [
 ⟨some 34, none, .q (.mv (.t 13)), []⟩,
 ⟨some 35, none, .q (.bin .add (.t 34) (.v (.int .i64 1))), []⟩,
 ⟨some 13, none, .q (.mv (.t 35)), []⟩]
def c4_42 : ACode := .seq c4_40 c4_41
def c4_43 : ACode := .seq c4_12 c4_42
def c4_44 : ACode := .loop c4_43
def c4_45 : ACode := .block 0 c4_44
def c4_46 : ACode := .seq c4_9 c4_45
def c4_47 : ACode := .ops [
 ⟨some 89, none, .e (.call 10 []), []⟩,
 ⟨some 8, none, .q (.mv (.t 89)), []⟩]
def c4_48 : ACode := .seq c4_47 .ret
def c4_49 : ACode := .seq c4_46 c4_48
def c4_50 : ACode := .seq c4_8 c4_49
def c4_51 : ACode := .seq c4_7 c4_50
def c4_52 : ACode := .seq c4_6 c4_51
def c4_53 : ACode := .seq c4_1 c4_52
def c4_54 : ACode := .seq c4_0 c4_53
@[go_sem] theorem c4_0_wp : type_of% (wp_of c4_0.eq_1) := wp_of c4_0.eq_1
@[go_sem] theorem c4_1_wp : type_of% (wp_of c4_1.eq_1) := wp_of c4_1.eq_1
@[go_sem] theorem c4_2_wp : type_of% (wp_of c4_2.eq_1) := wp_of c4_2.eq_1
@[go_sem] theorem c4_3_wp : type_of% (wp_of c4_3.eq_1) := wp_of c4_3.eq_1
@[go_sem] theorem c4_4_wp : type_of% (wp_of c4_4.eq_1) := wp_of c4_4.eq_1
@[go_sem] theorem c4_5_wp : type_of% (wp_of c4_5.eq_1) := wp_of c4_5.eq_1
@[go_sem] theorem c4_6_wp : type_of% (wp_of c4_6.eq_1) := wp_of c4_6.eq_1
@[go_sem] theorem c4_7_wp : type_of% (wp_of c4_7.eq_1) := wp_of c4_7.eq_1
@[go_sem] theorem c4_8_wp : type_of% (wp_of c4_8.eq_1) := wp_of c4_8.eq_1
@[go_sem] theorem c4_9_wp : type_of% (wp_of c4_9.eq_1) := wp_of c4_9.eq_1
@[go_sem] theorem c4_10_wp : type_of% (wp_of c4_10.eq_1) := wp_of c4_10.eq_1
@[go_sem] theorem c4_11_wp : type_of% (wp_of c4_11.eq_1) := wp_of c4_11.eq_1
@[go_sem] theorem c4_12_wp : type_of% (wp_of c4_12.eq_1) := wp_of c4_12.eq_1
@[go_sem] theorem c4_13_wp : type_of% (wp_of c4_13.eq_1) := wp_of c4_13.eq_1
@[go_sem] theorem c4_14_wp : type_of% (wp_of c4_14.eq_1) := wp_of c4_14.eq_1
@[go_sem] theorem c4_17_wp : type_of% (wp_of c4_17.eq_1) := wp_of c4_17.eq_1
@[go_sem] theorem c4_18_wp : type_of% (wp_of c4_18.eq_1) := wp_of c4_18.eq_1
@[go_sem] theorem c4_19_wp : type_of% (wp_of c4_19.eq_1) := wp_of c4_19.eq_1
@[go_sem] theorem c4_20_wp : type_of% (wp_of c4_20.eq_1) := wp_of c4_20.eq_1
@[go_sem] theorem c4_21_wp : type_of% (wp_of c4_21.eq_1) := wp_of c4_21.eq_1
@[go_sem] theorem c4_24_wp : type_of% (wp_of c4_24.eq_1) := wp_of c4_24.eq_1
@[go_sem] theorem c4_25_wp : type_of% (wp_of c4_25.eq_1) := wp_of c4_25.eq_1
@[go_sem] theorem c4_26_wp : type_of% (wp_of c4_26.eq_1) := wp_of c4_26.eq_1
@[go_sem] theorem c4_27_wp : type_of% (wp_of c4_27.eq_1) := wp_of c4_27.eq_1
@[go_sem] theorem c4_28_wp : type_of% (wp_of c4_28.eq_1) := wp_of c4_28.eq_1
@[go_sem] theorem c4_31_wp : type_of% (wp_of c4_31.eq_1) := wp_of c4_31.eq_1
@[go_sem] theorem c4_32_wp : type_of% (wp_of c4_32.eq_1) := wp_of c4_32.eq_1
@[go_sem] theorem c4_33_wp : type_of% (wp_of c4_33.eq_1) := wp_of c4_33.eq_1
@[go_sem] theorem c4_34_wp : type_of% (wp_of c4_34.eq_1) := wp_of c4_34.eq_1
@[go_sem] theorem c4_35_wp : type_of% (wp_of c4_35.eq_1) := wp_of c4_35.eq_1
@[go_sem] theorem c4_36_wp : type_of% (wp_of c4_36.eq_1) := wp_of c4_36.eq_1
@[go_sem] theorem c4_37_wp : type_of% (wp_of c4_37.eq_1) := wp_of c4_37.eq_1
@[go_sem] theorem c4_38_wp : type_of% (wp_of c4_38.eq_1) := wp_of c4_38.eq_1
@[go_sem] theorem c4_39_wp : type_of% (wp_of c4_39.eq_1) := wp_of c4_39.eq_1
@[go_sem] theorem c4_40_wp : type_of% (wp_of c4_40.eq_1) := wp_of c4_40.eq_1
@[go_sem] theorem c4_41_wp : type_of% (wp_of c4_41.eq_1) := wp_of c4_41.eq_1
@[go_sem] theorem c4_42_wp : type_of% (wp_of c4_42.eq_1) := wp_of c4_42.eq_1
@[go_sem] theorem c4_43_wp : type_of% (wp_of c4_43.eq_1) := wp_of c4_43.eq_1
@[go_sem] theorem c4_44_wp : type_of% (wp_of c4_44.eq_1) := wp_of c4_44.eq_1
@[go_sem] theorem c4_45_wp : type_of% (wp_of c4_45.eq_1) := wp_of c4_45.eq_1
@[go_sem] theorem c4_46_wp : type_of% (wp_of c4_46.eq_1) := wp_of c4_46.eq_1
@[go_sem] theorem c4_47_wp : type_of% (wp_of c4_47.eq_1) := wp_of c4_47.eq_1
@[go_sem] theorem c4_48_wp : type_of% (wp_of c4_48.eq_1) := wp_of c4_48.eq_1
@[go_sem] theorem c4_49_wp : type_of% (wp_of c4_49.eq_1) := wp_of c4_49.eq_1
@[go_sem] theorem c4_50_wp : type_of% (wp_of c4_50.eq_1) := wp_of c4_50.eq_1
@[go_sem] theorem c4_51_wp : type_of% (wp_of c4_51.eq_1) := wp_of c4_51.eq_1
@[go_sem] theorem c4_52_wp : type_of% (wp_of c4_52.eq_1) := wp_of c4_52.eq_1
@[go_sem] theorem c4_53_wp : type_of% (wp_of c4_53.eq_1) := wp_of c4_53.eq_1
@[go_sem] theorem c4_54_wp : type_of% (wp_of c4_54.eq_1) := wp_of c4_54.eq_1
def c4 : AFn := ⟨90, [.t 8], c4_54⟩
set_option maxRecDepth 100000 in
theorem c4_ok : compF Tryz.prog Tryz.f4 = some c4 := by kernel_rfl
theorem a4 {args : List AV} {σ : ASt} {R : AV → ASt → Prop} (hl : args.length ≤ 90) (h : c4_54.wp Tryz.prog (RetQ [.t 8] R) (init args) σ) : ACalls Tryz.prog 4 args σ R := acalls_of Tryz.func4 c4_ok hl h
/-! 10: tabular/tabularlaw14.awake -/
def c10_0 : ACode := .ops [
 ⟨some 0, none, .q (.mv (.v (.bool false))), []⟩]
def c10_1 : ACode := .ops [
 ⟨some 8, none, .e (.call 8 [(.v (.str [65, 49, 43, 65, 50, 43, 65, 49, 58, 65, 51]))]), []⟩,
 ⟨some 7, none, .q (.mv (.t 8)), []⟩,
 ⟨some 9, none, .q (.ext 0 (.t 7)), []⟩,
 ⟨some 10, none, .q (.ext 1 (.t 7)), []⟩,
 ⟨some 11, none, .q (.ext 2 (.t 7)), []⟩,
 ⟨some 1, none, .e (.alloc [(.int .i64 0), (.int .i64 0), (.str []), (.int .i64 0), (.int .i64 0), (.bool false), (.bool false), (.int .i64 0), (.int .i64 0), (.bool false), (.bool false), (.sl .full [])]), []⟩,
 ⟨none, none, .e (.store 12 (.t 1) (.t 9)), []⟩,
 ⟨some 2, none, .q (.mv (.t 10)), []⟩,
 ⟨some 3, none, .q (.mv (.t 11)), []⟩]
def c10_2 : ACode := .ops [
 ⟨some 12, none, .q (.build [(.bool false), (.int .i64 0), (.int .i64 0), (.int .i64 0), (.int .i64 0)] [(1, 1, (.v (.int .i64 1))), (2, 1, (.v (.int .i64 1))), (3, 1, (.v (.int .i64 2)))]), []⟩,
 ⟨some 4, none, .e (.alloc [(.bool false), (.int .i64 0), (.int .i64 0), (.int .i64 0), (.int .i64 0)]), []⟩,
 ⟨none, none, .e (.store 5 (.t 4) (.t 12)), []⟩]
def c10_3 : ACode := .ops [
 ⟨some 13, none, .q (.build [(.bool false), (.int .i64 0), (.int .i64 0), (.int .i64 0), (.int .i64 0)] [(1, 1, (.v (.int .i64 2))), (2, 1, (.v (.int .i64 1))), (3, 1, (.v (.int .i64 1)))]), []⟩,
 ⟨some 5, none, .e (.alloc [(.bool false), (.int .i64 0), (.int .i64 0), (.int .i64 0), (.int .i64 0)]), []⟩,
 ⟨none, none, .e (.store 5 (.t 5) (.t 13)), []⟩]
def c10_4 : ACode := .ops [
 ⟨some 14, none, .q (.build [(.bool false), (.int .i64 0), (.int .i64 0), (.int .i64 0), (.int .i64 0)] [(1, 1, (.v (.int .i64 3))), (2, 1, (.v (.int .i64 0))), (3, 1, (.v (.int .i64 1))), (4, 1, (.v (.int .i64 2)))]), []⟩,
 ⟨some 6, none, .e (.alloc [(.bool false), (.int .i64 0), (.int .i64 0), (.int .i64 0), (.int .i64 0)]), []⟩,
 ⟨none, none, .e (.store 5 (.t 6) (.t 14)), []⟩]
def c10_5 : ACode := .ops [
 ⟨some 15, none, .q (.mv (.t 3)), []⟩,
 ⟨some 16, none, .q (.bin .eql (.t 15) (.v (.int .i64 0))), []⟩,
 ⟨some 17, none, .q (.mv (.t 16)), []⟩,
 ⟨some 18, some (17, true), .q (.ld (some 5) (.t 4)), []⟩,
 ⟨some 19, some (17, true), .q (.ld (some 12) (.t 1)), []⟩,
 ⟨some 20, some (17, true), .e (.call 17 [(.t 18), (.t 19)]), []⟩,
 ⟨some 21, some (17, true), .e (.call 31 [(.t 20)]), []⟩,
 ⟨some 22, some (17, true), .q (.bin .eql (.t 21) (.v (.str [65, 49, 43, 65, 52, 43, 65, 49, 58, 65, 53]))), []⟩,
 ⟨some 23, none, .q (.pick (.t 17) (.t 22) (.v (.bool false))), []⟩,
 ⟨some 24, none, .q (.mv (.t 23)), []⟩,
 ⟨some 25, some (24, true), .q (.ld (some 5) (.t 5)), []⟩,
 ⟨some 26, some (24, true), .q (.ld (some 12) (.t 1)), []⟩,
 ⟨some 27, some (24, true), .e (.call 17 [(.t 25), (.t 26)]), []⟩,
 ⟨some 28, some (24, true), .e (.call 31 [(.t 27)]), []⟩,
 ⟨some 29, some (24, true), .q (.bin .eql (.t 28) (.v (.str [65, 49, 43, 35, 82, 69, 70, 33, 43, 65, 49, 58, 65, 50]))), []⟩,
 ⟨some 30, none, .q (.pick (.t 24) (.t 29) (.v (.bool false))), []⟩,
 ⟨some 31, none, .q (.mv (.t 30)), []⟩,
 ⟨some 32, some (31, true), .q (.ld (some 5) (.t 6)), []⟩,
 ⟨some 33, some (31, true), .q (.ld (some 12) (.t 1)), []⟩,
 ⟨some 34, some (31, true), .e (.call 17 [(.t 32), (.t 33)]), []⟩,
 ⟨some 35, some (31, true), .e (.call 31 [(.t 34)]), []⟩,
 ⟨some 36, some (31, true), .q (.bin .eql (.t 35) (.v (.str [65, 51, 43, 65, 49, 43, 65, 50, 58, 65, 51]))), []⟩,
 ⟨some 37, none, .q (.pick (.t 31) (.t 36) (.v (.bool false))), []⟩,
 ⟨some 38, none, .q (.mv (.t 37)), []⟩,
 ⟨some 39, some (38, true), .q (.ld (some 12) (.t 1)), []⟩,
 ⟨some 40, some (38, true), .e (.call 13 [(.t 39), (.v (.int .i64 1)), (.v (.int .i64 1))]), []⟩,
 ⟨some 41, some (38, true), .e (.call 31 [(.t 40)]), []⟩,
 ⟨some 42, some (38, true), .q (.bin .eql (.t 41) (.v (.str [66, 50, 43, 66, 51, 43, 66, 50, 58, 66, 52]))), []⟩,
 ⟨some 43, none, .q (.pick (.t 38) (.t 42) (.v (.bool false))), []⟩,
 ⟨some 0, none, .q (.mv (.t 43)), []⟩]
def c10_6 : ACode := .seq c10_5 .ret
def c10_7 : ACode := .seq c10_4 c10_6
def c10_8 : ACode := .seq c10_3 c10_7
def c10_9 : ACode := .seq c10_2 c10_8
def c10_10 : ACode := .seq c10_1 c10_9
def c10_11 : ACode := .seq c10_0 c10_10
@[go_sem] theorem c10_0_wp : type_of% (wp_of c10_0.eq_1) := wp_of c10_0.eq_1
@[go_sem] theorem c10_1_wp : type_of% (wp_of c10_1.eq_1) := wp_of c10_1.eq_1
@[go_sem] theorem c10_2_wp : type_of% (wp_of c10_2.eq_1) := wp_of c10_2.eq_1
@[go_sem] theorem c10_3_wp : type_of% (wp_of c10_3.eq_1) := wp_of c10_3.eq_1
@[go_sem] theorem c10_4_wp : type_of% (wp_of c10_4.eq_1) := wp_of c10_4.eq_1
@[go_sem] theorem c10_5_wp : type_of% (wp_of c10_5.eq_1) := wp_of c10_5.eq_1
@[go_sem] theorem c10_6_wp : type_of% (wp_of c10_6.eq_1) := wp_of c10_6.eq_1
@[go_sem] theorem c10_7_wp : type_of% (wp_of c10_7.eq_1) := wp_of c10_7.eq_1
@[go_sem] theorem c10_8_wp : type_of% (wp_of c10_8.eq_1) := wp_of c10_8.eq_1
@[go_sem] theorem c10_9_wp : type_of% (wp_of c10_9.eq_1) := wp_of c10_9.eq_1
@[go_sem] theorem c10_10_wp : type_of% (wp_of c10_10.eq_1) := wp_of c10_10.eq_1
@[go_sem] theorem c10_11_wp : type_of% (wp_of c10_11.eq_1) := wp_of c10_11.eq_1
def c10 : AFn := ⟨44, [.t 0], c10_11⟩
set_option maxRecDepth 100000 in
theorem c10_ok : compF Tryz.prog Tryz.f10 = some c10 := by kernel_rfl
theorem a10 {args : List AV} {σ : ASt} {R : AV → ASt → Prop} (hl : args.length ≤ 44) (h : c10_11.wp Tryz.prog (RetQ [.t 0] R) (init args) σ) : ACalls Tryz.prog 10 args σ R := acalls_of Tryz.func10 c10_ok hl h
end Go.A
namespace Go.A
open Go.Proofs Go.Lib
set_option maxRecDepth 100000
set_option linter.unusedSimpArgs false
set_option linter.unusedVariables false
theorem LV.set {σ : ASt} {b : Nat} {r : Option Role} (h : LV σ) (hb : σ b = none) : LV (σ.set b r) := by
  unfold LV at h ⊢
  rw [ASt.set_ne]
  · exact h
  · intro e; rw [e, hb] at h; cases h
theorem shawake_ok {σ : ASt} (hT : Tab σ) (hM : MaxL σ) (hU : U8 σ) (hV : LV σ) : ACalls Tryz.prog 10 [] σ fun v σ' => v = .bool true ∧ σ' = σ := by
  have hP := parseR_ok hU hV [65, 49, 43, 65, 50, 43, 65, 49, 58, 65, 51] (by decide)
  obtain ⟨f0, f1⟩ := aw_0
  have f2 := aw_1
  obtain ⟨f3, f4, f5, f6⟩ := aw_2
  obtain ⟨g3, g4, g5, g6⟩ := aw_3
  unfold awT at f0 f1 f2 f3 f4 f5 f6 g3 g4 g5 g6
  obtain ⟨⟨n, k, er⟩, hR⟩ : ∃ R, parseR [65, 49, 43, 65, 50, 43, 65, 49, 58, 65, 51] = R := ⟨_, rfl⟩
  rw [hR] at hP f0 f1 f2 f3 f4 f5 f6 g3 g4 g5 g6
  dsimp only at hP f0 f1 f2 f3 f4 f5 f6 g3 g4 g5 g6
  subst f0
  have hn := okB_ok f2
  have t1 : Pure Tryz.prog 17 [.agg [.bool false, .int .i64 1, .int .i64 1, .int .i64 2, .int .i64 0], n.av] (edIn.tree n).av := shtree_ok edIn ⟨by decide, by decide, by decide, by decide, fun h => absurd rfl h⟩ n hn (by omega)
  have t2 : Pure Tryz.prog 17 [.agg [.bool false, .int .i64 2, .int .i64 1, .int .i64 1, .int .i64 0], n.av] (edOut.tree n).av := shtree_ok edOut ⟨by decide, by decide, by decide, by decide, fun _ h => absurd rfl h⟩ n hn (by omega)
  have t3 : Pure Tryz.prog 17 [.agg [.bool false, .int .i64 3, .int .i64 0, .int .i64 1, .int .i64 2], n.av] (edMove.tree n).av := shtree_ok edMove ⟨by decide, by decide, by decide, by decide, fun _ _ => by decide⟩ n hn (by omega)
  have t4 := shcopy_ok n hn (by omega) 1 1
  have p1 := fun (τ : ASt) (hT : Tab τ) (hM : MaxL τ) => print_ok hT hM (edIn.tree n) (okB_ok f3) (by rw [g3]; decide)
  have p2 := fun (τ : ASt) (hT : Tab τ) (hM : MaxL τ) => print_ok hT hM (edOut.tree n) (okB_ok f4) (by rw [g4]; decide)
  have p3 := fun (τ : ASt) (hT : Tab τ) (hM : MaxL τ) => print_ok hT hM (edMove.tree n) (okB_ok f5) (by rw [g5]; decide)
  have p4 := fun (τ : ASt) (hT : Tab τ) (hM : MaxL τ) => print_ok hT hM (n.copy 1 1) (okB_ok f6) (by rw [g6]; decide)
  simp only [g3] at p1
  simp only [g4] at p2
  simp only [g5] at p3
  simp only [g6] at p4
  clear f1 f2 f3 f4 f5 f6 g3 g4 g5 g6 hR
  generalize (edIn.tree n).av = T1 at *
  generalize (edOut.tree n).av = T2 at *
  generalize (edMove.tree n).av = T3 at *
  generalize (n.copy 1 1).av = T4 at *
  obtain ⟨op, m, s, a, b, ks⟩ := n
  have hav : (Nd.mk op m s a b ks).av = .agg [.int .i64 op, .int .i64 m, .str s, .int .i64 a.row, .int .i64 a.col, .bool a.absRow, .bool a.absCol, .int .i64 b.row, .int .i64 b.col, .bool b.absRow, .bool b.absCol, .sl .shr (ks.map Nd.av)] := Nd.av_cs ..
  rw [hav] at hP t1 t2 t3 t4
  generalize ks.map Nd.av = L at *
  refine a10 (by simp) ?_
  simp (disch := first | assumption | omega | (simp only [List.length_append, List.length_cons, List.length_nil]; omega)) only [go_sem]
  refine hP.mono ?_
  rintro v σ' ⟨rfl, rfl⟩
  simp (disch := first | assumption | omega | (simp only [List.length_append, List.length_cons, List.length_nil]; omega)) only [go_sem, Nat.reduceEqDiff, ↓reduceIte]
  refine allocC_by fun b1 h1 => ?_
  have T1' := Tab.set (r := some (.obj [.int .i64 op, .int .i64 m, .str s, .int .i64 a.row, .int .i64 a.col, .bool a.absRow, .bool a.absCol, .int .i64 b.row, .int .i64 b.col, .bool b.absRow, .bool b.absCol, .sl .shr L])) hT h1
  have M1' := MaxL.set (r := some (.obj [.int .i64 op, .int .i64 m, .str s, .int .i64 a.row, .int .i64 a.col, .bool a.absRow, .bool a.absCol, .int .i64 b.row, .int .i64 b.col, .bool b.absRow, .bool b.absCol, .sl .shr L])) hM h1
  simp (disch := first | assumption | omega | (simp only [List.length_append, List.length_cons, List.length_nil]; omega)) only [go_sem, Nat.reduceEqDiff, Nat.reduceAdd, Nat.reduceLeDiff, ↓reduceIte, Bool.true_and, ASt.set_set]
  refine allocC_by fun b2 h2 => ?_
  have h20 : (σ'.set b1 (some (.obj [.int .i64 op, .int .i64 m, .str s, .int .i64 a.row, .int .i64 a.col, .bool a.absRow, .bool a.absCol, .int .i64 b.row, .int .i64 b.col, .bool b.absRow, .bool b.absCol, .sl .shr L]))) b2 = none := h2
  have T2' := Tab.set (r := some (.obj [.bool false, .int .i64 1, .int .i64 1, .int .i64 2, .int .i64 0])) T1' h20
  have M2' := MaxL.set (r := some (.obj [.bool false, .int .i64 1, .int .i64 1, .int .i64 2, .int .i64 0])) M1' h20
  repeat (with_reducible replace h2 := set_none h2; obtain ⟨_, _, h2⟩ := h2)
  simp (disch := first | assumption | omega | (simp only [List.length_append, List.length_cons, List.length_nil]; omega)) only [go_sem, Nat.reduceEqDiff, Nat.reduceAdd, Nat.reduceLeDiff, ↓reduceIte, Bool.true_and, ASt.set_set]
  refine allocC_by fun b3 h3 => ?_
  have h30 := h3
  have T3' := Tab.set (r := some (.obj [.bool false, .int .i64 2, .int .i64 1, .int .i64 1, .int .i64 0])) T2' h30
  have M3' := MaxL.set (r := some (.obj [.bool false, .int .i64 2, .int .i64 1, .int .i64 1, .int .i64 0])) M2' h30
  repeat (with_reducible replace h3 := set_none h3; obtain ⟨_, _, h3⟩ := h3)
  simp (disch := first | assumption | omega | (simp only [List.length_append, List.length_cons, List.length_nil]; omega)) only [go_sem, Nat.reduceEqDiff, Nat.reduceAdd, Nat.reduceLeDiff, ↓reduceIte, Bool.true_and, ASt.set_set]
  refine allocC_by fun b4 h4 => ?_
  have h40 := h4
  have T4' := Tab.set (r := some (.obj [.bool false, .int .i64 3, .int .i64 0, .int .i64 1, .int .i64 2])) T3' h40
  have M4' := MaxL.set (r := some (.obj [.bool false, .int .i64 3, .int .i64 0, .int .i64 1, .int .i64 2])) M3' h40
  repeat (with_reducible replace h4 := set_none h4; obtain ⟨_, _, h4⟩ := h4)
  simp (disch := first | assumption | omega | (simp only [List.length_append, List.length_cons, List.length_nil]; omega)) only [go_sem, Nat.reduceEqDiff, Nat.reduceAdd, Nat.reduceLeDiff, ↓reduceIte, Bool.true_and, ASt.set_set, eq_self]
  refine t1.use ?_
  simp (disch := first | assumption | omega | (simp only [List.length_append, List.length_cons, List.length_nil]; omega)) only [go_sem, Nat.reduceEqDiff, ↓reduceIte, eq_self]
  refine (p1 _ T4' M4').mono ?_
  rintro v τ ⟨rfl, rfl⟩
  simp (disch := first | assumption | omega | (simp only [List.length_append, List.length_cons, List.length_nil]; omega)) only [go_sem, Nat.reduceEqDiff, Nat.reduceAdd, Nat.reduceLeDiff, ↓reduceIte, eq_self]
  refine t2.use ?_
  simp (disch := first | assumption | omega | (simp only [List.length_append, List.length_cons, List.length_nil]; omega)) only [go_sem, Nat.reduceEqDiff, ↓reduceIte, eq_self]
  refine (p2 _ T4' M4').mono ?_
  rintro v τ ⟨rfl, rfl⟩
  simp (disch := first | assumption | omega | (simp only [List.length_append, List.length_cons, List.length_nil]; omega)) only [go_sem, Nat.reduceEqDiff, Nat.reduceAdd, Nat.reduceLeDiff, ↓reduceIte, eq_self]
  refine t3.use ?_
  simp (disch := first | assumption | omega | (simp only [List.length_append, List.length_cons, List.length_nil]; omega)) only [go_sem, Nat.reduceEqDiff, ↓reduceIte, eq_self]
  refine (p3 _ T4' M4').mono ?_
  rintro v τ ⟨rfl, rfl⟩
  simp (disch := first | assumption | omega | (simp only [List.length_append, List.length_cons, List.length_nil]; omega)) only [go_sem, Nat.reduceEqDiff, Nat.reduceAdd, Nat.reduceLeDiff, ↓reduceIte, eq_self]
  refine t4.use ?_
  simp (disch := first | assumption | omega | (simp only [List.length_append, List.length_cons, List.length_nil]; omega)) only [go_sem, Nat.reduceEqDiff, ↓reduceIte, eq_self]
  refine (p4 _ T4' M4').mono ?_
  rintro v τ ⟨rfl, rfl⟩
  simp (disch := first | assumption | omega | (simp only [List.length_append, List.length_cons, List.length_nil]; omega)) only [go_sem, Nat.reduceEqDiff, ↓reduceIte, eq_self]
  exact retC_by (by repeat' (first | exact Drop.refl _ | with_reducible refine Drop.off ?_ (by assumption))) (.refl _) ⟨rfl, rfl⟩
def plN (a n t i : Nat) : Nat := if a ≤ i ∧ i < a + n then i - a + t else if t ≤ (if a ≤ i then i - n else i) then (if a ≤ i then i - n else i) + n else (if a ≤ i then i - n else i)
theorem place_pl (a n t i : Nat) : (Edt.mk false 3 a n t).place (i : Int) = (((plN a n t i : Nat) : Int), true) := by
  unfold Edt.place ahead plN
  dsimp only
  rw [if_neg (by decide)]
  by_cases h : a ≤ i ∧ i < a + n
  · rw [if_pos h, if_pos (by omega), if_neg (by decide)]
    refine Prod.ext ?_ rfl
    dsimp only
    omega
  · rw [if_neg h, if_neg (by omega), if_neg (by decide)]
    refine Prod.ext ?_ rfl
    dsimp only
    by_cases h1 : a ≤ i
    · rw [if_pos (show (a : Int) ≤ i by omega), if_pos h1]
      by_cases h2 : t ≤ i - n
      · rw [if_pos (by omega), if_pos h2]; omega
      · rw [if_neg (by omega), if_neg h2]; omega
    · rw [if_neg (show ¬ (a : Int) ≤ i by omega), if_neg h1]
      by_cases h2 : t ≤ i
      · rw [if_pos (by omega), if_pos h2]; omega
      · rw [if_neg (by omega), if_neg h2]
theorem plN_lt {a n t c i : Nat} (h1 : a + n ≤ c) (h2 : t + n ≤ c) (hi : i < c) : plN a n t i < c := by
  unfold plN
  repeat' split
  all_goals omega
theorem plN_inj {a n t i j : Nat} (h : plN a n t i = plN a n t j) : i = j := by
  unfold plN at h
  repeat' split at h
  all_goals omega
theorem plN_up {a n t i j : Nat} (hij : i < j) (hi : ¬ (a ≤ i ∧ i < a + n)) (hj : ¬ (a ≤ j ∧ j < a + n)) : plN a n t i < plN a n t j := by
  unfold plN
  rw [if_neg hi, if_neg hj]
  repeat' split
  all_goals omega
theorem plN_in {a n t i : Nat} (hi : a ≤ i ∧ i < a + n) : plN a n t i = i - a + t := by unfold plN; rw [if_pos hi]
def seenL (c : Nat) (p : Nat → Nat) (i : Nat) : List AV := (List.range c).map fun k => .bool ((List.range i).any fun j => decide (p j = k))
theorem seenL_len (c : Nat) (p : Nat → Nat) (i : Nat) : (seenL c p i).length = c := by simp [seenL]
theorem seenL_zero (c : Nat) (p : Nat → Nat) : List.replicate c (AV.bool false) = seenL c p 0 := by
  unfold seenL
  refine (List.ext_getElem (by simp) fun i h1 h2 => ?_)
  simp
theorem seenL_get {c : Nat} {p : Nat → Nat} {i : Nat} (hp : ∀ j, j < i → p j ≠ p i) (hi : p i < c) : (seenL c p i)[p i]? = some (.bool false) := by
  unfold seenL
  rw [List.getElem?_map, List.getElem?_range hi]
  show some (AV.bool _) = _
  congr 2
  rw [List.any_eq_false]
  intro j hj
  simpa using hp j (List.mem_range.1 hj)
theorem seenL_set {c : Nat} {p : Nat → Nat} {i : Nat} (hi : p i < c) : ((seenL c p i).take (p i) ++ [AV.bool true]) ++ (seenL c p i).drop (p i + 1) = seenL c p (i + 1) := by
  have h : ((seenL c p i).take (p i) ++ [AV.bool true]) ++ (seenL c p i).drop (p i + 1) = (seenL c p i).set (p i) (.bool true) := by
    rw [List.set_eq_take_append_cons_drop, if_pos (by rw [seenL_len]; exact hi)]
    simp
  rw [h]
  unfold seenL
  refine (List.ext_getElem (by simp) fun k h1 h2 => ?_)
  simp only [List.length_map, List.length_range] at h2
  rw [List.getElem_set]
  simp only [List.getElem_map, List.getElem_range]
  rw [List.range_succ, List.any_append]
  split
  · rename_i he
    simp [he]
  · rename_i he
    simp [he]
set_option maxHeartbeats 2000000 in
theorem ShiftMoves_any {σ : ASt} (hT : Tab σ) (hM : MaxL σ) (hU : U8 σ) (hV : LV σ) (at' n dst cnt : Int) :
    ACalls Tryz.prog 4 [.int .i64 at', .int .i64 n, .int .i64 dst, .int .i64 cnt] σ fun v σ' => v = .bool true ∧ σ' = σ := by
  have hA : ∀ τ, Tab τ → MaxL τ → U8 τ → LV τ → ACalls Tryz.prog 10 [] τ fun v σ' => v = .bool true ∧ σ' = τ := fun τ h1 h2 h3 h4 => shawake_ok h1 h2 h3 h4
  have hG : Pure Tryz.prog 20 [.agg [.bool false, .int .i64 3, .int .i64 at', .int .i64 n, .int .i64 dst], .int .i64 cnt] (.bool ((Edt.mk false 3 at' n dst).good cnt)) := shgood_ok ⟨false, 3, at', n, dst⟩ cnt
  refine a4 (by simp) ?_
  simp (disch := first | assumption | omega | (simp only [List.length_append, List.length_cons, List.length_nil]; omega)) only [go_sem, reduceCtorEq, Nat.reduceEqDiff, Nat.reduceAdd, Nat.reduceLeDiff, ↓reduceIte]
  refine allocC_by fun b hb => ?_
  have T1 := Tab.set (r := some (.obj [.bool false, .int .i64 3, .int .i64 at', .int .i64 n, .int .i64 dst])) hT hb
  have M1 := MaxL.set (r := some (.obj [.bool false, .int .i64 3, .int .i64 at', .int .i64 n, .int .i64 dst])) hM hb
  have U1 := U8.set (r := some (.obj [.bool false, .int .i64 3, .int .i64 at', .int .i64 n, .int .i64 dst])) hU hb
  have V1 := LV.set (r := some (.obj [.bool false, .int .i64 3, .int .i64 at', .int .i64 n, .int .i64 dst])) hV hb
  by_cases h1 : cnt > 200
  · have h1' : (200 : Int) < cnt := h1
    simp (disch := first | assumption | omega | (simp only [List.length_append, List.length_cons, List.length_nil]; omega)) only [go_sem, Nat.reduceEqDiff, Nat.reduceAdd, Nat.reduceLeDiff, ↓reduceIte, Bool.true_and, h1', ASt.set_set]
    refine (hA _ T1 M1 U1 V1).mono ?_
    rintro v σ' ⟨rfl, rfl⟩
    simp (disch := first | assumption | omega | (simp only [List.length_append, List.length_cons, List.length_nil]; omega)) only [go_sem, ↓reduceIte]
    exact retC_by (Drop.set hb) (.refl _) ⟨rfl, rfl⟩
  have h1' : ¬ (200 : Int) < cnt := h1
  cases hg : (Edt.mk false 3 at' n dst).good cnt with
  | false =>
    rw [hg] at hG
    simp (disch := first | assumption | omega | (simp only [List.length_append, List.length_cons, List.length_nil]; omega)) only [go_sem, Nat.reduceEqDiff, Nat.reduceAdd, Nat.reduceLeDiff, ↓reduceIte, Bool.true_and, h1', ASt.set_set]
    refine hG.use ?_
    simp (disch := first | assumption | omega | (simp only [List.length_append, List.length_cons, List.length_nil]; omega)) only [go_sem, Nat.reduceEqDiff, ↓reduceIte]
    refine (hA _ T1 M1 U1 V1).mono ?_
    rintro v σ' ⟨rfl, rfl⟩
    simp (disch := first | assumption | omega | (simp only [List.length_append, List.length_cons, List.length_nil]; omega)) only [go_sem, ↓reduceIte]
    exact retC_by (Drop.set hb) (.refl _) ⟨rfl, rfl⟩
  | true =>
    have hfit := Edt.good_fit hg
    rw [hg] at hG
    have hP : ∀ i : Nat, i ≤ 10000 → Pure Tryz.prog 21 [.agg [.bool false, .int .i64 3, .int .i64 at', .int .i64 n, .int .i64 dst], .int .i64 i] (.tuple [.int .i64 ((Edt.mk false 3 at' n dst).place i).1, .bool ((Edt.mk false 3 at' n dst).place i).2]) := fun i hi => shplace_ok ⟨false, 3, at', n, dst⟩ hfit i (by omega) (by omega)
    have hb2 : 0 ≤ at' ∧ 1 ≤ n ∧ 0 ≤ dst ∧ at' ≤ cnt - n ∧ dst ≤ cnt - n := by
      unfold Edt.good at hg
      dsimp only at hg
      split at hg
      · cases hg
      rename_i h0
      rw [if_neg (by decide), if_neg (by decide), if_pos rfl] at hg
      have := of_decide_eq_true hg
      omega
    clear hfit hg
    obtain ⟨q1, q2, q3, q4, q5⟩ := hb2
    obtain ⟨A, rfl⟩ := Int.eq_ofNat_of_zero_le q1
    obtain ⟨N, rfl⟩ := Int.eq_ofNat_of_zero_le (show 0 ≤ n by omega)
    obtain ⟨T, rfl⟩ := Int.eq_ofNat_of_zero_le q3
    obtain ⟨C, rfl⟩ := Int.eq_ofNat_of_zero_le (show 0 ≤ cnt by omega)
    simp only [place_pl] at hP
    have hC : C ≤ 200 := by omega
    have hAN : A + N ≤ C := by omega
    have hTN : T + N ≤ C := by omega
    have hlt := fun i (hi : i < C) => plN_lt (a := A) (n := N) (t := T) hAN hTN hi
    have hinj := fun i j (h : plN A N T i = plN A N T j) => plN_inj h
    have hup := fun i j (h : i < j) (hi) (hj) => plN_up (a := A) (n := N) (t := T) h hi hj
    have hin := fun i (hi : A ≤ i ∧ i < A + N) => plN_in (t := T) hi
    have hz := seenL_zero C (plN A N T)
    have hl := seenL_len C (plN A N T)
    have hsg := fun i (hi : i < C) => seenL_get (c := C) (p := plN A N T) (i := i) (fun j hj h => by have := hinj _ _ h; omega) (hlt i hi)
    have hss := fun i (hi : i < C) => seenL_set (c := C) (p := plN A N T) (i := i) (hlt i hi)
    generalize seenL C (plN A N T) = q at *
    generalize plN A N T = p at *
    simp (disch := first | assumption | omega | (simp only [List.length_append, List.length_cons, List.length_nil]; omega)) only [go_sem, Nat.reduceEqDiff, Nat.reduceAdd, Nat.reduceLeDiff, ↓reduceIte, Bool.true_and, h1', ASt.set_set]
    refine hG.use ?_
    simp (disch := first | assumption | omega | (simp only [List.length_append, List.length_cons, List.length_nil]; omega)) only [go_sem, Nat.reduceEqDiff, ↓reduceIte]
    refine mks_own (by omega) (by omega) (by omega) (by omega) fun d hd => ?_
    rw [Int.toNat_natCast, hz]
    have T2 := fun r => Tab.set (r := r) T1 hd
    have M2 := fun r => MaxL.set (r := r) M1 hd
    have U2 := fun r => U8.set (r := r) U1 hd
    have V2 := fun r => LV.set (r := r) V1 hd
    have hdb : d ≠ b := by rintro rfl; rw [ASt.set_same] at hd; cases hd
    have hbd := hdb.symm
    repeat (with_reducible replace hd := set_none hd; obtain ⟨_, _, hd⟩ := hd)
    simp (disch := first | assumption | omega | (simp only [List.length_append, List.length_cons, List.length_nil]; omega)) only [go_sem, ↓reduceIte, Int.reduceNeg]
    refine wp_loop_on (fun (i : Nat) a1 s2 => (i ≤ C ∧ ∃ la fi : Int, -1 ≤ la ∧ la < 1000 ∧ -1 ≤ fi ∧ fi < 1000 ∧ (∀ j, i ≤ j → j < C → ¬ (A ≤ j ∧ j < A + N) → la < p j) ∧ (∀ j, i ≤ j → j < C → (A ≤ j ∧ j < A + N) → fi < p j) ∧ a1 11 = .int .i64 la ∧ a1 12 = .int .i64 fi) ∧ (a1 0 = .int .i64 A ∧ a1 1 = .int .i64 N ∧ a1 2 = .int .i64 T ∧ a1 3 = .int .i64 C ∧ a1 9 = .ptr b 0 ∧ a1 10 = .msl d 0 C C ∧ a1 13 = .int .i64 i) ∧
      s2 = (σ.set b (some (.obj [.bool false, .int .i64 3, .int .i64 A, .int .i64 N, .int .i64 T]))).set d (some (.obj (q i)))) (fun i => C - i) 0 ⟨⟨Nat.zero_le _, -1, -1, by decide, by decide, by decide, by decide, fun j _ _ _ => by omega, fun j _ _ _ => by omega, ?_, ?_⟩, ?_, rfl⟩ ?_
    · simp (disch := first | assumption | omega | (simp only [List.length_append, List.length_cons, List.length_nil]; omega)) only [go_sem, Nat.reduceEqDiff, ↓reduceIte, Int.reduceNeg]
    · simp (disch := first | assumption | omega | (simp only [List.length_append, List.length_cons, List.length_nil]; omega)) only [go_sem, Nat.reduceEqDiff, ↓reduceIte, Int.reduceNeg]
    · simp (disch := first | assumption | omega | (simp only [List.length_append, List.length_cons, List.length_nil]; omega)) only [go_sem, reduceCtorEq, Nat.reduceEqDiff, ↓reduceIte, Int.reduceNeg]
    rintro i a1 s2 ⟨⟨hi, la, fi, l1, l2, f1, f2, hla, hfi, e1, e2⟩, hf, rfl⟩
    by_cases hic : i < C
    · have hic' : (i : Int) < C := by omega
      have hp := hP i (by omega)
      have k0 := hlt i hic
      have k1 := hsg i hic
      have k2 := hss i hic
      have k3 := hl i
      have g0 : ¬ ((p i : Nat) : Int) < 0 := by omega
      have g1 : ¬ (C : Int) ≤ ((p i : Nat) : Int) := by omega
      have g2 : ((p i : Nat) : Int) < (C : Int) := by omega
      have g3 : p i + 1 ≤ (q i).length := by omega
      by_cases hm : A ≤ i ∧ i < A + N
      · have hpi := hin i hm
        have m1 : (A : Int) ≤ i := by omega
        have m2 : (i : Int) < A + N := by omega
        have m3 : ((p i : Nat) : Int) = (T : Int) + i - A := by omega
        have m4 : fi < ((p i : Nat) : Int) := hfi i (Nat.le_refl _) hic hm
        have m5 : ¬ ((p i : Nat) : Int) ≤ fi := by omega
        generalize hK : p i = K at *
        simp (disch := first | assumption | omega | (simp only [List.length_append, List.length_cons, List.length_nil]; omega)) only [go_sem, Nat.reduceEqDiff, Nat.reduceAdd, Nat.reduceLeDiff, ↓reduceIte, Int.reduceNeg, hf, hic']
        refine hp.use ?_
        simp (disch := first | assumption | omega | (simp only [List.length_append, List.length_cons, List.length_nil]; omega)) only [go_sem, reduceCtorEq, Nat.reduceEqDiff, ↓reduceIte, Int.reduceNeg, Nat.mul_one, Bool.true_and, hf, e1, e2, g0, g1, k1]
        simp (disch := first | assumption | omega | (simp only [List.length_append, List.length_cons, List.length_nil]; omega)) only [go_sem, Int.reduceNeg, g3, k2]
        rw [m3] at m5
        simp (disch := first | assumption | omega | (simp only [List.length_append, List.length_cons, List.length_nil]; omega)) only [go_sem, Int.reduceNeg, m3]
        refine ⟨i + 1, by omega, ⟨⟨by omega, la, K, by omega, by omega, by omega, by omega, fun j hj hjc hjm => hla j (by omega) hjc hjm, fun j hj hjc hjm => ?_, ?_, ?_⟩, ?_, rfl⟩⟩
        · have := hin j hjm; omega
        · simp (disch := first | assumption | omega | (simp only [List.length_append, List.length_cons, List.length_nil]; omega)) only [go_sem]
        · simp (disch := first | assumption | omega | (simp only [List.length_append, List.length_cons, List.length_nil]; omega)) only [go_sem, m3]
        · simp (disch := first | assumption | omega | (simp only [List.length_append, List.length_cons, List.length_nil]; omega)) only [go_sem]
      · have m4 : la < ((p i : Nat) : Int) := hla i (Nat.le_refl _) hic hm
        have m5 : ¬ ((p i : Nat) : Int) ≤ la := by omega
        generalize hK : p i = K at *
        have hnext : ∀ j, i + 1 ≤ j → j < C → ¬ (A ≤ j ∧ j < A + N) → (K : Int) < p j := fun j hj hjc hjm => by
          have := hup i j (by omega) hm hjm
          omega
        by_cases m1 : (A : Int) ≤ i
        · have m2 : ¬ (i : Int) < A + N := by omega
          simp (disch := first | assumption | omega | (simp only [List.length_append, List.length_cons, List.length_nil]; omega)) only [go_sem, Nat.reduceEqDiff, Nat.reduceAdd, Nat.reduceLeDiff, ↓reduceIte, Int.reduceNeg, hf, hic']
          refine hp.use ?_
          simp (disch := first | assumption | omega | (simp only [List.length_append, List.length_cons, List.length_nil]; omega)) only [go_sem, reduceCtorEq, Nat.reduceEqDiff, ↓reduceIte, Int.reduceNeg, Nat.mul_one, Bool.true_and, hf, e1, e2, g0, g1, k1]
          simp (disch := first | assumption | omega | (simp only [List.length_append, List.length_cons, List.length_nil]; omega)) only [go_sem, Int.reduceNeg, g3, k2]
          refine ⟨i + 1, by omega, ⟨⟨by omega, K, fi, by omega, by omega, by omega, by omega, hnext, fun j hj hjc hjm => hfi j (by omega) hjc hjm, ?_, ?_⟩, ?_, rfl⟩⟩
          · simp (disch := first | assumption | omega | (simp only [List.length_append, List.length_cons, List.length_nil]; omega)) only [go_sem]
          · simp (disch := first | assumption | omega | (simp only [List.length_append, List.length_cons, List.length_nil]; omega)) only [go_sem]
          · simp (disch := first | assumption | omega | (simp only [List.length_append, List.length_cons, List.length_nil]; omega)) only [go_sem]
        · simp (disch := first | assumption | omega | (simp only [List.length_append, List.length_cons, List.length_nil]; omega)) only [go_sem, Nat.reduceEqDiff, Nat.reduceAdd, Nat.reduceLeDiff, ↓reduceIte, Int.reduceNeg, hf, hic']
          refine hp.use ?_
          simp (disch := first | assumption | omega | (simp only [List.length_append, List.length_cons, List.length_nil]; omega)) only [go_sem, reduceCtorEq, Nat.reduceEqDiff, ↓reduceIte, Int.reduceNeg, Nat.mul_one, Bool.true_and, hf, e1, e2, g0, g1, k1]
          simp (disch := first | assumption | omega | (simp only [List.length_append, List.length_cons, List.length_nil]; omega)) only [go_sem, Int.reduceNeg, g3, k2]
          refine ⟨i + 1, by omega, ⟨⟨by omega, K, fi, by omega, by omega, by omega, by omega, hnext, fun j hj hjc hjm => hfi j (by omega) hjc hjm, ?_, ?_⟩, ?_, rfl⟩⟩
          · simp (disch := first | assumption | omega | (simp only [List.length_append, List.length_cons, List.length_nil]; omega)) only [go_sem]
          · simp (disch := first | assumption | omega | (simp only [List.length_append, List.length_cons, List.length_nil]; omega)) only [go_sem]
          · simp (disch := first | assumption | omega | (simp only [List.length_append, List.length_cons, List.length_nil]; omega)) only [go_sem]
    · have hic' : ¬ (i : Int) < C := by omega
      simp (disch := first | assumption | omega | (simp only [List.length_append, List.length_cons, List.length_nil]; omega)) only [go_sem, Nat.reduceEqDiff, ↓reduceIte, Int.reduceNeg, hf, hic']
      refine (hA _ (T2 _) (M2 _) (U2 _) (V2 _)).mono ?_
      rintro v σ' ⟨rfl, rfl⟩
      simp (disch := first | assumption | omega | (simp only [List.length_append, List.length_cons, List.length_nil]; omega)) only [go_sem, ↓reduceIte]
      exact retC_by (by repeat' (first | exact Drop.refl _ | with_reducible refine Drop.off ?_ (by assumption))) (.refl _) ⟨rfl, rfl⟩
end Go.A
