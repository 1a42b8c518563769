/- Part 8 of what TabularCommutes leans on: Pd CodePe Pe CodePf Pf CodePg Pg Ph CodePi Pi Sd CodeSa Sa. -/
import Derived.Test.YthdpkgfdjmeaiaaGreatDoorProg
import Derived.KernelRfl
import Derived.Test.YthdpkgfdjmeaiaaGreatDoorZTabularCommutesg
set_option linter.defProp false
set_option linter.unusedSimpArgs false
set_option linter.unusedVariables false
set_option maxRecDepth 100000
namespace Go.A
open Go.Proofs Go.Lib
theorem fzN {σ σ' : ASt} (o m : Int) (s : List UInt8) (a b : Ref) (k : SK) (xs : List AV) : Fz σ σ' (resV [.agg [.int .i64 o, .int .i64 m, .str s, .int .i64 a.row, .int .i64 a.col, .bool a.absRow, .bool a.absCol, .int .i64 b.row, .int .i64 b.col, .bool b.absRow, .bool b.absCol, .sl k xs]]) (.agg (Nd.cs o m s a b xs)) :=
 Fz.agg (.cons (.refl _) (.cons (.refl _) (.cons (.refl _) (.cons (.refl _) (.cons (.refl _) (.cons (.refl _) (.cons (.refl _) (.cons (.refl _) (.cons (.refl _) (.cons (.refl _) (.cons (.refl _) (.cons (.sl _ _) .nil))))))))))))
set_option maxHeartbeats 4000000 in
theorem signed_walk {T : List Tok} (hT : TokOk T) (f : Nat) (ih : ∀ f', f' < f + 1 → WalkF T f') (b : Nat) (s : PSt) (r : Nd × PSt) (h : signedP T (f + 1) s = some r) (hf : Fit T s) (σ : ASt) (hV : LV σ) (hb : σ b = pr T s) :
  ACalls Tryz.prog 68 [.ptr b 0] σ fun v σ' => v = r.1.av ∧ σ' = σ.set b (pr T r.2) := by
 rw [signedP] at h
 have hwent := wentF hT.ends
 have hlen := hT.len
 have hil := hf.i
 refine a68 (by simp) ?_
 simp (disch := first | assumption | omega) only [go_sem]
 refine allocC_by fun d hd => ?_
 obtain ⟨hbd, T2, S2⟩ := St2.of hd (pr_fix hb).1 (pr_fix hb).2
 rw [S2.one, hb]
 have V2 : ∀ X Y, LV (T2 X Y) := fun X Y => S2.fix _ _ _ _ hV
 have k1 := S2.s1
 have k2 := S2.s2
 have q1 := S2.a1
 have q2 := S2.a2
 have ha1 := fun X => pat_ok hf.i [45] (q1 (pr T s) X)
 have ha2 := fun X => pat_ok hf.i [43] (q1 (pr T s) X)
 have behind : ∀ (op : Int) (r1 : Nd × PSt), (curT T s).kind ≠ 0 → (op = 7 ∨ op = 8) → signedP T f (stepP1 (enterP T s)) = some r1 → r = (.mk op 0 [] .zero .zero [r1.1], leaveP r1.2) → ∀ a1 : AFr, (a1 0 = .ptr b 0 ∧ a1 2 = .ptr d 0 ∧ a1 3 = .int .i64 op) →
   ACode.wp Tryz.prog c68_22 (RetQ [.c 2 (some 12)] fun v σ' => v = r.1.av ∧ σ' = σ.set b (pr T r.2)) a1 (T2 (pr T s) (some (.obj zero12))) := by
  intro op r1 hk hop h1 hr a1 hfr
  have he0 := cur_err hk
  obtain ⟨e1, e2, e3⟩ := enter_err hT.ends hf he0
  obtain ⟨g1, g2, g3⟩ := enter_fit hT.ends hf hk
  have hw := (hwent f).signed _ _ h1 g1
  have hen := penter_ok (T := T) (s := s) hf.i ⟨hf.d0, by have := hf.d1; omega⟩ (q1 (pr T s) (some (.obj zero12)))
  have hsi := (ih f (by omega)).signed b _ r1 h1 g1 _ (V2 (pr T (stepP1 (enterP T s))) (some (.obj zero12))) (q1 _ _)
  have hlv := fun X => pleave_ok (T := T) (s := r1.2) ⟨hw.fit.d0, by have := hw.fit.d1; omega⟩ (q1 (pr T r1.2) X)
  have hst : stepP1 (enterP T s) = if (enterP T s).err = 0 then (enterP T s).next else enterP T s := rfl
  generalize hS : stepP1 (enterP T s) = sS at *
  generalize hE : enterP T s = sE at *
  obtain ⟨n1, s1⟩ := r1
  dsimp only at hsi hlv hr
  subst hr
  dsimp only
  obtain ⟨o, m, t, x, y, ks⟩ := n1
  rw [Nd.av_cs] at hsi
  have hav : (Nd.mk op 0 [] .zero .zero [Nd.mk o m t x y ks]).av = .agg (Nd.cs op 0 [] .zero .zero [.agg (Nd.cs o m t x y (ks.map Nd.av))]) := by rw [Nd.av_cs, List.map_cons, Nd.av_cs]; rfl
  rw [hav]
  generalize ks.map Nd.av = KL at *
  unfold zero12 at *
  simp (disch := first | assumption | omega) only [go_sem, ↓reduceIte, hfr]
  refine hen.mono ?_
  rintro v σ1 ⟨rfl, rfl⟩
  rw [k1]
  have hprE : pr T sE = some (.obj [.sl .shr (T.map tokAV), .int .i64 sE.i, .int .i64 sE.deep, .int .i64 sE.err, .int .i64 sE.bad]) := rfl
  have hpn : some (Role.obj [.sl .shr (T.map tokAV), .int .i64 ((sE.i : Int) + 1), .int .i64 sE.deep, .int .i64 sE.err, .int .i64 sE.bad]) = pr T sE.next := rfl
  have q1' := fun Y => q1 (pr T sE) Y
  rw [hprE] at q1'
  by_cases he : sE.err = 0
  ·rw [if_pos he] at hst
   subst hst
   have hEi : (sE.i : Int) ≤ 1000000 := by omega
   rw [he] at hpn q1'
   rw [hprE, he]
   simp (disch := first | assumption | omega) only [go_sem, reduceCtorEq, Nat.reduceEqDiff, Nat.reduceAdd, Nat.reduceLeDiff, ↓reduceIte, Bool.true_and, hfr, q1', k1]
   rw [hpn]
   refine hsi.mono ?_
   rintro v σ1 ⟨rfl, rfl⟩
   rw [k1]
   simp (disch := first | assumption | omega) only [go_sem, Nat.reduceEqDiff, Nat.reduceAdd, Nat.reduceLeDiff, ↓reduceIte, Bool.true_and, hfr, q2, k2]
   refine (hlv _).mono ?_
   rintro v σ1 ⟨rfl, rfl⟩
   rw [k1]
   simp (disch := first | assumption | omega) only [go_sem, Nat.reduceAdd, Nat.reduceLeDiff, ↓reduceIte, q2]
   exact retC_by (S2.drop _ _) (fzN op 0 [] .zero .zero _ _) ⟨rfl, rfl⟩
  ·rw [if_neg he] at hst
   subst hst
   have q1s : ∀ Y, T2 (pr T sS) Y b = some (.obj [.sl .shr (T.map tokAV), .int .i64 sS.i, .int .i64 sS.deep, .int .i64 sS.err, .int .i64 sS.bad]) := fun Y => q1 _ _
   simp (disch := first | assumption | omega) only [go_sem, reduceCtorEq, Nat.reduceEqDiff, ↓reduceIte, hfr, q1s, he]
   refine hsi.mono ?_
   rintro v σ1 ⟨rfl, rfl⟩
   rw [k1]
   simp (disch := first | assumption | omega) only [go_sem, Nat.reduceEqDiff, Nat.reduceAdd, Nat.reduceLeDiff, ↓reduceIte, Bool.true_and, hfr, q2, k2]
   refine (hlv _).mono ?_
   rintro v σ1 ⟨rfl, rfl⟩
   rw [k1]
   simp (disch := first | assumption | omega) only [go_sem, Nat.reduceAdd, Nat.reduceLeDiff, ↓reduceIte, q2]
   exact retC_by (S2.drop _ _) (fzN op 0 [] .zero .zero _ _) ⟨rfl, rfl⟩
 obtain ⟨F, hF⟩ : ∃ F, F = ACode.wp Tryz.prog c68_22 := ⟨_, rfl⟩
 rw [← hF] at behind
 by_cases hm : isOp T s [45] = true
 ·rw [if_pos hm] at h
  rw [hm] at ha1
  cases h1 : signedP T f (stepP1 (enterP T s)) with
  | none => rw [h1] at h; cases h
  | some r1 =>
    rw [h1] at h
    injection h with h
    simp (disch := first | assumption | omega) only [go_sem, reduceCtorEq, ↓reduceIte, ←hF]
    refine (ha1 _).mono ?_
    rintro v σ1 ⟨rfl, rfl⟩
    simp (disch := first | assumption | omega) only [go_sem, ↓reduceIte]
    refine behind 7 r1 (isOp_kind hm) (.inl rfl) h1 h.symm _ ?_
    simp (disch := first | assumption | omega) only [go_sem, reduceCtorEq, Nat.reduceEqDiff, ↓reduceIte]
 rw [if_neg hm] at h
 have hm' : isOp T s [45] = false := by simpa using hm
 rw [hm'] at ha1
 by_cases hp : isOp T s [43] = true
 ·rw [if_pos hp] at h
  rw [hp] at ha2
  cases h1 : signedP T f (stepP1 (enterP T s)) with
  | none => rw [h1] at h; cases h
  | some r1 =>
    rw [h1] at h
    injection h with h
    simp (disch := first | assumption | omega) only [go_sem, reduceCtorEq, ↓reduceIte, ←hF]
    refine (ha1 _).mono ?_
    rintro v σ1 ⟨rfl, rfl⟩
    simp (disch := first | assumption | omega) only [go_sem, reduceCtorEq, ↓reduceIte]
    refine (ha2 _).mono ?_
    rintro v σ1 ⟨rfl, rfl⟩
    simp (disch := first | assumption | omega) only [go_sem, ↓reduceIte]
    refine behind 8 r1 (isOp_kind hp) (.inr rfl) h1 h.symm _ ?_
    simp (disch := first | assumption | omega) only [go_sem, reduceCtorEq, Nat.reduceEqDiff, ↓reduceIte]
 rw [if_neg hp] at h
 have hp' : isOp T s [43] = false := by simpa using hp
 rw [hp'] at ha2
 have hh := (ih f (by omega)).hundred b s r h hf _ (V2 (pr T s) (some (.obj zero12))) (q1 _ _)
 obtain ⟨n, s'⟩ := r
 dsimp only at hh ⊢
 obtain ⟨o, m, t, x, y, ks⟩ := n
 rw [Nd.av_cs] at hh ⊢
 unfold zero12 at hh
 simp (disch := first | assumption | omega) only [go_sem, reduceCtorEq, ↓reduceIte, ←hF]
 refine (ha1 _).mono ?_
 rintro v σ1 ⟨rfl, rfl⟩
 simp (disch := first | assumption | omega) only [go_sem, reduceCtorEq, ↓reduceIte]
 refine (ha2 _).mono ?_
 rintro v σ1 ⟨rfl, rfl⟩
 simp (disch := first | assumption | omega) only [go_sem, reduceCtorEq, ↓reduceIte]
 refine hh.mono ?_
 rintro v σ1 ⟨rfl, rfl⟩
 rw [k1]
 simp (disch := first | assumption | omega) only [go_sem, Nat.reduceEqDiff, Nat.reduceAdd, Nat.reduceLeDiff, ↓reduceIte, q2, k2]
 exact retC_by (S2.drop _ _) (.refl _) ⟨rfl, rfl⟩
set_option maxHeartbeats 4000000 in
theorem hundred_walk {T : List Tok} (hT : TokOk T) (f : Nat) (ih : ∀ f', f' < f + 1 → WalkF T f') (b : Nat) (s : PSt) (r : Nd × PSt) (h : hundredP T (f + 1) s = some r) (hf : Fit T s) (σ : ASt) (hV : LV σ) (hb : σ b = pr T s) :
  ACalls Tryz.prog 110 [.ptr b 0] σ fun v σ' => v = r.1.av ∧ σ' = σ.set b (pr T r.2) := by
 rw [hundredP] at h
 have hwent := wentF hT.ends
 refine a110 (by simp) ?_
 simp (disch := first | assumption | omega) only [go_sem]
 refine allocC_by fun d hd => ?_
 obtain ⟨hbd, T2, S2⟩ := St2.of hd (pr_fix hb).1 (pr_fix hb).2
 rw [S2.one, hb]
 have V2 : ∀ X Y, LV (T2 X Y) := fun X Y => S2.fix _ _ _ _ hV
 have k1 := S2.s1
 cases h1 : primP T f s with
 | none => rw [h1] at h; cases h
 | some r1 =>
   rw [h1] at h
   dsimp only at h
   have hw1 := (hwent f).prim _ _ h1 hf
   have hc := (ih f (by omega)).prim b s r1 h1 hf _ (V2 (pr T s) (some (.obj zero12))) (S2.a1 _ _)
   unfold zero12 at hc
   obtain ⟨n1, s1⟩ := r1
   dsimp only at hc h hw1
   have hex : ∃ o m t x y KL, n1.av = .agg (Nd.cs o m t x y KL) := by obtain ⟨o, m, t, x, y, ks⟩ := n1; exact ⟨_, _, _, _, _, _, Nd.av_cs ..⟩
   obtain ⟨o, m, t, x, y, KL, hn1⟩ := hex
   rw [hn1] at hc
   simp (disch := first | assumption | omega) only [go_sem, reduceCtorEq, ↓reduceIte]
   refine hc.mono ?_
   rintro v σ1 ⟨rfl, rfl⟩
   rw [k1]
   simp (disch := first | assumption | omega) only [go_sem]
   refine allocC_by fun e he => ?_
   obtain ⟨hbe, hde, T3, S3⟩ := St3.of S2 (X0 := .obj _) he
   have ab := S3.ab
   have k3 := S3.s3
   have k2 := S3.s2
   have k1 := S3.s1
   have q3 := S3.a3
   have q2 := S3.a2
   have q1 := S3.a1
   simp (disch := first | assumption | omega) only [go_sem, Nat.reduceEqDiff, Nat.reduceAdd, Nat.reduceLeDiff, ↓reduceIte, ab, k3, q3]
   refine wp_loop_by (fun (q : Nat × Nd × PSt) a1 st => (q.1 ≤ f ∧ hloopP T q.1 q.2.1 q.2.2 = some r ∧ Fit T q.2.2) ∧ (a1 0 = .ptr b 0 ∧ a1 2 = .ptr d 0 ∧ a1 3 = .ptr e 0) ∧ st = T3 (pr T q.2.2) (some (.obj zero12)) (some (.obj q.2.1.av.cells))) (fun q => q.1) (f, n1, s1) (Dr.now ⟨⟨Nat.le_refl _, h, hw1.fit⟩, ?_, by dsimp only; rw [hn1]; rfl⟩) ?_
   ·simp (disch := first | assumption | omega) only [go_sem, reduceCtorEq, Nat.reduceEqDiff, ↓reduceIte]
   clear h hn1 hw1 hc h1
   rintro ⟨f', n, s'⟩ a1 st ⟨⟨g1, g2, g3⟩, hf2, rfl⟩
   dsimp only at g1 g2 g3 hf2 ⊢
   obtain ⟨f'', rfl⟩ : ∃ f'', f' = f'' + 1 := by
    cases f' with
    | zero => rw [hloopP] at g2; cases g2
    | succ f'' => exact ⟨f'', rfl⟩
   rw [hloopP] at g2
   have hac := paccept_ok hT.ends g3 hT.len [37] (q1 (pr T s') (some (.obj zero12)) (some (.obj n.av.cells)))
   have hnn : n.av = .agg n.av.cells := by cases n; rfl
   have hcell : Go.A.deeps [.int .i64 9, .int .i64 0, .str [], .int .i64 0, .int .i64 0, .bool false, .bool false, .int .i64 0, .int .i64 0, .bool false, .bool false, .sl .full [n.av]] = (Nd.mk 9 0 [] .zero .zero [n]).av.cells := by
    have := bin_cells 9 [n] [n.av] (by simp only [deeps_cons, deeps_nil, Nd.deep]; rfl)
    rw [this, Nd.av_cs]
    rfl
   obtain ⟨NC, hNC⟩ : ∃ NC, n.av.cells = NC := ⟨_, rfl⟩
   have hlen : NC.length = 12 := by rw [← hNC]; exact Nd.av_len n
   have hlv : leaves NC = true := by rw [← hNC]; exact Nd.av_leaves n
   have htk : NC.take 12 = NC := List.take_of_length_le (by omega)
   have hdk : NC.drop 12 = [] := List.drop_of_length_le (by omega)
   rw [hNC] at hac hnn ⊢
   rw [hnn] at hcell
   have hzl : zero12.length = 12 := rfl
   have hzd : zero12.drop 12 = [] := rfl
   generalize zero12 = Z12 at *
   by_cases hop : isOp T s' [37] = true
   ·rw [if_pos hop] at g2
    rw [hop, if_pos rfl, k1] at hac
    have hfn := (g3.next hT.ends (isOp_kind hop)).1
    simp (disch := first | assumption | omega) only [go_sem, ↓reduceIte, hf2]
    refine hac.mono ?_
    rintro v σ1 ⟨rfl, rfl⟩
    simp (disch := first | assumption | omega) only [go_sem, Nat.reduceEqDiff, Nat.reduceAdd, Nat.reduceLeDiff, ↓reduceIte, Bool.true_and, hf2, q3, k3, hlen, htk, hdk]
    have hsd : SDrop (T3 (pr T s'.next) (some (.obj Z12)) (some (.obj [.int .i64 9, .int .i64 0, .str [], .int .i64 0, .int .i64 0, .bool false, .bool false, .int .i64 0, .int .i64 0, .bool false, .bool false, .sl .full [.agg NC]]))) (T3 (pr T s'.next) (some (.obj Z12)) (some (.obj (Nd.mk 9 0 [] .zero .zero [n]).av.cells))) := by
     rw [← ab, ← ab]
     exact (SDrop.refl _).cong hcell
    refine ⟨(f'', .mk 9 0 [] .zero .zero [n], s'.next), by dsimp only; omega, Dr.sdrop hsd ⟨⟨by dsimp only; omega, g2, hfn⟩, ?_, rfl⟩⟩
    simp (disch := first | assumption | omega) only [go_sem, reduceCtorEq, Nat.reduceEqDiff, ↓reduceIte, hf2]
   ·have hop' : isOp T s' [37] = false := by simpa using hop
    rw [if_neg hop] at g2
    injection g2 with g2
    subst g2
    rw [hop', if_neg (by simp)] at hac
    simp (disch := first | assumption | omega) only [go_sem, ↓reduceIte, hf2]
    refine hac.mono ?_
    rintro v σ1 ⟨rfl, rfl⟩
    simp (disch := first | assumption | omega) only [go_sem, Nat.reduceEqDiff, Nat.reduceLeDiff, ↓reduceIte, hf2, q3, q2, k2, hlen, hlv, htk, hzl, hzd]
    exact retC_by (S3.drop _ _ _) (.refl _) ⟨hnn.symm, rfl⟩
end Go.A
namespace Go.A
open Go.Proofs
/-! 158: (*tabular/parse.parser).area -/
def c158_23 : ACode := .seq (.ops [ oe 2 (.alloc [(.int .i64 0), (.int .i64 0), (.str []), (.int .i64 0), (.int .i64 0), (.bool false), (.bool false), (.int .i64 0), (.int .i64 0), (.bool false), (.bool false), (.sl .full [])])]) (.seq (.ops [ oq 5 (.mv (.t 0)), oe 6 (.call 33 [(.t 5)]), oe 7 (.call 175 [(.t 6)]), oq 8 (.build [(.int .i64 0), (.int .i64 0), (.str []), (.int .i64 0), (.int .i64 0), (.bool false), (.bool false), (.int .i64 0), (.int .i64 0), (.bool false), (.bool false), (.sl .full [])] [(0, 1, (.v (.int .i64 5))), (3, 4, (.t 7))]), oe 3 (.alloc [(.int .i64 0), (.int .i64 0), (.str []), (.int .i64 0), (.int .i64 0), (.bool false), (.bool false), (.int .i64 0), (.int .i64 0), (.bool false), (.bool false), (.sl .full [])]), oz (.store 12 (.t 3) (.t 8))]) (.seq (.ops [ oq 9 (.mv (.t 0)), oq 10 (.nc (.t 9)), oq 11 (.fa 1 (.t 10)), oq 12 (.ld none (.t 11)), oq 13 (.bin .add (.t 12) (.v (.int .i64 1))), oq 14 (.nc (.t 9)), oq 15 (.fa 1 (.t 14)), oz (.store 1 (.t 15) (.t 13))]) (.seq (.seq (.ops [ oq 16 (.mv (.t 0)), oe 17 (.call 140 [(.t 16), (.v (.str [58]))]), oq 18 (.un .not (.t 17))]) (.cond (.t 18) (.seq (.ops [ oq 19 (.ld (some 12) (.t 3)), oz (.store 12 (.t 2) (.t 19))]) .ret) .skip)) (.seq (.ops [ oq 20 (.mv (.t 0)), oe 21 (.call 33 [(.t 20)]), oe 4 (.alloc [(.int .i64 0), (.str []), (.int .i64 0), (.int .i64 0)]), oz (.store 4 (.t 4) (.t 21))]) (.seq (.seq (.ops [ oq 22 (.fa 0 (.t 4)), oq 23 (.ld none (.t 22)), oq 24 (.bin .neq (.t 23) (.v (.int .i64 4)))]) (.cond (.t 24) (.seq (.ops [ oq 25 (.mv (.t 0)), oe 26 (.call 34 [(.t 25), (.v (.int .i64 10))]), oz (.store 12 (.t 2) (.t 26))]) .ret) .skip)) (.seq (.ops [ oq 27 (.mv (.t 0)), oq 28 (.nc (.t 27)), oq 29 (.fa 1 (.t 28)), oq 30 (.ld none (.t 29)), oq 31 (.bin .add (.t 30) (.v (.int .i64 1))), oq 32 (.nc (.t 27)), oq 33 (.fa 1 (.t 32)), oz (.store 1 (.t 33) (.t 31))]) (.seq (.ops [ oq 34 (.fa 3 (.t 3)), oq 35 (.ld (some 4) (.t 34)), oq 36 (.ld (some 4) (.t 4)), ⟨some 37, none, .e (.call 175 [(.t 36)]), [⟨none, .ld (some 4) (.t 34), 35⟩]⟩, oq 38 (.build [(.int .i64 0), (.int .i64 0), (.str []), (.int .i64 0), (.int .i64 0), (.bool false), (.bool false), (.int .i64 0), (.int .i64 0), (.bool false), (.bool false), (.sl .full [])] [(0, 1, (.v (.int .i64 6))), (3, 4, (.t 35)), (7, 4, (.t 37))]), oz (.store 12 (.t 2) (.t 38))]) .ret)))))))
@[go_sem] def c158_23_wp := wp_of c158_23.eq_1
def c158 : AFn := ⟨39, [.c 2 (some 12)], c158_23⟩
theorem c158_ok : compF Tryz.prog Tryz.f158 = some c158 := by kernel_rfl
theorem a158 {args : List AV} {σ : ASt} {R : AV → ASt → Prop} (hl : args.length ≤ 39) (h : c158_23.wp Tryz.prog (RetQ [.c 2 (some 12)] R) (init args) σ) : ACalls Tryz.prog 158 args σ R := acalls_of Tryz.func158 c158_ok hl h
/-! 176: (*tabular/parse.parser).args -/
def c176_19 : ACode := .seq (.ops [ oq 26 (.mv (.t 0)), oe 27 (.call 140 [(.t 26), (.v (.str [44]))]), oq 28 (.un .not (.t 27))]) (.cond (.t 28) (.seq (.ops [ oq 29 (.mv (.t 0)), oe 30 (.call 160 [(.t 29), (.v (.str [41]))])]) (.exit 0)) .skip)
def c176_22 : ACode := .seq (.seq (.ops [ oq 6 (.mv (.t 0)), oq 7 (.nc (.t 6)), oq 8 (.fa 3 (.t 7)), oq 9 (.ld none (.t 8)), oq 10 (.bin .eql (.t 9) (.v (.int .i64 0)))]) (.cond (.t 10) .skip (.exit 0))) (.block 1 (.seq (.seq (.ops [ oq 11 (.mv (.t 0)), oe 12 (.call 109 [(.t 11), (.v (.str [44]))]), oq 13 (.mv (.t 12)), ⟨some 14, some (13, false), .q (.mv (.t 0)), []⟩, ⟨some 15, some (13, false), .e (.call 109 [(.t 14), (.v (.str [41]))]), []⟩, oq 16 (.pick (.t 13) (.v (.bool true)) (.t 15))]) (.cond (.t 16) (.ops [ oq 17 (.mv (.t 3)), oq 18 (.build [(.int .i64 0), (.int .i64 0), (.str []), (.int .i64 0), (.int .i64 0), (.bool false), (.bool false), (.int .i64 0), (.int .i64 0), (.bool false), (.bool false), (.sl .full [])] [(0, 1, (.v (.int .i64 23)))]), oq 19 (.bsl 12 [(.t 18)]), oe 20 (.app 30 12 104 [(.int .i64 0), (.int .i64 0), (.str []), (.int .i64 0), (.int .i64 0), (.bool false), (.bool false), (.int .i64 0), (.int .i64 0), (.bool false), (.bool false), (.sl .full [])] (.t 17) (.t 19)), oq 3 (.mv (.t 20))]) (.ops [ oq 21 (.mv (.t 3)), oq 22 (.mv (.t 0)), oe 23 (.call 32 [(.t 22), (.v (.int .i64 0))]), oq 24 (.bsl 12 [(.t 23)]), oe 25 (.app 30 12 104 [(.int .i64 0), (.int .i64 0), (.str []), (.int .i64 0), (.int .i64 0), (.bool false), (.bool false), (.int .i64 0), (.int .i64 0), (.bool false), (.bool false), (.sl .full [])] (.t 21) (.t 24)), oq 3 (.mv (.t 25))]))) c176_19))
def c176_26 : ACode := .seq (.ops [ oq 31 (.mv (.t 3)), oq 2 (.mv (.t 31))]) .ret
def c176_30 : ACode := .seq (.ops [ oq 2 (.mv (.v (.sl .full [])))]) (.seq (.seq (.ops [ oq 4 (.mv (.t 0)), oe 5 (.call 140 [(.t 4), (.v (.str [41]))])]) (.cond (.t 5) (.seq (.ops [ oq 2 (.mv (.v (.sl .full [])))]) .ret) .skip)) (.seq (.ops [ oq 3 (.mv (.v (.sl .full [])))]) (.seq (.block 0 (.loop c176_22)) c176_26)))
@[go_sem] def c176_19_wp := wp_of c176_19.eq_1
@[go_sem] def c176_22_wp := wp_of c176_22.eq_1
@[go_sem] def c176_26_wp := wp_of c176_26.eq_1
@[go_sem] def c176_30_wp := wp_of c176_30.eq_1
def c176 : AFn := ⟨32, [.t 2], c176_30⟩
theorem c176_ok : compF Tryz.prog Tryz.f176 = some c176 := by kernel_rfl
theorem a176 {args : List AV} {σ : ASt} {R : AV → ASt → Prop} (hl : args.length ≤ 32) (h : c176_30.wp Tryz.prog (RetQ [.t 2] R) (init args) σ) : ACalls Tryz.prog 176 args σ R := acalls_of Tryz.func176 c176_ok hl h
end Go.A
namespace Go.A
open Go.Proofs Go.Lib
theorem zN_av : zN.av = .agg (Nd.cs 0 0 [] .zero .zero []) := rfl
theorem zN_cells : (Nd.cs 0 0 [] .zero .zero [] : List AV) = [.int .i64 0, .int .i64 0, .str [], .int .i64 0, .int .i64 0, .bool false, .bool false, .int .i64 0, .int .i64 0, .bool false, .bool false, .sl .shr []] := rfl
set_option maxHeartbeats 4000000 in
theorem area_walk {T : List Tok} (hT : TokOk T) (b : Nat) (s : PSt) (hf : Fit T s) (hk : (curT T s).kind = 4) (σ : ASt) (hb : σ b = pr T s) :
  ACalls Tryz.prog 158 [.ptr b 0] σ fun v σ' => v = (areaP T s).1.av ∧ σ' = σ.set b (pr T (areaP T s).2) := by
 have hlen := hT.len
 have hil := hf.i
 have hn := (hf.next hT.ends (by omega)).1
 have hni := hn.i
 refine a158 (by simp) ?_
 obtain ⟨R, hR⟩ : ∃ R, areaP T s = R := ⟨_, rfl⟩
 rw [hR]
 unfold areaP at hR
 simp (disch := first | assumption | omega) only [go_sem]
 refine allocC_by fun d hd => ?_
 obtain ⟨hbd, T2, S2⟩ := St2.of hd (pr_fix hb).1 (pr_fix hb).2
 rw [S2.one, hb]
 have k1 := S2.s1
 have q1 := S2.a1
 have hcu := fun X => pcur_ok (T := T) hf.i (q1 (pr T s) X)
 have hrf := pref_ok (curT T s) (by have := hT.cur s; omega)
 generalize hct : curT T s = tk at *
 obtain ⟨a, ha⟩ : ∃ a, refT tk = a := ⟨_, rfl⟩
 rw [ha] at hrf hR
 unfold tokAV refAV at hrf
 unfold tokAV at hcu
 simp (disch := first | assumption | omega) only [go_sem, reduceCtorEq, ↓reduceIte]
 refine (hcu _).mono ?_
 rintro v σ1 ⟨rfl, rfl⟩
 simp (disch := first | assumption | omega) only [go_sem, ↓reduceIte]
 refine hrf.use ?_
 simp (disch := first | assumption | omega) only [go_sem, Nat.reduceAdd, Nat.reduceLeDiff, ↓reduceIte]
 refine allocC_by fun e he => ?_
 obtain ⟨hbe, hde, T3, S3⟩ := St3.of S2 (X0 := .obj _) he
 have ab := S3.ab
 have k3 := S3.s3
 have k2 := S3.s2
 have k1 := S3.s1
 have q3 := S3.a3
 have q2 := S3.a2
 have q1 := S3.a1
 have hpr : ∀ x : PSt, pr T x = some (.obj [.sl .shr (T.map tokAV), .int .i64 x.i, .int .i64 x.deep, .int .i64 x.err, .int .i64 x.bad]) := fun x => rfl
 have hpn : some (Role.obj [.sl .shr (T.map tokAV), .int .i64 ((s.i : Int) + 1), .int .i64 s.deep, .int .i64 s.err, .int .i64 s.bad]) = pr T s.next := rfl
 obtain ⟨NC, hNC⟩ : ∃ NC, ([.int .i64 5, .int .i64 0, .str [], .int .i64 a.row, .int .i64 a.col, .bool a.absRow, .bool a.absCol, .int .i64 0, .int .i64 0, .bool false, .bool false, .sl .full []] : List AV) = NC := ⟨_, rfl⟩
 have hac := fun X Y => paccept_ok hT.ends hn hT.len [58] (q1 (pr T s.next) X Y)
 simp (disch := first | assumption | omega) only [go_sem, reduceCtorEq, Nat.reduceEqDiff, Nat.reduceAdd, Nat.reduceLeDiff, ↓reduceIte, Bool.true_and, ab, k3, q3]
 rw [hpr s]
 simp (disch := first | assumption | omega) only [go_sem, reduceCtorEq, Nat.reduceEqDiff, Nat.reduceAdd, Nat.reduceLeDiff, ↓reduceIte, Bool.true_and, q1, k1]
 rw [hpn]
 have hz12 : zero12 = [.int .i64 0, .int .i64 0, .str [], .int .i64 0, .int .i64 0, .bool false, .bool false, .int .i64 0, .int .i64 0, .bool false, .bool false, .sl .full []] := rfl
 refine (hac _ _).mono ?_
 rintro v σ1 ⟨rfl, rfl⟩
 by_cases hc : isOp T s.next [58] = false
 ·rw [if_pos hc] at hR
  subst hR
  rw [hc, if_neg (by simp)]
  simp (disch := first | assumption | omega) only [go_sem, Nat.reduceEqDiff, Nat.reduceAdd, Nat.reduceLeDiff, ↓reduceIte, Bool.true_and, q2, q3, k2]
  rw [Nd.av_cs]
  exact retC_by (S3.drop _ _ _) (fzN 5 0 [] a .zero _ _) ⟨rfl, rfl⟩
 ·rw [if_neg hc] at hR
  have hc' : isOp T s.next [58] = true := by simpa using hc
  rw [hc', if_pos rfl, k1]
  have hn2 := (hn.next hT.ends (isOp_kind hc')).1
  have hn2i := hn2.i
  have hcu2 := fun X Y => pcur_ok (T := T) hn2.i (q1 (pr T s.next.next) X Y)
  have hrf2 := pref_ok (curT T s.next.next) (by have := hT.cur s.next.next; omega)
  have hfl := fun τ h => pfail_ok (T := T) (s := s.next.next) hn2.i 10 (σ := τ) (b := b) h
  have hpn2 : some (Role.obj [.sl .shr (T.map tokAV), .int .i64 (s.next.next.i + 1 : Int), .int .i64 s.next.next.deep, .int .i64 s.next.next.err, .int .i64 s.next.next.bad]) = pr T s.next.next.next := rfl
  have hk2 : (curT T s.next.next).kind ≠ 0 → s.next.next.i + 1 < T.length := fun h => (hn2.next hT.ends h).1.i
  generalize hct2 : curT T s.next.next = tk2 at *
  obtain ⟨a2, ha2⟩ : ∃ a, refT tk2 = a := ⟨_, rfl⟩
  rw [ha2] at hrf2 hR
  unfold tokAV refAV at hrf2
  unfold tokAV at hcu2
  simp (disch := first | assumption | omega) only [go_sem, reduceCtorEq, ↓reduceIte]
  refine (hcu2 _ _).mono ?_
  rintro v σ1 ⟨rfl, rfl⟩
  simp (disch := first | assumption | omega) only [go_sem]
  refine allocC_by fun g hg => ?_
  obtain ⟨T4, S4⟩ := St4.of S3 (X0 := .obj _) hg
  have ab4 := S4.ab
  have m1 := S4.s1
  have m2 := S4.s2
  have m4 := S4.s4
  have p1 := S4.a1
  have p2 := S4.a2
  have p3 := S4.a3
  have p4 := S4.a4
  generalize hs2 : s.next.next = sN at *
  by_cases hk4 : tk2.kind = 4
  ·rw [if_neg (by simpa using hk4)] at hR
   subst hR
   have hi2 := hk2 (by omega)
   simp (disch := first | assumption | omega) only [go_sem, reduceCtorEq, Nat.reduceEqDiff, Nat.reduceAdd, Nat.reduceLeDiff, ↓reduceIte, Bool.true_and, ab4, m4, p4, hk4]
   rw [hpr sN]
   simp (disch := first | assumption | omega) only [go_sem, Nat.reduceEqDiff, Nat.reduceAdd, Nat.reduceLeDiff, ↓reduceIte, Bool.true_and, p1, m1]
   rw [hpn2]
   rw [hk4] at hrf2
   simp (disch := first | assumption | omega) only [go_sem, Nat.reduceEqDiff, Nat.reduceAdd, Nat.reduceLeDiff, ↓reduceIte, p3, p4]
   refine hrf2.use ?_
   simp (disch := first | assumption | omega) only [go_sem, Nat.reduceEqDiff, Nat.reduceAdd, Nat.reduceLeDiff, ↓reduceIte, Bool.true_and, p2, p3, m2]
   rw [Nd.av_cs]
   exact retC_by (S4.drop _ _ _ _) (fzN 6 0 [] a a2 _ _) ⟨rfl, rfl⟩
  ·rw [if_pos hk4] at hR
   subst hR
   simp (disch := first | assumption | omega) only [go_sem, reduceCtorEq, Nat.reduceEqDiff, Nat.reduceAdd, Nat.reduceLeDiff, ↓reduceIte, Bool.true_and, ab4, m4, p4, hk4]
   refine (hfl _ (p1 _ _ _ _)).mono ?_
   rintro v σ1 ⟨rfl, rfl⟩
   rw [m1, zN_av, zN_cells]
   simp (disch := first | assumption | omega) only [go_sem, Nat.reduceEqDiff, Nat.reduceAdd, Nat.reduceLeDiff, ↓reduceIte, Bool.true_and, p2, m2]
   exact retC_by (S4.drop _ _ _ _) (.refl _) ⟨rfl, rfl⟩
theorem deeps_app : ∀ xs ys : List AV, Go.A.deeps (xs ++ ys) = Go.A.deeps xs ++ Go.A.deeps ys
 | [], ys => rfl
 | x :: xs, ys => by rw [List.cons_append, deeps_cons, deeps_cons, deeps_app xs ys, List.cons_append]
theorem OwnSl.fzd {σ0 σ st σ' : ASt} {v : AV} {xs : List AV} {s : Nat} (h : OwnSl σ0 σ v xs s) (hd : Drop st σ) (hx : ∀ x ∈ xs, x.cells.length = s) (hn : ∀ b, σ0 b = none → σ' b = none) : Fz st σ' v (.sl .shr xs) := by
 rcases h with ⟨rfl, rfl, rfl⟩ | ⟨b, c, rest, rfl, h2, h3, h4, rfl⟩
 ·exact .sl _ _
 ·have hxl : (xs.flatMap AV.cells).length = xs.length * s := lens_flat hx
  refine .msl 0 _ c s xs (hd.had (ASt.set_same _ _ _)) (hn _ h4) rfl h2 hx ?_
  rw [List.drop_zero, ← hxl, List.take_left]
set_option maxHeartbeats 4000000 in
theorem args_walk {T : List Tok} (hT : TokOk T) (f : Nat) (ih : ∀ f', f' < f + 1 → WalkF T f') (b : Nat) (s : PSt) (r : List Nd × PSt) (h : argsP T (f + 1) s = some r) (hf : Fit T s) (σ : ASt) (hV : LV σ) (hb : σ b = pr T s) :
  ACalls Tryz.prog 176 [.ptr b 0] σ fun v σ' => v = .sl .shr (r.1.map Nd.av) ∧ σ' = σ.set b (pr T r.2) := by
 rw [argsP] at h
 have hwent := wentF hT.ends
 have hac := paccept_ok hT.ends hf hT.len [41] hb
 refine ACalls.retd (K := fun v σ' => Go.A.deep v = .sl .shr (r.1.map Nd.av) ∧ σ' = σ.set b (pr T r.2)) ?_ (fun v σ' h => h)
 refine a176 (by simp) ?_
 by_cases hc : isOp T s [41] = true
 ·rw [if_pos hc] at h
  injection h with h
  subst h
  rw [hc, if_pos rfl] at hac
  simp (disch := first | assumption | omega) only [go_sem, reduceCtorEq, ↓reduceIte]
  refine hac.mono ?_
  rintro v σ1 ⟨rfl, rfl⟩
  simp (disch := first | assumption | omega) only [go_sem, ↓reduceIte]
  exact retC_by (Drop.refl _) (.refl _) ⟨rfl, rfl⟩
 rw [if_neg hc] at h
 have hc' : isOp T s [41] = false := by simpa using hc
 rw [hc', if_neg (by simp)] at hac
 simp (disch := first | assumption | omega) only [go_sem, reduceCtorEq, ↓reduceIte]
 refine hac.mono ?_
 rintro v σ1 ⟨rfl, rfl⟩
 obtain ⟨F, hF⟩ : ∃ F, F = ACode.wp Tryz.prog c176_26 := ⟨_, rfl⟩
 have hpr : ∀ x : PSt, pr T x = some (.obj [.sl .shr (T.map tokAV), .int .i64 x.i, .int .i64 x.deep, .int .i64 x.err, .int .i64 x.bad]) := fun x => rfl
 have hbs := hb
 have fin : ∀ (l : List Nd) (s' : PSt) (XS : List AV) (v : AV) (st : ASt) (a1 : AFr), r = (l, s') → (∃ σ2, Drop st σ2 ∧ OwnSl (σ1.set b (pr T s')) σ2 v XS 12) → (∀ x ∈ XS, x.cells.length = 12) → Go.A.deeps XS = l.map Nd.av → a1 3 = v →
   F (RetQ [.t 2] fun v σ' => Go.A.deep v = .sl .shr (r.1.map Nd.av) ∧ σ' = σ1.set b (pr T r.2)) a1 st := by
  intro l s' XS v st a1 hr ⟨σ2, hdr, hO⟩ hx hd h3
  subst hr
  rw [hF]
  have hz := hO.fzd hdr hx (σ' := σ1.set b (pr T s')) (fun x hx => hx)
  simp (disch := first | assumption | omega) only [go_sem, ↓reduceIte, h3]
  refine retC_by (r := .sl .shr XS) (hdr.trans hO.drop) ?_ ⟨by rw [deep_sl, hd], rfl⟩
  first | exact hz | (rw [resV_one]; exact hz)
 simp (disch := first | assumption | omega) only [go_sem, ↓reduceIte, ←hF]
 refine wp_loop_by (fun (q : Nat × List Nd × PSt) a1 st => (q.1 ≤ f ∧ aloopP T q.1 q.2.1 q.2.2 = some r ∧ Fit T q.2.2 ∧ q.2.1.length ≤ q.2.2.i) ∧ a1 0 = .ptr b 0 ∧ ∃ v XS, a1 3 = v ∧ OwnSl (σ1.set b (pr T q.2.2)) st v XS 12 ∧ (∀ x ∈ XS, x.cells.length = 12) ∧ Go.A.deeps XS = q.2.1.map Nd.av) (fun q => q.1) (f, [], s) (Dr.now ⟨⟨Nat.le_refl _, h, hf, Nat.zero_le _⟩, ?_, .sl .full [], [], ?_, ?_, by simp, rfl⟩) ?_
 ·simp (disch := first | assumption | omega) only [go_sem, reduceCtorEq, ↓reduceIte]
 ·simp (disch := first | assumption | omega) only [go_sem, ↓reduceIte]
 ·dsimp only; rw [set_self0 hb]; exact .inl ⟨rfl, rfl, rfl⟩
 clear h hac hc hc'
 rintro ⟨f', l, s'⟩ a1 st ⟨⟨g1, g2, g3, g4⟩, h0, v, XS, h3, hO, hx, hdl⟩
 dsimp only at g1 g2 g3 g4 hO hdl
 obtain ⟨f'', rfl⟩ : ∃ f'', f' = f'' + 1 := by
  cases f' with
  | zero => rw [aloopP] at g2; cases g2
  | succ f'' => exact ⟨f'', rfl⟩
 rw [aloopP] at g2
 have hbb : st b = pr T s' := hO.at (x := b) (ASt.set_same _ _ _)
 have hVs : LV st := by
  unfold LV at hV ⊢
  refine hO.at ?_
  rw [ASt.set_ne]
  ·exact hV
  ·rintro e; rw [← e, hV] at hbs; unfold pr at hbs; cases hbs
 have hxl : XS.length = l.length := by
  have := congrArg List.length hdl
  rw [List.length_map] at this
  rw [← this, deeps_len]
 have hil := g3.i
 have htl := hT.len
 have hbb' := hbb
 rw [hpr] at hbb'
 by_cases he : s'.err = 0
 ·rw [if_neg (by simp [he])] at g2
  have ha1 := pat_ok g3.i [44] hbb
  have ha2 := pat_ok g3.i [41] hbb
  obtain ⟨B, hB⟩ : ∃ B, B = ACode.wp Tryz.prog c176_19 := ⟨_, rfl⟩
  have behind : ∀ (Q : APost) (s2 : PSt) (v' : AV) (st' : ASt) (XS' : List AV) (a2 : AFr), Fit T s2 → (∃ σ2, Drop st' σ2 ∧ OwnSl (σ1.set b (pr T s2)) σ2 v' XS' 12) → a2 0 = .ptr b 0 → a2 3 = v' →
    (∀ a3 st3, isOp T s2 [44] = true → a3 0 = .ptr b 0 → a3 3 = v' → (∃ σ2, Drop st3 σ2 ∧ OwnSl (σ1.set b (pr T s2.next)) σ2 v' XS' 12) → Q .normal a3 st3) →
    (∀ a3 st3, isOp T s2 [44] = false → a3 3 = v' → (∃ σ2, Drop st3 σ2 ∧ OwnSl (σ1.set b (pr T (mustP T s2 [41]))) σ2 v' XS' 12) → Q (.exit 0) a3 st3) → B Q a2 st' := by
   intro Q s2 v' st' XS' a2 hf2 ⟨σd, hdd, hO2⟩ h02 h32 hgo hend
   rw [hB]
   have hb2 : st' b = pr T s2 := hdd.had (hO2.at (x := b) (ASt.set_same _ _ _))
   have hac := paccept_ok hT.ends hf2 hT.len [44] hb2
   have hmu := pmust_ok hT.ends hf2 hT.len [41] hb2
   simp (disch := first | assumption | omega) only [go_sem, ↓reduceIte, h02]
   refine hac.mono ?_
   rintro w σ2 ⟨rfl, rfl⟩
   by_cases h44 : isOp T s2 [44] = true
   ·rw [h44, if_pos rfl]
    simp (disch := first | assumption | omega) only [go_sem, ↓reduceIte]
    refine hgo _ _ h44 (by simp (disch := first | assumption | omega) only [go_sem, reduceCtorEq, ↓reduceIte, h02]) (by simp (disch := first | assumption | omega) only [go_sem, Nat.reduceEqDiff, ↓reduceIte, h32]) ?_
    have := hO2.put (ASt.set_same σ1 b (pr T s2) : _ = some _) (pr T s2.next)
    rw [ASt.set_set] at this
    exact ⟨_, hdd.set_cong, this⟩
   ·have h44' : isOp T s2 [44] = false := by simpa using h44
    rw [h44', if_neg (by simp)]
    simp (disch := first | assumption | omega) only [go_sem, reduceCtorEq, ↓reduceIte, h02]
    refine hmu.mono ?_
    rintro w σ2 ⟨rfl, rfl⟩
    simp (disch := first | assumption | omega) only [go_sem]
    refine hend _ _ h44' (by simp (disch := first | assumption | omega) only [go_sem, Nat.reduceEqDiff, ↓reduceIte, h32]) ?_
    have := hO2.put (ASt.set_same σ1 b (pr T s2) : _ = some _) (pr T (mustP T s2 [41]))
    rw [ASt.set_set] at this
    exact ⟨_, hdd.set_cong, this⟩
  have more : ∀ (x : Nd) (s2 : PSt) (X : AV), X.cells.length = 12 → Go.A.deep X = x.av → (if isOp T s2 [44] = true then aloopP T f'' (l ++ [x]) s2.next else some (l ++ [x], mustP T s2 [41])) = some r → Fit T s2 → s'.i ≤ s2.i → ∀ (v' : AV) (st' : ASt) (a2 : AFr), (∃ σ2, Drop st' σ2 ∧ OwnSl (σ1.set b (pr T s2)) σ2 v' (XS ++ [X]) 12) → a2 0 = .ptr b 0 → a2 3 = v' →
    B (BlockQ 1 (LoopQ (Again (fun (q : Nat × List Nd × PSt) a1 st => (q.1 ≤ f ∧ aloopP T q.1 q.2.1 q.2.2 = some r ∧ Fit T q.2.2 ∧ q.2.1.length ≤ q.2.2.i) ∧ a1 0 = .ptr b 0 ∧ ∃ v XS, a1 3 = v ∧ OwnSl (σ1.set b (pr T q.2.2)) st v XS 12 ∧ (∀ x ∈ XS, x.cells.length = 12) ∧ Go.A.deeps XS = q.2.1.map Nd.av) (fun q => q.1) (f'' + 1, l, s'))
     (BlockQ 0 (SeqQ F (RetQ [.t 2] fun v σ' => Go.A.deep v = .sl .shr (r.1.map Nd.av) ∧ σ' = σ1.set b (pr T r.2)))))) a2 st' := by
   intro x s2 X hX hXd hr hf2 hle v' st' a2 hO2 h02 h32
   have hxs : ∀ y ∈ XS ++ [X], y.cells.length = 12 := by
    intro y hy
    rcases List.mem_append.1 hy with hy | hy
    ·exact hx y hy
    ·simp at hy; subst hy; exact hX
   have hds : Go.A.deeps (XS ++ [X]) = (l ++ [x]).map Nd.av := by
    rw [List.map_append, ← hdl, deeps_app, deeps_cons, hXd]
    rfl
   refine behind _ s2 v' st' (XS ++ [X]) a2 hf2 hO2 h02 h32 (fun a3 st3 h44 h03 h33 hO3 => ?_) (fun a3 st3 h44 h33 hO3 => ?_)
   ·rw [if_pos h44] at hr
    have hfn := (hf2.next hT.ends (isOp_kind h44)).1
    obtain ⟨σ3, hd3, hO3⟩ := hO3
    simp (disch := first | assumption | omega) only [go_sem]
    exact ⟨(f'', l ++ [x], s2.next), by dsimp only; omega, Dr.drop hd3 ⟨⟨by dsimp only; omega, hr, hfn, by dsimp only; rw [List.length_append]; show l.length + 1 ≤ s2.i + 1; omega⟩, h03, v', XS ++ [X], h33, hO3, hxs, hds⟩⟩
   ·rw [if_neg (by simp [h44])] at hr
    injection hr with hr
    simp (disch := first | assumption | omega) only [go_sem, reduceCtorEq, ↓reduceIte]
    exact fin _ _ (XS ++ [X]) v' st3 a3 hr.symm hO3 hxs hds h33
  by_cases hmi : isOp T s' [44] = true ∨ isOp T s' [41] = true
  ·rw [if_pos hmi] at g2
   dsimp only at g2
   have hmore := more missN s' (.agg [.int .i64 23, .int .i64 0, .str [], .int .i64 0, .int .i64 0, .bool false, .bool false, .int .i64 0, .int .i64 0, .bool false, .bool false, .sl .full []]) rfl rfl g2 g3 (Nat.le_refl _)
   by_cases h44 : isOp T s' [44] = true
   ·rw [h44] at ha1
    simp (disch := first | assumption | omega) only [go_sem, reduceCtorEq, ↓reduceIte, h0, hbb', he, ←hB]
    refine ha1.mono ?_
    rintro w σ2 ⟨rfl, rfl⟩
    simp (disch := first | assumption | omega) only [go_sem, Nat.reduceEqDiff, Nat.reduceAdd, Nat.reduceLeDiff, ↓reduceIte, Bool.true_and, h3]
    refine OwnSl.app hO hx rfl rfl (by simp only [List.length_cons, List.length_nil]; omega) (by simp only [List.length_cons, List.length_nil]; omega) (by simp) fun v' σ' ⟨σ2, hd, hO2⟩ => ?_
    simp (disch := first | assumption | omega) only [go_sem, ↓reduceIte]
    refine hmore v' _ _ ⟨σ2, hd, hO2⟩ ?_ ?_
    ·simp (disch := first | assumption | omega) only [go_sem, reduceCtorEq, ↓reduceIte, h0]
    ·simp (disch := first | assumption | omega) only [go_sem, ↓reduceIte]
   ·have h44' : isOp T s' [44] = false := by simpa using h44
    have h41 : isOp T s' [41] = true := hmi.resolve_left h44
    rw [h44'] at ha1
    rw [h41] at ha2
    simp (disch := first | assumption | omega) only [go_sem, reduceCtorEq, ↓reduceIte, h0, hbb', he, ←hB]
    refine ha1.mono ?_
    rintro w σ2 ⟨rfl, rfl⟩
    simp (disch := first | assumption | omega) only [go_sem, reduceCtorEq, Nat.reduceEqDiff, ↓reduceIte, h0]
    refine ha2.mono ?_
    rintro w σ2 ⟨rfl, rfl⟩
    simp (disch := first | assumption | omega) only [go_sem, Nat.reduceEqDiff, Nat.reduceAdd, Nat.reduceLeDiff, ↓reduceIte, Bool.true_and, h3]
    refine OwnSl.app hO hx rfl rfl (by simp only [List.length_cons, List.length_nil]; omega) (by simp only [List.length_cons, List.length_nil]; omega) (by simp) fun v' σ' ⟨σ2, hd, hO2⟩ => ?_
    simp (disch := first | assumption | omega) only [go_sem, ↓reduceIte]
    refine hmore v' _ _ ⟨σ2, hd, hO2⟩ ?_ ?_
    ·simp (disch := first | assumption | omega) only [go_sem, reduceCtorEq, ↓reduceIte, h0]
    ·simp (disch := first | assumption | omega) only [go_sem, ↓reduceIte]
  ·rw [if_neg hmi] at g2
   cases h1 : betwP T f'' 0 s' with
   | none => rw [h1] at g2; cases g2
   | some r1 =>
     rw [h1] at g2
     dsimp only at g2
     have h44' : isOp T s' [44] = false := by simpa using fun h => hmi (.inl h)
     have h41' : isOp T s' [41] = false := by simpa using fun h => hmi (.inr h)
     rw [h44'] at ha1
     rw [h41'] at ha2
     have hw := (hwent f'').betw _ _ _ h1 g3
     have hcb := (ih f'' (by omega)).betw b 0 s' r1 (by omega) h1 g3 _ hVs hbb
     rw [show ((0 : Nat) : Int) = 0 from rfl] at hcb
     obtain ⟨x1, s2⟩ := r1
     dsimp only at g2 hw hcb
     have hmore := more x1 s2 x1.av (Nd.av_len x1) (Nd.deep x1) g2 hw.fit hw.le
     have hO1 := hO.put (ASt.set_same σ1 b (pr T s') : _ = some _) (pr T s2)
     rw [ASt.set_set] at hO1
     obtain ⟨o, m, t, x, y, ks⟩ := x1
     rw [Nd.av_cs] at hmore hcb
     generalize ks.map Nd.av = KL at *
     simp (disch := first | assumption | omega) only [go_sem, reduceCtorEq, ↓reduceIte, h0, hbb', he, ←hB]
     refine ha1.mono ?_
     rintro w σ2 ⟨rfl, rfl⟩
     simp (disch := first | assumption | omega) only [go_sem, reduceCtorEq, Nat.reduceEqDiff, ↓reduceIte, h0]
     refine ha2.mono ?_
     rintro w σ2 ⟨rfl, rfl⟩
     simp (disch := first | assumption | omega) only [go_sem, reduceCtorEq, Nat.reduceEqDiff, ↓reduceIte, h0, h3]
     refine hcb.mono ?_
     rintro w σ2 ⟨rfl, rfl⟩
     simp (disch := first | assumption | omega) only [go_sem, Nat.reduceEqDiff, ↓reduceIte, Bool.true_and]
     refine OwnSl.app hO1 hx rfl rfl (by simp only [List.length_cons, List.length_nil]; omega) (by simp only [List.length_cons, List.length_nil]; omega) (by simp) fun v' σ' ⟨σ2, hd, hO2⟩ => ?_
     simp (disch := first | assumption | omega) only [go_sem, ↓reduceIte]
     refine hmore v' _ _ ⟨σ2, hd, hO2⟩ ?_ ?_
     ·simp (disch := first | assumption | omega) only [go_sem, reduceCtorEq, ↓reduceIte, h0]
     ·simp (disch := first | assumption | omega) only [go_sem, ↓reduceIte]
 ·rw [if_pos he] at g2
  injection g2 with g2
  simp (disch := first | assumption | omega) only [go_sem, ↓reduceIte, h0, hbb', he]
  exact fin l s' XS v st _ g2.symm ⟨st, Drop.refl _, hO⟩ hx hdl (by simp (disch := first | assumption | omega) only [go_sem, Nat.reduceEqDiff, ↓reduceIte, h3])
end Go.A
namespace Go.A
open Go.Proofs
/-! 159: (*tabular/parse.parser).name -/
def c159_36 : ACode := .seq (.ops [ oq 47 (.build [(.int .i64 0), (.int .i64 0), (.str []), (.int .i64 0), (.int .i64 0), (.bool false), (.bool false), (.int .i64 0), (.int .i64 0), (.bool false), (.bool false), (.sl .full [])] [(0, 1, (.v (.int .i64 3)))]), oe 6 (.alloc [(.int .i64 0), (.int .i64 0), (.str []), (.int .i64 0), (.int .i64 0), (.bool false), (.bool false), (.int .i64 0), (.int .i64 0), (.bool false), (.bool false), (.sl .full [])]), oz (.store 12 (.t 6) (.t 47))]) (.seq (.seq (.ops [ oq 48 (.fa 1 (.t 3)), oq 49 (.ld none (.t 48))]) (.block 0 (.seq (.ops [ oq 53 (.bin .eql (.t 49) (.v (.str [84, 82, 85, 69]))), oq 52 (.mv (.t 53))]) (.cond (.t 52) (.ops [ oq 54 (.fa 1 (.t 6)), oz (.store 1 (.t 54) (.v (.int .i64 1)))]) (.seq (.ops [ oq 56 (.bin .eql (.t 49) (.v (.str [70, 65, 76, 83, 69]))), oq 55 (.mv (.t 56))]) (.cond (.t 55) .skip (.seq (.ops [ oq 50 (.mv (.t 0)), oe 51 (.call 34 [(.t 50), (.v (.int .i64 10))]), oz (.store 12 (.t 4) (.t 51))]) .ret))))))) (.seq (.ops [ oq 57 (.mv (.t 0)), oq 58 (.nc (.t 57)), oq 59 (.fa 1 (.t 58)), oq 60 (.ld none (.t 59)), oq 61 (.bin .add (.t 60) (.v (.int .i64 1))), oq 62 (.nc (.t 57)), oq 63 (.fa 1 (.t 62)), oz (.store 1 (.t 63) (.t 61))]) (.seq (.ops [ oq 64 (.ld (some 12) (.t 6)), oz (.store 12 (.t 4) (.t 64))]) .ret)))
def c159_39 : ACode := .seq (.ops [ oe 3 (.box (.t 1)), oe 4 (.alloc [(.int .i64 0), (.int .i64 0), (.str []), (.int .i64 0), (.int .i64 0), (.bool false), (.bool false), (.int .i64 0), (.int .i64 0), (.bool false), (.bool false), (.sl .full [])])]) (.seq (.ops [ oq 7 (.mv (.t 0)), oq 8 (.nc (.t 7)), oq 9 (.fa 0 (.t 8)), oq 10 (.ld none (.t 9)), oq 11 (.mv (.t 0)), oq 12 (.nc (.t 11)), oq 13 (.fa 1 (.t 12)), oq 14 (.ld none (.t 13)), oq 15 (.bin .add (.t 14) (.v (.int .i64 1))), oq 16 (.ia 4 (.t 10) (.t 15)), oq 17 (.ld (some 4) (.t 16)), ⟨some 5, none, .e (.alloc [(.int .i64 0), (.str []), (.int .i64 0), (.int .i64 0)]), [⟨none, .ld none (.t 9), 10⟩, ⟨none, .ld none (.t 13), 14⟩, ⟨none, .ld (some 4) (.t 16), 17⟩]⟩, oz (.store 4 (.t 5) (.t 17))]) (.seq (.seq (.ops [ oq 18 (.fa 0 (.t 5)), oq 19 (.ld none (.t 18)), oq 20 (.bin .eql (.t 19) (.v (.int .i64 6))), oq 21 (.mv (.t 20)), ⟨some 22, some (21, true), .q (.fa 1 (.t 5)), []⟩, ⟨some 23, some (21, true), .q (.ld none (.t 22)), []⟩, ⟨some 24, some (21, true), .q (.bin .eql (.t 23) (.v (.str [40]))), []⟩, oq 25 (.pick (.t 21) (.t 24) (.v (.bool false)))]) (.cond (.t 25) (.seq (.ops [ oq 26 (.mv (.t 0)), oe 27 (.call 111 [(.t 26)])]) (.dfr 112 (.t 0) 28 (.seq (.seq (.ops [ oq 29 (.mv (.t 0)), oq 30 (.nc (.t 29)), oq 31 (.fa 3 (.t 30)), oq 32 (.ld none (.t 31)), oq 33 (.bin .neq (.t 32) (.v (.int .i64 0)))]) (.cond (.t 33) (.seq (.ops [ oq 34 (.build [(.int .i64 0), (.int .i64 0), (.str []), (.int .i64 0), (.int .i64 0), (.bool false), (.bool false), (.int .i64 0), (.int .i64 0), (.bool false), (.bool false), (.sl .full [])] []), oz (.store 12 (.t 4) (.t 34))]) .ret) .skip)) (.seq (.ops [ oq 35 (.mv (.t 0)), oq 36 (.nc (.t 35)), oq 37 (.fa 1 (.t 36)), oq 38 (.ld none (.t 37)), oq 39 (.bin .add (.t 38) (.v (.int .i64 2))), oq 40 (.nc (.t 35)), oq 41 (.fa 1 (.t 40)), oz (.store 1 (.t 41) (.t 39))]) (.seq (.ops [ oq 42 (.fa 1 (.t 3)), oq 43 (.ld none (.t 42)), oq 44 (.mv (.t 0)), ⟨some 45, none, .e (.call 176 [(.t 44)]), [⟨none, .ld none (.t 42), 43⟩]⟩, oq 46 (.build [(.int .i64 0), (.int .i64 0), (.str []), (.int .i64 0), (.int .i64 0), (.bool false), (.bool false), (.int .i64 0), (.int .i64 0), (.bool false), (.bool false), (.sl .full [])] [(0, 1, (.v (.int .i64 22))), (2, 1, (.t 43)), (11, 1, (.t 45))]), oz (.store 12 (.t 4) (.t 46))]) .ret))))) .skip)) c159_36))
@[go_sem] def c159_36_wp := wp_of c159_36.eq_1
@[go_sem] def c159_39_wp := wp_of c159_39.eq_1
def c159 : AFn := ⟨65, [.c 4 (some 12)], c159_39⟩
theorem c159_ok : compF Tryz.prog Tryz.f159 = some c159 := by kernel_rfl
theorem a159 {args : List AV} {σ : ASt} {R : AV → ASt → Prop} (hl : args.length ≤ 65) (h : c159_39.wp Tryz.prog (RetQ [.c 4 (some 12)] R) (init args) σ) : ACalls Tryz.prog 159 args σ R := acalls_of Tryz.func159 c159_ok hl h
end Go.A
namespace Go.A
open Go.Proofs Go.Lib
set_option maxHeartbeats 4000000 in
theorem name_walk {T : List Tok} (hT : TokOk T) (f : Nat) (ih : ∀ f', f' < f + 1 → WalkF T f') (b : Nat) (s : PSt) (r : Nd × PSt) (h : nameP T (f + 1) s = some r) (hf : Fit T s) (hk3 : (curT T s).kind = 3) (σ : ASt) (hV : LV σ) (hb : σ b = pr T s) :
  ACalls Tryz.prog 159 [.ptr b 0, tokAV (curT T s)] σ fun v σ' => v = r.1.av ∧ σ' = σ.set b (pr T r.2) := by
 rw [nameP] at h
 have hwent := wentF hT.ends
 have he0 : s.err = 0 := cur_err (T := T) (by omega)
 have hn := (hf.next hT.ends (by omega)).1
 have hni : s.i + 1 < T.length := hn.i
 have hlen := hT.len
 have hil := hf.i
 have hget : (T.map tokAV)[s.i + 1]? = some (.agg [.int .i64 (T.getD (s.i + 1) endT).kind, .str (T.getD (s.i + 1) endT).text, .int .i64 (T.getD (s.i + 1) endT).at', .int .i64 (T.getD (s.i + 1) endT).col]) := tok_get hni
 have hTL : (T.map tokAV).length = T.length := by simp
 have hge2 := hT.ends.more (s.i + 1) hni
 have hpr : ∀ x : PSt, pr T x = some (.obj [.sl .shr (T.map tokAV), .int .i64 x.i, .int .i64 x.deep, .int .i64 x.err, .int .i64 x.bad]) := fun x => rfl
 have hcur := hk3
 generalize hct : curT T s = tk at *
 generalize hN : T.getD (s.i + 1) endT = tn at *
 have htv : tokAV tk = .agg [.int .i64 tk.kind, .str tk.text, .int .i64 tk.at', .int .i64 tk.col] := rfl
 rw [htv]
 obtain ⟨TC, hTC⟩ : ∃ TC, ([.int .i64 tk.kind, .str tk.text, .int .i64 tk.at', .int .i64 tk.col] : List AV) = TC := ⟨_, rfl⟩
 have hbn : σ b ≠ none := (pr_fix hb).2
 refine a159 (by simp) ?_
 simp (disch := first | assumption | omega) only [go_sem]
 refine boxC_by rfl fun c hc => ?_
 have hbc : b ≠ c := by rintro rfl; exact hbn hc
 have hbσ : (σ.set c (some (.obj [.int .i64 tk.kind, .str tk.text, .int .i64 tk.at', .int .i64 tk.col]))) b = pr T s := by rw [ASt.set_ne hbc]; exact hb
 have hVσ : LV (σ.set c (some (.obj [.int .i64 tk.kind, .str tk.text, .int .i64 tk.at', .int .i64 tk.col]))) := by
  unfold LV at hV ⊢
  rw [ASt.set_ne]
  ·exact hV
  ·rintro e; rw [← e, hV] at hc; cases hc
 have hcσ : (σ.set c (some (.obj [.int .i64 tk.kind, .str tk.text, .int .i64 tk.at', .int .i64 tk.col]))) c = some (.obj [.int .i64 tk.kind, .str tk.text, .int .i64 tk.at', .int .i64 tk.col]) := ASt.set_same _ _ _
 have hDσ : ∀ X : Option Role, Drop ((σ.set c (some (.obj [.int .i64 tk.kind, .str tk.text, .int .i64 tk.at', .int .i64 tk.col]))).set b X) (σ.set b X) := fun X => by
  rw [set_swap (Ne.symm hbc)]
  exact Drop.set (by rw [ASt.set_ne (Ne.symm hbc)]; exact hc)
 simp (disch := first | assumption | omega) only [go_sem]
 refine allocC_by fun d hd => ?_
 generalize hρ : σ.set c (some (.obj [.int .i64 tk.kind, .str tk.text, .int .i64 tk.at', .int .i64 tk.col])) = ρ at *
 obtain ⟨hbd, T2, S2⟩ := St2.of hd (pr_fix hbσ).1 (pr_fix hbσ).2
 have hcd : c ≠ d := by rintro rfl; rw [hcσ] at hd; cases hd
 rw [S2.one, hbσ]
 have q1 := fun Y => S2.a1 (pr T s) Y
 rw [hpr s] at q1
 have e1 : ((s.i : Int) + 1).toNat = s.i + 1 := by omega
 have e2 : ((s.i : Int) + 1) < T.length := by omega
 rw [hpr s]
 simp (disch := first | assumption | omega) only [go_sem, reduceCtorEq, Nat.reduceEqDiff, Nat.reduceAdd, Nat.reduceLeDiff, ↓reduceIte, q1, hget, e1]
 refine allocC_by fun g hg => ?_
 obtain ⟨hbg, hdg, T3, S3⟩ := St3.of S2 (X0 := .obj _) hg
 have ab := S3.ab
 have k3 := S3.s3
 have k2 := S3.s2
 have k1 := S3.s1
 have w3 := S3.a3
 have w2 := S3.a2
 have w1 := S3.a1
 have hcg : c ≠ g := by
  rintro rfl
  rw [S2.other _ _ _ (Ne.symm hbc) hcd, hcσ] at hg
  cases hg
 have wc : ∀ X Y Z, T3 X Y Z c = some (.obj [.int .i64 tk.kind, .str tk.text, .int .i64 tk.at', .int .i64 tk.col]) := fun X Y Z => by rw [S3.other _ _ _ _ (Ne.symm hbc) hcd hcg]; exact hcσ
 have V3 : ∀ X Y Z, LV (T3 X Y Z) := fun X Y Z => S3.fix _ _ _ _ _ hVσ
 have hDr : ∀ X Y Z, Drop (T3 X Y Z) (σ.set b X) := fun X Y Z => (S3.drop _ _ _).trans (hDσ _)
 have w1' := fun Y Z => w1 (pr T s) Y Z
 rw [hpr s] at w1'
 simp (disch := first | assumption | omega) only [go_sem, Nat.reduceEqDiff, Nat.reduceAdd, Nat.reduceLeDiff, ↓reduceIte, Bool.true_and, ab, k3, w3, w1']
 rw [← hpr s]
 by_cases hop : tn.kind = 6 ∧ tn.text = [40]
 ·rw [if_pos hop] at h
  obtain ⟨hp1, hp2⟩ := hop
  obtain ⟨g1, g2, g3⟩ := enter_err hT.ends hf he0
  have hen := fun Y Z => penter_ok (T := T) (s := s) hf.i ⟨hf.d0, by have := hf.d1; omega⟩ (w1 (pr T s) Y Z)
  have g4 := fun he => enter2 hT.ends hf (by rw [hct, hcur]; decide) he
  simp (disch := first | assumption | omega) only [go_sem, reduceCtorEq, Nat.reduceEqDiff, ↓reduceIte, hp1, hp2, w3]
  refine (hen _ _).mono ?_
  rintro v σ1 ⟨rfl, rfl⟩
  rw [k1]
  generalize hE : enterP T s = sE at *
  by_cases he : sE.err = 0
  ·rw [if_neg (by simp [he])] at h
   cases h1 : argsP T f sE.next.next with
   | none => rw [h1] at h; cases h
   | some r1 =>
     rw [h1] at h
     injection h with h
     subst h
     obtain ⟨f1, f2, f3, f4⟩ := g4 he
     have hl2 := hge2 (by omega)
     have f5 : Fit T sE.next.next := ⟨by show sE.i + 1 + 1 < _; omega, f1.d0, f1.d1, f1.d2⟩
     have hw := (hwent f).args _ _ h1 f5
     have har := fun Y Z => (ih f (by omega)).args b _ r1 h1 f5 _ (V3 (pr T sE.next.next) Y Z) (w1 _ _ _)
     have hlv := fun Y Z => pleave_ok (T := T) (s := r1.2) ⟨hw.fit.d0, by have := hw.fit.d1; omega⟩ (w1 (pr T r1.2) Y Z)
     have hpn : some (Role.obj [.sl .shr (T.map tokAV), .int .i64 ((sE.i : Int) + 2), .int .i64 sE.deep, .int .i64 0, .int .i64 sE.bad]) = pr T sE.next.next := by
      rw [hpr]
      show _ = some (Role.obj [.sl .shr (T.map tokAV), .int .i64 (((sE.i + 1 + 1 : Nat)) : Int), .int .i64 sE.deep, .int .i64 sE.err, .int .i64 sE.bad])
      rw [he, show (((sE.i + 1 + 1 : Nat)) : Int) = (sE.i : Int) + 2 by omega]
     have v1 := fun Y Z => w1 (pr T sE) Y Z
     rw [hpr sE, he] at v1
     have hEi : (sE.i : Int) ≤ 1000000 := by omega
     obtain ⟨L, s1⟩ := r1
     dsimp only at har hlv ⊢
     rw [hpr sE, he]
     simp (disch := first | assumption | omega) only [go_sem, reduceCtorEq, Nat.reduceEqDiff, Nat.reduceAdd, Nat.reduceLeDiff, ↓reduceIte, Bool.true_and, v1, k1]
     rw [hpn]
     simp (disch := first | assumption | omega) only [go_sem, reduceCtorEq, ↓reduceIte, wc]
     refine (har _ _).mono ?_
     rintro v σ1 ⟨rfl, rfl⟩
     rw [k1]
     simp (disch := first | assumption | omega) only [go_sem, Nat.reduceEqDiff, Nat.reduceAdd, Nat.reduceLeDiff, ↓reduceIte, Bool.true_and, wc, w2, k2]
     refine (hlv _ _).mono ?_
     rintro v σ1 ⟨rfl, rfl⟩
     rw [k1]
     simp (disch := first | assumption | omega) only [go_sem, Nat.reduceAdd, Nat.reduceLeDiff, ↓reduceIte, w2]
     rw [Nd.av_cs]
     exact retC_by (hDr _ _ _) (fzN 22 0 tk.text .zero .zero _ _) ⟨rfl, rfl⟩
  ·rw [if_pos he] at h
   injection h with h
   subst h
   have hlv := fun Y Z => pleave_ok (T := T) (s := sE) ⟨g1.d0, by have := g1.d1; omega⟩ (w1 (pr T sE) Y Z)
   have v1 : ∀ Y Z, T3 (pr T sE) Y Z b = some (.obj [.sl .shr (T.map tokAV), .int .i64 sE.i, .int .i64 sE.deep, .int .i64 sE.err, .int .i64 sE.bad]) := fun Y Z => w1 _ _ _
   simp (disch := first | assumption | omega) only [go_sem, reduceCtorEq, Nat.reduceEqDiff, Nat.reduceAdd, Nat.reduceLeDiff, ↓reduceIte, Bool.true_and, v1, he, w2, k2]
   refine (hlv _ _).mono ?_
   rintro v σ1 ⟨rfl, rfl⟩
   rw [k1]
   simp (disch := first | assumption | omega) only [go_sem, Nat.reduceAdd, Nat.reduceLeDiff, ↓reduceIte, w2]
   rw [zN_av]
   exact retC_by (hDr _ _ _) (fzN 0 0 [] .zero .zero _ _) ⟨rfl, rfl⟩
 ·rw [if_neg hop] at h
  have hpn : some (Role.obj [.sl .shr (T.map tokAV), .int .i64 ((s.i : Int) + 1), .int .i64 s.deep, .int .i64 s.err, .int .i64 s.bad]) = pr T s.next := rfl
  have hfl := fun τ hh => pfail_ok (T := T) (s := s) hf.i 10 (σ := τ) (b := b) hh
  have rest : ∀ a1 : AFr, (a1 0 = .ptr b 0 ∧ a1 3 = .ptr c 0 ∧ a1 4 = .ptr d 0) → ACode.wp Tryz.prog c159_36 (RetQ [.c 4 (some 12)] fun v σ' => v = r.1.av ∧ σ' = σ.set b (pr T r.2)) a1 (T3 (pr T s) (some (.obj zero12)) (some (.obj [.int .i64 tn.kind, .str tn.text, .int .i64 tn.at', .int .i64 tn.col]))) := by
   intro a1 hf1
   unfold zero12
   simp (disch := first | assumption | omega) only [go_sem, Nat.reduceAdd, Nat.reduceLeDiff, ↓reduceIte]
   refine allocC_by fun e he => ?_
   obtain ⟨T4, S4⟩ := St4.of S3 (X0 := .obj _) he
   have ab4 := S4.ab
   have m1 := S4.s1
   have m2 := S4.s2
   have m4 := S4.s4
   have p1 := S4.a1
   have p2 := S4.a2
   have p4 := S4.a4
   have hce : c ≠ e := by rintro rfl; rw [wc] at he; cases he
   have pc : ∀ X Y Z W, T4 X Y Z W c = some (.obj [.int .i64 tk.kind, .str tk.text, .int .i64 tk.at', .int .i64 tk.col]) := fun X Y Z W => by rw [← ab4, ASt.set_ne hce]; exact wc _ _ _
   have hDr4 : ∀ X Y Z W, Drop (T4 X Y Z W) (σ.set b X) := fun X Y Z W => (S4.drop _ _ _ _).trans (hDσ _)
   have v1 := fun Y Z W => p1 (pr T s) Y Z W
   rw [hpr s] at v1
   by_cases t1 : tk.text = [84, 82, 85, 69]
   ·rw [if_pos t1] at h
    injection h with h
    subst h
    rw [t1] at pc
    rw [hpr s]
    simp (disch := first | assumption | omega) only [go_sem, reduceCtorEq, Nat.reduceEqDiff, Nat.reduceAdd, Nat.reduceLeDiff, ↓reduceIte, Bool.true_and, hf1, ab4, m4, p4, pc, v1, m1]
    rw [hpn]
    simp (disch := first | assumption | omega) only [go_sem, Nat.reduceEqDiff, Nat.reduceAdd, Nat.reduceLeDiff, ↓reduceIte, Bool.true_and, hf1, p2, m2]
    rw [Nd.av_cs]
    exact retC_by (hDr4 _ _ _ _) (fzN 3 1 [] .zero .zero _ _) ⟨rfl, rfl⟩
   rw [if_neg t1] at h
   by_cases t2 : tk.text = [70, 65, 76, 83, 69]
   ·rw [if_pos t2] at h
    injection h with h
    subst h
    have t3 : ¬ ([70, 65, 76, 83, 69] : List UInt8) = [84, 82, 85, 69] := by decide
    rw [hpr s]
    simp (disch := first | assumption | omega) only [go_sem, reduceCtorEq, Nat.reduceEqDiff, Nat.reduceAdd, Nat.reduceLeDiff, ↓reduceIte, Bool.true_and, hf1, ab4, m4, p4, pc, t2, t3, v1, m1]
    rw [hpn]
    simp (disch := first | assumption | omega) only [go_sem, Nat.reduceEqDiff, Nat.reduceAdd, Nat.reduceLeDiff, ↓reduceIte, Bool.true_and, hf1, p2, m2]
    rw [Nd.av_cs]
    exact retC_by (hDr4 _ _ _ _) (fzN 3 0 [] .zero .zero _ _) ⟨rfl, rfl⟩
   rw [if_neg t2] at h
   injection h with h
   subst h
   simp (disch := first | assumption | omega) only [go_sem, reduceCtorEq, Nat.reduceEqDiff, Nat.reduceAdd, Nat.reduceLeDiff, ↓reduceIte, Bool.true_and, hf1, ab4, m4, p4, pc, t1, t2]
   refine (hfl _ (p1 _ _ _ _)).mono ?_
   rintro v σ1 ⟨rfl, rfl⟩
   rw [m1, zN_av, zN_cells]
   simp (disch := first | assumption | omega) only [go_sem, Nat.reduceEqDiff, Nat.reduceAdd, Nat.reduceLeDiff, ↓reduceIte, Bool.true_and, hf1, p2, m2]
   exact retC_by (hDr4 _ _ _ _) (.refl _) ⟨rfl, rfl⟩
  obtain ⟨F, hF⟩ : ∃ F, F = ACode.wp Tryz.prog c159_36 := ⟨_, rfl⟩
  rw [← hF] at rest
  unfold zero12 at rest
  by_cases hp1 : tn.kind = 6
  ·have hp2 : ¬ tn.text = [40] := fun h2 => hop ⟨hp1, h2⟩
   rw [hp1] at rest
   simp (disch := first | assumption | omega) only [go_sem, Nat.reduceEqDiff, ↓reduceIte, w3, hp1, hp2, ←hF]
   refine rest _ ?_
   simp (disch := first | assumption | omega) only [go_sem, reduceCtorEq, Nat.reduceEqDiff, ↓reduceIte]
  ·simp (disch := first | assumption | omega) only [go_sem, Nat.reduceEqDiff, ↓reduceIte, hp1, ←hF]
   refine rest _ ?_
   simp (disch := first | assumption | omega) only [go_sem, reduceCtorEq, Nat.reduceEqDiff, ↓reduceIte]
end Go.A
namespace Go.A
open Go.Proofs
/-! 139: (*tabular/parse.parser).primary -/
def c139_40 : ACode := .cond (.t 11) (.seq (.ops [ oq 14 (.fa 1 (.t 3)), oq 15 (.ld none (.t 14)), oe 16 (.call 30 [(.t 15)]), oq 13 (.mv (.t 16)), oq 17 (.ext 0 (.t 13)), oq 18 (.ext 1 (.t 13)), oq 4 (.mv (.t 17)), oq 5 (.mv (.t 18))]) (.seq (.seq (.ops [ oq 19 (.mv (.t 5)), oq 20 (.un .not (.t 19))]) (.cond (.t 20) (.seq (.ops [ oq 21 (.mv (.t 0)), oe 22 (.call 34 [(.t 21), (.v (.int .i64 10))]), oz (.store 12 (.t 2) (.t 22))]) .ret) .skip)) (.seq (.ops [ oq 23 (.mv (.t 0)), oq 24 (.nc (.t 23)), oq 25 (.fa 1 (.t 24)), oq 26 (.ld none (.t 25)), oq 27 (.bin .add (.t 26) (.v (.int .i64 1))), oq 28 (.nc (.t 23)), oq 29 (.fa 1 (.t 28)), oz (.store 1 (.t 29) (.t 27))]) (.seq (.ops [ oq 30 (.mv (.t 4)), oq 31 (.build [(.int .i64 0), (.int .i64 0), (.str []), (.int .i64 0), (.int .i64 0), (.bool false), (.bool false), (.int .i64 0), (.int .i64 0), (.bool false), (.bool false), (.sl .full [])] [(0, 1, (.v (.int .i64 1))), (1, 1, (.t 30))]), oz (.store 12 (.t 2) (.t 31))]) .ret)))) (.seq (.ops [ oq 33 (.bin .eql (.t 10) (.v (.int .i64 2))), oq 32 (.mv (.t 33))]) (.cond (.t 32) (.seq (.ops [ oq 34 (.mv (.t 0)), oq 35 (.nc (.t 34)), oq 36 (.fa 1 (.t 35)), oq 37 (.ld none (.t 36)), oq 38 (.bin .add (.t 37) (.v (.int .i64 1))), oq 39 (.nc (.t 34)), oq 40 (.fa 1 (.t 39)), oz (.store 1 (.t 40) (.t 38))]) (.seq (.ops [ oq 41 (.fa 1 (.t 3)), oq 42 (.ld none (.t 41)), oq 43 (.build [(.int .i64 0), (.int .i64 0), (.str []), (.int .i64 0), (.int .i64 0), (.bool false), (.bool false), (.int .i64 0), (.int .i64 0), (.bool false), (.bool false), (.sl .full [])] [(0, 1, (.v (.int .i64 2))), (2, 1, (.t 42))]), oz (.store 12 (.t 2) (.t 43))]) .ret)) (.seq (.ops [ oq 45 (.bin .eql (.t 10) (.v (.int .i64 5))), oq 44 (.mv (.t 45))]) (.cond (.t 44) (.seq (.ops [ oq 46 (.mv (.t 0)), oq 47 (.nc (.t 46)), oq 48 (.fa 1 (.t 47)), oq 49 (.ld none (.t 48)), oq 50 (.bin .add (.t 49) (.v (.int .i64 1))), oq 51 (.nc (.t 46)), oq 52 (.fa 1 (.t 51)), oz (.store 1 (.t 52) (.t 50))]) (.seq (.ops [ oq 54 (.fa 1 (.t 3)), oq 55 (.ld none (.t 54)), ⟨some 53, none, .e (.call 119 []), [⟨none, .ld none (.t 54), 55⟩]⟩, oe 56 (.call 70 [(.t 53), (.t 55)]), oq 57 (.bin .add (.t 56) (.v (.int .i64 1))), oq 58 (.bin .mul (.t 57) (.v (.int .i64 10000))), oq 59 (.build [(.int .i64 0), (.int .i64 0), (.str []), (.int .i64 0), (.int .i64 0), (.bool false), (.bool false), (.int .i64 0), (.int .i64 0), (.bool false), (.bool false), (.sl .full [])] [(0, 1, (.v (.int .i64 4))), (1, 1, (.t 58))]), oz (.store 12 (.t 2) (.t 59))]) .ret)) (.seq (.ops [ oq 61 (.bin .eql (.t 10) (.v (.int .i64 4))), oq 60 (.mv (.t 61))]) (.cond (.t 60) (.seq (.ops [ oq 62 (.mv (.t 0)), oe 63 (.call 158 [(.t 62)]), oz (.store 12 (.t 2) (.t 63))]) .ret) (.seq (.ops [ oq 65 (.bin .eql (.t 10) (.v (.int .i64 3))), oq 64 (.mv (.t 65))]) (.cond (.t 64) (.seq (.ops [ oq 66 (.mv (.t 0)), oq 67 (.ld (some 4) (.t 3)), oe 68 (.call 159 [(.t 66), (.t 67)]), oz (.store 12 (.t 2) (.t 68))]) .ret) .skip))))))))
def c139_60 : ACode := .seq (.ops [ oq 89 (.mv (.t 0)), oe 90 (.call 32 [(.t 89), (.v (.int .i64 0))]), oe 6 (.alloc [(.int .i64 0), (.int .i64 0), (.str []), (.int .i64 0), (.int .i64 0), (.bool false), (.bool false), (.int .i64 0), (.int .i64 0), (.bool false), (.bool false), (.sl .full [])]), oz (.store 12 (.t 6) (.t 90))]) (.seq (.ops [ oq 91 (.mv (.t 0)), oe 92 (.call 160 [(.t 91), (.v (.str [41]))])]) (.seq (.ops [ oq 93 (.ld (some 12) (.t 6)), oz (.store 12 (.t 2) (.t 93))]) .ret))
def c139_64 : ACode := .seq (.seq (.ops [ oq 69 (.mv (.t 0)), oe 70 (.call 109 [(.t 69), (.v (.str [40]))]), oq 71 (.un .not (.t 70))]) (.cond (.t 71) (.seq (.ops [ oq 72 (.mv (.t 0)), oe 73 (.call 34 [(.t 72), (.v (.int .i64 10))]), oz (.store 12 (.t 2) (.t 73))]) .ret) .skip)) (.seq (.ops [ oq 74 (.mv (.t 0)), oe 75 (.call 111 [(.t 74)])]) (.dfr 112 (.t 0) 76 (.seq (.seq (.ops [ oq 77 (.mv (.t 0)), oq 78 (.nc (.t 77)), oq 79 (.fa 3 (.t 78)), oq 80 (.ld none (.t 79)), oq 81 (.bin .eql (.t 80) (.v (.int .i64 0)))]) (.cond (.t 81) (.ops [ oq 82 (.mv (.t 0)), oq 83 (.nc (.t 82)), oq 84 (.fa 1 (.t 83)), oq 85 (.ld none (.t 84)), oq 86 (.bin .add (.t 85) (.v (.int .i64 1))), oq 87 (.nc (.t 82)), oq 88 (.fa 1 (.t 87)), oz (.store 1 (.t 88) (.t 86))]) .skip)) c139_60)))
def c139_66 : ACode := .seq (.ops [ oe 2 (.alloc [(.int .i64 0), (.int .i64 0), (.str []), (.int .i64 0), (.int .i64 0), (.bool false), (.bool false), (.int .i64 0), (.int .i64 0), (.bool false), (.bool false), (.sl .full [])])]) (.seq (.seq (.ops [ oq 7 (.mv (.t 0)), oe 8 (.call 33 [(.t 7)]), oe 3 (.alloc [(.int .i64 0), (.str []), (.int .i64 0), (.int .i64 0)]), oz (.store 4 (.t 3) (.t 8))]) (.seq (.ops [ oq 9 (.fa 0 (.t 3)), oq 10 (.ld none (.t 9))]) (.block 0 (.seq (.ops [ oq 12 (.bin .eql (.t 10) (.v (.int .i64 1))), oq 11 (.mv (.t 12))]) c139_40)))) c139_64)
@[go_sem] def c139_40_wp := wp_of c139_40.eq_1
@[go_sem] def c139_60_wp := wp_of c139_60.eq_1
@[go_sem] def c139_64_wp := wp_of c139_64.eq_1
@[go_sem] def c139_66_wp := wp_of c139_66.eq_1
def c139 : AFn := ⟨94, [.c 2 (some 12)], c139_66⟩
theorem c139_ok : compF Tryz.prog Tryz.f139 = some c139 := by kernel_rfl
theorem a139 {args : List AV} {σ : ASt} {R : AV → ASt → Prop} (hl : args.length ≤ 94) (h : c139_66.wp Tryz.prog (RetQ [.c 2 (some 12)] R) (init args) σ) : ACalls Tryz.prog 139 args σ R := acalls_of Tryz.func139 c139_ok hl h
end Go.A
namespace Go.A
open Go.Proofs Go.Lib
set_option maxHeartbeats 8000000 in
theorem prim_walk {T : List Tok} (hT : TokOk T) (f : Nat) (ih : ∀ f', f' < f + 1 → WalkF T f') (b : Nat) (s : PSt) (r : Nd × PSt) (h : primP T (f + 1) s = some r) (hf : Fit T s) (σ : ASt) (hV : LV σ) (hb : σ b = pr T s) :
  ACalls Tryz.prog 139 [.ptr b 0] σ fun v σ' => v = r.1.av ∧ σ' = σ.set b (pr T r.2) := by
 rw [primP] at h
 have hwent := wentF hT.ends
 have hlen := hT.len
 have hil := hf.i
 have hpr : ∀ x : PSt, pr T x = some (.obj [.sl .shr (T.map tokAV), .int .i64 x.i, .int .i64 x.deep, .int .i64 x.err, .int .i64 x.bad]) := fun x => rfl
 have hpn : some (Role.obj [.sl .shr (T.map tokAV), .int .i64 ((s.i : Int) + 1), .int .i64 s.deep, .int .i64 s.err, .int .i64 s.bad]) = pr T s.next := rfl
 have htx := hT.cur s
 have hD := dparse_ok (curT T s).text htx
 have hE := tenames_ok
 have hix := strindex_ok errL (curT T s).text (by decide)
 have hrg := idxS_rng (curT T s).text errL 0
 have hel : errL.length = 7 := rfl
 have hidx : idxP errL (curT T s).text = idxS (curT T s).text errL 0 := rfl
 have hAr := fun hk τ hh => area_walk hT b s hf hk τ hh
 have hNa := fun hk r hr τ hv hh => (ih f (by omega)).name b s r hr hf hk τ hv hh
 refine a139 (by simp) ?_
 simp (disch := first | assumption | omega) only [go_sem]
 refine allocC_by fun d hd => ?_
 obtain ⟨hbd, T2, S2⟩ := St2.of hd (pr_fix hb).1 (pr_fix hb).2
 rw [S2.one, hb]
 have q1 := S2.a1
 have hcu := fun X => pcur_ok (T := T) hf.i (q1 (pr T s) X)
 have htv : tokAV (curT T s) = .agg [.int .i64 (curT T s).kind, .str (curT T s).text, .int .i64 (curT T s).at', .int .i64 (curT T s).col] := rfl
 rw [htv] at hcu
 rw [htv] at hNa
 generalize hct : curT T s = tk at *
 simp (disch := first | assumption | omega) only [go_sem, reduceCtorEq, ↓reduceIte]
 refine (hcu _).mono ?_
 rintro v σ1 ⟨rfl, rfl⟩
 simp (disch := first | assumption | omega) only [go_sem]
 refine allocC_by fun e he => ?_
 obtain ⟨hbe, hde, T3, S3⟩ := St3.of S2 (X0 := .obj _) he
 have ab := S3.ab
 have k3 := S3.s3
 have k2 := S3.s2
 have k1 := S3.s1
 have w3 := S3.a3
 have w2 := S3.a2
 have w1 := S3.a1
 have V3 : ∀ X Y Z, LV (T3 X Y Z) := fun X Y Z => S3.fix _ _ _ _ _ hV
 have hDr := S3.drop
 have v1 := fun Y Z => w1 (pr T s) Y Z
 rw [hpr s] at v1
 have hfl := fun τ hh => pfail_ok (T := T) (s := s) hf.i 10 (σ := τ) (b := b) hh
 obtain ⟨F, hF⟩ : ∃ F, F = ACode.wp Tryz.prog c139_64 := ⟨_, rfl⟩
 simp (disch := first | assumption | omega) only [go_sem, Nat.reduceEqDiff, Nat.reduceAdd, Nat.reduceLeDiff, ↓reduceIte, Bool.true_and, ab, k3, w3, ←hF]
 by_cases c1 : tk.kind = 1
 ·rw [if_pos c1] at h
  cases hp : parseD tk.text with
  | none =>
    rw [hp] at h hD
    injection h with h
    subst h
    have hD' : Pure Tryz.prog 30 [.str tk.text] (.tuple [.int .i64 0, .bool false]) := hD
    simp (disch := first | assumption | omega) only [go_sem, Nat.reduceEqDiff, ↓reduceIte, c1, w3]
    refine hD'.use ?_
    simp (disch := first | assumption | omega) only [go_sem, reduceCtorEq, Nat.reduceEqDiff, ↓reduceIte]
    refine (hfl _ (w1 _ _ _)).mono ?_
    rintro v σ1 ⟨rfl, rfl⟩
    rw [k1, zN_av, zN_cells]
    simp (disch := first | assumption | omega) only [go_sem, Nat.reduceEqDiff, Nat.reduceAdd, Nat.reduceLeDiff, ↓reduceIte, Bool.true_and, w2, k2]
    exact retC_by (hDr _ _ _) (.refl _) ⟨rfl, rfl⟩
  | some v =>
    rw [hp] at h hD
    injection h with h
    subst h
    have hD' : Pure Tryz.prog 30 [.str tk.text] (.tuple [.int .i64 v, .bool true]) := hD
    simp (disch := first | assumption | omega) only [go_sem, Nat.reduceEqDiff, ↓reduceIte, c1, w3]
    refine hD'.use ?_
    rw [hpr s]
    simp (disch := first | assumption | omega) only [go_sem, reduceCtorEq, Nat.reduceEqDiff, Nat.reduceAdd, Nat.reduceLeDiff, ↓reduceIte, Bool.true_and, v1, k1]
    rw [hpn]
    simp (disch := first | assumption | omega) only [go_sem, Nat.reduceEqDiff, Nat.reduceAdd, Nat.reduceLeDiff, ↓reduceIte, Bool.true_and, w2, k2]
    rw [Nd.av_cs]
    exact retC_by (hDr _ _ _) (fzN 1 v [] .zero .zero _ _) ⟨rfl, rfl⟩
 rw [if_neg c1] at h
 by_cases c2 : tk.kind = 2
 ·rw [if_pos c2] at h
  injection h with h
  subst h
  rw [hpr s]
  simp (disch := first | assumption | omega) only [go_sem, reduceCtorEq, Nat.reduceEqDiff, Nat.reduceAdd, Nat.reduceLeDiff, Int.reduceEq, ↓reduceIte, Bool.true_and, c2, w3, v1, k1]
  rw [hpn]
  simp (disch := first | assumption | omega) only [go_sem, Nat.reduceEqDiff, Nat.reduceAdd, Nat.reduceLeDiff, ↓reduceIte, Bool.true_and, w2, k2]
  rw [Nd.av_cs]
  exact retC_by (hDr _ _ _) (fzN 2 0 tk.text .zero .zero _ _) ⟨rfl, rfl⟩
 rw [if_neg c2] at h
 by_cases c5 : tk.kind = 5
 ·rw [if_pos c5] at h
  injection h with h
  subst h
  rw [hidx] at hix ⊢
  generalize idxS tk.text errL 0 = q at *
  rw [hpr s]
  simp (disch := first | assumption | omega) only [go_sem, reduceCtorEq, Nat.reduceEqDiff, Nat.reduceAdd, Nat.reduceLeDiff, Int.reduceEq, ↓reduceIte, Bool.true_and, c5, w3, v1, k1]
  rw [hpn]
  refine hE.use ?_
  simp (disch := first | assumption | omega) only [go_sem, Nat.reduceEqDiff, ↓reduceIte, w3]
  refine hix.use ?_
  simp (disch := first | assumption | omega) only [go_sem, Nat.reduceEqDiff, Nat.reduceAdd, Nat.reduceLeDiff, ↓reduceIte, Bool.true_and, w2, k2]
  rw [Nd.av_cs]
  exact retC_by (hDr _ _ _) (fzN 4 ((q + 1) * 10000) [] .zero .zero _ _) ⟨rfl, rfl⟩
 rw [if_neg c5] at h
 by_cases c4 : tk.kind = 4
 ·rw [if_pos c4] at h
  injection h with h
  subst h
  have hA := fun Y Z => hAr c4 _ (w1 (pr T s) Y Z)
  clear hAr hNa
  generalize areaP T s = RA at *
  obtain ⟨n, s'⟩ := RA
  dsimp only at hA ⊢
  obtain ⟨o, m, t, x, y, ks⟩ := n
  simp only [Nd.av_cs] at hA ⊢
  generalize ks.map Nd.av = KL at *
  simp (disch := first | assumption | omega) only [go_sem, reduceCtorEq, Nat.reduceEqDiff, Int.reduceEq, ↓reduceIte, c4]
  refine (hA _ _).mono ?_
  rintro v σ1 ⟨rfl, rfl⟩
  rw [k1]
  simp (disch := first | assumption | omega) only [go_sem, Nat.reduceEqDiff, Nat.reduceAdd, Nat.reduceLeDiff, ↓reduceIte, w2, k2]
  exact retC_by (hDr _ _ _) (.refl _) ⟨rfl, rfl⟩
 rw [if_neg c4] at h
 by_cases c3 : tk.kind = 3
 ·rw [if_pos c3] at h
  have hA := fun Y Z => hNa c3 r h _ (V3 (pr T s) Y Z) (w1 _ _ _)
  obtain ⟨n, s'⟩ := r
  dsimp only at hA ⊢
  obtain ⟨o, m, t, x, y, ks⟩ := n
  simp only [Nd.av_cs] at hA ⊢
  generalize ks.map Nd.av = KL at *
  rw [c3] at hA
  simp (disch := first | assumption | omega) only [go_sem, reduceCtorEq, Nat.reduceEqDiff, Nat.reduceAdd, Nat.reduceLeDiff, Int.reduceEq, ↓reduceIte, c3, w3]
  refine (hA _ _).mono ?_
  rintro v σ1 ⟨rfl, rfl⟩
  rw [k1]
  simp (disch := first | assumption | omega) only [go_sem, Nat.reduceEqDiff, Nat.reduceAdd, Nat.reduceLeDiff, ↓reduceIte, w2, k2]
  exact retC_by (hDr _ _ _) (.refl _) ⟨rfl, rfl⟩
 rw [if_neg c3] at h
 simp (disch := first | assumption | omega) only [go_sem, Nat.reduceEqDiff, ↓reduceIte, c1, c2, c5, c4, c3]
 rw [hF]
 have hat := fun Y Z => pat_ok hf.i [40] (w1 (pr T s) Y Z)
 simp (disch := first | assumption | omega) only [go_sem, reduceCtorEq, ↓reduceIte]
 refine (hat _ _).mono ?_
 rintro v σ1 ⟨rfl, rfl⟩
 by_cases hop : isOp T s [40] = true
 ·rw [if_pos hop] at h
  rw [hop]
  cases h1 : betwP T f 0 (stepP1 (enterP T s)) with
  | none => rw [h1] at h; cases h
  | some r1 =>
    rw [h1] at h
    injection h with h
    subst h
    have hk := isOp_kind hop
    have he0 := cur_err hk
    obtain ⟨e1, e2, e3⟩ := enter_err hT.ends hf he0
    obtain ⟨g1, g2, g3⟩ := enter_fit hT.ends hf hk
    have hw := (hwent f).betw _ _ _ h1 g1
    have hwm := Went.must hT.ends hw.fit [41]
    have hen := fun Y Z => penter_ok (T := T) (s := s) hf.i ⟨hf.d0, by have := hf.d1; omega⟩ (w1 (pr T s) Y Z)
    have hbe' := fun Y Z => (ih f (by omega)).betw b 0 _ r1 (by omega) h1 g1 _ (V3 (pr T (stepP1 (enterP T s))) Y Z) (w1 _ _ _)
    rw [show ((0 : Nat) : Int) = 0 from rfl] at hbe'
    have hst : stepP1 (enterP T s) = if (enterP T s).err = 0 then (enterP T s).next else enterP T s := rfl
    generalize hS : stepP1 (enterP T s) = sS at *
    generalize hE2 : enterP T s = sE at *
    obtain ⟨n1, s1⟩ := r1
    dsimp only at hbe' hw hwm ⊢
    obtain ⟨o, m, t, x, y, ks⟩ := n1
    simp only [Nd.av_cs] at hbe' ⊢
    generalize ks.map Nd.av = KL at *
    simp (disch := first | assumption | omega) only [go_sem, reduceCtorEq, ↓reduceIte]
    refine (hen _ _).mono ?_
    rintro v σ1 ⟨rfl, rfl⟩
    rw [k1]
    have hpE : some (Role.obj [.sl .shr (T.map tokAV), .int .i64 ((sE.i : Int) + 1), .int .i64 sE.deep, .int .i64 sE.err, .int .i64 sE.bad]) = pr T sE.next := rfl
    have hmu := fun τ hh => pmust_ok hT.ends hw.fit hT.len [41] (σ := τ) (b := b) hh
    have hlv := fun τ hh => pleave_ok (T := T) (s := mustP T s1 [41]) ⟨hwm.fit.d0, by have := hwm.fit.d1; omega⟩ (σ := τ) (b := b) hh
    have tail : ∀ a1 : AFr, (a1 0 = .ptr b 0 ∧ a1 2 = .ptr d 0) → ACode.wp Tryz.prog c139_60 (DfrQ Tryz.prog 112 (.ptr b 0) (RetQ [.c 2 (some 12)] fun v σ' => v = .agg (Nd.cs o m t x y KL) ∧ σ' = σ.set b (pr T (leaveP (mustP T s1 [41]))))) a1 (T3 (pr T sS) (some (.obj zero12)) (some (.obj [.int .i64 tk.kind, .str tk.text, .int .i64 tk.at', .int .i64 tk.col]))) := by
     intro a1 hf1
     unfold zero12
     simp (disch := first | assumption | omega) only [go_sem, ↓reduceIte, hf1]
     refine (hbe' _ _).mono ?_
     rintro v σ1 ⟨rfl, rfl⟩
     rw [k1]
     simp (disch := first | assumption | omega) only [go_sem]
     refine allocC_by fun g hg => ?_
     obtain ⟨T4, S4⟩ := St4.of S3 (X0 := .obj _) hg
     have ab4 := S4.ab
     have m1 := S4.s1
     have m2 := S4.s2
     have m4 := S4.s4
     have p1 := S4.a1
     have p2 := S4.a2
     have p4 := S4.a4
     simp (disch := first | assumption | omega) only [go_sem, reduceCtorEq, Nat.reduceEqDiff, Nat.reduceAdd, Nat.reduceLeDiff, ↓reduceIte, hf1, ab4, m4, p4]
     refine (hmu _ (p1 _ _ _ _)).mono ?_
     rintro v σ1 ⟨rfl, rfl⟩
     rw [m1]
     simp (disch := first | assumption | omega) only [go_sem, Nat.reduceEqDiff, Nat.reduceAdd, Nat.reduceLeDiff, ↓reduceIte, hf1, p4, p2, m2]
     refine (hlv _ (p1 _ _ _ _)).mono ?_
     rintro v σ1 ⟨rfl, rfl⟩
     rw [m1]
     simp (disch := first | assumption | omega) only [go_sem, Nat.reduceLeDiff, ↓reduceIte, p2]
     exact retC_by (S4.drop _ _ _ _) (.refl _) ⟨rfl, rfl⟩
    obtain ⟨G, hG⟩ : ∃ G, G = ACode.wp Tryz.prog c139_60 := ⟨_, rfl⟩
    rw [← hG] at tail
    unfold zero12 at tail
    by_cases hee : sE.err = 0
    ·rw [if_pos hee] at hst
     subst hst
     have hEi : (sE.i : Int) ≤ 1000000 := by omega
     have x1 := fun Y Z => w1 (pr T sE) Y Z
     rw [hpr sE, hee] at x1
     rw [hee] at hpE
     rw [hpr sE, hee]
     simp (disch := first | assumption | omega) only [go_sem, reduceCtorEq, Nat.reduceEqDiff, Nat.reduceAdd, Nat.reduceLeDiff, ↓reduceIte, Bool.true_and, x1, k1, ←hG]
     rw [hpE]
     refine tail _ ?_
     simp (disch := first | assumption | omega) only [go_sem, reduceCtorEq, Nat.reduceEqDiff, ↓reduceIte]
    ·rw [if_neg hee] at hst
     subst hst
     have x1 : ∀ Y Z, T3 (pr T sS) Y Z b = some (.obj [.sl .shr (T.map tokAV), .int .i64 sS.i, .int .i64 sS.deep, .int .i64 sS.err, .int .i64 sS.bad]) := fun Y Z => w1 _ _ _
     simp (disch := first | assumption | omega) only [go_sem, reduceCtorEq, ↓reduceIte, x1, hee, ←hG]
     refine tail _ ?_
     simp (disch := first | assumption | omega) only [go_sem, reduceCtorEq, Nat.reduceEqDiff, ↓reduceIte]
 ·rw [if_neg hop] at h
  injection h with h
  subst h
  have hop' : isOp T s [40] = false := by simpa using hop
  rw [hop']
  simp (disch := first | assumption | omega) only [go_sem, reduceCtorEq, ↓reduceIte]
  refine (hfl _ (w1 _ _ _)).mono ?_
  rintro v σ1 ⟨rfl, rfl⟩
  rw [k1, zN_av, zN_cells]
  simp (disch := first | assumption | omega) only [go_sem, Nat.reduceEqDiff, Nat.reduceAdd, Nat.reduceLeDiff, ↓reduceIte, Bool.true_and, w2, k2]
  exact retC_by (hDr _ _ _) (.refl _) ⟨rfl, rfl⟩
theorem walkF {T : List Tok} (hT : TokOk T) : ∀ f, WalkF T f := by
 intro f
 induction f using Nat.strongRecOn with
 | _ f ih =>
 cases f with
 | zero =>
   constructor
   all_goals intros
   all_goals first
    | (rename_i h _ _ _ _; simp only [betwP, signedP, hundredP, primP, argsP, reduceCtorEq] at h)
    | (rename_i h _ _ _ _ _; simp only [nameP, reduceCtorEq] at h)
 | succ f =>
   exact ⟨fun b lvl s r hl h hf σ hV hb => betw_walk hT f ih b lvl s r hl h hf σ hV hb, fun b s r h hf σ hV hb => signed_walk hT f ih b s r h hf σ hV hb,
    fun b s r h hf σ hV hb => hundred_walk hT f ih b s r h hf σ hV hb, fun b s r h hf σ hV hb => prim_walk hT f ih b s r h hf σ hV hb,
    fun b s r h hf hk σ hV hb => name_walk hT f ih b s r h hf hk σ hV hb, fun b s r h hf σ hV hb => args_walk hT f ih b s r h hf σ hV hb⟩
end Go.A
namespace Go.A
open Go.Proofs Go.Lib
def Mz (T : List Tok) (s : PSt) : Nat := if s.err = 0 then T.length - s.i else 0
section
variable {T : List Tok}
theorem Mz_next {s : PSt} (hT : Ends T) (hf : Fit T s) (hk : (curT T s).kind ≠ 0) : Mz T s.next + 1 ≤ Mz T s := by
 have h0 := cur_err hk
 have hi := hf.i
 unfold Mz
 rw [if_pos h0, if_pos (show s.next.err = 0 from h0)]
 show T.length - (s.i + 1) + 1 ≤ _
 omega
theorem Mz_went {s s' : PSt} (h : Went T s s') : Mz T s' ≤ Mz T s := by
 have hl := h.le
 unfold Mz
 by_cases h0 : s.err = 0
 ·rw [if_pos h0]
  split <;> omega
 ·rw [if_neg h0, if_neg (by rw [(h.err h0).1]; exact h0)]
  exact Nat.le_refl _
theorem Mz_enter {s : PSt} (hT : Ends T) (hf : Fit T s) (hk : (curT T s).kind ≠ 0) : Mz T (stepP1 (enterP T s)) + 1 ≤ Mz T s := by
 have h0 := cur_err hk
 have hi := hf.i
 obtain ⟨e1, e2, e3⟩ := enter_err hT hf h0
 unfold stepP1
 unfold Mz
 rw [if_pos h0]
 by_cases he : (enterP T s).err = 0
 ·rw [if_pos he, if_pos (show (enterP T s).next.err = 0 from he)]
  show T.length - ((enterP T s).i + 1) + 1 ≤ _
  omega
 ·rw [if_neg he, if_neg he]
  omega
structure SuffF (T : List Tok) (f : Nat) : Prop where
 betw : ∀ lvl s, lvl ≤ 5 → Fit T s → 30 * Mz T s + 20 ≤ f + lvl → ∃ r, betwP T f lvl s = some r
 loop : ∀ lvl n s, lvl < 5 → Fit T s → 30 * Mz T s + 1 ≤ f → ∃ r, loopP T f lvl n s = some r
 signed : ∀ s, Fit T s → 30 * Mz T s + 14 ≤ f → ∃ r, signedP T f s = some r
 hundred : ∀ s, Fit T s → 30 * Mz T s + 13 ≤ f → ∃ r, hundredP T f s = some r
 hloop : ∀ n s, Fit T s → 30 * Mz T s + 1 ≤ f → ∃ r, hloopP T f n s = some r
 prim : ∀ s, Fit T s → 30 * Mz T s + 12 ≤ f → ∃ r, primP T f s = some r
 name : ∀ s, Fit T s → (curT T s).kind = 3 → 30 * Mz T s + 11 ≤ f → ∃ r, nameP T f s = some r
 args : ∀ s, Fit T s → 30 * Mz T s + 25 ≤ f → ∃ r, argsP T f s = some r
 aloop : ∀ l s, Fit T s → 30 * Mz T s + 24 ≤ f → ∃ r, aloopP T f l s = some r
theorem suffF (hT : Ends T) : ∀ f, SuffF T f
 | 0 => by
   constructor
   all_goals intros
   all_goals (exfalso; omega)
 | f + 1 => by
   have ih := suffF hT f
   have hwent := wentF hT f
   constructor
   ·intro lvl s hl hf hm
    rw [betwP]
    split
    ·exact ih.signed s hf (by omega)
    ·obtain ⟨r, hr⟩ := ih.betw (lvl + 1) s (by omega) hf (by omega)
     rw [hr]
     have hw := hwent.betw _ _ _ hr hf
     have hz := Mz_went hw
     exact ih.loop lvl _ _ (by omega) hw.fit (by omega)
   ·intro lvl n s hl hf hm
    rw [loopP]
    split
    ·rename_i hk
     have hz := Mz_next hT hf (sgn_kind hk)
     have hn := (hf.next hT (sgn_kind hk)).1
     obtain ⟨r, hr⟩ := ih.betw (lvl + 1) s.next (by omega) hn (by omega)
     rw [hr]
     have hw := hwent.betw _ _ _ hr hn
     have hz2 := Mz_went hw
     exact ih.loop lvl _ _ hl hw.fit (by omega)
    ·exact ⟨_, rfl⟩
   ·intro s hf hm
    rw [signedP]
    split
    ·rename_i hk
     have hz := Mz_enter hT hf (isOp_kind hk)
     obtain ⟨r, hr⟩ := ih.signed _ (enter_fit hT hf (isOp_kind hk)).1 (by omega)
     rw [hr]
     exact ⟨_, rfl⟩
    split
    ·rename_i hk
     have hz := Mz_enter hT hf (isOp_kind hk)
     obtain ⟨r, hr⟩ := ih.signed _ (enter_fit hT hf (isOp_kind hk)).1 (by omega)
     rw [hr]
     exact ⟨_, rfl⟩
    ·exact ih.hundred s hf (by omega)
   ·intro s hf hm
    rw [hundredP]
    obtain ⟨r, hr⟩ := ih.prim s hf (by omega)
    rw [hr]
    have hw := hwent.prim _ _ hr hf
    have hz := Mz_went hw
    exact ih.hloop _ _ hw.fit (by omega)
   ·intro n s hf hm
    rw [hloopP]
    split
    ·rename_i hk
     have hz := Mz_next hT hf (isOp_kind hk)
     exact ih.hloop _ _ (hf.next hT (isOp_kind hk)).1 (by omega)
    ·exact ⟨_, rfl⟩
   ·intro s hf hm
    rw [primP]
    split
    ·split <;> exact ⟨_, rfl⟩
    split
    ·exact ⟨_, rfl⟩
    split
    ·exact ⟨_, rfl⟩
    split
    ·exact ⟨_, rfl⟩
    split
    ·rename_i hk
     exact ih.name s hf hk (by omega)
    split
    ·rename_i hk
     have hz := Mz_enter hT hf (isOp_kind hk)
     obtain ⟨r, hr⟩ := ih.betw 0 _ (by omega) (enter_fit hT hf (isOp_kind hk)).1 (by omega)
     rw [hr]
     exact ⟨_, rfl⟩
    ·exact ⟨_, rfl⟩
   ·intro s hf hk hm
    have h0 : s.err = 0 := cur_err (T := T) (by omega)
    have hn := hf.next hT (by omega)
    rw [nameP]
    split
    ·rename_i hp
     split
     ·exact ⟨_, rfl⟩
     ·rename_i he
      obtain ⟨g1, g2, g3, g5⟩ := enter2 hT hf (by omega) (by simpa using he)
      have hl := hT.more (s.i + 1) hn.1.i (by omega)
      have g4 : Fit T (enterP T s).next.next := ⟨by show (enterP T s).i + 1 + 1 < _; omega, g1.d0, g1.d1, g1.d2⟩
      have hz : Mz T (enterP T s).next.next + 1 ≤ Mz T s := by
       have hi := hf.i
       have he' : (enterP T s).err = 0 := by simpa using he
       unfold Mz
       rw [if_pos h0, if_pos (show (enterP T s).next.next.err = 0 from he')]
       show T.length - ((enterP T s).i + 1 + 1) + 1 ≤ _
       omega
      obtain ⟨r, hr⟩ := ih.args _ g4 (by omega)
      rw [hr]
      exact ⟨_, rfl⟩
    split
    ·exact ⟨_, rfl⟩
    split <;> exact ⟨_, rfl⟩
   ·intro s hf hm
    rw [argsP]
    split
    ·exact ⟨_, rfl⟩
    ·exact ih.aloop _ s hf (by omega)
   ·intro l s hf hm
    rw [aloopP]
    split
    ·exact ⟨_, rfl⟩
    ·have h1 : ∃ r, (if isOp T s [44] = true ∨ isOp T s [41] = true then some (missN, s) else betwP T f 0 s) = some r ∧ Went T s r.2 := by
      split
      ·exact ⟨_, rfl, Went.refl hf⟩
      ·obtain ⟨r, hr⟩ := ih.betw 0 s (by omega) hf (by omega)
       exact ⟨r, hr, hwent.betw _ _ _ hr hf⟩
     obtain ⟨r, hr, hw⟩ := h1
     rw [hr]
     dsimp only
     split
     ·rename_i hk
      have hz := Mz_next hT hw.fit (isOp_kind hk)
      have hz2 := Mz_went hw
      exact ih.aloop _ _ (hw.fit.next hT (isOp_kind hk)).1 (by omega)
     ·exact ⟨_, rfl⟩
end
end Go.A
namespace Go.A
open Go.Proofs
/-! 7: tabular/parse.Parse -/
def c7_20 : ACode := .seq (.seq (.ops [ oq 32 (.mv (.t 8)), oq 33 (.nc (.t 32)), oq 34 (.fa 3 (.t 33)), oq 35 (.ld none (.t 34)), oq 36 (.bin .neq (.t 35) (.v (.int .i64 0)))]) (.cond (.t 36) (.seq (.ops [ oq 37 (.build [(.int .i64 0), (.int .i64 0), (.str []), (.int .i64 0), (.int .i64 0), (.bool false), (.bool false), (.int .i64 0), (.int .i64 0), (.bool false), (.bool false), (.sl .full [])] []), oq 38 (.mv (.t 8)), oq 39 (.nc (.t 38)), oq 40 (.fa 4 (.t 39)), oq 41 (.ld none (.t 40)), oq 42 (.mv (.t 8)), oq 43 (.nc (.t 42)), oq 44 (.fa 3 (.t 43)), oq 45 (.ld none (.t 44)), ⟨none, none, .e (.store 12 (.t 2) (.t 37)), [⟨none, .ld none (.t 40), 41⟩, ⟨none, .ld none (.t 44), 45⟩]⟩, oq 3 (.mv (.t 41)), oq 4 (.mv (.t 45))]) .ret) .skip)) (.seq (.ops [ oq 46 (.ld (some 12) (.t 9)), oz (.store 12 (.t 2) (.t 46)), oq 3 (.mv (.v (.int .i64 0))), oq 4 (.mv (.v (.int .i64 0)))]) .ret)
def c7_26 : ACode := .seq (.ops [ oe 2 (.alloc [(.int .i64 0), (.int .i64 0), (.str []), (.int .i64 0), (.int .i64 0), (.bool false), (.bool false), (.int .i64 0), (.int .i64 0), (.bool false), (.bool false), (.sl .full [])]), oq 3 (.mv (.v (.int .i64 0))), oq 4 (.mv (.v (.int .i64 0)))]) (.seq (.ops [ oq 11 (.mv (.t 0)), oe 12 (.call 31 [(.t 11)]), oq 10 (.mv (.t 12)), oq 13 (.ext 0 (.t 10)), oq 14 (.ext 1 (.t 10)), oq 15 (.ext 2 (.t 10)), oq 5 (.mv (.t 13)), oq 6 (.mv (.t 14)), oq 7 (.mv (.t 15))]) (.seq (.seq (.ops [ oq 16 (.mv (.t 7)), oq 17 (.bin .neq (.t 16) (.v (.int .i64 0)))]) (.cond (.t 17) (.seq (.ops [ oq 18 (.build [(.int .i64 0), (.int .i64 0), (.str []), (.int .i64 0), (.int .i64 0), (.bool false), (.bool false), (.int .i64 0), (.int .i64 0), (.bool false), (.bool false), (.sl .full [])] []), oq 19 (.mv (.t 6)), oq 20 (.mv (.t 7)), oz (.store 12 (.t 2) (.t 18)), oq 3 (.mv (.t 19)), oq 4 (.mv (.t 20))]) .ret) .skip)) (.seq (.ops [ oq 21 (.mv (.t 5)), oq 22 (.build [(.sl .full []), (.int .i64 0), (.int .i64 0), (.int .i64 0), (.int .i64 0)] [(0, 1, (.t 21))]), oe 23 (.box (.t 22)), oq 8 (.mv (.t 23))]) (.seq (.ops [ oq 24 (.mv (.t 8)), oe 25 (.call 32 [(.t 24), (.v (.int .i64 0))]), oe 9 (.alloc [(.int .i64 0), (.int .i64 0), (.str []), (.int .i64 0), (.int .i64 0), (.bool false), (.bool false), (.int .i64 0), (.int .i64 0), (.bool false), (.bool false), (.sl .full [])]), oz (.store 12 (.t 9) (.t 25))]) (.seq (.seq (.ops [ oq 26 (.mv (.t 8)), oe 27 (.call 33 [(.t 26)]), oq 28 (.fld 0 none (.t 27)), oq 29 (.bin .neq (.t 28) (.v (.int .i64 0)))]) (.cond (.t 29) (.ops [ oq 30 (.mv (.t 8)), oe 31 (.call 34 [(.t 30), (.v (.int .i64 10))])]) .skip)) c7_20)))))
@[go_sem] def c7_20_wp := wp_of c7_20.eq_1
@[go_sem] def c7_26_wp := wp_of c7_26.eq_1
def c7 : AFn := ⟨47, [.c 2 (some 12), .t 3, .t 4], c7_26⟩
theorem c7_ok : compF Tryz.prog Tryz.f7 = some c7 := by kernel_rfl
theorem a7 {args : List AV} {σ : ASt} {R : AV → ASt → Prop} (hl : args.length ≤ 47) (h : c7_26.wp Tryz.prog (RetQ [.c 2 (some 12), .t 3, .t 4] R) (init args) σ) : ACalls Tryz.prog 7 args σ R := acalls_of Tryz.func7 c7_ok hl h
end Go.A
namespace Go.A
open Go.Proofs Go.Lib
structure TokGd (t : Tok) : Prop where
 k1 : 1 ≤ t.kind
 k6 : t.kind ≤ 6
 len : t.text.length ≤ 8100
 num : t.kind = 1 → numB t.text = true
 ref : t.kind = 4 → ∃ w, refB w = true ∧ t.text = greatP w
 err : t.kind = 5 → t.text ∈ errTexts
 nam : t.kind = 3 → t.text ≠ []
theorem TokGd.of {kd : Int} {t : List UInt8} {a c : Nat} (h1 : 1 ≤ kd) (h6 : kd ≤ 6) (hl : t.length ≤ 8100) (hn : kd = 1 → numB t = true) (hr : kd = 4 → ∃ w, refB w = true ∧ t = greatP w) (he : kd = 5 → t ∈ errTexts) (hm : kd = 3 → t ≠ []) : TokGd ⟨kd, t, a, c⟩ := ⟨h1, h6, hl, hn, hr, he, hm⟩
theorem no1 {p : Prop} {a b : Int} (h : a = b) (hn : decide (a = b) = false) : p := absurd h (of_decide_eq_false hn)
theorem quotedF_len : ∀ (k : Nat) (r : List UInt8) (p : Nat) (acc : List UInt8) kd t n, quotedF k r p acc = .tok kd t n → kd = 2 ∧ t.length ≤ acc.length + 4 * r.length
 | 0, r, p, acc, kd, t, n, h => by simp [quotedF] at h
 | k + 1, r, p, acc, kd, t, n, h => by
   by_cases hr : r = []
   ·subst hr; rw [quotedF_nil] at h; simp at h
   have hw := decodeL_width r
   have hle := decodeL_le r hr
   unfold quotedF at h
   rw [if_neg hr] at h
   split at h
   ·simp at h
   split at h
   ·have := quotedF_len k _ _ _ kd t n h
    have he := enc_le ((decodeL r).1 : Int)
    rw [List.length_append, List.length_drop] at this
    exact ⟨this.1, by omega⟩
   split at h
   ·rename_i h1 h2 h3
    have hl2 := (List.getElem?_eq_some_iff.1 h3).1
    have := quotedF_len k _ _ _ kd t n h
    rw [List.length_append, List.length_drop] at this
    simp only [List.length_cons, List.length_nil] at this
    exact ⟨this.1, by omega⟩
   ·simp only [Step.tok.injEq] at h
    obtain ⟨rfl, rfl, rfl⟩ := h
    exact ⟨rfl, by omega⟩
theorem failS_gd (r : List UInt8) : ∀ (es : List (List UInt8)) kd t n, failS r es = .tok kd t n → kd = 5 ∧ t ∈ es
 | [], kd, t, n, h => by simp [failS] at h
 | e :: es, kd, t, n, h => by
   unfold failS at h
   split at h
   ·simp only [Step.tok.injEq] at h
    obtain ⟨rfl, rfl, rfl⟩ := h
    exact ⟨rfl, by simp⟩
   ·obtain ⟨h1, h2⟩ := failS_gd r es kd t n h
    exact ⟨h1, by simp [h2]⟩
theorem greatP_len (l : List UInt8) : (greatP l).length = l.length := by unfold greatP; simp
theorem greatP_ne {l : List UInt8} (h : l ≠ []) : greatP l ≠ [] := fun e => h (List.eq_nil_of_length_eq_zero (by rw [← greatP_len, e]; rfl))
theorem nameB_ne {l : List UInt8} (h : nameB l = true) : l ≠ [] := by
 unfold nameB at h
 simp only [Bool.and_eq_true, decide_eq_true_eq] at h
 exact h.1.1
theorem alikeP_len (c : Int) : (alikeP c).length ≤ 2 := by
 unfold alikeP
 repeat' split
 all_goals decide
theorem stepP_gd (r : List UInt8) (hl : r.length ≤ 2000) {kd : Int} {t : List UInt8} {n : Nat} (h : stepP r = .tok kd t n) (a c : Nat) : TokGd ⟨kd, t, a, c⟩ := by
 unfold stepP at h
 dsimp only at h
 split at h
 ·simp at h
 split at h
 ·simp at h
 split at h
 ·unfold wordsS at h
  dsimp only at h
  have hw : (r.take (runL wordB r)).length ≤ 8100 := by rw [List.length_take]; omega
  split at h
  ·rename_i hn
   simp only [Step.tok.injEq] at h
   obtain ⟨rfl, rfl, rfl⟩ := h
   exact .of (by decide) (by decide) hw (fun _ => hn) (fun h => no1 h (by decide)) (fun h => no1 h (by decide)) (fun h => no1 h (by decide))
  split at h
  ·rename_i hn
   simp only [Step.tok.injEq] at h
   obtain ⟨rfl, rfl, rfl⟩ := h
   exact .of (by decide) (by decide) (by rw [greatP_len]; omega) (fun h => no1 h (by decide)) (fun _ => ⟨_, hn, rfl⟩) (fun h => no1 h (by decide)) (fun h => no1 h (by decide))
  split at h
  ·rename_i hn
   simp only [Step.tok.injEq] at h
   obtain ⟨rfl, rfl, rfl⟩ := h
   exact .of (by decide) (by decide) (by rw [greatP_len]; omega) (fun h => no1 h (by decide)) (fun h => no1 h (by decide)) (fun h => no1 h (by decide)) (fun _ => greatP_ne (nameB_ne hn))
  ·simp at h
 split at h
 ·obtain ⟨rfl, h2⟩ := quotedF_len _ _ _ _ _ _ _ h
  rw [List.length_drop] at h2
  simp only [List.length_nil] at h2
  exact .of (by decide) (by decide) (by omega) (fun h => no1 h (by decide)) (fun h => no1 h (by decide)) (fun h => no1 h (by decide)) (fun h => no1 h (by decide))
 split at h
 ·obtain ⟨rfl, h2⟩ := failS_gd _ _ _ _ _ h
  have := errTexts_len t h2
  exact .of (by decide) (by decide) (by omega) (fun h => no1 h (by decide)) (fun h => no1 h (by decide)) (fun _ => h2) (fun h => no1 h (by decide))
 ·unfold opS at h
  split at h
  ·simp only [Step.tok.injEq] at h
   obtain ⟨rfl, rfl, rfl⟩ := h
   have := alikeP_len ((decodeL r).1 : Int)
   exact .of (by decide) (by decide) (by omega) (fun h => no1 h (by decide)) (fun h => no1 h (by decide)) (fun h => no1 h (by decide)) (fun h => no1 h (by decide))
  ·split at h
   ·rename_i e he
    simp only [Step.tok.injEq] at h
    obtain ⟨rfl, rfl, rfl⟩ := h
    have := twos_len e (twoS_fits r _ _ he).1
    exact .of (by decide) (by decide) (by omega) (fun h => no1 h (by decide)) (fun h => no1 h (by decide)) (fun h => no1 h (by decide)) (fun h => no1 h (by decide))
   ·split at h
    ·simp only [Step.tok.injEq] at h
     obtain ⟨rfl, rfl, rfl⟩ := h
     exact .of (by decide) (by decide) (by rw [List.length_take]; omega) (fun h => no1 h (by decide)) (fun h => no1 h (by decide)) (fun h => no1 h (by decide)) (fun h => no1 h (by decide))
    ·simp at h
theorem lexF_gd : ∀ (k : Nat) (r : List UInt8) (a c : Nat) (acc L : List Tok) (x : Nat), r.length ≤ 2000 → lexF k r a c acc = (L, x, 0) → (∀ t ∈ acc, TokGd t) → ∃ M a' c', L = M ++ [⟨0, [], a', c'⟩] ∧ (∀ t ∈ M, TokGd t) ∧ M.length ≤ acc.length + r.length
 | 0, r, a, c, acc, L, x, hr, h, hacc => by simp [lexF] at h
 | k + 1, r, a, c, acc, L, x, hr, h, hacc => by
   rw [lexF] at h
   split at h
   ·simp only [Prod.mk.injEq] at h
    obtain ⟨rfl, _⟩ := h
    exact ⟨acc, a, c, rfl, hacc, by omega⟩
   ·rename_i hne
    have hpos := List.length_pos_iff.2 hne
    split at h
    ·simp at h
    ·obtain ⟨M, a', c', h1, h2, h3⟩ := lexF_gd k _ _ _ _ _ _ (by rw [List.length_drop]; omega) h hacc
     rw [List.length_drop] at h3
     exact ⟨M, a', c', h1, h2, by omega⟩
    ·rename_i kd t n hst
     obtain ⟨f1, f2⟩ := (stepP_fits r hne).2 kd t n hst
     obtain ⟨M, a', c', h1, h2, h3⟩ := lexF_gd k _ _ _ _ _ _ (by rw [List.length_drop]; omega) h (fun u hu => by
      rcases List.mem_append.1 hu with hu | hu
      ·exact hacc u hu
      ·simp at hu; subst hu; exact stepP_gd r hr hst a c)
     rw [List.length_drop, List.length_append, List.length_singleton] at h3
     exact ⟨M, a', c', h1, h2, by omega⟩
theorem lexP_gd {s : List UInt8} (h : (lexP s).2.2 = 0) : ∃ M a' c', (lexP s).1 = M ++ [⟨0, [], a', c'⟩] ∧ (∀ t ∈ M, TokGd t) ∧ M.length ≤ 2000 := by
 unfold lexP at h ⊢
 split
 ·rename_i hl; rw [if_pos hl] at h; cases h
 ·rename_i hl
  rw [if_neg hl] at h
  obtain ⟨R, hR⟩ : ∃ R, lexF (s.length + 1) s 0 0 [] = R := ⟨_, rfl⟩
  rw [hR] at h ⊢
  obtain ⟨L, x, e⟩ := R
  dsimp only at h ⊢
  subst h
  obtain ⟨M, a', c', h1, h2, h3⟩ := lexF_gd _ _ _ _ _ _ _ (by omega) hR (by simp)
  exact ⟨M, a', c', h1, h2, by simp at h3; omega⟩
theorem getD_app_left {M : List Tok} {e : Tok} {i : Nat} (h : i < M.length) : (M ++ [e]).getD i endT = M.getD i endT := by
 rw [List.getD_eq_getElem?_getD, List.getD_eq_getElem?_getD, List.getElem?_append_left h]
theorem getD_mem {M : List Tok} {i : Nat} (h : i < M.length) : M.getD i endT ∈ M := by
 rw [List.getD_eq_getElem?_getD, List.getElem?_eq_getElem h]
 exact List.getElem_mem h
theorem lex_toks {s : List UInt8} (h : (lexP s).2.2 = 0) : TokOk (lexP s).1 ∧ (lexP s).1.length ≤ 2001 ∧ ∀ i, ((lexP s).1.getD i endT).kind ≠ 0 → TokGd ((lexP s).1.getD i endT) := by
 obtain ⟨M, a', c', h1, h2, h3⟩ := lexP_gd h
 rw [h1]
 have hl : (M ++ [(⟨0, [], a', c'⟩ : Tok)]).length = M.length + 1 := by simp
 have hlast : (M ++ [(⟨0, [], a', c'⟩ : Tok)]).getD M.length endT = ⟨0, [], a', c'⟩ := by
  rw [List.getD_eq_getElem?_getD, List.getElem?_append_right (Nat.le_refl _), Nat.sub_self]; rfl
 have hout : ∀ i, M.length < i → (M ++ [(⟨0, [], a', c'⟩ : Tok)]).getD i endT = endT := fun i hi => by
  rw [List.getD_eq_getElem?_getD, List.getElem?_eq_none (by rw [hl]; omega)]; rfl
 have hgd : ∀ i, i < M.length → TokGd ((M ++ [(⟨0, [], a', c'⟩ : Tok)]).getD i endT) := fun i hi => by
  rw [getD_app_left hi]; exact h2 _ (getD_mem hi)
 refine ⟨⟨⟨by rw [hl]; omega, fun i hi => ?_, fun i hi hk => ?_⟩, by rw [hl]; omega, fun i => ?_⟩, by rw [hl]; omega, fun i hk => ?_⟩
 ·rw [hl] at hi
  obtain rfl : i = M.length := by omega
  rw [hlast]
 ·rw [hl] at hi ⊢
  rcases Nat.lt_or_ge i M.length with h | h
  ·omega
  ·obtain rfl : i = M.length := by omega
   rw [hlast] at hk
   exact absurd rfl hk
 ·rcases Nat.lt_trichotomy i M.length with h | h | h
  ·have := (hgd i h).len; omega
  ·subst h; rw [hlast]; simp
  ·rw [hout i h]; simp [endT]
 ·rcases Nat.lt_trichotomy i M.length with h | h | h
  ·exact hgd i h
  ·subst h; rw [hlast] at hk; exact absurd rfl hk
  ·rw [hout i h] at hk; exact absurd rfl hk
def st0 : PSt := ⟨0, 0, 0, 0⟩
theorem st0_fit {T : List Tok} (h : Ends T) : Fit T st0 := ⟨h.pos, by decide, by decide, fun _ => by decide⟩
def parseR (s : List UInt8) : Nd × Int × Int := (parseT (30 * (lexP s).1.length + 30) s).getD (zN, 0, 0)
theorem betw_some {s : List UInt8} (h : (lexP s).2.2 = 0) : ∃ r, betwP (lexP s).1 (30 * (lexP s).1.length + 30) 0 st0 = some r := by
 obtain ⟨hT, _, _⟩ := lex_toks h
 refine (suffF hT.ends _).betw 0 st0 (by omega) (st0_fit hT.ends) ?_
 unfold Mz
 split
 ·show 30 * (_ - 0) + 20 ≤ _
  omega
 ·omega
set_option maxHeartbeats 2000000 in
theorem parseR_ok {σ : ASt} (hU : U8 σ) (hV : LV σ) (s : List UInt8) (hs : s.length ≤ 1000000000) : ACalls Tryz.prog 7 [.str s] σ fun v σ' => v = .tuple [(parseR s).1.av, .int .i64 (parseR s).2.1, .int .i64 (parseR s).2.2] ∧ σ' = σ := by
 have hL := fun (τ : ASt) (h : U8 τ) => lex_ok h s hs
 obtain ⟨R, hR⟩ : ∃ R, parseR s = R := ⟨_, rfl⟩
 rw [hR]
 unfold parseR parseT at hR
 have hbs := betw_some (s := s)
 have hto := lex_toks (s := s)
 obtain ⟨FU, hFU⟩ : ∃ FU, 30 * (lexP s).1.length + 30 = FU := ⟨_, rfl⟩
 rw [hFU] at hR hbs
 generalize lexP s = X at *
 obtain ⟨T, at', er⟩ := X
 dsimp only at *
 have hz : ∀ a e : Int, ∀ σ σ' : ASt, Fz σ σ' (resV [.agg [.int .i64 0, .int .i64 0, .str [], .int .i64 0, .int .i64 0, .bool false, .bool false, .int .i64 0, .int .i64 0, .bool false, .bool false, .sl .full []], .int .i64 a, .int .i64 e]) (.tuple [.agg (Nd.cs 0 0 [] .zero .zero []), .int .i64 a, .int .i64 e]) := fun a e σ σ' =>
  .tuple (.cons (.agg (.cons (.refl _) (.cons (.refl _) (.cons (.refl _) (.cons (.refl _) (.cons (.refl _) (.cons (.refl _) (.cons (.refl _) (.cons (.refl _) (.cons (.refl _) (.cons (.refl _) (.cons (.refl _) (.cons (.sl _ _) .nil))))))))))))) (.cons (.refl _) (.cons (.refl _) .nil)))
 refine a7 (by simp) ?_
 simp (disch := first | assumption | omega) only [go_sem]
 refine allocC_by fun d hd => ?_
 have hUd := hU.set hd (r := some (.obj zero12))
 have hVd : LV (σ.set d (some (.obj zero12))) := by
  unfold LV at hV ⊢
  rw [ASt.set_ne]
  ·exact hV
  ·rintro e; rw [← e, hV] at hd; cases hd
 unfold zero12 at hUd hVd
 simp (disch := first | assumption | omega) only [go_sem, reduceCtorEq, ↓reduceIte]
 refine (hL _ hUd).mono ?_
 rintro v σ1 ⟨rfl, rfl⟩
 by_cases he : er = 0
 ·rw [if_neg (by simp [he])] at hR
  obtain ⟨hT, hTl, _⟩ := hto he
  obtain ⟨r1, hr1⟩ := hbs he
  have hr1' : betwP T FU 0 ⟨0, 0, 0, 0⟩ = some r1 := hr1
  rw [hr1'] at hR
  have hw := (wentF hT.ends FU).betw _ _ _ hr1 (st0_fit hT.ends)
  have hwk := (walkF hT FU).betw
  obtain ⟨n, s1⟩ := r1
  dsimp only at hR hw
  obtain ⟨s2, hs2⟩ : ∃ s2, (if (curT T s1).kind ≠ 0 then failP T s1 10 else s1) = s2 := ⟨_, rfl⟩
  rw [hs2] at hR
  simp (disch := first | assumption | omega) only [go_sem, Nat.reduceEqDiff, Nat.reduceAdd, Nat.reduceLeDiff, ↓reduceIte, he]
  refine boxC_by rfl fun b hb => ?_
  have hbd : b ≠ d := by rintro rfl; rw [ASt.set_same] at hb; cases hb
  have hb0 : σ b = none := by rwa [ASt.set_ne hbd] at hb
  have hbp : (σ.set b (pr T st0)) b = pr T st0 := ASt.set_same _ _ _
  have hVb : LV (σ.set b (pr T st0)) := by
   unfold LV at hV ⊢
   rw [ASt.set_ne]
   ·exact hV
   ·rintro e; rw [← e, hV] at hb0; cases hb0
  obtain ⟨_, T2, S2⟩ := St2.of (σ := σ.set b (pr T st0)) (b := b) (d := d) (by rw [ASt.set_ne (Ne.symm hbd)]; exact hd) (pr_fix hbp).1 (pr_fix hbp).2
  have V2 : ∀ X Y, LV (T2 X Y) := fun X Y => S2.fix _ _ _ _ hVb
  have hst : ∀ Z : Option Role, (σ.set d Z).set b (some (.obj [.sl .shr (T.map tokAV), .int .i64 0, .int .i64 0, .int .i64 0, .int .i64 0])) = T2 (pr T st0) Z := fun Z => by
   have := S2.ba (pr T st0) Z
   rw [← this, set_swap hbd, ASt.set_set]
   rfl
  have k1 := S2.s1
  have hcb := fun Y => hwk b 0 st0 (n, s1) (by omega) hr1 (st0_fit hT.ends) _ (V2 (pr T st0) Y) (S2.a1 _ _)
  rw [show ((0 : Nat) : Int) = 0 from rfl] at hcb
  dsimp only at hcb
  obtain ⟨o, m, t, x, y, ks⟩ := n
  simp only [Nd.av_cs] at hcb
  generalize hKL : ks.map Nd.av = KL at *
  simp (disch := first | assumption | omega) only [go_sem, ↓reduceIte, hst]
  refine (hcb _).mono ?_
  rintro v σ1 ⟨rfl, rfl⟩
  rw [k1]
  simp (disch := first | assumption | omega) only [go_sem]
  refine allocC_by fun e he2 => ?_
  obtain ⟨hbe, hde, T3, S3⟩ := St3.of S2 (X0 := .obj _) he2
  have ab := S3.ab
  have k3 := S3.s3
  have k2 := S3.s2
  have k1 := S3.s1
  have w3 := S3.a3
  have w2 := S3.a2
  have w1 := S3.a1
  have hDr : ∀ X Y Z, Drop (T3 X Y Z) σ := fun X Y Z => by
   have h1 := S3.drop X Y Z
   rw [ASt.set_set] at h1
   exact h1.trans (Drop.set hb0)
  have hcu := fun Y Z => pcur_ok (T := T) hw.fit.i (w1 (pr T s1) Y Z)
  have hfl := fun τ hh => pfail_ok (T := T) (s := s1) hw.fit.i 10 (σ := τ) (b := b) hh
  generalize curT T s1 = tk at *
  unfold tokAV at hcu
  obtain ⟨F, hF⟩ : ∃ F, F = ACode.wp Tryz.prog c7_20 := ⟨_, rfl⟩
  have fin : ∀ a1 : AFr, (a1 2 = .ptr d 0 ∧ a1 8 = .ptr b 0 ∧ a1 9 = .ptr e 0) → F (RetQ [.c 2 (some 12), .t 3, .t 4] fun v σ' => v = .tuple [R.1.av, .int .i64 R.2.1, .int .i64 R.2.2] ∧ σ' = σ) a1 (T3 (pr T s2) (some (.obj zero12)) (some (.obj (Nd.cs o m t x y KL)))) := by
   intro a1 hf1
   rw [hF]
   unfold zero12
   have x1 : ∀ Y Z, T3 (pr T s2) Y Z b = some (.obj [.sl .shr (T.map tokAV), .int .i64 s2.i, .int .i64 s2.deep, .int .i64 s2.err, .int .i64 s2.bad]) := fun Y Z => w1 _ _ _
   by_cases h2 : s2.err = 0
   ·rw [if_neg (by simp [h2])] at hR
    have hR' : (Nd.mk o m t x y ks, (0 : Int), (0 : Int)) = R := hR
    subst hR'
    dsimp only
    rw [Nd.av_cs, hKL]
    simp (disch := first | assumption | omega) only [go_sem, Nat.reduceEqDiff, Nat.reduceAdd, Nat.reduceLeDiff, ↓reduceIte, hf1, x1, h2, w3, w2, k2]
    exact retC_by (hDr _ _ _) (.refl _) ⟨rfl, rfl⟩
   ·rw [if_pos h2] at hR
    have hR' : (zN, s2.bad, s2.err) = R := hR
    subst hR'
    dsimp only
    rw [zN_av]
    simp (disch := first | assumption | omega) only [go_sem, Nat.reduceEqDiff, Nat.reduceAdd, Nat.reduceLeDiff, ↓reduceIte, Bool.true_and, hf1, x1, h2, w2, k2]
    exact retC_by (hDr _ _ _) (hz _ _ _ _) ⟨rfl, rfl⟩
  unfold zero12 at fin
  simp (disch := first | assumption | omega) only [go_sem, Nat.reduceEqDiff, Nat.reduceAdd, Nat.reduceLeDiff, ↓reduceIte, ab, k3, w3, ←hF]
  refine (hcu _ _).mono ?_
  rintro v σ1 ⟨rfl, rfl⟩
  by_cases hk : tk.kind = 0
  ·rw [if_neg (by simp [hk])] at hs2
   subst hs2
   simp (disch := first | assumption | omega) only [go_sem, ↓reduceIte, hk]
   refine fin _ ?_
   simp (disch := first | assumption | omega) only [go_sem, Nat.reduceEqDiff, ↓reduceIte]
  ·rw [if_pos hk] at hs2
   subst hs2
   simp (disch := first | assumption | omega) only [go_sem, Nat.reduceEqDiff, ↓reduceIte, hk]
   refine (hfl _ (w1 _ _ _)).mono ?_
   rintro v σ1 ⟨rfl, rfl⟩
   rw [k1]
   simp (disch := first | assumption | omega) only [go_sem]
   refine fin _ ?_
   simp (disch := first | assumption | omega) only [go_sem, Nat.reduceEqDiff, ↓reduceIte]
 ·rw [if_pos he] at hR
  have hR' : (zN, (at' : Int), er) = R := hR
  subst hR'
  rw [zN_av]
  simp (disch := first | assumption | omega) only [go_sem, Nat.reduceEqDiff, Nat.reduceAdd, Nat.reduceLeDiff, ↓reduceIte, Bool.true_and, he, ASt.set_set]
  exact retC_by (Drop.set hd) (hz _ _ _ _) ⟨rfl, rfl⟩
end Go.A
namespace Go.A
open Go.Proofs Go.Lib
theorem columnP_rng (l : List UInt8) : 0 ≤ (columnP l).1 ∧ (columnP l).1 < 700 := by
 unfold columnP
 split
 ·split
  ·decide
  ·dsimp only; omega
 ·decide
theorem readQ_good (l : List UInt8) (i : Nat) (col : Int) (ar ac : Bool) (h : 0 ≤ col ∧ col < 700) : (readQ l i col ar ac).1.good = true := by
 unfold readQ
 split
 ·rfl
 ·simp only [Ref.good, decide_eq_true_eq]; omega
theorem readR_good (l : List UInt8) (i : Nat) (ac : Bool) : (readR l i ac).1.good = true := by
 unfold readR
 split
 ·rfl
 split
 ·exact readQ_good _ _ _ _ _ (columnP_rng _)
 ·exact readQ_good _ _ _ _ _ (columnP_rng _)
theorem parseP_good (l : List UInt8) : (parseP l).1.good = true := by
 unfold parseP
 split
 ·rfl
 ·unfold readP
  split
  ·exact readR_good _ _ _
  ·exact readR_good _ _ _
theorem parseQ_rng {m d : Bool} {w p : List UInt8} {v : Int} (h : parseQ m w p d = some v) : v.natAbs ≤ 999999999999999999 := by
 unfold parseQ at h
 split at h
 ·cases h
 ·obtain ⟨n, _, hn⟩ := Option.bind_eq_some_iff.1 h
  unfold madeP at hn
  split at hn
  ·injection hn with hn
   split at hn <;> omega
  ·cases hn
theorem parseD_rng {s : List UInt8} {v : Int} (h : parseD s = some v) : v.natAbs ≤ 999999999999999999 := parseQ_rng h
mutual
def Nd.nk : Nd → Prop
 | .mk op _ _ _ _ ks => ((op = 5 ∨ op = 6) → ks = []) ∧ Nd.nks ks
def Nd.nks : List Nd → Prop
 | [] => True
 | x :: xs => x.nk ∧ Nd.nks xs
end
theorem nks_mem : ∀ {l : List Nd}, Nd.nks l ↔ ∀ x ∈ l, x.nk
 | [] => by simp [Nd.nks]
 | x :: xs => by rw [Nd.nks, nks_mem (l := xs)]; simp
def Nd.gd (n : Nd) : Prop := n.ok ∧ n.nk
theorem gd_mk {op n : Int} {s : List UInt8} {a b : Ref} {ks : List Nd} (h : nodeOk op n s a b ks.length) (h2 : (op = 5 ∨ op = 6) → ks = []) (hk : ∀ x ∈ ks, x.gd) : (Nd.mk op n s a b ks).gd := by
 constructor
 ·rw [Nd.ok]
  exact ⟨h, Nd.oks_mem.2 fun x hx => (hk x hx).1⟩
 ·rw [Nd.nk]
  exact ⟨h2, nks_mem.2 fun x hx => (hk x hx).2⟩
theorem no_kids {x : Nd} : ∀ y ∈ ([] : List Nd), y.gd := fun y hy => by cases hy
theorem miss_gd : missN.gd := gd_mk ⟨by decide, fun h => by omega, fun h => by omega, fun h => by omega, fun h => by omega, fun h => by omega, fun h => by omega, fun h => by omega, fun h => by omega, by decide⟩ (fun h => by omega) (no_kids (x := missN))
theorem sign_rng {x : List UInt8} {lvl : Nat} (h : x ∈ levelsL.getD lvl []) : 0 ≤ idxP signL x ∧ idxP signL x ≤ 11 := by
 have : ∀ y ∈ levelsL.flatten, 0 ≤ idxP signL y ∧ idxP signL y ≤ 11 := by decide
 refine this x (List.mem_flatten.2 ?_)
 rw [List.getD_eq_getElem?_getD] at h
 cases hl : levelsL[lvl]? with
 | none => rw [hl] at h; simp at h
 | some l => rw [hl] at h; exact ⟨l, List.mem_of_getElem? hl, h⟩
theorem fault_rng {x : List UInt8} (h : x ∈ errTexts) : 0 ≤ idxP errL x ∧ idxP errL x ≤ 6 := by
 have : ∀ y ∈ errTexts, 0 ≤ idxP errL y ∧ idxP errL y ≤ 6 := by decide
 exact this x h
theorem sizes_snoc (l : List Nd) (x : Nd) : Nd.sizes (l ++ [x]) = Nd.sizes l + x.size := by
 induction l with
 | nil => simp [Nd.sizes]
 | cons y l ih => rw [List.cons_append, Nd.sizes, ih, Nd.sizes]; omega
section
variable {T : List Tok}
theorem Went.e0 {s s' : PSt} (h : Went T s s') (h0 : s'.err = 0) : s.err = 0 := by
 by_cases he : s.err = 0
 ·exact he
 ·have := (h.err he).1; omega
theorem enter_i {s : PSt} (h : (stepP1 (enterP T s)).err = 0) : (stepP1 (enterP T s)).i = s.i + 1 := by
 have hi : (enterP T s).i = s.i := by
  unfold enterP failP
  split
  ·split <;> rfl
  ·rfl
 unfold stepP1 at h ⊢
 split
 ·show (enterP T s).i + 1 = _
  omega
 ·rename_i hne
  rw [if_neg hne] at h
  exact absurd h hne
theorem must_i {s : PSt} {x : List UInt8} (h : (mustP T s x).err = 0) : s.err = 0 ∧ (mustP T s x).i = s.i + 1 := by
 unfold mustP at h ⊢
 split
 ·rename_i hx
  rw [if_pos hx] at h
  exact ⟨h, rfl⟩
 ·rename_i hx
  rw [if_neg hx] at h
  unfold failP at h
  split at h
  ·cases h
  ·rename_i hne; exact absurd h hne
theorem fail_err {s : PSt} {e : Int} (he : e ≠ 0) (h : (failP T s e).err = 0) : False := by
 unfold failP at h
 split at h
 ·exact he h
 ·rename_i hne; exact hne h
structure GoodF (T : List Tok) (f : Nat) : Prop where
 betw : ∀ lvl s r, betwP T f lvl s = some r → Fit T s → r.2.err = 0 → r.1.gd ∧ r.1.size + 2 * s.i ≤ 2 * r.2.i
 loop : ∀ lvl n s r, loopP T f lvl n s = some r → Fit T s → r.2.err = 0 → n.gd → r.1.gd ∧ r.1.size + 2 * s.i ≤ n.size + 2 * r.2.i
 signed : ∀ s r, signedP T f s = some r → Fit T s → r.2.err = 0 → r.1.gd ∧ r.1.size + 2 * s.i ≤ 2 * r.2.i
 hundred : ∀ s r, hundredP T f s = some r → Fit T s → r.2.err = 0 → r.1.gd ∧ r.1.size + 2 * s.i ≤ 2 * r.2.i
 hloop : ∀ n s r, hloopP T f n s = some r → Fit T s → r.2.err = 0 → n.gd → r.1.gd ∧ r.1.size + 2 * s.i ≤ n.size + 2 * r.2.i
 prim : ∀ s r, primP T f s = some r → Fit T s → r.2.err = 0 → r.1.gd ∧ r.1.size + 2 * s.i ≤ 2 * r.2.i
 name : ∀ s r, nameP T f s = some r → Fit T s → (curT T s).kind = 3 → r.2.err = 0 → r.1.gd ∧ r.1.size + 2 * s.i ≤ 2 * r.2.i
 args : ∀ s r, argsP T f s = some r → Fit T s → r.2.err = 0 → (∀ x ∈ r.1, x.gd) ∧ Nd.sizes r.1 + 2 * s.i ≤ 2 * r.2.i
 aloop : ∀ l s r, aloopP T f l s = some r → Fit T s → r.2.err = 0 → (∀ x ∈ l, x.gd) → (∀ x ∈ r.1, x.gd) ∧ Nd.sizes r.1 + 2 * s.i ≤ Nd.sizes l + 2 * r.2.i
theorem leaf_gd {op n : Int} {s : List UInt8} {a b : Ref} (h : nodeOk op n s a b 0) : (Nd.mk op n s a b []).gd := gd_mk h (fun _ => rfl) (no_kids (x := missN))
theorem leaf_size (op n : Int) (s : List UInt8) (a b : Ref) : (Nd.mk op n s a b []).size = 1 := by rw [Nd.size, Nd.sizes]
theorem one_size (op n : Int) (s : List UInt8) (a b : Ref) (x : Nd) : (Nd.mk op n s a b [x]).size = 1 + x.size := by rw [Nd.size, Nd.sizes, Nd.sizes]; omega
theorem two_size (op n : Int) (s : List UInt8) (a b : Ref) (x y : Nd) : (Nd.mk op n s a b [x, y]).size = 1 + x.size + y.size := by rw [Nd.size, Nd.sizes, Nd.sizes, Nd.sizes]; omega
theorem one_gd {op n : Int} {s : List UInt8} {a b : Ref} {x : Nd} (h : nodeOk op n s a b 1) (h5 : op ≠ 5 ∧ op ≠ 6) (hx : x.gd) : (Nd.mk op n s a b [x]).gd :=
 gd_mk h (fun h => by omega) fun y hy => by simp at hy; subst hy; exact hx
theorem one_ok {op : Int} (h : op = 7 ∨ op = 8 ∨ op = 9) : nodeOk op 0 [] .zero .zero 1 :=
 ⟨by omega, fun h => by omega, fun h => by omega, fun h => by omega, fun h => by omega, fun h => by omega, fun h => by omega, fun h => by omega, fun h => by omega, by decide⟩
theorem goodF (hT : Ends T) (hG : ∀ i, (T.getD i endT).kind ≠ 0 → TokGd (T.getD i endT)) (hL : T.length ≤ 100000) : ∀ f, GoodF T f
 | 0 => by
   constructor
   all_goals intros
   all_goals first
    | (rename_i h _ _; simp only [betwP, signedP, hundredP, primP, argsP, reduceCtorEq] at h)
    | (rename_i h _ _ _; simp only [loopP, hloopP, nameP, aloopP, reduceCtorEq] at h)
 | f + 1 => by
   have ih := goodF hT hG hL f
   have W := wentF hT f
   constructor
   ·intro lvl s r h hf h0
    rw [betwP] at h
    split at h
    ·exact ih.signed s r h hf h0
    ·split at h
     ·cases h
     ·rename_i r1 h1
      have w1 := W.betw _ _ _ h1 hf
      have w2 := W.loop _ _ _ _ h w1.fit
      obtain ⟨g1, g2⟩ := ih.betw _ _ _ h1 hf (w2.e0 h0)
      obtain ⟨g3, g4⟩ := ih.loop _ _ _ _ h w1.fit h0 g1
      exact ⟨g3, by omega⟩
   ·intro lvl n s r h hf h0 hn
    rw [loopP] at h
    split at h
    ·rename_i hk
     split at h
     ·cases h
     ·rename_i r1 h1
      have w0 := Went.next hT hf (sgn_kind hk)
      have w1 := W.betw _ _ _ h1 w0.fit
      have w2 := W.loop _ _ _ _ h w1.fit
      obtain ⟨g1, g2⟩ := ih.betw _ _ _ h1 w0.fit (w2.e0 h0)
      have hs : (curT T s).text ∈ levelsL.getD lvl [] := by
       unfold sgn at hk
       simp only [Bool.and_eq_true, decide_eq_true_eq] at hk
       exact hk.2
      have hr := sign_rng hs
      have hg : (Nd.mk (10 + idxP signL (curT T s).text) 0 [] .zero .zero [n, r1.1]).gd := by
       refine gd_mk ⟨by omega, fun h => by omega, fun h => by omega, fun h => by omega, fun h => by omega, fun h => by omega, fun h => by omega, fun h => by omega, fun h => by simp, by simp⟩ (fun h => by omega) fun y hy => ?_
       simp only [List.mem_cons, List.not_mem_nil, or_false] at hy
       rcases hy with rfl | rfl
       ·exact hn
       ·exact g1
      obtain ⟨g3, g4⟩ := ih.loop _ _ _ _ h w1.fit h0 hg
      rw [two_size] at g4
      have : s.next.i = s.i + 1 := rfl
      exact ⟨g3, by omega⟩
    ·injection h with h; subst h; exact ⟨hn, by dsimp only; omega⟩
   ·intro s r h hf h0
    rw [signedP] at h
    split at h
    ·rename_i hk
     split at h
     ·cases h
     ·rename_i r1 h1
      injection h with h; subst h
      obtain ⟨e1, e2, e3⟩ := enter_fit hT hf (isOp_kind hk)
      have w1 := W.signed _ _ h1 e1
      have e4 := enter_i (w1.e0 h0)
      obtain ⟨g1, g2⟩ := ih.signed _ _ h1 e1 h0
      dsimp only
      rw [one_size]
      exact ⟨one_gd (one_ok (by omega)) (by omega) g1, by show _ ≤ 2 * r1.2.i; omega⟩
    split at h
    ·rename_i hk
     split at h
     ·cases h
     ·rename_i r1 h1
      injection h with h; subst h
      obtain ⟨e1, e2, e3⟩ := enter_fit hT hf (isOp_kind hk)
      have w1 := W.signed _ _ h1 e1
      have e4 := enter_i (w1.e0 h0)
      obtain ⟨g1, g2⟩ := ih.signed _ _ h1 e1 h0
      dsimp only
      rw [one_size]
      exact ⟨one_gd (one_ok (by omega)) (by omega) g1, by show _ ≤ 2 * r1.2.i; omega⟩
    ·exact ih.hundred _ _ h hf h0
   ·intro s r h hf h0
    rw [hundredP] at h
    split at h
    ·cases h
    ·rename_i r1 h1
     have w1 := W.prim _ _ h1 hf
     have w2 := W.hloop _ _ _ h w1.fit
     obtain ⟨g1, g2⟩ := ih.prim _ _ h1 hf (w2.e0 h0)
     obtain ⟨g3, g4⟩ := ih.hloop _ _ _ h w1.fit h0 g1
     exact ⟨g3, by omega⟩
   ·intro n s r h hf h0 hn
    rw [hloopP] at h
    split at h
    ·rename_i hk
     have w0 := Went.next hT hf (isOp_kind hk)
     obtain ⟨g3, g4⟩ := ih.hloop _ _ _ h w0.fit h0 (one_gd (one_ok (by omega)) (by omega) hn)
     rw [one_size] at g4
     have : s.next.i = s.i + 1 := rfl
     exact ⟨g3, by omega⟩
    ·injection h with h; subst h; exact ⟨hn, by dsimp only; omega⟩
   ·intro s r h hf h0
    have hni : s.next.i = s.i + 1 := rfl
    have hgd : (curT T s).kind ≠ 0 → TokGd (curT T s) := fun hk => by
     have he := cur_err hk
     rw [cur_at he] at hk ⊢
     exact hG _ hk
    rw [primP] at h
    split at h
    ·rename_i hk
     split at h
     ·injection h with h; subst h; exact absurd h0 fun h => fail_err (by decide) h
     ·rename_i v hv
      injection h with h; subst h
      refine ⟨leaf_gd ⟨by decide, fun _ => parseD_rng hv, fun h => by omega, fun h => by omega, fun h => by omega, fun h => by omega, fun h => by omega, fun h => by omega, fun h => by omega, by decide⟩, ?_⟩
      rw [leaf_size]; dsimp only; omega
    split at h
    ·rename_i hk
     injection h with h; subst h
     have := (hgd (by omega)).len
     refine ⟨leaf_gd ⟨by decide, fun h => by omega, fun _ => by omega, fun h => by omega, fun h => by omega, fun h => by omega, fun h => by omega, fun h => by omega, fun h => by omega, by decide⟩, ?_⟩
     rw [leaf_size]; dsimp only; omega
    split at h
    ·rename_i hk
     injection h with h; subst h
     have hr := fault_rng ((hgd (by omega)).err hk)
     have hq : ((idxP errL (curT T s).text + 1) * 10000).tdiv 10000 = idxP errL (curT T s).text + 1 := Int.mul_tdiv_cancel _ (by decide)
     refine ⟨leaf_gd ⟨by decide, fun h => by omega, fun h => by omega, fun h => by rw [hq]; omega, fun h => by omega, fun h => by omega, fun h => by omega, fun h => by omega, fun h => by omega, by decide⟩, ?_⟩
     rw [leaf_size]; dsimp only; omega
    split at h
    ·rename_i hk
     injection h with h; subst h
     unfold areaP at h0 ⊢
     split at h0
     ·rename_i ho
      rw [if_pos ho]
      refine ⟨leaf_gd ⟨by decide, fun h => by omega, fun h => by omega, fun h => by omega, fun h => by omega, fun _ => parseP_good _, fun h => by omega, fun h => by omega, fun h => by omega, by decide⟩, ?_⟩
      rw [leaf_size]; dsimp only; omega
     ·rename_i ho
      rw [if_neg ho]
      split at h0
      ·exact absurd h0 fun h => fail_err (by decide) h
      ·rename_i hk2
       rw [if_neg hk2]
       refine ⟨leaf_gd ⟨by decide, fun h => by omega, fun h => by omega, fun h => by omega, fun h => by omega, fun _ => parseP_good _, fun _ => parseP_good _, fun h => by omega, fun h => by omega, by decide⟩, ?_⟩
       rw [leaf_size]
       have : s.next.next.next.i = s.i + 3 := rfl
       dsimp only; omega
    split at h
    ·rename_i hk
     exact ih.name _ _ h hf hk h0
    split at h
    ·rename_i hk
     split at h
     ·cases h
     ·rename_i r1 h1
      injection h with h; subst h
      obtain ⟨e1, e2, e3⟩ := enter_fit hT hf (isOp_kind hk)
      have w1 := W.betw _ _ _ h1 e1
      obtain ⟨m1, m2⟩ := must_i (T := T) (s := r1.2) (x := [41]) h0
      have e4 := enter_i (w1.e0 m1)
      obtain ⟨g1, g2⟩ := ih.betw _ _ _ h1 e1 m1
      exact ⟨g1, by show _ ≤ 2 * (mustP T r1.2 [41]).i; dsimp only; omega⟩
    ·injection h with h; subst h; exact absurd h0 fun h => fail_err (by decide) h
   ·intro s r h hf hk3 h0
    have hni : s.next.i = s.i + 1 := rfl
    have he0 : s.err = 0 := cur_err (T := T) (by omega)
    have hn := hf.next hT (by omega)
    have hgd : TokGd (curT T s) := by
     have hk : (curT T s).kind ≠ 0 := by omega
     rw [cur_at he0] at hk ⊢
     exact hG _ hk
    rw [nameP] at h
    split at h
    ·rename_i hk
     obtain ⟨e1, e2, e3⟩ := enter_err hT hf he0
     split at h
     ·rename_i he
      injection h with h; subst h
      exact absurd h0 he
     ·rename_i he
      split at h
      ·cases h
      ·rename_i r1 h1
       injection h with h; subst h
       obtain ⟨g1, g2, g3, _⟩ := enter2 hT hf (by omega) (by simpa using he)
       have hl := hT.more (s.i + 1) hn.1.i (by omega)
       have g4 : Fit T (enterP T s).next.next := ⟨by show (enterP T s).i + 1 + 1 < _; omega, g1.d0, g1.d1, g1.d2⟩
       have w1 := W.args _ _ h1 g4
       obtain ⟨k1, k2⟩ := ih.args _ _ h1 g4 h0
       have hi2 : (enterP T s).next.next.i = (enterP T s).i + 2 := rfl
       have hsl := sizes_len r1.1
       have hlt := w1.fit.i
       refine ⟨gd_mk ⟨by decide, fun h => by omega, fun h => by omega, fun h => by omega, fun _ => hgd.nam hk3, fun h => by omega, fun h => by omega, fun h => by omega, fun h => by omega, by omega⟩ (fun h => by omega) k1, ?_⟩
       dsimp only
       rw [Nd.size]
       show _ ≤ 2 * r1.2.i
       omega
    split at h
    ·injection h with h; subst h
     refine ⟨leaf_gd ⟨by decide, fun h => by omega, fun h => by omega, fun h => by omega, fun h => by omega, fun h => by omega, fun h => by omega, fun h => by omega, fun h => by omega, by decide⟩, ?_⟩
     rw [leaf_size]; dsimp only; omega
    split at h
    ·injection h with h; subst h
     refine ⟨leaf_gd ⟨by decide, fun h => by omega, fun h => by omega, fun h => by omega, fun h => by omega, fun h => by omega, fun h => by omega, fun h => by omega, fun h => by omega, by decide⟩, ?_⟩
     rw [leaf_size]; dsimp only; omega
    ·injection h with h; subst h; exact absurd h0 fun h => fail_err (by decide) h
   ·intro s r h hf h0
    rw [argsP] at h
    split at h
    ·rename_i hk
     injection h with h; subst h
     refine ⟨no_kids (x := missN), ?_⟩
     have : s.next.i = s.i + 1 := rfl
     rw [Nd.sizes]; dsimp only; omega
    ·obtain ⟨g1, g2⟩ := ih.aloop _ _ _ h hf h0 (no_kids (x := missN))
     rw [Nd.sizes] at g2
     exact ⟨g1, by omega⟩
   ·intro l s r h hf h0 hl
    rw [aloopP] at h
    split at h
    ·rename_i he
     injection h with h; subst h; exact absurd h0 he
    ·rename_i he
     split at h
     ·cases h
     ·rename_i r1 h1
      have w1 : Went T s r1.2 := by
       split at h1
       ·injection h1 with h1; subst h1; exact Went.refl hf
       ·exact W.betw _ _ _ h1 hf
      have key : r1.2.err = 0 → r1.1.gd ∧ r1.1.size + 2 * s.i ≤ 1 + 2 * r1.2.i := fun k0 => by
       split at h1
       ·injection h1 with h1; subst h1
        refine ⟨miss_gd, ?_⟩
        show missN.size + _ ≤ _
        unfold missN
        rw [leaf_size]
        dsimp only
        omega
       ·obtain ⟨k1, k2⟩ := ih.betw _ _ _ h1 hf k0
        exact ⟨k1, by omega⟩
      have hsnoc := sizes_snoc l r1.1
      have hmem : r1.1.gd → ∀ x ∈ l ++ [r1.1], x.gd := fun k x hx => by
       rcases List.mem_append.1 hx with hx | hx
       ·exact hl x hx
       ·simp at hx; subst hx; exact k
      split at h
      ·rename_i hk
       have w2 := Went.next hT w1.fit (isOp_kind hk)
       have w3 := W.aloop _ _ _ h w2.fit
       obtain ⟨k1, k2⟩ := key (w2.e0 (w3.e0 h0))
       obtain ⟨g1, g2⟩ := ih.aloop _ _ _ h w2.fit h0 (hmem k1)
       have : r1.2.next.i = r1.2.i + 1 := rfl
       exact ⟨g1, by omega⟩
      ·injection h with h; subst h
       obtain ⟨m1, m2⟩ := must_i (T := T) (s := r1.2) (x := [41]) h0
       obtain ⟨k1, k2⟩ := key m1
       exact ⟨hmem k1, by dsimp only; omega⟩
end
theorem parseR_gd {s : List UInt8} (h : (parseR s).2.2 = 0) : (parseR s).1.gd ∧ (parseR s).1.size ≤ 5000 := by
 unfold parseR parseT at h ⊢
 by_cases h1 : (lexP s).2.2 = 0
 ·obtain ⟨hT, hL, hG⟩ := lex_toks h1
  obtain ⟨r, hr⟩ := betw_some h1
  have hr' := hr
  unfold st0 at hr
  rw [if_neg (by simp [h1]), hr] at h ⊢
  dsimp only at h ⊢
  have W := (wentF hT.ends _).betw _ _ _ hr' (st0_fit hT.ends)
  obtain ⟨q, hq⟩ : ∃ q, (if (curT (lexP s).1 r.2).kind ≠ 0 then failP (lexP s).1 r.2 10 else r.2) = q := ⟨_, rfl⟩
  rw [hq] at h ⊢
  by_cases he : q.err ≠ 0
  ·rw [if_pos he] at h
   exact absurd h he
  ·rw [if_neg he]
   have h0 : r.2.err = 0 := by
    split at hq
    ·subst hq
     exact absurd (by simpa using he) fun h => fail_err (T := (lexP s).1) (s := r.2) (e := 10) (by decide) h
    ·subst hq
     simpa using he
   obtain ⟨g1, g2⟩ := (goodF hT.ends hG (by omega) _).betw _ _ _ hr' (st0_fit hT.ends) h0
   have := W.fit.i
   refine ⟨g1, ?_⟩
   show r.1.size ≤ _
   omega
 ·rw [if_pos (by simpa using h1)] at h
  exact absurd h h1
end Go.A
namespace Go.A
open Go.Proofs
/-! 9: (tabular/shift.Edit).Good -/
def c9_27 : ACode := .seq (.seq (.ops [ oq 5 (.fa 2 (.t 2)), oq 6 (.ld none (.t 5)), oq 7 (.bin .lss (.t 6) (.v (.int .i64 0))), oq 8 (.mv (.t 7)), ⟨some 9, some (8, false), .q (.fa 3 (.t 2)), []⟩, ⟨some 10, some (8, false), .q (.ld none (.t 9)), []⟩, ⟨some 11, some (8, false), .q (.bin .lss (.t 10) (.v (.int .i64 1))), []⟩, oq 12 (.pick (.t 8) (.v (.bool true)) (.t 11)), oq 13 (.mv (.t 12)), ⟨some 14, some (13, false), .q (.mv (.t 1)), []⟩, ⟨some 15, some (13, false), .q (.bin .lss (.t 14) (.v (.int .i64 0))), []⟩, oq 16 (.pick (.t 13) (.v (.bool true)) (.t 15)), oq 17 (.mv (.t 16)), ⟨some 18, some (17, false), .q (.mv (.t 1)), []⟩, ⟨some 19, some (17, false), .q (.ld (some 5) (.t 2)), []⟩, ⟨some 20, some (17, false), .e (.call 35 [(.t 19)]), []⟩, ⟨some 21, some (17, false), .q (.bin .gtr (.t 18) (.t 20)), []⟩, oq 22 (.pick (.t 17) (.v (.bool true)) (.t 21))]) (.cond (.t 22) (.seq (.ops [ oq 4 (.mv (.v (.bool false)))]) .ret) .skip)) (.seq (.seq (.ops [ oq 23 (.fa 1 (.t 2)), oq 24 (.ld none (.t 23))]) (.block 0 (.seq (.ops [ oq 26 (.bin .eql (.t 24) (.v (.int .i64 1))), oq 25 (.mv (.t 26))]) (.cond (.t 25) (.seq (.ops [ oq 27 (.fa 2 (.t 2)), oq 28 (.ld none (.t 27)), oq 29 (.mv (.t 1)), oq 30 (.bin .leq (.t 28) (.t 29)), oq 31 (.mv (.t 30)), ⟨some 32, some (31, true), .q (.fa 3 (.t 2)), []⟩, ⟨some 33, some (31, true), .q (.ld none (.t 32)), []⟩, ⟨some 34, some (31, true), .q (.ld (some 5) (.t 2)), []⟩, ⟨some 36, some (31, true), .q (.mv (.t 1)), []⟩, ⟨some 35, some (31, true), .e (.call 35 [(.t 34)]), [⟨(some (31, true)), .ld none (.t 32), 33⟩]⟩, ⟨some 37, some (31, true), .q (.bin .sub (.t 35) (.t 36)), []⟩, ⟨some 38, some (31, true), .q (.bin .leq (.t 33) (.t 37)), []⟩, oq 39 (.pick (.t 31) (.t 38) (.v (.bool false))), oq 4 (.mv (.t 39))]) .ret) (.seq (.ops [ oq 41 (.bin .eql (.t 24) (.v (.int .i64 2))), oq 40 (.mv (.t 41))]) (.cond (.t 40) (.seq (.ops [ oq 42 (.fa 3 (.t 2)), oq 43 (.ld none (.t 42)), oq 44 (.mv (.t 1)), oq 45 (.bin .lss (.t 43) (.t 44)), oq 46 (.mv (.t 45)), ⟨some 47, some (46, true), .q (.fa 2 (.t 2)), []⟩, ⟨some 48, some (46, true), .q (.ld none (.t 47)), []⟩, ⟨some 49, some (46, true), .q (.mv (.t 1)), []⟩, ⟨some 50, some (46, true), .q (.fa 3 (.t 2)), []⟩, ⟨some 51, some (46, true), .q (.ld none (.t 50)), []⟩, ⟨some 52, some (46, true), .q (.bin .sub (.t 49) (.t 51)), []⟩, ⟨some 53, some (46, true), .q (.bin .leq (.t 48) (.t 52)), []⟩, oq 54 (.pick (.t 46) (.t 53) (.v (.bool false))), oq 4 (.mv (.t 54))]) .ret) (.seq (.ops [ oq 56 (.bin .eql (.t 24) (.v (.int .i64 3))), oq 55 (.mv (.t 56))]) (.cond (.t 55) (.seq (.ops [ oq 57 (.fa 3 (.t 2)), oq 58 (.ld none (.t 57)), oq 59 (.mv (.t 1)), oq 60 (.bin .leq (.t 58) (.t 59)), oq 61 (.mv (.t 60)), ⟨some 62, some (61, true), .q (.fa 2 (.t 2)), []⟩, ⟨some 63, some (61, true), .q (.ld none (.t 62)), []⟩, ⟨some 64, some (61, true), .q (.mv (.t 1)), []⟩, ⟨some 65, some (61, true), .q (.fa 3 (.t 2)), []⟩, ⟨some 66, some (61, true), .q (.ld none (.t 65)), []⟩, ⟨some 67, some (61, true), .q (.bin .sub (.t 64) (.t 66)), []⟩, ⟨some 68, some (61, true), .q (.bin .leq (.t 63) (.t 67)), []⟩, oq 69 (.pick (.t 61) (.t 68) (.v (.bool false))), oq 70 (.mv (.t 69)), ⟨some 71, some (70, true), .q (.fa 4 (.t 2)), []⟩, ⟨some 72, some (70, true), .q (.ld none (.t 71)), []⟩, ⟨some 73, some (70, true), .q (.bin .geq (.t 72) (.v (.int .i64 0))), []⟩, oq 74 (.pick (.t 70) (.t 73) (.v (.bool false))), oq 75 (.mv (.t 74)), ⟨some 76, some (75, true), .q (.fa 4 (.t 2)), []⟩, ⟨some 77, some (75, true), .q (.ld none (.t 76)), []⟩, ⟨some 78, some (75, true), .q (.mv (.t 1)), []⟩, ⟨some 79, some (75, true), .q (.fa 3 (.t 2)), []⟩, ⟨some 80, some (75, true), .q (.ld none (.t 79)), []⟩, ⟨some 81, some (75, true), .q (.bin .sub (.t 78) (.t 80)), []⟩, ⟨some 82, some (75, true), .q (.bin .leq (.t 77) (.t 81)), []⟩, oq 83 (.pick (.t 75) (.t 82) (.v (.bool false))), oq 4 (.mv (.t 83))]) .ret) .skip)))))))) (.seq (.ops [ oq 4 (.mv (.v (.bool false)))]) .ret))
def c9_28 : ACode := .seq (.ops [ oe 2 (.box (.t 0)), oq 4 (.mv (.v (.bool false)))]) c9_27
@[go_sem] def c9_27_wp := wp_of c9_27.eq_1
@[go_sem] def c9_28_wp := wp_of c9_28.eq_1
def c9 : AFn := ⟨84, [.t 4], c9_28⟩
theorem c9_ok : compF Tryz.prog Tryz.f9 = some c9 := by kernel_rfl
theorem a9 {args : List AV} {σ : ASt} {R : AV → ASt → Prop} (hl : args.length ≤ 84) (h : c9_28.wp Tryz.prog (RetQ [.t 4] R) (init args) σ) : ACalls Tryz.prog 9 args σ R := acalls_of Tryz.func9 c9_ok hl h
/-! 35: (tabular/shift.Edit).most -/
def c35_9 : ACode := .seq (.ops [ oe 1 (.box (.t 0)), oq 2 (.mv (.v (.int .i64 0)))]) (.seq (.seq (.ops [ oq 3 (.fa 0 (.t 1)), oq 4 (.ld none (.t 3))]) (.cond (.t 4) (.seq (.ops [ oq 2 (.mv (.v (.int .i64 700)))]) .ret) .skip)) (.seq (.ops [ oq 2 (.mv (.v (.int .i64 3000)))]) .ret))
@[go_sem] def c35_9_wp := wp_of c35_9.eq_1
def c35 : AFn := ⟨5, [.t 2], c35_9⟩
theorem c35_ok : compF Tryz.prog Tryz.f35 = some c35 := by kernel_rfl
theorem a35 {args : List AV} {σ : ASt} {R : AV → ASt → Prop} (hl : args.length ≤ 5) (h : c35_9.wp Tryz.prog (RetQ [.t 2] R) (init args) σ) : ACalls Tryz.prog 35 args σ R := acalls_of Tryz.func35 c35_ok hl h
/-! 43: tabular/shift.gone -/
def c43_3 : ACode := .seq (.ops [ oe 0 (.alloc [(.int .i64 0), (.int .i64 0), (.str []), (.int .i64 0), (.int .i64 0), (.bool false), (.bool false), (.int .i64 0), (.int .i64 0), (.bool false), (.bool false), (.sl .full [])])]) (.seq (.ops [ oq 1 (.build [(.int .i64 0), (.int .i64 0), (.str []), (.int .i64 0), (.int .i64 0), (.bool false), (.bool false), (.int .i64 0), (.int .i64 0), (.bool false), (.bool false), (.sl .full [])] [(0, 1, (.v (.int .i64 4))), (1, 1, (.v (.int .i64 40000)))]), oz (.store 12 (.t 0) (.t 1))]) .ret)
@[go_sem] def c43_3_wp := wp_of c43_3.eq_1
def c43 : AFn := ⟨2, [.c 0 (some 12)], c43_3⟩
theorem c43_ok : compF Tryz.prog Tryz.f43 = some c43 := by kernel_rfl
theorem a43 {args : List AV} {σ : ASt} {R : AV → ASt → Prop} (hl : args.length ≤ 2) (h : c43_3.wp Tryz.prog (RetQ [.c 0 (some 12)] R) (init args) σ) : ACalls Tryz.prog 43 args σ R := acalls_of Tryz.func43 c43_ok hl h
/-! 72: (tabular/shift.Edit).Place -/
def c72_48 : ACode := .seq (.seq (.ops [ oq 6 (.fa 1 (.t 2)), oq 7 (.ld none (.t 6))]) (.block 0 (.seq (.ops [ oq 9 (.bin .eql (.t 7) (.v (.int .i64 1))), oq 8 (.mv (.t 9))]) (.cond (.t 8) (.seq (.seq (.ops [ oq 10 (.mv (.t 1)), oq 11 (.fa 2 (.t 2)), oq 12 (.ld none (.t 11)), oq 13 (.bin .geq (.t 10) (.t 12))]) (.cond (.t 13) (.ops [ oq 14 (.mv (.t 1)), oq 15 (.fa 3 (.t 2)), oq 16 (.ld none (.t 15)), oq 17 (.bin .add (.t 14) (.t 16)), oq 1 (.mv (.t 17))]) .skip)) (.seq (.ops [ oq 18 (.mv (.t 1)), oq 19 (.mv (.t 1)), oq 20 (.ld (some 5) (.t 2)), oe 21 (.call 35 [(.t 20)]), oq 22 (.bin .lss (.t 19) (.t 21)), oq 4 (.mv (.t 18)), oq 5 (.mv (.t 22))]) .ret)) (.seq (.ops [ oq 24 (.bin .eql (.t 7) (.v (.int .i64 2))), oq 23 (.mv (.t 24))]) (.cond (.t 23) (.seq (.seq (.ops [ oq 25 (.mv (.t 1)), oq 26 (.fa 2 (.t 2)), oq 27 (.ld none (.t 26)), oq 28 (.bin .geq (.t 25) (.t 27)), oq 29 (.mv (.t 28)), ⟨some 30, some (29, true), .q (.mv (.t 1)), []⟩, ⟨some 31, some (29, true), .q (.fa 2 (.t 2)), []⟩, ⟨some 32, some (29, true), .q (.ld none (.t 31)), []⟩, ⟨some 33, some (29, true), .q (.fa 3 (.t 2)), []⟩, ⟨some 34, some (29, true), .q (.ld none (.t 33)), []⟩, ⟨some 35, some (29, true), .q (.bin .add (.t 32) (.t 34)), []⟩, ⟨some 36, some (29, true), .q (.bin .lss (.t 30) (.t 35)), []⟩, oq 37 (.pick (.t 29) (.t 36) (.v (.bool false)))]) (.cond (.t 37) (.seq (.ops [ oq 4 (.mv (.v (.int .i64 0))), oq 5 (.mv (.v (.bool false)))]) .ret) .skip)) (.seq (.seq (.ops [ oq 38 (.mv (.t 1)), oq 39 (.fa 2 (.t 2)), oq 40 (.ld none (.t 39)), oq 41 (.bin .geq (.t 38) (.t 40))]) (.cond (.t 41) (.ops [ oq 42 (.mv (.t 1)), oq 43 (.fa 3 (.t 2)), oq 44 (.ld none (.t 43)), oq 45 (.bin .sub (.t 42) (.t 44)), oq 1 (.mv (.t 45))]) .skip)) (.seq (.ops [ oq 46 (.mv (.t 1)), oq 4 (.mv (.t 46)), oq 5 (.mv (.v (.bool true)))]) .ret))) .skip)))))) (.seq (.seq (.ops [ oq 47 (.mv (.t 1)), oq 48 (.fa 2 (.t 2)), oq 49 (.ld none (.t 48)), oq 50 (.bin .geq (.t 47) (.t 49)), oq 51 (.mv (.t 50)), ⟨some 52, some (51, true), .q (.mv (.t 1)), []⟩, ⟨some 53, some (51, true), .q (.fa 2 (.t 2)), []⟩, ⟨some 54, some (51, true), .q (.ld none (.t 53)), []⟩, ⟨some 55, some (51, true), .q (.fa 3 (.t 2)), []⟩, ⟨some 56, some (51, true), .q (.ld none (.t 55)), []⟩, ⟨some 57, some (51, true), .q (.bin .add (.t 54) (.t 56)), []⟩, ⟨some 58, some (51, true), .q (.bin .lss (.t 52) (.t 57)), []⟩, oq 59 (.pick (.t 51) (.t 58) (.v (.bool false)))]) (.cond (.t 59) (.seq (.ops [ oq 60 (.mv (.t 1)), oq 61 (.fa 2 (.t 2)), oq 62 (.ld none (.t 61)), oq 63 (.bin .sub (.t 60) (.t 62)), oq 64 (.fa 4 (.t 2)), oq 65 (.ld none (.t 64)), oq 66 (.bin .add (.t 63) (.t 65)), oq 4 (.mv (.t 66)), oq 5 (.mv (.v (.bool true)))]) .ret) .skip)) (.seq (.seq (.ops [ oq 67 (.mv (.t 1)), oq 68 (.fa 2 (.t 2)), oq 69 (.ld none (.t 68)), oq 70 (.bin .geq (.t 67) (.t 69))]) (.cond (.t 70) (.ops [ oq 71 (.mv (.t 1)), oq 72 (.fa 3 (.t 2)), oq 73 (.ld none (.t 72)), oq 74 (.bin .sub (.t 71) (.t 73)), oq 1 (.mv (.t 74))]) .skip)) (.seq (.seq (.ops [ oq 75 (.mv (.t 1)), oq 76 (.fa 4 (.t 2)), oq 77 (.ld none (.t 76)), oq 78 (.bin .geq (.t 75) (.t 77))]) (.cond (.t 78) (.ops [ oq 79 (.mv (.t 1)), oq 80 (.fa 3 (.t 2)), oq 81 (.ld none (.t 80)), oq 82 (.bin .add (.t 79) (.t 81)), oq 1 (.mv (.t 82))]) .skip)) (.seq (.ops [ oq 83 (.mv (.t 1)), oq 4 (.mv (.t 83)), oq 5 (.mv (.v (.bool true)))]) .ret))))
def c72_49 : ACode := .seq (.ops [ oe 2 (.box (.t 0)), oq 4 (.mv (.v (.int .i64 0))), oq 5 (.mv (.v (.bool false)))]) c72_48
@[go_sem] def c72_48_wp := wp_of c72_48.eq_1
@[go_sem] def c72_49_wp := wp_of c72_49.eq_1
def c72 : AFn := ⟨84, [.t 4, .t 5], c72_49⟩
theorem c72_ok : compF Tryz.prog Tryz.f72 = some c72 := by kernel_rfl
theorem a72 {args : List AV} {σ : ASt} {R : AV → ASt → Prop} (hl : args.length ≤ 84) (h : c72_49.wp Tryz.prog (RetQ [.t 4, .t 5] R) (init args) σ) : ACalls Tryz.prog 72 args σ R := acalls_of Tryz.func72 c72_ok hl h
end Go.A
namespace Go.A
open Go.Proofs Go.Lib
structure Edt where
 cols : Bool
 kind : Int
 at' : Int
 n : Int
 dst : Int
def Edt.cs (e : Edt) : List AV := [.bool e.cols, .int .i64 e.kind, .int .i64 e.at', .int .i64 e.n, .int .i64 e.dst]
def Edt.av (e : Edt) : AV := .agg e.cs
section
variable {e : Edt}
@[go_sem] theorem ed_0 : e.cs[0]? = some (.bool e.cols) := id rfl
@[go_sem] theorem ed_1 : e.cs[1]? = some (.int .i64 e.kind) := id rfl
@[go_sem] theorem ed_2 : e.cs[2]? = some (.int .i64 e.at') := id rfl
@[go_sem] theorem ed_3 : e.cs[3]? = some (.int .i64 e.n) := id rfl
@[go_sem] theorem ed_4 : e.cs[4]? = some (.int .i64 e.dst) := id rfl
@[go_sem] theorem ed_len : e.cs.length = 5 := id rfl
@[go_sem] theorem ed_take : e.cs.take 5 = e.cs := id rfl
end
def Edt.most (e : Edt) : Int := if e.cols = true then 700 else 3000
def Edt.good (e : Edt) (c : Int) : Bool :=
 if e.at' < 0 ∨ e.n < 1 ∨ c < 0 ∨ e.most < c then false
 else if e.kind = 1 then decide (e.at' ≤ c ∧ e.n ≤ e.most - c)
 else if e.kind = 2 then decide (e.n < c ∧ e.at' ≤ c - e.n)
 else if e.kind = 3 then decide (e.n ≤ c ∧ e.at' ≤ c - e.n ∧ 0 ≤ e.dst ∧ e.dst ≤ c - e.n)
 else false
def ahead (p : Int) (d i : Int) : Int := if p ≤ i then i + d else i
def Edt.place (e : Edt) (i : Int) : Int × Bool :=
 if e.kind = 1 then (ahead e.at' e.n i, decide (ahead e.at' e.n i < e.most))
 else if e.at' ≤ i ∧ i < e.at' + e.n then (if e.kind = 2 then (0, false) else (i - e.at' + e.dst, true))
 else if e.kind = 2 then (ahead e.at' (-e.n) i, true)
 else (ahead e.dst e.n (ahead e.at' (-e.n) i), true)
structure Edt.fit (e : Edt) : Prop where
 a0 : 0 ≤ e.at'
 a1 : e.at' ≤ 3000
 n0 : 0 ≤ e.n
 n1 : e.n ≤ 3000
 t : e.kind ≠ 1 → e.kind ≠ 2 → 0 ≤ e.dst ∧ e.dst ≤ 3000
theorem Edt.good_fit {e : Edt} {c : Int} (h : e.good c = true) : e.fit := by
 unfold Edt.good at h
 split at h
 ·cases h
 rename_i h0
 have hm : e.most ≤ 3000 := by unfold Edt.most; split <;> omega
 split at h
 ·have := of_decide_eq_true h
  exact ⟨by omega, by omega, by omega, by omega, by omega⟩
 split at h
 ·have := of_decide_eq_true h
  exact ⟨by omega, by omega, by omega, by omega, by omega⟩
 split at h
 ·have := of_decide_eq_true h
  exact ⟨by omega, by omega, by omega, by omega, by omega⟩
 ·cases h
theorem shmost_ok (e : Edt) : Pure Tryz.prog 35 [e.av] (.int .i64 e.most) := by
 intro σ
 obtain ⟨q, hq⟩ : ∃ q, e.most = q := ⟨_, rfl⟩
 rw [hq]
 unfold Edt.most at hq
 unfold Edt.av
 refine a35 (by simp) ?_
 simp (disch := first | assumption | omega) only [go_sem]
 refine boxC_by rfl fun c hc => ?_
 cases hb : e.cols with
 | true =>
   rw [if_pos hb] at hq
   subst hq
   simp (disch := first | assumption | omega) only [go_sem, Nat.reduceEqDiff, ↓reduceIte, hb]
   exact retC_by (Drop.set hc) (.refl _) ⟨rfl, rfl⟩
 | false =>
   rw [if_neg (by simp [hb])] at hq
   subst hq
   simp (disch := first | assumption | omega) only [go_sem, Nat.reduceEqDiff, ↓reduceIte, hb]
   exact retC_by (Drop.set hc) (.refl _) ⟨rfl, rfl⟩
theorem most_rng (e : Edt) : 700 ≤ e.most ∧ e.most ≤ 3000 := by unfold Edt.most; split <;> omega
theorem shgood_ok (e : Edt) (c : Int) : Pure Tryz.prog 9 [e.av, .int .i64 c] (.bool (e.good c)) := by
 intro σ
 have hm := shmost_ok e
 have hr := most_rng e
 obtain ⟨q, hq⟩ : ∃ q, e.good c = q := ⟨_, rfl⟩
 rw [hq]
 unfold Edt.good at hq
 generalize e.most = M at *
 unfold Edt.av at hm ⊢
 refine a9 (by simp) ?_
 simp (disch := first | assumption | omega) only [go_sem]
 refine boxC_by rfl fun b hb => ?_
 by_cases h1 : e.at' < 0
 ·rw [if_pos (by omega)] at hq
  subst hq
  simp (disch := first | assumption | omega) only [go_sem, Nat.reduceEqDiff, ↓reduceIte, h1]
  exact retC_by (Drop.set hb) (.refl _) ⟨rfl, rfl⟩
 by_cases h2 : e.n < 1
 ·rw [if_pos (by omega)] at hq
  subst hq
  simp (disch := first | assumption | omega) only [go_sem, Nat.reduceEqDiff, ↓reduceIte, h1, h2]
  exact retC_by (Drop.set hb) (.refl _) ⟨rfl, rfl⟩
 by_cases h3 : c < 0
 ·rw [if_pos (by omega)] at hq
  subst hq
  simp (disch := first | assumption | omega) only [go_sem, Nat.reduceEqDiff, ↓reduceIte, h1, h2, h3]
  exact retC_by (Drop.set hb) (.refl _) ⟨rfl, rfl⟩
 by_cases h4 : M < c
 ·rw [if_pos (by omega)] at hq
  subst hq
  simp (disch := first | assumption | omega) only [go_sem, Nat.reduceEqDiff, Nat.reduceLeDiff, ↓reduceIte, h1, h2, h3]
  refine hm.use ?_
  simp (disch := first | assumption | omega) only [go_sem, Nat.reduceEqDiff, ↓reduceIte, h4]
  exact retC_by (Drop.set hb) (.refl _) ⟨rfl, rfl⟩
 rw [if_neg (by omega)] at hq
 by_cases k1 : e.kind = 1
 ·rw [if_pos k1] at hq
  by_cases g1 : e.at' ≤ c
  ·by_cases g2 : e.n ≤ M - c
   ·rw [decide_eq_true ⟨g1, g2⟩] at hq
    subst hq
    simp (disch := first | assumption | omega) only [go_sem, Nat.reduceEqDiff, Nat.reduceLeDiff, ↓reduceIte, h1, h2, h3]
    refine hm.use ?_
    simp (disch := first | assumption | omega) only [go_sem, Nat.reduceEqDiff, Nat.reduceLeDiff, ↓reduceIte, h4, k1, g1]
    refine hm.use ?_
    simp (disch := first | assumption | omega) only [go_sem, Nat.reduceEqDiff, ↓reduceIte, forall_const, g2]
    exact retC_by (Drop.set hb) (.refl _) ⟨rfl, rfl⟩
   ·rw [decide_eq_false (fun h => g2 h.2)] at hq
    subst hq
    simp (disch := first | assumption | omega) only [go_sem, Nat.reduceEqDiff, Nat.reduceLeDiff, ↓reduceIte, h1, h2, h3]
    refine hm.use ?_
    simp (disch := first | assumption | omega) only [go_sem, Nat.reduceEqDiff, Nat.reduceLeDiff, ↓reduceIte, h4, k1, g1]
    refine hm.use ?_
    simp (disch := first | assumption | omega) only [go_sem, Nat.reduceEqDiff, ↓reduceIte, forall_const, g2]
    exact retC_by (Drop.set hb) (.refl _) ⟨rfl, rfl⟩
  ·rw [decide_eq_false (fun h => g1 h.1)] at hq
   subst hq
   simp (disch := first | assumption | omega) only [go_sem, Nat.reduceEqDiff, Nat.reduceLeDiff, ↓reduceIte, h1, h2, h3]
   refine hm.use ?_
   simp (disch := first | assumption | omega) only [go_sem, Nat.reduceEqDiff, ↓reduceIte, h4, k1, g1]
   exact retC_by (Drop.set hb) (.refl _) ⟨rfl, rfl⟩
 rw [if_neg k1] at hq
 by_cases k2 : e.kind = 2
 ·rw [if_pos k2] at hq
  by_cases g1 : e.n < c
  ·by_cases g2 : e.at' ≤ c - e.n
   ·rw [decide_eq_true ⟨g1, g2⟩] at hq
    subst hq
    simp (disch := first | assumption | omega) only [go_sem, Nat.reduceEqDiff, Nat.reduceLeDiff, ↓reduceIte, h1, h2, h3]
    refine hm.use ?_
    simp (disch := first | assumption | omega) only [go_sem, Nat.reduceEqDiff, Int.reduceEq, ↓reduceIte, h4, k2, g1, g2]
    exact retC_by (Drop.set hb) (.refl _) ⟨rfl, rfl⟩
   ·rw [decide_eq_false (fun h => g2 h.2)] at hq
    subst hq
    simp (disch := first | assumption | omega) only [go_sem, Nat.reduceEqDiff, Nat.reduceLeDiff, ↓reduceIte, h1, h2, h3]
    refine hm.use ?_
    simp (disch := first | assumption | omega) only [go_sem, Nat.reduceEqDiff, Int.reduceEq, ↓reduceIte, h4, k2, g1, g2]
    exact retC_by (Drop.set hb) (.refl _) ⟨rfl, rfl⟩
  ·rw [decide_eq_false (fun h => g1 h.1)] at hq
   subst hq
   simp (disch := first | assumption | omega) only [go_sem, Nat.reduceEqDiff, Nat.reduceLeDiff, ↓reduceIte, h1, h2, h3]
   refine hm.use ?_
   simp (disch := first | assumption | omega) only [go_sem, Nat.reduceEqDiff, Int.reduceEq, ↓reduceIte, h4, k2, g1]
   exact retC_by (Drop.set hb) (.refl _) ⟨rfl, rfl⟩
 rw [if_neg k2] at hq
 by_cases k3 : e.kind = 3
 ·rw [if_pos k3] at hq
  by_cases g1 : e.n ≤ c
  ·by_cases g2 : e.at' ≤ c - e.n
   ·by_cases g3 : 0 ≤ e.dst
    ·by_cases g4 : e.dst ≤ c - e.n
     ·rw [decide_eq_true ⟨g1, g2, g3, g4⟩] at hq
      subst hq
      simp (disch := first | assumption | omega) only [go_sem, Nat.reduceEqDiff, Nat.reduceLeDiff, ↓reduceIte, h1, h2, h3]
      refine hm.use ?_
      simp (disch := first | assumption | omega) only [go_sem, Nat.reduceEqDiff, Int.reduceEq, ↓reduceIte, h4, k3, g1, g2, g3, g4]
      exact retC_by (Drop.set hb) (.refl _) ⟨rfl, rfl⟩
     ·rw [decide_eq_false (fun h => g4 h.2.2.2)] at hq
      subst hq
      simp (disch := first | assumption | omega) only [go_sem, Nat.reduceEqDiff, Nat.reduceLeDiff, ↓reduceIte, h1, h2, h3]
      refine hm.use ?_
      simp (disch := first | assumption | omega) only [go_sem, Nat.reduceEqDiff, Int.reduceEq, ↓reduceIte, h4, k3, g1, g2, g3, g4]
      exact retC_by (Drop.set hb) (.refl _) ⟨rfl, rfl⟩
    ·rw [decide_eq_false (fun h => g3 h.2.2.1)] at hq
     subst hq
     simp (disch := first | assumption | omega) only [go_sem, Nat.reduceEqDiff, Nat.reduceLeDiff, ↓reduceIte, h1, h2, h3]
     refine hm.use ?_
     simp (disch := first | assumption | omega) only [go_sem, Nat.reduceEqDiff, Int.reduceEq, ↓reduceIte, h4, k3, g1, g2, g3]
     exact retC_by (Drop.set hb) (.refl _) ⟨rfl, rfl⟩
   ·rw [decide_eq_false (fun h => g2 h.2.1)] at hq
    subst hq
    simp (disch := first | assumption | omega) only [go_sem, Nat.reduceEqDiff, Nat.reduceLeDiff, ↓reduceIte, h1, h2, h3]
    refine hm.use ?_
    simp (disch := first | assumption | omega) only [go_sem, Nat.reduceEqDiff, Int.reduceEq, ↓reduceIte, h4, k3, g1, g2]
    exact retC_by (Drop.set hb) (.refl _) ⟨rfl, rfl⟩
  ·rw [decide_eq_false (fun h => g1 h.1)] at hq
   subst hq
   simp (disch := first | assumption | omega) only [go_sem, Nat.reduceEqDiff, Nat.reduceLeDiff, ↓reduceIte, h1, h2, h3]
   refine hm.use ?_
   simp (disch := first | assumption | omega) only [go_sem, Nat.reduceEqDiff, Int.reduceEq, ↓reduceIte, h4, k3, g1]
   exact retC_by (Drop.set hb) (.refl _) ⟨rfl, rfl⟩
 ·rw [if_neg k3] at hq
  subst hq
  simp (disch := first | assumption | omega) only [go_sem, Nat.reduceEqDiff, Nat.reduceLeDiff, ↓reduceIte, h1, h2, h3]
  refine hm.use ?_
  simp (disch := first | assumption | omega) only [go_sem, Nat.reduceEqDiff, ↓reduceIte, h4, k1, k2, k3]
  exact retC_by (Drop.set hb) (.refl _) ⟨rfl, rfl⟩
theorem shplace_ok (e : Edt) (he : e.fit) (i : Int) (h0 : 0 ≤ i) (h1 : i ≤ 10000) : Pure Tryz.prog 72 [e.av, .int .i64 i] (.tuple [.int .i64 (e.place i).1, .bool (e.place i).2]) := by
 intro σ
 have hm := shmost_ok e
 have hr := most_rng e
 obtain ⟨a0, a1, n0, n1, ht⟩ := he
 obtain ⟨q, hq⟩ : ∃ q, e.place i = q := ⟨_, rfl⟩
 rw [hq]
 unfold Edt.place ahead at hq
 generalize e.most = M at *
 unfold Edt.av at hm ⊢
 refine a72 (by simp) ?_
 simp (disch := first | assumption | omega) only [go_sem]
 refine boxC_by rfl fun b hb => ?_
 by_cases k1 : e.kind = 1
 ·rw [if_pos k1] at hq
  by_cases g1 : e.at' ≤ i
  ·rw [if_pos g1] at hq
   subst hq
   simp (disch := first | assumption | omega) only [go_sem, Nat.reduceEqDiff, Nat.reduceLeDiff, ↓reduceIte, k1, g1]
   refine hm.use ?_
   simp (disch := first | assumption | omega) only [go_sem, Nat.reduceEqDiff, ↓reduceIte]
   exact retC_by (Drop.set hb) (.refl _) ⟨rfl, rfl⟩
  ·rw [if_neg g1] at hq
   subst hq
   simp (disch := first | assumption | omega) only [go_sem, Nat.reduceEqDiff, Nat.reduceLeDiff, ↓reduceIte, k1, g1]
   refine hm.use ?_
   simp (disch := first | assumption | omega) only [go_sem, Nat.reduceEqDiff, ↓reduceIte]
   exact retC_by (Drop.set hb) (.refl _) ⟨rfl, rfl⟩
 rw [if_neg k1] at hq
 by_cases k2 : e.kind = 2
 ·rw [if_pos k2, if_pos k2] at hq
  by_cases g1 : e.at' ≤ i
  ·by_cases g2 : i < e.at' + e.n
   ·rw [if_pos ⟨g1, g2⟩] at hq
    subst hq
    simp (disch := first | assumption | omega) only [go_sem, Nat.reduceEqDiff, Int.reduceEq, ↓reduceIte, k2, g1, g2]
    exact retC_by (Drop.set hb) (.refl _) ⟨rfl, rfl⟩
   ·rw [if_neg (fun h => g2 h.2), if_pos g1] at hq
    subst hq
    simp (disch := first | assumption | omega) only [go_sem, Nat.reduceEqDiff, Int.reduceEq, ↓reduceIte, k2, g1, g2]
    exact retC_by (Drop.set hb) (.refl _) ⟨rfl, rfl⟩
  ·rw [if_neg (fun h => g1 h.1), if_neg g1] at hq
   subst hq
   simp (disch := first | assumption | omega) only [go_sem, Nat.reduceEqDiff, Int.reduceEq, ↓reduceIte, k2, g1]
   exact retC_by (Drop.set hb) (.refl _) ⟨rfl, rfl⟩
 rw [if_neg k2, if_neg k2] at hq
 have ht := ht k1 k2
 by_cases g1 : e.at' ≤ i
 ·by_cases g2 : i < e.at' + e.n
  ·rw [if_pos ⟨g1, g2⟩] at hq
   subst hq
   simp (disch := first | assumption | omega) only [go_sem, Nat.reduceEqDiff, ↓reduceIte, k1, k2, g1, g2]
   exact retC_by (Drop.set hb) (.refl _) ⟨rfl, rfl⟩
  ·rw [if_neg (fun h => g2 h.2), if_pos g1] at hq
   by_cases g3 : e.dst ≤ i + -e.n
   ·rw [if_pos g3] at hq
    subst hq
    have g3' : e.dst ≤ i - e.n := by omega
    simp (disch := first | assumption | omega) only [go_sem, Nat.reduceEqDiff, ↓reduceIte, k1, k2, g1, g2, g3']
    exact retC_by (Drop.set hb) (.refl _) ⟨rfl, rfl⟩
   ·rw [if_neg g3] at hq
    subst hq
    have g3' : ¬ e.dst ≤ i - e.n := by omega
    simp (disch := first | assumption | omega) only [go_sem, Nat.reduceEqDiff, ↓reduceIte, k1, k2, g1, g2, g3']
    exact retC_by (Drop.set hb) (.refl _) ⟨rfl, rfl⟩
 ·rw [if_neg (fun h => g1 h.1), if_neg g1] at hq
  by_cases g3 : e.dst ≤ i
  ·rw [if_pos g3] at hq
   subst hq
   simp (disch := first | assumption | omega) only [go_sem, Nat.reduceEqDiff, ↓reduceIte, k1, k2, g1, g3]
   exact retC_by (Drop.set hb) (.refl _) ⟨rfl, rfl⟩
  ·rw [if_neg g3] at hq
   subst hq
   simp (disch := first | assumption | omega) only [go_sem, Nat.reduceEqDiff, ↓reduceIte, k1, k2, g1, g3]
   exact retC_by (Drop.set hb) (.refl _) ⟨rfl, rfl⟩
theorem shgone_ok : Pure Tryz.prog 43 [] (Nd.mk 4 40000 [] .zero .zero []).av := by
 intro σ
 refine a43 (by simp) ?_
 rw [Nd.av_cs]
 simp (disch := first | assumption | omega) only [go_sem]
 refine allocC_by fun b hb => ?_
 simp (disch := first | assumption | omega) only [go_sem, reduceCtorEq, Nat.reduceAdd, Nat.reduceLeDiff, ↓reduceIte, Bool.true_and, ASt.set_set]
 refine retC_by (Drop.set hb) ?_ ⟨rfl, rfl⟩
 exact Fz.agg (.cons (.refl _) (.cons (.refl _) (.cons (.refl _) (.cons (.refl _) (.cons (.refl _) (.cons (.refl _) (.cons (.refl _) (.cons (.refl _) (.cons (.refl _) (.cons (.refl _) (.cons (.refl _) (.cons (.sl _ _) .nil))))))))))))
end Go.A
