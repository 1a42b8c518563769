/- Part 9 of what ParseBack leans on: Pe CodePf Pf CodePg Pg Ph CodePi Pi Sd Ya Yd Ye Yf Qe. -/
import Derived.Test.YtaonfjelncbhjaaGreatDoorProg
import Derived.KernelRfl
import Derived.Lib.ValidLaws
import Derived.Lib.Replace
import Derived.Test.YtaonfjelncbhjaaGreatDoorZParseBackh
set_option linter.defProp false
set_option linter.unusedSimpArgs false
set_option linter.unusedVariables false
set_option maxRecDepth 100000
namespace Go.A
open Go.Proofs Go.Lib
theorem zN_av : zN.av = .agg (Nd.cs 0 0 [] .zero .zero []) := rfl
theorem zN_cells : (Nd.cs 0 0 [] .zero .zero [] : List AV) = [.int .i64 0, .int .i64 0, .str [], .int .i64 0, .int .i64 0, .bool false, .bool false, .int .i64 0, .int .i64 0, .bool false, .bool false, .sl .shr []] := rfl
set_option maxHeartbeats 4000000 in
theorem area_walk {T : List Tok} (hT : TokOk T) (b : Nat) (s : PSt) (hf : Fit T s) (hk : (curT T s).kind = 4) (σ : ASt) (hb : σ b = pr T s) :
  ACalls Tryz.prog 90 [.ptr b 0] σ fun v σ' => v = (areaP T s).1.av ∧ σ' = σ.set b (pr T (areaP T s).2) := by
 have hlen := hT.len
 have hil := hf.i
 have hn := (hf.next hT.ends (by omega)).1
 have hni := hn.i
 refine a90 (by simp) ?_
 obtain ⟨R, hR⟩ : ∃ R, areaP T s = R := ⟨_, rfl⟩
 rw [hR]
 unfold areaP at hR
 simp (disch := first | assumption | omega) only [go_sem]
 refine allocC_by fun d hd => ?_
 obtain ⟨hbd, T2, S2⟩ := St2.of hd (pr_fix hb).1 (pr_fix hb).2
 rw [S2.one, hb]
 have k1 := S2.s1
 have q1 := S2.a1
 have hcu := fun X => pcur_ok (T := T) hf.i (q1 (pr T s) X)
 have hrf := pref_ok (curT T s) (by have := hT.cur s; omega)
 generalize hct : curT T s = tk at *
 obtain ⟨a, ha⟩ : ∃ a, refT tk = a := ⟨_, rfl⟩
 rw [ha] at hrf hR
 unfold tokAV refAV at hrf
 unfold tokAV at hcu
 simp (disch := first | assumption | omega) only [go_sem, reduceCtorEq, ↓reduceIte]
 refine (hcu _).mono ?_
 rintro v σ1 ⟨rfl, rfl⟩
 simp (disch := first | assumption | omega) only [go_sem, ↓reduceIte]
 refine hrf.use ?_
 simp (disch := first | assumption | omega) only [go_sem, Nat.reduceAdd, Nat.reduceLeDiff, ↓reduceIte]
 refine allocC_by fun e he => ?_
 obtain ⟨hbe, hde, T3, S3⟩ := St3.of S2 (X0 := .obj _) he
 have ab := S3.ab
 have k3 := S3.s3
 have k2 := S3.s2
 have k1 := S3.s1
 have q3 := S3.a3
 have q2 := S3.a2
 have q1 := S3.a1
 have hpr : ∀ x : PSt, pr T x = some (.obj [.sl .shr (T.map tokAV), .int .i64 x.i, .int .i64 x.deep, .int .i64 x.err, .int .i64 x.bad]) := fun x => rfl
 have hpn : some (Role.obj [.sl .shr (T.map tokAV), .int .i64 ((s.i : Int) + 1), .int .i64 s.deep, .int .i64 s.err, .int .i64 s.bad]) = pr T s.next := rfl
 obtain ⟨NC, hNC⟩ : ∃ NC, ([.int .i64 5, .int .i64 0, .str [], .int .i64 a.row, .int .i64 a.col, .bool a.absRow, .bool a.absCol, .int .i64 0, .int .i64 0, .bool false, .bool false, .sl .full []] : List AV) = NC := ⟨_, rfl⟩
 have hac := fun X Y => paccept_ok hT.ends hn hT.len [58] (q1 (pr T s.next) X Y)
 simp (disch := first | assumption | omega) only [go_sem, reduceCtorEq, Nat.reduceEqDiff, Nat.reduceAdd, Nat.reduceLeDiff, ↓reduceIte, Bool.true_and, ab, k3, q3]
 rw [hpr s]
 simp (disch := first | assumption | omega) only [go_sem, reduceCtorEq, Nat.reduceEqDiff, Nat.reduceAdd, Nat.reduceLeDiff, ↓reduceIte, Bool.true_and, q1, k1]
 rw [hpn]
 have hz12 : zero12 = [.int .i64 0, .int .i64 0, .str [], .int .i64 0, .int .i64 0, .bool false, .bool false, .int .i64 0, .int .i64 0, .bool false, .bool false, .sl .full []] := rfl
 refine (hac _ _).mono ?_
 rintro v σ1 ⟨rfl, rfl⟩
 by_cases hc : isOp T s.next [58] = false
 ·rw [if_pos hc] at hR
  subst hR
  rw [hc, if_neg (by simp)]
  simp (disch := first | assumption | omega) only [go_sem, Nat.reduceEqDiff, Nat.reduceAdd, Nat.reduceLeDiff, ↓reduceIte, Bool.true_and, q2, q3, k2]
  rw [Nd.av_cs]
  exact retC_by (S3.drop _ _ _) (fzN 5 0 [] a .zero _ _) ⟨rfl, rfl⟩
 ·rw [if_neg hc] at hR
  have hc' : isOp T s.next [58] = true := by simpa using hc
  rw [hc', if_pos rfl, k1]
  have hn2 := (hn.next hT.ends (isOp_kind hc')).1
  have hn2i := hn2.i
  have hcu2 := fun X Y => pcur_ok (T := T) hn2.i (q1 (pr T s.next.next) X Y)
  have hrf2 := pref_ok (curT T s.next.next) (by have := hT.cur s.next.next; omega)
  have hfl := fun τ h => pfail_ok (T := T) (s := s.next.next) hn2.i 10 (σ := τ) (b := b) h
  have hpn2 : some (Role.obj [.sl .shr (T.map tokAV), .int .i64 (s.next.next.i + 1 : Int), .int .i64 s.next.next.deep, .int .i64 s.next.next.err, .int .i64 s.next.next.bad]) = pr T s.next.next.next := rfl
  have hk2 : (curT T s.next.next).kind ≠ 0 → s.next.next.i + 1 < T.length := fun h => (hn2.next hT.ends h).1.i
  generalize hct2 : curT T s.next.next = tk2 at *
  obtain ⟨a2, ha2⟩ : ∃ a, refT tk2 = a := ⟨_, rfl⟩
  rw [ha2] at hrf2 hR
  unfold tokAV refAV at hrf2
  unfold tokAV at hcu2
  simp (disch := first | assumption | omega) only [go_sem, reduceCtorEq, ↓reduceIte]
  refine (hcu2 _ _).mono ?_
  rintro v σ1 ⟨rfl, rfl⟩
  simp (disch := first | assumption | omega) only [go_sem]
  refine allocC_by fun g hg => ?_
  obtain ⟨T4, S4⟩ := St4.of S3 (X0 := .obj _) hg
  have ab4 := S4.ab
  have m1 := S4.s1
  have m2 := S4.s2
  have m4 := S4.s4
  have p1 := S4.a1
  have p2 := S4.a2
  have p3 := S4.a3
  have p4 := S4.a4
  generalize hs2 : s.next.next = sN at *
  by_cases hk4 : tk2.kind = 4
  ·rw [if_neg (by simpa using hk4)] at hR
   subst hR
   have hi2 := hk2 (by omega)
   simp (disch := first | assumption | omega) only [go_sem, reduceCtorEq, Nat.reduceEqDiff, Nat.reduceAdd, Nat.reduceLeDiff, ↓reduceIte, Bool.true_and, ab4, m4, p4, hk4]
   rw [hpr sN]
   simp (disch := first | assumption | omega) only [go_sem, Nat.reduceEqDiff, Nat.reduceAdd, Nat.reduceLeDiff, ↓reduceIte, Bool.true_and, p1, m1]
   rw [hpn2]
   rw [hk4] at hrf2
   simp (disch := first | assumption | omega) only [go_sem, Nat.reduceEqDiff, Nat.reduceAdd, Nat.reduceLeDiff, ↓reduceIte, p3, p4]
   refine hrf2.use ?_
   simp (disch := first | assumption | omega) only [go_sem, Nat.reduceEqDiff, Nat.reduceAdd, Nat.reduceLeDiff, ↓reduceIte, Bool.true_and, p2, p3, m2]
   rw [Nd.av_cs]
   exact retC_by (S4.drop _ _ _ _) (fzN 6 0 [] a a2 _ _) ⟨rfl, rfl⟩
  ·rw [if_pos hk4] at hR
   subst hR
   simp (disch := first | assumption | omega) only [go_sem, reduceCtorEq, Nat.reduceEqDiff, Nat.reduceAdd, Nat.reduceLeDiff, ↓reduceIte, Bool.true_and, ab4, m4, p4, hk4]
   refine (hfl _ (p1 _ _ _ _)).mono ?_
   rintro v σ1 ⟨rfl, rfl⟩
   rw [m1, zN_av, zN_cells]
   simp (disch := first | assumption | omega) only [go_sem, Nat.reduceEqDiff, Nat.reduceAdd, Nat.reduceLeDiff, ↓reduceIte, Bool.true_and, p2, m2]
   exact retC_by (S4.drop _ _ _ _) (.refl _) ⟨rfl, rfl⟩
theorem deeps_app : ∀ xs ys : List AV, Go.A.deeps (xs ++ ys) = Go.A.deeps xs ++ Go.A.deeps ys
 | [], ys => rfl
 | x :: xs, ys => by rw [List.cons_append, deeps_cons, deeps_cons, deeps_app xs ys, List.cons_append]
theorem OwnSl.fzd {σ0 σ st σ' : ASt} {v : AV} {xs : List AV} {s : Nat} (h : OwnSl σ0 σ v xs s) (hd : Drop st σ) (hx : ∀ x ∈ xs, x.cells.length = s) (hn : ∀ b, σ0 b = none → σ' b = none) : Fz st σ' v (.sl .shr xs) := by
 rcases h with ⟨rfl, rfl, rfl⟩ | ⟨b, c, rest, rfl, h2, h3, h4, rfl⟩
 ·exact .sl _ _
 ·have hxl : (xs.flatMap AV.cells).length = xs.length * s := lens_flat hx
  refine .msl 0 _ c s xs (hd.had (ASt.set_same _ _ _)) (hn _ h4) rfl h2 hx ?_
  rw [List.drop_zero, ← hxl, List.take_left]
set_option maxHeartbeats 4000000 in
theorem args_walk {T : List Tok} (hT : TokOk T) (f : Nat) (ih : ∀ f', f' < f + 1 → WalkF T f') (b : Nat) (s : PSt) (r : List Nd × PSt) (h : argsP T (f + 1) s = some r) (hf : Fit T s) (σ : ASt) (hV : LV σ) (hb : σ b = pr T s) :
  ACalls Tryz.prog 110 [.ptr b 0] σ fun v σ' => v = .sl .shr (r.1.map Nd.av) ∧ σ' = σ.set b (pr T r.2) := by
 rw [argsP] at h
 have hwent := wentF hT.ends
 have hac := paccept_ok hT.ends hf hT.len [41] hb
 refine ACalls.retd (K := fun v σ' => Go.A.deep v = .sl .shr (r.1.map Nd.av) ∧ σ' = σ.set b (pr T r.2)) ?_ (fun v σ' h => h)
 refine a110 (by simp) ?_
 by_cases hc : isOp T s [41] = true
 ·rw [if_pos hc] at h
  injection h with h
  subst h
  rw [hc, if_pos rfl] at hac
  simp (disch := first | assumption | omega) only [go_sem, reduceCtorEq, ↓reduceIte]
  refine hac.mono ?_
  rintro v σ1 ⟨rfl, rfl⟩
  simp (disch := first | assumption | omega) only [go_sem, ↓reduceIte]
  exact retC_by (Drop.refl _) (.refl _) ⟨rfl, rfl⟩
 rw [if_neg hc] at h
 have hc' : isOp T s [41] = false := by simpa using hc
 rw [hc', if_neg (by simp)] at hac
 simp (disch := first | assumption | omega) only [go_sem, reduceCtorEq, ↓reduceIte]
 refine hac.mono ?_
 rintro v σ1 ⟨rfl, rfl⟩
 obtain ⟨F, hF⟩ : ∃ F, F = ACode.wp Tryz.prog c110_26 := ⟨_, rfl⟩
 have hpr : ∀ x : PSt, pr T x = some (.obj [.sl .shr (T.map tokAV), .int .i64 x.i, .int .i64 x.deep, .int .i64 x.err, .int .i64 x.bad]) := fun x => rfl
 have hbs := hb
 have fin : ∀ (l : List Nd) (s' : PSt) (XS : List AV) (v : AV) (st : ASt) (a1 : AFr), r = (l, s') → (∃ σ2, Drop st σ2 ∧ OwnSl (σ1.set b (pr T s')) σ2 v XS 12) → (∀ x ∈ XS, x.cells.length = 12) → Go.A.deeps XS = l.map Nd.av → a1 3 = v →
   F (RetQ [.t 2] fun v σ' => Go.A.deep v = .sl .shr (r.1.map Nd.av) ∧ σ' = σ1.set b (pr T r.2)) a1 st := by
  intro l s' XS v st a1 hr ⟨σ2, hdr, hO⟩ hx hd h3
  subst hr
  rw [hF]
  have hz := hO.fzd hdr hx (σ' := σ1.set b (pr T s')) (fun x hx => hx)
  simp (disch := first | assumption | omega) only [go_sem, ↓reduceIte, h3]
  refine retC_by (r := .sl .shr XS) (hdr.trans hO.drop) ?_ ⟨by rw [deep_sl, hd], rfl⟩
  first | exact hz | (rw [resV_one]; exact hz)
 simp (disch := first | assumption | omega) only [go_sem, ↓reduceIte, ←hF]
 refine wp_loop_by (fun (q : Nat × List Nd × PSt) a1 st => (q.1 ≤ f ∧ aloopP T q.1 q.2.1 q.2.2 = some r ∧ Fit T q.2.2 ∧ q.2.1.length ≤ q.2.2.i) ∧ a1 0 = .ptr b 0 ∧ ∃ v XS, a1 3 = v ∧ OwnSl (σ1.set b (pr T q.2.2)) st v XS 12 ∧ (∀ x ∈ XS, x.cells.length = 12) ∧ Go.A.deeps XS = q.2.1.map Nd.av) (fun q => q.1) (f, [], s) (Dr.now ⟨⟨Nat.le_refl _, h, hf, Nat.zero_le _⟩, ?_, .sl .full [], [], ?_, ?_, by simp, rfl⟩) ?_
 ·simp (disch := first | assumption | omega) only [go_sem, reduceCtorEq, ↓reduceIte]
 ·simp (disch := first | assumption | omega) only [go_sem, ↓reduceIte]
 ·dsimp only; rw [set_self0 hb]; exact .inl ⟨rfl, rfl, rfl⟩
 clear h hac hc hc'
 rintro ⟨f', l, s'⟩ a1 st ⟨⟨g1, g2, g3, g4⟩, h0, v, XS, h3, hO, hx, hdl⟩
 dsimp only at g1 g2 g3 g4 hO hdl
 obtain ⟨f'', rfl⟩ : ∃ f'', f' = f'' + 1 := by
  cases f' with
  | zero => rw [aloopP] at g2; cases g2
  | succ f'' => exact ⟨f'', rfl⟩
 rw [aloopP] at g2
 have hbb : st b = pr T s' := hO.at (x := b) (ASt.set_same _ _ _)
 have hVs : LV st := by
  unfold LV at hV ⊢
  refine hO.at ?_
  rw [ASt.set_ne]
  ·exact hV
  ·rintro e; rw [← e, hV] at hbs; unfold pr at hbs; cases hbs
 have hxl : XS.length = l.length := by
  have := congrArg List.length hdl
  rw [List.length_map] at this
  rw [← this, deeps_len]
 have hil := g3.i
 have htl := hT.len
 have hbb' := hbb
 rw [hpr] at hbb'
 by_cases he : s'.err = 0
 ·rw [if_neg (by simp [he])] at g2
  have ha1 := pat_ok g3.i [44] hbb
  have ha2 := pat_ok g3.i [41] hbb
  obtain ⟨B, hB⟩ : ∃ B, B = ACode.wp Tryz.prog c110_19 := ⟨_, rfl⟩
  have behind : ∀ (Q : APost) (s2 : PSt) (v' : AV) (st' : ASt) (XS' : List AV) (a2 : AFr), Fit T s2 → (∃ σ2, Drop st' σ2 ∧ OwnSl (σ1.set b (pr T s2)) σ2 v' XS' 12) → a2 0 = .ptr b 0 → a2 3 = v' →
    (∀ a3 st3, isOp T s2 [44] = true → a3 0 = .ptr b 0 → a3 3 = v' → (∃ σ2, Drop st3 σ2 ∧ OwnSl (σ1.set b (pr T s2.next)) σ2 v' XS' 12) → Q .normal a3 st3) →
    (∀ a3 st3, isOp T s2 [44] = false → a3 3 = v' → (∃ σ2, Drop st3 σ2 ∧ OwnSl (σ1.set b (pr T (mustP T s2 [41]))) σ2 v' XS' 12) → Q (.exit 0) a3 st3) → B Q a2 st' := by
   intro Q s2 v' st' XS' a2 hf2 ⟨σd, hdd, hO2⟩ h02 h32 hgo hend
   rw [hB]
   have hb2 : st' b = pr T s2 := hdd.had (hO2.at (x := b) (ASt.set_same _ _ _))
   have hac := paccept_ok hT.ends hf2 hT.len [44] hb2
   have hmu := pmust_ok hT.ends hf2 hT.len [41] hb2
   simp (disch := first | assumption | omega) only [go_sem, ↓reduceIte, h02]
   refine hac.mono ?_
   rintro w σ2 ⟨rfl, rfl⟩
   by_cases h44 : isOp T s2 [44] = true
   ·rw [h44, if_pos rfl]
    simp (disch := first | assumption | omega) only [go_sem, ↓reduceIte]
    refine hgo _ _ h44 (by simp (disch := first | assumption | omega) only [go_sem, reduceCtorEq, ↓reduceIte, h02]) (by simp (disch := first | assumption | omega) only [go_sem, Nat.reduceEqDiff, ↓reduceIte, h32]) ?_
    have := hO2.put (ASt.set_same σ1 b (pr T s2) : _ = some _) (pr T s2.next)
    rw [ASt.set_set] at this
    exact ⟨_, hdd.set_cong, this⟩
   ·have h44' : isOp T s2 [44] = false := by simpa using h44
    rw [h44', if_neg (by simp)]
    simp (disch := first | assumption | omega) only [go_sem, reduceCtorEq, ↓reduceIte, h02]
    refine hmu.mono ?_
    rintro w σ2 ⟨rfl, rfl⟩
    simp (disch := first | assumption | omega) only [go_sem]
    refine hend _ _ h44' (by simp (disch := first | assumption | omega) only [go_sem, Nat.reduceEqDiff, ↓reduceIte, h32]) ?_
    have := hO2.put (ASt.set_same σ1 b (pr T s2) : _ = some _) (pr T (mustP T s2 [41]))
    rw [ASt.set_set] at this
    exact ⟨_, hdd.set_cong, this⟩
  have more : ∀ (x : Nd) (s2 : PSt) (X : AV), X.cells.length = 12 → Go.A.deep X = x.av → (if isOp T s2 [44] = true then aloopP T f'' (l ++ [x]) s2.next else some (l ++ [x], mustP T s2 [41])) = some r → Fit T s2 → s'.i ≤ s2.i → ∀ (v' : AV) (st' : ASt) (a2 : AFr), (∃ σ2, Drop st' σ2 ∧ OwnSl (σ1.set b (pr T s2)) σ2 v' (XS ++ [X]) 12) → a2 0 = .ptr b 0 → a2 3 = v' →
    B (BlockQ 1 (LoopQ (Again (fun (q : Nat × List Nd × PSt) a1 st => (q.1 ≤ f ∧ aloopP T q.1 q.2.1 q.2.2 = some r ∧ Fit T q.2.2 ∧ q.2.1.length ≤ q.2.2.i) ∧ a1 0 = .ptr b 0 ∧ ∃ v XS, a1 3 = v ∧ OwnSl (σ1.set b (pr T q.2.2)) st v XS 12 ∧ (∀ x ∈ XS, x.cells.length = 12) ∧ Go.A.deeps XS = q.2.1.map Nd.av) (fun q => q.1) (f'' + 1, l, s'))
     (BlockQ 0 (SeqQ F (RetQ [.t 2] fun v σ' => Go.A.deep v = .sl .shr (r.1.map Nd.av) ∧ σ' = σ1.set b (pr T r.2)))))) a2 st' := by
   intro x s2 X hX hXd hr hf2 hle v' st' a2 hO2 h02 h32
   have hxs : ∀ y ∈ XS ++ [X], y.cells.length = 12 := by
    intro y hy
    rcases List.mem_append.1 hy with hy | hy
    ·exact hx y hy
    ·simp at hy; subst hy; exact hX
   have hds : Go.A.deeps (XS ++ [X]) = (l ++ [x]).map Nd.av := by
    rw [List.map_append, ← hdl, deeps_app, deeps_cons, hXd]
    rfl
   refine behind _ s2 v' st' (XS ++ [X]) a2 hf2 hO2 h02 h32 (fun a3 st3 h44 h03 h33 hO3 => ?_) (fun a3 st3 h44 h33 hO3 => ?_)
   ·rw [if_pos h44] at hr
    have hfn := (hf2.next hT.ends (isOp_kind h44)).1
    obtain ⟨σ3, hd3, hO3⟩ := hO3
    simp (disch := first | assumption | omega) only [go_sem]
    exact ⟨(f'', l ++ [x], s2.next), by dsimp only; omega, Dr.drop hd3 ⟨⟨by dsimp only; omega, hr, hfn, by dsimp only; rw [List.length_append]; show l.length + 1 ≤ s2.i + 1; omega⟩, h03, v', XS ++ [X], h33, hO3, hxs, hds⟩⟩
   ·rw [if_neg (by simp [h44])] at hr
    injection hr with hr
    simp (disch := first | assumption | omega) only [go_sem, reduceCtorEq, ↓reduceIte]
    exact fin _ _ (XS ++ [X]) v' st3 a3 hr.symm hO3 hxs hds h33
  by_cases hmi : isOp T s' [44] = true ∨ isOp T s' [41] = true
  ·rw [if_pos hmi] at g2
   dsimp only at g2
   have hmore := more missN s' (.agg [.int .i64 23, .int .i64 0, .str [], .int .i64 0, .int .i64 0, .bool false, .bool false, .int .i64 0, .int .i64 0, .bool false, .bool false, .sl .full []]) rfl rfl g2 g3 (Nat.le_refl _)
   by_cases h44 : isOp T s' [44] = true
   ·rw [h44] at ha1
    simp (disch := first | assumption | omega) only [go_sem, reduceCtorEq, ↓reduceIte, h0, hbb', he, ←hB]
    refine ha1.mono ?_
    rintro w σ2 ⟨rfl, rfl⟩
    simp (disch := first | assumption | omega) only [go_sem, Nat.reduceEqDiff, Nat.reduceAdd, Nat.reduceLeDiff, ↓reduceIte, Bool.true_and, h3]
    refine OwnSl.app hO hx rfl rfl (by simp only [List.length_cons, List.length_nil]; omega) (by simp only [List.length_cons, List.length_nil]; omega) (by simp) fun v' σ' ⟨σ2, hd, hO2⟩ => ?_
    simp (disch := first | assumption | omega) only [go_sem, ↓reduceIte]
    refine hmore v' _ _ ⟨σ2, hd, hO2⟩ ?_ ?_
    ·simp (disch := first | assumption | omega) only [go_sem, reduceCtorEq, ↓reduceIte, h0]
    ·simp (disch := first | assumption | omega) only [go_sem, ↓reduceIte]
   ·have h44' : isOp T s' [44] = false := by simpa using h44
    have h41 : isOp T s' [41] = true := hmi.resolve_left h44
    rw [h44'] at ha1
    rw [h41] at ha2
    simp (disch := first | assumption | omega) only [go_sem, reduceCtorEq, ↓reduceIte, h0, hbb', he, ←hB]
    refine ha1.mono ?_
    rintro w σ2 ⟨rfl, rfl⟩
    simp (disch := first | assumption | omega) only [go_sem, reduceCtorEq, Nat.reduceEqDiff, ↓reduceIte, h0]
    refine ha2.mono ?_
    rintro w σ2 ⟨rfl, rfl⟩
    simp (disch := first | assumption | omega) only [go_sem, Nat.reduceEqDiff, Nat.reduceAdd, Nat.reduceLeDiff, ↓reduceIte, Bool.true_and, h3]
    refine OwnSl.app hO hx rfl rfl (by simp only [List.length_cons, List.length_nil]; omega) (by simp only [List.length_cons, List.length_nil]; omega) (by simp) fun v' σ' ⟨σ2, hd, hO2⟩ => ?_
    simp (disch := first | assumption | omega) only [go_sem, ↓reduceIte]
    refine hmore v' _ _ ⟨σ2, hd, hO2⟩ ?_ ?_
    ·simp (disch := first | assumption | omega) only [go_sem, reduceCtorEq, ↓reduceIte, h0]
    ·simp (disch := first | assumption | omega) only [go_sem, ↓reduceIte]
  ·rw [if_neg hmi] at g2
   cases h1 : betwP T f'' 0 s' with
   | none => rw [h1] at g2; cases g2
   | some r1 =>
     rw [h1] at g2
     dsimp only at g2
     have h44' : isOp T s' [44] = false := by simpa using fun h => hmi (.inl h)
     have h41' : isOp T s' [41] = false := by simpa using fun h => hmi (.inr h)
     rw [h44'] at ha1
     rw [h41'] at ha2
     have hw := (hwent f'').betw _ _ _ h1 g3
     have hcb := (ih f'' (by omega)).betw b 0 s' r1 (by omega) h1 g3 _ hVs hbb
     rw [show ((0 : Nat) : Int) = 0 from rfl] at hcb
     obtain ⟨x1, s2⟩ := r1
     dsimp only at g2 hw hcb
     have hmore := more x1 s2 x1.av (Nd.av_len x1) (Nd.deep x1) g2 hw.fit hw.le
     have hO1 := hO.put (ASt.set_same σ1 b (pr T s') : _ = some _) (pr T s2)
     rw [ASt.set_set] at hO1
     obtain ⟨o, m, t, x, y, ks⟩ := x1
     rw [Nd.av_cs] at hmore hcb
     generalize ks.map Nd.av = KL at *
     simp (disch := first | assumption | omega) only [go_sem, reduceCtorEq, ↓reduceIte, h0, hbb', he, ←hB]
     refine ha1.mono ?_
     rintro w σ2 ⟨rfl, rfl⟩
     simp (disch := first | assumption | omega) only [go_sem, reduceCtorEq, Nat.reduceEqDiff, ↓reduceIte, h0]
     refine ha2.mono ?_
     rintro w σ2 ⟨rfl, rfl⟩
     simp (disch := first | assumption | omega) only [go_sem, reduceCtorEq, Nat.reduceEqDiff, ↓reduceIte, h0, h3]
     refine hcb.mono ?_
     rintro w σ2 ⟨rfl, rfl⟩
     simp (disch := first | assumption | omega) only [go_sem, Nat.reduceEqDiff, ↓reduceIte, Bool.true_and]
     refine OwnSl.app hO1 hx rfl rfl (by simp only [List.length_cons, List.length_nil]; omega) (by simp only [List.length_cons, List.length_nil]; omega) (by simp) fun v' σ' ⟨σ2, hd, hO2⟩ => ?_
     simp (disch := first | assumption | omega) only [go_sem, ↓reduceIte]
     refine hmore v' _ _ ⟨σ2, hd, hO2⟩ ?_ ?_
     ·simp (disch := first | assumption | omega) only [go_sem, reduceCtorEq, ↓reduceIte, h0]
     ·simp (disch := first | assumption | omega) only [go_sem, ↓reduceIte]
 ·rw [if_pos he] at g2
  injection g2 with g2
  simp (disch := first | assumption | omega) only [go_sem, ↓reduceIte, h0, hbb', he]
  exact fin l s' XS v st _ g2.symm ⟨st, Drop.refl _, hO⟩ hx hdl (by simp (disch := first | assumption | omega) only [go_sem, Nat.reduceEqDiff, ↓reduceIte, h3])
end Go.A
namespace Go.A
open Go.Proofs
/-! 91: (*tabular/parse.parser).name -/
def c91_0 : ACode := .ops [
 ⟨some 3, none, .e (.box (.t 1)), []⟩,
 ⟨some 4, none, .e (.alloc [(.int .i64 0), (.int .i64 0), (.str []), (.int .i64 0), (.int .i64 0), (.bool false), (.bool false), (.int .i64 0), (.int .i64 0), (.bool false), (.bool false), (.sl .full [])]), []⟩]
def c91_1 : ACode := .ops [
 ⟨some 7, none, .q (.mv (.t 0)), []⟩,
 ⟨some 8, none, .q (.nc (.t 7)), []⟩,
 ⟨some 9, none, .q (.fa 0 (.t 8)), []⟩,
 ⟨some 10, none, .q (.ld none (.t 9)), []⟩,
 ⟨some 11, none, .q (.mv (.t 0)), []⟩,
 ⟨some 12, none, .q (.nc (.t 11)), []⟩,
 ⟨some 13, none, .q (.fa 1 (.t 12)), []⟩,
 ⟨some 14, none, .q (.ld none (.t 13)), []⟩,
 ⟨some 15, none, .q (.bin .add (.t 14) (.v (.int .i64 1))), []⟩,
 ⟨some 16, none, .q (.ia 4 (.t 10) (.t 15)), []⟩,
 ⟨some 17, none, .q (.ld (some 4) (.t 16)), []⟩,
 ⟨some 5, none, .e (.alloc [(.int .i64 0), (.str []), (.int .i64 0), (.int .i64 0)]), [⟨none, .ld none (.t 9), 10⟩, ⟨none, .ld none (.t 13), 14⟩, ⟨none, .ld (some 4) (.t 16), 17⟩]⟩,
 ⟨none, none, .e (.store 4 (.t 5) (.t 17)), []⟩]
def c91_2 : ACode := .ops [
 ⟨some 18, none, .q (.fa 0 (.t 5)), []⟩,
 ⟨some 19, none, .q (.ld none (.t 18)), []⟩,
 ⟨some 20, none, .q (.bin .eql (.t 19) (.v (.int .i64 6))), []⟩,
 ⟨some 21, none, .q (.mv (.t 20)), []⟩,
 ⟨some 22, some (21, true), .q (.fa 1 (.t 5)), []⟩,
 ⟨some 23, some (21, true), .q (.ld none (.t 22)), []⟩,
 ⟨some 24, some (21, true), .q (.bin .eql (.t 23) (.v (.str [40]))), []⟩,
 ⟨some 25, none, .q (.pick (.t 21) (.t 24) (.v (.bool false))), []⟩]
def c91_3 : ACode := .ops [
 ⟨some 26, none, .q (.mv (.t 0)), []⟩,
 ⟨some 27, none, .e (.call 48 [(.t 26)]), []⟩]
def c91_4 : ACode := .ops [
 ⟨some 29, none, .q (.mv (.t 0)), []⟩,
 ⟨some 30, none, .q (.nc (.t 29)), []⟩,
 ⟨some 31, none, .q (.fa 3 (.t 30)), []⟩,
 ⟨some 32, none, .q (.ld none (.t 31)), []⟩,
 ⟨some 33, none, .q (.bin .neq (.t 32) (.v (.int .i64 0))), []⟩]
def c91_5 : ACode := .ops [
 ⟨some 34, none, .q (.build [(.int .i64 0), (.int .i64 0), (.str []), (.int .i64 0), (.int .i64 0), (.bool false), (.bool false), (.int .i64 0), (.int .i64 0), (.bool false), (.bool false), (.sl .full [])] []), []⟩,
 ⟨none, none, .e (.store 12 (.t 4) (.t 34)), []⟩]
def c91_6 : ACode := .seq c91_5 .ret
def c91_7 : ACode := .cond (.t 33) c91_6 .skip
def c91_8 : ACode := .seq c91_4 c91_7
def c91_9 : ACode := .ops [
 ⟨some 35, none, .q (.mv (.t 0)), []⟩,
 ⟨some 36, none, .q (.nc (.t 35)), []⟩,
 ⟨some 37, none, .q (.fa 1 (.t 36)), []⟩,
 ⟨some 38, none, .q (.ld none (.t 37)), []⟩,
 ⟨some 39, none, .q (.bin .add (.t 38) (.v (.int .i64 2))), []⟩,
 ⟨some 40, none, .q (.nc (.t 35)), []⟩,
 ⟨some 41, none, .q (.fa 1 (.t 40)), []⟩,
 ⟨none, none, .e (.store 1 (.t 41) (.t 39)), []⟩]
def c91_10 : ACode := .ops [
 ⟨some 42, none, .q (.fa 1 (.t 3)), []⟩,
 ⟨some 43, none, .q (.ld none (.t 42)), []⟩,
 ⟨some 44, none, .q (.mv (.t 0)), []⟩,
 ⟨some 45, none, .e (.call 110 [(.t 44)]), [⟨none, .ld none (.t 42), 43⟩]⟩,
 ⟨some 46, none, .q (.build [(.int .i64 0), (.int .i64 0), (.str []), (.int .i64 0), (.int .i64 0), (.bool false), (.bool false), (.int .i64 0), (.int .i64 0), (.bool false), (.bool false), (.sl .full [])] [(0, 1, (.v (.int .i64 22))), (2, 1, (.t 43)), (11, 1, (.t 45))]), []⟩,
 ⟨none, none, .e (.store 12 (.t 4) (.t 46)), []⟩]
def c91_11 : ACode := .seq c91_10 .ret
def c91_12 : ACode := .seq c91_9 c91_11
def c91_13 : ACode := .seq c91_8 c91_12
def c91_14 : ACode := .dfr 49 (.t 0) 28 c91_13
def c91_15 : ACode := .seq c91_3 c91_14
def c91_16 : ACode := .cond (.t 25) c91_15 .skip
def c91_17 : ACode := .seq c91_2 c91_16
def c91_18 : ACode := .ops [
 ⟨some 47, none, .q (.build [(.int .i64 0), (.int .i64 0), (.str []), (.int .i64 0), (.int .i64 0), (.bool false), (.bool false), (.int .i64 0), (.int .i64 0), (.bool false), (.bool false), (.sl .full [])] [(0, 1, (.v (.int .i64 3)))]), []⟩,
 ⟨some 6, none, .e (.alloc [(.int .i64 0), (.int .i64 0), (.str []), (.int .i64 0), (.int .i64 0), (.bool false), (.bool false), (.int .i64 0), (.int .i64 0), (.bool false), (.bool false), (.sl .full [])]), []⟩,
 ⟨none, none, .e (.store 12 (.t 6) (.t 47)), []⟩]
def c91_19 : ACode := .ops [
 ⟨some 48, none, .q (.fa 1 (.t 3)), []⟩,
 ⟨some 49, none, .q (.ld none (.t 48)), []⟩]
def c91_20 : ACode := .ops [
 ⟨some 53, none, .q (.bin .eql (.t 49) (.v (.str [84, 82, 85, 69]))), []⟩,
 ⟨some 52, none, .q (.mv (.t 53)), []⟩]
def c91_21 : ACode := .ops [
 ⟨some 54, none, .q (.fa 1 (.t 6)), []⟩,
 ⟨none, none, .e (.store 1 (.t 54) (.v (.int .i64 1))), []⟩]
def c91_22 : ACode := .ops [
 ⟨some 56, none, .q (.bin .eql (.t 49) (.v (.str [70, 65, 76, 83, 69]))), []⟩,
 ⟨some 55, none, .q (.mv (.t 56)), []⟩]
def c91_23 : ACode := .ops [
 ⟨some 50, none, .q (.mv (.t 0)), []⟩,
 ⟨some 51, none, .e (.call 14 [(.t 50), (.v (.int .i64 10))]), []⟩,
 ⟨none, none, .e (.store 12 (.t 4) (.t 51)), []⟩]
def c91_24 : ACode := .seq c91_23 .ret
def c91_25 : ACode := .cond (.t 55) .skip c91_24
def c91_26 : ACode := .seq c91_22 c91_25
def c91_27 : ACode := .cond (.t 52) c91_21 c91_26
def c91_28 : ACode := .seq c91_20 c91_27
def c91_29 : ACode := .block 0 c91_28
def c91_30 : ACode := .seq c91_19 c91_29
def c91_31 : ACode := .ops [
 ⟨some 57, none, .q (.mv (.t 0)), []⟩,
 ⟨some 58, none, .q (.nc (.t 57)), []⟩,
 ⟨some 59, none, .q (.fa 1 (.t 58)), []⟩,
 ⟨some 60, none, .q (.ld none (.t 59)), []⟩,
 ⟨some 61, none, .q (.bin .add (.t 60) (.v (.int .i64 1))), []⟩,
 ⟨some 62, none, .q (.nc (.t 57)), []⟩,
 ⟨some 63, none, .q (.fa 1 (.t 62)), []⟩,
 ⟨none, none, .e (.store 1 (.t 63) (.t 61)), []⟩]
def c91_32 : ACode := .ops [
 ⟨some 64, none, .q (.ld (some 12) (.t 6)), []⟩,
 ⟨none, none, .e (.store 12 (.t 4) (.t 64)), []⟩]
def c91_33 : ACode := .seq c91_32 .ret
def c91_34 : ACode := .seq c91_31 c91_33
def c91_35 : ACode := .seq c91_30 c91_34
def c91_36 : ACode := .seq c91_18 c91_35
def c91_37 : ACode := .seq c91_17 c91_36
def c91_38 : ACode := .seq c91_1 c91_37
def c91_39 : ACode := .seq c91_0 c91_38
@[go_sem] def c91_0_wp := wp_of c91_0.eq_1
@[go_sem] def c91_1_wp := wp_of c91_1.eq_1
@[go_sem] def c91_2_wp := wp_of c91_2.eq_1
@[go_sem] def c91_3_wp := wp_of c91_3.eq_1
@[go_sem] def c91_4_wp := wp_of c91_4.eq_1
@[go_sem] def c91_5_wp := wp_of c91_5.eq_1
@[go_sem] def c91_6_wp := wp_of c91_6.eq_1
@[go_sem] def c91_7_wp := wp_of c91_7.eq_1
@[go_sem] def c91_8_wp := wp_of c91_8.eq_1
@[go_sem] def c91_9_wp := wp_of c91_9.eq_1
@[go_sem] def c91_10_wp := wp_of c91_10.eq_1
@[go_sem] def c91_11_wp := wp_of c91_11.eq_1
@[go_sem] def c91_12_wp := wp_of c91_12.eq_1
@[go_sem] def c91_13_wp := wp_of c91_13.eq_1
@[go_sem] def c91_14_wp := wp_of c91_14.eq_1
@[go_sem] def c91_15_wp := wp_of c91_15.eq_1
@[go_sem] def c91_16_wp := wp_of c91_16.eq_1
@[go_sem] def c91_17_wp := wp_of c91_17.eq_1
@[go_sem] def c91_18_wp := wp_of c91_18.eq_1
@[go_sem] def c91_19_wp := wp_of c91_19.eq_1
@[go_sem] def c91_20_wp := wp_of c91_20.eq_1
@[go_sem] def c91_21_wp := wp_of c91_21.eq_1
@[go_sem] def c91_22_wp := wp_of c91_22.eq_1
@[go_sem] def c91_23_wp := wp_of c91_23.eq_1
@[go_sem] def c91_24_wp := wp_of c91_24.eq_1
@[go_sem] def c91_25_wp := wp_of c91_25.eq_1
@[go_sem] def c91_26_wp := wp_of c91_26.eq_1
@[go_sem] def c91_27_wp := wp_of c91_27.eq_1
@[go_sem] def c91_28_wp := wp_of c91_28.eq_1
@[go_sem] def c91_29_wp := wp_of c91_29.eq_1
@[go_sem] def c91_30_wp := wp_of c91_30.eq_1
@[go_sem] def c91_31_wp := wp_of c91_31.eq_1
@[go_sem] def c91_32_wp := wp_of c91_32.eq_1
@[go_sem] def c91_33_wp := wp_of c91_33.eq_1
@[go_sem] def c91_34_wp := wp_of c91_34.eq_1
@[go_sem] def c91_35_wp := wp_of c91_35.eq_1
@[go_sem] def c91_36_wp := wp_of c91_36.eq_1
@[go_sem] def c91_37_wp := wp_of c91_37.eq_1
@[go_sem] def c91_38_wp := wp_of c91_38.eq_1
@[go_sem] def c91_39_wp := wp_of c91_39.eq_1
def c91 : AFn := ⟨65, [.c 4 (some 12)], c91_39⟩
theorem c91_ok : compF Tryz.prog Tryz.f91 = some c91 := by kernel_rfl
theorem a91 {args : List AV} {σ : ASt} {R : AV → ASt → Prop} (hl : args.length ≤ 65) (h : c91_39.wp Tryz.prog (RetQ [.c 4 (some 12)] R) (init args) σ) : ACalls Tryz.prog 91 args σ R := acalls_of Tryz.func91 c91_ok hl h
end Go.A
namespace Go.A
open Go.Proofs Go.Lib
set_option maxHeartbeats 4000000 in
theorem name_walk {T : List Tok} (hT : TokOk T) (f : Nat) (ih : ∀ f', f' < f + 1 → WalkF T f') (b : Nat) (s : PSt) (r : Nd × PSt) (h : nameP T (f + 1) s = some r) (hf : Fit T s) (hk3 : (curT T s).kind = 3) (σ : ASt) (hV : LV σ) (hb : σ b = pr T s) :
  ACalls Tryz.prog 91 [.ptr b 0, tokAV (curT T s)] σ fun v σ' => v = r.1.av ∧ σ' = σ.set b (pr T r.2) := by
 rw [nameP] at h
 have hwent := wentF hT.ends
 have he0 : s.err = 0 := cur_err (T := T) (by omega)
 have hn := (hf.next hT.ends (by omega)).1
 have hni : s.i + 1 < T.length := hn.i
 have hlen := hT.len
 have hil := hf.i
 have hget : (T.map tokAV)[s.i + 1]? = some (.agg [.int .i64 (T.getD (s.i + 1) endT).kind, .str (T.getD (s.i + 1) endT).text, .int .i64 (T.getD (s.i + 1) endT).at', .int .i64 (T.getD (s.i + 1) endT).col]) := tok_get hni
 have hTL : (T.map tokAV).length = T.length := by simp
 have hge2 := hT.ends.more (s.i + 1) hni
 have hpr : ∀ x : PSt, pr T x = some (.obj [.sl .shr (T.map tokAV), .int .i64 x.i, .int .i64 x.deep, .int .i64 x.err, .int .i64 x.bad]) := fun x => rfl
 have hcur := hk3
 generalize hct : curT T s = tk at *
 generalize hN : T.getD (s.i + 1) endT = tn at *
 have htv : tokAV tk = .agg [.int .i64 tk.kind, .str tk.text, .int .i64 tk.at', .int .i64 tk.col] := rfl
 rw [htv]
 obtain ⟨TC, hTC⟩ : ∃ TC, ([.int .i64 tk.kind, .str tk.text, .int .i64 tk.at', .int .i64 tk.col] : List AV) = TC := ⟨_, rfl⟩
 have hbn : σ b ≠ none := (pr_fix hb).2
 refine a91 (by simp) ?_
 simp (disch := first | assumption | omega) only [go_sem]
 refine boxC_by rfl fun c hc => ?_
 have hbc : b ≠ c := by rintro rfl; exact hbn hc
 have hbσ : (σ.set c (some (.obj [.int .i64 tk.kind, .str tk.text, .int .i64 tk.at', .int .i64 tk.col]))) b = pr T s := by rw [ASt.set_ne hbc]; exact hb
 have hVσ : LV (σ.set c (some (.obj [.int .i64 tk.kind, .str tk.text, .int .i64 tk.at', .int .i64 tk.col]))) := by
  unfold LV at hV ⊢
  rw [ASt.set_ne]
  ·exact hV
  ·rintro e; rw [← e, hV] at hc; cases hc
 have hcσ : (σ.set c (some (.obj [.int .i64 tk.kind, .str tk.text, .int .i64 tk.at', .int .i64 tk.col]))) c = some (.obj [.int .i64 tk.kind, .str tk.text, .int .i64 tk.at', .int .i64 tk.col]) := ASt.set_same _ _ _
 have hDσ : ∀ X : Option Role, Drop ((σ.set c (some (.obj [.int .i64 tk.kind, .str tk.text, .int .i64 tk.at', .int .i64 tk.col]))).set b X) (σ.set b X) := fun X => by
  rw [set_swap (Ne.symm hbc)]
  exact Drop.set (by rw [ASt.set_ne (Ne.symm hbc)]; exact hc)
 simp (disch := first | assumption | omega) only [go_sem]
 refine allocC_by fun d hd => ?_
 generalize hρ : σ.set c (some (.obj [.int .i64 tk.kind, .str tk.text, .int .i64 tk.at', .int .i64 tk.col])) = ρ at *
 obtain ⟨hbd, T2, S2⟩ := St2.of hd (pr_fix hbσ).1 (pr_fix hbσ).2
 have hcd : c ≠ d := by rintro rfl; rw [hcσ] at hd; cases hd
 rw [S2.one, hbσ]
 have q1 := fun Y => S2.a1 (pr T s) Y
 rw [hpr s] at q1
 have e1 : ((s.i : Int) + 1).toNat = s.i + 1 := by omega
 have e2 : ((s.i : Int) + 1) < T.length := by omega
 rw [hpr s]
 simp (disch := first | assumption | omega) only [go_sem, reduceCtorEq, Nat.reduceEqDiff, Nat.reduceAdd, Nat.reduceLeDiff, ↓reduceIte, q1, hget, e1]
 refine allocC_by fun g hg => ?_
 obtain ⟨hbg, hdg, T3, S3⟩ := St3.of S2 (X0 := .obj _) hg
 have ab := S3.ab
 have k3 := S3.s3
 have k2 := S3.s2
 have k1 := S3.s1
 have w3 := S3.a3
 have w2 := S3.a2
 have w1 := S3.a1
 have hcg : c ≠ g := by
  rintro rfl
  rw [S2.other _ _ _ (Ne.symm hbc) hcd, hcσ] at hg
  cases hg
 have wc : ∀ X Y Z, T3 X Y Z c = some (.obj [.int .i64 tk.kind, .str tk.text, .int .i64 tk.at', .int .i64 tk.col]) := fun X Y Z => by rw [S3.other _ _ _ _ (Ne.symm hbc) hcd hcg]; exact hcσ
 have V3 : ∀ X Y Z, LV (T3 X Y Z) := fun X Y Z => S3.fix _ _ _ _ _ hVσ
 have hDr : ∀ X Y Z, Drop (T3 X Y Z) (σ.set b X) := fun X Y Z => (S3.drop _ _ _).trans (hDσ _)
 have w1' := fun Y Z => w1 (pr T s) Y Z
 rw [hpr s] at w1'
 simp (disch := first | assumption | omega) only [go_sem, Nat.reduceEqDiff, Nat.reduceAdd, Nat.reduceLeDiff, ↓reduceIte, Bool.true_and, ab, k3, w3, w1']
 rw [← hpr s]
 by_cases hop : tn.kind = 6 ∧ tn.text = [40]
 ·rw [if_pos hop] at h
  obtain ⟨hp1, hp2⟩ := hop
  obtain ⟨g1, g2, g3⟩ := enter_err hT.ends hf he0
  have hen := fun Y Z => penter_ok (T := T) (s := s) hf.i ⟨hf.d0, by have := hf.d1; omega⟩ (w1 (pr T s) Y Z)
  have g4 := fun he => enter2 hT.ends hf (by rw [hct, hcur]; decide) he
  simp (disch := first | assumption | omega) only [go_sem, reduceCtorEq, Nat.reduceEqDiff, ↓reduceIte, hp1, hp2, w3]
  refine (hen _ _).mono ?_
  rintro v σ1 ⟨rfl, rfl⟩
  rw [k1]
  generalize hE : enterP T s = sE at *
  by_cases he : sE.err = 0
  ·rw [if_neg (by simp [he])] at h
   cases h1 : argsP T f sE.next.next with
   | none => rw [h1] at h; cases h
   | some r1 =>
     rw [h1] at h
     injection h with h
     subst h
     obtain ⟨f1, f2, f3, f4⟩ := g4 he
     have hl2 := hge2 (by omega)
     have f5 : Fit T sE.next.next := ⟨by show sE.i + 1 + 1 < _; omega, f1.d0, f1.d1, f1.d2⟩
     have hw := (hwent f).args _ _ h1 f5
     have har := fun Y Z => (ih f (by omega)).args b _ r1 h1 f5 _ (V3 (pr T sE.next.next) Y Z) (w1 _ _ _)
     have hlv := fun Y Z => pleave_ok (T := T) (s := r1.2) ⟨hw.fit.d0, by have := hw.fit.d1; omega⟩ (w1 (pr T r1.2) Y Z)
     have hpn : some (Role.obj [.sl .shr (T.map tokAV), .int .i64 ((sE.i : Int) + 2), .int .i64 sE.deep, .int .i64 0, .int .i64 sE.bad]) = pr T sE.next.next := by
      rw [hpr]
      show _ = some (Role.obj [.sl .shr (T.map tokAV), .int .i64 (((sE.i + 1 + 1 : Nat)) : Int), .int .i64 sE.deep, .int .i64 sE.err, .int .i64 sE.bad])
      rw [he, show (((sE.i + 1 + 1 : Nat)) : Int) = (sE.i : Int) + 2 by omega]
     have v1 := fun Y Z => w1 (pr T sE) Y Z
     rw [hpr sE, he] at v1
     have hEi : (sE.i : Int) ≤ 1000000 := by omega
     obtain ⟨L, s1⟩ := r1
     dsimp only at har hlv ⊢
     rw [hpr sE, he]
     simp (disch := first | assumption | omega) only [go_sem, reduceCtorEq, Nat.reduceEqDiff, Nat.reduceAdd, Nat.reduceLeDiff, ↓reduceIte, Bool.true_and, v1, k1]
     rw [hpn]
     simp (disch := first | assumption | omega) only [go_sem, reduceCtorEq, ↓reduceIte, wc]
     refine (har _ _).mono ?_
     rintro v σ1 ⟨rfl, rfl⟩
     rw [k1]
     simp (disch := first | assumption | omega) only [go_sem, Nat.reduceEqDiff, Nat.reduceAdd, Nat.reduceLeDiff, ↓reduceIte, Bool.true_and, wc, w2, k2]
     refine (hlv _ _).mono ?_
     rintro v σ1 ⟨rfl, rfl⟩
     rw [k1]
     simp (disch := first | assumption | omega) only [go_sem, Nat.reduceAdd, Nat.reduceLeDiff, ↓reduceIte, w2]
     rw [Nd.av_cs]
     exact retC_by (hDr _ _ _) (fzN 22 0 tk.text .zero .zero _ _) ⟨rfl, rfl⟩
  ·rw [if_pos he] at h
   injection h with h
   subst h
   have hlv := fun Y Z => pleave_ok (T := T) (s := sE) ⟨g1.d0, by have := g1.d1; omega⟩ (w1 (pr T sE) Y Z)
   have v1 : ∀ Y Z, T3 (pr T sE) Y Z b = some (.obj [.sl .shr (T.map tokAV), .int .i64 sE.i, .int .i64 sE.deep, .int .i64 sE.err, .int .i64 sE.bad]) := fun Y Z => w1 _ _ _
   simp (disch := first | assumption | omega) only [go_sem, reduceCtorEq, Nat.reduceEqDiff, Nat.reduceAdd, Nat.reduceLeDiff, ↓reduceIte, Bool.true_and, v1, he, w2, k2]
   refine (hlv _ _).mono ?_
   rintro v σ1 ⟨rfl, rfl⟩
   rw [k1]
   simp (disch := first | assumption | omega) only [go_sem, Nat.reduceAdd, Nat.reduceLeDiff, ↓reduceIte, w2]
   rw [zN_av]
   exact retC_by (hDr _ _ _) (fzN 0 0 [] .zero .zero _ _) ⟨rfl, rfl⟩
 ·rw [if_neg hop] at h
  have hpn : some (Role.obj [.sl .shr (T.map tokAV), .int .i64 ((s.i : Int) + 1), .int .i64 s.deep, .int .i64 s.err, .int .i64 s.bad]) = pr T s.next := rfl
  have hfl := fun τ hh => pfail_ok (T := T) (s := s) hf.i 10 (σ := τ) (b := b) hh
  have rest : ∀ a1 : AFr, (a1 0 = .ptr b 0 ∧ a1 3 = .ptr c 0 ∧ a1 4 = .ptr d 0) → ACode.wp Tryz.prog c91_36 (RetQ [.c 4 (some 12)] fun v σ' => v = r.1.av ∧ σ' = σ.set b (pr T r.2)) a1 (T3 (pr T s) (some (.obj zero12)) (some (.obj [.int .i64 tn.kind, .str tn.text, .int .i64 tn.at', .int .i64 tn.col]))) := by
   intro a1 hf1
   unfold zero12
   simp (disch := first | assumption | omega) only [go_sem, Nat.reduceAdd, Nat.reduceLeDiff, ↓reduceIte]
   refine allocC_by fun e he => ?_
   obtain ⟨T4, S4⟩ := St4.of S3 (X0 := .obj _) he
   have ab4 := S4.ab
   have m1 := S4.s1
   have m2 := S4.s2
   have m4 := S4.s4
   have p1 := S4.a1
   have p2 := S4.a2
   have p4 := S4.a4
   have hce : c ≠ e := by rintro rfl; rw [wc] at he; cases he
   have pc : ∀ X Y Z W, T4 X Y Z W c = some (.obj [.int .i64 tk.kind, .str tk.text, .int .i64 tk.at', .int .i64 tk.col]) := fun X Y Z W => by rw [← ab4, ASt.set_ne hce]; exact wc _ _ _
   have hDr4 : ∀ X Y Z W, Drop (T4 X Y Z W) (σ.set b X) := fun X Y Z W => (S4.drop _ _ _ _).trans (hDσ _)
   have v1 := fun Y Z W => p1 (pr T s) Y Z W
   rw [hpr s] at v1
   by_cases t1 : tk.text = [84, 82, 85, 69]
   ·rw [if_pos t1] at h
    injection h with h
    subst h
    rw [t1] at pc
    rw [hpr s]
    simp (disch := first | assumption | omega) only [go_sem, reduceCtorEq, Nat.reduceEqDiff, Nat.reduceAdd, Nat.reduceLeDiff, ↓reduceIte, Bool.true_and, hf1, ab4, m4, p4, pc, v1, m1]
    rw [hpn]
    simp (disch := first | assumption | omega) only [go_sem, Nat.reduceEqDiff, Nat.reduceAdd, Nat.reduceLeDiff, ↓reduceIte, Bool.true_and, hf1, p2, m2]
    rw [Nd.av_cs]
    exact retC_by (hDr4 _ _ _ _) (fzN 3 1 [] .zero .zero _ _) ⟨rfl, rfl⟩
   rw [if_neg t1] at h
   by_cases t2 : tk.text = [70, 65, 76, 83, 69]
   ·rw [if_pos t2] at h
    injection h with h
    subst h
    have t3 : ¬ ([70, 65, 76, 83, 69] : List UInt8) = [84, 82, 85, 69] := by decide
    rw [hpr s]
    simp (disch := first | assumption | omega) only [go_sem, reduceCtorEq, Nat.reduceEqDiff, Nat.reduceAdd, Nat.reduceLeDiff, ↓reduceIte, Bool.true_and, hf1, ab4, m4, p4, pc, t2, t3, v1, m1]
    rw [hpn]
    simp (disch := first | assumption | omega) only [go_sem, Nat.reduceEqDiff, Nat.reduceAdd, Nat.reduceLeDiff, ↓reduceIte, Bool.true_and, hf1, p2, m2]
    rw [Nd.av_cs]
    exact retC_by (hDr4 _ _ _ _) (fzN 3 0 [] .zero .zero _ _) ⟨rfl, rfl⟩
   rw [if_neg t2] at h
   injection h with h
   subst h
   simp (disch := first | assumption | omega) only [go_sem, reduceCtorEq, Nat.reduceEqDiff, Nat.reduceAdd, Nat.reduceLeDiff, ↓reduceIte, Bool.true_and, hf1, ab4, m4, p4, pc, t1, t2]
   refine (hfl _ (p1 _ _ _ _)).mono ?_
   rintro v σ1 ⟨rfl, rfl⟩
   rw [m1, zN_av, zN_cells]
   simp (disch := first | assumption | omega) only [go_sem, Nat.reduceEqDiff, Nat.reduceAdd, Nat.reduceLeDiff, ↓reduceIte, Bool.true_and, hf1, p2, m2]
   exact retC_by (hDr4 _ _ _ _) (.refl _) ⟨rfl, rfl⟩
  obtain ⟨F, hF⟩ : ∃ F, F = ACode.wp Tryz.prog c91_36 := ⟨_, rfl⟩
  rw [← hF] at rest
  unfold zero12 at rest
  by_cases hp1 : tn.kind = 6
  ·have hp2 : ¬ tn.text = [40] := fun h2 => hop ⟨hp1, h2⟩
   rw [hp1] at rest
   simp (disch := first | assumption | omega) only [go_sem, Nat.reduceEqDiff, ↓reduceIte, w3, hp1, hp2, ←hF]
   refine rest _ ?_
   simp (disch := first | assumption | omega) only [go_sem, reduceCtorEq, Nat.reduceEqDiff, ↓reduceIte]
  ·simp (disch := first | assumption | omega) only [go_sem, Nat.reduceEqDiff, ↓reduceIte, hp1, ←hF]
   refine rest _ ?_
   simp (disch := first | assumption | omega) only [go_sem, reduceCtorEq, Nat.reduceEqDiff, ↓reduceIte]
end Go.A
namespace Go.A
open Go.Proofs
/-! 71: (*tabular/parse.parser).primary -/
def c71_0 : ACode := .ops [
 ⟨some 2, none, .e (.alloc [(.int .i64 0), (.int .i64 0), (.str []), (.int .i64 0), (.int .i64 0), (.bool false), (.bool false), (.int .i64 0), (.int .i64 0), (.bool false), (.bool false), (.sl .full [])]), []⟩]
def c71_1 : ACode := .ops [
 ⟨some 7, none, .q (.mv (.t 0)), []⟩,
 ⟨some 8, none, .e (.call 13 [(.t 7)]), []⟩,
 ⟨some 3, none, .e (.alloc [(.int .i64 0), (.str []), (.int .i64 0), (.int .i64 0)]), []⟩,
 ⟨none, none, .e (.store 4 (.t 3) (.t 8)), []⟩]
def c71_2 : ACode := .ops [
 ⟨some 9, none, .q (.fa 0 (.t 3)), []⟩,
 ⟨some 10, none, .q (.ld none (.t 9)), []⟩]
def c71_3 : ACode := .ops [
 ⟨some 12, none, .q (.bin .eql (.t 10) (.v (.int .i64 1))), []⟩,
 ⟨some 11, none, .q (.mv (.t 12)), []⟩]
def c71_4 : ACode := .ops [
 ⟨some 14, none, .q (.fa 1 (.t 3)), []⟩,
 ⟨some 15, none, .q (.ld none (.t 14)), []⟩,
 ⟨some 16, none, .e (.call 89 [(.t 15)]), []⟩,
 ⟨some 13, none, .q (.mv (.t 16)), []⟩,
 ⟨some 17, none, .q (.ext 0 (.t 13)), []⟩,
 ⟨some 18, none, .q (.ext 1 (.t 13)), []⟩,
 ⟨some 4, none, .q (.mv (.t 17)), []⟩,
 ⟨some 5, none, .q (.mv (.t 18)), []⟩]
def c71_5 : ACode := .ops [
 ⟨some 19, none, .q (.mv (.t 5)), []⟩,
 ⟨some 20, none, .q (.un .not (.t 19)), []⟩]
def c71_6 : ACode := .ops [
 ⟨some 21, none, .q (.mv (.t 0)), []⟩,
 ⟨some 22, none, .e (.call 14 [(.t 21), (.v (.int .i64 10))]), []⟩,
 ⟨none, none, .e (.store 12 (.t 2) (.t 22)), []⟩]
def c71_7 : ACode := .seq c71_6 .ret
def c71_8 : ACode := .cond (.t 20) c71_7 .skip
def c71_9 : ACode := .seq c71_5 c71_8
def c71_10 : ACode := .ops [
 ⟨some 23, none, .q (.mv (.t 0)), []⟩,
 ⟨some 24, none, .q (.nc (.t 23)), []⟩,
 ⟨some 25, none, .q (.fa 1 (.t 24)), []⟩,
 ⟨some 26, none, .q (.ld none (.t 25)), []⟩,
 ⟨some 27, none, .q (.bin .add (.t 26) (.v (.int .i64 1))), []⟩,
 ⟨some 28, none, .q (.nc (.t 23)), []⟩,
 ⟨some 29, none, .q (.fa 1 (.t 28)), []⟩,
 ⟨none, none, .e (.store 1 (.t 29) (.t 27)), []⟩]
def c71_11 : ACode := .ops [
 ⟨some 30, none, .q (.mv (.t 4)), []⟩,
 ⟨some 31, none, .q (.build [(.int .i64 0), (.int .i64 0), (.str []), (.int .i64 0), (.int .i64 0), (.bool false), (.bool false), (.int .i64 0), (.int .i64 0), (.bool false), (.bool false), (.sl .full [])] [(0, 1, (.v (.int .i64 1))), (1, 1, (.t 30))]), []⟩,
 ⟨none, none, .e (.store 12 (.t 2) (.t 31)), []⟩]
def c71_12 : ACode := .seq c71_11 .ret
def c71_13 : ACode := .seq c71_10 c71_12
def c71_14 : ACode := .seq c71_9 c71_13
def c71_15 : ACode := .seq c71_4 c71_14
def c71_16 : ACode := .ops [
 ⟨some 33, none, .q (.bin .eql (.t 10) (.v (.int .i64 2))), []⟩,
 ⟨some 32, none, .q (.mv (.t 33)), []⟩]
def c71_17 : ACode := .ops [
 ⟨some 34, none, .q (.mv (.t 0)), []⟩,
 ⟨some 35, none, .q (.nc (.t 34)), []⟩,
 ⟨some 36, none, .q (.fa 1 (.t 35)), []⟩,
 ⟨some 37, none, .q (.ld none (.t 36)), []⟩,
 ⟨some 38, none, .q (.bin .add (.t 37) (.v (.int .i64 1))), []⟩,
 ⟨some 39, none, .q (.nc (.t 34)), []⟩,
 ⟨some 40, none, .q (.fa 1 (.t 39)), []⟩,
 ⟨none, none, .e (.store 1 (.t 40) (.t 38)), []⟩]
def c71_18 : ACode := .ops [
 ⟨some 41, none, .q (.fa 1 (.t 3)), []⟩,
 ⟨some 42, none, .q (.ld none (.t 41)), []⟩,
 ⟨some 43, none, .q (.build [(.int .i64 0), (.int .i64 0), (.str []), (.int .i64 0), (.int .i64 0), (.bool false), (.bool false), (.int .i64 0), (.int .i64 0), (.bool false), (.bool false), (.sl .full [])] [(0, 1, (.v (.int .i64 2))), (2, 1, (.t 42))]), []⟩,
 ⟨none, none, .e (.store 12 (.t 2) (.t 43)), []⟩]
def c71_19 : ACode := .seq c71_18 .ret
def c71_20 : ACode := .seq c71_17 c71_19
def c71_21 : ACode := .ops [
 ⟨some 45, none, .q (.bin .eql (.t 10) (.v (.int .i64 5))), []⟩,
 ⟨some 44, none, .q (.mv (.t 45)), []⟩]
def c71_22 : ACode := .ops [
 ⟨some 46, none, .q (.mv (.t 0)), []⟩,
 ⟨some 47, none, .q (.nc (.t 46)), []⟩,
 ⟨some 48, none, .q (.fa 1 (.t 47)), []⟩,
 ⟨some 49, none, .q (.ld none (.t 48)), []⟩,
 ⟨some 50, none, .q (.bin .add (.t 49) (.v (.int .i64 1))), []⟩,
 ⟨some 51, none, .q (.nc (.t 46)), []⟩,
 ⟨some 52, none, .q (.fa 1 (.t 51)), []⟩,
 ⟨none, none, .e (.store 1 (.t 52) (.t 50)), []⟩]
def c71_23 : ACode := .ops [
 ⟨some 54, none, .q (.fa 1 (.t 3)), []⟩,
 ⟨some 55, none, .q (.ld none (.t 54)), []⟩,
 ⟨some 53, none, .e (.call 56 []), [⟨none, .ld none (.t 54), 55⟩]⟩,
 ⟨some 56, none, .e (.call 24 [(.t 53), (.t 55)]), []⟩,
 ⟨some 57, none, .q (.bin .add (.t 56) (.v (.int .i64 1))), []⟩,
 ⟨some 58, none, .q (.bin .mul (.t 57) (.v (.int .i64 10000))), []⟩,
 ⟨some 59, none, .q (.build [(.int .i64 0), (.int .i64 0), (.str []), (.int .i64 0), (.int .i64 0), (.bool false), (.bool false), (.int .i64 0), (.int .i64 0), (.bool false), (.bool false), (.sl .full [])] [(0, 1, (.v (.int .i64 4))), (1, 1, (.t 58))]), []⟩,
 ⟨none, none, .e (.store 12 (.t 2) (.t 59)), []⟩]
def c71_24 : ACode := .seq c71_23 .ret
def c71_25 : ACode := .seq c71_22 c71_24
def c71_26 : ACode := .ops [
 ⟨some 61, none, .q (.bin .eql (.t 10) (.v (.int .i64 4))), []⟩,
 ⟨some 60, none, .q (.mv (.t 61)), []⟩]
def c71_27 : ACode := .ops [
 ⟨some 62, none, .q (.mv (.t 0)), []⟩,
 ⟨some 63, none, .e (.call 90 [(.t 62)]), []⟩,
 ⟨none, none, .e (.store 12 (.t 2) (.t 63)), []⟩]
def c71_28 : ACode := .seq c71_27 .ret
def c71_29 : ACode := .ops [
 ⟨some 65, none, .q (.bin .eql (.t 10) (.v (.int .i64 3))), []⟩,
 ⟨some 64, none, .q (.mv (.t 65)), []⟩]
def c71_30 : ACode := .ops [
 ⟨some 66, none, .q (.mv (.t 0)), []⟩,
 ⟨some 67, none, .q (.ld (some 4) (.t 3)), []⟩,
 ⟨some 68, none, .e (.call 91 [(.t 66), (.t 67)]), []⟩,
 ⟨none, none, .e (.store 12 (.t 2) (.t 68)), []⟩]
def c71_31 : ACode := .seq c71_30 .ret
def c71_32 : ACode := .cond (.t 64) c71_31 .skip
def c71_33 : ACode := .seq c71_29 c71_32
def c71_34 : ACode := .cond (.t 60) c71_28 c71_33
def c71_35 : ACode := .seq c71_26 c71_34
def c71_36 : ACode := .cond (.t 44) c71_25 c71_35
def c71_37 : ACode := .seq c71_21 c71_36
def c71_38 : ACode := .cond (.t 32) c71_20 c71_37
def c71_39 : ACode := .seq c71_16 c71_38
def c71_40 : ACode := .cond (.t 11) c71_15 c71_39
def c71_41 : ACode := .seq c71_3 c71_40
def c71_42 : ACode := .block 0 c71_41
def c71_43 : ACode := .seq c71_2 c71_42
def c71_44 : ACode := .seq c71_1 c71_43
def c71_45 : ACode := .ops [
 ⟨some 69, none, .q (.mv (.t 0)), []⟩,
 ⟨some 70, none, .e (.call 46 [(.t 69), (.v (.str [40]))]), []⟩,
 ⟨some 71, none, .q (.un .not (.t 70)), []⟩]
def c71_46 : ACode := .ops [
 ⟨some 72, none, .q (.mv (.t 0)), []⟩,
 ⟨some 73, none, .e (.call 14 [(.t 72), (.v (.int .i64 10))]), []⟩,
 ⟨none, none, .e (.store 12 (.t 2) (.t 73)), []⟩]
def c71_47 : ACode := .seq c71_46 .ret
def c71_48 : ACode := .cond (.t 71) c71_47 .skip
def c71_49 : ACode := .seq c71_45 c71_48
def c71_50 : ACode := .ops [
 ⟨some 74, none, .q (.mv (.t 0)), []⟩,
 ⟨some 75, none, .e (.call 48 [(.t 74)]), []⟩]
def c71_51 : ACode := .ops [
 ⟨some 77, none, .q (.mv (.t 0)), []⟩,
 ⟨some 78, none, .q (.nc (.t 77)), []⟩,
 ⟨some 79, none, .q (.fa 3 (.t 78)), []⟩,
 ⟨some 80, none, .q (.ld none (.t 79)), []⟩,
 ⟨some 81, none, .q (.bin .eql (.t 80) (.v (.int .i64 0))), []⟩]
def c71_52 : ACode := .ops [
 ⟨some 82, none, .q (.mv (.t 0)), []⟩,
 ⟨some 83, none, .q (.nc (.t 82)), []⟩,
 ⟨some 84, none, .q (.fa 1 (.t 83)), []⟩,
 ⟨some 85, none, .q (.ld none (.t 84)), []⟩,
 ⟨some 86, none, .q (.bin .add (.t 85) (.v (.int .i64 1))), []⟩,
 ⟨some 87, none, .q (.nc (.t 82)), []⟩,
 ⟨some 88, none, .q (.fa 1 (.t 87)), []⟩,
 ⟨none, none, .e (.store 1 (.t 88) (.t 86)), []⟩]
def c71_53 : ACode := .cond (.t 81) c71_52 .skip
def c71_54 : ACode := .seq c71_51 c71_53
def c71_55 : ACode := .ops [
 ⟨some 89, none, .q (.mv (.t 0)), []⟩,
 ⟨some 90, none, .e (.call 12 [(.t 89), (.v (.int .i64 0))]), []⟩,
 ⟨some 6, none, .e (.alloc [(.int .i64 0), (.int .i64 0), (.str []), (.int .i64 0), (.int .i64 0), (.bool false), (.bool false), (.int .i64 0), (.int .i64 0), (.bool false), (.bool false), (.sl .full [])]), []⟩,
 ⟨none, none, .e (.store 12 (.t 6) (.t 90)), []⟩]
def c71_56 : ACode := .ops [
 ⟨some 91, none, .q (.mv (.t 0)), []⟩,
 ⟨some 92, none, .e (.call 92 [(.t 91), (.v (.str [41]))]), []⟩]
def c71_57 : ACode := .ops [
 ⟨some 93, none, .q (.ld (some 12) (.t 6)), []⟩,
 ⟨none, none, .e (.store 12 (.t 2) (.t 93)), []⟩]
def c71_58 : ACode := .seq c71_57 .ret
def c71_59 : ACode := .seq c71_56 c71_58
def c71_60 : ACode := .seq c71_55 c71_59
def c71_61 : ACode := .seq c71_54 c71_60
def c71_62 : ACode := .dfr 49 (.t 0) 76 c71_61
def c71_63 : ACode := .seq c71_50 c71_62
def c71_64 : ACode := .seq c71_49 c71_63
def c71_65 : ACode := .seq c71_44 c71_64
def c71_66 : ACode := .seq c71_0 c71_65
@[go_sem] def c71_0_wp := wp_of c71_0.eq_1
@[go_sem] def c71_1_wp := wp_of c71_1.eq_1
@[go_sem] def c71_2_wp := wp_of c71_2.eq_1
@[go_sem] def c71_3_wp := wp_of c71_3.eq_1
@[go_sem] def c71_4_wp := wp_of c71_4.eq_1
@[go_sem] def c71_5_wp := wp_of c71_5.eq_1
@[go_sem] def c71_6_wp := wp_of c71_6.eq_1
@[go_sem] def c71_7_wp := wp_of c71_7.eq_1
@[go_sem] def c71_8_wp := wp_of c71_8.eq_1
@[go_sem] def c71_9_wp := wp_of c71_9.eq_1
@[go_sem] def c71_10_wp := wp_of c71_10.eq_1
@[go_sem] def c71_11_wp := wp_of c71_11.eq_1
@[go_sem] def c71_12_wp := wp_of c71_12.eq_1
@[go_sem] def c71_13_wp := wp_of c71_13.eq_1
@[go_sem] def c71_14_wp := wp_of c71_14.eq_1
@[go_sem] def c71_15_wp := wp_of c71_15.eq_1
@[go_sem] def c71_16_wp := wp_of c71_16.eq_1
@[go_sem] def c71_17_wp := wp_of c71_17.eq_1
@[go_sem] def c71_18_wp := wp_of c71_18.eq_1
@[go_sem] def c71_19_wp := wp_of c71_19.eq_1
@[go_sem] def c71_20_wp := wp_of c71_20.eq_1
@[go_sem] def c71_21_wp := wp_of c71_21.eq_1
@[go_sem] def c71_22_wp := wp_of c71_22.eq_1
@[go_sem] def c71_23_wp := wp_of c71_23.eq_1
@[go_sem] def c71_24_wp := wp_of c71_24.eq_1
@[go_sem] def c71_25_wp := wp_of c71_25.eq_1
@[go_sem] def c71_26_wp := wp_of c71_26.eq_1
@[go_sem] def c71_27_wp := wp_of c71_27.eq_1
@[go_sem] def c71_28_wp := wp_of c71_28.eq_1
@[go_sem] def c71_29_wp := wp_of c71_29.eq_1
@[go_sem] def c71_30_wp := wp_of c71_30.eq_1
@[go_sem] def c71_31_wp := wp_of c71_31.eq_1
@[go_sem] def c71_32_wp := wp_of c71_32.eq_1
@[go_sem] def c71_33_wp := wp_of c71_33.eq_1
@[go_sem] def c71_34_wp := wp_of c71_34.eq_1
@[go_sem] def c71_35_wp := wp_of c71_35.eq_1
@[go_sem] def c71_36_wp := wp_of c71_36.eq_1
@[go_sem] def c71_37_wp := wp_of c71_37.eq_1
@[go_sem] def c71_38_wp := wp_of c71_38.eq_1
@[go_sem] def c71_39_wp := wp_of c71_39.eq_1
@[go_sem] def c71_40_wp := wp_of c71_40.eq_1
@[go_sem] def c71_41_wp := wp_of c71_41.eq_1
@[go_sem] def c71_42_wp := wp_of c71_42.eq_1
@[go_sem] def c71_43_wp := wp_of c71_43.eq_1
@[go_sem] def c71_44_wp := wp_of c71_44.eq_1
@[go_sem] def c71_45_wp := wp_of c71_45.eq_1
@[go_sem] def c71_46_wp := wp_of c71_46.eq_1
@[go_sem] def c71_47_wp := wp_of c71_47.eq_1
@[go_sem] def c71_48_wp := wp_of c71_48.eq_1
@[go_sem] def c71_49_wp := wp_of c71_49.eq_1
@[go_sem] def c71_50_wp := wp_of c71_50.eq_1
@[go_sem] def c71_51_wp := wp_of c71_51.eq_1
@[go_sem] def c71_52_wp := wp_of c71_52.eq_1
@[go_sem] def c71_53_wp := wp_of c71_53.eq_1
@[go_sem] def c71_54_wp := wp_of c71_54.eq_1
@[go_sem] def c71_55_wp := wp_of c71_55.eq_1
@[go_sem] def c71_56_wp := wp_of c71_56.eq_1
@[go_sem] def c71_57_wp := wp_of c71_57.eq_1
@[go_sem] def c71_58_wp := wp_of c71_58.eq_1
@[go_sem] def c71_59_wp := wp_of c71_59.eq_1
@[go_sem] def c71_60_wp := wp_of c71_60.eq_1
@[go_sem] def c71_61_wp := wp_of c71_61.eq_1
@[go_sem] def c71_62_wp := wp_of c71_62.eq_1
@[go_sem] def c71_63_wp := wp_of c71_63.eq_1
@[go_sem] def c71_64_wp := wp_of c71_64.eq_1
@[go_sem] def c71_65_wp := wp_of c71_65.eq_1
@[go_sem] def c71_66_wp := wp_of c71_66.eq_1
def c71 : AFn := ⟨94, [.c 2 (some 12)], c71_66⟩
theorem c71_ok : compF Tryz.prog Tryz.f71 = some c71 := by kernel_rfl
theorem a71 {args : List AV} {σ : ASt} {R : AV → ASt → Prop} (hl : args.length ≤ 94) (h : c71_66.wp Tryz.prog (RetQ [.c 2 (some 12)] R) (init args) σ) : ACalls Tryz.prog 71 args σ R := acalls_of Tryz.func71 c71_ok hl h
end Go.A
namespace Go.A
open Go.Proofs Go.Lib
set_option maxHeartbeats 8000000 in
theorem prim_walk {T : List Tok} (hT : TokOk T) (f : Nat) (ih : ∀ f', f' < f + 1 → WalkF T f') (b : Nat) (s : PSt) (r : Nd × PSt) (h : primP T (f + 1) s = some r) (hf : Fit T s) (σ : ASt) (hV : LV σ) (hb : σ b = pr T s) :
  ACalls Tryz.prog 71 [.ptr b 0] σ fun v σ' => v = r.1.av ∧ σ' = σ.set b (pr T r.2) := by
 rw [primP] at h
 have hwent := wentF hT.ends
 have hlen := hT.len
 have hil := hf.i
 have hpr : ∀ x : PSt, pr T x = some (.obj [.sl .shr (T.map tokAV), .int .i64 x.i, .int .i64 x.deep, .int .i64 x.err, .int .i64 x.bad]) := fun x => rfl
 have hpn : some (Role.obj [.sl .shr (T.map tokAV), .int .i64 ((s.i : Int) + 1), .int .i64 s.deep, .int .i64 s.err, .int .i64 s.bad]) = pr T s.next := rfl
 have htx := hT.cur s
 have hD := dparse_ok (curT T s).text htx
 have hE := tenames_ok
 have hix := strindex_ok errL (curT T s).text (by decide)
 have hrg := idxS_rng (curT T s).text errL 0
 have hel : errL.length = 7 := rfl
 have hidx : idxP errL (curT T s).text = idxS (curT T s).text errL 0 := rfl
 have hAr := fun hk τ hh => area_walk hT b s hf hk τ hh
 have hNa := fun hk r hr τ hv hh => (ih f (by omega)).name b s r hr hf hk τ hv hh
 refine a71 (by simp) ?_
 simp (disch := first | assumption | omega) only [go_sem]
 refine allocC_by fun d hd => ?_
 obtain ⟨hbd, T2, S2⟩ := St2.of hd (pr_fix hb).1 (pr_fix hb).2
 rw [S2.one, hb]
 have q1 := S2.a1
 have hcu := fun X => pcur_ok (T := T) hf.i (q1 (pr T s) X)
 have htv : tokAV (curT T s) = .agg [.int .i64 (curT T s).kind, .str (curT T s).text, .int .i64 (curT T s).at', .int .i64 (curT T s).col] := rfl
 rw [htv] at hcu
 rw [htv] at hNa
 generalize hct : curT T s = tk at *
 simp (disch := first | assumption | omega) only [go_sem, reduceCtorEq, ↓reduceIte]
 refine (hcu _).mono ?_
 rintro v σ1 ⟨rfl, rfl⟩
 simp (disch := first | assumption | omega) only [go_sem]
 refine allocC_by fun e he => ?_
 obtain ⟨hbe, hde, T3, S3⟩ := St3.of S2 (X0 := .obj _) he
 have ab := S3.ab
 have k3 := S3.s3
 have k2 := S3.s2
 have k1 := S3.s1
 have w3 := S3.a3
 have w2 := S3.a2
 have w1 := S3.a1
 have V3 : ∀ X Y Z, LV (T3 X Y Z) := fun X Y Z => S3.fix _ _ _ _ _ hV
 have hDr := S3.drop
 have v1 := fun Y Z => w1 (pr T s) Y Z
 rw [hpr s] at v1
 have hfl := fun τ hh => pfail_ok (T := T) (s := s) hf.i 10 (σ := τ) (b := b) hh
 obtain ⟨F, hF⟩ : ∃ F, F = ACode.wp Tryz.prog c71_64 := ⟨_, rfl⟩
 simp (disch := first | assumption | omega) only [go_sem, Nat.reduceEqDiff, Nat.reduceAdd, Nat.reduceLeDiff, ↓reduceIte, Bool.true_and, ab, k3, w3, ←hF]
 by_cases c1 : tk.kind = 1
 ·rw [if_pos c1] at h
  cases hp : parseD tk.text with
  | none =>
    rw [hp] at h hD
    injection h with h
    subst h
    have hD' : Pure Tryz.prog 89 [.str tk.text] (.tuple [.int .i64 0, .bool false]) := hD
    simp (disch := first | assumption | omega) only [go_sem, Nat.reduceEqDiff, ↓reduceIte, c1, w3]
    refine hD'.use ?_
    simp (disch := first | assumption | omega) only [go_sem, reduceCtorEq, Nat.reduceEqDiff, ↓reduceIte]
    refine (hfl _ (w1 _ _ _)).mono ?_
    rintro v σ1 ⟨rfl, rfl⟩
    rw [k1, zN_av, zN_cells]
    simp (disch := first | assumption | omega) only [go_sem, Nat.reduceEqDiff, Nat.reduceAdd, Nat.reduceLeDiff, ↓reduceIte, Bool.true_and, w2, k2]
    exact retC_by (hDr _ _ _) (.refl _) ⟨rfl, rfl⟩
  | some v =>
    rw [hp] at h hD
    injection h with h
    subst h
    have hD' : Pure Tryz.prog 89 [.str tk.text] (.tuple [.int .i64 v, .bool true]) := hD
    simp (disch := first | assumption | omega) only [go_sem, Nat.reduceEqDiff, ↓reduceIte, c1, w3]
    refine hD'.use ?_
    rw [hpr s]
    simp (disch := first | assumption | omega) only [go_sem, reduceCtorEq, Nat.reduceEqDiff, Nat.reduceAdd, Nat.reduceLeDiff, ↓reduceIte, Bool.true_and, v1, k1]
    rw [hpn]
    simp (disch := first | assumption | omega) only [go_sem, Nat.reduceEqDiff, Nat.reduceAdd, Nat.reduceLeDiff, ↓reduceIte, Bool.true_and, w2, k2]
    rw [Nd.av_cs]
    exact retC_by (hDr _ _ _) (fzN 1 v [] .zero .zero _ _) ⟨rfl, rfl⟩
 rw [if_neg c1] at h
 by_cases c2 : tk.kind = 2
 ·rw [if_pos c2] at h
  injection h with h
  subst h
  rw [hpr s]
  simp (disch := first | assumption | omega) only [go_sem, reduceCtorEq, Nat.reduceEqDiff, Nat.reduceAdd, Nat.reduceLeDiff, Int.reduceEq, ↓reduceIte, Bool.true_and, c2, w3, v1, k1]
  rw [hpn]
  simp (disch := first | assumption | omega) only [go_sem, Nat.reduceEqDiff, Nat.reduceAdd, Nat.reduceLeDiff, ↓reduceIte, Bool.true_and, w2, k2]
  rw [Nd.av_cs]
  exact retC_by (hDr _ _ _) (fzN 2 0 tk.text .zero .zero _ _) ⟨rfl, rfl⟩
 rw [if_neg c2] at h
 by_cases c5 : tk.kind = 5
 ·rw [if_pos c5] at h
  injection h with h
  subst h
  rw [hidx] at hix ⊢
  generalize idxS tk.text errL 0 = q at *
  rw [hpr s]
  simp (disch := first | assumption | omega) only [go_sem, reduceCtorEq, Nat.reduceEqDiff, Nat.reduceAdd, Nat.reduceLeDiff, Int.reduceEq, ↓reduceIte, Bool.true_and, c5, w3, v1, k1]
  rw [hpn]
  refine hE.use ?_
  simp (disch := first | assumption | omega) only [go_sem, Nat.reduceEqDiff, ↓reduceIte, w3]
  refine hix.use ?_
  simp (disch := first | assumption | omega) only [go_sem, Nat.reduceEqDiff, Nat.reduceAdd, Nat.reduceLeDiff, ↓reduceIte, Bool.true_and, w2, k2]
  rw [Nd.av_cs]
  exact retC_by (hDr _ _ _) (fzN 4 ((q + 1) * 10000) [] .zero .zero _ _) ⟨rfl, rfl⟩
 rw [if_neg c5] at h
 by_cases c4 : tk.kind = 4
 ·rw [if_pos c4] at h
  injection h with h
  subst h
  have hA := fun Y Z => hAr c4 _ (w1 (pr T s) Y Z)
  clear hAr hNa
  generalize areaP T s = RA at *
  obtain ⟨n, s'⟩ := RA
  dsimp only at hA ⊢
  obtain ⟨o, m, t, x, y, ks⟩ := n
  simp only [Nd.av_cs] at hA ⊢
  generalize ks.map Nd.av = KL at *
  simp (disch := first | assumption | omega) only [go_sem, reduceCtorEq, Nat.reduceEqDiff, Int.reduceEq, ↓reduceIte, c4]
  refine (hA _ _).mono ?_
  rintro v σ1 ⟨rfl, rfl⟩
  rw [k1]
  simp (disch := first | assumption | omega) only [go_sem, Nat.reduceEqDiff, Nat.reduceAdd, Nat.reduceLeDiff, ↓reduceIte, w2, k2]
  exact retC_by (hDr _ _ _) (.refl _) ⟨rfl, rfl⟩
 rw [if_neg c4] at h
 by_cases c3 : tk.kind = 3
 ·rw [if_pos c3] at h
  have hA := fun Y Z => hNa c3 r h _ (V3 (pr T s) Y Z) (w1 _ _ _)
  obtain ⟨n, s'⟩ := r
  dsimp only at hA ⊢
  obtain ⟨o, m, t, x, y, ks⟩ := n
  simp only [Nd.av_cs] at hA ⊢
  generalize ks.map Nd.av = KL at *
  rw [c3] at hA
  simp (disch := first | assumption | omega) only [go_sem, reduceCtorEq, Nat.reduceEqDiff, Nat.reduceAdd, Nat.reduceLeDiff, Int.reduceEq, ↓reduceIte, c3, w3]
  refine (hA _ _).mono ?_
  rintro v σ1 ⟨rfl, rfl⟩
  rw [k1]
  simp (disch := first | assumption | omega) only [go_sem, Nat.reduceEqDiff, Nat.reduceAdd, Nat.reduceLeDiff, ↓reduceIte, w2, k2]
  exact retC_by (hDr _ _ _) (.refl _) ⟨rfl, rfl⟩
 rw [if_neg c3] at h
 simp (disch := first | assumption | omega) only [go_sem, Nat.reduceEqDiff, ↓reduceIte, c1, c2, c5, c4, c3]
 rw [hF]
 have hat := fun Y Z => pat_ok hf.i [40] (w1 (pr T s) Y Z)
 simp (disch := first | assumption | omega) only [go_sem, reduceCtorEq, ↓reduceIte]
 refine (hat _ _).mono ?_
 rintro v σ1 ⟨rfl, rfl⟩
 by_cases hop : isOp T s [40] = true
 ·rw [if_pos hop] at h
  rw [hop]
  cases h1 : betwP T f 0 (stepP1 (enterP T s)) with
  | none => rw [h1] at h; cases h
  | some r1 =>
    rw [h1] at h
    injection h with h
    subst h
    have hk := isOp_kind hop
    have he0 := cur_err hk
    obtain ⟨e1, e2, e3⟩ := enter_err hT.ends hf he0
    obtain ⟨g1, g2, g3⟩ := enter_fit hT.ends hf hk
    have hw := (hwent f).betw _ _ _ h1 g1
    have hwm := Went.must hT.ends hw.fit [41]
    have hen := fun Y Z => penter_ok (T := T) (s := s) hf.i ⟨hf.d0, by have := hf.d1; omega⟩ (w1 (pr T s) Y Z)
    have hbe' := fun Y Z => (ih f (by omega)).betw b 0 _ r1 (by omega) h1 g1 _ (V3 (pr T (stepP1 (enterP T s))) Y Z) (w1 _ _ _)
    rw [show ((0 : Nat) : Int) = 0 from rfl] at hbe'
    have hst : stepP1 (enterP T s) = if (enterP T s).err = 0 then (enterP T s).next else enterP T s := rfl
    generalize hS : stepP1 (enterP T s) = sS at *
    generalize hE2 : enterP T s = sE at *
    obtain ⟨n1, s1⟩ := r1
    dsimp only at hbe' hw hwm ⊢
    obtain ⟨o, m, t, x, y, ks⟩ := n1
    simp only [Nd.av_cs] at hbe' ⊢
    generalize ks.map Nd.av = KL at *
    simp (disch := first | assumption | omega) only [go_sem, reduceCtorEq, ↓reduceIte]
    refine (hen _ _).mono ?_
    rintro v σ1 ⟨rfl, rfl⟩
    rw [k1]
    have hpE : some (Role.obj [.sl .shr (T.map tokAV), .int .i64 ((sE.i : Int) + 1), .int .i64 sE.deep, .int .i64 sE.err, .int .i64 sE.bad]) = pr T sE.next := rfl
    have hmu := fun τ hh => pmust_ok hT.ends hw.fit hT.len [41] (σ := τ) (b := b) hh
    have hlv := fun τ hh => pleave_ok (T := T) (s := mustP T s1 [41]) ⟨hwm.fit.d0, by have := hwm.fit.d1; omega⟩ (σ := τ) (b := b) hh
    have tail : ∀ a1 : AFr, (a1 0 = .ptr b 0 ∧ a1 2 = .ptr d 0) → ACode.wp Tryz.prog c71_60 (DfrQ Tryz.prog 49 (.ptr b 0) (RetQ [.c 2 (some 12)] fun v σ' => v = .agg (Nd.cs o m t x y KL) ∧ σ' = σ.set b (pr T (leaveP (mustP T s1 [41]))))) a1 (T3 (pr T sS) (some (.obj zero12)) (some (.obj [.int .i64 tk.kind, .str tk.text, .int .i64 tk.at', .int .i64 tk.col]))) := by
     intro a1 hf1
     unfold zero12
     simp (disch := first | assumption | omega) only [go_sem, ↓reduceIte, hf1]
     refine (hbe' _ _).mono ?_
     rintro v σ1 ⟨rfl, rfl⟩
     rw [k1]
     simp (disch := first | assumption | omega) only [go_sem]
     refine allocC_by fun g hg => ?_
     obtain ⟨T4, S4⟩ := St4.of S3 (X0 := .obj _) hg
     have ab4 := S4.ab
     have m1 := S4.s1
     have m2 := S4.s2
     have m4 := S4.s4
     have p1 := S4.a1
     have p2 := S4.a2
     have p4 := S4.a4
     simp (disch := first | assumption | omega) only [go_sem, reduceCtorEq, Nat.reduceEqDiff, Nat.reduceAdd, Nat.reduceLeDiff, ↓reduceIte, hf1, ab4, m4, p4]
     refine (hmu _ (p1 _ _ _ _)).mono ?_
     rintro v σ1 ⟨rfl, rfl⟩
     rw [m1]
     simp (disch := first | assumption | omega) only [go_sem, Nat.reduceEqDiff, Nat.reduceAdd, Nat.reduceLeDiff, ↓reduceIte, hf1, p4, p2, m2]
     refine (hlv _ (p1 _ _ _ _)).mono ?_
     rintro v σ1 ⟨rfl, rfl⟩
     rw [m1]
     simp (disch := first | assumption | omega) only [go_sem, Nat.reduceLeDiff, ↓reduceIte, p2]
     exact retC_by (S4.drop _ _ _ _) (.refl _) ⟨rfl, rfl⟩
    obtain ⟨G, hG⟩ : ∃ G, G = ACode.wp Tryz.prog c71_60 := ⟨_, rfl⟩
    rw [← hG] at tail
    unfold zero12 at tail
    by_cases hee : sE.err = 0
    ·rw [if_pos hee] at hst
     subst hst
     have hEi : (sE.i : Int) ≤ 1000000 := by omega
     have x1 := fun Y Z => w1 (pr T sE) Y Z
     rw [hpr sE, hee] at x1
     rw [hee] at hpE
     rw [hpr sE, hee]
     simp (disch := first | assumption | omega) only [go_sem, reduceCtorEq, Nat.reduceEqDiff, Nat.reduceAdd, Nat.reduceLeDiff, ↓reduceIte, Bool.true_and, x1, k1, ←hG]
     rw [hpE]
     refine tail _ ?_
     simp (disch := first | assumption | omega) only [go_sem, reduceCtorEq, Nat.reduceEqDiff, ↓reduceIte]
    ·rw [if_neg hee] at hst
     subst hst
     have x1 : ∀ Y Z, T3 (pr T sS) Y Z b = some (.obj [.sl .shr (T.map tokAV), .int .i64 sS.i, .int .i64 sS.deep, .int .i64 sS.err, .int .i64 sS.bad]) := fun Y Z => w1 _ _ _
     simp (disch := first | assumption | omega) only [go_sem, reduceCtorEq, ↓reduceIte, x1, hee, ←hG]
     refine tail _ ?_
     simp (disch := first | assumption | omega) only [go_sem, reduceCtorEq, Nat.reduceEqDiff, ↓reduceIte]
 ·rw [if_neg hop] at h
  injection h with h
  subst h
  have hop' : isOp T s [40] = false := by simpa using hop
  rw [hop']
  simp (disch := first | assumption | omega) only [go_sem, reduceCtorEq, ↓reduceIte]
  refine (hfl _ (w1 _ _ _)).mono ?_
  rintro v σ1 ⟨rfl, rfl⟩
  rw [k1, zN_av, zN_cells]
  simp (disch := first | assumption | omega) only [go_sem, Nat.reduceEqDiff, Nat.reduceAdd, Nat.reduceLeDiff, ↓reduceIte, Bool.true_and, w2, k2]
  exact retC_by (hDr _ _ _) (.refl _) ⟨rfl, rfl⟩
theorem walkF {T : List Tok} (hT : TokOk T) : ∀ f, WalkF T f := by
 intro f
 induction f using Nat.strongRecOn with
 | _ f ih =>
 cases f with
 | zero =>
   constructor
   all_goals intros
   all_goals first
    | (rename_i h _ _ _ _; simp only [betwP, signedP, hundredP, primP, argsP, reduceCtorEq] at h)
    | (rename_i h _ _ _ _ _; simp only [nameP, reduceCtorEq] at h)
 | succ f =>
   exact ⟨fun b lvl s r hl h hf σ hV hb => betw_walk hT f ih b lvl s r hl h hf σ hV hb, fun b s r h hf σ hV hb => signed_walk hT f ih b s r h hf σ hV hb,
    fun b s r h hf σ hV hb => hundred_walk hT f ih b s r h hf σ hV hb, fun b s r h hf σ hV hb => prim_walk hT f ih b s r h hf σ hV hb,
    fun b s r h hf hk σ hV hb => name_walk hT f ih b s r h hf hk σ hV hb, fun b s r h hf σ hV hb => args_walk hT f ih b s r h hf σ hV hb⟩
end Go.A
namespace Go.A
open Go.Proofs Go.Lib
def Mz (T : List Tok) (s : PSt) : Nat := if s.err = 0 then T.length - s.i else 0
section
variable {T : List Tok}
theorem Mz_next {s : PSt} (hT : Ends T) (hf : Fit T s) (hk : (curT T s).kind ≠ 0) : Mz T s.next + 1 ≤ Mz T s := by
 have h0 := cur_err hk
 have hi := hf.i
 unfold Mz
 rw [if_pos h0, if_pos (show s.next.err = 0 from h0)]
 show T.length - (s.i + 1) + 1 ≤ _
 omega
theorem Mz_went {s s' : PSt} (h : Went T s s') : Mz T s' ≤ Mz T s := by
 have hl := h.le
 unfold Mz
 by_cases h0 : s.err = 0
 ·rw [if_pos h0]
  split <;> omega
 ·rw [if_neg h0, if_neg (by rw [(h.err h0).1]; exact h0)]
  exact Nat.le_refl _
theorem Mz_enter {s : PSt} (hT : Ends T) (hf : Fit T s) (hk : (curT T s).kind ≠ 0) : Mz T (stepP1 (enterP T s)) + 1 ≤ Mz T s := by
 have h0 := cur_err hk
 have hi := hf.i
 obtain ⟨e1, e2, e3⟩ := enter_err hT hf h0
 unfold stepP1
 unfold Mz
 rw [if_pos h0]
 by_cases he : (enterP T s).err = 0
 ·rw [if_pos he, if_pos (show (enterP T s).next.err = 0 from he)]
  show T.length - ((enterP T s).i + 1) + 1 ≤ _
  omega
 ·rw [if_neg he, if_neg he]
  omega
structure SuffF (T : List Tok) (f : Nat) : Prop where
 betw : ∀ lvl s, lvl ≤ 5 → Fit T s → 30 * Mz T s + 20 ≤ f + lvl → ∃ r, betwP T f lvl s = some r
 loop : ∀ lvl n s, lvl < 5 → Fit T s → 30 * Mz T s + 1 ≤ f → ∃ r, loopP T f lvl n s = some r
 signed : ∀ s, Fit T s → 30 * Mz T s + 14 ≤ f → ∃ r, signedP T f s = some r
 hundred : ∀ s, Fit T s → 30 * Mz T s + 13 ≤ f → ∃ r, hundredP T f s = some r
 hloop : ∀ n s, Fit T s → 30 * Mz T s + 1 ≤ f → ∃ r, hloopP T f n s = some r
 prim : ∀ s, Fit T s → 30 * Mz T s + 12 ≤ f → ∃ r, primP T f s = some r
 name : ∀ s, Fit T s → (curT T s).kind = 3 → 30 * Mz T s + 11 ≤ f → ∃ r, nameP T f s = some r
 args : ∀ s, Fit T s → 30 * Mz T s + 25 ≤ f → ∃ r, argsP T f s = some r
 aloop : ∀ l s, Fit T s → 30 * Mz T s + 24 ≤ f → ∃ r, aloopP T f l s = some r
theorem suffF (hT : Ends T) : ∀ f, SuffF T f
 | 0 => by
   constructor
   all_goals intros
   all_goals (exfalso; omega)
 | f + 1 => by
   have ih := suffF hT f
   have hwent := wentF hT f
   constructor
   ·intro lvl s hl hf hm
    rw [betwP]
    split
    ·exact ih.signed s hf (by omega)
    ·obtain ⟨r, hr⟩ := ih.betw (lvl + 1) s (by omega) hf (by omega)
     rw [hr]
     have hw := hwent.betw _ _ _ hr hf
     have hz := Mz_went hw
     exact ih.loop lvl _ _ (by omega) hw.fit (by omega)
   ·intro lvl n s hl hf hm
    rw [loopP]
    split
    ·rename_i hk
     have hz := Mz_next hT hf (sgn_kind hk)
     have hn := (hf.next hT (sgn_kind hk)).1
     obtain ⟨r, hr⟩ := ih.betw (lvl + 1) s.next (by omega) hn (by omega)
     rw [hr]
     have hw := hwent.betw _ _ _ hr hn
     have hz2 := Mz_went hw
     exact ih.loop lvl _ _ hl hw.fit (by omega)
    ·exact ⟨_, rfl⟩
   ·intro s hf hm
    rw [signedP]
    split
    ·rename_i hk
     have hz := Mz_enter hT hf (isOp_kind hk)
     obtain ⟨r, hr⟩ := ih.signed _ (enter_fit hT hf (isOp_kind hk)).1 (by omega)
     rw [hr]
     exact ⟨_, rfl⟩
    split
    ·rename_i hk
     have hz := Mz_enter hT hf (isOp_kind hk)
     obtain ⟨r, hr⟩ := ih.signed _ (enter_fit hT hf (isOp_kind hk)).1 (by omega)
     rw [hr]
     exact ⟨_, rfl⟩
    ·exact ih.hundred s hf (by omega)
   ·intro s hf hm
    rw [hundredP]
    obtain ⟨r, hr⟩ := ih.prim s hf (by omega)
    rw [hr]
    have hw := hwent.prim _ _ hr hf
    have hz := Mz_went hw
    exact ih.hloop _ _ hw.fit (by omega)
   ·intro n s hf hm
    rw [hloopP]
    split
    ·rename_i hk
     have hz := Mz_next hT hf (isOp_kind hk)
     exact ih.hloop _ _ (hf.next hT (isOp_kind hk)).1 (by omega)
    ·exact ⟨_, rfl⟩
   ·intro s hf hm
    rw [primP]
    split
    ·split <;> exact ⟨_, rfl⟩
    split
    ·exact ⟨_, rfl⟩
    split
    ·exact ⟨_, rfl⟩
    split
    ·exact ⟨_, rfl⟩
    split
    ·rename_i hk
     exact ih.name s hf hk (by omega)
    split
    ·rename_i hk
     have hz := Mz_enter hT hf (isOp_kind hk)
     obtain ⟨r, hr⟩ := ih.betw 0 _ (by omega) (enter_fit hT hf (isOp_kind hk)).1 (by omega)
     rw [hr]
     exact ⟨_, rfl⟩
    ·exact ⟨_, rfl⟩
   ·intro s hf hk hm
    have h0 : s.err = 0 := cur_err (T := T) (by omega)
    have hn := hf.next hT (by omega)
    rw [nameP]
    split
    ·rename_i hp
     split
     ·exact ⟨_, rfl⟩
     ·rename_i he
      obtain ⟨g1, g2, g3, g5⟩ := enter2 hT hf (by omega) (by simpa using he)
      have hl := hT.more (s.i + 1) hn.1.i (by omega)
      have g4 : Fit T (enterP T s).next.next := ⟨by show (enterP T s).i + 1 + 1 < _; omega, g1.d0, g1.d1, g1.d2⟩
      have hz : Mz T (enterP T s).next.next + 1 ≤ Mz T s := by
       have hi := hf.i
       have he' : (enterP T s).err = 0 := by simpa using he
       unfold Mz
       rw [if_pos h0, if_pos (show (enterP T s).next.next.err = 0 from he')]
       show T.length - ((enterP T s).i + 1 + 1) + 1 ≤ _
       omega
      obtain ⟨r, hr⟩ := ih.args _ g4 (by omega)
      rw [hr]
      exact ⟨_, rfl⟩
    split
    ·exact ⟨_, rfl⟩
    split <;> exact ⟨_, rfl⟩
   ·intro s hf hm
    rw [argsP]
    split
    ·exact ⟨_, rfl⟩
    ·exact ih.aloop _ s hf (by omega)
   ·intro l s hf hm
    rw [aloopP]
    split
    ·exact ⟨_, rfl⟩
    ·have h1 : ∃ r, (if isOp T s [44] = true ∨ isOp T s [41] = true then some (missN, s) else betwP T f 0 s) = some r ∧ Went T s r.2 := by
      split
      ·exact ⟨_, rfl, Went.refl hf⟩
      ·obtain ⟨r, hr⟩ := ih.betw 0 s (by omega) hf (by omega)
       exact ⟨r, hr, hwent.betw _ _ _ hr hf⟩
     obtain ⟨r, hr, hw⟩ := h1
     rw [hr]
     dsimp only
     split
     ·rename_i hk
      have hz := Mz_next hT hw.fit (isOp_kind hk)
      have hz2 := Mz_went hw
      exact ih.aloop _ _ (hw.fit.next hT (isOp_kind hk)).1 (by omega)
     ·exact ⟨_, rfl⟩
end
end Go.A
namespace Go.A
open Go.Proofs
/-! 5: tabular/parse.Parse -/
def c5_0 : ACode := .ops [
 ⟨some 2, none, .e (.alloc [(.int .i64 0), (.int .i64 0), (.str []), (.int .i64 0), (.int .i64 0), (.bool false), (.bool false), (.int .i64 0), (.int .i64 0), (.bool false), (.bool false), (.sl .full [])]), []⟩,
 ⟨some 3, none, .q (.mv (.v (.int .i64 0))), []⟩,
 ⟨some 4, none, .q (.mv (.v (.int .i64 0))), []⟩]
def c5_1 : ACode := .ops [
 ⟨some 11, none, .q (.mv (.t 0)), []⟩,
 ⟨some 12, none, .e (.call 11 [(.t 11)]), []⟩,
 ⟨some 10, none, .q (.mv (.t 12)), []⟩,
 ⟨some 13, none, .q (.ext 0 (.t 10)), []⟩,
 ⟨some 14, none, .q (.ext 1 (.t 10)), []⟩,
 ⟨some 15, none, .q (.ext 2 (.t 10)), []⟩,
 ⟨some 5, none, .q (.mv (.t 13)), []⟩,
 ⟨some 6, none, .q (.mv (.t 14)), []⟩,
 ⟨some 7, none, .q (.mv (.t 15)), []⟩]
def c5_2 : ACode := .ops [
 ⟨some 16, none, .q (.mv (.t 7)), []⟩,
 ⟨some 17, none, .q (.bin .neq (.t 16) (.v (.int .i64 0))), []⟩]
def c5_3 : ACode := .ops [
 ⟨some 18, none, .q (.build [(.int .i64 0), (.int .i64 0), (.str []), (.int .i64 0), (.int .i64 0), (.bool false), (.bool false), (.int .i64 0), (.int .i64 0), (.bool false), (.bool false), (.sl .full [])] []), []⟩,
 ⟨some 19, none, .q (.mv (.t 6)), []⟩,
 ⟨some 20, none, .q (.mv (.t 7)), []⟩,
 ⟨none, none, .e (.store 12 (.t 2) (.t 18)), []⟩,
 ⟨some 3, none, .q (.mv (.t 19)), []⟩,
 ⟨some 4, none, .q (.mv (.t 20)), []⟩]
def c5_4 : ACode := .seq c5_3 .ret
def c5_5 : ACode := .cond (.t 17) c5_4 .skip
def c5_6 : ACode := .seq c5_2 c5_5
def c5_7 : ACode := .ops [
 ⟨some 21, none, .q (.mv (.t 5)), []⟩,
 ⟨some 22, none, .q (.build [(.sl .full []), (.int .i64 0), (.int .i64 0), (.int .i64 0), (.int .i64 0)] [(0, 1, (.t 21))]), []⟩,
 ⟨some 23, none, .e (.box (.t 22)), []⟩,
 ⟨some 8, none, .q (.mv (.t 23)), []⟩]
def c5_8 : ACode := .ops [
 ⟨some 24, none, .q (.mv (.t 8)), []⟩,
 ⟨some 25, none, .e (.call 12 [(.t 24), (.v (.int .i64 0))]), []⟩,
 ⟨some 9, none, .e (.alloc [(.int .i64 0), (.int .i64 0), (.str []), (.int .i64 0), (.int .i64 0), (.bool false), (.bool false), (.int .i64 0), (.int .i64 0), (.bool false), (.bool false), (.sl .full [])]), []⟩,
 ⟨none, none, .e (.store 12 (.t 9) (.t 25)), []⟩]
def c5_9 : ACode := .ops [
 ⟨some 26, none, .q (.mv (.t 8)), []⟩,
 ⟨some 27, none, .e (.call 13 [(.t 26)]), []⟩,
 ⟨some 28, none, .q (.fld 0 none (.t 27)), []⟩,
 ⟨some 29, none, .q (.bin .neq (.t 28) (.v (.int .i64 0))), []⟩]
def c5_10 : ACode := .ops [
 ⟨some 30, none, .q (.mv (.t 8)), []⟩,
 ⟨some 31, none, .e (.call 14 [(.t 30), (.v (.int .i64 10))]), []⟩]
def c5_11 : ACode := .cond (.t 29) c5_10 .skip
def c5_12 : ACode := .seq c5_9 c5_11
def c5_13 : ACode := .ops [
 ⟨some 32, none, .q (.mv (.t 8)), []⟩,
 ⟨some 33, none, .q (.nc (.t 32)), []⟩,
 ⟨some 34, none, .q (.fa 3 (.t 33)), []⟩,
 ⟨some 35, none, .q (.ld none (.t 34)), []⟩,
 ⟨some 36, none, .q (.bin .neq (.t 35) (.v (.int .i64 0))), []⟩]
def c5_14 : ACode := .ops [
 ⟨some 37, none, .q (.build [(.int .i64 0), (.int .i64 0), (.str []), (.int .i64 0), (.int .i64 0), (.bool false), (.bool false), (.int .i64 0), (.int .i64 0), (.bool false), (.bool false), (.sl .full [])] []), []⟩,
 ⟨some 38, none, .q (.mv (.t 8)), []⟩,
 ⟨some 39, none, .q (.nc (.t 38)), []⟩,
 ⟨some 40, none, .q (.fa 4 (.t 39)), []⟩,
 ⟨some 41, none, .q (.ld none (.t 40)), []⟩,
 ⟨some 42, none, .q (.mv (.t 8)), []⟩,
 ⟨some 43, none, .q (.nc (.t 42)), []⟩,
 ⟨some 44, none, .q (.fa 3 (.t 43)), []⟩,
 ⟨some 45, none, .q (.ld none (.t 44)), []⟩,
 ⟨none, none, .e (.store 12 (.t 2) (.t 37)), [⟨none, .ld none (.t 40), 41⟩, ⟨none, .ld none (.t 44), 45⟩]⟩,
 ⟨some 3, none, .q (.mv (.t 41)), []⟩,
 ⟨some 4, none, .q (.mv (.t 45)), []⟩]
def c5_15 : ACode := .seq c5_14 .ret
def c5_16 : ACode := .cond (.t 36) c5_15 .skip
def c5_17 : ACode := .seq c5_13 c5_16
def c5_18 : ACode := .ops [
 ⟨some 46, none, .q (.ld (some 12) (.t 9)), []⟩,
 ⟨none, none, .e (.store 12 (.t 2) (.t 46)), []⟩,
 ⟨some 3, none, .q (.mv (.v (.int .i64 0))), []⟩,
 ⟨some 4, none, .q (.mv (.v (.int .i64 0))), []⟩]
def c5_19 : ACode := .seq c5_18 .ret
def c5_20 : ACode := .seq c5_17 c5_19
def c5_21 : ACode := .seq c5_12 c5_20
def c5_22 : ACode := .seq c5_8 c5_21
def c5_23 : ACode := .seq c5_7 c5_22
def c5_24 : ACode := .seq c5_6 c5_23
def c5_25 : ACode := .seq c5_1 c5_24
def c5_26 : ACode := .seq c5_0 c5_25
@[go_sem] def c5_0_wp := wp_of c5_0.eq_1
@[go_sem] def c5_1_wp := wp_of c5_1.eq_1
@[go_sem] def c5_2_wp := wp_of c5_2.eq_1
@[go_sem] def c5_3_wp := wp_of c5_3.eq_1
@[go_sem] def c5_4_wp := wp_of c5_4.eq_1
@[go_sem] def c5_5_wp := wp_of c5_5.eq_1
@[go_sem] def c5_6_wp := wp_of c5_6.eq_1
@[go_sem] def c5_7_wp := wp_of c5_7.eq_1
@[go_sem] def c5_8_wp := wp_of c5_8.eq_1
@[go_sem] def c5_9_wp := wp_of c5_9.eq_1
@[go_sem] def c5_10_wp := wp_of c5_10.eq_1
@[go_sem] def c5_11_wp := wp_of c5_11.eq_1
@[go_sem] def c5_12_wp := wp_of c5_12.eq_1
@[go_sem] def c5_13_wp := wp_of c5_13.eq_1
@[go_sem] def c5_14_wp := wp_of c5_14.eq_1
@[go_sem] def c5_15_wp := wp_of c5_15.eq_1
@[go_sem] def c5_16_wp := wp_of c5_16.eq_1
@[go_sem] def c5_17_wp := wp_of c5_17.eq_1
@[go_sem] def c5_18_wp := wp_of c5_18.eq_1
@[go_sem] def c5_19_wp := wp_of c5_19.eq_1
@[go_sem] def c5_20_wp := wp_of c5_20.eq_1
@[go_sem] def c5_21_wp := wp_of c5_21.eq_1
@[go_sem] def c5_22_wp := wp_of c5_22.eq_1
@[go_sem] def c5_23_wp := wp_of c5_23.eq_1
@[go_sem] def c5_24_wp := wp_of c5_24.eq_1
@[go_sem] def c5_25_wp := wp_of c5_25.eq_1
@[go_sem] def c5_26_wp := wp_of c5_26.eq_1
def c5 : AFn := ⟨47, [.c 2 (some 12), .t 3, .t 4], c5_26⟩
theorem c5_ok : compF Tryz.prog Tryz.f5 = some c5 := by kernel_rfl
theorem a5 {args : List AV} {σ : ASt} {R : AV → ASt → Prop} (hl : args.length ≤ 47) (h : c5_26.wp Tryz.prog (RetQ [.c 2 (some 12), .t 3, .t 4] R) (init args) σ) : ACalls Tryz.prog 5 args σ R := acalls_of Tryz.func5 c5_ok hl h
end Go.A
namespace Go.A
open Go.Proofs Go.Lib
structure TokGd (t : Tok) : Prop where
 k1 : 1 ≤ t.kind
 k6 : t.kind ≤ 6
 len : t.text.length ≤ 8100
 num : t.kind = 1 → numB t.text = true
 ref : t.kind = 4 → ∃ w, refB w = true ∧ t.text = greatP w
 err : t.kind = 5 → t.text ∈ errTexts
 nam : t.kind = 3 → t.text ≠ []
theorem TokGd.of {kd : Int} {t : List UInt8} {a c : Nat} (h1 : 1 ≤ kd) (h6 : kd ≤ 6) (hl : t.length ≤ 8100) (hn : kd = 1 → numB t = true) (hr : kd = 4 → ∃ w, refB w = true ∧ t = greatP w) (he : kd = 5 → t ∈ errTexts) (hm : kd = 3 → t ≠ []) : TokGd ⟨kd, t, a, c⟩ := ⟨h1, h6, hl, hn, hr, he, hm⟩
theorem no1 {p : Prop} {a b : Int} (h : a = b) (hn : decide (a = b) = false) : p := absurd h (of_decide_eq_false hn)
theorem quotedF_len : ∀ (k : Nat) (r : List UInt8) (p : Nat) (acc : List UInt8) kd t n, quotedF k r p acc = .tok kd t n → kd = 2 ∧ t.length ≤ acc.length + 4 * r.length
 | 0, r, p, acc, kd, t, n, h => by simp [quotedF] at h
 | k + 1, r, p, acc, kd, t, n, h => by
   by_cases hr : r = []
   ·subst hr; rw [quotedF_nil] at h; simp at h
   have hw := decodeL_width r
   have hle := decodeL_le r hr
   unfold quotedF at h
   rw [if_neg hr] at h
   split at h
   ·simp at h
   split at h
   ·have := quotedF_len k _ _ _ kd t n h
    have he := enc_le ((decodeL r).1 : Int)
    rw [List.length_append, List.length_drop] at this
    exact ⟨this.1, by omega⟩
   split at h
   ·rename_i h1 h2 h3
    have hl2 := (List.getElem?_eq_some_iff.1 h3).1
    have := quotedF_len k _ _ _ kd t n h
    rw [List.length_append, List.length_drop] at this
    simp only [List.length_cons, List.length_nil] at this
    exact ⟨this.1, by omega⟩
   ·simp only [Step.tok.injEq] at h
    obtain ⟨rfl, rfl, rfl⟩ := h
    exact ⟨rfl, by omega⟩
theorem failS_gd (r : List UInt8) : ∀ (es : List (List UInt8)) kd t n, failS r es = .tok kd t n → kd = 5 ∧ t ∈ es
 | [], kd, t, n, h => by simp [failS] at h
 | e :: es, kd, t, n, h => by
   unfold failS at h
   split at h
   ·simp only [Step.tok.injEq] at h
    obtain ⟨rfl, rfl, rfl⟩ := h
    exact ⟨rfl, by simp⟩
   ·obtain ⟨h1, h2⟩ := failS_gd r es kd t n h
    exact ⟨h1, by simp [h2]⟩
theorem greatP_len (l : List UInt8) : (greatP l).length = l.length := by unfold greatP; simp
theorem greatP_ne {l : List UInt8} (h : l ≠ []) : greatP l ≠ [] := fun e => h (List.eq_nil_of_length_eq_zero (by rw [← greatP_len, e]; rfl))
theorem nameB_ne {l : List UInt8} (h : nameB l = true) : l ≠ [] := by
 unfold nameB at h
 simp only [Bool.and_eq_true, decide_eq_true_eq] at h
 exact h.1.1
theorem alikeP_len (c : Int) : (alikeP c).length ≤ 2 := by
 unfold alikeP
 repeat' split
 all_goals decide
theorem stepP_gd (r : List UInt8) (hl : r.length ≤ 2000) {kd : Int} {t : List UInt8} {n : Nat} (h : stepP r = .tok kd t n) (a c : Nat) : TokGd ⟨kd, t, a, c⟩ := by
 unfold stepP at h
 dsimp only at h
 split at h
 ·simp at h
 split at h
 ·simp at h
 split at h
 ·unfold wordsS at h
  dsimp only at h
  have hw : (r.take (runL wordB r)).length ≤ 8100 := by rw [List.length_take]; omega
  split at h
  ·rename_i hn
   simp only [Step.tok.injEq] at h
   obtain ⟨rfl, rfl, rfl⟩ := h
   exact .of (by decide) (by decide) hw (fun _ => hn) (fun h => no1 h (by decide)) (fun h => no1 h (by decide)) (fun h => no1 h (by decide))
  split at h
  ·rename_i hn
   simp only [Step.tok.injEq] at h
   obtain ⟨rfl, rfl, rfl⟩ := h
   exact .of (by decide) (by decide) (by rw [greatP_len]; omega) (fun h => no1 h (by decide)) (fun _ => ⟨_, hn, rfl⟩) (fun h => no1 h (by decide)) (fun h => no1 h (by decide))
  split at h
  ·rename_i hn
   simp only [Step.tok.injEq] at h
   obtain ⟨rfl, rfl, rfl⟩ := h
   exact .of (by decide) (by decide) (by rw [greatP_len]; omega) (fun h => no1 h (by decide)) (fun h => no1 h (by decide)) (fun h => no1 h (by decide)) (fun _ => greatP_ne (nameB_ne hn))
  ·simp at h
 split at h
 ·obtain ⟨rfl, h2⟩ := quotedF_len _ _ _ _ _ _ _ h
  rw [List.length_drop] at h2
  simp only [List.length_nil] at h2
  exact .of (by decide) (by decide) (by omega) (fun h => no1 h (by decide)) (fun h => no1 h (by decide)) (fun h => no1 h (by decide)) (fun h => no1 h (by decide))
 split at h
 ·obtain ⟨rfl, h2⟩ := failS_gd _ _ _ _ _ h
  have := errTexts_len t h2
  exact .of (by decide) (by decide) (by omega) (fun h => no1 h (by decide)) (fun h => no1 h (by decide)) (fun _ => h2) (fun h => no1 h (by decide))
 ·unfold opS at h
  split at h
  ·simp only [Step.tok.injEq] at h
   obtain ⟨rfl, rfl, rfl⟩ := h
   have := alikeP_len ((decodeL r).1 : Int)
   exact .of (by decide) (by decide) (by omega) (fun h => no1 h (by decide)) (fun h => no1 h (by decide)) (fun h => no1 h (by decide)) (fun h => no1 h (by decide))
  ·split at h
   ·rename_i e he
    simp only [Step.tok.injEq] at h
    obtain ⟨rfl, rfl, rfl⟩ := h
    have := twos_len e (twoS_fits r _ _ he).1
    exact .of (by decide) (by decide) (by omega) (fun h => no1 h (by decide)) (fun h => no1 h (by decide)) (fun h => no1 h (by decide)) (fun h => no1 h (by decide))
   ·split at h
    ·simp only [Step.tok.injEq] at h
     obtain ⟨rfl, rfl, rfl⟩ := h
     exact .of (by decide) (by decide) (by rw [List.length_take]; omega) (fun h => no1 h (by decide)) (fun h => no1 h (by decide)) (fun h => no1 h (by decide)) (fun h => no1 h (by decide))
    ·simp at h
theorem lexF_gd : ∀ (k : Nat) (r : List UInt8) (a c : Nat) (acc L : List Tok) (x : Nat), r.length ≤ 2000 → lexF k r a c acc = (L, x, 0) → (∀ t ∈ acc, TokGd t) → ∃ M a' c', L = M ++ [⟨0, [], a', c'⟩] ∧ (∀ t ∈ M, TokGd t) ∧ M.length ≤ acc.length + r.length
 | 0, r, a, c, acc, L, x, hr, h, hacc => by simp [lexF] at h
 | k + 1, r, a, c, acc, L, x, hr, h, hacc => by
   rw [lexF] at h
   split at h
   ·simp only [Prod.mk.injEq] at h
    obtain ⟨rfl, _⟩ := h
    exact ⟨acc, a, c, rfl, hacc, by omega⟩
   ·rename_i hne
    have hpos := List.length_pos_iff.2 hne
    split at h
    ·simp at h
    ·obtain ⟨M, a', c', h1, h2, h3⟩ := lexF_gd k _ _ _ _ _ _ (by rw [List.length_drop]; omega) h hacc
     rw [List.length_drop] at h3
     exact ⟨M, a', c', h1, h2, by omega⟩
    ·rename_i kd t n hst
     obtain ⟨f1, f2⟩ := (stepP_fits r hne).2 kd t n hst
     obtain ⟨M, a', c', h1, h2, h3⟩ := lexF_gd k _ _ _ _ _ _ (by rw [List.length_drop]; omega) h (fun u hu => by
      rcases List.mem_append.1 hu with hu | hu
      ·exact hacc u hu
      ·simp at hu; subst hu; exact stepP_gd r hr hst a c)
     rw [List.length_drop, List.length_append, List.length_singleton] at h3
     exact ⟨M, a', c', h1, h2, by omega⟩
theorem lexP_gd {s : List UInt8} (h : (lexP s).2.2 = 0) : ∃ M a' c', (lexP s).1 = M ++ [⟨0, [], a', c'⟩] ∧ (∀ t ∈ M, TokGd t) ∧ M.length ≤ 2000 := by
 unfold lexP at h ⊢
 split
 ·rename_i hl; rw [if_pos hl] at h; cases h
 ·rename_i hl
  rw [if_neg hl] at h
  obtain ⟨R, hR⟩ : ∃ R, lexF (s.length + 1) s 0 0 [] = R := ⟨_, rfl⟩
  rw [hR] at h ⊢
  obtain ⟨L, x, e⟩ := R
  dsimp only at h ⊢
  subst h
  obtain ⟨M, a', c', h1, h2, h3⟩ := lexF_gd _ _ _ _ _ _ _ (by omega) hR (by simp)
  exact ⟨M, a', c', h1, h2, by simp at h3; omega⟩
theorem getD_app_left {M : List Tok} {e : Tok} {i : Nat} (h : i < M.length) : (M ++ [e]).getD i endT = M.getD i endT := by
 rw [List.getD_eq_getElem?_getD, List.getD_eq_getElem?_getD, List.getElem?_append_left h]
theorem getD_mem {M : List Tok} {i : Nat} (h : i < M.length) : M.getD i endT ∈ M := by
 rw [List.getD_eq_getElem?_getD, List.getElem?_eq_getElem h]
 exact List.getElem_mem h
theorem lex_toks {s : List UInt8} (h : (lexP s).2.2 = 0) : TokOk (lexP s).1 ∧ (lexP s).1.length ≤ 2001 ∧ ∀ i, ((lexP s).1.getD i endT).kind ≠ 0 → TokGd ((lexP s).1.getD i endT) := by
 obtain ⟨M, a', c', h1, h2, h3⟩ := lexP_gd h
 rw [h1]
 have hl : (M ++ [(⟨0, [], a', c'⟩ : Tok)]).length = M.length + 1 := by simp
 have hlast : (M ++ [(⟨0, [], a', c'⟩ : Tok)]).getD M.length endT = ⟨0, [], a', c'⟩ := by
  rw [List.getD_eq_getElem?_getD, List.getElem?_append_right (Nat.le_refl _), Nat.sub_self]; rfl
 have hout : ∀ i, M.length < i → (M ++ [(⟨0, [], a', c'⟩ : Tok)]).getD i endT = endT := fun i hi => by
  rw [List.getD_eq_getElem?_getD, List.getElem?_eq_none (by rw [hl]; omega)]; rfl
 have hgd : ∀ i, i < M.length → TokGd ((M ++ [(⟨0, [], a', c'⟩ : Tok)]).getD i endT) := fun i hi => by
  rw [getD_app_left hi]; exact h2 _ (getD_mem hi)
 refine ⟨⟨⟨by rw [hl]; omega, fun i hi => ?_, fun i hi hk => ?_⟩, by rw [hl]; omega, fun i => ?_⟩, by rw [hl]; omega, fun i hk => ?_⟩
 ·rw [hl] at hi
  obtain rfl : i = M.length := by omega
  rw [hlast]
 ·rw [hl] at hi ⊢
  rcases Nat.lt_or_ge i M.length with h | h
  ·omega
  ·obtain rfl : i = M.length := by omega
   rw [hlast] at hk
   exact absurd rfl hk
 ·rcases Nat.lt_trichotomy i M.length with h | h | h
  ·have := (hgd i h).len; omega
  ·subst h; rw [hlast]; simp
  ·rw [hout i h]; simp [endT]
 ·rcases Nat.lt_trichotomy i M.length with h | h | h
  ·exact hgd i h
  ·subst h; rw [hlast] at hk; exact absurd rfl hk
  ·rw [hout i h] at hk; exact absurd rfl hk
def st0 : PSt := ⟨0, 0, 0, 0⟩
theorem st0_fit {T : List Tok} (h : Ends T) : Fit T st0 := ⟨h.pos, by decide, by decide, fun _ => by decide⟩
def parseR (s : List UInt8) : Nd × Int × Int := (parseT (30 * (lexP s).1.length + 30) s).getD (zN, 0, 0)
theorem betw_some {s : List UInt8} (h : (lexP s).2.2 = 0) : ∃ r, betwP (lexP s).1 (30 * (lexP s).1.length + 30) 0 st0 = some r := by
 obtain ⟨hT, _, _⟩ := lex_toks h
 refine (suffF hT.ends _).betw 0 st0 (by omega) (st0_fit hT.ends) ?_
 unfold Mz
 split
 ·show 30 * (_ - 0) + 20 ≤ _
  omega
 ·omega
set_option maxHeartbeats 2000000 in
theorem parseR_ok {σ : ASt} (hU : U8 σ) (hV : LV σ) (s : List UInt8) (hs : s.length ≤ 1000000000) : ACalls Tryz.prog 5 [.str s] σ fun v σ' => v = .tuple [(parseR s).1.av, .int .i64 (parseR s).2.1, .int .i64 (parseR s).2.2] ∧ σ' = σ := by
 have hL := fun (τ : ASt) (h : U8 τ) => lex_ok h s hs
 obtain ⟨R, hR⟩ : ∃ R, parseR s = R := ⟨_, rfl⟩
 rw [hR]
 unfold parseR parseT at hR
 have hbs := betw_some (s := s)
 have hto := lex_toks (s := s)
 obtain ⟨FU, hFU⟩ : ∃ FU, 30 * (lexP s).1.length + 30 = FU := ⟨_, rfl⟩
 rw [hFU] at hR hbs
 generalize lexP s = X at *
 obtain ⟨T, at', er⟩ := X
 dsimp only at *
 have hz : ∀ a e : Int, ∀ σ σ' : ASt, Fz σ σ' (resV [.agg [.int .i64 0, .int .i64 0, .str [], .int .i64 0, .int .i64 0, .bool false, .bool false, .int .i64 0, .int .i64 0, .bool false, .bool false, .sl .full []], .int .i64 a, .int .i64 e]) (.tuple [.agg (Nd.cs 0 0 [] .zero .zero []), .int .i64 a, .int .i64 e]) := fun a e σ σ' =>
  .tuple (.cons (.agg (.cons (.refl _) (.cons (.refl _) (.cons (.refl _) (.cons (.refl _) (.cons (.refl _) (.cons (.refl _) (.cons (.refl _) (.cons (.refl _) (.cons (.refl _) (.cons (.refl _) (.cons (.refl _) (.cons (.sl _ _) .nil))))))))))))) (.cons (.refl _) (.cons (.refl _) .nil)))
 refine a5 (by simp) ?_
 simp (disch := first | assumption | omega) only [go_sem]
 refine allocC_by fun d hd => ?_
 have hUd := hU.set hd (r := some (.obj zero12))
 have hVd : LV (σ.set d (some (.obj zero12))) := by
  unfold LV at hV ⊢
  rw [ASt.set_ne]
  ·exact hV
  ·rintro e; rw [← e, hV] at hd; cases hd
 unfold zero12 at hUd hVd
 simp (disch := first | assumption | omega) only [go_sem, reduceCtorEq, ↓reduceIte]
 refine (hL _ hUd).mono ?_
 rintro v σ1 ⟨rfl, rfl⟩
 by_cases he : er = 0
 ·rw [if_neg (by simp [he])] at hR
  obtain ⟨hT, hTl, _⟩ := hto he
  obtain ⟨r1, hr1⟩ := hbs he
  have hr1' : betwP T FU 0 ⟨0, 0, 0, 0⟩ = some r1 := hr1
  rw [hr1'] at hR
  have hw := (wentF hT.ends FU).betw _ _ _ hr1 (st0_fit hT.ends)
  have hwk := (walkF hT FU).betw
  obtain ⟨n, s1⟩ := r1
  dsimp only at hR hw
  obtain ⟨s2, hs2⟩ : ∃ s2, (if (curT T s1).kind ≠ 0 then failP T s1 10 else s1) = s2 := ⟨_, rfl⟩
  rw [hs2] at hR
  simp (disch := first | assumption | omega) only [go_sem, Nat.reduceEqDiff, Nat.reduceAdd, Nat.reduceLeDiff, ↓reduceIte, he]
  refine boxC_by rfl fun b hb => ?_
  have hbd : b ≠ d := by rintro rfl; rw [ASt.set_same] at hb; cases hb
  have hb0 : σ b = none := by rwa [ASt.set_ne hbd] at hb
  have hbp : (σ.set b (pr T st0)) b = pr T st0 := ASt.set_same _ _ _
  have hVb : LV (σ.set b (pr T st0)) := by
   unfold LV at hV ⊢
   rw [ASt.set_ne]
   ·exact hV
   ·rintro e; rw [← e, hV] at hb0; cases hb0
  obtain ⟨_, T2, S2⟩ := St2.of (σ := σ.set b (pr T st0)) (b := b) (d := d) (by rw [ASt.set_ne (Ne.symm hbd)]; exact hd) (pr_fix hbp).1 (pr_fix hbp).2
  have V2 : ∀ X Y, LV (T2 X Y) := fun X Y => S2.fix _ _ _ _ hVb
  have hst : ∀ Z : Option Role, (σ.set d Z).set b (some (.obj [.sl .shr (T.map tokAV), .int .i64 0, .int .i64 0, .int .i64 0, .int .i64 0])) = T2 (pr T st0) Z := fun Z => by
   have := S2.ba (pr T st0) Z
   rw [← this, set_swap hbd, ASt.set_set]
   rfl
  have k1 := S2.s1
  have hcb := fun Y => hwk b 0 st0 (n, s1) (by omega) hr1 (st0_fit hT.ends) _ (V2 (pr T st0) Y) (S2.a1 _ _)
  rw [show ((0 : Nat) : Int) = 0 from rfl] at hcb
  dsimp only at hcb
  obtain ⟨o, m, t, x, y, ks⟩ := n
  simp only [Nd.av_cs] at hcb
  generalize hKL : ks.map Nd.av = KL at *
  simp (disch := first | assumption | omega) only [go_sem, ↓reduceIte, hst]
  refine (hcb _).mono ?_
  rintro v σ1 ⟨rfl, rfl⟩
  rw [k1]
  simp (disch := first | assumption | omega) only [go_sem]
  refine allocC_by fun e he2 => ?_
  obtain ⟨hbe, hde, T3, S3⟩ := St3.of S2 (X0 := .obj _) he2
  have ab := S3.ab
  have k3 := S3.s3
  have k2 := S3.s2
  have k1 := S3.s1
  have w3 := S3.a3
  have w2 := S3.a2
  have w1 := S3.a1
  have hDr : ∀ X Y Z, Drop (T3 X Y Z) σ := fun X Y Z => by
   have h1 := S3.drop X Y Z
   rw [ASt.set_set] at h1
   exact h1.trans (Drop.set hb0)
  have hcu := fun Y Z => pcur_ok (T := T) hw.fit.i (w1 (pr T s1) Y Z)
  have hfl := fun τ hh => pfail_ok (T := T) (s := s1) hw.fit.i 10 (σ := τ) (b := b) hh
  generalize curT T s1 = tk at *
  unfold tokAV at hcu
  obtain ⟨F, hF⟩ : ∃ F, F = ACode.wp Tryz.prog c5_20 := ⟨_, rfl⟩
  have fin : ∀ a1 : AFr, (a1 2 = .ptr d 0 ∧ a1 8 = .ptr b 0 ∧ a1 9 = .ptr e 0) → F (RetQ [.c 2 (some 12), .t 3, .t 4] fun v σ' => v = .tuple [R.1.av, .int .i64 R.2.1, .int .i64 R.2.2] ∧ σ' = σ) a1 (T3 (pr T s2) (some (.obj zero12)) (some (.obj (Nd.cs o m t x y KL)))) := by
   intro a1 hf1
   rw [hF]
   unfold zero12
   have x1 : ∀ Y Z, T3 (pr T s2) Y Z b = some (.obj [.sl .shr (T.map tokAV), .int .i64 s2.i, .int .i64 s2.deep, .int .i64 s2.err, .int .i64 s2.bad]) := fun Y Z => w1 _ _ _
   by_cases h2 : s2.err = 0
   ·rw [if_neg (by simp [h2])] at hR
    have hR' : (Nd.mk o m t x y ks, (0 : Int), (0 : Int)) = R := hR
    subst hR'
    dsimp only
    rw [Nd.av_cs, hKL]
    simp (disch := first | assumption | omega) only [go_sem, Nat.reduceEqDiff, Nat.reduceAdd, Nat.reduceLeDiff, ↓reduceIte, hf1, x1, h2, w3, w2, k2]
    exact retC_by (hDr _ _ _) (.refl _) ⟨rfl, rfl⟩
   ·rw [if_pos h2] at hR
    have hR' : (zN, s2.bad, s2.err) = R := hR
    subst hR'
    dsimp only
    rw [zN_av]
    simp (disch := first | assumption | omega) only [go_sem, Nat.reduceEqDiff, Nat.reduceAdd, Nat.reduceLeDiff, ↓reduceIte, Bool.true_and, hf1, x1, h2, w2, k2]
    exact retC_by (hDr _ _ _) (hz _ _ _ _) ⟨rfl, rfl⟩
  unfold zero12 at fin
  simp (disch := first | assumption | omega) only [go_sem, Nat.reduceEqDiff, Nat.reduceAdd, Nat.reduceLeDiff, ↓reduceIte, ab, k3, w3, ←hF]
  refine (hcu _ _).mono ?_
  rintro v σ1 ⟨rfl, rfl⟩
  by_cases hk : tk.kind = 0
  ·rw [if_neg (by simp [hk])] at hs2
   subst hs2
   simp (disch := first | assumption | omega) only [go_sem, ↓reduceIte, hk]
   refine fin _ ?_
   simp (disch := first | assumption | omega) only [go_sem, Nat.reduceEqDiff, ↓reduceIte]
  ·rw [if_pos hk] at hs2
   subst hs2
   simp (disch := first | assumption | omega) only [go_sem, Nat.reduceEqDiff, ↓reduceIte, hk]
   refine (hfl _ (w1 _ _ _)).mono ?_
   rintro v σ1 ⟨rfl, rfl⟩
   rw [k1]
   simp (disch := first | assumption | omega) only [go_sem]
   refine fin _ ?_
   simp (disch := first | assumption | omega) only [go_sem, Nat.reduceEqDiff, ↓reduceIte]
 ·rw [if_pos he] at hR
  have hR' : (zN, (at' : Int), er) = R := hR
  subst hR'
  rw [zN_av]
  simp (disch := first | assumption | omega) only [go_sem, Nat.reduceEqDiff, Nat.reduceAdd, Nat.reduceLeDiff, ↓reduceIte, Bool.true_and, he, ASt.set_set]
  exact retC_by (Drop.set hd) (hz _ _ _ _) ⟨rfl, rfl⟩
end Go.A
namespace Go.A
open Go.Proofs Go.Lib
theorem columnP_rng (l : List UInt8) : 0 ≤ (columnP l).1 ∧ (columnP l).1 < 700 := by
 unfold columnP
 split
 ·split
  ·decide
  ·dsimp only; omega
 ·decide
theorem readQ_good (l : List UInt8) (i : Nat) (col : Int) (ar ac : Bool) (h : 0 ≤ col ∧ col < 700) : (readQ l i col ar ac).1.good = true := by
 unfold readQ
 split
 ·rfl
 ·simp only [Ref.good, decide_eq_true_eq]; omega
theorem readR_good (l : List UInt8) (i : Nat) (ac : Bool) : (readR l i ac).1.good = true := by
 unfold readR
 split
 ·rfl
 split
 ·exact readQ_good _ _ _ _ _ (columnP_rng _)
 ·exact readQ_good _ _ _ _ _ (columnP_rng _)
theorem parseP_good (l : List UInt8) : (parseP l).1.good = true := by
 unfold parseP
 split
 ·rfl
 ·unfold readP
  split
  ·exact readR_good _ _ _
  ·exact readR_good _ _ _
theorem parseQ_rng {m d : Bool} {w p : List UInt8} {v : Int} (h : parseQ m w p d = some v) : v.natAbs ≤ 999999999999999999 := by
 unfold parseQ at h
 split at h
 ·cases h
 ·obtain ⟨n, _, hn⟩ := Option.bind_eq_some_iff.1 h
  unfold madeP at hn
  split at hn
  ·injection hn with hn
   split at hn <;> omega
  ·cases hn
theorem parseD_rng {s : List UInt8} {v : Int} (h : parseD s = some v) : v.natAbs ≤ 999999999999999999 := parseQ_rng h
mutual
def Nd.nk : Nd → Prop
 | .mk op _ _ _ _ ks => ((op = 5 ∨ op = 6) → ks = []) ∧ Nd.nks ks
def Nd.nks : List Nd → Prop
 | [] => True
 | x :: xs => x.nk ∧ Nd.nks xs
end
theorem nks_mem : ∀ {l : List Nd}, Nd.nks l ↔ ∀ x ∈ l, x.nk
 | [] => by simp [Nd.nks]
 | x :: xs => by rw [Nd.nks, nks_mem (l := xs)]; simp
def Nd.gd (n : Nd) : Prop := n.ok ∧ n.nk
theorem gd_mk {op n : Int} {s : List UInt8} {a b : Ref} {ks : List Nd} (h : nodeOk op n s a b ks.length) (h2 : (op = 5 ∨ op = 6) → ks = []) (hk : ∀ x ∈ ks, x.gd) : (Nd.mk op n s a b ks).gd := by
 constructor
 ·rw [Nd.ok]
  exact ⟨h, Nd.oks_mem.2 fun x hx => (hk x hx).1⟩
 ·rw [Nd.nk]
  exact ⟨h2, nks_mem.2 fun x hx => (hk x hx).2⟩
theorem no_kids {x : Nd} : ∀ y ∈ ([] : List Nd), y.gd := fun y hy => by cases hy
theorem miss_gd : missN.gd := gd_mk ⟨by decide, fun h => by omega, fun h => by omega, fun h => by omega, fun h => by omega, fun h => by omega, fun h => by omega, fun h => by omega, fun h => by omega, by decide⟩ (fun h => by omega) (no_kids (x := missN))
theorem sign_rng {x : List UInt8} {lvl : Nat} (h : x ∈ levelsL.getD lvl []) : 0 ≤ idxP signL x ∧ idxP signL x ≤ 11 := by
 have : ∀ y ∈ levelsL.flatten, 0 ≤ idxP signL y ∧ idxP signL y ≤ 11 := by decide
 refine this x (List.mem_flatten.2 ?_)
 rw [List.getD_eq_getElem?_getD] at h
 cases hl : levelsL[lvl]? with
 | none => rw [hl] at h; simp at h
 | some l => rw [hl] at h; exact ⟨l, List.mem_of_getElem? hl, h⟩
theorem fault_rng {x : List UInt8} (h : x ∈ errTexts) : 0 ≤ idxP errL x ∧ idxP errL x ≤ 6 := by
 have : ∀ y ∈ errTexts, 0 ≤ idxP errL y ∧ idxP errL y ≤ 6 := by decide
 exact this x h
theorem sizes_snoc (l : List Nd) (x : Nd) : Nd.sizes (l ++ [x]) = Nd.sizes l + x.size := by
 induction l with
 | nil => simp [Nd.sizes]
 | cons y l ih => rw [List.cons_append, Nd.sizes, ih, Nd.sizes]; omega
section
variable {T : List Tok}
theorem Went.e0 {s s' : PSt} (h : Went T s s') (h0 : s'.err = 0) : s.err = 0 := by
 by_cases he : s.err = 0
 ·exact he
 ·have := (h.err he).1; omega
theorem enter_i {s : PSt} (h : (stepP1 (enterP T s)).err = 0) : (stepP1 (enterP T s)).i = s.i + 1 := by
 have hi : (enterP T s).i = s.i := by
  unfold enterP failP
  split
  ·split <;> rfl
  ·rfl
 unfold stepP1 at h ⊢
 split
 ·show (enterP T s).i + 1 = _
  omega
 ·rename_i hne
  rw [if_neg hne] at h
  exact absurd h hne
theorem must_i {s : PSt} {x : List UInt8} (h : (mustP T s x).err = 0) : s.err = 0 ∧ (mustP T s x).i = s.i + 1 := by
 unfold mustP at h ⊢
 split
 ·rename_i hx
  rw [if_pos hx] at h
  exact ⟨h, rfl⟩
 ·rename_i hx
  rw [if_neg hx] at h
  unfold failP at h
  split at h
  ·cases h
  ·rename_i hne; exact absurd h hne
theorem fail_err {s : PSt} {e : Int} (he : e ≠ 0) (h : (failP T s e).err = 0) : False := by
 unfold failP at h
 split at h
 ·exact he h
 ·rename_i hne; exact hne h
structure GoodF (T : List Tok) (f : Nat) : Prop where
 betw : ∀ lvl s r, betwP T f lvl s = some r → Fit T s → r.2.err = 0 → r.1.gd ∧ r.1.size + 2 * s.i ≤ 2 * r.2.i
 loop : ∀ lvl n s r, loopP T f lvl n s = some r → Fit T s → r.2.err = 0 → n.gd → r.1.gd ∧ r.1.size + 2 * s.i ≤ n.size + 2 * r.2.i
 signed : ∀ s r, signedP T f s = some r → Fit T s → r.2.err = 0 → r.1.gd ∧ r.1.size + 2 * s.i ≤ 2 * r.2.i
 hundred : ∀ s r, hundredP T f s = some r → Fit T s → r.2.err = 0 → r.1.gd ∧ r.1.size + 2 * s.i ≤ 2 * r.2.i
 hloop : ∀ n s r, hloopP T f n s = some r → Fit T s → r.2.err = 0 → n.gd → r.1.gd ∧ r.1.size + 2 * s.i ≤ n.size + 2 * r.2.i
 prim : ∀ s r, primP T f s = some r → Fit T s → r.2.err = 0 → r.1.gd ∧ r.1.size + 2 * s.i ≤ 2 * r.2.i
 name : ∀ s r, nameP T f s = some r → Fit T s → (curT T s).kind = 3 → r.2.err = 0 → r.1.gd ∧ r.1.size + 2 * s.i ≤ 2 * r.2.i
 args : ∀ s r, argsP T f s = some r → Fit T s → r.2.err = 0 → (∀ x ∈ r.1, x.gd) ∧ Nd.sizes r.1 + 2 * s.i ≤ 2 * r.2.i
 aloop : ∀ l s r, aloopP T f l s = some r → Fit T s → r.2.err = 0 → (∀ x ∈ l, x.gd) → (∀ x ∈ r.1, x.gd) ∧ Nd.sizes r.1 + 2 * s.i ≤ Nd.sizes l + 2 * r.2.i
theorem leaf_gd {op n : Int} {s : List UInt8} {a b : Ref} (h : nodeOk op n s a b 0) : (Nd.mk op n s a b []).gd := gd_mk h (fun _ => rfl) (no_kids (x := missN))
theorem leaf_size (op n : Int) (s : List UInt8) (a b : Ref) : (Nd.mk op n s a b []).size = 1 := by rw [Nd.size, Nd.sizes]
theorem one_size (op n : Int) (s : List UInt8) (a b : Ref) (x : Nd) : (Nd.mk op n s a b [x]).size = 1 + x.size := by rw [Nd.size, Nd.sizes, Nd.sizes]; omega
theorem two_size (op n : Int) (s : List UInt8) (a b : Ref) (x y : Nd) : (Nd.mk op n s a b [x, y]).size = 1 + x.size + y.size := by rw [Nd.size, Nd.sizes, Nd.sizes, Nd.sizes]; omega
theorem one_gd {op n : Int} {s : List UInt8} {a b : Ref} {x : Nd} (h : nodeOk op n s a b 1) (h5 : op ≠ 5 ∧ op ≠ 6) (hx : x.gd) : (Nd.mk op n s a b [x]).gd :=
 gd_mk h (fun h => by omega) fun y hy => by simp at hy; subst hy; exact hx
theorem one_ok {op : Int} (h : op = 7 ∨ op = 8 ∨ op = 9) : nodeOk op 0 [] .zero .zero 1 :=
 ⟨by omega, fun h => by omega, fun h => by omega, fun h => by omega, fun h => by omega, fun h => by omega, fun h => by omega, fun h => by omega, fun h => by omega, by decide⟩
theorem goodF (hT : Ends T) (hG : ∀ i, (T.getD i endT).kind ≠ 0 → TokGd (T.getD i endT)) (hL : T.length ≤ 100000) : ∀ f, GoodF T f
 | 0 => by
   constructor
   all_goals intros
   all_goals first
    | (rename_i h _ _; simp only [betwP, signedP, hundredP, primP, argsP, reduceCtorEq] at h)
    | (rename_i h _ _ _; simp only [loopP, hloopP, nameP, aloopP, reduceCtorEq] at h)
 | f + 1 => by
   have ih := goodF hT hG hL f
   have W := wentF hT f
   constructor
   ·intro lvl s r h hf h0
    rw [betwP] at h
    split at h
    ·exact ih.signed s r h hf h0
    ·split at h
     ·cases h
     ·rename_i r1 h1
      have w1 := W.betw _ _ _ h1 hf
      have w2 := W.loop _ _ _ _ h w1.fit
      obtain ⟨g1, g2⟩ := ih.betw _ _ _ h1 hf (w2.e0 h0)
      obtain ⟨g3, g4⟩ := ih.loop _ _ _ _ h w1.fit h0 g1
      exact ⟨g3, by omega⟩
   ·intro lvl n s r h hf h0 hn
    rw [loopP] at h
    split at h
    ·rename_i hk
     split at h
     ·cases h
     ·rename_i r1 h1
      have w0 := Went.next hT hf (sgn_kind hk)
      have w1 := W.betw _ _ _ h1 w0.fit
      have w2 := W.loop _ _ _ _ h w1.fit
      obtain ⟨g1, g2⟩ := ih.betw _ _ _ h1 w0.fit (w2.e0 h0)
      have hs : (curT T s).text ∈ levelsL.getD lvl [] := by
       unfold sgn at hk
       simp only [Bool.and_eq_true, decide_eq_true_eq] at hk
       exact hk.2
      have hr := sign_rng hs
      have hg : (Nd.mk (10 + idxP signL (curT T s).text) 0 [] .zero .zero [n, r1.1]).gd := by
       refine gd_mk ⟨by omega, fun h => by omega, fun h => by omega, fun h => by omega, fun h => by omega, fun h => by omega, fun h => by omega, fun h => by omega, fun h => by simp, by simp⟩ (fun h => by omega) fun y hy => ?_
       simp only [List.mem_cons, List.not_mem_nil, or_false] at hy
       rcases hy with rfl | rfl
       ·exact hn
       ·exact g1
      obtain ⟨g3, g4⟩ := ih.loop _ _ _ _ h w1.fit h0 hg
      rw [two_size] at g4
      have : s.next.i = s.i + 1 := rfl
      exact ⟨g3, by omega⟩
    ·injection h with h; subst h; exact ⟨hn, by dsimp only; omega⟩
   ·intro s r h hf h0
    rw [signedP] at h
    split at h
    ·rename_i hk
     split at h
     ·cases h
     ·rename_i r1 h1
      injection h with h; subst h
      obtain ⟨e1, e2, e3⟩ := enter_fit hT hf (isOp_kind hk)
      have w1 := W.signed _ _ h1 e1
      have e4 := enter_i (w1.e0 h0)
      obtain ⟨g1, g2⟩ := ih.signed _ _ h1 e1 h0
      dsimp only
      rw [one_size]
      exact ⟨one_gd (one_ok (by omega)) (by omega) g1, by show _ ≤ 2 * r1.2.i; omega⟩
    split at h
    ·rename_i hk
     split at h
     ·cases h
     ·rename_i r1 h1
      injection h with h; subst h
      obtain ⟨e1, e2, e3⟩ := enter_fit hT hf (isOp_kind hk)
      have w1 := W.signed _ _ h1 e1
      have e4 := enter_i (w1.e0 h0)
      obtain ⟨g1, g2⟩ := ih.signed _ _ h1 e1 h0
      dsimp only
      rw [one_size]
      exact ⟨one_gd (one_ok (by omega)) (by omega) g1, by show _ ≤ 2 * r1.2.i; omega⟩
    ·exact ih.hundred _ _ h hf h0
   ·intro s r h hf h0
    rw [hundredP] at h
    split at h
    ·cases h
    ·rename_i r1 h1
     have w1 := W.prim _ _ h1 hf
     have w2 := W.hloop _ _ _ h w1.fit
     obtain ⟨g1, g2⟩ := ih.prim _ _ h1 hf (w2.e0 h0)
     obtain ⟨g3, g4⟩ := ih.hloop _ _ _ h w1.fit h0 g1
     exact ⟨g3, by omega⟩
   ·intro n s r h hf h0 hn
    rw [hloopP] at h
    split at h
    ·rename_i hk
     have w0 := Went.next hT hf (isOp_kind hk)
     obtain ⟨g3, g4⟩ := ih.hloop _ _ _ h w0.fit h0 (one_gd (one_ok (by omega)) (by omega) hn)
     rw [one_size] at g4
     have : s.next.i = s.i + 1 := rfl
     exact ⟨g3, by omega⟩
    ·injection h with h; subst h; exact ⟨hn, by dsimp only; omega⟩
   ·intro s r h hf h0
    have hni : s.next.i = s.i + 1 := rfl
    have hgd : (curT T s).kind ≠ 0 → TokGd (curT T s) := fun hk => by
     have he := cur_err hk
     rw [cur_at he] at hk ⊢
     exact hG _ hk
    rw [primP] at h
    split at h
    ·rename_i hk
     split at h
     ·injection h with h; subst h; exact absurd h0 fun h => fail_err (by decide) h
     ·rename_i v hv
      injection h with h; subst h
      refine ⟨leaf_gd ⟨by decide, fun _ => parseD_rng hv, fun h => by omega, fun h => by omega, fun h => by omega, fun h => by omega, fun h => by omega, fun h => by omega, fun h => by omega, by decide⟩, ?_⟩
      rw [leaf_size]; dsimp only; omega
    split at h
    ·rename_i hk
     injection h with h; subst h
     have := (hgd (by omega)).len
     refine ⟨leaf_gd ⟨by decide, fun h => by omega, fun _ => by omega, fun h => by omega, fun h => by omega, fun h => by omega, fun h => by omega, fun h => by omega, fun h => by omega, by decide⟩, ?_⟩
     rw [leaf_size]; dsimp only; omega
    split at h
    ·rename_i hk
     injection h with h; subst h
     have hr := fault_rng ((hgd (by omega)).err hk)
     have hq : ((idxP errL (curT T s).text + 1) * 10000).tdiv 10000 = idxP errL (curT T s).text + 1 := Int.mul_tdiv_cancel _ (by decide)
     refine ⟨leaf_gd ⟨by decide, fun h => by omega, fun h => by omega, fun h => by rw [hq]; omega, fun h => by omega, fun h => by omega, fun h => by omega, fun h => by omega, fun h => by omega, by decide⟩, ?_⟩
     rw [leaf_size]; dsimp only; omega
    split at h
    ·rename_i hk
     injection h with h; subst h
     unfold areaP at h0 ⊢
     split at h0
     ·rename_i ho
      rw [if_pos ho]
      refine ⟨leaf_gd ⟨by decide, fun h => by omega, fun h => by omega, fun h => by omega, fun h => by omega, fun _ => parseP_good _, fun h => by omega, fun h => by omega, fun h => by omega, by decide⟩, ?_⟩
      rw [leaf_size]; dsimp only; omega
     ·rename_i ho
      rw [if_neg ho]
      split at h0
      ·exact absurd h0 fun h => fail_err (by decide) h
      ·rename_i hk2
       rw [if_neg hk2]
       refine ⟨leaf_gd ⟨by decide, fun h => by omega, fun h => by omega, fun h => by omega, fun h => by omega, fun _ => parseP_good _, fun _ => parseP_good _, fun h => by omega, fun h => by omega, by decide⟩, ?_⟩
       rw [leaf_size]
       have : s.next.next.next.i = s.i + 3 := rfl
       dsimp only; omega
    split at h
    ·rename_i hk
     exact ih.name _ _ h hf hk h0
    split at h
    ·rename_i hk
     split at h
     ·cases h
     ·rename_i r1 h1
      injection h with h; subst h
      obtain ⟨e1, e2, e3⟩ := enter_fit hT hf (isOp_kind hk)
      have w1 := W.betw _ _ _ h1 e1
      obtain ⟨m1, m2⟩ := must_i (T := T) (s := r1.2) (x := [41]) h0
      have e4 := enter_i (w1.e0 m1)
      obtain ⟨g1, g2⟩ := ih.betw _ _ _ h1 e1 m1
      exact ⟨g1, by show _ ≤ 2 * (mustP T r1.2 [41]).i; dsimp only; omega⟩
    ·injection h with h; subst h; exact absurd h0 fun h => fail_err (by decide) h
   ·intro s r h hf hk3 h0
    have hni : s.next.i = s.i + 1 := rfl
    have he0 : s.err = 0 := cur_err (T := T) (by omega)
    have hn := hf.next hT (by omega)
    have hgd : TokGd (curT T s) := by
     have hk : (curT T s).kind ≠ 0 := by omega
     rw [cur_at he0] at hk ⊢
     exact hG _ hk
    rw [nameP] at h
    split at h
    ·rename_i hk
     obtain ⟨e1, e2, e3⟩ := enter_err hT hf he0
     split at h
     ·rename_i he
      injection h with h; subst h
      exact absurd h0 he
     ·rename_i he
      split at h
      ·cases h
      ·rename_i r1 h1
       injection h with h; subst h
       obtain ⟨g1, g2, g3, _⟩ := enter2 hT hf (by omega) (by simpa using he)
       have hl := hT.more (s.i + 1) hn.1.i (by omega)
       have g4 : Fit T (enterP T s).next.next := ⟨by show (enterP T s).i + 1 + 1 < _; omega, g1.d0, g1.d1, g1.d2⟩
       have w1 := W.args _ _ h1 g4
       obtain ⟨k1, k2⟩ := ih.args _ _ h1 g4 h0
       have hi2 : (enterP T s).next.next.i = (enterP T s).i + 2 := rfl
       have hsl := sizes_len r1.1
       have hlt := w1.fit.i
       refine ⟨gd_mk ⟨by decide, fun h => by omega, fun h => by omega, fun h => by omega, fun _ => hgd.nam hk3, fun h => by omega, fun h => by omega, fun h => by omega, fun h => by omega, by omega⟩ (fun h => by omega) k1, ?_⟩
       dsimp only
       rw [Nd.size]
       show _ ≤ 2 * r1.2.i
       omega
    split at h
    ·injection h with h; subst h
     refine ⟨leaf_gd ⟨by decide, fun h => by omega, fun h => by omega, fun h => by omega, fun h => by omega, fun h => by omega, fun h => by omega, fun h => by omega, fun h => by omega, by decide⟩, ?_⟩
     rw [leaf_size]; dsimp only; omega
    split at h
    ·injection h with h; subst h
     refine ⟨leaf_gd ⟨by decide, fun h => by omega, fun h => by omega, fun h => by omega, fun h => by omega, fun h => by omega, fun h => by omega, fun h => by omega, fun h => by omega, by decide⟩, ?_⟩
     rw [leaf_size]; dsimp only; omega
    ·injection h with h; subst h; exact absurd h0 fun h => fail_err (by decide) h
   ·intro s r h hf h0
    rw [argsP] at h
    split at h
    ·rename_i hk
     injection h with h; subst h
     refine ⟨no_kids (x := missN), ?_⟩
     have : s.next.i = s.i + 1 := rfl
     rw [Nd.sizes]; dsimp only; omega
    ·obtain ⟨g1, g2⟩ := ih.aloop _ _ _ h hf h0 (no_kids (x := missN))
     rw [Nd.sizes] at g2
     exact ⟨g1, by omega⟩
   ·intro l s r h hf h0 hl
    rw [aloopP] at h
    split at h
    ·rename_i he
     injection h with h; subst h; exact absurd h0 he
    ·rename_i he
     split at h
     ·cases h
     ·rename_i r1 h1
      have w1 : Went T s r1.2 := by
       split at h1
       ·injection h1 with h1; subst h1; exact Went.refl hf
       ·exact W.betw _ _ _ h1 hf
      have key : r1.2.err = 0 → r1.1.gd ∧ r1.1.size + 2 * s.i ≤ 1 + 2 * r1.2.i := fun k0 => by
       split at h1
       ·injection h1 with h1; subst h1
        refine ⟨miss_gd, ?_⟩
        show missN.size + _ ≤ _
        unfold missN
        rw [leaf_size]
        dsimp only
        omega
       ·obtain ⟨k1, k2⟩ := ih.betw _ _ _ h1 hf k0
        exact ⟨k1, by omega⟩
      have hsnoc := sizes_snoc l r1.1
      have hmem : r1.1.gd → ∀ x ∈ l ++ [r1.1], x.gd := fun k x hx => by
       rcases List.mem_append.1 hx with hx | hx
       ·exact hl x hx
       ·simp at hx; subst hx; exact k
      split at h
      ·rename_i hk
       have w2 := Went.next hT w1.fit (isOp_kind hk)
       have w3 := W.aloop _ _ _ h w2.fit
       obtain ⟨k1, k2⟩ := key (w2.e0 (w3.e0 h0))
       obtain ⟨g1, g2⟩ := ih.aloop _ _ _ h w2.fit h0 (hmem k1)
       have : r1.2.next.i = r1.2.i + 1 := rfl
       exact ⟨g1, by omega⟩
      ·injection h with h; subst h
       obtain ⟨m1, m2⟩ := must_i (T := T) (s := r1.2) (x := [41]) h0
       obtain ⟨k1, k2⟩ := key m1
       exact ⟨hmem k1, by dsimp only; omega⟩
end
theorem parseR_gd {s : List UInt8} (h : (parseR s).2.2 = 0) : (parseR s).1.gd ∧ (parseR s).1.size ≤ 5000 := by
 unfold parseR parseT at h ⊢
 by_cases h1 : (lexP s).2.2 = 0
 ·obtain ⟨hT, hL, hG⟩ := lex_toks h1
  obtain ⟨r, hr⟩ := betw_some h1
  have hr' := hr
  unfold st0 at hr
  rw [if_neg (by simp [h1]), hr] at h ⊢
  dsimp only at h ⊢
  have W := (wentF hT.ends _).betw _ _ _ hr' (st0_fit hT.ends)
  obtain ⟨q, hq⟩ : ∃ q, (if (curT (lexP s).1 r.2).kind ≠ 0 then failP (lexP s).1 r.2 10 else r.2) = q := ⟨_, rfl⟩
  rw [hq] at h ⊢
  by_cases he : q.err ≠ 0
  ·rw [if_pos he] at h
   exact absurd h he
  ·rw [if_neg he]
   have h0 : r.2.err = 0 := by
    split at hq
    ·subst hq
     exact absurd (by simpa using he) fun h => fail_err (T := (lexP s).1) (s := r.2) (e := 10) (by decide) h
    ·subst hq
     simpa using he
   obtain ⟨g1, g2⟩ := (goodF hT.ends hG (by omega) _).betw _ _ _ hr' (st0_fit hT.ends) h0
   have := W.fit.i
   refine ⟨g1, ?_⟩
   show r.1.size ≤ _
   omega
 ·rw [if_pos (by simpa using h1)] at h
  exact absurd h h1
end Go.A
namespace Go.A
open Go.Proofs Go.Lib
theorem decN0 {n b0 b1 b2 b3 : Nat} (h1 : ¬ (1 < n ∧ b1 / 64 = 2)) : decodeN n b0 b1 b2 b3 = if b0 < 128 then (b0, 1) else (65533, 1) := by
 unfold decodeN
 by_cases h0 : b0 < 128
 ·rw [if_pos h0, if_pos h0]
 ·rw [if_neg h0, if_neg h0, if_neg (fun h => h1 h.2), if_neg (fun h => h1 h.2.1), if_neg (fun h => h1 h.2.1)]
theorem decN1 {n b0 b1 b2 b3 : Nat} (h1 : 1 < n ∧ b1 / 64 = 2) (h2 : ¬ (2 < n ∧ b2 / 64 = 2)) : decodeN n b0 b1 b2 b3 = if b0 < 128 then (b0, 1) else if b0 / 32 = 6 then (if b0 % 32 * 64 + b1 % 64 ≥ 128 then (b0 % 32 * 64 + b1 % 64, 2) else (65533, 1)) else (65533, 1) := by
 unfold decodeN
 by_cases h0 : b0 < 128
 ·rw [if_pos h0, if_pos h0]
 rw [if_neg h0, if_neg h0]
 by_cases h6 : b0 / 32 = 6
 ·rw [if_pos ⟨h6, h1⟩, if_pos h6]
 ·rw [if_neg (fun h => h6 h.1), if_neg h6, if_neg (fun h => h2 h.2.2), if_neg (fun h => h2 h.2.2.1)]
theorem decN2 {n m b0 b1 b2 b3 b3' : Nat} (h1 : 1 < n ∧ b1 / 64 = 2) (h2 : 2 < n ∧ b2 / 64 = 2) (h3 : ¬ (3 < n ∧ b3 / 64 = 2)) (hm : 2 < m) (h3' : ¬ (3 < m ∧ b3' / 64 = 2)) : decodeN n b0 b1 b2 b3 = decodeN m b0 b1 b2 b3' := by
 unfold decodeN
 have e1 : (1 < n ∧ b1 / 64 = 2) = (1 < m ∧ b1 / 64 = 2) := propext ⟨fun h => ⟨by omega, h.2⟩, fun h => h1⟩
 have e2 : (2 < n ∧ b2 / 64 = 2) = (2 < m ∧ b2 / 64 = 2) := propext ⟨fun h => ⟨by omega, h.2⟩, fun h => h2⟩
 simp only [e1, e2, h3, h3', and_false, if_false]
theorem decN4 {n m b0 b1 b2 b3 : Nat} (hn : 3 < n) (hm : 3 < m) : decodeN n b0 b1 b2 b3 = decodeN m b0 b1 b2 b3 := by
 unfold decodeN
 have e1 : (1 < n) = (1 < m) := propext ⟨fun _ => by omega, fun _ => by omega⟩
 have e2 : (2 < n) = (2 < m) := propext ⟨fun _ => by omega, fun _ => by omega⟩
 have e3 : (3 < n) = (3 < m) := propext ⟨fun _ => by omega, fun _ => by omega⟩
 simp only [e1, e2, e3]
def Stop (x : List UInt8) : Prop := ∀ c y, x = c :: y → c.toNat / 64 ≠ 2
theorem Stop.at {x : List UInt8} (h : Stop x) (m : Nat) : ¬ (m < m + x.length ∧ (x.getD 0 0).toNat / 64 = 2) := by
 rintro ⟨h1, h2⟩
 cases x with
 | nil => simp at h1
 | cons c y => exact h c y rfl h2
theorem decode_local {r x : List UInt8} (hr : r ≠ []) (hx : Stop x) : decodeL (r ++ x) = decodeL r := by
 rw [decodeL_N, decodeL_N]
 match r, hr with
 | [a], _ =>
   have h1 := hx.at 1
   have e : ([a] ++ x).length = 1 + x.length := by simp; omega
   rw [e]
   refine (decN0 ?_).trans (decN0 ?_).symm
   ·exact h1
   ·simp
 | [a, b], _ =>
   have h1 := hx.at 2
   have e : ([a, b] ++ x).length = 2 + x.length := by simp; omega
   rw [e]
   by_cases c1 : b.toNat / 64 = 2
   ·refine (decN1 ⟨by omega, c1⟩ ?_).trans (decN1 ⟨by simp, c1⟩ ?_).symm
    ·exact h1
    ·simp
   ·refine (decN0 ?_).trans (decN0 ?_).symm
    ·exact fun h => c1 h.2
    ·exact fun h => c1 h.2
 | [a, b, c], _ =>
   have h1 := hx.at 3
   have e : ([a, b, c] ++ x).length = 3 + x.length := by simp; omega
   rw [e]
   by_cases c1 : b.toNat / 64 = 2
   ·by_cases c2 : c.toNat / 64 = 2
    ·refine decN2 ⟨by omega, c1⟩ ⟨by omega, c2⟩ h1 (by simp) ?_
     simp
    ·refine (decN1 ⟨by omega, c1⟩ ?_).trans (decN1 ⟨by simp, c1⟩ ?_).symm
     ·exact fun h => c2 h.2
     ·exact fun h => c2 h.2
   ·refine (decN0 ?_).trans (decN0 ?_).symm
    ·exact fun h => c1 h.2
    ·exact fun h => c1 h.2
 | a :: b :: c :: d :: t, _ => exact decN4 (by simp) (by simp)
theorem decode_whole {r : List UInt8} {c w : Nat} (hr : r ≠ []) (hd : decodeL r = (c, w)) (hv : (c, w) ≠ (65533, 1)) (t : List UInt8) : decodeL (r.take w ++ t) = (c, w) := by
 have hpos := List.length_pos_iff.2 hr
 rw [decodeL_N] at hd ⊢
 have k0 := (r.getD 0 0).toNat_lt
 have k1 := (r.getD 1 0).toNat_lt
 rcases decodeN_shape r.length (r.getD 0 0).toNat (r.getD 1 0).toNat (r.getD 2 0).toNat (r.getD 3 0).toNat with ⟨c1, e⟩ | ⟨c1, c2, c3, cv, e⟩ | ⟨c1, c2, c3, c4, cv, cs, e⟩ | ⟨c1, c2, c3, c4, c5, cv, cw, e⟩ | e
 ·rw [e] at hd
  injection hd with h1 h2
  subst h1 h2
  rw [takeA r hpos]
  generalize r.getD 0 0 = b0 at *
  have e0 : (([b0] ++ t).getD 0 0) = b0 := rfl
  rw [e0]
  unfold decodeN
  rw [if_pos c1]
 ·rw [e] at hd
  injection hd with h1 h2
  subst h1 h2
  rw [takeB r c2]
  generalize r.getD 0 0 = b0 at *
  generalize r.getD 1 0 = b1 at *
  have e0 : (([b0, b1] ++ t).getD 0 0) = b0 := rfl
  have e1 : (([b0, b1] ++ t).getD 1 0) = b1 := rfl
  have el : 1 < ([b0, b1] ++ t).length := by simp
  rw [e0, e1]
  unfold decodeN
  rw [if_neg (by omega), if_pos ⟨c1, el, c3⟩, if_pos (by omega)]
 ·rw [e] at hd
  injection hd with h1 h2
  subst h1 h2
  rw [takeC r c2]
  generalize r.getD 0 0 = b0 at *
  generalize r.getD 1 0 = b1 at *
  generalize r.getD 2 0 = b2 at *
  have e0 : (([b0, b1, b2] ++ t).getD 0 0) = b0 := rfl
  have e1 : (([b0, b1, b2] ++ t).getD 1 0) = b1 := rfl
  have e2 : (([b0, b1, b2] ++ t).getD 2 0) = b2 := rfl
  have el : 2 < ([b0, b1, b2] ++ t).length := by simp
  rw [e0, e1, e2]
  unfold decodeN
  rw [if_neg (by omega), if_neg (by omega), if_pos ⟨c1, ⟨by omega, c3⟩, el, c4⟩, if_pos (by omega)]
 ·rw [e] at hd
  injection hd with h1 h2
  subst h1 h2
  rw [takeD r c2]
  generalize r.getD 0 0 = b0 at *
  generalize r.getD 1 0 = b1 at *
  generalize r.getD 2 0 = b2 at *
  generalize r.getD 3 0 = b3 at *
  have e0 : (([b0, b1, b2, b3] ++ t).getD 0 0) = b0 := rfl
  have e1 : (([b0, b1, b2, b3] ++ t).getD 1 0) = b1 := rfl
  have e2 : (([b0, b1, b2, b3] ++ t).getD 2 0) = b2 := rfl
  have e3 : (([b0, b1, b2, b3] ++ t).getD 3 0) = b3 := rfl
  have el : 3 < ([b0, b1, b2, b3] ++ t).length := by simp
  rw [e0, e1, e2, e3]
  unfold decodeN
  rw [if_neg (by omega), if_neg (by omega), if_neg (by omega), if_pos ⟨c1, ⟨by omega, c3⟩, ⟨by omega, c4⟩, el, c5⟩, if_pos (by omega)]
 ·rw [e] at hd
  exact absurd hd.symm hv
end Go.A
namespace Go.A
open Go.Proofs Go.Lib
def Tok.sh (a c : Nat) (t : Tok) : Tok := ⟨t.kind, t.text, t.at' + a, t.col + c⟩
abbrev Rel := Nat ⊕ (List Tok × Nat)
def Rel.sh (a c : Nat) : Rel → Rel
 | .inl j => .inl (a + j)
 | .inr (ts, m) => .inr (ts.map (Tok.sh a c), c + m)
def rel : Nat → List UInt8 → Rel
 | 0, _ => .inl 0
 | k + 1, r =>
   if r = [] then .inr ([], 0)
   else match stepP r with
    | .bad j => .inl j
    | .blank => (rel k (r.drop 1)).sh 1 1
    | .tok kind t n => match (rel k (r.drop n)).sh n (signsN (r.take n)) with
      | .inl j => .inl j
      | .inr (ts, m) => .inr (⟨kind, t, 0, 0⟩ :: ts, m)
theorem rel_fuel : ∀ (k k' : Nat) (r : List UInt8), r.length < k → r.length < k' → rel k r = rel k' r
 | 0, _, r, h, _ => by omega
 | _ + 1, 0, r, _, h => by omega
 | k + 1, k' + 1, r, h, h' => by
   unfold rel
   by_cases hr : r = []
   ·rw [if_pos hr, if_pos hr]
   rw [if_neg hr, if_neg hr]
   have hpos := List.length_pos_iff.2 hr
   have hf := (stepP_fits r hr).2
   cases hs : stepP r with
   | bad j => rfl
   | blank => dsimp only; rw [rel_fuel k k' (r.drop 1) (by rw [List.length_drop]; omega) (by rw [List.length_drop]; omega)]
   | tok kd t n =>
     obtain ⟨h1, h2⟩ := hf kd t n hs
     dsimp only
     rw [rel_fuel k k' (r.drop n) (by rw [List.length_drop]; omega) (by rw [List.length_drop]; omega)]
def relP (r : List UInt8) : Rel := rel (r.length + 1) r
theorem relP_nil : relP [] = .inr ([], 0) := rfl
theorem relP_step {r : List UInt8} (hr : r ≠ []) : relP r = match stepP r with
   | .bad j => .inl j
   | .blank => (relP (r.drop 1)).sh 1 1
   | .tok kind t n => match (relP (r.drop n)).sh n (signsN (r.take n)) with
     | .inl j => .inl j
     | .inr (ts, m) => .inr (⟨kind, t, 0, 0⟩ :: ts, m) := by
 have hpos := List.length_pos_iff.2 hr
 have hf := (stepP_fits r hr).2
 conv => lhs; unfold relP rel
 rw [if_neg hr]
 cases hs : stepP r with
 | bad j => rfl
 | blank => dsimp only; unfold relP; rw [rel_fuel _ ((r.drop 1).length + 1) (r.drop 1) (by rw [List.length_drop]; omega) (by omega)]
 | tok kd t n =>
   obtain ⟨h1, h2⟩ := hf kd t n hs
   dsimp only
   unfold relP
   rw [rel_fuel _ ((r.drop n).length + 1) (r.drop n) (by rw [List.length_drop]; omega) (by omega)]
def endOf (a c : Nat) (acc : List Tok) (L : Nat) : Rel → List Tok × Nat × Int
 | .inl j => ([], a + j, 10)
 | .inr (ts, m) => (acc ++ ts.map (Tok.sh a c) ++ [⟨0, [], a + L, c + m⟩], 0, 0)
theorem lexF_rel : ∀ (k : Nat) (r : List UInt8) (a c : Nat) (acc : List Tok), r.length < k → lexF k r a c acc = endOf a c acc r.length (relP r)
 | 0, r, a, c, acc, h => by omega
 | k + 1, r, a, c, acc, h => by
   unfold lexF
   by_cases hr : r = []
   ·subst hr
    rw [if_pos rfl, relP_nil]
    simp [endOf]
   rw [if_neg hr, relP_step hr]
   have hpos := List.length_pos_iff.2 hr
   have hf := (stepP_fits r hr).2
   cases hs : stepP r with
   | bad j => rfl
   | blank =>
     dsimp only
     rw [lexF_rel k (r.drop 1) _ _ _ (by rw [List.length_drop]; omega), List.length_drop]
     cases relP (r.drop 1) with
     | inl j => simp only [Rel.sh, endOf]; rw [Nat.add_assoc]
     | inr x =>
       obtain ⟨ts, m⟩ := x
       simp only [Rel.sh, endOf, List.map_map]
       rw [show a + 1 + (r.length - 1) = a + r.length by omega, Nat.add_assoc c 1 m]
       congr 4
       funext t
       simp [Tok.sh, Nat.add_comm, Nat.add_left_comm, Function.comp]
   | tok kd t n =>
     obtain ⟨h1, h2⟩ := hf kd t n hs
     dsimp only
     rw [lexF_rel k (r.drop n) _ _ _ (by rw [List.length_drop]; omega), List.length_drop]
     cases relP (r.drop n) with
     | inl j => simp only [Rel.sh, endOf]; rw [Nat.add_assoc]
     | inr x =>
       obtain ⟨ts, m⟩ := x
       simp only [Rel.sh, endOf, List.map_map, List.map_cons, List.append_assoc, List.cons_append, List.nil_append]
       rw [show a + n + (r.length - n) = a + r.length by omega, Nat.add_assoc c _ m]
       have e : Tok.sh (a + n) (c + signsN (r.take n)) = Tok.sh a c ∘ Tok.sh n (signsN (r.take n)) := by
        funext t
        simp [Tok.sh, Nat.add_comm, Nat.add_left_comm, Function.comp]
       have e0 : Tok.sh a c ⟨kd, t, 0, 0⟩ = ⟨kd, t, a, c⟩ := by simp [Tok.sh]
       rw [e, e0]
theorem lexP_rel {s : List UInt8} (h : s.length ≤ 2000) : lexP s = endOf 0 0 [] s.length (relP s) := by
 unfold lexP
 rw [if_neg (by omega), lexF_rel _ _ _ _ _ (by omega)]
end Go.A
namespace Go.A
open Go.Proofs Go.Lib
theorem sgF_fuel : ∀ (k k' : Nat) (r : List UInt8), r.length < k → r.length < k' → sgF k r = sgF k' r
 | 0, _, r, h, _ => by omega
 | _ + 1, 0, r, _, h => by omega
 | k + 1, k' + 1, r, h, h' => by
   unfold sgF
   by_cases hr : r = []
   ·rw [if_pos hr, if_pos hr]
   have hpos := List.length_pos_iff.2 hr
   have hw := decodeL_width r
   rw [if_neg hr, if_neg hr, sgF_fuel k k' _ (by rw [List.length_drop]; omega) (by rw [List.length_drop]; omega)]
def sgP (r : List UInt8) : Option Nat := sgF (r.length + 1) r
theorem sgP_nil : sgP [] = some 0 := rfl
theorem sgP_step {r : List UInt8} (hr : r ≠ []) : sgP r = if decodeL r = (65533, 1) then none else (sgP (r.drop (decodeL r).2)).map (· + 1) := by
 have hpos := List.length_pos_iff.2 hr
 have hw := decodeL_width r
 conv => lhs; unfold sgP sgF
 unfold sgP
 rw [if_neg hr, sgF_fuel r.length ((r.drop (decodeL r).2).length + 1) _ (by rw [List.length_drop]; omega) (by omega)]
def cnt : Nat → List UInt8 → Nat
 | 0, _ => 0
 | k + 1, r => if r = [] then 0 else 1 + cnt k (r.drop (decodeL r).2)
theorem runeCount_cnt (l : List UInt8) : ∀ (k pos : Nat), runeCountFrom ⟨⟨l⟩⟩ k pos = cnt k (l.drop pos)
 | 0, _ => rfl
 | k + 1, pos => by
   unfold runeCountFrom cnt
   have e : (⟨⟨l⟩⟩ : ByteArray).size = l.length := rfl
   rw [e]
   by_cases h : pos < l.length
   ·have hne : l.drop pos ≠ [] := by
     intro h2
     have := congrArg List.length h2
     simp at this
     omega
    have hd := decodeL_drop ⟨⟨l⟩⟩ pos
    have hd : decodeL (l.drop pos) = Utf8.decode ⟨⟨l⟩⟩ pos := hd
    rw [if_pos h, if_neg hne, runeCount_cnt l k, hd, List.drop_drop]
   ·rw [if_neg h, if_pos (List.drop_eq_nil_of_le (by omega))]
theorem cnt_fuel : ∀ (k k' : Nat) (r : List UInt8), r.length ≤ k → r.length ≤ k' → cnt k r = cnt k' r
 | 0, k', r, h, _ => by
   have : r = [] := List.eq_nil_of_length_eq_zero (by omega)
   subst this
   cases k' <;> simp [cnt]
 | k + 1, 0, r, _, h => by
   have : r = [] := List.eq_nil_of_length_eq_zero (by omega)
   subst this
   simp [cnt]
 | k + 1, k' + 1, r, h, h' => by
   unfold cnt
   by_cases hr : r = []
   ·rw [if_pos hr, if_pos hr]
   have hpos := List.length_pos_iff.2 hr
   have hw := decodeL_width r
   rw [if_neg hr, if_neg hr, cnt_fuel k k' _ (by rw [List.length_drop]; omega) (by rw [List.length_drop]; omega)]
theorem signsN_step {r : List UInt8} (hr : r ≠ []) : signsN r = 1 + signsN (r.drop (decodeL r).2) := by
 have hpos := List.length_pos_iff.2 hr
 have hw := decodeL_width r
 unfold signsN runeCount
 rw [runeCount_cnt, runeCount_cnt, List.drop_zero, List.drop_zero]
 have e1 : (⟨⟨r⟩⟩ : ByteArray).size = r.length := rfl
 have e2 : (⟨⟨r.drop (decodeL r).2⟩⟩ : ByteArray).size = (r.drop (decodeL r).2).length := rfl
 rw [e1, e2]
 obtain ⟨k, hk⟩ : ∃ k, r.length = k + 1 := ⟨r.length - 1, by omega⟩
 rw [hk, cnt, if_neg hr]
 rw [cnt_fuel k _ _ (by rw [List.length_drop]; omega) (Nat.le_refl _)]
inductive Sg : List UInt8 → Nat → Prop
 | nil : Sg [] 0
 | cons {y z : List UInt8} {c n : Nat} : y ≠ [] → (∀ t, decodeL (y ++ t) = (c, y.length)) → (c, y.length) ≠ (65533, 1) → Sg z n → Sg (y ++ z) (n + 1)
theorem Sg.app {x : List UInt8} {n : Nat} (h : Sg x n) (t : List UInt8) : sgP (x ++ t) = (sgP t).map (· + n) ∧ signsN (x ++ t) = n + signsN t := by
 induction h with
 | nil => simp
 | cons h1 h2 h3 _ ih =>
   rename_i y z c n _
   obtain ⟨i1, i2⟩ := ih
   have hne : (y ++ z) ++ t ≠ [] := by simp [h1]
   have hd : decodeL ((y ++ z) ++ t) = (c, y.length) := by rw [List.append_assoc]; exact h2 _
   have hdr : ((y ++ z) ++ t).drop y.length = z ++ t := by rw [List.append_assoc, List.drop_left]
   rw [sgP_step hne, hd, if_neg h3, hdr, i1, signsN_step hne, hd, hdr, i2]
   refine ⟨?_, by omega⟩
   cases sgP t <;> simp [Nat.add_assoc]
theorem Sg.join {x z : List UInt8} {n m : Nat} (h : Sg x n) (k : Sg z m) : Sg (x ++ z) (n + m) := by
 induction h with
 | nil => simpa using k
 | cons h1 h2 h3 _ ih =>
   rw [List.append_assoc, Nat.add_right_comm]
   exact .cons h1 h2 h3 ih
theorem Sg.ascii : ∀ x : List UInt8, (∀ c ∈ x, c.toNat < 128) → Sg x x.length
 | [], _ => .nil
 | c :: x, h => by
   have hc := h c (by simp)
   exact .cons (y := [c]) (by simp) (fun t => dec_one c t hc) (by rw [ne_eq, Prod.mk.injEq]; omega) (Sg.ascii x fun d hd => h d (by simp [hd]))
theorem Sg.one {r : List UInt8} (hr : r ≠ []) (hv : decodeL r ≠ (65533, 1)) : Sg (r.take (decodeL r).2) 1 := by
 have hle := decodeL_le r hr
 have hw := decodeL_width r
 have hl : (r.take (decodeL r).2).length = (decodeL r).2 := List.length_take_of_le hle
 have := Sg.cons (y := r.take (decodeL r).2) (z := []) (c := (decodeL r).1) (n := 0) (by
  intro h
  rw [h] at hl
  simp at hl
  omega) (fun t => by rw [hl]; exact decode_whole hr rfl hv t) (by rw [hl]; exact hv) .nil
 simpa using this
theorem runL_all2 (p : UInt8 → Bool) : ∀ l : List UInt8, ∀ c ∈ l.take (runL p l), p c = true
 | [], c, h => by simp [runL] at h
 | x :: l, c, h => by
   unfold runL at h
   split at h
   ·rename_i hx
    rw [List.take_succ_cons, List.mem_cons] at h
    rcases h with rfl | h
    ·exact hx
    ·exact runL_all2 p l c h
   ·simp at h
end Go.A
namespace Go.A
open Go.Proofs Go.Lib
theorem split_q : ∀ s : List UInt8, ∃ u v, s = u ++ v ∧ 34 ∉ u ∧ (v = [] ∨ ∃ v', v = 34 :: v')
 | [] => ⟨[], [], rfl, by simp, .inl rfl⟩
 | c :: s => by
   by_cases hc : c = 34
   ·subst hc; exact ⟨[], 34 :: s, rfl, by simp, .inr ⟨s, rfl⟩⟩
   ·obtain ⟨u, v, h1, h2, h3⟩ := split_q s
    refine ⟨c :: u, v, by rw [h1]; rfl, ?_, h3⟩
    simp only [List.mem_cons, not_or]
    exact ⟨fun e => hc e.symm, h2⟩
theorem stop_q {v : List UInt8} (h : v = [] ∨ ∃ v', v = 34 :: v') : Stop v := by
 intro c y e
 rcases h with rfl | ⟨v', rfl⟩
 ·cases e
 ·injection e with e1 _
  subst e1
  decide
end Go.A
namespace Go.A
open Go.Proofs Go.Lib
abbrev KT := Int × List UInt8
def kt (t : Tok) : KT := (t.kind, t.text)
def kts : Rel → Option (List KT)
 | .inl _ => none
 | .inr (ts, _) => some (ts.map kt)
theorem kts_step {x y : List UInt8} (hx : x ≠ []) {k : Int} {t : List UInt8} (h : stepP (x ++ y) = .tok k t x.length) : kts (relP (x ++ y)) = (kts (relP y)).map ([(k, t)] ++ ·) := by
 rw [relP_step (by simp [hx]), h]
 dsimp only
 rw [List.drop_left]
 cases hr : relP y with
 | inl j => rfl
 | inr v => simp [Rel.sh, kts, Function.comp_def, Tok.sh, kt]
def Lx (P : List UInt8 → Prop) (x : List UInt8) (ts : List KT) : Prop := ∀ y, P y → kts (relP (x ++ y)) = (kts (relP y)).map (ts ++ ·)
theorem Lx.nil (P : List UInt8 → Prop) : Lx P [] [] := fun y _ => by
 cases h : kts (relP y) <;> simp [h]
theorem Lx.app {P Q : List UInt8 → Prop} {x y : List UInt8} {ts us : List KT} (h : Lx P x ts) (k : Lx Q y us) (hp : ∀ z, Q z → P (y ++ z)) : Lx Q (x ++ y) (ts ++ us) := fun z hz => by
 rw [List.append_assoc, h _ (hp z hz), k z hz, Option.map_map]
 congr 1
 funext l
 simp
theorem Lx.one {P : List UInt8 → Prop} {x : List UInt8} {k : Int} {t : List UInt8} (hx : x ≠ []) (h : ∀ y, P y → stepP (x ++ y) = .tok k t x.length) : Lx P x [(k, t)] := fun y hy => kts_step hx (h y hy)
theorem Lx.weak {P Q : List UInt8 → Prop} {x : List UInt8} {ts : List KT} (h : Lx P x ts) (hp : ∀ z, Q z → P z) : Lx Q x ts := fun z hz => h z (hp z hz)
def Bd (y : List UInt8) : Prop := y = [] ∨ ∃ c t, y = c :: t ∧ c ∈ opChars
def Any (_ : List UInt8) : Prop := True
def NoW (y : List UInt8) : Prop := ∀ c t, y = c :: t → wordB c = false
def OpSt (y : List UInt8) : Prop := ∃ c t, y = c :: t ∧ c ≠ 61 ∧ c ≠ 62
theorem ops_now : ∀ c ∈ opChars, wordB c = false ∧ c ≠ 34 := by decide
theorem Bd.nw {y : List UInt8} (h : Bd y) : NoW y := by
 intro c t e
 rcases h with rfl | ⟨d, u, rfl, hd⟩
 ·cases e
 ·injection e with e1 _; subst e1; exact (ops_now d hd).1
theorem bd_cons {c : UInt8} (h : c ∈ opChars) (z : List UInt8) : Bd (c :: z) := .inr ⟨c, z, rfl, h⟩
/-! Single steps. -/
theorem step_sg (c : UInt8) (r : List UInt8) (h : c ∈ [(43 : UInt8), 45, 42, 47, 94, 38, 61, 37, 40, 41, 58, 44]) : stepP (c :: r) = .tok 6 [c] 1 := by
 have hd : decodeL (c :: r) = (c.toNat, 1) := dec_one c r (by revert c; decide)
 unfold stepP opS
 rw [hd]
 simp only [List.mem_cons, List.not_mem_nil, or_false] at h
 rcases h with rfl | rfl | rfl | rfl | rfl | rfl | rfl | rfl | rfl | rfl | rfl | rfl <;> simp (config := { decide := true }) [twoS, twos, List.isPrefixOf, opChars]
theorem step_lt (r : List UInt8) (h : OpSt r) : stepP (60 :: r) = .tok 6 [60] 1 := by
 obtain ⟨c, t, rfl, h1, h2⟩ := h
 have hd : decodeL (60 :: c :: t) = (60, 1) := dec_one 60 _ (by decide)
 unfold stepP opS
 rw [hd]
 have e1 : (61 == c) = false := by simpa using fun e : (61 : UInt8) = c => h1 e.symm
 have e2 : (62 == c) = false := by simpa using fun e : (62 : UInt8) = c => h2 e.symm
 simp (config := { decide := true }) [twoS, twos, List.isPrefixOf, opChars, e1, e2]
theorem step_gt (r : List UInt8) (h : OpSt r) : stepP (62 :: r) = .tok 6 [62] 1 := by
 obtain ⟨c, t, rfl, h1, h2⟩ := h
 have hd : decodeL (62 :: c :: t) = (62, 1) := dec_one 62 _ (by decide)
 unfold stepP opS
 rw [hd]
 have e1 : (61 == c) = false := by simpa using fun e : (61 : UInt8) = c => h1 e.symm
 simp (config := { decide := true }) [twoS, twos, List.isPrefixOf, opChars, e1]
theorem step_two (e r : List UInt8) (h : e ∈ twos) : stepP (e ++ r) = .tok 6 e 2 := by
 simp only [twos, List.mem_cons, List.not_mem_nil, or_false] at h
 rcases h with rfl | rfl | rfl
 ·have hd : decodeL (60 :: 61 :: r) = (60, 1) := dec_one 60 _ (by decide)
  show stepP (60 :: 61 :: r) = _
  unfold stepP opS
  rw [hd]
  simp (config := { decide := true }) [twoS, twos, List.isPrefixOf]
 ·have hd : decodeL (62 :: 61 :: r) = (62, 1) := dec_one 62 _ (by decide)
  show stepP (62 :: 61 :: r) = _
  unfold stepP opS
  rw [hd]
  simp (config := { decide := true }) [twoS, twos, List.isPrefixOf]
 ·have hd : decodeL (60 :: 62 :: r) = (60, 1) := dec_one 60 _ (by decide)
  show stepP (60 :: 62 :: r) = _
  unfold stepP opS
  rw [hd]
  simp (config := { decide := true }) [twoS, twos, List.isPrefixOf]
theorem lx_sg (c : UInt8) (h : c ∈ [(43 : UInt8), 45, 42, 47, 94, 38, 61, 37, 40, 41, 58, 44]) : Lx Any [c] [(6, [c])] := Lx.one (by simp) fun y _ => step_sg c y h
theorem lx_sign (i : Nat) (h : i < 12) : Lx OpSt (signL.getD i []) [(6, signL.getD i [])] := by
 have two : ∀ e ∈ twos, Lx OpSt e [(6, e)] := fun e he => Lx.one (by revert e; decide) fun y _ => by
  rw [step_two e y he]
  congr 1
  revert e; decide
 have one : ∀ c ∈ [(43 : UInt8), 45, 42, 47, 94, 38, 61, 37, 40, 41, 58, 44], Lx OpSt [c] [(6, [c])] := fun c hc => (lx_sg c hc).weak fun _ _ => trivial
 match i, h with
 | 0, _ => exact one 43 (by decide)
 | 1, _ => exact one 45 (by decide)
 | 2, _ => exact one 42 (by decide)
 | 3, _ => exact one 47 (by decide)
 | 4, _ => exact one 94 (by decide)
 | 5, _ => exact one 38 (by decide)
 | 6, _ => exact one 61 (by decide)
 | 7, _ => exact two _ (by decide)
 | 8, _ => exact Lx.one (by decide) fun y hy => step_lt y hy
 | 9, _ => exact two _ (by decide)
 | 10, _ => exact Lx.one (by decide) fun y hy => step_gt y hy
 | 11, _ => exact two _ (by decide)
 | i + 12, h => omega
theorem sign_bd (i : Nat) (h : i < 12) (z : List UInt8) : Bd (signL.getD i [] ++ z) := by
 match i, h with
 | 0, _ | 1, _ | 2, _ | 3, _ | 4, _ | 5, _ | 6, _ | 7, _ | 8, _ | 9, _ | 10, _ | 11, _ => exact .inr ⟨_, _, rfl, by decide⟩
 | i + 12, h => omega
/-! Words. -/
theorem word_lt (c : UInt8) (h : wordB c = true) : c.toNat < 128 ∧ c.toNat ≠ 32 ∧ c.toNat ≠ 9 ∧ c.toNat ≠ 10 := by
 unfold wordB at h
 simp only [decide_eq_true_eq] at h
 omega
theorem step_word {w y : List UInt8} (hw : w ≠ []) (ha : ∀ c ∈ w, wordB c = true) (hy : NoW y) : stepP (w ++ y) = if numB w then .tok 1 w w.length else if refB w then .tok 4 (greatP w) w.length else if nameB w then .tok 3 (greatP w) w.length else .bad 0 := by
 obtain ⟨c, v, rfl⟩ : ∃ c v, w = c :: v := by
  cases w with
  | nil => exact absurd rfl hw
  | cons c v => exact ⟨c, v, rfl⟩
 have hc := ha c (by simp)
 obtain ⟨h1, h2, h3, h4⟩ := word_lt c hc
 have hd : decodeL (c :: v ++ y) = (c.toNat, 1) := dec_one c _ h1
 have hr : runL wordB (c :: v ++ y) = (c :: v).length := runL_app (fun d hd => by
  cases y with
  | nil => cases hd
  | cons e t => injection hd with hd; subst hd; exact hy e t rfl) ha
 have hu : UInt8.ofNat c.toNat = c := by simp
 have ht : (c :: v ++ y).take (c :: v).length = c :: v := List.take_left
 unfold stepP wordsS
 rw [hd]
 dsimp only
 rw [if_neg (by intro e; injection e with e _; omega), if_neg (by omega), hu, if_pos ⟨h1, hc⟩, hr, ht]
theorem lx_num {w : List UInt8} (hw : w ≠ []) (ha : ∀ c ∈ w, wordB c = true) (h : numB w = true) : Lx NoW w [(1, w)] := Lx.one hw fun y hy => by rw [step_word hw ha hy, if_pos h]
theorem lx_ref {w : List UInt8} (hw : w ≠ []) (ha : ∀ c ∈ w, wordB c = true) (h : numB w = false) (h2 : refB w = true) (h3 : greatP w = w) : Lx NoW w [(4, w)] := Lx.one hw fun y hy => by rw [step_word hw ha hy, if_neg (by simp [h]), if_pos h2, h3]
structure NameOk (w : List UInt8) : Prop where
 word : ∀ c ∈ w, wordB c = true
 name : nameB w = true
 num : numB w = false
 ref : refB w = false
 great : greatP w = w
theorem lx_name {w : List UInt8} (h : NameOk w) : Lx NoW w [(3, w)] := Lx.one (nameB_ne h.name) fun y hy => by rw [step_word (nameB_ne h.name) h.word hy, if_neg (by simp [h.num]), if_neg (by simp [h.ref]), if_pos h.name, h.great]
theorem true_name : NameOk [84, 82, 85, 69] := ⟨by decide, by decide +kernel, by decide +kernel, by decide +kernel, by decide +kernel⟩
theorem false_name : NameOk [70, 65, 76, 83, 69] := ⟨by decide, by decide +kernel, by decide +kernel, by decide +kernel, by decide +kernel⟩
/-! Numbers. -/
theorem dig_word {c : UInt8} (h : 48 ≤ c.toNat ∧ c.toNat ≤ 57) : wordB c = true ∧ digB c = true ∧ c ≠ 46 := by
 refine ⟨decide_eq_true (.inl h), decide_eq_true h, ?_⟩
 rintro rfl
 exact absurd h (by decide)
theorem cutDot_no : ∀ l : List UInt8, (∀ c ∈ l, c ≠ 46) → cutDot l = (l, none)
 | [], _ => rfl
 | c :: l, h => by
   have hc : c.toNat ≠ 46 := fun e => h c (by simp) (UInt8.toNat_inj.1 e)
   rw [cutDot, if_neg hc, cutDot_no l fun d hd => h d (by simp [hd])]
theorem cutDot_at : ∀ (l p : List UInt8), (∀ c ∈ l, c ≠ 46) → cutDot (l ++ 46 :: p) = (l, some p)
 | [], p, _ => by rw [List.nil_append, cutDot, if_pos (by decide)]
 | c :: l, p, h => by
   have hc : c.toNat ≠ 46 := fun e => h c (by simp) (UInt8.toNat_inj.1 e)
   rw [List.cons_append, cutDot, if_neg hc, cutDot_at l p fun d hd => h d (by simp [hd])]
theorem text_num {a : Int} (h0 : 0 ≤ a) : textD a ≠ [] ∧ (∀ c ∈ textD a, wordB c = true) ∧ numB (textD a) = true := by
 obtain ⟨d1, d2⟩ := dd_all (a.natAbs / 10000)
 have hp : a.natAbs % 10000 < 10000 := by omega
 unfold textD
 rw [if_neg (by omega), List.nil_append]
 by_cases hz : a.natAbs % 10000 = 0
 ·have e : placesP (a.natAbs % 10000) = [] := by rw [placesP, if_pos hz]
  rw [e, List.append_nil]
  refine ⟨d2, fun c hc => (dig_word (d1 c hc)).1, ?_⟩
  unfold numB
  rw [cutDot_no _ fun c hc => (dig_word (d1 c hc)).2.2]
  dsimp only
  rw [decide_eq_true d2, Bool.true_and, List.all_eq_true]
  exact fun c hc => (dig_word (d1 c hc)).2.1
 ·have e : placesP (a.natAbs % 10000) = 46 :: Lib.trimRightB (fourP (a.natAbs % 10000)) 48 := by rw [placesP, if_neg hz, dd_four hp]
  rw [e]
  have hf : ∀ c ∈ fourP (a.natAbs % 10000), 48 ≤ c.toNat ∧ c.toNat ≤ 57 := by
   unfold fourP
   intro c hc
   simp only [List.mem_cons, List.not_mem_nil, or_false] at hc
   rcases hc with rfl | rfl | rfl | rfl <;> rw [dig_nat (by omega)] <;> omega
  have t1 := trim_back 48 (fourP (a.natAbs % 10000))
  have t2 : (Lib.trimRightB (fourP (a.natAbs % 10000)) 48).length ≤ 4 := by
   have := congrArg List.length t1
   rw [List.length_append] at this
   have e4 : (fourP (a.natAbs % 10000)).length = 4 := rfl
   omega
  have t3 : Lib.trimRightB (fourP (a.natAbs % 10000)) 48 ≠ [] := by
   intro h
   have h1 := trim_nil h
   unfold fourP at h1
   have g1 := congrArg UInt8.toNat (h1 (UInt8.ofNat (48 + a.natAbs % 10000 / 1000)) (by simp))
   have g2 := congrArg UInt8.toNat (h1 (UInt8.ofNat (48 + a.natAbs % 10000 / 100 % 10)) (by simp))
   have g3 := congrArg UInt8.toNat (h1 (UInt8.ofNat (48 + a.natAbs % 10000 / 10 % 10)) (by simp))
   have g4 := congrArg UInt8.toNat (h1 (UInt8.ofNat (48 + a.natAbs % 10000 % 10)) (by simp))
   rw [dig_nat (by omega)] at g1 g2 g3 g4
   have e48 : (48 : UInt8).toNat = 48 := rfl
   rw [e48] at g1 g2 g3 g4
   omega
  have ht : ∀ c ∈ Lib.trimRightB (fourP (a.natAbs % 10000)) 48, 48 ≤ c.toNat ∧ c.toNat ≤ 57 := fun c hc => hf c (trim_sub _ _ c hc)
  generalize Lib.trimRightB (fourP (a.natAbs % 10000)) 48 = q at *
  refine ⟨by simp, fun c hc => ?_, ?_⟩
  ·rcases List.mem_append.1 hc with hc | hc
   ·exact (dig_word (d1 c hc)).1
   ·rcases List.mem_cons.1 hc with rfl | hc
    ·decide
    ·exact (dig_word (ht c hc)).1
  ·unfold numB
   rw [cutDot_at _ _ fun c hc => (dig_word (d1 c hc)).2.2]
   dsimp only
   rw [decide_eq_true d2, decide_eq_true t3, decide_eq_true t2, Bool.true_and, Bool.true_and, Bool.true_and, List.all_eq_true]
   intro c hc
   rcases List.mem_append.1 hc with hc | hc
   ·exact (dig_word (d1 c hc)).2.1
   ·exact (dig_word (ht c hc)).2.1
/-! References. -/
theorem lets_all : (List.range 700).all (fun i => (lettersP i).all (fun c => decide (65 ≤ c.toNat ∧ c.toNat ≤ 90)) && decide (1 ≤ (lettersP i).length)) = true := by decide +kernel
theorem lets_facts {col : Int} (h0 : 0 ≤ col) (h1 : col < 700) : (∀ c ∈ lettersP col, 65 ≤ c.toNat ∧ c.toNat ≤ 90) ∧ 1 ≤ (lettersP col).length := by
 obtain ⟨k, rfl⟩ : ∃ k : Nat, col = k := ⟨col.toNat, by omega⟩
 have := List.all_eq_true.1 lets_all k (List.mem_range.2 (by omega))
 simp only [Bool.and_eq_true, List.all_eq_true, decide_eq_true_eq] at this
 exact this
theorem great_same : ∀ l : List UInt8, (∀ c ∈ l, ¬ (97 ≤ c.toNat ∧ c.toNat ≤ 122)) → greatP l = l
 | [], _ => rfl
 | c :: l, h => by
   have h1 := great_same l fun d hd => h d (by simp [hd])
   have h2 := h c (by simp)
   unfold greatP at h1 ⊢
   rw [List.map_cons, h1]
   congr 1
   unfold greatC
   rw [if_neg h2]
theorem text_ref {r : Ref} (hg : r.good = true) : textP r ≠ [] ∧ (∀ c ∈ textP r, wordB c = true ∧ ¬ (97 ≤ c.toNat ∧ c.toNat ≤ 122)) ∧ numB (textP r) = false ∧ refB (textP r) = true := by
 have hgd := hg
 unfold Ref.good at hgd
 simp only [decide_eq_true_eq] at hgd
 have hl := text_len hg
 have hp := parse_text hg
 obtain ⟨l1, l2⟩ := lets_facts (col := r.col) (by omega) (by omega)
 obtain ⟨n1, n2, n3, n4, n5⟩ := num_facts (row := r.row) (by omega) (by omega)
 have hdol : ∀ b, ∀ c ∈ dolP b, c = 36 := by intro b c hc; cases b <;> simp [dolP] at hc; exact hc
 refine ⟨fun e => by rw [e] at hl; simp at hl, ?_, ?_, by unfold refB; rw [hp]⟩
 ·intro c hc
  unfold textP at hc
  rcases List.mem_append.1 hc with hc | hc
  ·rcases List.mem_append.1 hc with hc | hc
   ·rcases List.mem_append.1 hc with hc | hc
    ·rw [hdol _ c hc]; decide
    ·have := l1 c hc
     exact ⟨decide_eq_true (.inr (.inr (.inl this))), by omega⟩
   ·rw [hdol _ c hc]; decide
  ·have := n2 c hc
   unfold isD at this
   rw [decide_eq_true_eq] at this
   exact ⟨(dig_word this).1, by omega⟩
 ·-- it begins with no digit
  obtain ⟨c, t, ht, hc⟩ : ∃ c t, textP r = c :: t ∧ digB c = false ∧ c.toNat ≠ 46 := by
   unfold textP
   cases r.absCol with
   | true => exact ⟨36, _, rfl, by decide, by decide⟩
   | false =>
     cases hL : lettersP r.col with
     | nil => rw [hL] at l2; simp at l2
     | cons c t =>
       refine ⟨c, t ++ (dolP r.absRow ++ numT r.row), by simp [dolP], ?_⟩
       have := l1 c (by rw [hL]; simp)
       exact ⟨decide_eq_false (by omega), by omega⟩
  rw [ht]
  unfold numB
  have e : (cutDot (c :: t)).1 = c :: (cutDot t).1 := by rw [cutDot, if_neg hc.2]
  generalize cutDot (c :: t) = Q at *
  obtain ⟨w, o⟩ := Q
  dsimp only at e
  subst e
  cases o with
  | none => simp [hc.1]
  | some p => simp [hc.1]
/-! Errors. -/
theorem step_err (k : Nat) (hk : k < 7) (y : List UInt8) : stepP (errL.getD k [] ++ y) = .tok 5 (errL.getD k []) (errL.getD k []).length := by
 match k, hk with
 | 0, _ | 1, _ | 2, _ | 3, _ | 4, _ | 5, _ | 6, _ =>
   simp only [errL, List.getD_cons_zero, List.getD_cons_succ, List.cons_append, List.nil_append]
   unfold stepP
   rw [show ∀ t, decodeL ((35 : UInt8) :: t) = (35, 1) from fun t => dec_one 35 t (by decide)]
   simp (config := { decide := true }) [failS, errTexts, greatP, greatC]
 | k + 7, h => omega
/-! Texts between quotes. -/
theorem quoted_tail {y : List UInt8} (hy : ∀ c t, y = c :: t → c ≠ 34) : ∀ (n k : Nat) (s : List UInt8) (p : Nat) (acc : List UInt8), s.length ≤ n → (dbl s ++ 34 :: y).length ≤ k → sgP s ≠ none → quotedF k (dbl s ++ 34 :: y) p acc = .tok 2 (acc ++ s) (p + (dbl s).length + 2)
 | n, 0, s, p, acc, _, h, _ => by simp at h
 | n, k + 1, [], p, acc, _, _, _ => by
   simp only [dbl_nil, List.nil_append, List.append_nil, List.length_nil, Nat.add_zero]
   unfold quotedF
   rw [if_neg (by simp), dec_one 34 _ (by decide), if_neg (by decide), if_neg (by decide), if_neg]
   intro e
   cases y with
   | nil => cases e
   | cons c t => injection e with e; exact hy c t rfl e
 | 0, _, _ :: _, _, _, h, _, _ => by simp at h
 | n + 1, k + 1, d :: s0, p, acc, hn, hk, hsg => by
   obtain ⟨s, hs⟩ : ∃ s, d :: s0 = s := ⟨_, rfl⟩
   rw [hs] at hn hk hsg ⊢
   have hne : s ≠ [] := by rw [← hs]; simp
   have hw := decodeL_width s
   have hle := decodeL_le s hne
   by_cases hd : d = 34
   ·subst hd
    have hdec : decodeL s = (34, 1) := by rw [← hs]; exact dec_one 34 s0 (by decide)
    have hdr : s.drop 1 = s0 := by rw [← hs]; rfl
    have hdb : dbl s ++ 34 :: y = 34 :: 34 :: (dbl s0 ++ 34 :: y) := by rw [← hs, dbl_q]; rfl
    have hl : s0.length ≤ n := by rw [← hs] at hn; simp at hn; exact hn
    have hdl : (dbl s).length = (dbl s0).length + 2 := by rw [← hs, dbl_q]; simp
    rw [sgP_step hne, hdec, if_neg (by decide), hdr] at hsg
    have ih := quoted_tail hy n k s0 (p + 2) (acc ++ [34]) hl (by rw [hdb] at hk; simp at hk ⊢; omega) (fun e => hsg (by rw [e]; rfl))
    rw [hdb]
    have hstep : quotedF (k + 1) (34 :: 34 :: (dbl s0 ++ 34 :: y)) p acc = quotedF k (dbl s0 ++ 34 :: y) (p + 2) (acc ++ [34]) := by
     conv => lhs; unfold quotedF
     rw [if_neg (by simp), dec_one 34 _ (by decide), if_neg (by decide), if_neg (by decide), if_pos (by rfl)]
     rfl
    rw [hstep, ih, hdl, ← hs]
    simp
    omega
   ·obtain ⟨u, v, huv, hu, hv⟩ := split_q s
    have hune : u ≠ [] := by
     rintro rfl
     rcases hv with rfl | ⟨v', rfl⟩
     ·rw [huv] at hne; exact hne rfl
     ·rw [← hs] at huv
      injection huv with h1 _
      exact hd h1
    have hdu : decodeL s = decodeL u := by rw [huv]; exact decode_local hune (stop_q hv)
    have hX : dbl s ++ 34 :: y = u ++ (dbl v ++ 34 :: y) := by rw [huv, dbl_app, dbl_same u hu, List.append_assoc]
    have hstop : Stop (dbl v ++ 34 :: y) := by
     refine stop_q (.inr ?_)
     rcases hv with rfl | ⟨v', rfl⟩
     ·exact ⟨y, rfl⟩
     ·exact ⟨34 :: (dbl v' ++ 34 :: y), by rw [dbl_q]; rfl⟩
    have hdX : decodeL (dbl s ++ 34 :: y) = decodeL s := by rw [hX, hdu]; exact decode_local hune hstop
    have hule := decodeL_le u hune
    rw [← hdu] at hule
    have hXne : dbl s ++ 34 :: y ≠ [] := by simp
    have h34 : (decodeL s).1 ≠ 34 := by
     intro h
     obtain ⟨c, t, h1, h2, _⟩ := dec_ascii hne (by omega)
     rw [← hs] at h1
     injection h1 with h1 _
     apply hd
     apply UInt8.toNat_inj.1
     rw [h1, h2, h]
     rfl
    have hsd : ∀ m, m ≤ u.length → s.drop m = u.drop m ++ v := fun m hm => by rw [huv]; exact List.drop_append_of_le_length hm
    have hXd : (dbl s ++ 34 :: y).drop (decodeL s).2 = dbl (s.drop (decodeL s).2) ++ 34 :: y := by
     rw [hX, hsd _ hule, dbl_app, dbl_same (u.drop _) (fun h => hu (List.mem_of_mem_drop h)), List.drop_append_of_le_length hule, List.append_assoc]
    have hbad : decodeL s ≠ (65533, 1) := fun e => hsg (by rw [sgP_step hne, if_pos e])
    have hstep : quotedF (k + 1) (dbl s ++ 34 :: y) p acc = quotedF k (dbl (s.drop (decodeL s).2) ++ 34 :: y) (p + (decodeL s).2) (acc ++ s.take (decodeL s).2) := by
     conv => lhs; unfold quotedF
     rw [if_neg hXne, hdX]
     have henc := encode_decode s hne (by rintro ⟨h1, h2⟩; exact hbad (by rw [← h1, ← h2]))
     rw [if_neg hbad, if_pos h34, hXd, henc]
    have hlen : (dbl s).length = (decodeL s).2 + (dbl (s.drop (decodeL s).2)).length := by
     have h1 := congrArg List.length hXd
     rw [List.length_drop] at h1
     simp only [List.length_append, List.length_cons] at h1
     have h2 := congrArg List.length hX
     simp only [List.length_append, List.length_cons] at h2
     omega
    rw [sgP_step hne, if_neg hbad] at hsg
    have ih := quoted_tail hy n k (s.drop (decodeL s).2) (p + (decodeL s).2) (acc ++ s.take (decodeL s).2) (by rw [List.length_drop]; omega) (by
     rw [← hXd, List.length_drop]
     omega) (fun e => hsg (by rw [e]; rfl))
    rw [hstep, ih, List.append_assoc, List.take_append_drop, hlen]
    congr 1
    omega
theorem lx_quote {s : List UInt8} (h : sgP s ≠ none) : Lx Bd (quotT s) [(2, s)] := by
 refine Lx.one (by simp [quotT]) fun y hy => ?_
 have hq : quotT s ++ y = 34 :: (dbl s ++ 34 :: y) := by unfold quotT dbl; simp
 have hy' : ∀ c t, y = c :: t → c ≠ 34 := by
  intro c t e
  rcases hy with rfl | ⟨d, u, rfl, hd⟩
  ·cases e
  ·injection e with e1 _; subst e1; exact (ops_now d hd).2
 have hl : (quotT s).length = (dbl s).length + 2 := by unfold quotT dbl; simp
 rw [hq]
 unfold stepP
 dsimp only
 rw [dec_one 34 _ (by decide)]
 dsimp only
 have law := quoted_tail hy' s.length (34 :: (dbl s ++ 34 :: y)).length s 0 [] (Nat.le_refl _) (by simp) h
 rw [if_neg (by decide), if_neg (by decide), if_neg (by decide), if_pos (by rfl), List.drop_succ_cons, List.drop_zero, law, hl]
 simp
end Go.A
