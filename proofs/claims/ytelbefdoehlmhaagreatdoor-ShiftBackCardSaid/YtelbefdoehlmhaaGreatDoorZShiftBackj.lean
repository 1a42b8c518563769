/- Part 10 of what ShiftBack leans on: Pi Sd CodeSa Sa So CodeSb Sb CodeSc. -/
import Derived.Test.YtelbefdoehlmhaaGreatDoorProg
import Derived.KernelRfl
import Derived.Test.YtelbefdoehlmhaaGreatDoorZShiftBacki
set_option linter.defProp false
set_option linter.unusedSimpArgs false
set_option linter.unusedVariables false
set_option maxRecDepth 100000
namespace Go.A
open Go.Proofs Go.Lib
structure TokGd (t : Tok) : Prop where
 k1 : 1 ≤ t.kind
 k6 : t.kind ≤ 6
 len : t.text.length ≤ 8100
 num : t.kind = 1 → numB t.text = true
 ref : t.kind = 4 → ∃ w, refB w = true ∧ t.text = greatP w
 err : t.kind = 5 → t.text ∈ errTexts
 nam : t.kind = 3 → t.text ≠ []
theorem TokGd.of {kd : Int} {t : List UInt8} {a c : Nat} (h1 : 1 ≤ kd) (h6 : kd ≤ 6) (hl : t.length ≤ 8100) (hn : kd = 1 → numB t = true) (hr : kd = 4 → ∃ w, refB w = true ∧ t = greatP w) (he : kd = 5 → t ∈ errTexts) (hm : kd = 3 → t ≠ []) : TokGd ⟨kd, t, a, c⟩ := ⟨h1, h6, hl, hn, hr, he, hm⟩
theorem no1 {p : Prop} {a b : Int} (h : a = b) (hn : decide (a = b) = false) : p := absurd h (of_decide_eq_false hn)
theorem quotedF_len : ∀ (k : Nat) (r : List UInt8) (p : Nat) (acc : List UInt8) kd t n, quotedF k r p acc = .tok kd t n → kd = 2 ∧ t.length ≤ acc.length + 4 * r.length
 | 0, r, p, acc, kd, t, n, h => by simp [quotedF] at h
 | k + 1, r, p, acc, kd, t, n, h => by
   by_cases hr : r = []
   ·subst hr; rw [quotedF_nil] at h; simp at h
   have hw := decodeL_width r
   have hle := decodeL_le r hr
   unfold quotedF at h
   rw [if_neg hr] at h
   split at h
   ·simp at h
   split at h
   ·have := quotedF_len k _ _ _ kd t n h
    have he := enc_le ((decodeL r).1 : Int)
    rw [List.length_append, List.length_drop] at this
    exact ⟨this.1, by omega⟩
   split at h
   ·rename_i h1 h2 h3
    have hl2 := (List.getElem?_eq_some_iff.1 h3).1
    have := quotedF_len k _ _ _ kd t n h
    rw [List.length_append, List.length_drop] at this
    simp only [List.length_cons, List.length_nil] at this
    exact ⟨this.1, by omega⟩
   ·simp only [Step.tok.injEq] at h
    obtain ⟨rfl, rfl, rfl⟩ := h
    exact ⟨rfl, by omega⟩
theorem failS_gd (r : List UInt8) : ∀ (es : List (List UInt8)) kd t n, failS r es = .tok kd t n → kd = 5 ∧ t ∈ es
 | [], kd, t, n, h => by simp [failS] at h
 | e :: es, kd, t, n, h => by
   unfold failS at h
   split at h
   ·simp only [Step.tok.injEq] at h
    obtain ⟨rfl, rfl, rfl⟩ := h
    exact ⟨rfl, by simp⟩
   ·obtain ⟨h1, h2⟩ := failS_gd r es kd t n h
    exact ⟨h1, by simp [h2]⟩
theorem greatP_len (l : List UInt8) : (greatP l).length = l.length := by unfold greatP; simp
theorem greatP_ne {l : List UInt8} (h : l ≠ []) : greatP l ≠ [] := fun e => h (List.eq_nil_of_length_eq_zero (by rw [← greatP_len, e]; rfl))
theorem nameB_ne {l : List UInt8} (h : nameB l = true) : l ≠ [] := by
 unfold nameB at h
 simp only [Bool.and_eq_true, decide_eq_true_eq] at h
 exact h.1.1
theorem alikeP_len (c : Int) : (alikeP c).length ≤ 2 := by
 unfold alikeP
 repeat' split
 all_goals decide
theorem stepP_gd (r : List UInt8) (hl : r.length ≤ 2000) {kd : Int} {t : List UInt8} {n : Nat} (h : stepP r = .tok kd t n) (a c : Nat) : TokGd ⟨kd, t, a, c⟩ := by
 unfold stepP at h
 dsimp only at h
 split at h
 ·simp at h
 split at h
 ·simp at h
 split at h
 ·unfold wordsS at h
  dsimp only at h
  have hw : (r.take (runL wordB r)).length ≤ 8100 := by rw [List.length_take]; omega
  split at h
  ·rename_i hn
   simp only [Step.tok.injEq] at h
   obtain ⟨rfl, rfl, rfl⟩ := h
   exact .of (by decide) (by decide) hw (fun _ => hn) (fun h => no1 h (by decide)) (fun h => no1 h (by decide)) (fun h => no1 h (by decide))
  split at h
  ·rename_i hn
   simp only [Step.tok.injEq] at h
   obtain ⟨rfl, rfl, rfl⟩ := h
   exact .of (by decide) (by decide) (by rw [greatP_len]; omega) (fun h => no1 h (by decide)) (fun _ => ⟨_, hn, rfl⟩) (fun h => no1 h (by decide)) (fun h => no1 h (by decide))
  split at h
  ·rename_i hn
   simp only [Step.tok.injEq] at h
   obtain ⟨rfl, rfl, rfl⟩ := h
   exact .of (by decide) (by decide) (by rw [greatP_len]; omega) (fun h => no1 h (by decide)) (fun h => no1 h (by decide)) (fun h => no1 h (by decide)) (fun _ => greatP_ne (nameB_ne hn))
  ·simp at h
 split at h
 ·obtain ⟨rfl, h2⟩ := quotedF_len _ _ _ _ _ _ _ h
  rw [List.length_drop] at h2
  simp only [List.length_nil] at h2
  exact .of (by decide) (by decide) (by omega) (fun h => no1 h (by decide)) (fun h => no1 h (by decide)) (fun h => no1 h (by decide)) (fun h => no1 h (by decide))
 split at h
 ·obtain ⟨rfl, h2⟩ := failS_gd _ _ _ _ _ h
  have := errTexts_len t h2
  exact .of (by decide) (by decide) (by omega) (fun h => no1 h (by decide)) (fun h => no1 h (by decide)) (fun _ => h2) (fun h => no1 h (by decide))
 ·unfold opS at h
  split at h
  ·simp only [Step.tok.injEq] at h
   obtain ⟨rfl, rfl, rfl⟩ := h
   have := alikeP_len ((decodeL r).1 : Int)
   exact .of (by decide) (by decide) (by omega) (fun h => no1 h (by decide)) (fun h => no1 h (by decide)) (fun h => no1 h (by decide)) (fun h => no1 h (by decide))
  ·split at h
   ·rename_i e he
    simp only [Step.tok.injEq] at h
    obtain ⟨rfl, rfl, rfl⟩ := h
    have := twos_len e (twoS_fits r _ _ he).1
    exact .of (by decide) (by decide) (by omega) (fun h => no1 h (by decide)) (fun h => no1 h (by decide)) (fun h => no1 h (by decide)) (fun h => no1 h (by decide))
   ·split at h
    ·simp only [Step.tok.injEq] at h
     obtain ⟨rfl, rfl, rfl⟩ := h
     exact .of (by decide) (by decide) (by rw [List.length_take]; omega) (fun h => no1 h (by decide)) (fun h => no1 h (by decide)) (fun h => no1 h (by decide)) (fun h => no1 h (by decide))
    ·simp at h
theorem lexF_gd : ∀ (k : Nat) (r : List UInt8) (a c : Nat) (acc L : List Tok) (x : Nat), r.length ≤ 2000 → lexF k r a c acc = (L, x, 0) → (∀ t ∈ acc, TokGd t) → ∃ M a' c', L = M ++ [⟨0, [], a', c'⟩] ∧ (∀ t ∈ M, TokGd t) ∧ M.length ≤ acc.length + r.length
 | 0, r, a, c, acc, L, x, hr, h, hacc => by simp [lexF] at h
 | k + 1, r, a, c, acc, L, x, hr, h, hacc => by
   rw [lexF] at h
   split at h
   ·simp only [Prod.mk.injEq] at h
    obtain ⟨rfl, _⟩ := h
    exact ⟨acc, a, c, rfl, hacc, by omega⟩
   ·rename_i hne
    have hpos := List.length_pos_iff.2 hne
    split at h
    ·simp at h
    ·obtain ⟨M, a', c', h1, h2, h3⟩ := lexF_gd k _ _ _ _ _ _ (by rw [List.length_drop]; omega) h hacc
     rw [List.length_drop] at h3
     exact ⟨M, a', c', h1, h2, by omega⟩
    ·rename_i kd t n hst
     obtain ⟨f1, f2⟩ := (stepP_fits r hne).2 kd t n hst
     obtain ⟨M, a', c', h1, h2, h3⟩ := lexF_gd k _ _ _ _ _ _ (by rw [List.length_drop]; omega) h (fun u hu => by
      rcases List.mem_append.1 hu with hu | hu
      ·exact hacc u hu
      ·simp at hu; subst hu; exact stepP_gd r hr hst a c)
     rw [List.length_drop, List.length_append, List.length_singleton] at h3
     exact ⟨M, a', c', h1, h2, by omega⟩
theorem lexP_gd {s : List UInt8} (h : (lexP s).2.2 = 0) : ∃ M a' c', (lexP s).1 = M ++ [⟨0, [], a', c'⟩] ∧ (∀ t ∈ M, TokGd t) ∧ M.length ≤ 2000 := by
 unfold lexP at h ⊢
 split
 ·rename_i hl; rw [if_pos hl] at h; cases h
 ·rename_i hl
  rw [if_neg hl] at h
  obtain ⟨R, hR⟩ : ∃ R, lexF (s.length + 1) s 0 0 [] = R := ⟨_, rfl⟩
  rw [hR] at h ⊢
  obtain ⟨L, x, e⟩ := R
  dsimp only at h ⊢
  subst h
  obtain ⟨M, a', c', h1, h2, h3⟩ := lexF_gd _ _ _ _ _ _ _ (by omega) hR (by simp)
  exact ⟨M, a', c', h1, h2, by simp at h3; omega⟩
theorem getD_app_left {M : List Tok} {e : Tok} {i : Nat} (h : i < M.length) : (M ++ [e]).getD i endT = M.getD i endT := by
 rw [List.getD_eq_getElem?_getD, List.getD_eq_getElem?_getD, List.getElem?_append_left h]
theorem getD_mem {M : List Tok} {i : Nat} (h : i < M.length) : M.getD i endT ∈ M := by
 rw [List.getD_eq_getElem?_getD, List.getElem?_eq_getElem h]
 exact List.getElem_mem h
theorem lex_toks {s : List UInt8} (h : (lexP s).2.2 = 0) : TokOk (lexP s).1 ∧ (lexP s).1.length ≤ 2001 ∧ ∀ i, ((lexP s).1.getD i endT).kind ≠ 0 → TokGd ((lexP s).1.getD i endT) := by
 obtain ⟨M, a', c', h1, h2, h3⟩ := lexP_gd h
 rw [h1]
 have hl : (M ++ [(⟨0, [], a', c'⟩ : Tok)]).length = M.length + 1 := by simp
 have hlast : (M ++ [(⟨0, [], a', c'⟩ : Tok)]).getD M.length endT = ⟨0, [], a', c'⟩ := by
  rw [List.getD_eq_getElem?_getD, List.getElem?_append_right (Nat.le_refl _), Nat.sub_self]; rfl
 have hout : ∀ i, M.length < i → (M ++ [(⟨0, [], a', c'⟩ : Tok)]).getD i endT = endT := fun i hi => by
  rw [List.getD_eq_getElem?_getD, List.getElem?_eq_none (by rw [hl]; omega)]; rfl
 have hgd : ∀ i, i < M.length → TokGd ((M ++ [(⟨0, [], a', c'⟩ : Tok)]).getD i endT) := fun i hi => by
  rw [getD_app_left hi]; exact h2 _ (getD_mem hi)
 refine ⟨⟨⟨by rw [hl]; omega, fun i hi => ?_, fun i hi hk => ?_⟩, by rw [hl]; omega, fun i => ?_⟩, by rw [hl]; omega, fun i hk => ?_⟩
 ·rw [hl] at hi
  obtain rfl : i = M.length := by omega
  rw [hlast]
 ·rw [hl] at hi ⊢
  rcases Nat.lt_or_ge i M.length with h | h
  ·omega
  ·obtain rfl : i = M.length := by omega
   rw [hlast] at hk
   exact absurd rfl hk
 ·rcases Nat.lt_trichotomy i M.length with h | h | h
  ·have := (hgd i h).len; omega
  ·subst h; rw [hlast]; simp
  ·rw [hout i h]; simp [endT]
 ·rcases Nat.lt_trichotomy i M.length with h | h | h
  ·exact hgd i h
  ·subst h; rw [hlast] at hk; exact absurd rfl hk
  ·rw [hout i h] at hk; exact absurd rfl hk
def st0 : PSt := ⟨0, 0, 0, 0⟩
theorem st0_fit {T : List Tok} (h : Ends T) : Fit T st0 := ⟨h.pos, by decide, by decide, fun _ => by decide⟩
def parseR (s : List UInt8) : Nd × Int × Int := (parseT (30 * (lexP s).1.length + 30) s).getD (zN, 0, 0)
theorem betw_some {s : List UInt8} (h : (lexP s).2.2 = 0) : ∃ r, betwP (lexP s).1 (30 * (lexP s).1.length + 30) 0 st0 = some r := by
 obtain ⟨hT, _, _⟩ := lex_toks h
 refine (suffF hT.ends _).betw 0 st0 (by omega) (st0_fit hT.ends) ?_
 unfold Mz
 split
 ·show 30 * (_ - 0) + 20 ≤ _
  omega
 ·omega
set_option maxHeartbeats 2000000 in
theorem parseR_ok {σ : ASt} (hU : U8 σ) (hV : LV σ) (s : List UInt8) (hs : s.length ≤ 100000) : ACalls Tryz.prog 8 [.str s] σ fun v σ' => v = .tuple [(parseR s).1.av, .int .i64 (parseR s).2.1, .int .i64 (parseR s).2.2] ∧ σ' = σ := by
 have hL := fun (τ : ASt) (h : U8 τ) => lex_ok h s hs
 obtain ⟨R, hR⟩ : ∃ R, parseR s = R := ⟨_, rfl⟩
 rw [hR]
 unfold parseR parseT at hR
 have hbs := betw_some (s := s)
 have hto := lex_toks (s := s)
 obtain ⟨FU, hFU⟩ : ∃ FU, 30 * (lexP s).1.length + 30 = FU := ⟨_, rfl⟩
 rw [hFU] at hR hbs
 generalize lexP s = X at *
 obtain ⟨T, at', er⟩ := X
 dsimp only at *
 have hz : ∀ a e : Int, ∀ σ σ' : ASt, Fz σ σ' (resV [.agg [.int .i64 0, .int .i64 0, .str [], .int .i64 0, .int .i64 0, .bool false, .bool false, .int .i64 0, .int .i64 0, .bool false, .bool false, .sl .full []], .int .i64 a, .int .i64 e]) (.tuple [.agg (Nd.cs 0 0 [] .zero .zero []), .int .i64 a, .int .i64 e]) := fun a e σ σ' =>
  .tuple (.cons (.agg (.cons (.refl _) (.cons (.refl _) (.cons (.refl _) (.cons (.refl _) (.cons (.refl _) (.cons (.refl _) (.cons (.refl _) (.cons (.refl _) (.cons (.refl _) (.cons (.refl _) (.cons (.refl _) (.cons (.sl _ _) .nil))))))))))))) (.cons (.refl _) (.cons (.refl _) .nil)))
 refine a8 (by simp) ?_
 simp (disch := first | assumption | omega) only [go_sem]
 refine allocC_by fun d hd => ?_
 have hUd := hU.set hd (r := some (.obj zero12))
 have hVd : LV (σ.set d (some (.obj zero12))) := by
  unfold LV at hV ⊢
  rw [ASt.set_ne]
  ·exact hV
  ·rintro e; rw [← e, hV] at hd; cases hd
 unfold zero12 at hUd hVd
 simp (disch := first | assumption | omega) only [go_sem, reduceCtorEq, ↓reduceIte]
 refine (hL _ hUd).mono ?_
 rintro v σ1 ⟨rfl, rfl⟩
 by_cases he : er = 0
 ·rw [if_neg (by simp [he])] at hR
  obtain ⟨hT, hTl, _⟩ := hto he
  obtain ⟨r1, hr1⟩ := hbs he
  have hr1' : betwP T FU 0 ⟨0, 0, 0, 0⟩ = some r1 := hr1
  rw [hr1'] at hR
  have hw := (wentF hT.ends FU).betw _ _ _ hr1 (st0_fit hT.ends)
  have hwk := (walkF hT FU).betw
  obtain ⟨n, s1⟩ := r1
  dsimp only at hR hw
  obtain ⟨s2, hs2⟩ : ∃ s2, (if (curT T s1).kind ≠ 0 then failP T s1 10 else s1) = s2 := ⟨_, rfl⟩
  rw [hs2] at hR
  simp (disch := first | assumption | omega) only [go_sem, Nat.reduceEqDiff, Nat.reduceAdd, Nat.reduceLeDiff, ↓reduceIte, he]
  refine boxC_by rfl fun b hb => ?_
  have hbd : b ≠ d := by rintro rfl; rw [ASt.set_same] at hb; cases hb
  have hb0 : σ b = none := by rwa [ASt.set_ne hbd] at hb
  have hbp : (σ.set b (pr T st0)) b = pr T st0 := ASt.set_same _ _ _
  have hVb : LV (σ.set b (pr T st0)) := by
   unfold LV at hV ⊢
   rw [ASt.set_ne]
   ·exact hV
   ·rintro e; rw [← e, hV] at hb0; cases hb0
  obtain ⟨_, T2, S2⟩ := St2.of (σ := σ.set b (pr T st0)) (b := b) (d := d) (by rw [ASt.set_ne (Ne.symm hbd)]; exact hd) (pr_fix hbp).1 (pr_fix hbp).2
  have V2 : ∀ X Y, LV (T2 X Y) := fun X Y => S2.fix _ _ _ _ hVb
  have hst : ∀ Z : Option Role, (σ.set d Z).set b (some (.obj [.sl .shr (T.map tokAV), .int .i64 0, .int .i64 0, .int .i64 0, .int .i64 0])) = T2 (pr T st0) Z := fun Z => by
   have := S2.ba (pr T st0) Z
   rw [← this, set_swap hbd, ASt.set_set]
   rfl
  have k1 := S2.s1
  have hcb := fun Y => hwk b 0 st0 (n, s1) (by omega) hr1 (st0_fit hT.ends) _ (V2 (pr T st0) Y) (S2.a1 _ _)
  rw [show ((0 : Nat) : Int) = 0 from rfl] at hcb
  dsimp only at hcb
  obtain ⟨o, m, t, x, y, ks⟩ := n
  simp only [Nd.av_cs] at hcb
  generalize hKL : ks.map Nd.av = KL at *
  simp (disch := first | assumption | omega) only [go_sem, ↓reduceIte, hst]
  refine (hcb _).mono ?_
  rintro v σ1 ⟨rfl, rfl⟩
  rw [k1]
  simp (disch := first | assumption | omega) only [go_sem]
  refine allocC_by fun e he2 => ?_
  obtain ⟨hbe, hde, T3, S3⟩ := St3.of S2 (X0 := .obj _) he2
  have ab := S3.ab
  have k3 := S3.s3
  have k2 := S3.s2
  have k1 := S3.s1
  have w3 := S3.a3
  have w2 := S3.a2
  have w1 := S3.a1
  have hDr : ∀ X Y Z, Drop (T3 X Y Z) σ := fun X Y Z => by
   have h1 := S3.drop X Y Z
   rw [ASt.set_set] at h1
   exact h1.trans (Drop.set hb0)
  have hcu := fun Y Z => pcur_ok (T := T) hw.fit.i (w1 (pr T s1) Y Z)
  have hfl := fun τ hh => pfail_ok (T := T) (s := s1) hw.fit.i 10 (σ := τ) (b := b) hh
  generalize curT T s1 = tk at *
  unfold tokAV at hcu
  obtain ⟨F, hF⟩ : ∃ F, F = ACode.wp Tryz.prog c8_20 := ⟨_, rfl⟩
  have fin : ∀ a1 : AFr, (a1 2 = .ptr d 0 ∧ a1 8 = .ptr b 0 ∧ a1 9 = .ptr e 0) → F (RetQ [.c 2 (some 12), .t 3, .t 4] fun v σ' => v = .tuple [R.1.av, .int .i64 R.2.1, .int .i64 R.2.2] ∧ σ' = σ) a1 (T3 (pr T s2) (some (.obj zero12)) (some (.obj (Nd.cs o m t x y KL)))) := by
   intro a1 hf1
   rw [hF]
   unfold zero12
   have x1 : ∀ Y Z, T3 (pr T s2) Y Z b = some (.obj [.sl .shr (T.map tokAV), .int .i64 s2.i, .int .i64 s2.deep, .int .i64 s2.err, .int .i64 s2.bad]) := fun Y Z => w1 _ _ _
   by_cases h2 : s2.err = 0
   ·rw [if_neg (by simp [h2])] at hR
    have hR' : (Nd.mk o m t x y ks, (0 : Int), (0 : Int)) = R := hR
    subst hR'
    dsimp only
    rw [Nd.av_cs, hKL]
    simp (disch := first | assumption | omega) only [go_sem, Nat.reduceEqDiff, Nat.reduceAdd, Nat.reduceLeDiff, ↓reduceIte, hf1, x1, h2, w3, w2, k2]
    exact retC_by (hDr _ _ _) (.refl _) ⟨rfl, rfl⟩
   ·rw [if_pos h2] at hR
    have hR' : (zN, s2.bad, s2.err) = R := hR
    subst hR'
    dsimp only
    rw [zN_av]
    simp (disch := first | assumption | omega) only [go_sem, Nat.reduceEqDiff, Nat.reduceAdd, Nat.reduceLeDiff, ↓reduceIte, Bool.true_and, hf1, x1, h2, w2, k2]
    exact retC_by (hDr _ _ _) (hz _ _ _ _) ⟨rfl, rfl⟩
  unfold zero12 at fin
  simp (disch := first | assumption | omega) only [go_sem, Nat.reduceEqDiff, Nat.reduceAdd, Nat.reduceLeDiff, ↓reduceIte, ab, k3, w3, ←hF]
  refine (hcu _ _).mono ?_
  rintro v σ1 ⟨rfl, rfl⟩
  by_cases hk : tk.kind = 0
  ·rw [if_neg (by simp [hk])] at hs2
   subst hs2
   simp (disch := first | assumption | omega) only [go_sem, ↓reduceIte, hk]
   refine fin _ ?_
   simp (disch := first | assumption | omega) only [go_sem, Nat.reduceEqDiff, ↓reduceIte]
  ·rw [if_pos hk] at hs2
   subst hs2
   simp (disch := first | assumption | omega) only [go_sem, Nat.reduceEqDiff, ↓reduceIte, hk]
   refine (hfl _ (w1 _ _ _)).mono ?_
   rintro v σ1 ⟨rfl, rfl⟩
   rw [k1]
   simp (disch := first | assumption | omega) only [go_sem]
   refine fin _ ?_
   simp (disch := first | assumption | omega) only [go_sem, Nat.reduceEqDiff, ↓reduceIte]
 ·rw [if_pos he] at hR
  have hR' : (zN, (at' : Int), er) = R := hR
  subst hR'
  rw [zN_av]
  simp (disch := first | assumption | omega) only [go_sem, Nat.reduceEqDiff, Nat.reduceAdd, Nat.reduceLeDiff, ↓reduceIte, Bool.true_and, he, ASt.set_set]
  exact retC_by (Drop.set hd) (hz _ _ _ _) ⟨rfl, rfl⟩
end Go.A
namespace Go.A
open Go.Proofs Go.Lib
theorem columnP_rng (l : List UInt8) : 0 ≤ (columnP l).1 ∧ (columnP l).1 < 700 := by
 unfold columnP
 split
 ·split
  ·decide
  ·dsimp only; omega
 ·decide
theorem readQ_good (l : List UInt8) (i : Nat) (col : Int) (ar ac : Bool) (h : 0 ≤ col ∧ col < 700) : (readQ l i col ar ac).1.good = true := by
 unfold readQ
 split
 ·rfl
 ·simp only [Ref.good, decide_eq_true_eq]; omega
theorem readR_good (l : List UInt8) (i : Nat) (ac : Bool) : (readR l i ac).1.good = true := by
 unfold readR
 split
 ·rfl
 split
 ·exact readQ_good _ _ _ _ _ (columnP_rng _)
 ·exact readQ_good _ _ _ _ _ (columnP_rng _)
theorem parseP_good (l : List UInt8) : (parseP l).1.good = true := by
 unfold parseP
 split
 ·rfl
 ·unfold readP
  split
  ·exact readR_good _ _ _
  ·exact readR_good _ _ _
theorem parseQ_rng {m d : Bool} {w p : List UInt8} {v : Int} (h : parseQ m w p d = some v) : v.natAbs ≤ 999999999999999999 := by
 unfold parseQ at h
 split at h
 ·cases h
 ·obtain ⟨n, _, hn⟩ := Option.bind_eq_some_iff.1 h
  unfold madeP at hn
  split at hn
  ·injection hn with hn
   split at hn <;> omega
  ·cases hn
theorem parseD_rng {s : List UInt8} {v : Int} (h : parseD s = some v) : v.natAbs ≤ 999999999999999999 := parseQ_rng h
mutual
def Nd.nk : Nd → Prop
 | .mk op _ _ _ _ ks => ((op = 5 ∨ op = 6) → ks = []) ∧ Nd.nks ks
def Nd.nks : List Nd → Prop
 | [] => True
 | x :: xs => x.nk ∧ Nd.nks xs
end
theorem nks_mem : ∀ {l : List Nd}, Nd.nks l ↔ ∀ x ∈ l, x.nk
 | [] => by simp [Nd.nks]
 | x :: xs => by rw [Nd.nks, nks_mem (l := xs)]; simp
def Nd.gd (n : Nd) : Prop := n.ok ∧ n.nk
theorem gd_mk {op n : Int} {s : List UInt8} {a b : Ref} {ks : List Nd} (h : nodeOk op n s a b ks.length) (h2 : (op = 5 ∨ op = 6) → ks = []) (hk : ∀ x ∈ ks, x.gd) : (Nd.mk op n s a b ks).gd := by
 constructor
 ·rw [Nd.ok]
  exact ⟨h, Nd.oks_mem.2 fun x hx => (hk x hx).1⟩
 ·rw [Nd.nk]
  exact ⟨h2, nks_mem.2 fun x hx => (hk x hx).2⟩
theorem no_kids {x : Nd} : ∀ y ∈ ([] : List Nd), y.gd := fun y hy => by cases hy
theorem miss_gd : missN.gd := gd_mk ⟨by decide, fun h => by omega, fun h => by omega, fun h => by omega, fun h => by omega, fun h => by omega, fun h => by omega, fun h => by omega, fun h => by omega, by decide⟩ (fun h => by omega) (no_kids (x := missN))
theorem sign_rng {x : List UInt8} {lvl : Nat} (h : x ∈ levelsL.getD lvl []) : 0 ≤ idxP signL x ∧ idxP signL x ≤ 11 := by
 have : ∀ y ∈ levelsL.flatten, 0 ≤ idxP signL y ∧ idxP signL y ≤ 11 := by decide
 refine this x (List.mem_flatten.2 ?_)
 rw [List.getD_eq_getElem?_getD] at h
 cases hl : levelsL[lvl]? with
 | none => rw [hl] at h; simp at h
 | some l => rw [hl] at h; exact ⟨l, List.mem_of_getElem? hl, h⟩
theorem fault_rng {x : List UInt8} (h : x ∈ errTexts) : 0 ≤ idxP errL x ∧ idxP errL x ≤ 6 := by
 have : ∀ y ∈ errTexts, 0 ≤ idxP errL y ∧ idxP errL y ≤ 6 := by decide
 exact this x h
theorem sizes_snoc (l : List Nd) (x : Nd) : Nd.sizes (l ++ [x]) = Nd.sizes l + x.size := by
 induction l with
 | nil => simp [Nd.sizes]
 | cons y l ih => rw [List.cons_append, Nd.sizes, ih, Nd.sizes]; omega
section
variable {T : List Tok}
theorem Went.e0 {s s' : PSt} (h : Went T s s') (h0 : s'.err = 0) : s.err = 0 := by
 by_cases he : s.err = 0
 ·exact he
 ·have := (h.err he).1; omega
theorem enter_i {s : PSt} (h : (stepP1 (enterP T s)).err = 0) : (stepP1 (enterP T s)).i = s.i + 1 := by
 have hi : (enterP T s).i = s.i := by
  unfold enterP failP
  split
  ·split <;> rfl
  ·rfl
 unfold stepP1 at h ⊢
 split
 ·show (enterP T s).i + 1 = _
  omega
 ·rename_i hne
  rw [if_neg hne] at h
  exact absurd h hne
theorem must_i {s : PSt} {x : List UInt8} (h : (mustP T s x).err = 0) : s.err = 0 ∧ (mustP T s x).i = s.i + 1 := by
 unfold mustP at h ⊢
 split
 ·rename_i hx
  rw [if_pos hx] at h
  exact ⟨h, rfl⟩
 ·rename_i hx
  rw [if_neg hx] at h
  unfold failP at h
  split at h
  ·cases h
  ·rename_i hne; exact absurd h hne
theorem fail_err {s : PSt} {e : Int} (he : e ≠ 0) (h : (failP T s e).err = 0) : False := by
 unfold failP at h
 split at h
 ·exact he h
 ·rename_i hne; exact hne h
structure GoodF (T : List Tok) (f : Nat) : Prop where
 betw : ∀ lvl s r, betwP T f lvl s = some r → Fit T s → r.2.err = 0 → r.1.gd ∧ r.1.size + 2 * s.i ≤ 2 * r.2.i
 loop : ∀ lvl n s r, loopP T f lvl n s = some r → Fit T s → r.2.err = 0 → n.gd → r.1.gd ∧ r.1.size + 2 * s.i ≤ n.size + 2 * r.2.i
 signed : ∀ s r, signedP T f s = some r → Fit T s → r.2.err = 0 → r.1.gd ∧ r.1.size + 2 * s.i ≤ 2 * r.2.i
 hundred : ∀ s r, hundredP T f s = some r → Fit T s → r.2.err = 0 → r.1.gd ∧ r.1.size + 2 * s.i ≤ 2 * r.2.i
 hloop : ∀ n s r, hloopP T f n s = some r → Fit T s → r.2.err = 0 → n.gd → r.1.gd ∧ r.1.size + 2 * s.i ≤ n.size + 2 * r.2.i
 prim : ∀ s r, primP T f s = some r → Fit T s → r.2.err = 0 → r.1.gd ∧ r.1.size + 2 * s.i ≤ 2 * r.2.i
 name : ∀ s r, nameP T f s = some r → Fit T s → (curT T s).kind = 3 → r.2.err = 0 → r.1.gd ∧ r.1.size + 2 * s.i ≤ 2 * r.2.i
 args : ∀ s r, argsP T f s = some r → Fit T s → r.2.err = 0 → (∀ x ∈ r.1, x.gd) ∧ Nd.sizes r.1 + 2 * s.i ≤ 2 * r.2.i
 aloop : ∀ l s r, aloopP T f l s = some r → Fit T s → r.2.err = 0 → (∀ x ∈ l, x.gd) → (∀ x ∈ r.1, x.gd) ∧ Nd.sizes r.1 + 2 * s.i ≤ Nd.sizes l + 2 * r.2.i
theorem leaf_gd {op n : Int} {s : List UInt8} {a b : Ref} (h : nodeOk op n s a b 0) : (Nd.mk op n s a b []).gd := gd_mk h (fun _ => rfl) (no_kids (x := missN))
theorem leaf_size (op n : Int) (s : List UInt8) (a b : Ref) : (Nd.mk op n s a b []).size = 1 := by rw [Nd.size, Nd.sizes]
theorem one_size (op n : Int) (s : List UInt8) (a b : Ref) (x : Nd) : (Nd.mk op n s a b [x]).size = 1 + x.size := by rw [Nd.size, Nd.sizes, Nd.sizes]; omega
theorem two_size (op n : Int) (s : List UInt8) (a b : Ref) (x y : Nd) : (Nd.mk op n s a b [x, y]).size = 1 + x.size + y.size := by rw [Nd.size, Nd.sizes, Nd.sizes, Nd.sizes]; omega
theorem one_gd {op n : Int} {s : List UInt8} {a b : Ref} {x : Nd} (h : nodeOk op n s a b 1) (h5 : op ≠ 5 ∧ op ≠ 6) (hx : x.gd) : (Nd.mk op n s a b [x]).gd :=
 gd_mk h (fun h => by omega) fun y hy => by simp at hy; subst hy; exact hx
theorem one_ok {op : Int} (h : op = 7 ∨ op = 8 ∨ op = 9) : nodeOk op 0 [] .zero .zero 1 :=
 ⟨by omega, fun h => by omega, fun h => by omega, fun h => by omega, fun h => by omega, fun h => by omega, fun h => by omega, fun h => by omega, fun h => by omega, by decide⟩
theorem goodF (hT : Ends T) (hG : ∀ i, (T.getD i endT).kind ≠ 0 → TokGd (T.getD i endT)) (hL : T.length ≤ 100000) : ∀ f, GoodF T f
 | 0 => by
   constructor
   all_goals intros
   all_goals first
    | (rename_i h _ _; simp only [betwP, signedP, hundredP, primP, argsP, reduceCtorEq] at h)
    | (rename_i h _ _ _; simp only [loopP, hloopP, nameP, aloopP, reduceCtorEq] at h)
 | f + 1 => by
   have ih := goodF hT hG hL f
   have W := wentF hT f
   constructor
   ·intro lvl s r h hf h0
    rw [betwP] at h
    split at h
    ·exact ih.signed s r h hf h0
    ·split at h
     ·cases h
     ·rename_i r1 h1
      have w1 := W.betw _ _ _ h1 hf
      have w2 := W.loop _ _ _ _ h w1.fit
      obtain ⟨g1, g2⟩ := ih.betw _ _ _ h1 hf (w2.e0 h0)
      obtain ⟨g3, g4⟩ := ih.loop _ _ _ _ h w1.fit h0 g1
      exact ⟨g3, by omega⟩
   ·intro lvl n s r h hf h0 hn
    rw [loopP] at h
    split at h
    ·rename_i hk
     split at h
     ·cases h
     ·rename_i r1 h1
      have w0 := Went.next hT hf (sgn_kind hk)
      have w1 := W.betw _ _ _ h1 w0.fit
      have w2 := W.loop _ _ _ _ h w1.fit
      obtain ⟨g1, g2⟩ := ih.betw _ _ _ h1 w0.fit (w2.e0 h0)
      have hs : (curT T s).text ∈ levelsL.getD lvl [] := by
       unfold sgn at hk
       simp only [Bool.and_eq_true, decide_eq_true_eq] at hk
       exact hk.2
      have hr := sign_rng hs
      have hg : (Nd.mk (10 + idxP signL (curT T s).text) 0 [] .zero .zero [n, r1.1]).gd := by
       refine gd_mk ⟨by omega, fun h => by omega, fun h => by omega, fun h => by omega, fun h => by omega, fun h => by omega, fun h => by omega, fun h => by omega, fun h => by simp, by simp⟩ (fun h => by omega) fun y hy => ?_
       simp only [List.mem_cons, List.not_mem_nil, or_false] at hy
       rcases hy with rfl | rfl
       ·exact hn
       ·exact g1
      obtain ⟨g3, g4⟩ := ih.loop _ _ _ _ h w1.fit h0 hg
      rw [two_size] at g4
      have : s.next.i = s.i + 1 := rfl
      exact ⟨g3, by omega⟩
    ·injection h with h; subst h; exact ⟨hn, by dsimp only; omega⟩
   ·intro s r h hf h0
    rw [signedP] at h
    split at h
    ·rename_i hk
     split at h
     ·cases h
     ·rename_i r1 h1
      injection h with h; subst h
      obtain ⟨e1, e2, e3⟩ := enter_fit hT hf (isOp_kind hk)
      have w1 := W.signed _ _ h1 e1
      have e4 := enter_i (w1.e0 h0)
      obtain ⟨g1, g2⟩ := ih.signed _ _ h1 e1 h0
      dsimp only
      rw [one_size]
      exact ⟨one_gd (one_ok (by omega)) (by omega) g1, by show _ ≤ 2 * r1.2.i; omega⟩
    split at h
    ·rename_i hk
     split at h
     ·cases h
     ·rename_i r1 h1
      injection h with h; subst h
      obtain ⟨e1, e2, e3⟩ := enter_fit hT hf (isOp_kind hk)
      have w1 := W.signed _ _ h1 e1
      have e4 := enter_i (w1.e0 h0)
      obtain ⟨g1, g2⟩ := ih.signed _ _ h1 e1 h0
      dsimp only
      rw [one_size]
      exact ⟨one_gd (one_ok (by omega)) (by omega) g1, by show _ ≤ 2 * r1.2.i; omega⟩
    ·exact ih.hundred _ _ h hf h0
   ·intro s r h hf h0
    rw [hundredP] at h
    split at h
    ·cases h
    ·rename_i r1 h1
     have w1 := W.prim _ _ h1 hf
     have w2 := W.hloop _ _ _ h w1.fit
     obtain ⟨g1, g2⟩ := ih.prim _ _ h1 hf (w2.e0 h0)
     obtain ⟨g3, g4⟩ := ih.hloop _ _ _ h w1.fit h0 g1
     exact ⟨g3, by omega⟩
   ·intro n s r h hf h0 hn
    rw [hloopP] at h
    split at h
    ·rename_i hk
     have w0 := Went.next hT hf (isOp_kind hk)
     obtain ⟨g3, g4⟩ := ih.hloop _ _ _ h w0.fit h0 (one_gd (one_ok (by omega)) (by omega) hn)
     rw [one_size] at g4
     have : s.next.i = s.i + 1 := rfl
     exact ⟨g3, by omega⟩
    ·injection h with h; subst h; exact ⟨hn, by dsimp only; omega⟩
   ·intro s r h hf h0
    have hni : s.next.i = s.i + 1 := rfl
    have hgd : (curT T s).kind ≠ 0 → TokGd (curT T s) := fun hk => by
     have he := cur_err hk
     rw [cur_at he] at hk ⊢
     exact hG _ hk
    rw [primP] at h
    split at h
    ·rename_i hk
     split at h
     ·injection h with h; subst h; exact absurd h0 fun h => fail_err (by decide) h
     ·rename_i v hv
      injection h with h; subst h
      refine ⟨leaf_gd ⟨by decide, fun _ => parseD_rng hv, fun h => by omega, fun h => by omega, fun h => by omega, fun h => by omega, fun h => by omega, fun h => by omega, fun h => by omega, by decide⟩, ?_⟩
      rw [leaf_size]; dsimp only; omega
    split at h
    ·rename_i hk
     injection h with h; subst h
     have := (hgd (by omega)).len
     refine ⟨leaf_gd ⟨by decide, fun h => by omega, fun _ => by omega, fun h => by omega, fun h => by omega, fun h => by omega, fun h => by omega, fun h => by omega, fun h => by omega, by decide⟩, ?_⟩
     rw [leaf_size]; dsimp only; omega
    split at h
    ·rename_i hk
     injection h with h; subst h
     have hr := fault_rng ((hgd (by omega)).err hk)
     have hq : ((idxP errL (curT T s).text + 1) * 10000).tdiv 10000 = idxP errL (curT T s).text + 1 := Int.mul_tdiv_cancel _ (by decide)
     refine ⟨leaf_gd ⟨by decide, fun h => by omega, fun h => by omega, fun h => by rw [hq]; omega, fun h => by omega, fun h => by omega, fun h => by omega, fun h => by omega, fun h => by omega, by decide⟩, ?_⟩
     rw [leaf_size]; dsimp only; omega
    split at h
    ·rename_i hk
     injection h with h; subst h
     unfold areaP at h0 ⊢
     split at h0
     ·rename_i ho
      rw [if_pos ho]
      refine ⟨leaf_gd ⟨by decide, fun h => by omega, fun h => by omega, fun h => by omega, fun h => by omega, fun _ => parseP_good _, fun h => by omega, fun h => by omega, fun h => by omega, by decide⟩, ?_⟩
      rw [leaf_size]; dsimp only; omega
     ·rename_i ho
      rw [if_neg ho]
      split at h0
      ·exact absurd h0 fun h => fail_err (by decide) h
      ·rename_i hk2
       rw [if_neg hk2]
       refine ⟨leaf_gd ⟨by decide, fun h => by omega, fun h => by omega, fun h => by omega, fun h => by omega, fun _ => parseP_good _, fun _ => parseP_good _, fun h => by omega, fun h => by omega, by decide⟩, ?_⟩
       rw [leaf_size]
       have : s.next.next.next.i = s.i + 3 := rfl
       dsimp only; omega
    split at h
    ·rename_i hk
     exact ih.name _ _ h hf hk h0
    split at h
    ·rename_i hk
     split at h
     ·cases h
     ·rename_i r1 h1
      injection h with h; subst h
      obtain ⟨e1, e2, e3⟩ := enter_fit hT hf (isOp_kind hk)
      have w1 := W.betw _ _ _ h1 e1
      obtain ⟨m1, m2⟩ := must_i (T := T) (s := r1.2) (x := [41]) h0
      have e4 := enter_i (w1.e0 m1)
      obtain ⟨g1, g2⟩ := ih.betw _ _ _ h1 e1 m1
      exact ⟨g1, by show _ ≤ 2 * (mustP T r1.2 [41]).i; dsimp only; omega⟩
    ·injection h with h; subst h; exact absurd h0 fun h => fail_err (by decide) h
   ·intro s r h hf hk3 h0
    have hni : s.next.i = s.i + 1 := rfl
    have he0 : s.err = 0 := cur_err (T := T) (by omega)
    have hn := hf.next hT (by omega)
    have hgd : TokGd (curT T s) := by
     have hk : (curT T s).kind ≠ 0 := by omega
     rw [cur_at he0] at hk ⊢
     exact hG _ hk
    rw [nameP] at h
    split at h
    ·rename_i hk
     obtain ⟨e1, e2, e3⟩ := enter_err hT hf he0
     split at h
     ·rename_i he
      injection h with h; subst h
      exact absurd h0 he
     ·rename_i he
      split at h
      ·cases h
      ·rename_i r1 h1
       injection h with h; subst h
       obtain ⟨g1, g2, g3, _⟩ := enter2 hT hf (by omega) (by simpa using he)
       have hl := hT.more (s.i + 1) hn.1.i (by omega)
       have g4 : Fit T (enterP T s).next.next := ⟨by show (enterP T s).i + 1 + 1 < _; omega, g1.d0, g1.d1, g1.d2⟩
       have w1 := W.args _ _ h1 g4
       obtain ⟨k1, k2⟩ := ih.args _ _ h1 g4 h0
       have hi2 : (enterP T s).next.next.i = (enterP T s).i + 2 := rfl
       have hsl := sizes_len r1.1
       have hlt := w1.fit.i
       refine ⟨gd_mk ⟨by decide, fun h => by omega, fun h => by omega, fun h => by omega, fun _ => hgd.nam hk3, fun h => by omega, fun h => by omega, fun h => by omega, fun h => by omega, by omega⟩ (fun h => by omega) k1, ?_⟩
       dsimp only
       rw [Nd.size]
       show _ ≤ 2 * r1.2.i
       omega
    split at h
    ·injection h with h; subst h
     refine ⟨leaf_gd ⟨by decide, fun h => by omega, fun h => by omega, fun h => by omega, fun h => by omega, fun h => by omega, fun h => by omega, fun h => by omega, fun h => by omega, by decide⟩, ?_⟩
     rw [leaf_size]; dsimp only; omega
    split at h
    ·injection h with h; subst h
     refine ⟨leaf_gd ⟨by decide, fun h => by omega, fun h => by omega, fun h => by omega, fun h => by omega, fun h => by omega, fun h => by omega, fun h => by omega, fun h => by omega, by decide⟩, ?_⟩
     rw [leaf_size]; dsimp only; omega
    ·injection h with h; subst h; exact absurd h0 fun h => fail_err (by decide) h
   ·intro s r h hf h0
    rw [argsP] at h
    split at h
    ·rename_i hk
     injection h with h; subst h
     refine ⟨no_kids (x := missN), ?_⟩
     have : s.next.i = s.i + 1 := rfl
     rw [Nd.sizes]; dsimp only; omega
    ·obtain ⟨g1, g2⟩ := ih.aloop _ _ _ h hf h0 (no_kids (x := missN))
     rw [Nd.sizes] at g2
     exact ⟨g1, by omega⟩
   ·intro l s r h hf h0 hl
    rw [aloopP] at h
    split at h
    ·rename_i he
     injection h with h; subst h; exact absurd h0 he
    ·rename_i he
     split at h
     ·cases h
     ·rename_i r1 h1
      have w1 : Went T s r1.2 := by
       split at h1
       ·injection h1 with h1; subst h1; exact Went.refl hf
       ·exact W.betw _ _ _ h1 hf
      have key : r1.2.err = 0 → r1.1.gd ∧ r1.1.size + 2 * s.i ≤ 1 + 2 * r1.2.i := fun k0 => by
       split at h1
       ·injection h1 with h1; subst h1
        refine ⟨miss_gd, ?_⟩
        show missN.size + _ ≤ _
        unfold missN
        rw [leaf_size]
        dsimp only
        omega
       ·obtain ⟨k1, k2⟩ := ih.betw _ _ _ h1 hf k0
        exact ⟨k1, by omega⟩
      have hsnoc := sizes_snoc l r1.1
      have hmem : r1.1.gd → ∀ x ∈ l ++ [r1.1], x.gd := fun k x hx => by
       rcases List.mem_append.1 hx with hx | hx
       ·exact hl x hx
       ·simp at hx; subst hx; exact k
      split at h
      ·rename_i hk
       have w2 := Went.next hT w1.fit (isOp_kind hk)
       have w3 := W.aloop _ _ _ h w2.fit
       obtain ⟨k1, k2⟩ := key (w2.e0 (w3.e0 h0))
       obtain ⟨g1, g2⟩ := ih.aloop _ _ _ h w2.fit h0 (hmem k1)
       have : r1.2.next.i = r1.2.i + 1 := rfl
       exact ⟨g1, by omega⟩
      ·injection h with h; subst h
       obtain ⟨m1, m2⟩ := must_i (T := T) (s := r1.2) (x := [41]) h0
       obtain ⟨k1, k2⟩ := key m1
       exact ⟨hmem k1, by dsimp only; omega⟩
end
theorem parseR_gd {s : List UInt8} (h : (parseR s).2.2 = 0) : (parseR s).1.gd ∧ (parseR s).1.size ≤ 5000 := by
 unfold parseR parseT at h ⊢
 by_cases h1 : (lexP s).2.2 = 0
 ·obtain ⟨hT, hL, hG⟩ := lex_toks h1
  obtain ⟨r, hr⟩ := betw_some h1
  have hr' := hr
  unfold st0 at hr
  rw [if_neg (by simp [h1]), hr] at h ⊢
  dsimp only at h ⊢
  have W := (wentF hT.ends _).betw _ _ _ hr' (st0_fit hT.ends)
  obtain ⟨q, hq⟩ : ∃ q, (if (curT (lexP s).1 r.2).kind ≠ 0 then failP (lexP s).1 r.2 10 else r.2) = q := ⟨_, rfl⟩
  rw [hq] at h ⊢
  by_cases he : q.err ≠ 0
  ·rw [if_pos he] at h
   exact absurd h he
  ·rw [if_neg he]
   have h0 : r.2.err = 0 := by
    split at hq
    ·subst hq
     exact absurd (by simpa using he) fun h => fail_err (T := (lexP s).1) (s := r.2) (e := 10) (by decide) h
    ·subst hq
     simpa using he
   obtain ⟨g1, g2⟩ := (goodF hT.ends hG (by omega) _).betw _ _ _ hr' (st0_fit hT.ends) h0
   have := W.fit.i
   refine ⟨g1, ?_⟩
   show r.1.size ≤ _
   omega
 ·rw [if_pos (by simpa using h1)] at h
  exact absurd h h1
end Go.A
namespace Go.A
open Go.Proofs
/-! 20: (tabular/shift.Edit).Good -/
def c20_0 : ACode := .ops [
 ⟨some 2, none, .e (.box (.t 0)), []⟩,
 ⟨some 4, none, .q (.mv (.v (.bool false))), []⟩]
def c20_1 : ACode := .ops [
 ⟨some 5, none, .q (.fa 2 (.t 2)), []⟩,
 ⟨some 6, none, .q (.ld none (.t 5)), []⟩,
 ⟨some 7, none, .q (.bin .lss (.t 6) (.v (.int .i64 0))), []⟩,
 ⟨some 8, none, .q (.mv (.t 7)), []⟩,
 ⟨some 9, some (8, false), .q (.fa 3 (.t 2)), []⟩,
 ⟨some 10, some (8, false), .q (.ld none (.t 9)), []⟩,
 ⟨some 11, some (8, false), .q (.bin .lss (.t 10) (.v (.int .i64 1))), []⟩,
 ⟨some 12, none, .q (.pick (.t 8) (.v (.bool true)) (.t 11)), []⟩,
 ⟨some 13, none, .q (.mv (.t 12)), []⟩,
 ⟨some 14, some (13, false), .q (.mv (.t 1)), []⟩,
 ⟨some 15, some (13, false), .q (.bin .lss (.t 14) (.v (.int .i64 0))), []⟩,
 ⟨some 16, none, .q (.pick (.t 13) (.v (.bool true)) (.t 15)), []⟩,
 ⟨some 17, none, .q (.mv (.t 16)), []⟩,
 ⟨some 18, some (17, false), .q (.mv (.t 1)), []⟩,
 ⟨some 19, some (17, false), .q (.ld (some 5) (.t 2)), []⟩,
 ⟨some 20, some (17, false), .e (.call 43 [(.t 19)]), []⟩,
 ⟨some 21, some (17, false), .q (.bin .gtr (.t 18) (.t 20)), []⟩,
 ⟨some 22, none, .q (.pick (.t 17) (.v (.bool true)) (.t 21)), []⟩]
def c20_2 : ACode := .ops [
 ⟨some 4, none, .q (.mv (.v (.bool false))), []⟩]
def c20_3 : ACode := .seq c20_2 .ret
def c20_4 : ACode := .cond (.t 22) c20_3 .skip
def c20_5 : ACode := .seq c20_1 c20_4
def c20_6 : ACode := .ops [
 ⟨some 23, none, .q (.fa 1 (.t 2)), []⟩,
 ⟨some 24, none, .q (.ld none (.t 23)), []⟩]
def c20_7 : ACode := .ops [
 ⟨some 26, none, .q (.bin .eql (.t 24) (.v (.int .i64 1))), []⟩,
 ⟨some 25, none, .q (.mv (.t 26)), []⟩]
def c20_8 : ACode := .ops [
 ⟨some 27, none, .q (.fa 2 (.t 2)), []⟩,
 ⟨some 28, none, .q (.ld none (.t 27)), []⟩,
 ⟨some 29, none, .q (.mv (.t 1)), []⟩,
 ⟨some 30, none, .q (.bin .leq (.t 28) (.t 29)), []⟩,
 ⟨some 31, none, .q (.mv (.t 30)), []⟩,
 ⟨some 32, some (31, true), .q (.fa 3 (.t 2)), []⟩,
 ⟨some 33, some (31, true), .q (.ld none (.t 32)), []⟩,
 ⟨some 34, some (31, true), .q (.ld (some 5) (.t 2)), []⟩,
 ⟨some 36, some (31, true), .q (.mv (.t 1)), []⟩,
 ⟨some 35, some (31, true), .e (.call 43 [(.t 34)]), [⟨(some (31, true)), .ld none (.t 32), 33⟩]⟩,
 ⟨some 37, some (31, true), .q (.bin .sub (.t 35) (.t 36)), []⟩,
 ⟨some 38, some (31, true), .q (.bin .leq (.t 33) (.t 37)), []⟩,
 ⟨some 39, none, .q (.pick (.t 31) (.t 38) (.v (.bool false))), []⟩,
 ⟨some 4, none, .q (.mv (.t 39)), []⟩]
def c20_9 : ACode := .seq c20_8 .ret
def c20_10 : ACode := .ops [
 ⟨some 41, none, .q (.bin .eql (.t 24) (.v (.int .i64 2))), []⟩,
 ⟨some 40, none, .q (.mv (.t 41)), []⟩]
def c20_11 : ACode := .ops [
 ⟨some 42, none, .q (.fa 3 (.t 2)), []⟩,
 ⟨some 43, none, .q (.ld none (.t 42)), []⟩,
 ⟨some 44, none, .q (.mv (.t 1)), []⟩,
 ⟨some 45, none, .q (.bin .lss (.t 43) (.t 44)), []⟩,
 ⟨some 46, none, .q (.mv (.t 45)), []⟩,
 ⟨some 47, some (46, true), .q (.fa 2 (.t 2)), []⟩,
 ⟨some 48, some (46, true), .q (.ld none (.t 47)), []⟩,
 ⟨some 49, some (46, true), .q (.mv (.t 1)), []⟩,
 ⟨some 50, some (46, true), .q (.fa 3 (.t 2)), []⟩,
 ⟨some 51, some (46, true), .q (.ld none (.t 50)), []⟩,
 ⟨some 52, some (46, true), .q (.bin .sub (.t 49) (.t 51)), []⟩,
 ⟨some 53, some (46, true), .q (.bin .leq (.t 48) (.t 52)), []⟩,
 ⟨some 54, none, .q (.pick (.t 46) (.t 53) (.v (.bool false))), []⟩,
 ⟨some 4, none, .q (.mv (.t 54)), []⟩]
def c20_12 : ACode := .seq c20_11 .ret
def c20_13 : ACode := .ops [
 ⟨some 56, none, .q (.bin .eql (.t 24) (.v (.int .i64 3))), []⟩,
 ⟨some 55, none, .q (.mv (.t 56)), []⟩]
def c20_14 : ACode := .ops [
 ⟨some 57, none, .q (.fa 3 (.t 2)), []⟩,
 ⟨some 58, none, .q (.ld none (.t 57)), []⟩,
 ⟨some 59, none, .q (.mv (.t 1)), []⟩,
 ⟨some 60, none, .q (.bin .leq (.t 58) (.t 59)), []⟩,
 ⟨some 61, none, .q (.mv (.t 60)), []⟩,
 ⟨some 62, some (61, true), .q (.fa 2 (.t 2)), []⟩,
 ⟨some 63, some (61, true), .q (.ld none (.t 62)), []⟩,
 ⟨some 64, some (61, true), .q (.mv (.t 1)), []⟩,
 ⟨some 65, some (61, true), .q (.fa 3 (.t 2)), []⟩,
 ⟨some 66, some (61, true), .q (.ld none (.t 65)), []⟩,
 ⟨some 67, some (61, true), .q (.bin .sub (.t 64) (.t 66)), []⟩,
 ⟨some 68, some (61, true), .q (.bin .leq (.t 63) (.t 67)), []⟩,
 ⟨some 69, none, .q (.pick (.t 61) (.t 68) (.v (.bool false))), []⟩,
 ⟨some 70, none, .q (.mv (.t 69)), []⟩,
 ⟨some 71, some (70, true), .q (.fa 4 (.t 2)), []⟩,
 ⟨some 72, some (70, true), .q (.ld none (.t 71)), []⟩,
 ⟨some 73, some (70, true), .q (.bin .geq (.t 72) (.v (.int .i64 0))), []⟩,
 ⟨some 74, none, .q (.pick (.t 70) (.t 73) (.v (.bool false))), []⟩,
 ⟨some 75, none, .q (.mv (.t 74)), []⟩,
 ⟨some 76, some (75, true), .q (.fa 4 (.t 2)), []⟩,
 ⟨some 77, some (75, true), .q (.ld none (.t 76)), []⟩,
 ⟨some 78, some (75, true), .q (.mv (.t 1)), []⟩,
 ⟨some 79, some (75, true), .q (.fa 3 (.t 2)), []⟩,
 ⟨some 80, some (75, true), .q (.ld none (.t 79)), []⟩,
 ⟨some 81, some (75, true), .q (.bin .sub (.t 78) (.t 80)), []⟩,
 ⟨some 82, some (75, true), .q (.bin .leq (.t 77) (.t 81)), []⟩,
 ⟨some 83, none, .q (.pick (.t 75) (.t 82) (.v (.bool false))), []⟩,
 ⟨some 4, none, .q (.mv (.t 83)), []⟩]
def c20_15 : ACode := .seq c20_14 .ret
def c20_16 : ACode := .cond (.t 55) c20_15 .skip
def c20_17 : ACode := .seq c20_13 c20_16
def c20_18 : ACode := .cond (.t 40) c20_12 c20_17
def c20_19 : ACode := .seq c20_10 c20_18
def c20_20 : ACode := .cond (.t 25) c20_9 c20_19
def c20_21 : ACode := .seq c20_7 c20_20
def c20_22 : ACode := .block 0 c20_21
def c20_23 : ACode := .seq c20_6 c20_22
def c20_24 : ACode := .ops [
 ⟨some 4, none, .q (.mv (.v (.bool false))), []⟩]
def c20_25 : ACode := .seq c20_24 .ret
def c20_26 : ACode := .seq c20_23 c20_25
def c20_27 : ACode := .seq c20_5 c20_26
def c20_28 : ACode := .seq c20_0 c20_27
@[go_sem] def c20_0_wp := wp_of c20_0.eq_1
@[go_sem] def c20_1_wp := wp_of c20_1.eq_1
@[go_sem] def c20_2_wp := wp_of c20_2.eq_1
@[go_sem] def c20_3_wp := wp_of c20_3.eq_1
@[go_sem] def c20_4_wp := wp_of c20_4.eq_1
@[go_sem] def c20_5_wp := wp_of c20_5.eq_1
@[go_sem] def c20_6_wp := wp_of c20_6.eq_1
@[go_sem] def c20_7_wp := wp_of c20_7.eq_1
@[go_sem] def c20_8_wp := wp_of c20_8.eq_1
@[go_sem] def c20_9_wp := wp_of c20_9.eq_1
@[go_sem] def c20_10_wp := wp_of c20_10.eq_1
@[go_sem] def c20_11_wp := wp_of c20_11.eq_1
@[go_sem] def c20_12_wp := wp_of c20_12.eq_1
@[go_sem] def c20_13_wp := wp_of c20_13.eq_1
@[go_sem] def c20_14_wp := wp_of c20_14.eq_1
@[go_sem] def c20_15_wp := wp_of c20_15.eq_1
@[go_sem] def c20_16_wp := wp_of c20_16.eq_1
@[go_sem] def c20_17_wp := wp_of c20_17.eq_1
@[go_sem] def c20_18_wp := wp_of c20_18.eq_1
@[go_sem] def c20_19_wp := wp_of c20_19.eq_1
@[go_sem] def c20_20_wp := wp_of c20_20.eq_1
@[go_sem] def c20_21_wp := wp_of c20_21.eq_1
@[go_sem] def c20_22_wp := wp_of c20_22.eq_1
@[go_sem] def c20_23_wp := wp_of c20_23.eq_1
@[go_sem] def c20_24_wp := wp_of c20_24.eq_1
@[go_sem] def c20_25_wp := wp_of c20_25.eq_1
@[go_sem] def c20_26_wp := wp_of c20_26.eq_1
@[go_sem] def c20_27_wp := wp_of c20_27.eq_1
@[go_sem] def c20_28_wp := wp_of c20_28.eq_1
def c20 : AFn := ⟨84, [.t 4], c20_28⟩
theorem c20_ok : compF Tryz.prog Tryz.f20 = some c20 := by kernel_rfl
theorem a20 {args : List AV} {σ : ASt} {R : AV → ASt → Prop} (hl : args.length ≤ 84) (h : c20_28.wp Tryz.prog (RetQ [.t 4] R) (init args) σ) : ACalls Tryz.prog 20 args σ R := acalls_of Tryz.func20 c20_ok hl h
/-! 21: (tabular/shift.Edit).Place -/
def c21_0 : ACode := .ops [
 ⟨some 2, none, .e (.box (.t 0)), []⟩,
 ⟨some 4, none, .q (.mv (.v (.int .i64 0))), []⟩,
 ⟨some 5, none, .q (.mv (.v (.bool false))), []⟩]
def c21_1 : ACode := .ops [
 ⟨some 6, none, .q (.fa 1 (.t 2)), []⟩,
 ⟨some 7, none, .q (.ld none (.t 6)), []⟩]
def c21_2 : ACode := .ops [
 ⟨some 9, none, .q (.bin .eql (.t 7) (.v (.int .i64 1))), []⟩,
 ⟨some 8, none, .q (.mv (.t 9)), []⟩]
def c21_3 : ACode := .ops [
 ⟨some 10, none, .q (.mv (.t 1)), []⟩,
 ⟨some 11, none, .q (.fa 2 (.t 2)), []⟩,
 ⟨some 12, none, .q (.ld none (.t 11)), []⟩,
 ⟨some 13, none, .q (.bin .geq (.t 10) (.t 12)), []⟩]
def c21_4 : ACode := .ops [
 ⟨some 14, none, .q (.mv (.t 1)), []⟩,
 ⟨some 15, none, .q (.fa 3 (.t 2)), []⟩,
 ⟨some 16, none, .q (.ld none (.t 15)), []⟩,
 ⟨some 17, none, .q (.bin .add (.t 14) (.t 16)), []⟩,
 ⟨some 1, none, .q (.mv (.t 17)), []⟩]
def c21_5 : ACode := .cond (.t 13) c21_4 .skip
def c21_6 : ACode := .seq c21_3 c21_5
def c21_7 : ACode := .ops [
 ⟨some 18, none, .q (.mv (.t 1)), []⟩,
 ⟨some 19, none, .q (.mv (.t 1)), []⟩,
 ⟨some 20, none, .q (.ld (some 5) (.t 2)), []⟩,
 ⟨some 21, none, .e (.call 43 [(.t 20)]), []⟩,
 ⟨some 22, none, .q (.bin .lss (.t 19) (.t 21)), []⟩,
 ⟨some 4, none, .q (.mv (.t 18)), []⟩,
 ⟨some 5, none, .q (.mv (.t 22)), []⟩]
def c21_8 : ACode := .seq c21_7 .ret
def c21_9 : ACode := .seq c21_6 c21_8
def c21_10 : ACode := .ops [
 ⟨some 24, none, .q (.bin .eql (.t 7) (.v (.int .i64 2))), []⟩,
 ⟨some 23, none, .q (.mv (.t 24)), []⟩]
def c21_11 : ACode := .ops [
 ⟨some 25, none, .q (.mv (.t 1)), []⟩,
 ⟨some 26, none, .q (.fa 2 (.t 2)), []⟩,
 ⟨some 27, none, .q (.ld none (.t 26)), []⟩,
 ⟨some 28, none, .q (.bin .geq (.t 25) (.t 27)), []⟩,
 ⟨some 29, none, .q (.mv (.t 28)), []⟩,
 ⟨some 30, some (29, true), .q (.mv (.t 1)), []⟩,
 ⟨some 31, some (29, true), .q (.fa 2 (.t 2)), []⟩,
 ⟨some 32, some (29, true), .q (.ld none (.t 31)), []⟩,
 ⟨some 33, some (29, true), .q (.fa 3 (.t 2)), []⟩,
 ⟨some 34, some (29, true), .q (.ld none (.t 33)), []⟩,
 ⟨some 35, some (29, true), .q (.bin .add (.t 32) (.t 34)), []⟩,
 ⟨some 36, some (29, true), .q (.bin .lss (.t 30) (.t 35)), []⟩,
 ⟨some 37, none, .q (.pick (.t 29) (.t 36) (.v (.bool false))), []⟩]
def c21_12 : ACode := .ops [
 ⟨some 4, none, .q (.mv (.v (.int .i64 0))), []⟩,
 ⟨some 5, none, .q (.mv (.v (.bool false))), []⟩]
def c21_13 : ACode := .seq c21_12 .ret
def c21_14 : ACode := .cond (.t 37) c21_13 .skip
def c21_15 : ACode := .seq c21_11 c21_14
def c21_16 : ACode := .ops [
 ⟨some 38, none, .q (.mv (.t 1)), []⟩,
 ⟨some 39, none, .q (.fa 2 (.t 2)), []⟩,
 ⟨some 40, none, .q (.ld none (.t 39)), []⟩,
 ⟨some 41, none, .q (.bin .geq (.t 38) (.t 40)), []⟩]
def c21_17 : ACode := .ops [
 ⟨some 42, none, .q (.mv (.t 1)), []⟩,
 ⟨some 43, none, .q (.fa 3 (.t 2)), []⟩,
 ⟨some 44, none, .q (.ld none (.t 43)), []⟩,
 ⟨some 45, none, .q (.bin .sub (.t 42) (.t 44)), []⟩,
 ⟨some 1, none, .q (.mv (.t 45)), []⟩]
def c21_18 : ACode := .cond (.t 41) c21_17 .skip
def c21_19 : ACode := .seq c21_16 c21_18
def c21_20 : ACode := .ops [
 ⟨some 46, none, .q (.mv (.t 1)), []⟩,
 ⟨some 4, none, .q (.mv (.t 46)), []⟩,
 ⟨some 5, none, .q (.mv (.v (.bool true))), []⟩]
def c21_21 : ACode := .seq c21_20 .ret
def c21_22 : ACode := .seq c21_19 c21_21
def c21_23 : ACode := .seq c21_15 c21_22
def c21_24 : ACode := .cond (.t 23) c21_23 .skip
def c21_25 : ACode := .seq c21_10 c21_24
def c21_26 : ACode := .cond (.t 8) c21_9 c21_25
def c21_27 : ACode := .seq c21_2 c21_26
def c21_28 : ACode := .block 0 c21_27
def c21_29 : ACode := .seq c21_1 c21_28
def c21_30 : ACode := .ops [
 ⟨some 47, none, .q (.mv (.t 1)), []⟩,
 ⟨some 48, none, .q (.fa 2 (.t 2)), []⟩,
 ⟨some 49, none, .q (.ld none (.t 48)), []⟩,
 ⟨some 50, none, .q (.bin .geq (.t 47) (.t 49)), []⟩,
 ⟨some 51, none, .q (.mv (.t 50)), []⟩,
 ⟨some 52, some (51, true), .q (.mv (.t 1)), []⟩,
 ⟨some 53, some (51, true), .q (.fa 2 (.t 2)), []⟩,
 ⟨some 54, some (51, true), .q (.ld none (.t 53)), []⟩,
 ⟨some 55, some (51, true), .q (.fa 3 (.t 2)), []⟩,
 ⟨some 56, some (51, true), .q (.ld none (.t 55)), []⟩,
 ⟨some 57, some (51, true), .q (.bin .add (.t 54) (.t 56)), []⟩,
 ⟨some 58, some (51, true), .q (.bin .lss (.t 52) (.t 57)), []⟩,
 ⟨some 59, none, .q (.pick (.t 51) (.t 58) (.v (.bool false))), []⟩]
def c21_31 : ACode := .ops [
 ⟨some 60, none, .q (.mv (.t 1)), []⟩,
 ⟨some 61, none, .q (.fa 2 (.t 2)), []⟩,
 ⟨some 62, none, .q (.ld none (.t 61)), []⟩,
 ⟨some 63, none, .q (.bin .sub (.t 60) (.t 62)), []⟩,
 ⟨some 64, none, .q (.fa 4 (.t 2)), []⟩,
 ⟨some 65, none, .q (.ld none (.t 64)), []⟩,
 ⟨some 66, none, .q (.bin .add (.t 63) (.t 65)), []⟩,
 ⟨some 4, none, .q (.mv (.t 66)), []⟩,
 ⟨some 5, none, .q (.mv (.v (.bool true))), []⟩]
def c21_32 : ACode := .seq c21_31 .ret
def c21_33 : ACode := .cond (.t 59) c21_32 .skip
def c21_34 : ACode := .seq c21_30 c21_33
def c21_35 : ACode := .ops [
 ⟨some 67, none, .q (.mv (.t 1)), []⟩,
 ⟨some 68, none, .q (.fa 2 (.t 2)), []⟩,
 ⟨some 69, none, .q (.ld none (.t 68)), []⟩,
 ⟨some 70, none, .q (.bin .geq (.t 67) (.t 69)), []⟩]
def c21_36 : ACode := .ops [
 ⟨some 71, none, .q (.mv (.t 1)), []⟩,
 ⟨some 72, none, .q (.fa 3 (.t 2)), []⟩,
 ⟨some 73, none, .q (.ld none (.t 72)), []⟩,
 ⟨some 74, none, .q (.bin .sub (.t 71) (.t 73)), []⟩,
 ⟨some 1, none, .q (.mv (.t 74)), []⟩]
def c21_37 : ACode := .cond (.t 70) c21_36 .skip
def c21_38 : ACode := .seq c21_35 c21_37
def c21_39 : ACode := .ops [
 ⟨some 75, none, .q (.mv (.t 1)), []⟩,
 ⟨some 76, none, .q (.fa 4 (.t 2)), []⟩,
 ⟨some 77, none, .q (.ld none (.t 76)), []⟩,
 ⟨some 78, none, .q (.bin .geq (.t 75) (.t 77)), []⟩]
def c21_40 : ACode := .ops [
 ⟨some 79, none, .q (.mv (.t 1)), []⟩,
 ⟨some 80, none, .q (.fa 3 (.t 2)), []⟩,
 ⟨some 81, none, .q (.ld none (.t 80)), []⟩,
 ⟨some 82, none, .q (.bin .add (.t 79) (.t 81)), []⟩,
 ⟨some 1, none, .q (.mv (.t 82)), []⟩]
def c21_41 : ACode := .cond (.t 78) c21_40 .skip
def c21_42 : ACode := .seq c21_39 c21_41
def c21_43 : ACode := .ops [
 ⟨some 83, none, .q (.mv (.t 1)), []⟩,
 ⟨some 4, none, .q (.mv (.t 83)), []⟩,
 ⟨some 5, none, .q (.mv (.v (.bool true))), []⟩]
def c21_44 : ACode := .seq c21_43 .ret
def c21_45 : ACode := .seq c21_42 c21_44
def c21_46 : ACode := .seq c21_38 c21_45
def c21_47 : ACode := .seq c21_34 c21_46
def c21_48 : ACode := .seq c21_29 c21_47
def c21_49 : ACode := .seq c21_0 c21_48
@[go_sem] def c21_0_wp := wp_of c21_0.eq_1
@[go_sem] def c21_1_wp := wp_of c21_1.eq_1
@[go_sem] def c21_2_wp := wp_of c21_2.eq_1
@[go_sem] def c21_3_wp := wp_of c21_3.eq_1
@[go_sem] def c21_4_wp := wp_of c21_4.eq_1
@[go_sem] def c21_5_wp := wp_of c21_5.eq_1
@[go_sem] def c21_6_wp := wp_of c21_6.eq_1
@[go_sem] def c21_7_wp := wp_of c21_7.eq_1
@[go_sem] def c21_8_wp := wp_of c21_8.eq_1
@[go_sem] def c21_9_wp := wp_of c21_9.eq_1
@[go_sem] def c21_10_wp := wp_of c21_10.eq_1
@[go_sem] def c21_11_wp := wp_of c21_11.eq_1
@[go_sem] def c21_12_wp := wp_of c21_12.eq_1
@[go_sem] def c21_13_wp := wp_of c21_13.eq_1
@[go_sem] def c21_14_wp := wp_of c21_14.eq_1
@[go_sem] def c21_15_wp := wp_of c21_15.eq_1
@[go_sem] def c21_16_wp := wp_of c21_16.eq_1
@[go_sem] def c21_17_wp := wp_of c21_17.eq_1
@[go_sem] def c21_18_wp := wp_of c21_18.eq_1
@[go_sem] def c21_19_wp := wp_of c21_19.eq_1
@[go_sem] def c21_20_wp := wp_of c21_20.eq_1
@[go_sem] def c21_21_wp := wp_of c21_21.eq_1
@[go_sem] def c21_22_wp := wp_of c21_22.eq_1
@[go_sem] def c21_23_wp := wp_of c21_23.eq_1
@[go_sem] def c21_24_wp := wp_of c21_24.eq_1
@[go_sem] def c21_25_wp := wp_of c21_25.eq_1
@[go_sem] def c21_26_wp := wp_of c21_26.eq_1
@[go_sem] def c21_27_wp := wp_of c21_27.eq_1
@[go_sem] def c21_28_wp := wp_of c21_28.eq_1
@[go_sem] def c21_29_wp := wp_of c21_29.eq_1
@[go_sem] def c21_30_wp := wp_of c21_30.eq_1
@[go_sem] def c21_31_wp := wp_of c21_31.eq_1
@[go_sem] def c21_32_wp := wp_of c21_32.eq_1
@[go_sem] def c21_33_wp := wp_of c21_33.eq_1
@[go_sem] def c21_34_wp := wp_of c21_34.eq_1
@[go_sem] def c21_35_wp := wp_of c21_35.eq_1
@[go_sem] def c21_36_wp := wp_of c21_36.eq_1
@[go_sem] def c21_37_wp := wp_of c21_37.eq_1
@[go_sem] def c21_38_wp := wp_of c21_38.eq_1
@[go_sem] def c21_39_wp := wp_of c21_39.eq_1
@[go_sem] def c21_40_wp := wp_of c21_40.eq_1
@[go_sem] def c21_41_wp := wp_of c21_41.eq_1
@[go_sem] def c21_42_wp := wp_of c21_42.eq_1
@[go_sem] def c21_43_wp := wp_of c21_43.eq_1
@[go_sem] def c21_44_wp := wp_of c21_44.eq_1
@[go_sem] def c21_45_wp := wp_of c21_45.eq_1
@[go_sem] def c21_46_wp := wp_of c21_46.eq_1
@[go_sem] def c21_47_wp := wp_of c21_47.eq_1
@[go_sem] def c21_48_wp := wp_of c21_48.eq_1
@[go_sem] def c21_49_wp := wp_of c21_49.eq_1
def c21 : AFn := ⟨84, [.t 4, .t 5], c21_49⟩
theorem c21_ok : compF Tryz.prog Tryz.f21 = some c21 := by kernel_rfl
theorem a21 {args : List AV} {σ : ASt} {R : AV → ASt → Prop} (hl : args.length ≤ 84) (h : c21_49.wp Tryz.prog (RetQ [.t 4, .t 5] R) (init args) σ) : ACalls Tryz.prog 21 args σ R := acalls_of Tryz.func21 c21_ok hl h
/-! 35: tabular/shift.gone -/
def c35_0 : ACode := .ops [
 ⟨some 0, none, .e (.alloc [(.int .i64 0), (.int .i64 0), (.str []), (.int .i64 0), (.int .i64 0), (.bool false), (.bool false), (.int .i64 0), (.int .i64 0), (.bool false), (.bool false), (.sl .full [])]), []⟩]
def c35_1 : ACode := .ops [
 ⟨some 1, none, .q (.build [(.int .i64 0), (.int .i64 0), (.str []), (.int .i64 0), (.int .i64 0), (.bool false), (.bool false), (.int .i64 0), (.int .i64 0), (.bool false), (.bool false), (.sl .full [])] [(0, 1, (.v (.int .i64 4))), (1, 1, (.v (.int .i64 40000)))]), []⟩,
 ⟨none, none, .e (.store 12 (.t 0) (.t 1)), []⟩]
def c35_2 : ACode := .seq c35_1 .ret
def c35_3 : ACode := .seq c35_0 c35_2
@[go_sem] def c35_0_wp := wp_of c35_0.eq_1
@[go_sem] def c35_1_wp := wp_of c35_1.eq_1
@[go_sem] def c35_2_wp := wp_of c35_2.eq_1
@[go_sem] def c35_3_wp := wp_of c35_3.eq_1
def c35 : AFn := ⟨2, [.c 0 (some 12)], c35_3⟩
theorem c35_ok : compF Tryz.prog Tryz.f35 = some c35 := by kernel_rfl
theorem a35 {args : List AV} {σ : ASt} {R : AV → ASt → Prop} (hl : args.length ≤ 2) (h : c35_3.wp Tryz.prog (RetQ [.c 0 (some 12)] R) (init args) σ) : ACalls Tryz.prog 35 args σ R := acalls_of Tryz.func35 c35_ok hl h
/-! 43: (tabular/shift.Edit).most -/
def c43_0 : ACode := .ops [
 ⟨some 1, none, .e (.box (.t 0)), []⟩,
 ⟨some 2, none, .q (.mv (.v (.int .i64 0))), []⟩]
def c43_1 : ACode := .ops [
 ⟨some 3, none, .q (.fa 0 (.t 1)), []⟩,
 ⟨some 4, none, .q (.ld none (.t 3)), []⟩]
def c43_2 : ACode := .ops [
 ⟨some 2, none, .q (.mv (.v (.int .i64 700))), []⟩]
def c43_3 : ACode := .seq c43_2 .ret
def c43_4 : ACode := .cond (.t 4) c43_3 .skip
def c43_5 : ACode := .seq c43_1 c43_4
def c43_6 : ACode := .ops [
 ⟨some 2, none, .q (.mv (.v (.int .i64 3000))), []⟩]
def c43_7 : ACode := .seq c43_6 .ret
def c43_8 : ACode := .seq c43_5 c43_7
def c43_9 : ACode := .seq c43_0 c43_8
@[go_sem] def c43_0_wp := wp_of c43_0.eq_1
@[go_sem] def c43_1_wp := wp_of c43_1.eq_1
@[go_sem] def c43_2_wp := wp_of c43_2.eq_1
@[go_sem] def c43_3_wp := wp_of c43_3.eq_1
@[go_sem] def c43_4_wp := wp_of c43_4.eq_1
@[go_sem] def c43_5_wp := wp_of c43_5.eq_1
@[go_sem] def c43_6_wp := wp_of c43_6.eq_1
@[go_sem] def c43_7_wp := wp_of c43_7.eq_1
@[go_sem] def c43_8_wp := wp_of c43_8.eq_1
@[go_sem] def c43_9_wp := wp_of c43_9.eq_1
def c43 : AFn := ⟨5, [.t 2], c43_9⟩
theorem c43_ok : compF Tryz.prog Tryz.f43 = some c43 := by kernel_rfl
theorem a43 {args : List AV} {σ : ASt} {R : AV → ASt → Prop} (hl : args.length ≤ 5) (h : c43_9.wp Tryz.prog (RetQ [.t 2] R) (init args) σ) : ACalls Tryz.prog 43 args σ R := acalls_of Tryz.func43 c43_ok hl h
end Go.A
namespace Go.A
open Go.Proofs Go.Lib
structure Edt where
 cols : Bool
 kind : Int
 at' : Int
 n : Int
 dst : Int
def Edt.cs (e : Edt) : List AV := [.bool e.cols, .int .i64 e.kind, .int .i64 e.at', .int .i64 e.n, .int .i64 e.dst]
def Edt.av (e : Edt) : AV := .agg e.cs
section
variable {e : Edt}
@[go_sem] theorem ed_0 : e.cs[0]? = some (.bool e.cols) := id rfl
@[go_sem] theorem ed_1 : e.cs[1]? = some (.int .i64 e.kind) := id rfl
@[go_sem] theorem ed_2 : e.cs[2]? = some (.int .i64 e.at') := id rfl
@[go_sem] theorem ed_3 : e.cs[3]? = some (.int .i64 e.n) := id rfl
@[go_sem] theorem ed_4 : e.cs[4]? = some (.int .i64 e.dst) := id rfl
@[go_sem] theorem ed_len : e.cs.length = 5 := id rfl
@[go_sem] theorem ed_leaves : leaves e.cs = true := id rfl
@[go_sem] theorem ed_take : e.cs.take 5 = e.cs := id rfl
end
def Edt.most (e : Edt) : Int := if e.cols = true then 700 else 3000
def Edt.good (e : Edt) (c : Int) : Bool :=
 if e.at' < 0 ∨ e.n < 1 ∨ c < 0 ∨ e.most < c then false
 else if e.kind = 1 then decide (e.at' ≤ c ∧ e.n ≤ e.most - c)
 else if e.kind = 2 then decide (e.n < c ∧ e.at' ≤ c - e.n)
 else if e.kind = 3 then decide (e.n ≤ c ∧ e.at' ≤ c - e.n ∧ 0 ≤ e.dst ∧ e.dst ≤ c - e.n)
 else false
def ahead (p : Int) (d i : Int) : Int := if p ≤ i then i + d else i
def Edt.place (e : Edt) (i : Int) : Int × Bool :=
 if e.kind = 1 then (ahead e.at' e.n i, decide (ahead e.at' e.n i < e.most))
 else if e.at' ≤ i ∧ i < e.at' + e.n then (if e.kind = 2 then (0, false) else (i - e.at' + e.dst, true))
 else if e.kind = 2 then (ahead e.at' (-e.n) i, true)
 else (ahead e.dst e.n (ahead e.at' (-e.n) i), true)
structure Edt.fit (e : Edt) : Prop where
 a0 : 0 ≤ e.at'
 a1 : e.at' ≤ 3000
 n0 : 0 ≤ e.n
 n1 : e.n ≤ 3000
 t : e.kind ≠ 1 → e.kind ≠ 2 → 0 ≤ e.dst ∧ e.dst ≤ 3000
theorem Edt.good_fit {e : Edt} {c : Int} (h : e.good c = true) : e.fit := by
 unfold Edt.good at h
 split at h
 ·cases h
 rename_i h0
 have hm : e.most ≤ 3000 := by unfold Edt.most; split <;> omega
 split at h
 ·have := of_decide_eq_true h
  exact ⟨by omega, by omega, by omega, by omega, by omega⟩
 split at h
 ·have := of_decide_eq_true h
  exact ⟨by omega, by omega, by omega, by omega, by omega⟩
 split at h
 ·have := of_decide_eq_true h
  exact ⟨by omega, by omega, by omega, by omega, by omega⟩
 ·cases h
theorem shmost_ok (e : Edt) : Pure Tryz.prog 43 [e.av] (.int .i64 e.most) := by
 intro σ
 obtain ⟨q, hq⟩ : ∃ q, e.most = q := ⟨_, rfl⟩
 rw [hq]
 unfold Edt.most at hq
 unfold Edt.av
 refine a43 (by simp) ?_
 simp (disch := first | assumption | omega) only [go_sem]
 refine boxC_by rfl fun c hc => ?_
 cases hb : e.cols with
 | true =>
   rw [if_pos hb] at hq
   subst hq
   simp (disch := first | assumption | omega) only [go_sem, Nat.reduceEqDiff, ↓reduceIte, hb]
   exact retC_by (Drop.set hc) (.refl _) ⟨rfl, rfl⟩
 | false =>
   rw [if_neg (by simp [hb])] at hq
   subst hq
   simp (disch := first | assumption | omega) only [go_sem, Nat.reduceEqDiff, ↓reduceIte, hb]
   exact retC_by (Drop.set hc) (.refl _) ⟨rfl, rfl⟩
theorem most_rng (e : Edt) : 700 ≤ e.most ∧ e.most ≤ 3000 := by unfold Edt.most; split <;> omega
theorem shgood_ok (e : Edt) (c : Int) : Pure Tryz.prog 20 [e.av, .int .i64 c] (.bool (e.good c)) := by
 intro σ
 have hm := shmost_ok e
 have hr := most_rng e
 obtain ⟨q, hq⟩ : ∃ q, e.good c = q := ⟨_, rfl⟩
 rw [hq]
 unfold Edt.good at hq
 generalize e.most = M at *
 unfold Edt.av at hm ⊢
 refine a20 (by simp) ?_
 simp (disch := first | assumption | omega) only [go_sem]
 refine boxC_by rfl fun b hb => ?_
 by_cases h1 : e.at' < 0
 ·rw [if_pos (by omega)] at hq
  subst hq
  simp (disch := first | assumption | omega) only [go_sem, Nat.reduceEqDiff, ↓reduceIte, h1]
  exact retC_by (Drop.set hb) (.refl _) ⟨rfl, rfl⟩
 by_cases h2 : e.n < 1
 ·rw [if_pos (by omega)] at hq
  subst hq
  simp (disch := first | assumption | omega) only [go_sem, Nat.reduceEqDiff, ↓reduceIte, h1, h2]
  exact retC_by (Drop.set hb) (.refl _) ⟨rfl, rfl⟩
 by_cases h3 : c < 0
 ·rw [if_pos (by omega)] at hq
  subst hq
  simp (disch := first | assumption | omega) only [go_sem, Nat.reduceEqDiff, ↓reduceIte, h1, h2, h3]
  exact retC_by (Drop.set hb) (.refl _) ⟨rfl, rfl⟩
 by_cases h4 : M < c
 ·rw [if_pos (by omega)] at hq
  subst hq
  simp (disch := first | assumption | omega) only [go_sem, Nat.reduceEqDiff, Nat.reduceLeDiff, ↓reduceIte, h1, h2, h3]
  refine hm.use ?_
  simp (disch := first | assumption | omega) only [go_sem, Nat.reduceEqDiff, ↓reduceIte, h4]
  exact retC_by (Drop.set hb) (.refl _) ⟨rfl, rfl⟩
 rw [if_neg (by omega)] at hq
 by_cases k1 : e.kind = 1
 ·rw [if_pos k1] at hq
  by_cases g1 : e.at' ≤ c
  ·by_cases g2 : e.n ≤ M - c
   ·rw [decide_eq_true ⟨g1, g2⟩] at hq
    subst hq
    simp (disch := first | assumption | omega) only [go_sem, Nat.reduceEqDiff, Nat.reduceLeDiff, ↓reduceIte, h1, h2, h3]
    refine hm.use ?_
    simp (disch := first | assumption | omega) only [go_sem, Nat.reduceEqDiff, Nat.reduceLeDiff, ↓reduceIte, h4, k1, g1]
    refine hm.use ?_
    simp (disch := first | assumption | omega) only [go_sem, Nat.reduceEqDiff, ↓reduceIte, forall_const, g2]
    exact retC_by (Drop.set hb) (.refl _) ⟨rfl, rfl⟩
   ·rw [decide_eq_false (fun h => g2 h.2)] at hq
    subst hq
    simp (disch := first | assumption | omega) only [go_sem, Nat.reduceEqDiff, Nat.reduceLeDiff, ↓reduceIte, h1, h2, h3]
    refine hm.use ?_
    simp (disch := first | assumption | omega) only [go_sem, Nat.reduceEqDiff, Nat.reduceLeDiff, ↓reduceIte, h4, k1, g1]
    refine hm.use ?_
    simp (disch := first | assumption | omega) only [go_sem, Nat.reduceEqDiff, ↓reduceIte, forall_const, g2]
    exact retC_by (Drop.set hb) (.refl _) ⟨rfl, rfl⟩
  ·rw [decide_eq_false (fun h => g1 h.1)] at hq
   subst hq
   simp (disch := first | assumption | omega) only [go_sem, Nat.reduceEqDiff, Nat.reduceLeDiff, ↓reduceIte, h1, h2, h3]
   refine hm.use ?_
   simp (disch := first | assumption | omega) only [go_sem, Nat.reduceEqDiff, ↓reduceIte, h4, k1, g1]
   exact retC_by (Drop.set hb) (.refl _) ⟨rfl, rfl⟩
 rw [if_neg k1] at hq
 by_cases k2 : e.kind = 2
 ·rw [if_pos k2] at hq
  by_cases g1 : e.n < c
  ·by_cases g2 : e.at' ≤ c - e.n
   ·rw [decide_eq_true ⟨g1, g2⟩] at hq
    subst hq
    simp (disch := first | assumption | omega) only [go_sem, Nat.reduceEqDiff, Nat.reduceLeDiff, ↓reduceIte, h1, h2, h3]
    refine hm.use ?_
    simp (disch := first | assumption | omega) only [go_sem, Nat.reduceEqDiff, Int.reduceEq, ↓reduceIte, h4, k2, g1, g2]
    exact retC_by (Drop.set hb) (.refl _) ⟨rfl, rfl⟩
   ·rw [decide_eq_false (fun h => g2 h.2)] at hq
    subst hq
    simp (disch := first | assumption | omega) only [go_sem, Nat.reduceEqDiff, Nat.reduceLeDiff, ↓reduceIte, h1, h2, h3]
    refine hm.use ?_
    simp (disch := first | assumption | omega) only [go_sem, Nat.reduceEqDiff, Int.reduceEq, ↓reduceIte, h4, k2, g1, g2]
    exact retC_by (Drop.set hb) (.refl _) ⟨rfl, rfl⟩
  ·rw [decide_eq_false (fun h => g1 h.1)] at hq
   subst hq
   simp (disch := first | assumption | omega) only [go_sem, Nat.reduceEqDiff, Nat.reduceLeDiff, ↓reduceIte, h1, h2, h3]
   refine hm.use ?_
   simp (disch := first | assumption | omega) only [go_sem, Nat.reduceEqDiff, Int.reduceEq, ↓reduceIte, h4, k2, g1]
   exact retC_by (Drop.set hb) (.refl _) ⟨rfl, rfl⟩
 rw [if_neg k2] at hq
 by_cases k3 : e.kind = 3
 ·rw [if_pos k3] at hq
  by_cases g1 : e.n ≤ c
  ·by_cases g2 : e.at' ≤ c - e.n
   ·by_cases g3 : 0 ≤ e.dst
    ·by_cases g4 : e.dst ≤ c - e.n
     ·rw [decide_eq_true ⟨g1, g2, g3, g4⟩] at hq
      subst hq
      simp (disch := first | assumption | omega) only [go_sem, Nat.reduceEqDiff, Nat.reduceLeDiff, ↓reduceIte, h1, h2, h3]
      refine hm.use ?_
      simp (disch := first | assumption | omega) only [go_sem, Nat.reduceEqDiff, Int.reduceEq, ↓reduceIte, h4, k3, g1, g2, g3, g4]
      exact retC_by (Drop.set hb) (.refl _) ⟨rfl, rfl⟩
     ·rw [decide_eq_false (fun h => g4 h.2.2.2)] at hq
      subst hq
      simp (disch := first | assumption | omega) only [go_sem, Nat.reduceEqDiff, Nat.reduceLeDiff, ↓reduceIte, h1, h2, h3]
      refine hm.use ?_
      simp (disch := first | assumption | omega) only [go_sem, Nat.reduceEqDiff, Int.reduceEq, ↓reduceIte, h4, k3, g1, g2, g3, g4]
      exact retC_by (Drop.set hb) (.refl _) ⟨rfl, rfl⟩
    ·rw [decide_eq_false (fun h => g3 h.2.2.1)] at hq
     subst hq
     simp (disch := first | assumption | omega) only [go_sem, Nat.reduceEqDiff, Nat.reduceLeDiff, ↓reduceIte, h1, h2, h3]
     refine hm.use ?_
     simp (disch := first | assumption | omega) only [go_sem, Nat.reduceEqDiff, Int.reduceEq, ↓reduceIte, h4, k3, g1, g2, g3]
     exact retC_by (Drop.set hb) (.refl _) ⟨rfl, rfl⟩
   ·rw [decide_eq_false (fun h => g2 h.2.1)] at hq
    subst hq
    simp (disch := first | assumption | omega) only [go_sem, Nat.reduceEqDiff, Nat.reduceLeDiff, ↓reduceIte, h1, h2, h3]
    refine hm.use ?_
    simp (disch := first | assumption | omega) only [go_sem, Nat.reduceEqDiff, Int.reduceEq, ↓reduceIte, h4, k3, g1, g2]
    exact retC_by (Drop.set hb) (.refl _) ⟨rfl, rfl⟩
  ·rw [decide_eq_false (fun h => g1 h.1)] at hq
   subst hq
   simp (disch := first | assumption | omega) only [go_sem, Nat.reduceEqDiff, Nat.reduceLeDiff, ↓reduceIte, h1, h2, h3]
   refine hm.use ?_
   simp (disch := first | assumption | omega) only [go_sem, Nat.reduceEqDiff, Int.reduceEq, ↓reduceIte, h4, k3, g1]
   exact retC_by (Drop.set hb) (.refl _) ⟨rfl, rfl⟩
 ·rw [if_neg k3] at hq
  subst hq
  simp (disch := first | assumption | omega) only [go_sem, Nat.reduceEqDiff, Nat.reduceLeDiff, ↓reduceIte, h1, h2, h3]
  refine hm.use ?_
  simp (disch := first | assumption | omega) only [go_sem, Nat.reduceEqDiff, ↓reduceIte, h4, k1, k2, k3]
  exact retC_by (Drop.set hb) (.refl _) ⟨rfl, rfl⟩
theorem shplace_ok (e : Edt) (he : e.fit) (i : Int) (h0 : 0 ≤ i) (h1 : i ≤ 10000) : Pure Tryz.prog 21 [e.av, .int .i64 i] (.tuple [.int .i64 (e.place i).1, .bool (e.place i).2]) := by
 intro σ
 have hm := shmost_ok e
 have hr := most_rng e
 obtain ⟨a0, a1, n0, n1, ht⟩ := he
 obtain ⟨q, hq⟩ : ∃ q, e.place i = q := ⟨_, rfl⟩
 rw [hq]
 unfold Edt.place ahead at hq
 generalize e.most = M at *
 unfold Edt.av at hm ⊢
 refine a21 (by simp) ?_
 simp (disch := first | assumption | omega) only [go_sem]
 refine boxC_by rfl fun b hb => ?_
 by_cases k1 : e.kind = 1
 ·rw [if_pos k1] at hq
  by_cases g1 : e.at' ≤ i
  ·rw [if_pos g1] at hq
   subst hq
   simp (disch := first | assumption | omega) only [go_sem, Nat.reduceEqDiff, Nat.reduceLeDiff, ↓reduceIte, k1, g1]
   refine hm.use ?_
   simp (disch := first | assumption | omega) only [go_sem, Nat.reduceEqDiff, ↓reduceIte]
   exact retC_by (Drop.set hb) (.refl _) ⟨rfl, rfl⟩
  ·rw [if_neg g1] at hq
   subst hq
   simp (disch := first | assumption | omega) only [go_sem, Nat.reduceEqDiff, Nat.reduceLeDiff, ↓reduceIte, k1, g1]
   refine hm.use ?_
   simp (disch := first | assumption | omega) only [go_sem, Nat.reduceEqDiff, ↓reduceIte]
   exact retC_by (Drop.set hb) (.refl _) ⟨rfl, rfl⟩
 rw [if_neg k1] at hq
 by_cases k2 : e.kind = 2
 ·rw [if_pos k2, if_pos k2] at hq
  by_cases g1 : e.at' ≤ i
  ·by_cases g2 : i < e.at' + e.n
   ·rw [if_pos ⟨g1, g2⟩] at hq
    subst hq
    simp (disch := first | assumption | omega) only [go_sem, Nat.reduceEqDiff, Int.reduceEq, ↓reduceIte, k2, g1, g2]
    exact retC_by (Drop.set hb) (.refl _) ⟨rfl, rfl⟩
   ·rw [if_neg (fun h => g2 h.2), if_pos g1] at hq
    subst hq
    simp (disch := first | assumption | omega) only [go_sem, Nat.reduceEqDiff, Int.reduceEq, ↓reduceIte, k2, g1, g2]
    exact retC_by (Drop.set hb) (.refl _) ⟨rfl, rfl⟩
  ·rw [if_neg (fun h => g1 h.1), if_neg g1] at hq
   subst hq
   simp (disch := first | assumption | omega) only [go_sem, Nat.reduceEqDiff, Int.reduceEq, ↓reduceIte, k2, g1]
   exact retC_by (Drop.set hb) (.refl _) ⟨rfl, rfl⟩
 rw [if_neg k2, if_neg k2] at hq
 have ht := ht k1 k2
 by_cases g1 : e.at' ≤ i
 ·by_cases g2 : i < e.at' + e.n
  ·rw [if_pos ⟨g1, g2⟩] at hq
   subst hq
   simp (disch := first | assumption | omega) only [go_sem, Nat.reduceEqDiff, ↓reduceIte, k1, k2, g1, g2]
   exact retC_by (Drop.set hb) (.refl _) ⟨rfl, rfl⟩
  ·rw [if_neg (fun h => g2 h.2), if_pos g1] at hq
   by_cases g3 : e.dst ≤ i + -e.n
   ·rw [if_pos g3] at hq
    subst hq
    have g3' : e.dst ≤ i - e.n := by omega
    simp (disch := first | assumption | omega) only [go_sem, Nat.reduceEqDiff, ↓reduceIte, k1, k2, g1, g2, g3']
    exact retC_by (Drop.set hb) (.refl _) ⟨rfl, rfl⟩
   ·rw [if_neg g3] at hq
    subst hq
    have g3' : ¬ e.dst ≤ i - e.n := by omega
    simp (disch := first | assumption | omega) only [go_sem, Nat.reduceEqDiff, ↓reduceIte, k1, k2, g1, g2, g3']
    exact retC_by (Drop.set hb) (.refl _) ⟨rfl, rfl⟩
 ·rw [if_neg (fun h => g1 h.1), if_neg g1] at hq
  by_cases g3 : e.dst ≤ i
  ·rw [if_pos g3] at hq
   subst hq
   simp (disch := first | assumption | omega) only [go_sem, Nat.reduceEqDiff, ↓reduceIte, k1, k2, g1, g3]
   exact retC_by (Drop.set hb) (.refl _) ⟨rfl, rfl⟩
  ·rw [if_neg g3] at hq
   subst hq
   simp (disch := first | assumption | omega) only [go_sem, Nat.reduceEqDiff, ↓reduceIte, k1, k2, g1, g3]
   exact retC_by (Drop.set hb) (.refl _) ⟨rfl, rfl⟩
theorem shgone_ok : Pure Tryz.prog 35 [] (Nd.mk 4 40000 [] .zero .zero []).av := by
 intro σ
 refine a35 (by simp) ?_
 rw [Nd.av_cs]
 simp (disch := first | assumption | omega) only [go_sem]
 refine allocC_by fun b hb => ?_
 simp (disch := first | assumption | omega) only [go_sem, reduceCtorEq, Nat.reduceAdd, Nat.reduceLeDiff, ↓reduceIte, Bool.true_and, ASt.set_set]
 refine retC_by (Drop.set hb) ?_ ⟨rfl, rfl⟩
 exact Fz.agg (.cons (.refl _) (.cons (.refl _) (.cons (.refl _) (.cons (.refl _) (.cons (.refl _) (.cons (.refl _) (.cons (.refl _) (.cons (.refl _) (.cons (.refl _) (.cons (.refl _) (.cons (.refl _) (.cons (.sl _ _) .nil))))))))))))
end Go.A
namespace Go.A
open Go.Proofs Go.Lib
def MapG (P : Nd → Prop) (F : AV) (f : Nd → Nd) (I : ASt → Prop) : Prop := ∃ g cap, F = .func (.func g) [] cap ∧ okFn Tryz.prog g = true ∧ (∀ σ b r, I σ → σ b = none → I (σ.set b r)) ∧
 ∀ x σ, I σ → P x → (x.op = 5 ∨ x.op = 6) → ACalls Tryz.prog g (x.av :: cap) σ fun v σ' => v = (f x).av ∧ σ' = σ
theorem mapg_le (F : AV) (f : Nd → Nd) (I : ASt → Prop) (P : Nd → Prop) (hP : ∀ op m s a b ks, P (.mk op m s a b ks) → ∀ x ∈ ks, P x) (hF : MapG P F f I) : ∀ (k : Nat) (n : Nd), n.size ≤ k → n.size ≤ 1000000000 → P n → ∀ σ, I σ → ACalls Tryz.prog 32 [n.av, F] σ fun v σ' => v = (Nd.map f n).av ∧ σ' = σ
 | 0, n, hk, _, _ => by have := n.size_pos; omega
 | k + 1, n, hk, hb, hp => by
   intro σ hI
   have ih := mapg_le F f I P hP hF k
   obtain ⟨g, cap, rfl, hok, hst, hcall⟩ := hF
   obtain ⟨op, m, s, a, b, ks⟩ := n
   have hc0 := fun τ hτ => hcall (.mk op m s a b ks) τ hτ hp
   rw [Nd.size] at hk hb
   have hlen := sizes_len ks
   rw [Nd.map, Nd.maps_map]
   have hav := Nd.av_cs op m s a b ks
   by_cases ho : op = 5 ∨ op = 6
   ·rw [if_pos ho]
    obtain ⟨w, hw⟩ : ∃ w, (f (Nd.mk op m s a b ks)) = w := ⟨_, rfl⟩
    rw [hw, hav] at hc0
    rw [hw, hav]
    obtain ⟨wo, wm, ws, wa, wb, wk⟩ := w
    rw [Nd.av_cs] at hc0 ⊢
    generalize ks.map Nd.av = L at *
    generalize wk.map Nd.av = WL at *
    refine a32 (by simp) ?_
    simp (disch := first | assumption | omega) only [go_sem]
    refine boxC_by rfl fun c hc => ?_
    simp (disch := first | assumption | omega) only [go_sem]
    refine allocC_by fun d hd => ?_
    have hd0 := hd
    repeat (with_reducible replace hd := set_none hd; obtain ⟨_, _, hd⟩ := hd)
    have h0 := hc0 _ (hst _ _ (some (.obj zeroC)) (hst _ _ (some (.obj (Nd.cs op m s a b L))) hI hc) hd0) ho
    unfold zeroC Nd.cs at h0
    rcases ho with rfl | rfl
    ·simp (disch := first | assumption | omega) only [go_sem, Nat.reduceEqDiff, Nat.reduceLeDiff, ↓reduceIte]
     refine ⟨hok, ?_⟩
     unfold Nd.cs
     refine h0.mono ?_
     rintro v σ' ⟨rfl, rfl⟩
     simp (disch := first | assumption | omega) only [go_sem, Nat.reduceEqDiff, Nat.reduceAdd, Nat.reduceLeDiff, ↓reduceIte, Bool.true_and, ASt.set_set]
     exact retC_by ((Drop.set hc).off (by assumption)) (.refl _) ⟨rfl, rfl⟩
    ·simp (disch := first | assumption | omega) only [go_sem, Nat.reduceEqDiff, Nat.reduceLeDiff, Int.reduceEq, ↓reduceIte]
     refine ⟨hok, ?_⟩
     unfold Nd.cs
     refine h0.mono ?_
     rintro v σ' ⟨rfl, rfl⟩
     simp (disch := first | assumption | omega) only [go_sem, Nat.reduceEqDiff, Nat.reduceAdd, Nat.reduceLeDiff, ↓reduceIte, Bool.true_and, ASt.set_set]
     exact retC_by ((Drop.set hc).off (by assumption)) (.refl _) ⟨rfl, rfl⟩
   ·rw [if_neg ho, hav, Nd.av_cs]
    have o5 : op ≠ 5 := by omega
    have o6 : op ≠ 6 := by omega
    have hmm : (ks.map (Nd.map f)).map Nd.av = ks.map fun x => (Nd.map f x).av := by rw [List.map_map]; rfl
    rw [hmm]
    have hks : ∀ x ∈ ks, ∀ σ, I σ → ACalls Tryz.prog 32 [x.av, .func (.func g) [] cap] σ fun v σ' => v = (Nd.map f x).av ∧ σ' = σ := fun x hx => by
     have := Nd.size_kid hx
     exact ih x (by omega) (by omega) (hP _ _ _ _ _ _ hp x hx)
    refine a32 (by simp) ?_
    simp (disch := first | assumption | omega) only [go_sem]
    refine boxC_by rfl fun c hc => ?_
    simp (disch := first | assumption | omega) only [go_sem]
    refine allocC_by fun d hd => ?_
    have hd0 := hd
    repeat (with_reducible replace hd := set_none hd; obtain ⟨_, _, hd⟩ := hd)
    by_cases h0 : ks = []
    ·subst h0
     simp only [List.map_nil]
     simp (disch := first | assumption | omega) only [go_sem, Nat.reduceEqDiff, Nat.reduceAdd, Nat.reduceLeDiff, Int.reduceLT, ↓reduceIte, o5, o6, ASt.set_set]
     exact retC_by ((Drop.set hc).off (by assumption)) (.refl _) ⟨rfl, rfl⟩
    have hpos : 0 < ks.length := by
     rcases ks with _ | ⟨_, _⟩
     ·exact absurd rfl h0
     ·simp
    have hpos' : (0 : Int) < ks.length := by omega
    obtain ⟨G, hG⟩ : ∃ G, G = ACode.wp Tryz.prog c32_22 := ⟨_, rfl⟩
    simp (disch := first | assumption | omega) only [go_sem, Nat.reduceEqDiff, ↓reduceIte, o5, o6, hpos']
    refine mkb_own (by omega) (by omega) (by omega) (by omega) fun e he => ?_
    have he0 := he
    repeat (with_reducible replace he := set_none he; obtain ⟨_, _, he⟩ := he)
    rw [Int.toNat_natCast]
    have hz12 : ([.int .i64 0, .int .i64 0, .str [], .int .i64 0, .int .i64 0, .bool false, .bool false, .int .i64 0, .int .i64 0, .bool false, .bool false, .sl .full []] : List AV).length = 12 := rfl
    have hrz := rowAt_zero f ks [.int .i64 0, .int .i64 0, .str [], .int .i64 0, .int .i64 0, .bool false, .bool false, .int .i64 0, .int .i64 0, .bool false, .bool false, .sl .full []]
    have hrl : ∀ i, i ≤ ks.length → (rowAt f ks [.int .i64 0, .int .i64 0, .str [], .int .i64 0, .int .i64 0, .bool false, .bool false, .int .i64 0, .int .i64 0, .bool false, .bool false, .sl .full []] i).length = ks.length * 12 := fun i hi => rowAt_len f ks hz12 hi
    have hrs := fun i x hx => rowAt_step f ks hz12 (i := i) (x := x) hx
    have hre := rowAt_end f ks [.int .i64 0, .int .i64 0, .str [], .int .i64 0, .int .i64 0, .bool false, .bool false, .int .i64 0, .int .i64 0, .bool false, .bool false, .sl .full []]
    rw [← hrz]
    generalize rowAt f ks [.int .i64 0, .int .i64 0, .str [], .int .i64 0, .int .i64 0, .bool false, .bool false, .int .i64 0, .int .i64 0, .bool false, .bool false, .sl .full []] = q at *
    have nce : c ≠ e := by assumption
    have nde : d ≠ e := by assumption
    have ncd : c ≠ d := by assumption
    have hII : ∀ X Y Z : Option Role, I (((σ.set c X).set d Y).set e Z) := fun X Y Z => hst _ _ _ (hst _ _ _ (hst _ _ _ hI hc) (by rw [ASt.set_ne (Ne.symm ncd)]; assumption)) (by rw [ASt.set_ne (Ne.symm nde), ASt.set_ne (Ne.symm nce)]; assumption)
    have hDD : ∀ X Y Z : Option Role, Drop (((σ.set c X).set d Y).set e Z) σ := fun X Y Z => ((Drop.set hc).off (by assumption)).off (by assumption)
    simp (disch := first | assumption | omega) only [go_sem, Nat.reduceEqDiff, ↓reduceIte, ←hG]
    refine wp_loop_by (fun (i : Nat) a1 s2 => i ≤ ks.length ∧ (a1 1 = .func (.func g) [] cap ∧ a1 2 = .ptr c 0 ∧ a1 4 = .ptr d 0 ∧ a1 5 = .msl e 0 ks.length ks.length ∧ a1 28 = .sl .shr (ks.map Nd.av) ∧ a1 29 = .int .i64 ks.length ∧ a1 30 = .int .i64 i) ∧
     s2 = ((σ.set c (some (.obj (Nd.cs op m s a b (ks.map Nd.av))))).set d (some (.obj [.int .i64 0, .int .i64 0, .str [], .int .i64 0, .int .i64 0, .bool false, .bool false, .int .i64 0, .int .i64 0, .bool false, .bool false, .sl .full []]))).set e (some (.obj (q i)))) (fun i => ks.length - i) 0 (Dr.now ⟨Nat.zero_le _, ?_, rfl⟩) ?_
    ·simp (disch := first | assumption | omega) only [go_sem, Nat.reduceEqDiff, ↓reduceIte]
    rintro i a1 s2 ⟨hi, hf, rfl⟩
    by_cases hlt : i < ks.length
    ·have hlt' : (i : Int) < ks.length := by omega
     have hx : ks[i]? = some (ks[i]'hlt) := List.getElem?_eq_getElem hlt
     have hkx := hks _ (List.getElem_mem hlt)
     obtain ⟨x, hxe⟩ : ∃ x, ks[i]'hlt = x := ⟨_, rfl⟩
     rw [hxe] at hx hkx
     have hmx := Nd.get hx
     have hqs := hrs i x hx
     have hql := hrl i (by omega)
     obtain ⟨y, hy⟩ : ∃ y, Nd.map f x = y := ⟨_, rfl⟩
     rw [hy] at hkx hqs
     obtain ⟨xo, xm, xs, xa, xb, xk⟩ := x
     obtain ⟨yo, ym, ys, ya, yb, yk⟩ := y
     rw [Nd.av_cs] at hmx
     rw [Nd.av_cs, Nd.av_cs] at hkx
     rw [Nd.av_cs, cells_agg] at hqs
     generalize xk.map Nd.av = XK at *
     generalize yk.map Nd.av = YK at *
     generalize hXL : ks.map Nd.av = XL at *
     simp (disch := first | assumption | omega) only [go_sem, Nat.reduceEqDiff, Nat.reduceLeDiff, ↓reduceIte, hf, hlt', hmx]
     refine allocC_by fun t ht => ?_
     have ht0 := ht
     repeat (with_reducible replace ht := set_none ht; obtain ⟨_, _, ht⟩ := ht)
     have hk1 := hkx _ (hst _ _ (some (.obj (Nd.cs xo xm xs xa xb XK))) (hII _ _ _) ht0)
     simp (disch := first | assumption | omega) only [go_sem, Nat.reduceEqDiff, Nat.reduceAdd, Nat.reduceLeDiff, ↓reduceIte, hf, ASt.set_set]
     refine hk1.mono ?_
     rintro v σ' ⟨rfl, rfl⟩
     have hb1 : i * 12 + 12 ≤ (q i).length := by rw [hql]; omega
     have het : e ≠ t := by assumption
     have hsw : ∀ (ρ : ASt) (X Y Z : Option Role), ((ρ.set e X).set t Y).set e Z = (ρ.set e Z).set t Y := fun _ _ _ _ => set_mid het
     simp (disch := first | assumption | omega) only [go_sem, Nat.reduceEqDiff, ↓reduceIte, hf, hb1, hqs, hsw]
     refine ⟨i + 1, by dsimp only; omega, Dr.drop (Drop.set (by rw [ASt.set_ne (Ne.symm het)]; rw [ASt.set_ne (Ne.symm het)] at ht0; exact ht0)) ⟨by omega, ?_, rfl⟩⟩
     simp (disch := first | assumption | omega) only [go_sem, Nat.reduceEqDiff, ↓reduceIte, hf]
    ·have hlt' : ¬ (i : Int) < ks.length := by omega
     obtain rfl : i = ks.length := by omega
     rw [hre]
     simp (disch := first | assumption | omega) only [go_sem, ↓reduceIte, hf, hlt']
     rw [hG]
     have hsw1 : ∀ (ρ : ASt) (X Y Z W : Option Role), (((ρ.set c X).set d Y).set e Z).set c W = ((ρ.set c W).set d Y).set e Z := fun ρ X Y Z W => by rw [set_swap (Ne.symm nce), set_mid ncd]
     have hsw2 : ∀ (ρ : ASt) (Y Z W : Option Role), ((ρ.set d Y).set e Z).set d W = (ρ.set d W).set e Z := fun ρ Y Z W => set_mid nde
     unfold Nd.cs
     simp (disch := first | assumption | omega) only [go_sem, Nat.reduceEqDiff, Nat.reduceAdd, Nat.reduceLeDiff, ↓reduceIte, Bool.true_and, hf, hsw1, hsw2]
     refine retC_by (r := .agg [.int .i64 op, .int .i64 m, .str s, .int .i64 a.row, .int .i64 a.col, .bool a.absRow, .bool a.absCol, .int .i64 b.row, .int .i64 b.col, .bool b.absRow, .bool b.absCol, .sl .shr (ks.map fun x => (Nd.map f x).av)]) (hDD _ _ _) ?_ ⟨rfl, rfl⟩
     refine Fz.agg ?_
     refine .cons (.refl _) (.cons (.refl _) (.cons (.refl _) (.cons (.refl _) (.cons (.refl _) (.cons (.refl _) (.cons (.refl _) (.cons (.refl _) (.cons (.refl _) (.cons (.refl _) (.cons (.refl _) (.cons ?_ .nil)))))))))))
     refine .msl 0 _ _ 12 _ (ASt.set_same _ _ _) (by assumption) (by simp) (Nat.le_refl _) (fun y hy => ?_) ?_
     ·obtain ⟨z, _, rfl⟩ := List.mem_map.1 hy
      exact Nd.av_len _
     ·rw [List.drop_zero, List.take_of_length_le]
      rw [lens_flat (s := 12)]
      ·simp
      ·intro y hy
       obtain ⟨z, _, rfl⟩ := List.mem_map.1 hy
       exact Nd.av_len _
end Go.A
namespace Go.A
open Go.Proofs
/-! 17: (tabular/shift.Edit).Tree -/
def c17_0 : ACode := .ops [
 ⟨some 2, none, .e (.box (.t 0)), []⟩,
 ⟨some 3, none, .e (.box (.t 1)), []⟩,
 ⟨some 4, none, .e (.alloc [(.int .i64 0), (.int .i64 0), (.str []), (.int .i64 0), (.int .i64 0), (.bool false), (.bool false), (.int .i64 0), (.int .i64 0), (.bool false), (.bool false), (.sl .full [])]), []⟩]
def c17_1 : ACode := .ops [
 ⟨some 5, none, .q (.ld (some 12) (.t 3)), []⟩,
 ⟨some 6, none, .q (.mkf (.func 39) [] [(.t 2)]), []⟩,
 ⟨some 7, none, .e (.call 32 [(.t 5), (.t 6)]), []⟩,
 ⟨none, none, .e (.store 12 (.t 4) (.t 7)), []⟩]
def c17_2 : ACode := .seq c17_1 .ret
def c17_3 : ACode := .seq c17_0 c17_2
@[go_sem] def c17_0_wp := wp_of c17_0.eq_1
@[go_sem] def c17_1_wp := wp_of c17_1.eq_1
@[go_sem] def c17_2_wp := wp_of c17_2.eq_1
@[go_sem] def c17_3_wp := wp_of c17_3.eq_1
def c17 : AFn := ⟨8, [.c 4 (some 12)], c17_3⟩
theorem c17_ok : compF Tryz.prog Tryz.f17 = some c17 := by kernel_rfl
theorem a17 {args : List AV} {σ : ASt} {R : AV → ASt → Prop} (hl : args.length ≤ 8) (h : c17_3.wp Tryz.prog (RetQ [.c 4 (some 12)] R) (init args) σ) : ACalls Tryz.prog 17 args σ R := acalls_of Tryz.func17 c17_ok hl h
/-! 39: (tabular/shift.Edit).Tree$1 -/
def c39_0 : ACode := .ops [
 ⟨some 2, none, .e (.box (.t 0)), []⟩,
 ⟨some 3, none, .e (.alloc [(.int .i64 0), (.int .i64 0), (.str []), (.int .i64 0), (.int .i64 0), (.bool false), (.bool false), (.int .i64 0), (.int .i64 0), (.bool false), (.bool false), (.sl .full [])]), []⟩]
def c39_1 : ACode := .ops [
 ⟨some 4, none, .q (.fa 0 (.t 2)), []⟩,
 ⟨some 5, none, .q (.ld none (.t 4)), []⟩,
 ⟨some 6, none, .q (.bin .eql (.t 5) (.v (.int .i64 5))), []⟩]
def c39_2 : ACode := .ops [
 ⟨some 7, none, .q (.ld (some 5) (.t 1)), []⟩,
 ⟨some 8, none, .q (.ld (some 12) (.t 2)), []⟩,
 ⟨some 9, none, .e (.call 40 [(.t 7), (.t 8)]), []⟩,
 ⟨none, none, .e (.store 12 (.t 3) (.t 9)), []⟩]
def c39_3 : ACode := .seq c39_2 .ret
def c39_4 : ACode := .cond (.t 6) c39_3 .skip
def c39_5 : ACode := .seq c39_1 c39_4
def c39_6 : ACode := .ops [
 ⟨some 10, none, .q (.ld (some 5) (.t 1)), []⟩,
 ⟨some 11, none, .q (.ld (some 12) (.t 2)), []⟩,
 ⟨some 12, none, .e (.call 41 [(.t 10), (.t 11)]), []⟩,
 ⟨none, none, .e (.store 12 (.t 3) (.t 12)), []⟩]
def c39_7 : ACode := .seq c39_6 .ret
def c39_8 : ACode := .seq c39_5 c39_7
def c39_9 : ACode := .seq c39_0 c39_8
@[go_sem] def c39_0_wp := wp_of c39_0.eq_1
@[go_sem] def c39_1_wp := wp_of c39_1.eq_1
@[go_sem] def c39_2_wp := wp_of c39_2.eq_1
@[go_sem] def c39_3_wp := wp_of c39_3.eq_1
@[go_sem] def c39_4_wp := wp_of c39_4.eq_1
@[go_sem] def c39_5_wp := wp_of c39_5.eq_1
@[go_sem] def c39_6_wp := wp_of c39_6.eq_1
@[go_sem] def c39_7_wp := wp_of c39_7.eq_1
@[go_sem] def c39_8_wp := wp_of c39_8.eq_1
@[go_sem] def c39_9_wp := wp_of c39_9.eq_1
def c39 : AFn := ⟨13, [.c 3 (some 12)], c39_9⟩
theorem c39_ok : compF Tryz.prog Tryz.f39 = some c39 := by kernel_rfl
theorem a39 {args : List AV} {σ : ASt} {R : AV → ASt → Prop} (hl : args.length ≤ 13) (h : c39_9.wp Tryz.prog (RetQ [.c 3 (some 12)] R) (init args) σ) : ACalls Tryz.prog 39 args σ R := acalls_of Tryz.func39 c39_ok hl h
/-! 40: (tabular/shift.Edit).cell -/
def c40_0 : ACode := .ops [
 ⟨some 2, none, .e (.box (.t 0)), []⟩,
 ⟨some 3, none, .e (.box (.t 1)), []⟩,
 ⟨some 4, none, .e (.alloc [(.int .i64 0), (.int .i64 0), (.str []), (.int .i64 0), (.int .i64 0), (.bool false), (.bool false), (.int .i64 0), (.int .i64 0), (.bool false), (.bool false), (.sl .full [])]), []⟩]
def c40_1 : ACode := .ops [
 ⟨some 8, none, .q (.fa 3 (.t 3)), []⟩,
 ⟨some 9, none, .q (.fa 0 (.t 8)), []⟩,
 ⟨some 5, none, .q (.mv (.t 9)), []⟩]
def c40_2 : ACode := .ops [
 ⟨some 10, none, .q (.fa 0 (.t 2)), []⟩,
 ⟨some 11, none, .q (.ld none (.t 10)), []⟩]
def c40_3 : ACode := .ops [
 ⟨some 12, none, .q (.fa 3 (.t 3)), []⟩,
 ⟨some 13, none, .q (.fa 1 (.t 12)), []⟩,
 ⟨some 5, none, .q (.mv (.t 13)), []⟩]
def c40_4 : ACode := .cond (.t 11) c40_3 .skip
def c40_5 : ACode := .seq c40_2 c40_4
def c40_6 : ACode := .ops [
 ⟨some 15, none, .q (.ld (some 5) (.t 2)), []⟩,
 ⟨some 16, none, .q (.mv (.t 5)), []⟩,
 ⟨some 17, none, .q (.nc (.t 16)), []⟩,
 ⟨some 18, none, .q (.ld none (.t 17)), []⟩,
 ⟨some 19, none, .e (.call 21 [(.t 15), (.t 18)]), []⟩,
 ⟨some 14, none, .q (.mv (.t 19)), []⟩,
 ⟨some 20, none, .q (.ext 0 (.t 14)), []⟩,
 ⟨some 21, none, .q (.ext 1 (.t 14)), []⟩,
 ⟨some 6, none, .q (.mv (.t 20)), []⟩,
 ⟨some 7, none, .q (.mv (.t 21)), []⟩]
def c40_7 : ACode := .ops [
 ⟨some 22, none, .q (.mv (.t 7)), []⟩,
 ⟨some 23, none, .q (.un .not (.t 22)), []⟩]
def c40_8 : ACode := .ops [
 ⟨some 24, none, .e (.call 35 []), []⟩,
 ⟨none, none, .e (.store 12 (.t 4) (.t 24)), []⟩]
def c40_9 : ACode := .seq c40_8 .ret
def c40_10 : ACode := .cond (.t 23) c40_9 .skip
def c40_11 : ACode := .seq c40_7 c40_10
def c40_12 : ACode := .ops [
 ⟨some 25, none, .q (.mv (.t 5)), []⟩,
 ⟨some 26, none, .q (.mv (.t 6)), []⟩,
 ⟨some 27, none, .q (.nc (.t 25)), []⟩,
 ⟨none, none, .e (.store 1 (.t 27) (.t 26)), []⟩]
def c40_13 : ACode := .ops [
 ⟨some 28, none, .q (.ld (some 12) (.t 3)), []⟩,
 ⟨none, none, .e (.store 12 (.t 4) (.t 28)), []⟩]
def c40_14 : ACode := .seq c40_13 .ret
def c40_15 : ACode := .seq c40_12 c40_14
def c40_16 : ACode := .seq c40_11 c40_15
def c40_17 : ACode := .seq c40_6 c40_16
def c40_18 : ACode := .seq c40_5 c40_17
def c40_19 : ACode := .seq c40_1 c40_18
def c40_20 : ACode := .seq c40_0 c40_19
@[go_sem] def c40_0_wp := wp_of c40_0.eq_1
@[go_sem] def c40_1_wp := wp_of c40_1.eq_1
@[go_sem] def c40_2_wp := wp_of c40_2.eq_1
@[go_sem] def c40_3_wp := wp_of c40_3.eq_1
@[go_sem] def c40_4_wp := wp_of c40_4.eq_1
@[go_sem] def c40_5_wp := wp_of c40_5.eq_1
@[go_sem] def c40_6_wp := wp_of c40_6.eq_1
@[go_sem] def c40_7_wp := wp_of c40_7.eq_1
@[go_sem] def c40_8_wp := wp_of c40_8.eq_1
@[go_sem] def c40_9_wp := wp_of c40_9.eq_1
@[go_sem] def c40_10_wp := wp_of c40_10.eq_1
@[go_sem] def c40_11_wp := wp_of c40_11.eq_1
@[go_sem] def c40_12_wp := wp_of c40_12.eq_1
@[go_sem] def c40_13_wp := wp_of c40_13.eq_1
@[go_sem] def c40_14_wp := wp_of c40_14.eq_1
@[go_sem] def c40_15_wp := wp_of c40_15.eq_1
@[go_sem] def c40_16_wp := wp_of c40_16.eq_1
@[go_sem] def c40_17_wp := wp_of c40_17.eq_1
@[go_sem] def c40_18_wp := wp_of c40_18.eq_1
@[go_sem] def c40_19_wp := wp_of c40_19.eq_1
@[go_sem] def c40_20_wp := wp_of c40_20.eq_1
def c40 : AFn := ⟨29, [.c 4 (some 12)], c40_20⟩
theorem c40_ok : compF Tryz.prog Tryz.f40 = some c40 := by kernel_rfl
theorem a40 {args : List AV} {σ : ASt} {R : AV → ASt → Prop} (hl : args.length ≤ 29) (h : c40_20.wp Tryz.prog (RetQ [.c 4 (some 12)] R) (init args) σ) : ACalls Tryz.prog 40 args σ R := acalls_of Tryz.func40 c40_ok hl h
/-! 41: (tabular/shift.Edit).area -/
def c41_0 : ACode := .ops [
 ⟨some 2, none, .e (.box (.t 0)), []⟩,
 ⟨some 3, none, .e (.box (.t 1)), []⟩,
 ⟨some 4, none, .e (.alloc [(.int .i64 0), (.int .i64 0), (.str []), (.int .i64 0), (.int .i64 0), (.bool false), (.bool false), (.int .i64 0), (.int .i64 0), (.bool false), (.bool false), (.sl .full [])]), []⟩]
def c41_1 : ACode := .ops [
 ⟨some 11, none, .q (.fa 3 (.t 3)), []⟩,
 ⟨some 12, none, .q (.fa 0 (.t 11)), []⟩,
 ⟨some 13, none, .q (.fa 7 (.t 3)), []⟩,
 ⟨some 14, none, .q (.fa 0 (.t 13)), []⟩,
 ⟨some 5, none, .q (.mv (.t 12)), []⟩,
 ⟨some 6, none, .q (.mv (.t 14)), []⟩]
def c41_2 : ACode := .ops [
 ⟨some 15, none, .q (.fa 0 (.t 2)), []⟩,
 ⟨some 16, none, .q (.ld none (.t 15)), []⟩]
def c41_3 : ACode := .ops [
 ⟨some 17, none, .q (.fa 3 (.t 3)), []⟩,
 ⟨some 18, none, .q (.fa 1 (.t 17)), []⟩,
 ⟨some 19, none, .q (.fa 7 (.t 3)), []⟩,
 ⟨some 20, none, .q (.fa 1 (.t 19)), []⟩,
 ⟨some 5, none, .q (.mv (.t 18)), []⟩,
 ⟨some 6, none, .q (.mv (.t 20)), []⟩]
def c41_4 : ACode := .cond (.t 16) c41_3 .skip
def c41_5 : ACode := .seq c41_2 c41_4
def c41_6 : ACode := .ops [
 ⟨some 21, none, .q (.mv (.t 5)), []⟩,
 ⟨some 22, none, .q (.nc (.t 21)), []⟩,
 ⟨some 23, none, .q (.ld none (.t 22)), []⟩,
 ⟨some 24, none, .q (.mv (.t 6)), []⟩,
 ⟨some 25, none, .q (.nc (.t 24)), []⟩,
 ⟨some 26, none, .q (.ld none (.t 25)), []⟩,
 ⟨some 27, none, .q (.bin .gtr (.t 23) (.t 26)), []⟩,
 ⟨some 7, none, .q (.mv (.t 27)), []⟩]
def c41_7 : ACode := .ops [
 ⟨some 29, none, .q (.ld (some 5) (.t 2)), []⟩,
 ⟨some 30, none, .q (.mv (.t 5)), []⟩,
 ⟨some 31, none, .q (.nc (.t 30)), []⟩,
 ⟨some 32, none, .q (.ld none (.t 31)), []⟩,
 ⟨some 33, none, .q (.mv (.t 6)), []⟩,
 ⟨some 34, none, .q (.nc (.t 33)), []⟩,
 ⟨some 35, none, .q (.ld none (.t 34)), []⟩,
 ⟨some 36, none, .q (.mnx false (.t 32) (.t 35)), []⟩,
 ⟨some 37, none, .q (.mv (.t 5)), []⟩,
 ⟨some 38, none, .q (.nc (.t 37)), []⟩,
 ⟨some 39, none, .q (.ld none (.t 38)), []⟩,
 ⟨some 40, none, .q (.mv (.t 6)), []⟩,
 ⟨some 41, none, .q (.nc (.t 40)), []⟩,
 ⟨some 42, none, .q (.ld none (.t 41)), []⟩,
 ⟨some 43, none, .q (.mnx true (.t 39) (.t 42)), []⟩,
 ⟨some 44, none, .e (.call 56 [(.t 29), (.t 36), (.t 43)]), []⟩,
 ⟨some 28, none, .q (.mv (.t 44)), []⟩,
 ⟨some 45, none, .q (.ext 0 (.t 28)), []⟩,
 ⟨some 46, none, .q (.ext 1 (.t 28)), []⟩,
 ⟨some 47, none, .q (.ext 2 (.t 28)), []⟩,
 ⟨some 8, none, .q (.mv (.t 45)), []⟩,
 ⟨some 9, none, .q (.mv (.t 46)), []⟩,
 ⟨some 10, none, .q (.mv (.t 47)), []⟩]
def c41_8 : ACode := .ops [
 ⟨some 48, none, .q (.mv (.t 10)), []⟩,
 ⟨some 49, none, .q (.un .not (.t 48)), []⟩]
def c41_9 : ACode := .ops [
 ⟨some 50, none, .e (.call 35 []), []⟩,
 ⟨none, none, .e (.store 12 (.t 4) (.t 50)), []⟩]
def c41_10 : ACode := .seq c41_9 .ret
def c41_11 : ACode := .cond (.t 49) c41_10 .skip
def c41_12 : ACode := .seq c41_8 c41_11
def c41_13 : ACode := .ops [
 ⟨some 51, none, .q (.mv (.t 7)), []⟩]
def c41_14 : ACode := .ops [
 ⟨some 52, none, .q (.mv (.t 9)), []⟩,
 ⟨some 53, none, .q (.mv (.t 8)), []⟩,
 ⟨some 8, none, .q (.mv (.t 52)), []⟩,
 ⟨some 9, none, .q (.mv (.t 53)), []⟩]
def c41_15 : ACode := .cond (.t 51) c41_14 .skip
def c41_16 : ACode := .seq c41_13 c41_15
def c41_17 : ACode := .ops [
 ⟨some 54, none, .q (.mv (.t 5)), []⟩,
 ⟨some 55, none, .q (.mv (.t 6)), []⟩,
 ⟨some 56, none, .q (.mv (.t 8)), []⟩,
 ⟨some 57, none, .q (.mv (.t 9)), []⟩,
 ⟨some 58, none, .q (.nc (.t 54)), []⟩,
 ⟨none, none, .e (.store 1 (.t 58) (.t 56)), []⟩,
 ⟨some 59, none, .q (.nc (.t 55)), []⟩,
 ⟨none, none, .e (.store 1 (.t 59) (.t 57)), []⟩]
def c41_18 : ACode := .ops [
 ⟨some 60, none, .q (.ld (some 12) (.t 3)), []⟩,
 ⟨none, none, .e (.store 12 (.t 4) (.t 60)), []⟩]
def c41_19 : ACode := .seq c41_18 .ret
def c41_20 : ACode := .seq c41_17 c41_19
def c41_21 : ACode := .seq c41_16 c41_20
def c41_22 : ACode := .seq c41_12 c41_21
def c41_23 : ACode := .seq c41_7 c41_22
def c41_24 : ACode := .seq c41_6 c41_23
def c41_25 : ACode := .seq c41_5 c41_24
def c41_26 : ACode := .seq c41_1 c41_25
def c41_27 : ACode := .seq c41_0 c41_26
@[go_sem] def c41_0_wp := wp_of c41_0.eq_1
@[go_sem] def c41_1_wp := wp_of c41_1.eq_1
@[go_sem] def c41_2_wp := wp_of c41_2.eq_1
@[go_sem] def c41_3_wp := wp_of c41_3.eq_1
@[go_sem] def c41_4_wp := wp_of c41_4.eq_1
@[go_sem] def c41_5_wp := wp_of c41_5.eq_1
@[go_sem] def c41_6_wp := wp_of c41_6.eq_1
@[go_sem] def c41_7_wp := wp_of c41_7.eq_1
@[go_sem] def c41_8_wp := wp_of c41_8.eq_1
@[go_sem] def c41_9_wp := wp_of c41_9.eq_1
@[go_sem] def c41_10_wp := wp_of c41_10.eq_1
@[go_sem] def c41_11_wp := wp_of c41_11.eq_1
@[go_sem] def c41_12_wp := wp_of c41_12.eq_1
@[go_sem] def c41_13_wp := wp_of c41_13.eq_1
@[go_sem] def c41_14_wp := wp_of c41_14.eq_1
@[go_sem] def c41_15_wp := wp_of c41_15.eq_1
@[go_sem] def c41_16_wp := wp_of c41_16.eq_1
@[go_sem] def c41_17_wp := wp_of c41_17.eq_1
@[go_sem] def c41_18_wp := wp_of c41_18.eq_1
@[go_sem] def c41_19_wp := wp_of c41_19.eq_1
@[go_sem] def c41_20_wp := wp_of c41_20.eq_1
@[go_sem] def c41_21_wp := wp_of c41_21.eq_1
@[go_sem] def c41_22_wp := wp_of c41_22.eq_1
@[go_sem] def c41_23_wp := wp_of c41_23.eq_1
@[go_sem] def c41_24_wp := wp_of c41_24.eq_1
@[go_sem] def c41_25_wp := wp_of c41_25.eq_1
@[go_sem] def c41_26_wp := wp_of c41_26.eq_1
@[go_sem] def c41_27_wp := wp_of c41_27.eq_1
def c41 : AFn := ⟨61, [.c 4 (some 12)], c41_27⟩
theorem c41_ok : compF Tryz.prog Tryz.f41 = some c41 := by kernel_rfl
theorem a41 {args : List AV} {σ : ASt} {R : AV → ASt → Prop} (hl : args.length ≤ 61) (h : c41_27.wp Tryz.prog (RetQ [.c 4 (some 12)] R) (init args) σ) : ACalls Tryz.prog 41 args σ R := acalls_of Tryz.func41 c41_ok hl h
/-! 56: (tabular/shift.Edit).Span -/
def c56_0 : ACode := .ops [
 ⟨some 3, none, .e (.box (.t 0)), []⟩,
 ⟨some 6, none, .q (.mv (.v (.int .i64 0))), []⟩,
 ⟨some 7, none, .q (.mv (.v (.int .i64 0))), []⟩,
 ⟨some 8, none, .q (.mv (.v (.bool false))), []⟩]
def c56_1 : ACode := .ops [
 ⟨some 16, none, .q (.fa 1 (.t 3)), []⟩,
 ⟨some 17, none, .q (.ld none (.t 16)), []⟩]
def c56_2 : ACode := .ops [
 ⟨some 19, none, .q (.bin .eql (.t 17) (.v (.int .i64 1))), []⟩,
 ⟨some 18, none, .q (.mv (.t 19)), []⟩]
def c56_3 : ACode := .ops [
 ⟨some 21, none, .q (.ld (some 5) (.t 3)), []⟩,
 ⟨some 22, none, .q (.mv (.t 1)), []⟩,
 ⟨some 23, none, .e (.call 21 [(.t 21), (.t 22)]), []⟩,
 ⟨some 20, none, .q (.mv (.t 23)), []⟩,
 ⟨some 24, none, .q (.ext 0 (.t 20)), []⟩,
 ⟨some 25, none, .q (.ext 1 (.t 20)), []⟩,
 ⟨some 9, none, .q (.mv (.t 24)), []⟩,
 ⟨some 10, none, .q (.mv (.t 25)), []⟩]
def c56_4 : ACode := .ops [
 ⟨some 26, none, .q (.mv (.t 10)), []⟩,
 ⟨some 27, none, .q (.un .not (.t 26)), []⟩]
def c56_5 : ACode := .ops [
 ⟨some 6, none, .q (.mv (.v (.int .i64 0))), []⟩,
 ⟨some 7, none, .q (.mv (.v (.int .i64 0))), []⟩,
 ⟨some 8, none, .q (.mv (.v (.bool false))), []⟩]
def c56_6 : ACode := .seq c56_5 .ret
def c56_7 : ACode := .cond (.t 27) c56_6 .skip
def c56_8 : ACode := .seq c56_4 c56_7
def c56_9 : ACode := .ops [
 ⟨some 29, none, .q (.ld (some 5) (.t 3)), []⟩,
 ⟨some 30, none, .q (.mv (.t 2)), []⟩,
 ⟨some 31, none, .e (.call 21 [(.t 29), (.t 30)]), []⟩,
 ⟨some 28, none, .q (.mv (.t 31)), []⟩,
 ⟨some 32, none, .q (.ext 0 (.t 28)), []⟩,
 ⟨some 33, none, .q (.ext 1 (.t 28)), []⟩,
 ⟨some 11, none, .q (.mv (.t 32)), []⟩,
 ⟨some 10, none, .q (.mv (.t 33)), []⟩]
def c56_10 : ACode := .ops [
 ⟨some 34, none, .q (.mv (.t 10)), []⟩,
 ⟨some 35, none, .q (.un .not (.t 34)), []⟩]
def c56_11 : ACode := .ops [
 ⟨some 36, none, .q (.ld (some 5) (.t 3)), []⟩,
 ⟨some 37, none, .e (.call 43 [(.t 36)]), []⟩,
 ⟨some 38, none, .q (.bin .sub (.t 37) (.v (.int .i64 1))), []⟩,
 ⟨some 11, none, .q (.mv (.t 38)), []⟩]
def c56_12 : ACode := .cond (.t 35) c56_11 .skip
def c56_13 : ACode := .seq c56_10 c56_12
def c56_14 : ACode := .ops [
 ⟨some 39, none, .q (.mv (.t 9)), []⟩,
 ⟨some 40, none, .q (.mv (.t 11)), []⟩,
 ⟨some 6, none, .q (.mv (.t 39)), []⟩,
 ⟨some 7, none, .q (.mv (.t 40)), []⟩,
 ⟨some 8, none, .q (.mv (.v (.bool true))), []⟩]
def c56_15 : ACode := .seq c56_14 .ret
def c56_16 : ACode := .seq c56_13 c56_15
def c56_17 : ACode := .seq c56_9 c56_16
def c56_18 : ACode := .seq c56_8 c56_17
def c56_19 : ACode := .seq c56_3 c56_18
def c56_20 : ACode := .ops [
 ⟨some 42, none, .q (.bin .eql (.t 17) (.v (.int .i64 2))), []⟩,
 ⟨some 41, none, .q (.mv (.t 42)), []⟩]
def c56_21 : ACode := .ops [
 ⟨some 43, none, .q (.mv (.t 1)), []⟩,
 ⟨some 44, none, .q (.fa 2 (.t 3)), []⟩,
 ⟨some 45, none, .q (.ld none (.t 44)), []⟩,
 ⟨some 46, none, .q (.bin .geq (.t 43) (.t 45)), []⟩,
 ⟨some 47, none, .q (.mv (.t 46)), []⟩,
 ⟨some 48, some (47, true), .q (.mv (.t 2)), []⟩,
 ⟨some 49, some (47, true), .q (.fa 2 (.t 3)), []⟩,
 ⟨some 50, some (47, true), .q (.ld none (.t 49)), []⟩,
 ⟨some 51, some (47, true), .q (.fa 3 (.t 3)), []⟩,
 ⟨some 52, some (47, true), .q (.ld none (.t 51)), []⟩,
 ⟨some 53, some (47, true), .q (.bin .add (.t 50) (.t 52)), []⟩,
 ⟨some 54, some (47, true), .q (.bin .lss (.t 48) (.t 53)), []⟩,
 ⟨some 55, none, .q (.pick (.t 47) (.t 54) (.v (.bool false))), []⟩]
def c56_22 : ACode := .ops [
 ⟨some 6, none, .q (.mv (.v (.int .i64 0))), []⟩,
 ⟨some 7, none, .q (.mv (.v (.int .i64 0))), []⟩,
 ⟨some 8, none, .q (.mv (.v (.bool false))), []⟩]
def c56_23 : ACode := .seq c56_22 .ret
def c56_24 : ACode := .cond (.t 55) c56_23 .skip
def c56_25 : ACode := .seq c56_21 c56_24
def c56_26 : ACode := .ops [
 ⟨some 56, none, .q (.mv (.t 1)), []⟩,
 ⟨some 57, none, .q (.fa 2 (.t 3)), []⟩,
 ⟨some 58, none, .q (.ld none (.t 57)), []⟩,
 ⟨some 59, none, .q (.bin .geq (.t 56) (.t 58)), []⟩,
 ⟨some 60, none, .q (.mv (.t 59)), []⟩,
 ⟨some 61, some (60, true), .q (.mv (.t 1)), []⟩,
 ⟨some 62, some (60, true), .q (.fa 2 (.t 3)), []⟩,
 ⟨some 63, some (60, true), .q (.ld none (.t 62)), []⟩,
 ⟨some 64, some (60, true), .q (.fa 3 (.t 3)), []⟩,
 ⟨some 65, some (60, true), .q (.ld none (.t 64)), []⟩,
 ⟨some 66, some (60, true), .q (.bin .add (.t 63) (.t 65)), []⟩,
 ⟨some 67, some (60, true), .q (.bin .lss (.t 61) (.t 66)), []⟩,
 ⟨some 68, none, .q (.pick (.t 60) (.t 67) (.v (.bool false))), []⟩]
def c56_27 : ACode := .ops [
 ⟨some 69, none, .q (.fa 2 (.t 3)), []⟩,
 ⟨some 70, none, .q (.ld none (.t 69)), []⟩,
 ⟨some 71, none, .q (.fa 3 (.t 3)), []⟩,
 ⟨some 72, none, .q (.ld none (.t 71)), []⟩,
 ⟨some 73, none, .q (.bin .add (.t 70) (.t 72)), []⟩,
 ⟨some 1, none, .q (.mv (.t 73)), []⟩]
def c56_28 : ACode := .cond (.t 68) c56_27 .skip
def c56_29 : ACode := .seq c56_26 c56_28
def c56_30 : ACode := .ops [
 ⟨some 74, none, .q (.mv (.t 2)), []⟩,
 ⟨some 75, none, .q (.fa 2 (.t 3)), []⟩,
 ⟨some 76, none, .q (.ld none (.t 75)), []⟩,
 ⟨some 77, none, .q (.bin .geq (.t 74) (.t 76)), []⟩,
 ⟨some 78, none, .q (.mv (.t 77)), []⟩,
 ⟨some 79, some (78, true), .q (.mv (.t 2)), []⟩,
 ⟨some 80, some (78, true), .q (.fa 2 (.t 3)), []⟩,
 ⟨some 81, some (78, true), .q (.ld none (.t 80)), []⟩,
 ⟨some 82, some (78, true), .q (.fa 3 (.t 3)), []⟩,
 ⟨some 83, some (78, true), .q (.ld none (.t 82)), []⟩,
 ⟨some 84, some (78, true), .q (.bin .add (.t 81) (.t 83)), []⟩,
 ⟨some 85, some (78, true), .q (.bin .lss (.t 79) (.t 84)), []⟩,
 ⟨some 86, none, .q (.pick (.t 78) (.t 85) (.v (.bool false))), []⟩]
def c56_31 : ACode := .ops [
 ⟨some 87, none, .q (.fa 2 (.t 3)), []⟩,
 ⟨some 88, none, .q (.ld none (.t 87)), []⟩,
 ⟨some 89, none, .q (.bin .sub (.t 88) (.v (.int .i64 1))), []⟩,
 ⟨some 2, none, .q (.mv (.t 89)), []⟩]
def c56_32 : ACode := .cond (.t 86) c56_31 .skip
def c56_33 : ACode := .seq c56_30 c56_32
def c56_34 : ACode := .seq c56_29 c56_33
def c56_35 : ACode := .seq c56_25 c56_34
def c56_36 : ACode := .cond (.t 41) c56_35 .skip
def c56_37 : ACode := .seq c56_20 c56_36
def c56_38 : ACode := .cond (.t 18) c56_19 c56_37
def c56_39 : ACode := .seq c56_2 c56_38
def c56_40 : ACode := .block 0 c56_39
def c56_41 : ACode := .seq c56_1 c56_40
def c56_42 : ACode := .ops [
 ⟨some 91, none, .q (.ld (some 5) (.t 3)), []⟩,
 ⟨some 92, none, .q (.mv (.t 1)), []⟩,
 ⟨some 93, none, .e (.call 21 [(.t 91), (.t 92)]), []⟩,
 ⟨some 90, none, .q (.mv (.t 93)), []⟩,
 ⟨some 94, none, .q (.ext 0 (.t 90)), []⟩,
 ⟨some 95, none, .q (.ext 1 (.t 90)), []⟩,
 ⟨some 12, none, .q (.mv (.t 94)), []⟩,
 ⟨some 13, none, .q (.mv (.t 95)), []⟩]
def c56_43 : ACode := .ops [
 ⟨some 97, none, .q (.ld (some 5) (.t 3)), []⟩,
 ⟨some 98, none, .q (.mv (.t 2)), []⟩,
 ⟨some 99, none, .e (.call 21 [(.t 97), (.t 98)]), []⟩,
 ⟨some 96, none, .q (.mv (.t 99)), []⟩,
 ⟨some 100, none, .q (.ext 0 (.t 96)), []⟩,
 ⟨some 101, none, .q (.ext 1 (.t 96)), []⟩,
 ⟨some 14, none, .q (.mv (.t 100)), []⟩,
 ⟨some 15, none, .q (.mv (.t 101)), []⟩]
def c56_44 : ACode := .ops [
 ⟨some 102, none, .q (.mv (.t 12)), []⟩,
 ⟨some 103, none, .q (.mv (.t 14)), []⟩,
 ⟨some 104, none, .q (.mnx false (.t 102) (.t 103)), []⟩,
 ⟨some 105, none, .q (.mv (.t 12)), []⟩,
 ⟨some 106, none, .q (.mv (.t 14)), []⟩,
 ⟨some 107, none, .q (.mnx true (.t 105) (.t 106)), []⟩,
 ⟨some 6, none, .q (.mv (.t 104)), []⟩,
 ⟨some 7, none, .q (.mv (.t 107)), []⟩,
 ⟨some 8, none, .q (.mv (.v (.bool true))), []⟩]
def c56_45 : ACode := .seq c56_44 .ret
def c56_46 : ACode := .seq c56_43 c56_45
def c56_47 : ACode := .seq c56_42 c56_46
def c56_48 : ACode := .seq c56_41 c56_47
def c56_49 : ACode := .seq c56_0 c56_48
@[go_sem] def c56_0_wp := wp_of c56_0.eq_1
@[go_sem] def c56_1_wp := wp_of c56_1.eq_1
@[go_sem] def c56_2_wp := wp_of c56_2.eq_1
@[go_sem] def c56_3_wp := wp_of c56_3.eq_1
@[go_sem] def c56_4_wp := wp_of c56_4.eq_1
@[go_sem] def c56_5_wp := wp_of c56_5.eq_1
@[go_sem] def c56_6_wp := wp_of c56_6.eq_1
@[go_sem] def c56_7_wp := wp_of c56_7.eq_1
@[go_sem] def c56_8_wp := wp_of c56_8.eq_1
@[go_sem] def c56_9_wp := wp_of c56_9.eq_1
@[go_sem] def c56_10_wp := wp_of c56_10.eq_1
@[go_sem] def c56_11_wp := wp_of c56_11.eq_1
@[go_sem] def c56_12_wp := wp_of c56_12.eq_1
@[go_sem] def c56_13_wp := wp_of c56_13.eq_1
@[go_sem] def c56_14_wp := wp_of c56_14.eq_1
@[go_sem] def c56_15_wp := wp_of c56_15.eq_1
@[go_sem] def c56_16_wp := wp_of c56_16.eq_1
@[go_sem] def c56_17_wp := wp_of c56_17.eq_1
@[go_sem] def c56_18_wp := wp_of c56_18.eq_1
@[go_sem] def c56_19_wp := wp_of c56_19.eq_1
@[go_sem] def c56_20_wp := wp_of c56_20.eq_1
@[go_sem] def c56_21_wp := wp_of c56_21.eq_1
@[go_sem] def c56_22_wp := wp_of c56_22.eq_1
@[go_sem] def c56_23_wp := wp_of c56_23.eq_1
@[go_sem] def c56_24_wp := wp_of c56_24.eq_1
@[go_sem] def c56_25_wp := wp_of c56_25.eq_1
@[go_sem] def c56_26_wp := wp_of c56_26.eq_1
@[go_sem] def c56_27_wp := wp_of c56_27.eq_1
@[go_sem] def c56_28_wp := wp_of c56_28.eq_1
@[go_sem] def c56_29_wp := wp_of c56_29.eq_1
@[go_sem] def c56_30_wp := wp_of c56_30.eq_1
@[go_sem] def c56_31_wp := wp_of c56_31.eq_1
@[go_sem] def c56_32_wp := wp_of c56_32.eq_1
@[go_sem] def c56_33_wp := wp_of c56_33.eq_1
@[go_sem] def c56_34_wp := wp_of c56_34.eq_1
@[go_sem] def c56_35_wp := wp_of c56_35.eq_1
@[go_sem] def c56_36_wp := wp_of c56_36.eq_1
@[go_sem] def c56_37_wp := wp_of c56_37.eq_1
@[go_sem] def c56_38_wp := wp_of c56_38.eq_1
@[go_sem] def c56_39_wp := wp_of c56_39.eq_1
@[go_sem] def c56_40_wp := wp_of c56_40.eq_1
@[go_sem] def c56_41_wp := wp_of c56_41.eq_1
@[go_sem] def c56_42_wp := wp_of c56_42.eq_1
@[go_sem] def c56_43_wp := wp_of c56_43.eq_1
@[go_sem] def c56_44_wp := wp_of c56_44.eq_1
@[go_sem] def c56_45_wp := wp_of c56_45.eq_1
@[go_sem] def c56_46_wp := wp_of c56_46.eq_1
@[go_sem] def c56_47_wp := wp_of c56_47.eq_1
@[go_sem] def c56_48_wp := wp_of c56_48.eq_1
@[go_sem] def c56_49_wp := wp_of c56_49.eq_1
def c56 : AFn := ⟨108, [.t 6, .t 7, .t 8], c56_49⟩
theorem c56_ok : compF Tryz.prog Tryz.f56 = some c56 := by kernel_rfl
theorem a56 {args : List AV} {σ : ASt} {R : AV → ASt → Prop} (hl : args.length ≤ 108) (h : c56_49.wp Tryz.prog (RetQ [.t 6, .t 7, .t 8] R) (init args) σ) : ACalls Tryz.prog 56 args σ R := acalls_of Tryz.func56 c56_ok hl h
end Go.A
namespace Go.A
open Go.Proofs Go.Lib
def Edt.span (e : Edt) (f t : Int) : Int × Int × Bool :=
 if e.kind = 1 then
  if (e.place f).2 = true then ((e.place f).1, if (e.place t).2 = true then (e.place t).1 else e.most - 1, true) else (0, 0, false)
 else if e.kind = 2 then
  if e.at' ≤ f ∧ t < e.at' + e.n then (0, 0, false)
  else
   let f' := if e.at' ≤ f ∧ f < e.at' + e.n then e.at' + e.n else f
   let t' := if e.at' ≤ t ∧ t < e.at' + e.n then e.at' - 1 else t
   (min (e.place f').1 (e.place t').1, max (e.place f').1 (e.place t').1, true)
 else (min (e.place f).1 (e.place t).1, max (e.place f).1 (e.place t).1, true)
theorem shspan_ok (e : Edt) (he : e.fit) (f t : Int) (h0 : 0 ≤ f) (h1 : f ≤ t) (h2 : t ≤ 4000) :
  Pure Tryz.prog 56 [e.av, .int .i64 f, .int .i64 t] (.tuple [.int .i64 (e.span f t).1, .int .i64 (e.span f t).2.1, .bool (e.span f t).2.2]) := by
 intro σ
 have hm := shmost_ok e
 have hr := most_rng e
 have hp : ∀ i, 0 ≤ i → i ≤ 10000 → Pure Tryz.prog 21 [e.av, .int .i64 i] (.tuple [.int .i64 (e.place i).1, .bool (e.place i).2]) := fun i h0 h1 => shplace_ok e he i h0 h1
 obtain ⟨a0, a1, n0, n1, ht⟩ := he
 obtain ⟨q, hq⟩ : ∃ q, e.span f t = q := ⟨_, rfl⟩
 rw [hq]
 unfold Edt.span at hq
 generalize e.most = M at *
 generalize e.place = pl at *
 unfold Edt.av at hm hp ⊢
 by_cases k1 : e.kind = 1
 ·rw [if_pos k1] at hq
  have h3 := hp f (by omega) (by omega)
  have h4 := hp t (by omega) (by omega)
  obtain ⟨⟨i, ok⟩, hi⟩ : ∃ r, pl f = r := ⟨_, rfl⟩
  obtain ⟨⟨j, ok2⟩, hj⟩ : ∃ r, pl t = r := ⟨_, rfl⟩
  rw [hi] at hq h3
  rw [hj] at hq h4
  dsimp only at hq h3 h4
  cases ok with
  | false =>
    rw [if_neg (by simp)] at hq
    subst hq
    refine a56 (by simp) ?_
    simp (disch := first | assumption | omega) only [go_sem]
    refine boxC_by rfl fun b hb => ?_
    simp (disch := first | assumption | omega) only [go_sem, Nat.reduceEqDiff, Nat.reduceLeDiff, ↓reduceIte, k1]
    refine h3.use ?_
    simp (disch := first | assumption | omega) only [go_sem, Nat.reduceEqDiff, ↓reduceIte]
    exact retC_by (Drop.set hb) (.refl _) ⟨rfl, rfl⟩
  | true =>
    rw [if_pos rfl] at hq
    cases ok2 with
    | true =>
      rw [if_pos rfl] at hq
      subst hq
      refine a56 (by simp) ?_
      simp (disch := first | assumption | omega) only [go_sem]
      refine boxC_by rfl fun b hb => ?_
      simp (disch := first | assumption | omega) only [go_sem, Nat.reduceEqDiff, Nat.reduceLeDiff, ↓reduceIte, k1]
      refine h3.use ?_
      simp (disch := first | assumption | omega) only [go_sem, Nat.reduceEqDiff, Nat.reduceLeDiff, ↓reduceIte]
      refine h4.use ?_
      simp (disch := first | assumption | omega) only [go_sem, Nat.reduceEqDiff, ↓reduceIte]
      exact retC_by (Drop.set hb) (.refl _) ⟨rfl, rfl⟩
    | false =>
      rw [if_neg (by simp)] at hq
      subst hq
      refine a56 (by simp) ?_
      simp (disch := first | assumption | omega) only [go_sem]
      refine boxC_by rfl fun b hb => ?_
      simp (disch := first | assumption | omega) only [go_sem, Nat.reduceEqDiff, Nat.reduceLeDiff, ↓reduceIte, k1]
      refine h3.use ?_
      simp (disch := first | assumption | omega) only [go_sem, Nat.reduceEqDiff, Nat.reduceLeDiff, ↓reduceIte]
      refine h4.use ?_
      simp (disch := first | assumption | omega) only [go_sem, Nat.reduceEqDiff, Nat.reduceLeDiff, ↓reduceIte]
      refine hm.use ?_
      simp (disch := first | assumption | omega) only [go_sem, Nat.reduceEqDiff, ↓reduceIte]
      exact retC_by (Drop.set hb) (.refl _) ⟨rfl, rfl⟩
 rw [if_neg k1] at hq
 by_cases k2 : e.kind = 2
 ·rw [if_pos k2] at hq
  by_cases g1 : e.at' ≤ f
  ·by_cases g2 : t < e.at' + e.n
   ·rw [if_pos ⟨g1, g2⟩] at hq
    subst hq
    refine a56 (by simp) ?_
    simp (disch := first | assumption | omega) only [go_sem]
    refine boxC_by rfl fun b hb => ?_
    simp (disch := first | assumption | omega) only [go_sem, Nat.reduceEqDiff, Int.reduceEq, ↓reduceIte, k2, g1, g2]
    exact retC_by (Drop.set hb) (.refl _) ⟨rfl, rfl⟩
   ·rw [if_neg (fun h => g2 h.2)] at hq
    have g3 : e.at' ≤ t := by omega
    rw [if_neg (c := e.at' ≤ t ∧ t < e.at' + e.n) (fun h => g2 h.2)] at hq
    by_cases g4 : f < e.at' + e.n
    ·rw [if_pos ⟨g1, g4⟩] at hq
     have h3 := hp (e.at' + e.n) (by omega) (by omega)
     have h4 := hp t (by omega) (by omega)
     dsimp only at hq
     subst hq
     refine a56 (by simp) ?_
     simp (disch := first | assumption | omega) only [go_sem]
     refine boxC_by rfl fun b hb => ?_
     simp (disch := first | assumption | omega) only [go_sem, Nat.reduceEqDiff, Nat.reduceLeDiff, Int.reduceEq, ↓reduceIte, k2, g1, g2, g3, g4]
     refine h3.use ?_
     simp (disch := first | assumption | omega) only [go_sem, Nat.reduceEqDiff, Nat.reduceLeDiff, ↓reduceIte]
     refine h4.use ?_
     simp (disch := first | assumption | omega) only [go_sem, Nat.reduceEqDiff, ↓reduceIte]
     exact retC_by (Drop.set hb) (.refl _) ⟨rfl, rfl⟩
    ·rw [if_neg (fun h => g4 h.2)] at hq
     have h3 := hp f (by omega) (by omega)
     have h4 := hp t (by omega) (by omega)
     dsimp only at hq
     subst hq
     refine a56 (by simp) ?_
     simp (disch := first | assumption | omega) only [go_sem]
     refine boxC_by rfl fun b hb => ?_
     simp (disch := first | assumption | omega) only [go_sem, Nat.reduceEqDiff, Nat.reduceLeDiff, Int.reduceEq, ↓reduceIte, k2, g1, g2, g3, g4]
     refine h3.use ?_
     simp (disch := first | assumption | omega) only [go_sem, Nat.reduceEqDiff, Nat.reduceLeDiff, ↓reduceIte]
     refine h4.use ?_
     simp (disch := first | assumption | omega) only [go_sem, Nat.reduceEqDiff, ↓reduceIte]
     exact retC_by (Drop.set hb) (.refl _) ⟨rfl, rfl⟩
  ·rw [if_neg (fun h => g1 h.1), if_neg (c := e.at' ≤ f ∧ f < e.at' + e.n) (fun h => g1 h.1)] at hq
   have h3 := hp f (by omega) (by omega)
   by_cases g3 : e.at' ≤ t
   ·by_cases g2 : t < e.at' + e.n
    ·rw [if_pos ⟨g3, g2⟩] at hq
     have h4 := hp (e.at' - 1) (by omega) (by omega)
     dsimp only at hq
     subst hq
     refine a56 (by simp) ?_
     simp (disch := first | assumption | omega) only [go_sem]
     refine boxC_by rfl fun b hb => ?_
     simp (disch := first | assumption | omega) only [go_sem, Nat.reduceEqDiff, Nat.reduceLeDiff, Int.reduceEq, ↓reduceIte, k2, g1, g2, g3]
     refine h3.use ?_
     simp (disch := first | assumption | omega) only [go_sem, Nat.reduceEqDiff, Nat.reduceLeDiff, ↓reduceIte]
     refine h4.use ?_
     simp (disch := first | assumption | omega) only [go_sem, Nat.reduceEqDiff, ↓reduceIte]
     exact retC_by (Drop.set hb) (.refl _) ⟨rfl, rfl⟩
    ·rw [if_neg (fun h => g2 h.2)] at hq
     have h4 := hp t (by omega) (by omega)
     dsimp only at hq
     subst hq
     refine a56 (by simp) ?_
     simp (disch := first | assumption | omega) only [go_sem]
     refine boxC_by rfl fun b hb => ?_
     simp (disch := first | assumption | omega) only [go_sem, Nat.reduceEqDiff, Nat.reduceLeDiff, Int.reduceEq, ↓reduceIte, k2, g1, g2, g3]
     refine h3.use ?_
     simp (disch := first | assumption | omega) only [go_sem, Nat.reduceEqDiff, Nat.reduceLeDiff, ↓reduceIte]
     refine h4.use ?_
     simp (disch := first | assumption | omega) only [go_sem, Nat.reduceEqDiff, ↓reduceIte]
     exact retC_by (Drop.set hb) (.refl _) ⟨rfl, rfl⟩
   ·rw [if_neg (fun h => g3 h.1)] at hq
    have h4 := hp t (by omega) (by omega)
    dsimp only at hq
    subst hq
    refine a56 (by simp) ?_
    simp (disch := first | assumption | omega) only [go_sem]
    refine boxC_by rfl fun b hb => ?_
    simp (disch := first | assumption | omega) only [go_sem, Nat.reduceEqDiff, Nat.reduceLeDiff, Int.reduceEq, ↓reduceIte, k2, g1, g3]
    refine h3.use ?_
    simp (disch := first | assumption | omega) only [go_sem, Nat.reduceEqDiff, Nat.reduceLeDiff, ↓reduceIte]
    refine h4.use ?_
    simp (disch := first | assumption | omega) only [go_sem, Nat.reduceEqDiff, ↓reduceIte]
    exact retC_by (Drop.set hb) (.refl _) ⟨rfl, rfl⟩
 ·rw [if_neg k2] at hq
  have h3 := hp f (by omega) (by omega)
  have h4 := hp t (by omega) (by omega)
  subst hq
  refine a56 (by simp) ?_
  simp (disch := first | assumption | omega) only [go_sem]
  refine boxC_by rfl fun b hb => ?_
  simp (disch := first | assumption | omega) only [go_sem, Nat.reduceEqDiff, Nat.reduceLeDiff, ↓reduceIte, k1, k2]
  refine h3.use ?_
  simp (disch := first | assumption | omega) only [go_sem, Nat.reduceEqDiff, Nat.reduceLeDiff, ↓reduceIte]
  refine h4.use ?_
  simp (disch := first | assumption | omega) only [go_sem, Nat.reduceEqDiff, ↓reduceIte]
  exact retC_by (Drop.set hb) (.refl _) ⟨rfl, rfl⟩
def goneN : Nd := .mk 4 40000 [] .zero .zero []
theorem gone_av : goneN.av = .agg [.int .i64 4, .int .i64 40000, .str [], .int .i64 0, .int .i64 0, .bool false, .bool false, .int .i64 0, .int .i64 0, .bool false, .bool false, .sl .shr []] := by
 unfold goneN
 rw [Nd.av_cs]; rfl
def Edt.of (e : Edt) (a : Ref) : Int := if e.cols = true then a.col else a.row
def Edt.set (e : Edt) (a : Ref) (i : Int) : Ref := if e.cols = true then ⟨a.row, i, a.absRow, a.absCol⟩ else ⟨i, a.col, a.absRow, a.absCol⟩
def Edt.cell (e : Edt) : Nd → Nd
 | .mk op n s a b ks => if (e.place (e.of a)).2 = true then .mk op n s (e.set a (e.place (e.of a)).1) b ks else goneN
def Edt.area (e : Edt) : Nd → Nd
 | .mk op n s a b ks =>
   if (e.span (min (e.of a) (e.of b)) (max (e.of a) (e.of b))).2.2 = true then
    if e.of b < e.of a then .mk op n s (e.set a (e.span (min (e.of a) (e.of b)) (max (e.of a) (e.of b))).2.1) (e.set b (e.span (min (e.of a) (e.of b)) (max (e.of a) (e.of b))).1) ks
    else .mk op n s (e.set a (e.span (min (e.of a) (e.of b)) (max (e.of a) (e.of b))).1) (e.set b (e.span (min (e.of a) (e.of b)) (max (e.of a) (e.of b))).2.1) ks
   else goneN
def Edt.node (e : Edt) (x : Nd) : Nd := if x.op = 5 then e.cell x else e.area x
def Edt.tree (e : Edt) (n : Nd) : Nd := Nd.map e.node n
theorem of_rng {e : Edt} {a : Ref} (h : a.good = true) : 0 ≤ e.of a ∧ e.of a < 3000 := by
 simp only [Ref.good, decide_eq_true_eq] at h
 unfold Edt.of
 split <;> omega
theorem shcell_ok (e : Edt) (he : e.fit) (op n : Int) (s : List UInt8) (a b : Ref) (ks : List Nd) (ha : a.good = true) :
  Pure Tryz.prog 40 [e.av, (Nd.mk op n s a b ks).av] (e.cell (.mk op n s a b ks)).av := by
 intro σ
 have hg : Pure Tryz.prog 35 [] (.agg [.int .i64 4, .int .i64 40000, .str [], .int .i64 0, .int .i64 0, .bool false, .bool false, .int .i64 0, .int .i64 0, .bool false, .bool false, .sl .shr []]) := by
  have := shgone_ok
  rw [Nd.av_cs] at this
  exact this
 have h0 := of_rng (e := e) ha
 have hp := shplace_ok e he (e.of a) (by omega) (by omega)
 obtain ⟨⟨i, ok⟩, hq⟩ : ∃ q, e.place (e.of a) = q := ⟨_, rfl⟩
 rw [Edt.cell, hq]
 rw [hq] at hp
 dsimp only at hp ⊢
 have hav : ∀ r : Ref, (Nd.mk op n s r b ks).av = .agg [.int .i64 op, .int .i64 n, .str s, .int .i64 r.row, .int .i64 r.col, .bool r.absRow, .bool r.absCol, .int .i64 b.row, .int .i64 b.col, .bool b.absRow, .bool b.absCol, .sl .shr (ks.map Nd.av)] := fun r => Nd.av_cs ..
 rw [hav]
 generalize ks.map Nd.av = L at *
 cases hb : e.cols with
 | true =>
   have ho : e.of a = a.col := by unfold Edt.of; rw [if_pos hb]
   have hs : e.set a i = ⟨a.row, i, a.absRow, a.absCol⟩ := by unfold Edt.set; rw [if_pos hb]
   rw [ho] at hp
   rw [hs]
   unfold Edt.av at hp ⊢
   cases ok with
   | true =>
     rw [if_pos rfl, hav]
     refine a40 (by simp) ?_
     simp (disch := first | assumption | omega) only [go_sem]
     refine boxC_by rfl fun c hc => ?_
     simp (disch := first | assumption | omega) only [go_sem, Nat.reduceEqDiff, ↓reduceIte]
     refine boxC_by rfl fun d hd => ?_
     repeat (with_reducible replace hd := set_none hd; obtain ⟨_, _, hd⟩ := hd)
     simp (disch := first | assumption | omega) only [go_sem]
     refine allocC_by fun t ht => ?_
     repeat (with_reducible replace ht := set_none ht; obtain ⟨_, _, ht⟩ := ht)
     have hdt : d ≠ t := by assumption
     have hsw : ∀ (ρ : ASt) (X Y Z : Option Role), ((ρ.set d X).set t Y).set d Z = (ρ.set d Z).set t Y := fun _ _ _ _ => set_mid hdt
     simp (disch := first | assumption | omega) only [go_sem, Nat.reduceEqDiff, Nat.reduceAdd, Nat.reduceLeDiff, ↓reduceIte, hb]
     refine hp.use ?_
     simp (disch := first | assumption | omega) only [go_sem, Nat.reduceEqDiff, Nat.reduceAdd, Nat.reduceLeDiff, ↓reduceIte, Bool.true_and, hsw, ASt.set_set]
     exact retC_by (by repeat' (first | exact Drop.refl _ | with_reducible refine Drop.off ?_ (by assumption))) (.refl _) ⟨rfl, rfl⟩
   | false =>
     rw [if_neg (by simp), gone_av]
     refine a40 (by simp) ?_
     simp (disch := first | assumption | omega) only [go_sem]
     refine boxC_by rfl fun c hc => ?_
     simp (disch := first | assumption | omega) only [go_sem, Nat.reduceEqDiff, ↓reduceIte]
     refine boxC_by rfl fun d hd => ?_
     repeat (with_reducible replace hd := set_none hd; obtain ⟨_, _, hd⟩ := hd)
     simp (disch := first | assumption | omega) only [go_sem]
     refine allocC_by fun t ht => ?_
     repeat (with_reducible replace ht := set_none ht; obtain ⟨_, _, ht⟩ := ht)
     simp (disch := first | assumption | omega) only [go_sem, Nat.reduceEqDiff, Nat.reduceAdd, Nat.reduceLeDiff, ↓reduceIte, hb]
     refine hp.use ?_
     simp (disch := first | assumption | omega) only [go_sem, Nat.reduceEqDiff, ↓reduceIte]
     refine hg.use ?_
     simp (disch := first | assumption | omega) only [go_sem, Nat.reduceEqDiff, Nat.reduceAdd, Nat.reduceLeDiff, ↓reduceIte, Bool.true_and, ASt.set_set]
     exact retC_by (by repeat' (first | exact Drop.refl _ | with_reducible refine Drop.off ?_ (by assumption))) (.refl _) ⟨rfl, rfl⟩
 | false =>
   have ho : e.of a = a.row := by unfold Edt.of; rw [if_neg (by simp [hb])]
   have hs : e.set a i = ⟨i, a.col, a.absRow, a.absCol⟩ := by unfold Edt.set; rw [if_neg (by simp [hb])]
   rw [ho] at hp
   rw [hs]
   unfold Edt.av at hp ⊢
   cases ok with
   | true =>
     rw [if_pos rfl, hav]
     refine a40 (by simp) ?_
     simp (disch := first | assumption | omega) only [go_sem]
     refine boxC_by rfl fun c hc => ?_
     simp (disch := first | assumption | omega) only [go_sem, Nat.reduceEqDiff, ↓reduceIte]
     refine boxC_by rfl fun d hd => ?_
     repeat (with_reducible replace hd := set_none hd; obtain ⟨_, _, hd⟩ := hd)
     simp (disch := first | assumption | omega) only [go_sem]
     refine allocC_by fun t ht => ?_
     repeat (with_reducible replace ht := set_none ht; obtain ⟨_, _, ht⟩ := ht)
     have hdt : d ≠ t := by assumption
     have hsw : ∀ (ρ : ASt) (X Y Z : Option Role), ((ρ.set d X).set t Y).set d Z = (ρ.set d Z).set t Y := fun _ _ _ _ => set_mid hdt
     simp (disch := first | assumption | omega) only [go_sem, Nat.reduceEqDiff, Nat.reduceLeDiff, ↓reduceIte, hb]
     refine hp.use ?_
     simp (disch := first | assumption | omega) only [go_sem, Nat.reduceEqDiff, Nat.reduceAdd, Nat.reduceLeDiff, ↓reduceIte, Bool.true_and, hsw, ASt.set_set]
     exact retC_by (by repeat' (first | exact Drop.refl _ | with_reducible refine Drop.off ?_ (by assumption))) (.refl _) ⟨rfl, rfl⟩
   | false =>
     rw [if_neg (by simp), gone_av]
     refine a40 (by simp) ?_
     simp (disch := first | assumption | omega) only [go_sem]
     refine boxC_by rfl fun c hc => ?_
     simp (disch := first | assumption | omega) only [go_sem, Nat.reduceEqDiff, ↓reduceIte]
     refine boxC_by rfl fun d hd => ?_
     repeat (with_reducible replace hd := set_none hd; obtain ⟨_, _, hd⟩ := hd)
     simp (disch := first | assumption | omega) only [go_sem]
     refine allocC_by fun t ht => ?_
     repeat (with_reducible replace ht := set_none ht; obtain ⟨_, _, ht⟩ := ht)
     simp (disch := first | assumption | omega) only [go_sem, Nat.reduceEqDiff, Nat.reduceLeDiff, ↓reduceIte, hb]
     refine hp.use ?_
     simp (disch := first | assumption | omega) only [go_sem, Nat.reduceEqDiff, ↓reduceIte]
     refine hg.use ?_
     simp (disch := first | assumption | omega) only [go_sem, Nat.reduceEqDiff, Nat.reduceAdd, Nat.reduceLeDiff, ↓reduceIte, Bool.true_and, ASt.set_set]
     exact retC_by (by repeat' (first | exact Drop.refl _ | with_reducible refine Drop.off ?_ (by assumption))) (.refl _) ⟨rfl, rfl⟩
theorem sharea_ok (e : Edt) (he : e.fit) (op n : Int) (s : List UInt8) (a b : Ref) (ks : List Nd) (ha : a.good = true) (hb' : b.good = true) :
  Pure Tryz.prog 41 [e.av, (Nd.mk op n s a b ks).av] (e.area (.mk op n s a b ks)).av := by
 intro σ
 have hg : Pure Tryz.prog 35 [] (.agg [.int .i64 4, .int .i64 40000, .str [], .int .i64 0, .int .i64 0, .bool false, .bool false, .int .i64 0, .int .i64 0, .bool false, .bool false, .sl .shr []]) := by
  have := shgone_ok
  rw [Nd.av_cs] at this
  exact this
 have h0 := of_rng (e := e) ha
 have h1 := of_rng (e := e) hb'
 have hp := shspan_ok e he (min (e.of a) (e.of b)) (max (e.of a) (e.of b)) (by omega) (by omega) (by omega)
 obtain ⟨⟨i, j, ok⟩, hq⟩ : ∃ q, e.span (min (e.of a) (e.of b)) (max (e.of a) (e.of b)) = q := ⟨_, rfl⟩
 rw [Edt.area, hq]
 rw [hq] at hp
 dsimp only at hp ⊢
 have hav : ∀ r u : Ref, (Nd.mk op n s r u ks).av = .agg [.int .i64 op, .int .i64 n, .str s, .int .i64 r.row, .int .i64 r.col, .bool r.absRow, .bool r.absCol, .int .i64 u.row, .int .i64 u.col, .bool u.absRow, .bool u.absCol, .sl .shr (ks.map Nd.av)] := fun r u => Nd.av_cs ..
 cases hb : e.cols with
 | true =>
   have ho : ∀ r : Ref, e.of r = r.col := fun r => by unfold Edt.of; rw [if_pos hb]
   have hs : ∀ (r : Ref) (k : Int), e.set r k = ⟨r.row, k, r.absRow, r.absCol⟩ := fun r k => by unfold Edt.set; rw [if_pos hb]
   rw [ho, ho] at hp ⊢
   unfold Edt.av at hp ⊢
   cases ok with
   | true =>
     rw [if_pos rfl]
     by_cases hlt : b.col < a.col
     ·rw [if_pos hlt, hs, hs, hav, hav]
      generalize ks.map Nd.av = L at *
      refine a41 (by simp) ?_
      simp (disch := first | assumption | omega) only [go_sem]
      refine boxC_by rfl fun c hc => ?_
      simp (disch := first | assumption | omega) only [go_sem, Nat.reduceEqDiff, ↓reduceIte]
      refine boxC_by rfl fun d hd => ?_
      repeat (with_reducible replace hd := set_none hd; obtain ⟨_, _, hd⟩ := hd)
      simp (disch := first | assumption | omega) only [go_sem]
      refine allocC_by fun t ht => ?_
      repeat (with_reducible replace ht := set_none ht; obtain ⟨_, _, ht⟩ := ht)
      have hdt : d ≠ t := by assumption
      have hsw : ∀ (ρ : ASt) (X Y Z : Option Role), ((ρ.set d X).set t Y).set d Z = (ρ.set d Z).set t Y := fun _ _ _ _ => set_mid hdt
      simp (disch := first | assumption | omega) only [go_sem, Nat.reduceEqDiff, Nat.reduceAdd, Nat.reduceLeDiff, ↓reduceIte, hb, hlt]
      refine hp.use ?_
      simp (disch := first | assumption | omega) only [go_sem, Nat.reduceEqDiff, Nat.reduceAdd, Nat.reduceLeDiff, ↓reduceIte, Bool.true_and, hsw, ASt.set_set]
      exact retC_by (by repeat' (first | exact Drop.refl _ | with_reducible refine Drop.off ?_ (by assumption))) (.refl _) ⟨rfl, rfl⟩
     ·rw [if_neg hlt, hs, hs, hav, hav]
      generalize ks.map Nd.av = L at *
      refine a41 (by simp) ?_
      simp (disch := first | assumption | omega) only [go_sem]
      refine boxC_by rfl fun c hc => ?_
      simp (disch := first | assumption | omega) only [go_sem, Nat.reduceEqDiff, ↓reduceIte]
      refine boxC_by rfl fun d hd => ?_
      repeat (with_reducible replace hd := set_none hd; obtain ⟨_, _, hd⟩ := hd)
      simp (disch := first | assumption | omega) only [go_sem]
      refine allocC_by fun t ht => ?_
      repeat (with_reducible replace ht := set_none ht; obtain ⟨_, _, ht⟩ := ht)
      have hdt : d ≠ t := by assumption
      have hsw : ∀ (ρ : ASt) (X Y Z : Option Role), ((ρ.set d X).set t Y).set d Z = (ρ.set d Z).set t Y := fun _ _ _ _ => set_mid hdt
      simp (disch := first | assumption | omega) only [go_sem, Nat.reduceEqDiff, Nat.reduceAdd, Nat.reduceLeDiff, ↓reduceIte, hb, hlt]
      refine hp.use ?_
      simp (disch := first | assumption | omega) only [go_sem, Nat.reduceEqDiff, Nat.reduceAdd, Nat.reduceLeDiff, ↓reduceIte, Bool.true_and, hsw, ASt.set_set]
      exact retC_by (by repeat' (first | exact Drop.refl _ | with_reducible refine Drop.off ?_ (by assumption))) (.refl _) ⟨rfl, rfl⟩
   | false =>
     rw [if_neg (by simp), hav, gone_av]
     generalize ks.map Nd.av = L at *
     refine a41 (by simp) ?_
     simp (disch := first | assumption | omega) only [go_sem]
     refine boxC_by rfl fun c hc => ?_
     simp (disch := first | assumption | omega) only [go_sem, Nat.reduceEqDiff, ↓reduceIte]
     refine boxC_by rfl fun d hd => ?_
     repeat (with_reducible replace hd := set_none hd; obtain ⟨_, _, hd⟩ := hd)
     simp (disch := first | assumption | omega) only [go_sem]
     refine allocC_by fun t ht => ?_
     repeat (with_reducible replace ht := set_none ht; obtain ⟨_, _, ht⟩ := ht)
     simp (disch := first | assumption | omega) only [go_sem, Nat.reduceEqDiff, Nat.reduceAdd, Nat.reduceLeDiff, ↓reduceIte, hb]
     refine hp.use ?_
     simp (disch := first | assumption | omega) only [go_sem, Nat.reduceEqDiff, ↓reduceIte]
     refine hg.use ?_
     simp (disch := first | assumption | omega) only [go_sem, Nat.reduceEqDiff, Nat.reduceAdd, Nat.reduceLeDiff, ↓reduceIte, Bool.true_and, ASt.set_set]
     exact retC_by (by repeat' (first | exact Drop.refl _ | with_reducible refine Drop.off ?_ (by assumption))) (.refl _) ⟨rfl, rfl⟩
 | false =>
   have ho : ∀ r : Ref, e.of r = r.row := fun r => by unfold Edt.of; rw [if_neg (by simp [hb])]
   have hs : ∀ (r : Ref) (k : Int), e.set r k = ⟨k, r.col, r.absRow, r.absCol⟩ := fun r k => by unfold Edt.set; rw [if_neg (by simp [hb])]
   rw [ho, ho] at hp ⊢
   unfold Edt.av at hp ⊢
   cases ok with
   | true =>
     rw [if_pos rfl]
     by_cases hlt : b.row < a.row
     ·rw [if_pos hlt, hs, hs, hav, hav]
      generalize ks.map Nd.av = L at *
      refine a41 (by simp) ?_
      simp (disch := first | assumption | omega) only [go_sem]
      refine boxC_by rfl fun c hc => ?_
      simp (disch := first | assumption | omega) only [go_sem, Nat.reduceEqDiff, ↓reduceIte]
      refine boxC_by rfl fun d hd => ?_
      repeat (with_reducible replace hd := set_none hd; obtain ⟨_, _, hd⟩ := hd)
      simp (disch := first | assumption | omega) only [go_sem]
      refine allocC_by fun t ht => ?_
      repeat (with_reducible replace ht := set_none ht; obtain ⟨_, _, ht⟩ := ht)
      have hdt : d ≠ t := by assumption
      have hsw : ∀ (ρ : ASt) (X Y Z : Option Role), ((ρ.set d X).set t Y).set d Z = (ρ.set d Z).set t Y := fun _ _ _ _ => set_mid hdt
      simp (disch := first | assumption | omega) only [go_sem, Nat.reduceEqDiff, Nat.reduceLeDiff, ↓reduceIte, hb, hlt]
      refine hp.use ?_
      simp (disch := first | assumption | omega) only [go_sem, Nat.reduceEqDiff, Nat.reduceAdd, Nat.reduceLeDiff, ↓reduceIte, Bool.true_and, hsw, ASt.set_set]
      exact retC_by (by repeat' (first | exact Drop.refl _ | with_reducible refine Drop.off ?_ (by assumption))) (.refl _) ⟨rfl, rfl⟩
     ·rw [if_neg hlt, hs, hs, hav, hav]
      generalize ks.map Nd.av = L at *
      refine a41 (by simp) ?_
      simp (disch := first | assumption | omega) only [go_sem]
      refine boxC_by rfl fun c hc => ?_
      simp (disch := first | assumption | omega) only [go_sem, Nat.reduceEqDiff, ↓reduceIte]
      refine boxC_by rfl fun d hd => ?_
      repeat (with_reducible replace hd := set_none hd; obtain ⟨_, _, hd⟩ := hd)
      simp (disch := first | assumption | omega) only [go_sem]
      refine allocC_by fun t ht => ?_
      repeat (with_reducible replace ht := set_none ht; obtain ⟨_, _, ht⟩ := ht)
      have hdt : d ≠ t := by assumption
      have hsw : ∀ (ρ : ASt) (X Y Z : Option Role), ((ρ.set d X).set t Y).set d Z = (ρ.set d Z).set t Y := fun _ _ _ _ => set_mid hdt
      simp (disch := first | assumption | omega) only [go_sem, Nat.reduceEqDiff, Nat.reduceLeDiff, ↓reduceIte, hb, hlt]
      refine hp.use ?_
      simp (disch := first | assumption | omega) only [go_sem, Nat.reduceEqDiff, Nat.reduceAdd, Nat.reduceLeDiff, ↓reduceIte, Bool.true_and, hsw, ASt.set_set]
      exact retC_by (by repeat' (first | exact Drop.refl _ | with_reducible refine Drop.off ?_ (by assumption))) (.refl _) ⟨rfl, rfl⟩
   | false =>
     rw [if_neg (by simp), hav, gone_av]
     generalize ks.map Nd.av = L at *
     refine a41 (by simp) ?_
     simp (disch := first | assumption | omega) only [go_sem]
     refine boxC_by rfl fun c hc => ?_
     simp (disch := first | assumption | omega) only [go_sem, Nat.reduceEqDiff, ↓reduceIte]
     refine boxC_by rfl fun d hd => ?_
     repeat (with_reducible replace hd := set_none hd; obtain ⟨_, _, hd⟩ := hd)
     simp (disch := first | assumption | omega) only [go_sem]
     refine allocC_by fun t ht => ?_
     repeat (with_reducible replace ht := set_none ht; obtain ⟨_, _, ht⟩ := ht)
     simp (disch := first | assumption | omega) only [go_sem, Nat.reduceEqDiff, Nat.reduceLeDiff, ↓reduceIte, hb]
     refine hp.use ?_
     simp (disch := first | assumption | omega) only [go_sem, Nat.reduceEqDiff, ↓reduceIte]
     refine hg.use ?_
     simp (disch := first | assumption | omega) only [go_sem, Nat.reduceEqDiff, Nat.reduceAdd, Nat.reduceLeDiff, ↓reduceIte, Bool.true_and, ASt.set_set]
     exact retC_by (by repeat' (first | exact Drop.refl _ | with_reducible refine Drop.off ?_ (by assumption))) (.refl _) ⟨rfl, rfl⟩
theorem ok_kids : ∀ (op m : Int) (s : List UInt8) (a b : Ref) (ks : List Nd), (Nd.mk op m s a b ks).ok → ∀ x ∈ ks, x.ok := fun op m s a b ks h => by
 rw [Nd.ok] at h
 exact Nd.oks_mem.1 h.2
theorem ok_refs {op m : Int} {s : List UInt8} {a b : Ref} {ks : List Nd} (h : (Nd.mk op m s a b ks).ok) : (op = 5 ∨ op = 6 → a.good = true) ∧ (op = 6 → b.good = true) := by
 rw [Nd.ok] at h
 exact ⟨h.1.2.2.2.2.2.1, h.1.2.2.2.2.2.2.1⟩
def EdtAt (e : Edt) (c : Nat) (σ : ASt) : Prop := σ c = some (.obj e.cs)
theorem shTree1_ok (e : Edt) (he : e.fit) (c : Nat) (x : Nd) (hx : x.ok) (ho : x.op = 5 ∨ x.op = 6) (σ : ASt) (hσ : EdtAt e c σ) :
  ACalls Tryz.prog 39 [x.av, .ptr c 0] σ fun v σ' => v = (e.node x).av ∧ σ' = σ := by
 obtain ⟨op, n, s, a, b, ks⟩ := x
 have hr := ok_refs hx
 unfold EdtAt at hσ
 change op = 5 ∨ op = 6 at ho
 have hc1 : op = 5 → Pure Tryz.prog 40 [e.av, (Nd.mk op n s a b ks).av] (e.cell (.mk op n s a b ks)).av := fun h => shcell_ok e he op n s a b ks (hr.1 ho)
 have hc2 : op ≠ 5 → Pure Tryz.prog 41 [e.av, (Nd.mk op n s a b ks).av] (e.area (.mk op n s a b ks)).av := fun h => sharea_ok e he op n s a b ks (hr.1 ho) (hr.2 (by omega))
 have hnode : e.node (.mk op n s a b ks) = if op = 5 then e.cell (.mk op n s a b ks) else e.area (.mk op n s a b ks) := rfl
 rw [hnode]
 have hav : (Nd.mk op n s a b ks).av = .agg [.int .i64 op, .int .i64 n, .str s, .int .i64 a.row, .int .i64 a.col, .bool a.absRow, .bool a.absCol, .int .i64 b.row, .int .i64 b.col, .bool b.absRow, .bool b.absCol, .sl .shr (ks.map Nd.av)] := Nd.av_cs ..
 rw [hav] at hc1 hc2 ⊢
 unfold Edt.av at hc1 hc2
 generalize ks.map Nd.av = L at *
 by_cases h5 : op = 5
 ·have h := hc1 h5
  rw [if_pos h5]
  subst h5
  obtain ⟨⟨wo, wm, ws, wa, wb, wk⟩, hw⟩ : ∃ w, e.cell (.mk 5 n s a b ks) = w := ⟨_, rfl⟩
  rw [hw, Nd.av_cs] at h
  rw [hw, Nd.av_cs]
  unfold Nd.cs at h ⊢
  generalize wk.map Nd.av = WL at *
  refine a39 (by simp) ?_
  simp (disch := first | assumption | omega) only [go_sem]
  refine boxC_by rfl fun d hd => ?_
  have hcd : c ≠ d := by rintro rfl; rw [hd] at hσ; cases hσ
  simp (disch := first | assumption | omega) only [go_sem]
  refine allocC_by fun t ht => ?_
  have hct : c ≠ t := by rintro rfl; rw [ASt.set_ne hcd, hσ] at ht; cases ht
  repeat (with_reducible replace ht := set_none ht; obtain ⟨_, _, ht⟩ := ht)
  simp (disch := first | assumption | omega) only [go_sem, Nat.reduceEqDiff, Nat.reduceAdd, Nat.reduceLeDiff, ↓reduceIte, hσ]
  refine h.use ?_
  simp (disch := first | assumption | omega) only [go_sem, Nat.reduceEqDiff, Nat.reduceAdd, Nat.reduceLeDiff, ↓reduceIte, Bool.true_and, ASt.set_set]
  exact retC_by (by repeat' (first | exact Drop.refl _ | with_reducible refine Drop.off ?_ (by assumption))) (.refl _) ⟨rfl, rfl⟩
 ·have h := hc2 h5
  rw [if_neg h5]
  obtain ⟨⟨wo, wm, ws, wa, wb, wk⟩, hw⟩ : ∃ w, e.area (.mk op n s a b ks) = w := ⟨_, rfl⟩
  rw [hw, Nd.av_cs] at h
  rw [hw, Nd.av_cs]
  unfold Nd.cs at h ⊢
  generalize wk.map Nd.av = WL at *
  refine a39 (by simp) ?_
  simp (disch := first | assumption | omega) only [go_sem]
  refine boxC_by rfl fun d hd => ?_
  have hcd : c ≠ d := by rintro rfl; rw [hd] at hσ; cases hσ
  simp (disch := first | assumption | omega) only [go_sem]
  refine allocC_by fun t ht => ?_
  have hct : c ≠ t := by rintro rfl; rw [ASt.set_ne hcd, hσ] at ht; cases ht
  repeat (with_reducible replace ht := set_none ht; obtain ⟨_, _, ht⟩ := ht)
  simp (disch := first | assumption | omega) only [go_sem, Nat.reduceEqDiff, Nat.reduceAdd, Nat.reduceLeDiff, ↓reduceIte, h5, hσ]
  refine h.use ?_
  simp (disch := first | assumption | omega) only [go_sem, Nat.reduceEqDiff, Nat.reduceAdd, Nat.reduceLeDiff, ↓reduceIte, Bool.true_and, ASt.set_set]
  exact retC_by (by repeat' (first | exact Drop.refl _ | with_reducible refine Drop.off ?_ (by assumption))) (.refl _) ⟨rfl, rfl⟩
theorem tree_map (e : Edt) (he : e.fit) (c : Nat) : MapG Nd.ok (.func (.func 39) [] [.ptr c 0]) e.node (EdtAt e c) := by
 refine ⟨39, [.ptr c 0], rfl, by kernel_rfl, fun σ b r hσ hb => ?_, fun x σ hσ hx ho => shTree1_ok e he c x hx ho σ hσ⟩
 unfold EdtAt at *
 rw [ASt.set_ne]
 ·exact hσ
 ·rintro rfl; rw [hb] at hσ; cases hσ
theorem shtree_ok (e : Edt) (he : e.fit) (n : Nd) (hn : n.ok) (hs : n.size ≤ 1000000000) : Pure Tryz.prog 17 [e.av, n.av] (e.tree n).av := by
 intro σ
 have hM := fun c => mapg_le _ e.node (EdtAt e c) Nd.ok ok_kids (tree_map e he c) n.size n (Nat.le_refl _) hs hn
 unfold Edt.tree
 obtain ⟨⟨wo, wm, ws, wa, wb, wk⟩, hw⟩ : ∃ w, Nd.map e.node n = w := ⟨_, rfl⟩
 rw [hw, Nd.av_cs]
 simp only [hw, Nd.av_cs] at hM
 obtain ⟨op, m, s, a, b, ks⟩ := n
 have hav : (Nd.mk op m s a b ks).av = .agg [.int .i64 op, .int .i64 m, .str s, .int .i64 a.row, .int .i64 a.col, .bool a.absRow, .bool a.absCol, .int .i64 b.row, .int .i64 b.col, .bool b.absRow, .bool b.absCol, .sl .shr (ks.map Nd.av)] := Nd.av_cs ..
 simp only [hav] at hM
 rw [hav]
 unfold Nd.cs at hM ⊢
 unfold Edt.av
 generalize ks.map Nd.av = L at *
 generalize wk.map Nd.av = WL at *
 refine a17 (by simp) ?_
 simp (disch := first | assumption | omega) only [go_sem]
 refine boxC_by rfl fun c hc => ?_
 simp (disch := first | assumption | omega) only [go_sem, Nat.reduceEqDiff, ↓reduceIte]
 refine boxC_by rfl fun d hd => ?_
 have hcd : c ≠ d := by rintro rfl; rw [ASt.set_same] at hd; cases hd
 have hdc := hcd.symm
 have hd0 := hd
 rw [ASt.set_ne hdc] at hd0
 simp (disch := first | assumption | omega) only [go_sem]
 refine allocC_by fun t ht => ?_
 have hct : c ≠ t := by rintro rfl; rw [ASt.set_ne hcd, ASt.set_same] at ht; cases ht
 repeat (with_reducible replace ht := set_none ht; obtain ⟨_, _, ht⟩ := ht)
 simp (disch := first | assumption | omega) only [go_sem, Nat.reduceEqDiff, Nat.reduceAdd, Nat.reduceLeDiff, ↓reduceIte]
 refine (hM c _ ?_).mono ?_
 ·unfold EdtAt
  rw [ASt.set_ne hct, ASt.set_ne hcd, ASt.set_same]
 rintro v σ' ⟨rfl, rfl⟩
 simp (disch := first | assumption | omega) only [go_sem, Nat.reduceEqDiff, Nat.reduceAdd, Nat.reduceLeDiff, ↓reduceIte, Bool.true_and, ASt.set_set]
 exact retC_by (by repeat' (first | exact Drop.refl _ | with_reducible refine Drop.off ?_ (by assumption))) (.refl _) ⟨rfl, rfl⟩
end Go.A
namespace Go.A
open Go.Proofs
/-! 13: tabular/shift.Copy -/
def c13_0 : ACode := .ops [
 ⟨some 3, none, .e (.box (.t 0)), []⟩,
 ⟨some 4, none, .e (.box (.t 1)), []⟩,
 ⟨some 5, none, .e (.box (.t 2)), []⟩,
 ⟨some 6, none, .e (.alloc [(.int .i64 0), (.int .i64 0), (.str []), (.int .i64 0), (.int .i64 0), (.bool false), (.bool false), (.int .i64 0), (.int .i64 0), (.bool false), (.bool false), (.sl .full [])]), []⟩]
def c13_1 : ACode := .ops [
 ⟨some 7, none, .q (.ld (some 12) (.t 3)), []⟩,
 ⟨some 8, none, .q (.mkf (.func 33) [] [(.t 4), (.t 5)]), []⟩,
 ⟨some 9, none, .e (.call 32 [(.t 7), (.t 8)]), []⟩,
 ⟨none, none, .e (.store 12 (.t 6) (.t 9)), []⟩]
def c13_2 : ACode := .seq c13_1 .ret
def c13_3 : ACode := .seq c13_0 c13_2
@[go_sem] def c13_0_wp := wp_of c13_0.eq_1
@[go_sem] def c13_1_wp := wp_of c13_1.eq_1
@[go_sem] def c13_2_wp := wp_of c13_2.eq_1
@[go_sem] def c13_3_wp := wp_of c13_3.eq_1
def c13 : AFn := ⟨10, [.c 6 (some 12)], c13_3⟩
theorem c13_ok : compF Tryz.prog Tryz.f13 = some c13 := by kernel_rfl
theorem a13 {args : List AV} {σ : ASt} {R : AV → ASt → Prop} (hl : args.length ≤ 10) (h : c13_3.wp Tryz.prog (RetQ [.c 6 (some 12)] R) (init args) σ) : ACalls Tryz.prog 13 args σ R := acalls_of Tryz.func13 c13_ok hl h
/-! 33: tabular/shift.Copy$1 -/
def c33_0 : ACode := .ops [
 ⟨some 3, none, .e (.box (.t 0)), []⟩,
 ⟨some 4, none, .e (.alloc [(.int .i64 0), (.int .i64 0), (.str []), (.int .i64 0), (.int .i64 0), (.bool false), (.bool false), (.int .i64 0), (.int .i64 0), (.bool false), (.bool false), (.sl .full [])]), []⟩]
def c33_1 : ACode := .ops [
 ⟨some 10, none, .q (.fa 3 (.t 3)), []⟩,
 ⟨some 11, none, .q (.ld (some 4) (.t 10)), []⟩,
 ⟨some 12, none, .q (.ld none (.t 1)), []⟩,
 ⟨some 13, none, .q (.ld none (.t 2)), []⟩,
 ⟨some 14, none, .e (.call 34 [(.t 11), (.t 12), (.t 13)]), []⟩,
 ⟨some 9, none, .q (.mv (.t 14)), []⟩,
 ⟨some 15, none, .q (.ext 0 (.t 9)), []⟩,
 ⟨some 16, none, .q (.ext 1 (.t 9)), []⟩,
 ⟨some 5, none, .e (.alloc [(.int .i64 0), (.int .i64 0), (.bool false), (.bool false)]), []⟩,
 ⟨none, none, .e (.store 4 (.t 5) (.t 15)), []⟩,
 ⟨some 6, none, .q (.mv (.t 16)), []⟩]
def c33_2 : ACode := .ops [
 ⟨some 17, none, .q (.fa 0 (.t 3)), []⟩,
 ⟨some 18, none, .q (.ld none (.t 17)), []⟩,
 ⟨some 19, none, .q (.bin .eql (.t 18) (.v (.int .i64 5))), []⟩]
def c33_3 : ACode := .ops [
 ⟨some 20, none, .q (.mv (.t 6)), []⟩,
 ⟨some 21, none, .q (.un .not (.t 20)), []⟩]
def c33_4 : ACode := .ops [
 ⟨some 22, none, .e (.call 35 []), []⟩,
 ⟨none, none, .e (.store 12 (.t 4) (.t 22)), []⟩]
def c33_5 : ACode := .seq c33_4 .ret
def c33_6 : ACode := .cond (.t 21) c33_5 .skip
def c33_7 : ACode := .seq c33_3 c33_6
def c33_8 : ACode := .ops [
 ⟨some 23, none, .q (.ld (some 4) (.t 5)), []⟩,
 ⟨some 24, none, .q (.fa 3 (.t 3)), []⟩,
 ⟨none, none, .e (.store 4 (.t 24) (.t 23)), []⟩]
def c33_9 : ACode := .ops [
 ⟨some 25, none, .q (.ld (some 12) (.t 3)), []⟩,
 ⟨none, none, .e (.store 12 (.t 4) (.t 25)), []⟩]
def c33_10 : ACode := .seq c33_9 .ret
def c33_11 : ACode := .seq c33_8 c33_10
def c33_12 : ACode := .seq c33_7 c33_11
def c33_13 : ACode := .cond (.t 19) c33_12 .skip
def c33_14 : ACode := .seq c33_2 c33_13
def c33_15 : ACode := .ops [
 ⟨some 27, none, .q (.fa 7 (.t 3)), []⟩,
 ⟨some 28, none, .q (.ld (some 4) (.t 27)), []⟩,
 ⟨some 29, none, .q (.ld none (.t 1)), []⟩,
 ⟨some 30, none, .q (.ld none (.t 2)), []⟩,
 ⟨some 31, none, .e (.call 34 [(.t 28), (.t 29), (.t 30)]), []⟩,
 ⟨some 26, none, .q (.mv (.t 31)), []⟩,
 ⟨some 32, none, .q (.ext 0 (.t 26)), []⟩,
 ⟨some 33, none, .q (.ext 1 (.t 26)), []⟩,
 ⟨some 7, none, .e (.alloc [(.int .i64 0), (.int .i64 0), (.bool false), (.bool false)]), []⟩,
 ⟨none, none, .e (.store 4 (.t 7) (.t 32)), []⟩,
 ⟨some 8, none, .q (.mv (.t 33)), []⟩]
def c33_16 : ACode := .ops [
 ⟨some 34, none, .q (.mv (.t 6)), []⟩,
 ⟨some 35, none, .q (.un .not (.t 34)), []⟩,
 ⟨some 36, none, .q (.mv (.t 35)), []⟩,
 ⟨some 37, some (36, false), .q (.mv (.t 8)), []⟩,
 ⟨some 38, some (36, false), .q (.un .not (.t 37)), []⟩,
 ⟨some 39, none, .q (.pick (.t 36) (.v (.bool true)) (.t 38)), []⟩]
def c33_17 : ACode := .ops [
 ⟨some 40, none, .e (.call 35 []), []⟩,
 ⟨none, none, .e (.store 12 (.t 4) (.t 40)), []⟩]
def c33_18 : ACode := .seq c33_17 .ret
def c33_19 : ACode := .cond (.t 39) c33_18 .skip
def c33_20 : ACode := .seq c33_16 c33_19
def c33_21 : ACode := .ops [
 ⟨some 41, none, .q (.ld (some 4) (.t 5)), []⟩,
 ⟨some 42, none, .q (.ld (some 4) (.t 7)), []⟩,
 ⟨some 43, none, .q (.fa 3 (.t 3)), []⟩,
 ⟨none, none, .e (.store 4 (.t 43) (.t 41)), [⟨none, .ld (some 4) (.t 7), 42⟩]⟩,
 ⟨some 44, none, .q (.fa 7 (.t 3)), []⟩,
 ⟨none, none, .e (.store 4 (.t 44) (.t 42)), []⟩]
def c33_22 : ACode := .ops [
 ⟨some 45, none, .q (.ld (some 12) (.t 3)), []⟩,
 ⟨none, none, .e (.store 12 (.t 4) (.t 45)), []⟩]
def c33_23 : ACode := .seq c33_22 .ret
def c33_24 : ACode := .seq c33_21 c33_23
def c33_25 : ACode := .seq c33_20 c33_24
def c33_26 : ACode := .seq c33_15 c33_25
def c33_27 : ACode := .seq c33_14 c33_26
def c33_28 : ACode := .seq c33_1 c33_27
def c33_29 : ACode := .seq c33_0 c33_28
@[go_sem] def c33_0_wp := wp_of c33_0.eq_1
@[go_sem] def c33_1_wp := wp_of c33_1.eq_1
@[go_sem] def c33_2_wp := wp_of c33_2.eq_1
@[go_sem] def c33_3_wp := wp_of c33_3.eq_1
@[go_sem] def c33_4_wp := wp_of c33_4.eq_1
@[go_sem] def c33_5_wp := wp_of c33_5.eq_1
@[go_sem] def c33_6_wp := wp_of c33_6.eq_1
@[go_sem] def c33_7_wp := wp_of c33_7.eq_1
@[go_sem] def c33_8_wp := wp_of c33_8.eq_1
@[go_sem] def c33_9_wp := wp_of c33_9.eq_1
@[go_sem] def c33_10_wp := wp_of c33_10.eq_1
@[go_sem] def c33_11_wp := wp_of c33_11.eq_1
@[go_sem] def c33_12_wp := wp_of c33_12.eq_1
@[go_sem] def c33_13_wp := wp_of c33_13.eq_1
@[go_sem] def c33_14_wp := wp_of c33_14.eq_1
@[go_sem] def c33_15_wp := wp_of c33_15.eq_1
@[go_sem] def c33_16_wp := wp_of c33_16.eq_1
@[go_sem] def c33_17_wp := wp_of c33_17.eq_1
@[go_sem] def c33_18_wp := wp_of c33_18.eq_1
@[go_sem] def c33_19_wp := wp_of c33_19.eq_1
@[go_sem] def c33_20_wp := wp_of c33_20.eq_1
@[go_sem] def c33_21_wp := wp_of c33_21.eq_1
@[go_sem] def c33_22_wp := wp_of c33_22.eq_1
@[go_sem] def c33_23_wp := wp_of c33_23.eq_1
@[go_sem] def c33_24_wp := wp_of c33_24.eq_1
@[go_sem] def c33_25_wp := wp_of c33_25.eq_1
@[go_sem] def c33_26_wp := wp_of c33_26.eq_1
@[go_sem] def c33_27_wp := wp_of c33_27.eq_1
@[go_sem] def c33_28_wp := wp_of c33_28.eq_1
@[go_sem] def c33_29_wp := wp_of c33_29.eq_1
def c33 : AFn := ⟨46, [.c 4 (some 12)], c33_29⟩
theorem c33_ok : compF Tryz.prog Tryz.f33 = some c33 := by kernel_rfl
theorem a33 {args : List AV} {σ : ASt} {R : AV → ASt → Prop} (hl : args.length ≤ 46) (h : c33_29.wp Tryz.prog (RetQ [.c 4 (some 12)] R) (init args) σ) : ACalls Tryz.prog 33 args σ R := acalls_of Tryz.func33 c33_ok hl h
end Go.A
