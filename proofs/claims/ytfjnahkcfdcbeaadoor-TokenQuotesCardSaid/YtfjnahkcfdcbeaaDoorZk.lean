/- The lexer's methods, walked: put, pass, sign, words, failure, op. · The lexer's methods, walked: failure, op. · The lexer's quoted, walked. · The lexer's next, and Lex, walked. -/
import Derived.Test.YtfjnahkcfdcbeaaDoorZg
namespace Go.A
open Go.Proofs Go.Lib
set_option maxRecDepth 100000
set_option linter.unusedSimpArgs false
set_option linter.unusedVariables false

/-- A lexer over s, at a place, with these tokens. -/
def lexCells (s : List UInt8) (p c : Nat) (ts : List Tok) (k : SK) : List AV := [.str s, .int .i64 p, .int .i64 c, .sl k (ts.map tokAV)]
def LX (σ0 : ASt) (b : Nat) (s : List UInt8) (p c : Nat) (ts : List Tok) (σ : ASt) : Prop := GO σ0 b (lexCells s p c ts) (ts.map tokAV).length 4 σ
theorem LX.cell {σ0 σ : ASt} {b : Nat} {s : List UInt8} {p c : Nat} {ts : List Tok} (h : LX σ0 b s p c ts σ) : ∃ k, Grown (σ0.set b (some (.obj [.str s, .int .i64 p, .int .i64 c, .sl k (ts.map tokAV)]))) σ k (ts.map tokAV).length 4 ∧ σ b = some (.obj [.str s, .int .i64 p, .int .i64 c, .sl k (ts.map tokAV)]) := by
  obtain ⟨k, hg⟩ := h
  exact ⟨k, hg, GO.cell (cs := lexCells s p c ts) hg⟩
/-- What there is to know ahead of each step. -/
structure Bnd (s : List UInt8) (p c : Nat) (ts : List Tok) : Prop where
  hs : s.length ≤ 100000
  hp : p ≤ s.length
  hc : c ≤ p
  ht : ts.length ≤ 200000
theorem take_len {s : List UInt8} {p n : Nat} (h : p + n ≤ s.length) : ((s.drop p).take n).length = n := by simp; omega
theorem cut_eq {s : List UInt8} {p n : Nat} : (s.take (p + n)).drop p = (s.drop p).take n := by rw [List.drop_take]; congr 1; omega

set_option maxHeartbeats 1000000 in
theorem put_ok {σ0 σ : ASt} {b : Nat} {s : List UInt8} {p c : Nat} {ts : List Tok} (h : LX σ0 b s p c ts σ) (hB : Bnd s p c ts) (kind : Int) (text : List UInt8) (n : Nat) (hn : p + n ≤ s.length) :
    ACalls Tryd.prog 39 [.ptr b 0, .int .i64 kind, .str text, .int .i64 n] σ fun v σ' => v = .tuple [] ∧ LX σ0 b s (p + n) (c + signsN ((s.drop p).take n)) (ts ++ [Tok.mk kind text p c]) σ' := by
  obtain ⟨k, hg, hb⟩ := h.cell
  obtain ⟨hs, hp, hc, ht⟩ := hB
  have hm : ts.map tokAV ++ [tokAV (Tok.mk kind text p c)] = (ts ++ [Tok.mk kind text p c]).map tokAV := by simp
  have hlen : (ts.map tokAV).length = ts.length := by simp
  have e1 : ((p : Int) + n).toNat = p + n := by omega
  have e2 := cut_eq (s := s) (p := p) (n := n)
  have hsl := signsN_le ((s.drop p).take n)
  rw [take_len hn] at hsl
  refine a39 (by simp) ?_
  simp (disch := first | assumption | omega | (simp only [List.length_append, List.length_cons, List.length_nil]; omega)) only [go_sem, reduceCtorEq, Nat.reduceEqDiff, Nat.reduceAdd, Nat.reduceSub, Nat.reduceMul, Nat.reduceLeDiff, Int.reduceLT, Int.reduceLE, Int.reduceEq, ↓reduceIte, Int.reduceNeg, Int.reduceAdd, Int.reduceSub, Int.reduceMul, true_imp_iff, forall_const, Nat.mul_one, Int.reduceToNat, Nat.reducePow, Int.reducePow, Bool.true_and, Bool.false_and, Bool.and_false, hb]
  refine appC_by (ys := [tokAV (Tok.mk kind text p c)]) hg rfl rfl (by simp only [hlen, List.length_cons, List.length_nil]; omega) (by simp only [hlen, List.length_cons, List.length_nil]; omega) fun k' σ' hg' => ?_
  rw [hm] at hg' ⊢
  have hb' := hg'.at (ASt.set_same _ _ _)
  have hg2 := hg'.obj (r' := .obj [.str s, .int .i64 p, .int .i64 c, .sl k' ((ts ++ [Tok.mk kind text p c]).map tokAV)])
  simp (disch := first | assumption | omega | (simp only [List.length_append, List.length_cons, List.length_nil]; omega)) only [go_sem, reduceCtorEq, Nat.reduceEqDiff, Nat.reduceAdd, Nat.reduceSub, Nat.reduceMul, Nat.reduceLeDiff, Int.reduceLT, Int.reduceLE, Int.reduceEq, ↓reduceIte, Int.reduceNeg, Int.reduceAdd, Int.reduceSub, Int.reduceMul, true_imp_iff, forall_const, Nat.mul_one, Int.reduceToNat, Nat.reducePow, Int.reducePow, Bool.true_and, Bool.false_and, Bool.and_false, hb', e1, e2]
  refine (count_ok _ (by rw [take_len hn]; omega)).use ?_
  simp (disch := first | assumption | omega | (simp only [List.length_append, List.length_cons, List.length_nil]; omega)) only [go_sem, reduceCtorEq, Nat.reduceEqDiff, Nat.reduceAdd, Nat.reduceSub, Nat.reduceMul, Nat.reduceLeDiff, Int.reduceLT, Int.reduceLE, Int.reduceEq, ↓reduceIte, Int.reduceNeg, Int.reduceAdd, Int.reduceSub, Int.reduceMul, true_imp_iff, forall_const, Nat.mul_one, Int.reduceToNat, Nat.reducePow, Int.reducePow, Bool.true_and, Bool.false_and, Bool.and_false, hb', ASt.set_set]
  refine retC_by (Drop.refl _) (.refl _) ⟨rfl, k', ?_⟩
  exact hg'.obj (r' := .obj [.str s, .int .i64 (p + n : Nat), .int .i64 (c + signsN ((s.drop p).take n) : Nat), .sl k' ((ts ++ [Tok.mk kind text p c]).map tokAV)])

theorem pass_ok {σ0 σ : ASt} {b : Nat} {s : List UInt8} {p c : Nat} {ts : List Tok} (h : LX σ0 b s p c ts σ) (hB : Bnd s p c ts) (n : Nat) (hn : p + n ≤ s.length) :
    ACalls Tryd.prog 47 [.ptr b 0, .int .i64 (p + n : Nat)] σ fun v σ' => v = .tuple [] ∧ LX σ0 b s (p + n) (c + signsN ((s.drop p).take n)) ts σ' := by
  obtain ⟨k, hg, hb⟩ := h.cell
  obtain ⟨hs, hp, hc, ht⟩ := hB
  have e1 : (((p + n : Nat) : Int)).toNat = p + n := by omega
  have e2 := cut_eq (s := s) (p := p) (n := n)
  have hsl := signsN_le ((s.drop p).take n)
  rw [take_len hn] at hsl
  have e3 : ((p + n : Nat) : Int) ≤ s.length := by omega
  have e4 : (p : Int) ≤ ((p + n : Nat) : Int) := by omega
  obtain ⟨q, hq⟩ : ∃ q, p + n = q := ⟨_, rfl⟩
  rw [hq] at e1 e2 e3 e4 ⊢
  refine a47 (by simp) ?_
  simp (disch := first | assumption | omega | (simp only [List.length_append, List.length_cons, List.length_nil]; omega)) only [go_sem, reduceCtorEq, Nat.reduceEqDiff, Nat.reduceAdd, Nat.reduceSub, Nat.reduceMul, Nat.reduceLeDiff, Int.reduceLT, Int.reduceLE, Int.reduceEq, ↓reduceIte, Int.reduceNeg, Int.reduceAdd, Int.reduceSub, Int.reduceMul, true_imp_iff, forall_const, Nat.mul_one, Int.reduceToNat, Nat.reducePow, Int.reducePow, Bool.true_and, Bool.false_and, Bool.and_false, hb, e1, e2]
  refine (count_ok _ (by rw [take_len hn]; omega)).use ?_
  simp (disch := first | assumption | omega | (simp only [List.length_append, List.length_cons, List.length_nil]; omega)) only [go_sem, reduceCtorEq, Nat.reduceEqDiff, Nat.reduceAdd, Nat.reduceSub, Nat.reduceMul, Nat.reduceLeDiff, Int.reduceLT, Int.reduceLE, Int.reduceEq, ↓reduceIte, Int.reduceNeg, Int.reduceAdd, Int.reduceSub, Int.reduceMul, true_imp_iff, forall_const, Nat.mul_one, Int.reduceToNat, Nat.reducePow, Int.reducePow, Bool.true_and, Bool.false_and, Bool.and_false, hb, ASt.set_set]
  refine retC_by (Drop.refl _) (.refl _) ⟨rfl, k, ?_⟩
  exact hg.obj (r' := .obj [.str s, .int .i64 q, .int .i64 (c + signsN ((s.drop p).take n) : Nat), .sl k (ts.map tokAV)])
theorem dec_bd (l : List UInt8) : (decodeL l).1 ≤ 1114111 ∧ 1 ≤ (decodeL l).2 := ⟨decodeL_rune l, decodeL_width l⟩
/-- The sign here. -/
theorem sign_ok {σ0 σ : ASt} (hU : U8 σ) {b : Nat} {s : List UInt8} {p c : Nat} {ts : List Tok} (h : LX σ0 b s p c ts σ) (hB : Bnd s p c ts) (hp : p < s.length) :
    ACalls Tryd.prog 46 [.ptr b 0] σ fun v σ' => v = .tuple [.int .i32 (if decodeL (s.drop p) = (65533, 1) then 0 else (decodeL (s.drop p)).1), .int .i64 (if decodeL (s.drop p) = (65533, 1) then -1 else (decodeL (s.drop p)).2)] ∧ σ' = σ := by
  obtain ⟨k, hg, hb⟩ := h.cell
  obtain ⟨hs, _, hc, ht⟩ := hB
  have hne : s.drop p ≠ [] := by
    intro h
    have := congrArg List.length h
    simp at this
    omega
  have hd := dec_ok hU hne
  obtain ⟨⟨r, w⟩, hD⟩ : ∃ D, decodeL (s.drop p) = D := ⟨_, rfl⟩
  rw [hD] at hd ⊢
  dsimp only at hd ⊢
  have e1 : ¬ (s.length : Int) ≤ p := by omega
  refine a46 (by simp) ?_
  simp (disch := first | assumption | omega | (simp only [List.length_append, List.length_cons, List.length_nil]; omega)) only [go_sem, reduceCtorEq, Nat.reduceEqDiff, Nat.reduceAdd, Nat.reduceSub, Nat.reduceMul, Nat.reduceLeDiff, Int.reduceLT, Int.reduceLE, Int.reduceEq, ↓reduceIte, Int.reduceNeg, Int.reduceAdd, Int.reduceSub, Int.reduceMul, true_imp_iff, forall_const, Nat.mul_one, Int.reduceToNat, Nat.reducePow, Int.reducePow, Bool.true_and, Bool.false_and, Bool.and_false, hb, e1, List.take_length]
  refine hd.mono ?_
  rintro v σ' ⟨rfl, rfl⟩
  by_cases h1 : (r : Int) = 65533
  · by_cases h2 : (w : Int) = 1
    · have e : (r, w) = (65533, 1) := by rw [Prod.mk.injEq]; omega
      rw [if_pos e, if_pos e]
      simp (disch := first | assumption | omega | (simp only [List.length_append, List.length_cons, List.length_nil]; omega)) only [go_sem, reduceCtorEq, Nat.reduceEqDiff, Nat.reduceAdd, Nat.reduceSub, Nat.reduceMul, Nat.reduceLeDiff, Int.reduceLT, Int.reduceLE, Int.reduceEq, ↓reduceIte, Int.reduceNeg, Int.reduceAdd, Int.reduceSub, Int.reduceMul, true_imp_iff, forall_const, Nat.mul_one, Int.reduceToNat, Nat.reducePow, Int.reducePow, Bool.true_and, Bool.false_and, Bool.and_false, h1, h2]
      exact retC_by (Drop.refl _) (.refl _) ⟨rfl, rfl⟩
    · have e : ¬ (r, w) = (65533, 1) := by rw [Prod.mk.injEq]; omega
      rw [if_neg e, if_neg e]
      simp (disch := first | assumption | omega | (simp only [List.length_append, List.length_cons, List.length_nil]; omega)) only [go_sem, reduceCtorEq, Nat.reduceEqDiff, Nat.reduceAdd, Nat.reduceSub, Nat.reduceMul, Nat.reduceLeDiff, Int.reduceLT, Int.reduceLE, Int.reduceEq, ↓reduceIte, Int.reduceNeg, Int.reduceAdd, Int.reduceSub, Int.reduceMul, true_imp_iff, forall_const, Nat.mul_one, Int.reduceToNat, Nat.reducePow, Int.reducePow, Bool.true_and, Bool.false_and, Bool.and_false, h1, h2]
      exact retC_by (Drop.refl _) (.refl _) ⟨rfl, rfl⟩
  · have e : ¬ (r, w) = (65533, 1) := by rw [Prod.mk.injEq]; omega
    rw [if_neg e, if_neg e]
    simp (disch := first | assumption | omega | (simp only [List.length_append, List.length_cons, List.length_nil]; omega)) only [go_sem, reduceCtorEq, Nat.reduceEqDiff, Nat.reduceAdd, Nat.reduceSub, Nat.reduceMul, Nat.reduceLeDiff, Int.reduceLT, Int.reduceLE, Int.reduceEq, ↓reduceIte, Int.reduceNeg, Int.reduceAdd, Int.reduceSub, Int.reduceMul, true_imp_iff, forall_const, Nat.mul_one, Int.reduceToNat, Nat.reducePow, Int.reducePow, Bool.true_and, Bool.false_and, Bool.and_false, h1]
    exact retC_by (Drop.refl _) (.refl _) ⟨rfl, rfl⟩

/-- What is behind a step. -/
def After (σ0 : ASt) (b : Nat) (s : List UInt8) (p c : Nat) (ts : List Tok) : Step → AV → ASt → Prop
  | .bad k, v, σ' => v = .int .i64 10 ∧ ∃ c', LX σ0 b s (p + k) c' ts σ'
  | .blank, v, σ' => v = .int .i64 0 ∧ LX σ0 b s (p + 1) (c + 1) ts σ'
  | .tok kind t n, v, σ' => v = .int .i64 0 ∧ LX σ0 b s (p + n) (c + signsN ((s.drop p).take n)) (ts ++ [⟨kind, t, p, c⟩]) σ'

set_option maxHeartbeats 1000000 in
theorem words_ok {σ0 σ : ASt} {b : Nat} {s : List UInt8} {p c : Nat} {ts : List Tok} (h : LX σ0 b s p c ts σ) (hB : Bnd s p c ts) :
    ACalls Tryd.prog 49 [.ptr b 0] σ fun v σ' => After σ0 b s p c ts (wordsS (s.drop p)) v σ' := by
  obtain ⟨k, hg, hb⟩ := h.cell
  have hB' := hB
  obtain ⟨hs, hp, hc, ht⟩ := hB
  have hrl := runL_le wordB (s.drop p)
  obtain ⟨st, hst⟩ : ∃ st, wordsS (s.drop p) = st := ⟨_, rfl⟩
  rw [hst]
  unfold wordsS at hst
  dsimp only at hst
  obtain ⟨n, hn⟩ : ∃ n, runL wordB (s.drop p) = n := ⟨_, rfl⟩
  rw [hn] at hst hrl
  rw [List.length_drop] at hrl
  have hwl : ((s.drop p).take n).length = n := take_len (by omega)
  obtain ⟨w, hw⟩ : ∃ w, (s.drop p).take n = w := ⟨_, rfl⟩
  rw [hw] at hst hwl
  have i1 := isNum_ok w (by omega)
  have i2 := isRef_ok w (by omega)
  have i3 := isName_ok w (by omega)
  have i4 := tgreat_ok w (by omega)
  have P1 := fun kind text => put_ok h hB' kind text n (by omega)
  refine a49 (by simp) ?_
  obtain ⟨F, hF⟩ : ∃ F, F = ACode.wp Tryd.prog c49_29 := ⟨_, rfl⟩
  simp (disch := first | assumption | omega | (simp only [List.length_append, List.length_cons, List.length_nil]; omega)) only [go_sem, reduceCtorEq, Nat.reduceEqDiff, Nat.reduceAdd, Nat.reduceSub, Nat.reduceMul, Nat.reduceLeDiff, Int.reduceLT, Int.reduceLE, Int.reduceEq, ↓reduceIte, Int.reduceNeg, Int.reduceAdd, Int.reduceSub, Int.reduceMul, true_imp_iff, forall_const, Nat.mul_one, Int.reduceToNat, Nat.reducePow, Int.reducePow, Bool.true_and, Bool.false_and, Bool.and_false, hb, ←hF]
  refine wp_loop_on (fun (i : Nat) a σ' => i ≤ n ∧ i + runL wordB (s.drop (p + i)) = n ∧ (a 0 = .ptr b 0 ∧ a 3 = .int .i64 i) ∧ σ' = σ) (fun i => n - i) 0 ⟨Nat.zero_le _, by rw [Nat.add_zero, Nat.zero_add]; exact hn, ?_, rfl⟩ ?_
  · simp (disch := first | assumption | omega | (simp only [List.length_append, List.length_cons, List.length_nil]; omega)) only [go_sem, reduceCtorEq, Nat.reduceEqDiff, Nat.reduceAdd, Nat.reduceSub, Nat.reduceMul, Nat.reduceLeDiff, Int.reduceLT, Int.reduceLE, Int.reduceEq, ↓reduceIte, Int.reduceNeg, Int.reduceAdd, Int.reduceSub, Int.reduceMul, true_imp_iff, forall_const, Nat.mul_one, Int.reduceToNat, Nat.reducePow, Int.reducePow, Bool.true_and, Bool.false_and, Bool.and_false]
  rintro i a σ1 ⟨hi, hrun, hf, rfl⟩
  have fin : i = n → ∀ a : AFr, (a 0 = .ptr b 0 ∧ a 3 = .int .i64 i) → F (RetQ [.t 2] fun v σ' => After σ0 b s p c ts st v σ') a σ1 := by
    rintro rfl a hf
    have e1 : ((p : Int) + i).toNat = p + i := by omega
    have e2 : (s.take (p + i)).drop p = w := by rw [cut_eq, hw]
    rw [hF]
    simp (disch := first | assumption | omega | (simp only [List.length_append, List.length_cons, List.length_nil]; omega)) only [go_sem, reduceCtorEq, Nat.reduceEqDiff, Nat.reduceAdd, Nat.reduceSub, Nat.reduceMul, Nat.reduceLeDiff, Int.reduceLT, Int.reduceLE, Int.reduceEq, ↓reduceIte, Int.reduceNeg, Int.reduceAdd, Int.reduceSub, Int.reduceMul, true_imp_iff, forall_const, Nat.mul_one, Int.reduceToNat, Nat.reducePow, Int.reducePow, Bool.true_and, Bool.false_and, Bool.and_false, hf, hb, e1, e2]
    refine i1.use ?_
    cases hnum : numB w with
    | true =>
      rw [hnum, if_pos rfl] at hst
      subst hst
      simp (disch := first | assumption | omega | (simp only [List.length_append, List.length_cons, List.length_nil]; omega)) only [go_sem, reduceCtorEq, Nat.reduceEqDiff, Nat.reduceAdd, Nat.reduceSub, Nat.reduceMul, Nat.reduceLeDiff, Int.reduceLT, Int.reduceLE, Int.reduceEq, ↓reduceIte, Int.reduceNeg, Int.reduceAdd, Int.reduceSub, Int.reduceMul, true_imp_iff, forall_const, Nat.mul_one, Int.reduceToNat, Nat.reducePow, Int.reducePow, Bool.true_and, Bool.false_and, Bool.and_false, hf]
      refine (P1 1 w).mono ?_
      rintro v σ' ⟨rfl, hL⟩
      simp (disch := first | assumption | omega | (simp only [List.length_append, List.length_cons, List.length_nil]; omega)) only [go_sem, reduceCtorEq, Nat.reduceEqDiff, Nat.reduceAdd, Nat.reduceSub, Nat.reduceMul, Nat.reduceLeDiff, Int.reduceLT, Int.reduceLE, Int.reduceEq, ↓reduceIte, Int.reduceNeg, Int.reduceAdd, Int.reduceSub, Int.reduceMul, true_imp_iff, forall_const, Nat.mul_one, Int.reduceToNat, Nat.reducePow, Int.reducePow, Bool.true_and, Bool.false_and, Bool.and_false, hf]
      exact retC_by (Drop.refl _) (.refl _) ⟨rfl, hL⟩
    | false =>
    rw [hnum, if_neg (by simp)] at hst
    simp (disch := first | assumption | omega | (simp only [List.length_append, List.length_cons, List.length_nil]; omega)) only [go_sem, reduceCtorEq, Nat.reduceEqDiff, Nat.reduceAdd, Nat.reduceSub, Nat.reduceMul, Nat.reduceLeDiff, Int.reduceLT, Int.reduceLE, Int.reduceEq, ↓reduceIte, Int.reduceNeg, Int.reduceAdd, Int.reduceSub, Int.reduceMul, true_imp_iff, forall_const, Nat.mul_one, Int.reduceToNat, Nat.reducePow, Int.reducePow, Bool.true_and, Bool.false_and, Bool.and_false, hf]
    refine i2.use ?_
    cases href : refB w with
    | true =>
      rw [href, if_pos rfl] at hst
      subst hst
      simp (disch := first | assumption | omega | (simp only [List.length_append, List.length_cons, List.length_nil]; omega)) only [go_sem, reduceCtorEq, Nat.reduceEqDiff, Nat.reduceAdd, Nat.reduceSub, Nat.reduceMul, Nat.reduceLeDiff, Int.reduceLT, Int.reduceLE, Int.reduceEq, ↓reduceIte, Int.reduceNeg, Int.reduceAdd, Int.reduceSub, Int.reduceMul, true_imp_iff, forall_const, Nat.mul_one, Int.reduceToNat, Nat.reducePow, Int.reducePow, Bool.true_and, Bool.false_and, Bool.and_false, hf]
      refine i4.use ?_
      simp (disch := first | assumption | omega | (simp only [List.length_append, List.length_cons, List.length_nil]; omega)) only [go_sem, reduceCtorEq, Nat.reduceEqDiff, Nat.reduceAdd, Nat.reduceSub, Nat.reduceMul, Nat.reduceLeDiff, Int.reduceLT, Int.reduceLE, Int.reduceEq, ↓reduceIte, Int.reduceNeg, Int.reduceAdd, Int.reduceSub, Int.reduceMul, true_imp_iff, forall_const, Nat.mul_one, Int.reduceToNat, Nat.reducePow, Int.reducePow, Bool.true_and, Bool.false_and, Bool.and_false, hf]
      refine (P1 4 (greatP w)).mono ?_
      rintro v σ' ⟨rfl, hL⟩
      simp (disch := first | assumption | omega | (simp only [List.length_append, List.length_cons, List.length_nil]; omega)) only [go_sem, reduceCtorEq, Nat.reduceEqDiff, Nat.reduceAdd, Nat.reduceSub, Nat.reduceMul, Nat.reduceLeDiff, Int.reduceLT, Int.reduceLE, Int.reduceEq, ↓reduceIte, Int.reduceNeg, Int.reduceAdd, Int.reduceSub, Int.reduceMul, true_imp_iff, forall_const, Nat.mul_one, Int.reduceToNat, Nat.reducePow, Int.reducePow, Bool.true_and, Bool.false_and, Bool.and_false, hf]
      exact retC_by (Drop.refl _) (.refl _) ⟨rfl, hL⟩
    | false =>
    rw [href, if_neg (by simp)] at hst
    simp (disch := first | assumption | omega | (simp only [List.length_append, List.length_cons, List.length_nil]; omega)) only [go_sem, reduceCtorEq, Nat.reduceEqDiff, Nat.reduceAdd, Nat.reduceSub, Nat.reduceMul, Nat.reduceLeDiff, Int.reduceLT, Int.reduceLE, Int.reduceEq, ↓reduceIte, Int.reduceNeg, Int.reduceAdd, Int.reduceSub, Int.reduceMul, true_imp_iff, forall_const, Nat.mul_one, Int.reduceToNat, Nat.reducePow, Int.reducePow, Bool.true_and, Bool.false_and, Bool.and_false, hf]
    refine i3.use ?_
    cases hnam : nameB w with
    | true =>
      rw [hnam, if_pos rfl] at hst
      subst hst
      simp (disch := first | assumption | omega | (simp only [List.length_append, List.length_cons, List.length_nil]; omega)) only [go_sem, reduceCtorEq, Nat.reduceEqDiff, Nat.reduceAdd, Nat.reduceSub, Nat.reduceMul, Nat.reduceLeDiff, Int.reduceLT, Int.reduceLE, Int.reduceEq, ↓reduceIte, Int.reduceNeg, Int.reduceAdd, Int.reduceSub, Int.reduceMul, true_imp_iff, forall_const, Nat.mul_one, Int.reduceToNat, Nat.reducePow, Int.reducePow, Bool.true_and, Bool.false_and, Bool.and_false, hf]
      refine i4.use ?_
      simp (disch := first | assumption | omega | (simp only [List.length_append, List.length_cons, List.length_nil]; omega)) only [go_sem, reduceCtorEq, Nat.reduceEqDiff, Nat.reduceAdd, Nat.reduceSub, Nat.reduceMul, Nat.reduceLeDiff, Int.reduceLT, Int.reduceLE, Int.reduceEq, ↓reduceIte, Int.reduceNeg, Int.reduceAdd, Int.reduceSub, Int.reduceMul, true_imp_iff, forall_const, Nat.mul_one, Int.reduceToNat, Nat.reducePow, Int.reducePow, Bool.true_and, Bool.false_and, Bool.and_false, hf]
      refine (P1 3 (greatP w)).mono ?_
      rintro v σ' ⟨rfl, hL⟩
      simp (disch := first | assumption | omega | (simp only [List.length_append, List.length_cons, List.length_nil]; omega)) only [go_sem, reduceCtorEq, Nat.reduceEqDiff, Nat.reduceAdd, Nat.reduceSub, Nat.reduceMul, Nat.reduceLeDiff, Int.reduceLT, Int.reduceLE, Int.reduceEq, ↓reduceIte, Int.reduceNeg, Int.reduceAdd, Int.reduceSub, Int.reduceMul, true_imp_iff, forall_const, Nat.mul_one, Int.reduceToNat, Nat.reducePow, Int.reducePow, Bool.true_and, Bool.false_and, Bool.and_false, hf]
      exact retC_by (Drop.refl _) (.refl _) ⟨rfl, hL⟩
    | false =>
      rw [hnam, if_neg (by simp)] at hst
      subst hst
      simp (disch := first | assumption | omega | (simp only [List.length_append, List.length_cons, List.length_nil]; omega)) only [go_sem, reduceCtorEq, Nat.reduceEqDiff, Nat.reduceAdd, Nat.reduceSub, Nat.reduceMul, Nat.reduceLeDiff, Int.reduceLT, Int.reduceLE, Int.reduceEq, ↓reduceIte, Int.reduceNeg, Int.reduceAdd, Int.reduceSub, Int.reduceMul, true_imp_iff, forall_const, Nat.mul_one, Int.reduceToNat, Nat.reducePow, Int.reducePow, Bool.true_and, Bool.false_and, Bool.and_false, hf]
      exact retC_by (Drop.refl _) (.refl _) ⟨rfl, c, h⟩
  by_cases hlt : p + i < s.length
  · have hidx : s[p + i]? = some (s[p + i]'hlt) := List.getElem?_eq_getElem hlt
    obtain ⟨d, hd⟩ : ∃ d, s[p + i]'hlt = d := ⟨_, rfl⟩
    rw [hd] at hidx
    have e3 : ((p : Int) + i) < s.length := by omega
    have e4 : ((p : Int) + i).toNat = p + i := by omega
    rw [List.drop_eq_getElem_cons hlt, hd, runL] at hrun
    simp (disch := first | assumption | omega | (simp only [List.length_append, List.length_cons, List.length_nil]; omega)) only [go_sem, reduceCtorEq, Nat.reduceEqDiff, Nat.reduceAdd, Nat.reduceSub, Nat.reduceMul, Nat.reduceLeDiff, Int.reduceLT, Int.reduceLE, Int.reduceEq, ↓reduceIte, Int.reduceNeg, Int.reduceAdd, Int.reduceSub, Int.reduceMul, true_imp_iff, forall_const, Nat.mul_one, Int.reduceToNat, Nat.reducePow, Int.reducePow, Bool.true_and, Bool.false_and, Bool.and_false, hf, hb, e3, e4, hidx, ←hF]
    refine (word_ok d).use ?_
    cases hwd : wordB d with
    | true =>
      rw [hwd, if_pos rfl] at hrun
      simp (disch := first | assumption | omega | (simp only [List.length_append, List.length_cons, List.length_nil]; omega)) only [go_sem, reduceCtorEq, Nat.reduceEqDiff, Nat.reduceAdd, Nat.reduceSub, Nat.reduceMul, Nat.reduceLeDiff, Int.reduceLT, Int.reduceLE, Int.reduceEq, ↓reduceIte, Int.reduceNeg, Int.reduceAdd, Int.reduceSub, Int.reduceMul, true_imp_iff, forall_const, Nat.mul_one, Int.reduceToNat, Nat.reducePow, Int.reducePow, Bool.true_and, Bool.false_and, Bool.and_false, hf, ←hF]
      exact ⟨i + 1, by omega, by omega, by rw [← Nat.add_assoc]; omega, rfl⟩
    | false =>
      rw [hwd, if_neg (by simp)] at hrun
      simp (disch := first | assumption | omega | (simp only [List.length_append, List.length_cons, List.length_nil]; omega)) only [go_sem, reduceCtorEq, Nat.reduceEqDiff, Nat.reduceAdd, Nat.reduceSub, Nat.reduceMul, Nat.reduceLeDiff, Int.reduceLT, Int.reduceLE, Int.reduceEq, ↓reduceIte, Int.reduceNeg, Int.reduceAdd, Int.reduceSub, Int.reduceMul, true_imp_iff, forall_const, Nat.mul_one, Int.reduceToNat, Nat.reducePow, Int.reducePow, Bool.true_and, Bool.false_and, Bool.and_false, hf, ←hF]
      refine fin (by omega) _ ?_
      simp (disch := first | assumption | omega | (simp only [List.length_append, List.length_cons, List.length_nil]; omega)) only [go_sem, reduceCtorEq, Nat.reduceEqDiff, Nat.reduceAdd, Nat.reduceSub, Nat.reduceMul, Nat.reduceLeDiff, Int.reduceLT, Int.reduceLE, Int.reduceEq, ↓reduceIte, Int.reduceNeg, Int.reduceAdd, Int.reduceSub, Int.reduceMul, true_imp_iff, forall_const, Nat.mul_one, Int.reduceToNat, Nat.reducePow, Int.reducePow, Bool.true_and, Bool.false_and, Bool.and_false, hf]
  · have e : s.drop (p + i) = [] := List.drop_eq_nil_of_le (by omega)
    rw [e, runL] at hrun
    have e3 : ¬ ((p : Int) + i) < s.length := by omega
    simp (disch := first | assumption | omega | (simp only [List.length_append, List.length_cons, List.length_nil]; omega)) only [go_sem, reduceCtorEq, Nat.reduceEqDiff, Nat.reduceAdd, Nat.reduceSub, Nat.reduceMul, Nat.reduceLeDiff, Int.reduceLT, Int.reduceLE, Int.reduceEq, ↓reduceIte, Int.reduceNeg, Int.reduceAdd, Int.reduceSub, Int.reduceMul, true_imp_iff, forall_const, Nat.mul_one, Int.reduceToNat, Nat.reducePow, Int.reducePow, Bool.true_and, Bool.false_and, Bool.and_false, hf, hb, e3, ←hF]
    refine fin (by omega) _ ?_
    simp (disch := first | assumption | omega | (simp only [List.length_append, List.length_cons, List.length_nil]; omega)) only [go_sem, reduceCtorEq, Nat.reduceEqDiff, Nat.reduceAdd, Nat.reduceSub, Nat.reduceMul, Nat.reduceLeDiff, Int.reduceLT, Int.reduceLE, Int.reduceEq, ↓reduceIte, Int.reduceNeg, Int.reduceAdd, Int.reduceSub, Int.reduceMul, true_imp_iff, forall_const, Nat.mul_one, Int.reduceToNat, Nat.reducePow, Int.reducePow, Bool.true_and, Bool.false_and, Bool.and_false, hf]
end Go.A
namespace Go.A
open Go.Proofs Go.Lib
set_option maxRecDepth 100000
set_option linter.unusedSimpArgs false
set_option linter.unusedVariables false

theorem errTexts_len : ∀ e ∈ errTexts, 1 ≤ e.length ∧ e.length ≤ 7 := by decide
set_option maxHeartbeats 1000000 in
theorem failure_ok {σ0 σ : ASt} {b : Nat} {s : List UInt8} {p c : Nat} {ts : List Tok} (h : LX σ0 b s p c ts σ) (hB : Bnd s p c ts) :
    ACalls Tryd.prog 51 [.ptr b 0] σ fun v σ' => After σ0 b s p c ts (failS (s.drop p) errTexts) v σ' := by
  obtain ⟨k, hg, hb⟩ := h.cell
  have hB' := hB
  obtain ⟨hs, hp, hc, ht⟩ := hB
  obtain ⟨st, hst⟩ : ∃ st, failS (s.drop p) errTexts = st := ⟨_, rfl⟩
  rw [hst]
  have hE := errTexts_len
  have herr := errors_ok
  obtain ⟨E, hE2⟩ : ∃ E, errTexts = E := ⟨_, rfl⟩
  have hEl : E.length = 7 := by rw [← hE2]; rfl
  rw [hE2] at hst hE herr
  clear hE2
  refine a51 (by simp) ?_
  simp (disch := first | assumption | omega | (simp only [List.length_append, List.length_cons, List.length_nil]; omega)) only [go_sem, reduceCtorEq, Nat.reduceEqDiff, Nat.reduceAdd, Nat.reduceSub, Nat.reduceMul, Nat.reduceLeDiff, Int.reduceLT, Int.reduceLE, Int.reduceEq, ↓reduceIte, Int.reduceNeg, Int.reduceAdd, Int.reduceSub, Int.reduceMul, true_imp_iff, forall_const, Nat.mul_one, Int.reduceToNat, Nat.reducePow, Int.reducePow, Bool.true_and, Bool.false_and, Bool.and_false]
  refine herr.use ?_
  simp (disch := first | assumption | omega | (simp only [List.length_append, List.length_cons, List.length_nil]; omega)) only [go_sem, reduceCtorEq, Nat.reduceEqDiff, Nat.reduceAdd, Nat.reduceSub, Nat.reduceMul, Nat.reduceLeDiff, Int.reduceLT, Int.reduceLE, Int.reduceEq, ↓reduceIte, Int.reduceNeg, Int.reduceAdd, Int.reduceSub, Int.reduceMul, true_imp_iff, forall_const, Nat.mul_one, Int.reduceToNat, Nat.reducePow, Int.reducePow, Bool.true_and, Bool.false_and, Bool.and_false, hEl]
  refine wp_loop_on (fun (i : Nat) a σ' => i ≤ 7 ∧ failS (s.drop p) (E.drop i) = st ∧ (a 0 = .ptr b 0 ∧ a 6 = .sl .full (E.map AV.str) ∧ a 7 = .int .i64 7 ∧ a 8 = .int .i64 i) ∧ σ' = σ) (fun i => 7 - i) 0 ⟨Nat.zero_le _, hst, ?_, rfl⟩ ?_
  · simp (disch := first | assumption | omega | (simp only [List.length_append, List.length_cons, List.length_nil]; omega)) only [go_sem, reduceCtorEq, Nat.reduceEqDiff, Nat.reduceAdd, Nat.reduceSub, Nat.reduceMul, Nat.reduceLeDiff, Int.reduceLT, Int.reduceLE, Int.reduceEq, ↓reduceIte, Int.reduceNeg, Int.reduceAdd, Int.reduceSub, Int.reduceMul, true_imp_iff, forall_const, Nat.mul_one, Int.reduceToNat, Nat.reducePow, Int.reducePow, Bool.true_and, Bool.false_and, Bool.and_false]
  rintro i a σ1 ⟨hi, hst, hf, rfl⟩
  by_cases hlt : i < 7
  · have hlt' : (i : Int) < 7 := by omega
    have hidx0 : E[i]? = some (E[i]'(by omega)) := List.getElem?_eq_getElem (by omega)
    obtain ⟨h1, h2⟩ := hE _ (List.getElem_mem (by omega : i < E.length))
    rw [List.drop_eq_getElem_cons (by omega : i < E.length), failS] at hst
    obtain ⟨e, he⟩ : ∃ e, E[i]'(by omega) = e := ⟨_, rfl⟩
    rw [he] at hidx0 hst h1 h2
    have hidx : (E.map AV.str)[i]? = some (.str e) := by rw [List.getElem?_map, hidx0]; rfl
    rw [List.length_drop] at hst
    by_cases hfit : p + e.length ≤ s.length
    · have e1 : (p : Int) + e.length ≤ s.length := by omega
      have e2 : ((p : Int) + e.length).toNat = p + e.length := by omega
      have e3 := cut_eq (s := s) (p := p) (n := e.length)
      have hgr := tgreat_ok ((s.drop p).take e.length) (by rw [take_len hfit]; omega)
      simp (disch := first | assumption | omega | (simp only [List.length_append, List.length_cons, List.length_nil]; omega)) only [go_sem, reduceCtorEq, Nat.reduceEqDiff, Nat.reduceAdd, Nat.reduceSub, Nat.reduceMul, Nat.reduceLeDiff, Int.reduceLT, Int.reduceLE, Int.reduceEq, ↓reduceIte, Int.reduceNeg, Int.reduceAdd, Int.reduceSub, Int.reduceMul, true_imp_iff, forall_const, Nat.mul_one, Int.reduceToNat, Nat.reducePow, Int.reducePow, Bool.true_and, Bool.false_and, Bool.and_false, hf, hb, hlt', hidx, e1, e2, e3]
      refine hgr.use ?_
      by_cases heq : greatP ((s.drop p).take e.length) = e
      · rw [if_pos ⟨by omega, heq⟩] at hst
        subst hst
        simp (disch := first | assumption | omega | (simp only [List.length_append, List.length_cons, List.length_nil]; omega)) only [go_sem, reduceCtorEq, Nat.reduceEqDiff, Nat.reduceAdd, Nat.reduceSub, Nat.reduceMul, Nat.reduceLeDiff, Int.reduceLT, Int.reduceLE, Int.reduceEq, ↓reduceIte, Int.reduceNeg, Int.reduceAdd, Int.reduceSub, Int.reduceMul, true_imp_iff, forall_const, Nat.mul_one, Int.reduceToNat, Nat.reducePow, Int.reducePow, Bool.true_and, Bool.false_and, Bool.and_false, hf, heq]
        refine (put_ok h hB' 5 e e.length hfit).mono ?_
        rintro v σ' ⟨rfl, hL⟩
        simp (disch := first | assumption | omega | (simp only [List.length_append, List.length_cons, List.length_nil]; omega)) only [go_sem, reduceCtorEq, Nat.reduceEqDiff, Nat.reduceAdd, Nat.reduceSub, Nat.reduceMul, Nat.reduceLeDiff, Int.reduceLT, Int.reduceLE, Int.reduceEq, ↓reduceIte, Int.reduceNeg, Int.reduceAdd, Int.reduceSub, Int.reduceMul, true_imp_iff, forall_const, Nat.mul_one, Int.reduceToNat, Nat.reducePow, Int.reducePow, Bool.true_and, Bool.false_and, Bool.and_false, hf]
        exact retC_by (Drop.refl _) (.refl _) ⟨rfl, hL⟩
      · rw [if_neg (by rintro ⟨_, h⟩; exact heq h)] at hst
        simp (disch := first | assumption | omega | (simp only [List.length_append, List.length_cons, List.length_nil]; omega)) only [go_sem, reduceCtorEq, Nat.reduceEqDiff, Nat.reduceAdd, Nat.reduceSub, Nat.reduceMul, Nat.reduceLeDiff, Int.reduceLT, Int.reduceLE, Int.reduceEq, ↓reduceIte, Int.reduceNeg, Int.reduceAdd, Int.reduceSub, Int.reduceMul, true_imp_iff, forall_const, Nat.mul_one, Int.reduceToNat, Nat.reducePow, Int.reducePow, Bool.true_and, Bool.false_and, Bool.and_false, hf, heq]
        refine ⟨i + 1, by omega, by omega, hst, rfl⟩
    · have e1 : ¬ (p : Int) + e.length ≤ s.length := by omega
      rw [if_neg (by rintro ⟨h, _⟩; omega)] at hst
      simp (disch := first | assumption | omega | (simp only [List.length_append, List.length_cons, List.length_nil]; omega)) only [go_sem, reduceCtorEq, Nat.reduceEqDiff, Nat.reduceAdd, Nat.reduceSub, Nat.reduceMul, Nat.reduceLeDiff, Int.reduceLT, Int.reduceLE, Int.reduceEq, ↓reduceIte, Int.reduceNeg, Int.reduceAdd, Int.reduceSub, Int.reduceMul, true_imp_iff, forall_const, Nat.mul_one, Int.reduceToNat, Nat.reducePow, Int.reducePow, Bool.true_and, Bool.false_and, Bool.and_false, hf, hb, hlt', hidx, e1]
      refine ⟨i + 1, by omega, by omega, hst, rfl⟩
  · have hlt' : ¬ (i : Int) < 7 := by omega
    rw [List.drop_eq_nil_of_le (show E.length ≤ i by omega), failS] at hst
    subst hst
    simp (disch := first | assumption | omega | (simp only [List.length_append, List.length_cons, List.length_nil]; omega)) only [go_sem, reduceCtorEq, Nat.reduceEqDiff, Nat.reduceAdd, Nat.reduceSub, Nat.reduceMul, Nat.reduceLeDiff, Int.reduceLT, Int.reduceLE, Int.reduceEq, ↓reduceIte, Int.reduceNeg, Int.reduceAdd, Int.reduceSub, Int.reduceMul, true_imp_iff, forall_const, Nat.mul_one, Int.reduceToNat, Nat.reducePow, Int.reducePow, Bool.true_and, Bool.false_and, Bool.and_false, hf, hlt']
    exact retC_by (Drop.refl _) (.refl _) ⟨rfl, c, h⟩

theorem mem_index (c : UInt8) : ∀ l : List UInt8, (-1 ≤ indexByte l c) ∧ (0 ≤ indexByte l c ↔ c ∈ l)
  | [] => by simp [indexByte]
  | x :: l => by
    obtain ⟨h1, h2⟩ := mem_index c l
    unfold indexByte
    by_cases hx : x = c
    · subst hx; simp
    · have hx' : ¬ (x == c) = true := by simpa using hx
      rw [if_neg hx']
      by_cases hm : indexByte l c = -1
      · rw [if_pos (by simpa using hm)]
        refine ⟨by omega, ?_⟩
        simp only [List.mem_cons, ← h2, hm]
        constructor
        · intro h; omega
        · rintro (h | h)
          · exact absurd h.symm hx
          · omega
      · rw [if_neg (by simpa using hm)]
        refine ⟨by omega, ?_⟩
        simp only [List.mem_cons, ← h2]
        constructor
        · intro h; right; omega
        · rintro (h | h)
          · exact absurd h.symm hx
          · omega
theorem twos_len : ∀ e ∈ twos, e.length = 2 := by decide
set_option maxHeartbeats 1000000 in
theorem op_ok {σ0 σ : ASt} {b : Nat} {s : List UInt8} {p c : Nat} {ts : List Tok} (h : LX σ0 b s p c ts σ) (hB : Bnd s p c ts) (hp1 : p < s.length) (r : Int) (n : Nat) (hn : p + n ≤ s.length) :
    ACalls Tryd.prog 52 [.ptr b 0, .int .i32 r, .int .i64 n] σ fun v σ' => After σ0 b s p c ts (opS r n (s.drop p)) v σ' := by
  obtain ⟨k, hg, hb⟩ := h.cell
  have hB' := hB
  obtain ⟨hs, hp, hc, ht⟩ := hB
  obtain ⟨st, hst⟩ : ∃ st, opS r n (s.drop p) = st := ⟨_, rfl⟩
  rw [hst]
  unfold opS at hst
  have hal := alike_ok r
  obtain ⟨A, hA⟩ : ∃ A, alikeP r = A := ⟨_, rfl⟩
  rw [hA] at hst hal
  obtain ⟨F, hF⟩ : ∃ F, F = ACode.wp Tryd.prog c52_39 := ⟨_, rfl⟩
  refine a52 (by simp) ?_
  simp (disch := first | assumption | omega | (simp only [List.length_append, List.length_cons, List.length_nil]; omega)) only [go_sem, reduceCtorEq, Nat.reduceEqDiff, Nat.reduceAdd, Nat.reduceSub, Nat.reduceMul, Nat.reduceLeDiff, Int.reduceLT, Int.reduceLE, Int.reduceEq, ↓reduceIte, Int.reduceNeg, Int.reduceAdd, Int.reduceSub, Int.reduceMul, true_imp_iff, forall_const, Nat.mul_one, Int.reduceToNat, Nat.reducePow, Int.reducePow, Bool.true_and, Bool.false_and, Bool.and_false, ←hF]
  refine hal.use ?_
  by_cases hA0 : A = []
  · subst hA0
    rw [if_neg (by simp)] at hst
    have hE := twos_len
    obtain ⟨E, hE2⟩ : ∃ E, twos = E := ⟨_, rfl⟩
    have hEl : E.length = 3 := by rw [← hE2]; rfl
    have hEm : E.map AV.str = [AV.str [60, 61], AV.str [62, 61], AV.str [60, 62]] := by rw [← hE2]; rfl
    rw [hE2] at hst hE
    simp (disch := first | assumption | omega | (simp only [List.length_append, List.length_cons, List.length_nil]; omega)) only [go_sem, reduceCtorEq, Nat.reduceEqDiff, Nat.reduceAdd, Nat.reduceSub, Nat.reduceMul, Nat.reduceLeDiff, Int.reduceLT, Int.reduceLE, Int.reduceEq, ↓reduceIte, Int.reduceNeg, Int.reduceAdd, Int.reduceSub, Int.reduceMul, true_imp_iff, forall_const, Nat.mul_one, Int.reduceToNat, Nat.reducePow, Int.reducePow, Bool.true_and, Bool.false_and, Bool.and_false, ←hF]
    refine wp_loop_on (fun (i : Nat) a σ' => i ≤ 3 ∧ (match twoS (s.drop p) (E.drop i) with | some e => Step.tok 6 e 2 | none => if ((s.drop p).headD 0) ∈ opChars then .tok 6 ((s.drop p).take 1) 1 else .bad 0) = st ∧ (a 0 = .ptr b 0 ∧ a 18 = .sl .full (E.map AV.str) ∧ a 19 = .int .i64 3 ∧ a 20 = .int .i64 i) ∧ σ' = σ) (fun i => 3 - i) 0 ⟨Nat.zero_le _, hst, ?_, rfl⟩ ?_
    · simp (disch := first | assumption | omega | (simp only [List.length_append, List.length_cons, List.length_nil]; omega)) only [go_sem, reduceCtorEq, Nat.reduceEqDiff, Nat.reduceAdd, Nat.reduceSub, Nat.reduceMul, Nat.reduceLeDiff, Int.reduceLT, Int.reduceLE, Int.reduceEq, ↓reduceIte, Int.reduceNeg, Int.reduceAdd, Int.reduceSub, Int.reduceMul, true_imp_iff, forall_const, Nat.mul_one, Int.reduceToNat, Nat.reducePow, Int.reducePow, Bool.true_and, Bool.false_and, Bool.and_false, hEm]
    rintro i a σ1 ⟨hi, hst, hf, rfl⟩
    by_cases hlt : i < 3
    · have hlt' : (i : Int) < 3 := by omega
      have hidx0 : E[i]? = some (E[i]'(by omega)) := List.getElem?_eq_getElem (by omega)
      have h2 := hE _ (List.getElem_mem (by omega : i < E.length))
      rw [List.drop_eq_getElem_cons (by omega : i < E.length), twoS] at hst
      obtain ⟨e, he⟩ : ∃ e, E[i]'(by omega) = e := ⟨_, rfl⟩
      rw [he] at hidx0 hst h2
      have hidx : (E.map AV.str)[i]? = some (.str e) := by rw [List.getElem?_map, hidx0]; rfl
      have hpr := prefix_ok (s.drop p) e (by simp; omega) (by omega)
      simp (disch := first | assumption | omega | (simp only [List.length_append, List.length_cons, List.length_nil]; omega)) only [go_sem, reduceCtorEq, Nat.reduceEqDiff, Nat.reduceAdd, Nat.reduceSub, Nat.reduceMul, Nat.reduceLeDiff, Int.reduceLT, Int.reduceLE, Int.reduceEq, ↓reduceIte, Int.reduceNeg, Int.reduceAdd, Int.reduceSub, Int.reduceMul, true_imp_iff, forall_const, Nat.mul_one, Int.reduceToNat, Nat.reducePow, Int.reducePow, Bool.true_and, Bool.false_and, Bool.and_false, hf, hb, hlt', hidx, List.take_length, ←hF]
      refine hpr.use ?_
      cases hpe : e.isPrefixOf (s.drop p) with
      | true =>
        rw [hpe, if_pos rfl] at hst
        dsimp only at hst
        subst hst
        have hle : 2 ≤ (s.drop p).length := by
          have := (List.isPrefixOf_iff_prefix.1 hpe).length_le
          omega
        rw [List.length_drop] at hle
        simp (disch := first | assumption | omega | (simp only [List.length_append, List.length_cons, List.length_nil]; omega)) only [go_sem, reduceCtorEq, Nat.reduceEqDiff, Nat.reduceAdd, Nat.reduceSub, Nat.reduceMul, Nat.reduceLeDiff, Int.reduceLT, Int.reduceLE, Int.reduceEq, ↓reduceIte, Int.reduceNeg, Int.reduceAdd, Int.reduceSub, Int.reduceMul, true_imp_iff, forall_const, Nat.mul_one, Int.reduceToNat, Nat.reducePow, Int.reducePow, Bool.true_and, Bool.false_and, Bool.and_false, hf, ←hF]
        refine (put_ok h hB' 6 e 2 (by omega)).mono ?_
        rintro v σ' ⟨rfl, hL⟩
        simp (disch := first | assumption | omega | (simp only [List.length_append, List.length_cons, List.length_nil]; omega)) only [go_sem, reduceCtorEq, Nat.reduceEqDiff, Nat.reduceAdd, Nat.reduceSub, Nat.reduceMul, Nat.reduceLeDiff, Int.reduceLT, Int.reduceLE, Int.reduceEq, ↓reduceIte, Int.reduceNeg, Int.reduceAdd, Int.reduceSub, Int.reduceMul, true_imp_iff, forall_const, Nat.mul_one, Int.reduceToNat, Nat.reducePow, Int.reducePow, Bool.true_and, Bool.false_and, Bool.and_false, hf, ←hF]
        exact retC_by (Drop.refl _) (.refl _) ⟨rfl, hL⟩
      | false =>
        rw [hpe, if_neg (by simp)] at hst
        simp (disch := first | assumption | omega | (simp only [List.length_append, List.length_cons, List.length_nil]; omega)) only [go_sem, reduceCtorEq, Nat.reduceEqDiff, Nat.reduceAdd, Nat.reduceSub, Nat.reduceMul, Nat.reduceLeDiff, Int.reduceLT, Int.reduceLE, Int.reduceEq, ↓reduceIte, Int.reduceNeg, Int.reduceAdd, Int.reduceSub, Int.reduceMul, true_imp_iff, forall_const, Nat.mul_one, Int.reduceToNat, Nat.reducePow, Int.reducePow, Bool.true_and, Bool.false_and, Bool.and_false, hf, ←hF]
        exact ⟨i + 1, by omega, by omega, hst, rfl⟩
    · have hlt' : ¬ (i : Int) < 3 := by omega
      rw [List.drop_eq_nil_of_le (show E.length ≤ i by omega), twoS] at hst
      dsimp only at hst
      have hidx : s[p]? = some (s[p]'hp1) := List.getElem?_eq_getElem hp1
      obtain ⟨d, hd⟩ : ∃ d, s[p]'hp1 = d := ⟨_, rfl⟩
      rw [hd] at hidx
      have hdr : s.drop p = d :: s.drop (p + 1) := by rw [List.drop_eq_getElem_cons hp1, hd]
      rw [hdr] at hst
      have hst : (if d ∈ opChars then Step.tok 6 [d] 1 else Step.bad 0) = st := hst
      have hcon := contains_ok opChars d
      obtain ⟨_, hmi⟩ := mem_index d opChars
      have hbb : UInt8.ofNat d.toNat = d := by simp
      simp (disch := first | assumption | omega | (simp only [List.length_append, List.length_cons, List.length_nil]; omega)) only [go_sem, reduceCtorEq, Nat.reduceEqDiff, Nat.reduceAdd, Nat.reduceSub, Nat.reduceMul, Nat.reduceLeDiff, Int.reduceLT, Int.reduceLE, Int.reduceEq, ↓reduceIte, Int.reduceNeg, Int.reduceAdd, Int.reduceSub, Int.reduceMul, true_imp_iff, forall_const, Nat.mul_one, Int.reduceToNat, Nat.reducePow, Int.reducePow, Bool.true_and, Bool.false_and, Bool.and_false, hf, hlt', ←hF]
      rw [hF]
      simp (disch := first | assumption | omega | (simp only [List.length_append, List.length_cons, List.length_nil]; omega)) only [go_sem, reduceCtorEq, Nat.reduceEqDiff, Nat.reduceAdd, Nat.reduceSub, Nat.reduceMul, Nat.reduceLeDiff, Int.reduceLT, Int.reduceLE, Int.reduceEq, ↓reduceIte, Int.reduceNeg, Int.reduceAdd, Int.reduceSub, Int.reduceMul, true_imp_iff, forall_const, Nat.mul_one, Int.reduceToNat, Nat.reducePow, Int.reducePow, Bool.true_and, Bool.false_and, Bool.and_false, hf, hb, hidx, hbb]
      refine hcon.use ?_
      by_cases hm : d ∈ opChars
      · rw [if_pos hm] at hst
        subst hst
        have e0 := hmi.2 hm
        have e1 : ((p : Int) + 1).toNat = p + 1 := by omega
        have e2 : (s.take (p + 1)).drop p = [d] := by rw [cut_eq (n := 1), hdr]; rfl
        simp (disch := first | assumption | omega | (simp only [List.length_append, List.length_cons, List.length_nil]; omega)) only [go_sem, reduceCtorEq, Nat.reduceEqDiff, Nat.reduceAdd, Nat.reduceSub, Nat.reduceMul, Nat.reduceLeDiff, Int.reduceLT, Int.reduceLE, Int.reduceEq, ↓reduceIte, Int.reduceNeg, Int.reduceAdd, Int.reduceSub, Int.reduceMul, true_imp_iff, forall_const, Nat.mul_one, Int.reduceToNat, Nat.reducePow, Int.reducePow, Bool.true_and, Bool.false_and, Bool.and_false, hf, hb, e0, e1, e2]
        refine (put_ok h hB' 6 [d] 1 (by omega)).mono ?_
        rintro v σ' ⟨rfl, hL⟩
        simp (disch := first | assumption | omega | (simp only [List.length_append, List.length_cons, List.length_nil]; omega)) only [go_sem, reduceCtorEq, Nat.reduceEqDiff, Nat.reduceAdd, Nat.reduceSub, Nat.reduceMul, Nat.reduceLeDiff, Int.reduceLT, Int.reduceLE, Int.reduceEq, ↓reduceIte, Int.reduceNeg, Int.reduceAdd, Int.reduceSub, Int.reduceMul, true_imp_iff, forall_const, Nat.mul_one, Int.reduceToNat, Nat.reducePow, Int.reducePow, Bool.true_and, Bool.false_and, Bool.and_false, hf]
        exact retC_by (Drop.refl _) (.refl _) ⟨rfl, hL⟩
      · rw [if_neg hm] at hst
        subst hst
        have e0 : ¬ 0 ≤ indexByte opChars d := fun h => hm (hmi.1 h)
        simp (disch := first | assumption | omega | (simp only [List.length_append, List.length_cons, List.length_nil]; omega)) only [go_sem, reduceCtorEq, Nat.reduceEqDiff, Nat.reduceAdd, Nat.reduceSub, Nat.reduceMul, Nat.reduceLeDiff, Int.reduceLT, Int.reduceLE, Int.reduceEq, ↓reduceIte, Int.reduceNeg, Int.reduceAdd, Int.reduceSub, Int.reduceMul, true_imp_iff, forall_const, Nat.mul_one, Int.reduceToNat, Nat.reducePow, Int.reducePow, Bool.true_and, Bool.false_and, Bool.and_false, hf, hb, e0]
        exact retC_by (Drop.refl _) (.refl _) ⟨rfl, c, h⟩
  · rw [if_pos hA0] at hst
    subst hst
    simp (disch := first | assumption | omega | (simp only [List.length_append, List.length_cons, List.length_nil]; omega)) only [go_sem, reduceCtorEq, Nat.reduceEqDiff, Nat.reduceAdd, Nat.reduceSub, Nat.reduceMul, Nat.reduceLeDiff, Int.reduceLT, Int.reduceLE, Int.reduceEq, ↓reduceIte, Int.reduceNeg, Int.reduceAdd, Int.reduceSub, Int.reduceMul, true_imp_iff, forall_const, Nat.mul_one, Int.reduceToNat, Nat.reducePow, Int.reducePow, Bool.true_and, Bool.false_and, Bool.and_false, hA0, ←hF]
    refine (put_ok h hB' 6 A n hn).mono ?_
    rintro v σ' ⟨rfl, hL⟩
    simp (disch := first | assumption | omega | (simp only [List.length_append, List.length_cons, List.length_nil]; omega)) only [go_sem, reduceCtorEq, Nat.reduceEqDiff, Nat.reduceAdd, Nat.reduceSub, Nat.reduceMul, Nat.reduceLeDiff, Int.reduceLT, Int.reduceLE, Int.reduceEq, ↓reduceIte, Int.reduceNeg, Int.reduceAdd, Int.reduceSub, Int.reduceMul, true_imp_iff, forall_const, Nat.mul_one, Int.reduceToNat, Nat.reducePow, Int.reducePow, Bool.true_and, Bool.false_and, Bool.and_false, ←hF]
    exact retC_by (Drop.refl _) (.refl _) ⟨rfl, hL⟩
end Go.A
namespace Go.A
open Go.Proofs Go.Lib
set_option maxRecDepth 100000
set_option linter.unusedSimpArgs false
set_option linter.unusedVariables false

theorem dec_len (l : List UInt8) (hv : decodeL l ≠ (65533, 1)) : runeLen ((decodeL l).1 : Int) = ((decodeL l).2 : Int) := by
  rw [decodeL_N] at hv ⊢
  have k0 := (l.getD 0 0).toNat_lt
  have k1 := (l.getD 1 0).toNat_lt
  have k2 := (l.getD 2 0).toNat_lt
  have k3 := (l.getD 3 0).toNat_lt
  unfold runeLen
  rcases decodeN_shape l.length (l.getD 0 0).toNat (l.getD 1 0).toNat (l.getD 2 0).toNat (l.getD 3 0).toNat with ⟨c, e⟩ | ⟨c1, c2, c3, cv, e⟩ | ⟨c1, c2, c3, c4, cv, cs, e⟩ | ⟨c1, c2, c3, c4, c5, cv, cw, e⟩ | e
  all_goals (rw [e] at hv ⊢; dsimp only at hv ⊢)
  all_goals (try (exact absurd rfl hv))
  all_goals (repeat' split)
  all_goals omega
theorem dec_rune (l : List UInt8) : RuneOk ((decodeL l).1 : Int) := by
  rw [decodeL_N]
  have k0 := (l.getD 0 0).toNat_lt
  have k1 := (l.getD 1 0).toNat_lt
  have k2 := (l.getD 2 0).toNat_lt
  have k3 := (l.getD 3 0).toNat_lt
  unfold RuneOk
  rcases decodeN_shape l.length (l.getD 0 0).toNat (l.getD 1 0).toNat (l.getD 2 0).toNat (l.getD 3 0).toNat with ⟨c, e⟩ | ⟨c1, c2, c3, cv, e⟩ | ⟨c1, c2, c3, c4, cv, cs, e⟩ | ⟨c1, c2, c3, c4, c5, cv, cw, e⟩ | e
  all_goals (rw [e]; dsimp only; omega)
/-- An ASCII sign is its byte. -/
theorem dec_ascii {l : List UInt8} (h0 : l ≠ []) (h : (decodeL l).1 < 128) : ∃ c t, l = c :: t ∧ c.toNat = (decodeL l).1 ∧ (decodeL l).2 = 1 := by
  cases l with
  | nil => exact absurd rfl h0
  | cons c t =>
    refine ⟨c, t, rfl, ?_⟩
    rw [decodeL_N] at h ⊢
    have k0 := ((c :: t).getD 0 0).toNat_lt
    have hc : ((c :: t).getD 0 0) = c := rfl
    rcases decodeN_shape (c :: t).length ((c :: t).getD 0 0).toNat ((c :: t).getD 1 0).toNat ((c :: t).getD 2 0).toNat ((c :: t).getD 3 0).toNat with ⟨c, e⟩ | ⟨c1, c2, c3, cv, e⟩ | ⟨c1, c2, c3, c4, cv, cs, e⟩ | ⟨c1, c2, c3, c4, c5, cv, cw, e⟩ | e
    · rw [e]; exact ⟨rfl, rfl⟩
    all_goals (rw [e] at h; dsimp only at h; omega)
theorem dec_one (c : UInt8) (t : List UInt8) (h : c.toNat < 128) : decodeL (c :: t) = (c.toNat, 1) := by
  rw [decodeL_N]
  unfold decodeN
  rw [if_pos (show ((c :: t).getD 0 0).toNat < 128 from h)]
  rfl
theorem U8.over {τ σ : ASt} (h : U8 τ) (ho : Over τ σ) : U8 σ := ⟨ho.at h.1, ho.at h.2⟩
theorem quotedF_nil : ∀ k p acc, quotedF k [] p acc = .bad 0
  | 0, _, _ => rfl
  | _ + 1, _, _ => by unfold quotedF; rw [if_pos rfl]
theorem enc_le (r : Int) : (encodeRune r).length ≤ 4 := enc_len r

set_option maxHeartbeats 2000000 in
theorem quoted_ok {σ0 τ : ASt} (hU : U8 τ) {b : Nat} {s : List UInt8} {p c : Nat} {ts : List Tok} (h : LX σ0 b s p c ts τ) (hB : Bnd s p c ts) (hp1 : p < s.length) :
    ACalls Tryd.prog 50 [.ptr b 0] τ fun v σ' => After σ0 b s p c ts (quotedF (s.drop p).length (s.drop (p + 1)) 0 []) v σ' := by
  obtain ⟨k0, hg0, hb⟩ := h.cell
  have hB' := hB
  obtain ⟨hs, hp, hc, ht⟩ := hB
  obtain ⟨st, hst⟩ : ∃ st, quotedF (s.drop p).length (s.drop (p + 1)) 0 [] = st := ⟨_, rfl⟩
  rw [hst]
  obtain ⟨body, hbody⟩ : ∃ body, s.drop (p + 1) = body := ⟨_, rfl⟩
  have hbl : body.length = s.length - (p + 1) := by rw [← hbody]; simp
  have hdrop : ∀ q, s.drop (p + 1 + q) = body.drop q := fun q => by rw [← hbody, List.drop_drop]
  have hget : ∀ q, s[p + 1 + q]? = body[q]? := fun q => by rw [← hbody, List.getElem?_drop]
  rw [hbody] at hst
  obtain ⟨F, hF⟩ : ∃ F, F = ACode.wp Tryd.prog c50_63 := ⟨_, rfl⟩
  refine a50 (by simp) ?_
  simp (disch := first | assumption | omega | (simp only [List.length_append, List.length_cons, List.length_nil]; omega)) only [go_sem, reduceCtorEq, Nat.reduceEqDiff, Nat.reduceAdd, Nat.reduceSub, Nat.reduceMul, Nat.reduceLeDiff, Int.reduceLT, Int.reduceLE, Int.reduceEq, ↓reduceIte, Int.reduceNeg, Int.reduceAdd, Int.reduceSub, Int.reduceMul, true_imp_iff, forall_const, Nat.mul_one, Int.reduceToNat, Nat.reducePow, Int.reducePow, Bool.true_and, Bool.false_and, Bool.and_false, ←hF]
  refine allocTC_by fun bB hbB => ?_
  have nb := ne_of_role hb hbB
  obtain ⟨nb1, nb2⟩ := nb
  have e1 : ((p : Int) + 1).toNat = p + 1 := by omega
  simp (disch := first | assumption | omega | (simp only [List.length_append, List.length_cons, List.length_nil]; omega)) only [go_sem, reduceCtorEq, Nat.reduceEqDiff, Nat.reduceAdd, Nat.reduceSub, Nat.reduceMul, Nat.reduceLeDiff, Int.reduceLT, Int.reduceLE, Int.reduceEq, ↓reduceIte, Int.reduceNeg, Int.reduceAdd, Int.reduceSub, Int.reduceMul, true_imp_iff, forall_const, Nat.mul_one, Int.reduceToNat, Nat.reducePow, Int.reducePow, Bool.true_and, Bool.false_and, Bool.and_false, hb, nb1, nb2, e1, hbody, List.take_length, ←hF]
  refine rngC_by fun it hit => ?_
  obtain ⟨ni1, ni2, hit0⟩ := set_none hit
  obtain ⟨nt1, nt2⟩ := ne_of_role hb hit0
  have hbase : ∀ r : Role, (τ.set it (some r)) bB = none := fun r => by rw [ASt.set_ne ni2]; exact hbB
  -- what is behind the loop
  have fin : ∀ (q : Nat) (acc : List UInt8) (a : AFr) (σ : ASt), q ≤ body.length → acc.length ≤ 4 * q + 4 → BD (τ.set it (some (.iter body q))) bB acc σ →
      ((st = .bad 0 ∧ a 4 = .bool true) ∨ (st = .tok 2 acc (q + 1) ∧ q + 1 ≤ body.length + 1 ∧ a 4 = .bool false ∧ a 5 = .int .i64 (q + 1 : Nat))) → (a 0 = .ptr b 0 ∧ a 3 = .ptr bB 0) →
      F (RetQ [.t 2] fun v σ' => After σ0 b s p c ts st v σ') a σ := by
    intro q acc a σ hq hacc hW hcase hf
    have hov : Over τ σ := (Over.set it _ .refl hit0).trans (hW.over (hbase _))
    rw [hF]
    rcases hcase with ⟨rfl, h4⟩ | ⟨rfl, hq1, h4, h5⟩
    · simp (disch := first | assumption | omega | (simp only [List.length_append, List.length_cons, List.length_nil]; omega)) only [go_sem, reduceCtorEq, Nat.reduceEqDiff, Nat.reduceAdd, Nat.reduceSub, Nat.reduceMul, Nat.reduceLeDiff, Int.reduceLT, Int.reduceLE, Int.reduceEq, ↓reduceIte, Int.reduceNeg, Int.reduceAdd, Int.reduceSub, Int.reduceMul, true_imp_iff, forall_const, Nat.mul_one, Int.reduceToNat, Nat.reducePow, Int.reducePow, Bool.true_and, Bool.false_and, Bool.and_false, hf, h4]
      exact retC_by hov.drop (.refl _) ⟨rfl, c, h⟩
    · obtain ⟨σ0', hL, _, hback⟩ := GO.over h hov
      have hstr := bstring_ok hW (by omega)
      simp (disch := first | assumption | omega | (simp only [List.length_append, List.length_cons, List.length_nil]; omega)) only [go_sem, reduceCtorEq, Nat.reduceEqDiff, Nat.reduceAdd, Nat.reduceSub, Nat.reduceMul, Nat.reduceLeDiff, Int.reduceLT, Int.reduceLE, Int.reduceEq, ↓reduceIte, Int.reduceNeg, Int.reduceAdd, Int.reduceSub, Int.reduceMul, true_imp_iff, forall_const, Nat.mul_one, Int.reduceToNat, Nat.reducePow, Int.reducePow, Bool.true_and, Bool.false_and, Bool.and_false, hf, h4, h5]
      refine hstr.mono ?_
      rintro v σ' ⟨rfl, rfl⟩
      simp (disch := first | assumption | omega | (simp only [List.length_append, List.length_cons, List.length_nil]; omega)) only [go_sem, reduceCtorEq, Nat.reduceEqDiff, Nat.reduceAdd, Nat.reduceSub, Nat.reduceMul, Nat.reduceLeDiff, Int.reduceLT, Int.reduceLE, Int.reduceEq, ↓reduceIte, Int.reduceNeg, Int.reduceAdd, Int.reduceSub, Int.reduceMul, true_imp_iff, forall_const, Nat.mul_one, Int.reduceToNat, Nat.reducePow, Int.reducePow, Bool.true_and, Bool.false_and, Bool.and_false, hf, h4, h5]
      refine (put_ok hL hB' 2 acc (q + 1) (by omega)).mono ?_
      rintro v σ' ⟨rfl, hL2⟩
      obtain ⟨σ'', hd, hL3⟩ := hback _ _ _ hL2
      simp (disch := first | assumption | omega | (simp only [List.length_append, List.length_cons, List.length_nil]; omega)) only [go_sem, reduceCtorEq, Nat.reduceEqDiff, Nat.reduceAdd, Nat.reduceSub, Nat.reduceMul, Nat.reduceLeDiff, Int.reduceLT, Int.reduceLE, Int.reduceEq, ↓reduceIte, Int.reduceNeg, Int.reduceAdd, Int.reduceSub, Int.reduceMul, true_imp_iff, forall_const, Nat.mul_one, Int.reduceToNat, Nat.reducePow, Int.reducePow, Bool.true_and, Bool.false_and, Bool.and_false]
      exact retC_by hd (.refl _) ⟨rfl, hL3⟩
  have hst0 : BD (τ.set it (some (.iter body 0))) bB [] ((τ.set bB (some (.typ 86 [.pointer none, .slice none 0 0]))).set it (some (.iter body 0))) := .inl ⟨rfl, set_swap ni2⟩
  simp (disch := first | assumption | omega | (simp only [List.length_append, List.length_cons, List.length_nil]; omega)) only [go_sem, reduceCtorEq, Nat.reduceEqDiff, Nat.reduceAdd, Nat.reduceSub, Nat.reduceMul, Nat.reduceLeDiff, Int.reduceLT, Int.reduceLE, Int.reduceEq, ↓reduceIte, Int.reduceNeg, Int.reduceAdd, Int.reduceSub, Int.reduceMul, true_imp_iff, forall_const, Nat.mul_one, Int.reduceToNat, Nat.reducePow, Int.reducePow, Bool.true_and, Bool.false_and, Bool.and_false, hb, nb1, nb2, nt1, nt2, ←hF]
  refine wp_loop_on (fun (i : Nat × List UInt8 × Bool) a σ' => i.1 ≤ body.length ∧ i.2.1.length ≤ 4 * i.1 + 4 ∧ BD (τ.set it (some (.iter body i.1))) bB i.2.1 σ' ∧
      (i.2.2 = false → a 5 = .int .i64 (i.1 + 1 : Nat) ∧ ∃ k, (body.drop i.1).length ≤ k ∧ quotedF k (body.drop i.1) i.1 i.2.1 = st) ∧
      (i.2.2 = true → body[i.1]? = some 34 ∧ a 5 = .int .i64 (i.1 + 2 : Nat) ∧ ∃ k, (body.drop (i.1 + 1)).length ≤ k ∧ quotedF k (body.drop (i.1 + 1)) (i.1 + 1) i.2.1 = st) ∧
      (a 0 = .ptr b 0 ∧ a 3 = .ptr bB 0 ∧ a 4 = .bool true ∧ a 21 = .ptr it 0))
    (fun i => body.length - i.1) (0, [], false) ⟨Nat.zero_le _, by simp, hst0, fun _ => ⟨?_, _, ?_, hst⟩, fun h => (by cases h), ?_⟩ ?_
  · simp (disch := first | assumption | omega | (simp only [List.length_append, List.length_cons, List.length_nil]; omega)) only [go_sem, reduceCtorEq, Nat.reduceEqDiff, Nat.reduceAdd, Nat.reduceSub, Nat.reduceMul, Nat.reduceLeDiff, Int.reduceLT, Int.reduceLE, Int.reduceEq, ↓reduceIte, Int.reduceNeg, Int.reduceAdd, Int.reduceSub, Int.reduceMul, true_imp_iff, forall_const, Nat.mul_one, Int.reduceToNat, Nat.reducePow, Int.reducePow, Bool.true_and, Bool.false_and, Bool.and_false]
  · simp; omega
  · simp (disch := first | assumption | omega | (simp only [List.length_append, List.length_cons, List.length_nil]; omega)) only [go_sem, reduceCtorEq, Nat.reduceEqDiff, Nat.reduceAdd, Nat.reduceSub, Nat.reduceMul, Nat.reduceLeDiff, Int.reduceLT, Int.reduceLE, Int.reduceEq, ↓reduceIte, Int.reduceNeg, Int.reduceAdd, Int.reduceSub, Int.reduceMul, true_imp_iff, forall_const, Nat.mul_one, Int.reduceToNat, Nat.reducePow, Int.reducePow, Bool.true_and, Bool.false_and, Bool.and_false]
  rintro ⟨q, acc, skip⟩ a σ ⟨hq, hacc, hW, hns, hsk, hf⟩
  dsimp only at hq hacc hW hns hsk
  obtain ⟨-, hitr⟩ := hW.iter (r' := .iter body q) ni1
  have hov : Over τ σ := (Over.set it _ .refl hit0).trans (hW.over (hbase _))
  have hbs := hov.at hb
  by_cases hlt : q < body.length
  · have hne : body.drop q ≠ [] := by
      intro h
      have := congrArg List.length h
      simp at this
      omega
    obtain ⟨⟨r, w⟩, hD⟩ : ∃ D, decodeL (body.drop q) = D := ⟨_, rfl⟩
    have hD2 : Utf8.decode ⟨⟨body⟩⟩ q = (r, w) := by rw [← hD]; exact (decodeL_drop ⟨⟨body⟩⟩ q).symm
    have hDrop : decodeL (s.drop (p + 1 + q)) = (r, w) := by rw [hdrop]; exact hD
    have hwle := decodeL_le (body.drop q) hne
    have hbd := dec_bd (body.drop q)
    have hrk := dec_rune (body.drop q)
    rw [hD] at hwle hbd hrk
    dsimp only at hwle hbd hrk
    rw [List.length_drop] at hwle
    obtain ⟨hW2, -⟩ := hW.iter (r' := .iter body (q + w)) ni1
    have hov2 : Over τ (σ.set it (some (.iter body (q + w)))) := (Over.set it _ .refl hit0).trans (hW2.over (hbase _))
    have hb2 := hov2.at hb
    simp (disch := first | assumption | omega | (simp only [List.length_append, List.length_cons, List.length_nil]; omega)) only [go_sem, reduceCtorEq, Nat.reduceEqDiff, Nat.reduceAdd, Nat.reduceSub, Nat.reduceMul, Nat.reduceLeDiff, Int.reduceLT, Int.reduceLE, Int.reduceEq, ↓reduceIte, Int.reduceNeg, Int.reduceAdd, Int.reduceSub, Int.reduceMul, true_imp_iff, forall_const, Nat.mul_one, Int.reduceToNat, Nat.reducePow, Int.reducePow, Bool.true_and, Bool.false_and, Bool.and_false, hf, hitr, ←hF]
    refine nxt_more hlt ?_
    rw [hD2]
    cases skip with
    | true =>
      obtain ⟨h34, h5, kk, hk1, hk2⟩ := hsk rfl
      have hd34 : body.drop q = 34 :: body.drop (q + 1) := by
        rw [List.drop_eq_getElem_cons hlt]
        rw [List.getElem?_eq_getElem hlt] at h34
        injection h34 with h34
        rw [h34]
      have hw1 : (r, w) = (34, 1) := by
        rw [← hD, hd34]
        exact dec_one 34 _ (by decide)
      injection hw1 with hr1 hw1
      subst hr1 hw1
      have e2 : (q : Int) + 1 < (q + 2 : Nat) := by omega
      simp (disch := first | assumption | omega | (simp only [List.length_append, List.length_cons, List.length_nil]; omega)) only [go_sem, reduceCtorEq, Nat.reduceEqDiff, Nat.reduceAdd, Nat.reduceSub, Nat.reduceMul, Nat.reduceLeDiff, Int.reduceLT, Int.reduceLE, Int.reduceEq, ↓reduceIte, Int.reduceNeg, Int.reduceAdd, Int.reduceSub, Int.reduceMul, true_imp_iff, forall_const, Nat.mul_one, Int.reduceToNat, Nat.reducePow, Int.reducePow, Bool.true_and, Bool.false_and, Bool.and_false, hf, h5, e2, ←hF]
      exact ⟨(q + 1, acc, false), by dsimp only; omega, by dsimp only; omega, by dsimp only; omega, hW2, fun _ => ⟨rfl, kk, hk1, hk2⟩, fun h => (by cases h)⟩
    | false =>
      obtain ⟨h5, kk, hk1, hk2⟩ := hns rfl
      have e2 : ¬ (q : Int) + 1 < (q + 1 : Nat) := by omega
      have e3 : (p : Int) + 1 + q = (p + 1 + q : Nat) := by omega
      cases kk with
      | zero => simp at hk1; omega
      | succ kk =>
      rw [quotedF, if_neg hne, hD] at hk2
      dsimp only at hk2
      rw [List.length_drop] at hk1
      have hlen : decodeL (body.drop q) ≠ (65533, 1) → runeLen (r : Int) = w := fun hv => by
        have := dec_len (body.drop q) hv
        rw [hD] at this
        exact this
      have hasc := dec_ascii hne
      rw [hD] at hasc hlen
      dsimp only at hasc
      have hel := enc_le (r : Int)
      obtain ⟨G, hG⟩ : ∃ F, F = ACode.wp Tryd.prog c50_43 := ⟨_, rfl⟩
      have step : (r, w) ≠ (65533, 1) → ∀ (Q : APost) (a : AFr), (a 0 = .ptr b 0 ∧ a 3 = .ptr bB 0 ∧ a 4 = .bool true ∧ a 6 = .int .i64 q ∧ a 7 = .int .i32 r ∧ a 8 = .int .i64 (p + 1 + q : Nat) ∧ a 21 = .ptr it 0) →
          (∀ a' σ', (a' 0 = .ptr b 0 ∧ a' 3 = .ptr bB 0 ∧ a' 4 = .bool false ∧ a' 5 = .int .i64 (q + 1 + 1 : Nat)) → BD (τ.set it (some (.iter body (q + 1)))) bB acc σ' → st = .tok 2 acc (q + 1 + 1) → Q (.exit 0) a' σ') →
          (∀ a' σ' q' acc' skip', q < q' → q' ≤ body.length → acc'.length ≤ 4 * q' + 4 → BD (τ.set it (some (.iter body q'))) bB acc' σ' →
            (skip' = false → a' 5 = .int .i64 (q' + 1 : Nat) ∧ ∃ k, (body.drop q').length ≤ k ∧ quotedF k (body.drop q') q' acc' = st) →
            (skip' = true → body[q']? = some 34 ∧ a' 5 = .int .i64 (q' + 2 : Nat) ∧ ∃ k, (body.drop (q' + 1)).length ≤ k ∧ quotedF k (body.drop (q' + 1)) (q' + 1) acc' = st) →
            (a' 0 = .ptr b 0 ∧ a' 3 = .ptr bB 0 ∧ a' 4 = .bool true ∧ a' 21 = .ptr it 0) → Q (.exit 1) a' σ') →
          G Q a (σ.set it (some (.iter body (q + w)))) := by
        intro hv Q a hf hQ0 hQ1
        rw [if_neg hv] at hk2
        have hlen := hlen hv
        rw [hG]
        by_cases h34 : (r : Int) = 34
        · have hr34 : r = 34 := by omega
          rw [if_neg (by simpa using hr34)] at hk2
          obtain ⟨d, t, hdt, hdc, hw1⟩ := hasc (by omega)
          subst hw1
          have hq1 : (body.drop q)[1]? = body[q + 1]? := by rw [List.getElem?_drop]
          rw [hq1] at hk2
          have hg1 := hget (q + 1)
          obtain ⟨P, hP⟩ : ∃ P, p + 1 + (q + 1) = P := ⟨_, rfl⟩
          have e4 : ((p : Int) + 1 + q + 1).toNat = P := by omega
          rw [hP] at hg1
          by_cases h2 : body[q + 1]? = some 34
          · rw [if_pos h2] at hk2
            have hlt2 := (List.getElem?_eq_some_iff.1 h2).1
            rw [h2] at hg1
            have e5 : (p : Int) + 1 + q + 1 < s.length := by omega
            have e6 : ((UInt8.toNat 34 : Nat) : Int) = 34 := rfl
            simp (disch := first | assumption | omega | (simp only [List.length_append, List.length_cons, List.length_nil]; omega)) only [go_sem, reduceCtorEq, Nat.reduceEqDiff, Nat.reduceAdd, Nat.reduceSub, Nat.reduceMul, Nat.reduceLeDiff, Int.reduceLT, Int.reduceLE, Int.reduceEq, ↓reduceIte, Int.reduceNeg, Int.reduceAdd, Int.reduceSub, Int.reduceMul, true_imp_iff, forall_const, Nat.mul_one, Int.reduceToNat, Nat.reducePow, Int.reducePow, Bool.true_and, Bool.false_and, Bool.and_false, hf, hb2, h34, e4, e5, e6, hg1]
            refine (writeByte_ok hW2 34 (by omega)).mono ?_
            rintro v σ' ⟨rfl, hW3⟩
            simp (disch := first | assumption | omega | (simp only [List.length_append, List.length_cons, List.length_nil]; omega)) only [go_sem, reduceCtorEq, Nat.reduceEqDiff, Nat.reduceAdd, Nat.reduceSub, Nat.reduceMul, Nat.reduceLeDiff, Int.reduceLT, Int.reduceLE, Int.reduceEq, ↓reduceIte, Int.reduceNeg, Int.reduceAdd, Int.reduceSub, Int.reduceMul, true_imp_iff, forall_const, Nat.mul_one, Int.reduceToNat, Nat.reducePow, Int.reducePow, Bool.true_and, Bool.false_and, Bool.and_false, hf]
            refine hQ1 _ _ (q + 1) (acc ++ [34]) true (by omega) (by omega) (by simp; omega) hW3 (fun h => by cases h) (fun _ => ⟨h2, ?_, kk, ?_, ?_⟩) ?_
            · simp (disch := first | assumption | omega | (simp only [List.length_append, List.length_cons, List.length_nil]; omega)) only [go_sem, reduceCtorEq, Nat.reduceEqDiff, Nat.reduceAdd, Nat.reduceSub, Nat.reduceMul, Nat.reduceLeDiff, Int.reduceLT, Int.reduceLE, Int.reduceEq, ↓reduceIte, Int.reduceNeg, Int.reduceAdd, Int.reduceSub, Int.reduceMul, true_imp_iff, forall_const, Nat.mul_one, Int.reduceToNat, Nat.reducePow, Int.reducePow, Bool.true_and, Bool.false_and, Bool.and_false]
              rfl
            · simp; omega
            · rw [List.drop_drop] at hk2
              exact hk2
            · simp (disch := first | assumption | omega | (simp only [List.length_append, List.length_cons, List.length_nil]; omega)) only [go_sem, reduceCtorEq, Nat.reduceEqDiff, Nat.reduceAdd, Nat.reduceSub, Nat.reduceMul, Nat.reduceLeDiff, Int.reduceLT, Int.reduceLE, Int.reduceEq, ↓reduceIte, Int.reduceNeg, Int.reduceAdd, Int.reduceSub, Int.reduceMul, true_imp_iff, forall_const, Nat.mul_one, Int.reduceToNat, Nat.reducePow, Int.reducePow, Bool.true_and, Bool.false_and, Bool.and_false, hf]
          · rw [if_neg h2] at hk2
            by_cases hlt2 : q + 1 < body.length
            · have e5 : (p : Int) + 1 + q + 1 < s.length := by omega
              have hx : body[q + 1]? = some (body[q + 1]'hlt2) := List.getElem?_eq_getElem hlt2
              obtain ⟨x, hxe⟩ : ∃ x, body[q + 1]'hlt2 = x := ⟨_, rfl⟩
              rw [hxe] at hx
              rw [hx] at hg1 h2
              have hx34 : ¬ (x.toNat : Int) = 34 := by
                intro h
                apply h2
                congr 1
                apply UInt8.toNat_inj.1
                have : x.toNat = 34 := by omega
                simpa using this
              simp (disch := first | assumption | omega | (simp only [List.length_append, List.length_cons, List.length_nil]; omega)) only [go_sem, reduceCtorEq, Nat.reduceEqDiff, Nat.reduceAdd, Nat.reduceSub, Nat.reduceMul, Nat.reduceLeDiff, Int.reduceLT, Int.reduceLE, Int.reduceEq, ↓reduceIte, Int.reduceNeg, Int.reduceAdd, Int.reduceSub, Int.reduceMul, true_imp_iff, forall_const, Nat.mul_one, Int.reduceToNat, Nat.reducePow, Int.reducePow, Bool.true_and, Bool.false_and, Bool.and_false, hf, hb2, h34, e4, e5, hg1, hx34]
              refine hQ0 _ _ ?_ hW2 hk2.symm
              simp (disch := first | assumption | omega | (simp only [List.length_append, List.length_cons, List.length_nil]; omega)) only [go_sem, reduceCtorEq, Nat.reduceEqDiff, Nat.reduceAdd, Nat.reduceSub, Nat.reduceMul, Nat.reduceLeDiff, Int.reduceLT, Int.reduceLE, Int.reduceEq, ↓reduceIte, Int.reduceNeg, Int.reduceAdd, Int.reduceSub, Int.reduceMul, true_imp_iff, forall_const, Nat.mul_one, Int.reduceToNat, Nat.reducePow, Int.reducePow, Bool.true_and, Bool.false_and, Bool.and_false, hf]
              rfl
            · have e5 : ¬ (p : Int) + 1 + q + 1 < s.length := by omega
              simp (disch := first | assumption | omega | (simp only [List.length_append, List.length_cons, List.length_nil]; omega)) only [go_sem, reduceCtorEq, Nat.reduceEqDiff, Nat.reduceAdd, Nat.reduceSub, Nat.reduceMul, Nat.reduceLeDiff, Int.reduceLT, Int.reduceLE, Int.reduceEq, ↓reduceIte, Int.reduceNeg, Int.reduceAdd, Int.reduceSub, Int.reduceMul, true_imp_iff, forall_const, Nat.mul_one, Int.reduceToNat, Nat.reducePow, Int.reducePow, Bool.true_and, Bool.false_and, Bool.and_false, hf, hb2, h34, e4, e5]
              refine hQ0 _ _ ?_ hW2 hk2.symm
              simp (disch := first | assumption | omega | (simp only [List.length_append, List.length_cons, List.length_nil]; omega)) only [go_sem, reduceCtorEq, Nat.reduceEqDiff, Nat.reduceAdd, Nat.reduceSub, Nat.reduceMul, Nat.reduceLeDiff, Int.reduceLT, Int.reduceLE, Int.reduceEq, ↓reduceIte, Int.reduceNeg, Int.reduceAdd, Int.reduceSub, Int.reduceMul, true_imp_iff, forall_const, Nat.mul_one, Int.reduceToNat, Nat.reducePow, Int.reducePow, Bool.true_and, Bool.false_and, Bool.and_false, hf]
              rfl
        · have hr34 : r ≠ 34 := by omega
          rw [if_pos hr34] at hk2
          clear hasc
          simp (disch := first | assumption | omega | (simp only [List.length_append, List.length_cons, List.length_nil]; omega)) only [go_sem, reduceCtorEq, Nat.reduceEqDiff, Nat.reduceAdd, Nat.reduceSub, Nat.reduceMul, Nat.reduceLeDiff, Int.reduceLT, Int.reduceLE, Int.reduceEq, ↓reduceIte, Int.reduceNeg, Int.reduceAdd, Int.reduceSub, Int.reduceMul, true_imp_iff, forall_const, Nat.mul_one, Int.reduceToNat, Nat.reducePow, Int.reducePow, Bool.true_and, Bool.false_and, Bool.and_false, hf, h34]
          refine (writeRune_ok hW2 hrk (by omega)).mono ?_
          rintro v σ' hW3
          simp (disch := first | assumption | omega | (simp only [List.length_append, List.length_cons, List.length_nil]; omega)) only [go_sem, reduceCtorEq, Nat.reduceEqDiff, Nat.reduceAdd, Nat.reduceSub, Nat.reduceMul, Nat.reduceLeDiff, Int.reduceLT, Int.reduceLE, Int.reduceEq, ↓reduceIte, Int.reduceNeg, Int.reduceAdd, Int.reduceSub, Int.reduceMul, true_imp_iff, forall_const, Nat.mul_one, Int.reduceToNat, Nat.reducePow, Int.reducePow, Bool.true_and, Bool.false_and, Bool.and_false, hf]
          refine (runeLen_ok r).use ?_
          rw [hlen]
          simp (disch := first | assumption | omega | (simp only [List.length_append, List.length_cons, List.length_nil]; omega)) only [go_sem, reduceCtorEq, Nat.reduceEqDiff, Nat.reduceAdd, Nat.reduceSub, Nat.reduceMul, Nat.reduceLeDiff, Int.reduceLT, Int.reduceLE, Int.reduceEq, ↓reduceIte, Int.reduceNeg, Int.reduceAdd, Int.reduceSub, Int.reduceMul, true_imp_iff, forall_const, Nat.mul_one, Int.reduceToNat, Nat.reducePow, Int.reducePow, Bool.true_and, Bool.false_and, Bool.and_false, hf]
          refine hQ1 _ _ (q + w) (acc ++ encodeRune r) false (by omega) (by omega) (by simp; omega) hW3 (fun _ => ⟨?_, kk, ?_, ?_⟩) (fun h => by cases h) ?_
          · simp (disch := first | assumption | omega | (simp only [List.length_append, List.length_cons, List.length_nil]; omega)) only [go_sem, reduceCtorEq, Nat.reduceEqDiff, Nat.reduceAdd, Nat.reduceSub, Nat.reduceMul, Nat.reduceLeDiff, Int.reduceLT, Int.reduceLE, Int.reduceEq, ↓reduceIte, Int.reduceNeg, Int.reduceAdd, Int.reduceSub, Int.reduceMul, true_imp_iff, forall_const, Nat.mul_one, Int.reduceToNat, Nat.reducePow, Int.reducePow, Bool.true_and, Bool.false_and, Bool.and_false]
            congr 1
            omega
          · simp; omega
          · rw [List.drop_drop] at hk2
            exact hk2
          · simp (disch := first | assumption | omega | (simp only [List.length_append, List.length_cons, List.length_nil]; omega)) only [go_sem, reduceCtorEq, Nat.reduceEqDiff, Nat.reduceAdd, Nat.reduceSub, Nat.reduceMul, Nat.reduceLeDiff, Int.reduceLT, Int.reduceLE, Int.reduceEq, ↓reduceIte, Int.reduceNeg, Int.reduceAdd, Int.reduceSub, Int.reduceMul, true_imp_iff, forall_const, Nat.mul_one, Int.reduceToNat, Nat.reducePow, Int.reducePow, Bool.true_and, Bool.false_and, Bool.and_false, hf]
      have hQ0 : ∀ (a' : AFr) σ', (a' 0 = .ptr b 0 ∧ a' 3 = .ptr bB 0 ∧ a' 4 = .bool false ∧ a' 5 = .int .i64 (q + 1 + 1 : Nat)) → BD (τ.set it (some (.iter body (q + 1)))) bB acc σ' → st = .tok 2 acc (q + 1 + 1) →
          F (RetQ [.t 2] fun v σ' => After σ0 b s p c ts st v σ') a' σ' := fun a' σ' hf' hW3 hst3 =>
        fin (q + 1) acc a' σ' (by omega) (by omega) hW3 (.inr ⟨hst3, by omega, hf'.2.2.1, hf'.2.2.2⟩) ⟨hf'.1, hf'.2.1⟩
      by_cases hbad : (r, w) = (65533, 1)
      · rw [if_pos hbad] at hk2
        injection hbad with hr1 hw1
        subst hr1 hw1
        obtain ⟨σ0', hL, _, hback⟩ := GO.over h hov2
        have hdec := dec_ok (hU.over hov2) (l := s.drop (p + 1 + q)) (by rw [hdrop]; exact hne)
        rw [hDrop] at hdec
        have hpass := pass_ok hL hB' (1 + q) (by omega)
        rw [show p + (1 + q) = p + 1 + q by omega] at hpass
        have e7 : ((p : Int) + 1 + q).toNat = p + 1 + q := by omega
        clear hasc step
        simp (disch := first | assumption | omega | (simp only [List.length_append, List.length_cons, List.length_nil]; omega)) only [go_sem, reduceCtorEq, Nat.reduceEqDiff, Nat.reduceAdd, Nat.reduceSub, Nat.reduceMul, Nat.reduceLeDiff, Int.reduceLT, Int.reduceLE, Int.reduceEq, ↓reduceIte, Int.reduceNeg, Int.reduceAdd, Int.reduceSub, Int.reduceMul, true_imp_iff, forall_const, Nat.mul_one, Int.reduceToNat, Nat.reducePow, Int.reducePow, Bool.true_and, Bool.false_and, Bool.and_false, hf, h5, e2, hb2, e7, List.take_length, ←hF, ←hG]
        refine hdec.mono ?_
        rintro v σ' ⟨rfl, rfl⟩
        simp (disch := first | assumption | omega | (simp only [List.length_append, List.length_cons, List.length_nil]; omega)) only [go_sem, reduceCtorEq, Nat.reduceEqDiff, Nat.reduceAdd, Nat.reduceSub, Nat.reduceMul, Nat.reduceLeDiff, Int.reduceLT, Int.reduceLE, Int.reduceEq, ↓reduceIte, Int.reduceNeg, Int.reduceAdd, Int.reduceSub, Int.reduceMul, true_imp_iff, forall_const, Nat.mul_one, Int.reduceToNat, Nat.reducePow, Int.reducePow, Bool.true_and, Bool.false_and, Bool.and_false, hf, ←hF, ←hG]
        refine hpass.mono ?_
        rintro v σ' ⟨rfl, hL2⟩
        obtain ⟨σ'', hd, hL3⟩ := hback _ _ _ hL2
        simp (disch := first | assumption | omega | (simp only [List.length_append, List.length_cons, List.length_nil]; omega)) only [go_sem, reduceCtorEq, Nat.reduceEqDiff, Nat.reduceAdd, Nat.reduceSub, Nat.reduceMul, Nat.reduceLeDiff, Int.reduceLT, Int.reduceLE, Int.reduceEq, ↓reduceIte, Int.reduceNeg, Int.reduceAdd, Int.reduceSub, Int.reduceMul, true_imp_iff, forall_const, Nat.mul_one, Int.reduceToNat, Nat.reducePow, Int.reducePow, Bool.true_and, Bool.false_and, Bool.and_false, hf, ←hF, ←hG]
        subst hk2
        refine retC_by hd (.refl _) ⟨rfl, c + signsN ((s.drop p).take (1 + q)), ?_⟩
        rw [show p + (1 + q) = p + 1 + q by omega]
        exact hL3
      have stp := step hbad
      clear step hasc
      by_cases h65 : (r : Int) = 65533
      · have hw1 : ¬ (w : Int) = 1 := by
          intro h
          apply hbad
          rw [Prod.mk.injEq]
          omega
        have hdec := dec_ok (hU.over hov2) (l := s.drop (p + 1 + q)) (by rw [hdrop]; exact hne)
        rw [hDrop] at hdec
        have e7 : ((p : Int) + 1 + q).toNat = p + 1 + q := by omega
        simp (disch := first | assumption | omega | (simp only [List.length_append, List.length_cons, List.length_nil]; omega)) only [go_sem, reduceCtorEq, Nat.reduceEqDiff, Nat.reduceAdd, Nat.reduceSub, Nat.reduceMul, Nat.reduceLeDiff, Int.reduceLT, Int.reduceLE, Int.reduceEq, ↓reduceIte, Int.reduceNeg, Int.reduceAdd, Int.reduceSub, Int.reduceMul, true_imp_iff, forall_const, Nat.mul_one, Int.reduceToNat, Nat.reducePow, Int.reducePow, Bool.true_and, Bool.false_and, Bool.and_false, hf, h5, e2, hb2, e7, h65, List.take_length, ←hF, ←hG]
        refine hdec.mono ?_
        rintro v σ' ⟨rfl, rfl⟩
        simp (disch := first | assumption | omega | (simp only [List.length_append, List.length_cons, List.length_nil]; omega)) only [go_sem, reduceCtorEq, Nat.reduceEqDiff, Nat.reduceAdd, Nat.reduceSub, Nat.reduceMul, Nat.reduceLeDiff, Int.reduceLT, Int.reduceLE, Int.reduceEq, ↓reduceIte, Int.reduceNeg, Int.reduceAdd, Int.reduceSub, Int.reduceMul, true_imp_iff, forall_const, Nat.mul_one, Int.reduceToNat, Nat.reducePow, Int.reducePow, Bool.true_and, Bool.false_and, Bool.and_false, hf, hw1, ←hF, ←hG]
        refine stp _ _ ?_ ?_ ?_
        · simp (disch := first | assumption | omega | (simp only [List.length_append, List.length_cons, List.length_nil]; omega)) only [go_sem, reduceCtorEq, Nat.reduceEqDiff, Nat.reduceAdd, Nat.reduceSub, Nat.reduceMul, Nat.reduceLeDiff, Int.reduceLT, Int.reduceLE, Int.reduceEq, ↓reduceIte, Int.reduceNeg, Int.reduceAdd, Int.reduceSub, Int.reduceMul, true_imp_iff, forall_const, Nat.mul_one, Int.reduceToNat, Nat.reducePow, Int.reducePow, Bool.true_and, Bool.false_and, Bool.and_false, hf]
          rw [← h65]
        · intro a' σ' hf' hW3 hst3
          simp (disch := first | assumption | omega | (simp only [List.length_append, List.length_cons, List.length_nil]; omega)) only [go_sem, reduceCtorEq, Nat.reduceEqDiff, Nat.reduceAdd, Nat.reduceSub, Nat.reduceMul, Nat.reduceLeDiff, Int.reduceLT, Int.reduceLE, Int.reduceEq, ↓reduceIte, Int.reduceNeg, Int.reduceAdd, Int.reduceSub, Int.reduceMul, true_imp_iff, forall_const, Nat.mul_one, Int.reduceToNat, Nat.reducePow, Int.reducePow, Bool.true_and, Bool.false_and, Bool.and_false, ←hF]
          exact hQ0 a' σ' hf' hW3 hst3
        · intro a' σ' q' acc' skip' h1 h2 h3 h4 h5 h6 h7
          simp (disch := first | assumption | omega | (simp only [List.length_append, List.length_cons, List.length_nil]; omega)) only [go_sem, reduceCtorEq, Nat.reduceEqDiff, Nat.reduceAdd, Nat.reduceSub, Nat.reduceMul, Nat.reduceLeDiff, Int.reduceLT, Int.reduceLE, Int.reduceEq, ↓reduceIte, Int.reduceNeg, Int.reduceAdd, Int.reduceSub, Int.reduceMul, true_imp_iff, forall_const, Nat.mul_one, Int.reduceToNat, Nat.reducePow, Int.reducePow, Bool.true_and, Bool.false_and, Bool.and_false]
          exact ⟨(q', acc', skip'), by dsimp only; omega, h2, h3, h4, h5, h6, h7⟩
      · simp (disch := first | assumption | omega | (simp only [List.length_append, List.length_cons, List.length_nil]; omega)) only [go_sem, reduceCtorEq, Nat.reduceEqDiff, Nat.reduceAdd, Nat.reduceSub, Nat.reduceMul, Nat.reduceLeDiff, Int.reduceLT, Int.reduceLE, Int.reduceEq, ↓reduceIte, Int.reduceNeg, Int.reduceAdd, Int.reduceSub, Int.reduceMul, true_imp_iff, forall_const, Nat.mul_one, Int.reduceToNat, Nat.reducePow, Int.reducePow, Bool.true_and, Bool.false_and, Bool.and_false, hf, h5, e2, hb2, h65, ←hF, ←hG]
        refine stp _ _ ?_ ?_ ?_
        · simp (disch := first | assumption | omega | (simp only [List.length_append, List.length_cons, List.length_nil]; omega)) only [go_sem, reduceCtorEq, Nat.reduceEqDiff, Nat.reduceAdd, Nat.reduceSub, Nat.reduceMul, Nat.reduceLeDiff, Int.reduceLT, Int.reduceLE, Int.reduceEq, ↓reduceIte, Int.reduceNeg, Int.reduceAdd, Int.reduceSub, Int.reduceMul, true_imp_iff, forall_const, Nat.mul_one, Int.reduceToNat, Nat.reducePow, Int.reducePow, Bool.true_and, Bool.false_and, Bool.and_false, hf]
        · intro a' σ' hf' hW3 hst3
          simp (disch := first | assumption | omega | (simp only [List.length_append, List.length_cons, List.length_nil]; omega)) only [go_sem, reduceCtorEq, Nat.reduceEqDiff, Nat.reduceAdd, Nat.reduceSub, Nat.reduceMul, Nat.reduceLeDiff, Int.reduceLT, Int.reduceLE, Int.reduceEq, ↓reduceIte, Int.reduceNeg, Int.reduceAdd, Int.reduceSub, Int.reduceMul, true_imp_iff, forall_const, Nat.mul_one, Int.reduceToNat, Nat.reducePow, Int.reducePow, Bool.true_and, Bool.false_and, Bool.and_false, ←hF]
          exact hQ0 a' σ' hf' hW3 hst3
        · intro a' σ' q' acc' skip' h1 h2 h3 h4 h5 h6 h7
          simp (disch := first | assumption | omega | (simp only [List.length_append, List.length_cons, List.length_nil]; omega)) only [go_sem, reduceCtorEq, Nat.reduceEqDiff, Nat.reduceAdd, Nat.reduceSub, Nat.reduceMul, Nat.reduceLeDiff, Int.reduceLT, Int.reduceLE, Int.reduceEq, ↓reduceIte, Int.reduceNeg, Int.reduceAdd, Int.reduceSub, Int.reduceMul, true_imp_iff, forall_const, Nat.mul_one, Int.reduceToNat, Nat.reducePow, Int.reducePow, Bool.true_and, Bool.false_and, Bool.and_false]
          exact ⟨(q', acc', skip'), by dsimp only; omega, h2, h3, h4, h5, h6, h7⟩
  · have hq' : q = body.length := by omega
    cases skip with
    | true =>
      obtain ⟨h34, _⟩ := hsk rfl
      rw [List.getElem?_eq_none (by omega)] at h34
      cases h34
    | false =>
    obtain ⟨h5, kk, hk1, hk2⟩ := hns rfl
    rw [List.drop_eq_nil_of_le (by omega), quotedF_nil] at hk2
    simp (disch := first | assumption | omega | (simp only [List.length_append, List.length_cons, List.length_nil]; omega)) only [go_sem, reduceCtorEq, Nat.reduceEqDiff, Nat.reduceAdd, Nat.reduceSub, Nat.reduceMul, Nat.reduceLeDiff, Int.reduceLT, Int.reduceLE, Int.reduceEq, ↓reduceIte, Int.reduceNeg, Int.reduceAdd, Int.reduceSub, Int.reduceMul, true_imp_iff, forall_const, Nat.mul_one, Int.reduceToNat, Nat.reducePow, Int.reducePow, Bool.true_and, Bool.false_and, Bool.and_false, hf, hitr, ←hF]
    refine nxt_over (by omega) ?_
    simp (disch := first | assumption | omega | (simp only [List.length_append, List.length_cons, List.length_nil]; omega)) only [go_sem, reduceCtorEq, Nat.reduceEqDiff, Nat.reduceAdd, Nat.reduceSub, Nat.reduceMul, Nat.reduceLeDiff, Int.reduceLT, Int.reduceLE, Int.reduceEq, ↓reduceIte, Int.reduceNeg, Int.reduceAdd, Int.reduceSub, Int.reduceMul, true_imp_iff, forall_const, Nat.mul_one, Int.reduceToNat, Nat.reducePow, Int.reducePow, Bool.true_and, Bool.false_and, Bool.and_false, hf, ←hF]
    refine fin q acc _ σ (by omega) hacc hW (.inl ⟨hk2.symm, ?_⟩) ?_
    · simp (disch := first | assumption | omega | (simp only [List.length_append, List.length_cons, List.length_nil]; omega)) only [go_sem, reduceCtorEq, Nat.reduceEqDiff, Nat.reduceAdd, Nat.reduceSub, Nat.reduceMul, Nat.reduceLeDiff, Int.reduceLT, Int.reduceLE, Int.reduceEq, ↓reduceIte, Int.reduceNeg, Int.reduceAdd, Int.reduceSub, Int.reduceMul, true_imp_iff, forall_const, Nat.mul_one, Int.reduceToNat, Nat.reducePow, Int.reducePow, Bool.true_and, Bool.false_and, Bool.and_false, hf]
    · simp (disch := first | assumption | omega | (simp only [List.length_append, List.length_cons, List.length_nil]; omega)) only [go_sem, reduceCtorEq, Nat.reduceEqDiff, Nat.reduceAdd, Nat.reduceSub, Nat.reduceMul, Nat.reduceLeDiff, Int.reduceLT, Int.reduceLE, Int.reduceEq, ↓reduceIte, Int.reduceNeg, Int.reduceAdd, Int.reduceSub, Int.reduceMul, true_imp_iff, forall_const, Nat.mul_one, Int.reduceToNat, Nat.reducePow, Int.reducePow, Bool.true_and, Bool.false_and, Bool.and_false, hf]
end Go.A
namespace Go.A
open Go.Proofs Go.Lib
set_option maxRecDepth 100000
set_option linter.unusedSimpArgs false
set_option linter.unusedVariables false

theorem signs_one {c : UInt8} (h : c.toNat < 128) : signsN [c] = 1 := by
  unfold signsN
  have := runeCount_ascii ⟨⟨[c]⟩⟩ (fun j hj => by
    have : j = 0 := by simp [ByteArray.size] at hj; omega
    subst this
    exact h)
  simpa [ByteArray.size] using this
theorem ofNat_toNat (c : UInt8) : UInt8.ofNat c.toNat = c := by simp
set_option maxHeartbeats 1000000 in
theorem tnext_ok {σ0 σ : ASt} (hU : U8 σ) {b : Nat} {s : List UInt8} {p c : Nat} {ts : List Tok} (h : LX σ0 b s p c ts σ) (hB : Bnd s p c ts) (hp : p < s.length) :
    ACalls Tryd.prog 38 [.ptr b 0] σ fun v σ' => After σ0 b s p c ts (stepP (s.drop p)) v σ' := by
  obtain ⟨st, hst⟩ : ∃ st, stepP (s.drop p) = st := ⟨_, rfl⟩
  rw [hst]
  have hne : s.drop p ≠ [] := by
    intro h
    have := congrArg List.length h
    simp at this
    omega
  have hs1 := hB.hs
  have hsg := sign_ok hU h hB hp
  have hasc := dec_ascii hne
  have hle := decodeL_le _ hne
  have hbd := dec_bd (s.drop p)
  have hwo := words_ok h hB
  have hqu := quoted_ok hU h hB hp
  have hfa := failure_ok h hB
  have hop := op_ok h hB hp
  have hps := pass_ok h hB 1 (by omega)
  obtain ⟨k, hg, hb⟩ := h.cell
  rw [List.length_drop] at hle
  unfold stepP at hst
  dsimp only at hst
  obtain ⟨⟨r, w⟩, hD⟩ : ∃ D, decodeL (s.drop p) = D := ⟨_, rfl⟩
  rw [hD] at hst hsg hasc hle hbd
  dsimp only at hst hsg hasc hle hbd
  refine a38 (by simp) ?_
  simp (disch := first | assumption | omega | (simp only [List.length_append, List.length_cons, List.length_nil]; omega)) only [go_sem, reduceCtorEq, Nat.reduceEqDiff, Nat.reduceAdd, Nat.reduceSub, Nat.reduceMul, Nat.reduceLeDiff, Int.reduceLT, Int.reduceLE, Int.reduceEq, ↓reduceIte, Int.reduceNeg, Int.reduceAdd, Int.reduceSub, Int.reduceMul, true_imp_iff, forall_const, Nat.mul_one, Int.reduceToNat, Nat.reducePow, Int.reducePow, Bool.true_and, Bool.false_and, Bool.and_false]
  refine hsg.mono ?_
  rintro v σ' ⟨rfl, rfl⟩
  by_cases hbad : (r, w) = (65533, 1)
  · rw [if_pos hbad] at hst
    rw [if_pos hbad, if_pos hbad]
    subst hst
    simp (disch := first | assumption | omega | (simp only [List.length_append, List.length_cons, List.length_nil]; omega)) only [go_sem, reduceCtorEq, Nat.reduceEqDiff, Nat.reduceAdd, Nat.reduceSub, Nat.reduceMul, Nat.reduceLeDiff, Int.reduceLT, Int.reduceLE, Int.reduceEq, ↓reduceIte, Int.reduceNeg, Int.reduceAdd, Int.reduceSub, Int.reduceMul, true_imp_iff, forall_const, Nat.mul_one, Int.reduceToNat, Nat.reducePow, Int.reducePow, Bool.true_and, Bool.false_and, Bool.and_false]
    exact retC_by (Drop.refl _) (.refl _) ⟨rfl, c, h⟩
  rw [if_neg hbad] at hst
  rw [if_neg hbad, if_neg hbad]
  have e0 : ¬ (w : Int) < 0 := by omega
  by_cases hbl : r = 32 ∨ r = 9 ∨ r = 10
  · rw [if_pos hbl] at hst
    subst hst
    obtain ⟨d, t, hdt, hdc, hw1⟩ := hasc (by omega)
    have hs1 : signsN ((s.drop p).take 1) = 1 := by rw [hdt, List.take_succ_cons, List.take_zero]; exact signs_one (by omega)
    rw [hs1] at hps
    subst hw1
    have e1 : ((1 : Nat) : Int) = 1 := rfl
    rcases hbl with rfl | rfl | rfl
    all_goals
      simp (disch := first | assumption | omega | (simp only [List.length_append, List.length_cons, List.length_nil]; omega)) only [go_sem, reduceCtorEq, Nat.reduceEqDiff, Nat.reduceAdd, Nat.reduceSub, Nat.reduceMul, Nat.reduceLeDiff, Int.reduceLT, Int.reduceLE, Int.reduceEq, ↓reduceIte, Int.reduceNeg, Int.reduceAdd, Int.reduceSub, Int.reduceMul, true_imp_iff, forall_const, Nat.mul_one, Int.reduceToNat, Nat.reducePow, Int.reducePow, Bool.true_and, Bool.false_and, Bool.and_false, hb]
      refine hps.mono ?_
      rintro v σ2 ⟨rfl, hL⟩
      simp (disch := first | assumption | omega | (simp only [List.length_append, List.length_cons, List.length_nil]; omega)) only [go_sem, reduceCtorEq, Nat.reduceEqDiff, Nat.reduceAdd, Nat.reduceSub, Nat.reduceMul, Nat.reduceLeDiff, Int.reduceLT, Int.reduceLE, Int.reduceEq, ↓reduceIte, Int.reduceNeg, Int.reduceAdd, Int.reduceSub, Int.reduceMul, true_imp_iff, forall_const, Nat.mul_one, Int.reduceToNat, Nat.reducePow, Int.reducePow, Bool.true_and, Bool.false_and, Bool.and_false]
      exact retC_by (Drop.refl _) (.refl _) ⟨rfl, hL⟩
  rw [if_neg hbl] at hst
  have n1 : ¬ (r : Int) = 32 := by omega
  have n2 : ¬ (r : Int) = 9 := by omega
  have n3 : ¬ (r : Int) = 10 := by omega
  by_cases h128 : r < 128
  · obtain ⟨d, t, hdt, hdc, hw1⟩ := hasc h128
    clear hasc
    have hdr : UInt8.ofNat r = d := by rw [← hdc]; simp
    have hwd := word_ok d
    rw [hdc] at hwd
    rw [hdr] at hst
    have i128 : (r : Int) < 128 := by omega
    simp (disch := first | assumption | omega | (simp only [List.length_append, List.length_cons, List.length_nil]; omega)) only [go_sem, reduceCtorEq, Nat.reduceEqDiff, Nat.reduceAdd, Nat.reduceSub, Nat.reduceMul, Nat.reduceLeDiff, Int.reduceLT, Int.reduceLE, Int.reduceEq, ↓reduceIte, Int.reduceNeg, Int.reduceAdd, Int.reduceSub, Int.reduceMul, true_imp_iff, forall_const, Nat.mul_one, Int.reduceToNat, Nat.reducePow, Int.reducePow, Bool.true_and, Bool.false_and, Bool.and_false, e0, n1, n2, n3, i128]
    refine hwd.use ?_
    cases hw : wordB d with
    | true =>
      rw [if_pos ⟨h128, hw⟩] at hst
      subst hst
      simp (disch := first | assumption | omega | (simp only [List.length_append, List.length_cons, List.length_nil]; omega)) only [go_sem, reduceCtorEq, Nat.reduceEqDiff, Nat.reduceAdd, Nat.reduceSub, Nat.reduceMul, Nat.reduceLeDiff, Int.reduceLT, Int.reduceLE, Int.reduceEq, ↓reduceIte, Int.reduceNeg, Int.reduceAdd, Int.reduceSub, Int.reduceMul, true_imp_iff, forall_const, Nat.mul_one, Int.reduceToNat, Nat.reducePow, Int.reducePow, Bool.true_and, Bool.false_and, Bool.and_false]
      refine hwo.mono ?_
      intro v σ' hA
      simp (disch := first | assumption | omega | (simp only [List.length_append, List.length_cons, List.length_nil]; omega)) only [go_sem, reduceCtorEq, Nat.reduceEqDiff, Nat.reduceAdd, Nat.reduceSub, Nat.reduceMul, Nat.reduceLeDiff, Int.reduceLT, Int.reduceLE, Int.reduceEq, ↓reduceIte, Int.reduceNeg, Int.reduceAdd, Int.reduceSub, Int.reduceMul, true_imp_iff, forall_const, Nat.mul_one, Int.reduceToNat, Nat.reducePow, Int.reducePow, Bool.true_and, Bool.false_and, Bool.and_false]
      exact retC_by (Drop.refl _) (.refl _) hA
    | false =>
    rw [if_neg (by rintro ⟨_, h⟩; rw [hw] at h; cases h)] at hst
    by_cases h34 : r = 34
    · rw [if_pos h34, List.drop_drop] at hst
      subst hst
      have i34 : (r : Int) = 34 := by omega
      simp (disch := first | assumption | omega | (simp only [List.length_append, List.length_cons, List.length_nil]; omega)) only [go_sem, reduceCtorEq, Nat.reduceEqDiff, Nat.reduceAdd, Nat.reduceSub, Nat.reduceMul, Nat.reduceLeDiff, Int.reduceLT, Int.reduceLE, Int.reduceEq, ↓reduceIte, Int.reduceNeg, Int.reduceAdd, Int.reduceSub, Int.reduceMul, true_imp_iff, forall_const, Nat.mul_one, Int.reduceToNat, Nat.reducePow, Int.reducePow, Bool.true_and, Bool.false_and, Bool.and_false, i34]
      refine hqu.mono ?_
      intro v σ' hA
      simp (disch := first | assumption | omega | (simp only [List.length_append, List.length_cons, List.length_nil]; omega)) only [go_sem, reduceCtorEq, Nat.reduceEqDiff, Nat.reduceAdd, Nat.reduceSub, Nat.reduceMul, Nat.reduceLeDiff, Int.reduceLT, Int.reduceLE, Int.reduceEq, ↓reduceIte, Int.reduceNeg, Int.reduceAdd, Int.reduceSub, Int.reduceMul, true_imp_iff, forall_const, Nat.mul_one, Int.reduceToNat, Nat.reducePow, Int.reducePow, Bool.true_and, Bool.false_and, Bool.and_false]
      exact retC_by (Drop.refl _) (.refl _) hA
    rw [if_neg h34] at hst
    have i34 : ¬ (r : Int) = 34 := by omega
    by_cases h35 : r = 35
    · rw [if_pos h35] at hst
      subst hst
      have i35 : (r : Int) = 35 := by omega
      simp (disch := first | assumption | omega | (simp only [List.length_append, List.length_cons, List.length_nil]; omega)) only [go_sem, reduceCtorEq, Nat.reduceEqDiff, Nat.reduceAdd, Nat.reduceSub, Nat.reduceMul, Nat.reduceLeDiff, Int.reduceLT, Int.reduceLE, Int.reduceEq, ↓reduceIte, Int.reduceNeg, Int.reduceAdd, Int.reduceSub, Int.reduceMul, true_imp_iff, forall_const, Nat.mul_one, Int.reduceToNat, Nat.reducePow, Int.reducePow, Bool.true_and, Bool.false_and, Bool.and_false, i34, i35]
      refine hfa.mono ?_
      intro v σ' hA
      simp (disch := first | assumption | omega | (simp only [List.length_append, List.length_cons, List.length_nil]; omega)) only [go_sem, reduceCtorEq, Nat.reduceEqDiff, Nat.reduceAdd, Nat.reduceSub, Nat.reduceMul, Nat.reduceLeDiff, Int.reduceLT, Int.reduceLE, Int.reduceEq, ↓reduceIte, Int.reduceNeg, Int.reduceAdd, Int.reduceSub, Int.reduceMul, true_imp_iff, forall_const, Nat.mul_one, Int.reduceToNat, Nat.reducePow, Int.reducePow, Bool.true_and, Bool.false_and, Bool.and_false]
      exact retC_by (Drop.refl _) (.refl _) hA
    rw [if_neg h35] at hst
    have i35 : ¬ (r : Int) = 35 := by omega
    subst hst
    simp (disch := first | assumption | omega | (simp only [List.length_append, List.length_cons, List.length_nil]; omega)) only [go_sem, reduceCtorEq, Nat.reduceEqDiff, Nat.reduceAdd, Nat.reduceSub, Nat.reduceMul, Nat.reduceLeDiff, Int.reduceLT, Int.reduceLE, Int.reduceEq, ↓reduceIte, Int.reduceNeg, Int.reduceAdd, Int.reduceSub, Int.reduceMul, true_imp_iff, forall_const, Nat.mul_one, Int.reduceToNat, Nat.reducePow, Int.reducePow, Bool.true_and, Bool.false_and, Bool.and_false, i34, i35]
    refine (hop r w (by omega)).mono ?_
    intro v σ' hA
    simp (disch := first | assumption | omega | (simp only [List.length_append, List.length_cons, List.length_nil]; omega)) only [go_sem, reduceCtorEq, Nat.reduceEqDiff, Nat.reduceAdd, Nat.reduceSub, Nat.reduceMul, Nat.reduceLeDiff, Int.reduceLT, Int.reduceLE, Int.reduceEq, ↓reduceIte, Int.reduceNeg, Int.reduceAdd, Int.reduceSub, Int.reduceMul, true_imp_iff, forall_const, Nat.mul_one, Int.reduceToNat, Nat.reducePow, Int.reducePow, Bool.true_and, Bool.false_and, Bool.and_false]
    exact retC_by (Drop.refl _) (.refl _) hA
  · rw [if_neg (by rintro ⟨h, _⟩; exact h128 h), if_neg (by omega), if_neg (by omega)] at hst
    subst hst
    have i128 : ¬ (r : Int) < 128 := by omega
    have i34 : ¬ (r : Int) = 34 := by omega
    have i35 : ¬ (r : Int) = 35 := by omega
    simp (disch := first | assumption | omega | (simp only [List.length_append, List.length_cons, List.length_nil]; omega)) only [go_sem, reduceCtorEq, Nat.reduceEqDiff, Nat.reduceAdd, Nat.reduceSub, Nat.reduceMul, Nat.reduceLeDiff, Int.reduceLT, Int.reduceLE, Int.reduceEq, ↓reduceIte, Int.reduceNeg, Int.reduceAdd, Int.reduceSub, Int.reduceMul, true_imp_iff, forall_const, Nat.mul_one, Int.reduceToNat, Nat.reducePow, Int.reducePow, Bool.true_and, Bool.false_and, Bool.and_false, e0, n1, n2, n3, i128, i34, i35]
    refine (hop r w (by omega)).mono ?_
    intro v σ' hA
    simp (disch := first | assumption | omega | (simp only [List.length_append, List.length_cons, List.length_nil]; omega)) only [go_sem, reduceCtorEq, Nat.reduceEqDiff, Nat.reduceAdd, Nat.reduceSub, Nat.reduceMul, Nat.reduceLeDiff, Int.reduceLT, Int.reduceLE, Int.reduceEq, ↓reduceIte, Int.reduceNeg, Int.reduceAdd, Int.reduceSub, Int.reduceMul, true_imp_iff, forall_const, Nat.mul_one, Int.reduceToNat, Nat.reducePow, Int.reducePow, Bool.true_and, Bool.false_and, Bool.and_false]
    exact retC_by (Drop.refl _) (.refl _) hA

theorem runL_nil (p : UInt8 → Bool) : runL p [] = 0 := rfl
/-- A step goes on, and stays in the text. -/
theorem quotedF_fits : ∀ (k : Nat) (r : List UInt8) (p : Nat) (acc : List UInt8), (∀ j, quotedF k r p acc = .bad j → j < 1 + p + r.length) ∧ quotedF k r p acc ≠ .blank ∧ ∀ kd t n, quotedF k r p acc = .tok kd t n → p + 2 ≤ n ∧ n ≤ p + 1 + r.length
  | 0, r, p, acc => by
    refine ⟨fun j h => ?_, by simp [quotedF], fun kd t n h => by simp [quotedF] at h⟩
    simp only [quotedF, Step.bad.injEq] at h
    omega
  | k + 1, r, p, acc => by
    by_cases hr : r = []
    · subst hr
      rw [quotedF_nil]
      refine ⟨fun j h => ?_, by simp, fun kd t n h => by simp at h⟩
      simp only [Step.bad.injEq] at h
      omega
    have hpos := List.length_pos_iff.2 hr
    have hle := decodeL_le r hr
    have hw := decodeL_width r
    unfold quotedF
    rw [if_neg hr]
    split
    · refine ⟨fun j h => ?_, by simp, fun kd t n h => by simp at h⟩
      simp only [Step.bad.injEq] at h
      omega
    split
    · obtain ⟨h1, h2, h3⟩ := quotedF_fits k (r.drop (decodeL r).2) (p + (decodeL r).2) (acc ++ encodeRune ((decodeL r).1 : Int))
      rw [List.length_drop] at h1 h3
      exact ⟨fun j h => by have := h1 j h; omega, h2, fun kd t n h => by have := h3 kd t n h; omega⟩
    split
    · rename_i h1 h2 h3
      have hl2 := (List.getElem?_eq_some_iff.1 h3).1
      obtain ⟨h1, h2, h3⟩ := quotedF_fits k (r.drop 2) (p + 2) (acc ++ [34])
      rw [List.length_drop] at h1 h3
      exact ⟨fun j h => by have := h1 j h; omega, h2, fun kd t n h => by have := h3 kd t n h; omega⟩
    · refine ⟨fun j h => by simp at h, by simp, fun kd t n h => ?_⟩
      simp only [Step.tok.injEq] at h
      omega
theorem failS_fits (r : List UInt8) (hr : r ≠ []) : ∀ (es : List (List UInt8)), (∀ e ∈ es, 1 ≤ e.length) → (∀ j, failS r es = .bad j → j < r.length) ∧ failS r es ≠ .blank ∧ ∀ kd t n, failS r es = .tok kd t n → 1 ≤ n ∧ n ≤ r.length
  | [], _ => by
    have := List.length_pos_iff.2 hr
    refine ⟨fun j h => ?_, by simp [failS], fun kd t n h => by simp [failS] at h⟩
    simp only [failS, Step.bad.injEq] at h
    omega
  | e :: es, he => by
    unfold failS
    split
    · rename_i h1
      have := he e (by simp)
      refine ⟨fun j h => by simp at h, by simp, fun kd t n h => ?_⟩
      simp only [Step.tok.injEq] at h
      omega
    · exact failS_fits r hr es fun e h => he e (by simp [h])
theorem twoS_fits (r : List UInt8) : ∀ (es : List (List UInt8)) e, twoS r es = some e → e ∈ es ∧ e.isPrefixOf r = true
  | [], e, h => by simp [twoS] at h
  | x :: es, e, h => by
    unfold twoS at h
    split at h
    · injection h with h; subst h; exact ⟨by simp, by assumption⟩
    · obtain ⟨h1, h2⟩ := twoS_fits r es e h
      exact ⟨by simp [h1], h2⟩
theorem stepP_fits (r : List UInt8) (hr : r ≠ []) : (∀ j, stepP r = .bad j → j < r.length) ∧ ∀ kd t n, stepP r = .tok kd t n → 1 ≤ n ∧ n ≤ r.length := by
  have hpos := List.length_pos_iff.2 hr
  have hle := decodeL_le r hr
  have hw := decodeL_width r
  have hasc := dec_ascii hr
  have bad0 : (∀ j, Step.bad 0 = .bad j → j < r.length) ∧ ∀ kd t n, Step.bad 0 = .tok kd t n → 1 ≤ n ∧ n ≤ r.length := by
    refine ⟨fun j h => ?_, fun kd t n h => by simp at h⟩
    simp only [Step.bad.injEq] at h
    omega
  have tok1 : ∀ kd t n, 1 ≤ n → n ≤ r.length → (∀ j, Step.tok kd t n = .bad j → j < r.length) ∧ ∀ kd' t' n', Step.tok kd t n = .tok kd' t' n' → 1 ≤ n' ∧ n' ≤ r.length := by
    intro kd t n h1 h2
    refine ⟨fun j h => by simp at h, fun kd t n h => ?_⟩
    simp only [Step.tok.injEq] at h
    omega
  unfold stepP
  dsimp only
  split
  · exact bad0
  split
  · exact ⟨fun j h => by simp at h, fun kd t n h => by simp at h⟩
  split
  · rename_i h1 h2 h3
    obtain ⟨d, t, hdt, hdc, _⟩ := hasc h3.1
    have hrl := runL_le wordB r
    have h1 : 1 ≤ runL wordB r := by
      rw [hdt, runL]
      have : UInt8.ofNat (decodeL r).1 = d := by rw [← hdc]; simp
      rw [this] at h3
      rw [if_pos h3.2]
      omega
    unfold wordsS
    dsimp only
    repeat' split
    all_goals first | exact tok1 _ _ _ h1 hrl | exact bad0
  split
  · obtain ⟨h1, h2, h3⟩ := quotedF_fits r.length (r.drop 1) 0 []
    rw [List.length_drop] at h1 h3
    exact ⟨fun j h => by have := h1 j h; omega, fun kd t n h => by have := h3 kd t n h; omega⟩
  split
  · obtain ⟨h1, h2, h3⟩ := failS_fits r hr errTexts (by decide)
    exact ⟨h1, h3⟩
  · unfold opS
    split
    · exact tok1 _ _ _ hw hle
    · split
      · rename_i e he
        obtain ⟨h1, h2⟩ := twoS_fits r _ _ he
        have := twos_len e h1
        have := (List.isPrefixOf_iff_prefix.1 h2).length_le
        exact tok1 _ _ _ (by omega) (by omega)
      · split
        · exact tok1 _ _ _ (by omega) (by omega)
        · exact bad0

theorem signsN_nil : signsN [] = 0 := rfl
theorem LX.cast {σ0 σ : ASt} {b : Nat} {s : List UInt8} {p p' c c' : Nat} {ts ts' : List Tok} (h : LX σ0 b s p c ts σ) (h1 : p = p') (h2 : c = c') (h3 : ts = ts') : LX σ0 b s p' c' ts' σ := by subst h1 h2 h3; exact h
theorem After.u8 {σ0 σ' : ASt} (hU : U8 σ0) {b : Nat} (hb : σ0 b = none) {s : List UInt8} {p c : Nat} {ts : List Tok} (h : LX σ0 b s p c ts σ') : U8 σ' := by
  have hne : ∀ x r, σ0 x = some r → x ≠ b := by rintro x r hx rfl; rw [hb] at hx; cases hx
  exact ⟨GO.at h (hne _ _ hU.1) hU.1, GO.at h (hne _ _ hU.2) hU.2⟩
/-- **A formula's text, as tokens.** -/
theorem lex_ok {σ : ASt} (hU : U8 σ) (s : List UInt8) (hs : s.length ≤ 100000) :
    ACalls Tryd.prog 24 [.str s] σ fun v σ' => v = .tuple [.sl .shr ((lexP s).1.map tokAV), .int .i64 (lexP s).2.1, .int .i64 (lexP s).2.2] ∧ σ' = σ := by
  obtain ⟨R, hR⟩ : ∃ R, lexP s = R := ⟨_, rfl⟩
  rw [hR]
  unfold lexP at hR
  refine a24 (by simp) ?_
  obtain ⟨F, hF⟩ : ∃ F, F = ACode.wp Tryd.prog c24_24 := ⟨_, rfl⟩
  by_cases hbig : 2000 < s.length
  · rw [if_pos hbig] at hR
    subst hR
    have e1 : (2000 : Int) < s.length := by omega
    simp (disch := first | assumption | omega | (simp only [List.length_append, List.length_cons, List.length_nil]; omega)) only [go_sem, reduceCtorEq, Nat.reduceEqDiff, Nat.reduceAdd, Nat.reduceSub, Nat.reduceMul, Nat.reduceLeDiff, Int.reduceLT, Int.reduceLE, Int.reduceEq, ↓reduceIte, Int.reduceNeg, Int.reduceAdd, Int.reduceSub, Int.reduceMul, true_imp_iff, forall_const, Nat.mul_one, Int.reduceToNat, Nat.reducePow, Int.reducePow, Bool.true_and, Bool.false_and, Bool.and_false, e1, ←hF]
    exact retC_by (Drop.refl _) (.tuple (.cons (.sl _ _) (.cons (.refl _) (.cons (.refl _) .nil)))) ⟨rfl, rfl⟩
  rw [if_neg hbig] at hR
  have e1 : ¬ (2000 : Int) < s.length := by omega
  simp (disch := first | assumption | omega | (simp only [List.length_append, List.length_cons, List.length_nil]; omega)) only [go_sem, reduceCtorEq, Nat.reduceEqDiff, Nat.reduceAdd, Nat.reduceSub, Nat.reduceMul, Nat.reduceLeDiff, Int.reduceLT, Int.reduceLE, Int.reduceEq, ↓reduceIte, Int.reduceNeg, Int.reduceAdd, Int.reduceSub, Int.reduceMul, true_imp_iff, forall_const, Nat.mul_one, Int.reduceToNat, Nat.reducePow, Int.reducePow, Bool.true_and, Bool.false_and, Bool.and_false, e1, ←hF]
  refine boxC_by rfl fun b hb => ?_
  simp (disch := first | assumption | omega | (simp only [List.length_append, List.length_cons, List.length_nil]; omega)) only [go_sem, reduceCtorEq, Nat.reduceEqDiff, Nat.reduceAdd, Nat.reduceSub, Nat.reduceMul, Nat.reduceLeDiff, Int.reduceLT, Int.reduceLE, Int.reduceEq, ↓reduceIte, Int.reduceNeg, Int.reduceAdd, Int.reduceSub, Int.reduceMul, true_imp_iff, forall_const, Nat.mul_one, Int.reduceToNat, Nat.reducePow, Int.reducePow, Bool.true_and, Bool.false_and, Bool.and_false, ←hF]
  have h0 : LX σ b s 0 0 [] (σ.set b (some (.obj [.str s, .int .i64 0, .int .i64 0, .sl .full []]))) := ⟨.full, .inl ⟨rfl, rfl, rfl⟩⟩
  refine wp_loop_on (fun (i : Nat × Nat × List Tok) a σ' => i.1 ≤ s.length ∧ i.2.1 ≤ i.1 ∧ i.2.2.length ≤ i.1 ∧ LX σ b s i.1 i.2.1 i.2.2 σ' ∧ (∃ k, (s.drop i.1).length < k ∧ lexF k (s.drop i.1) i.1 i.2.1 i.2.2 = R) ∧ (a 0 = .str s ∧ a 5 = .ptr b 0))
    (fun i => s.length - i.1) (0, 0, []) ⟨Nat.zero_le _, Nat.le_refl _, Nat.le_refl _, h0, ⟨s.length + 1, by simp, hR⟩, ?_⟩ ?_
  · simp (disch := first | assumption | omega | (simp only [List.length_append, List.length_cons, List.length_nil]; omega)) only [go_sem, reduceCtorEq, Nat.reduceEqDiff, Nat.reduceAdd, Nat.reduceSub, Nat.reduceMul, Nat.reduceLeDiff, Int.reduceLT, Int.reduceLE, Int.reduceEq, ↓reduceIte, Int.reduceNeg, Int.reduceAdd, Int.reduceSub, Int.reduceMul, true_imp_iff, forall_const, Nat.mul_one, Int.reduceToNat, Nat.reducePow, Int.reducePow, Bool.true_and, Bool.false_and, Bool.and_false]
  rintro ⟨p, c, ts⟩ a σ1 ⟨hp, hc, ht, hL, ⟨k, hk, hlex⟩, hf⟩
  dsimp only at hp hc ht hL hk hlex hf
  have hB : Bnd s p c ts := ⟨hs, hp, hc, by omega⟩
  have hU1 := After.u8 hU hb hL
  obtain ⟨kk, hg, hcell⟩ := hL.cell
  cases k with
  | zero => omega
  | succ k =>
  rw [List.length_drop] at hk
  by_cases hlt : p < s.length
  · have hne : s.drop p ≠ [] := by
      intro h
      have := congrArg List.length h
      simp at this
      omega
    have hlt' : (p : Int) < s.length := by omega
    have hfit := stepP_fits _ hne
    have hnx := tnext_ok hU1 hL hB hlt
    rw [lexF, if_neg hne] at hlex
    obtain ⟨st, hst⟩ : ∃ st, stepP (s.drop p) = st := ⟨_, rfl⟩
    rw [hst] at hlex hfit hnx
    rw [List.length_drop] at hfit
    simp (disch := first | assumption | omega | (simp only [List.length_append, List.length_cons, List.length_nil]; omega)) only [go_sem, reduceCtorEq, Nat.reduceEqDiff, Nat.reduceAdd, Nat.reduceSub, Nat.reduceMul, Nat.reduceLeDiff, Int.reduceLT, Int.reduceLE, Int.reduceEq, ↓reduceIte, Int.reduceNeg, Int.reduceAdd, Int.reduceSub, Int.reduceMul, true_imp_iff, forall_const, Nat.mul_one, Int.reduceToNat, Nat.reducePow, Int.reducePow, Bool.true_and, Bool.false_and, Bool.and_false, hf, hcell, hlt', ←hF]
    refine hnx.mono ?_
    intro v σ' hA
    cases st with
    | bad j =>
      obtain ⟨rfl, c', hL2⟩ := hA
      obtain ⟨k2, hg2, hcell2⟩ := hL2.cell
      dsimp only at hlex
      subst hlex
      simp (disch := first | assumption | omega | (simp only [List.length_append, List.length_cons, List.length_nil]; omega)) only [go_sem, reduceCtorEq, Nat.reduceEqDiff, Nat.reduceAdd, Nat.reduceSub, Nat.reduceMul, Nat.reduceLeDiff, Int.reduceLT, Int.reduceLE, Int.reduceEq, ↓reduceIte, Int.reduceNeg, Int.reduceAdd, Int.reduceSub, Int.reduceMul, true_imp_iff, forall_const, Nat.mul_one, Int.reduceToNat, Nat.reducePow, Int.reducePow, Bool.true_and, Bool.false_and, Bool.and_false, hf, hcell2, ←hF]
      exact retC_by (Drop.trans hg2.drop (Drop.set hb)) (.tuple (.cons (.sl _ _) (.cons (.refl _) (.cons (.refl _) .nil)))) ⟨rfl, rfl⟩
    | blank =>
      obtain ⟨rfl, hL2⟩ := hA
      dsimp only at hlex
      rw [List.drop_drop] at hlex
      simp (disch := first | assumption | omega | (simp only [List.length_append, List.length_cons, List.length_nil]; omega)) only [go_sem, reduceCtorEq, Nat.reduceEqDiff, Nat.reduceAdd, Nat.reduceSub, Nat.reduceMul, Nat.reduceLeDiff, Int.reduceLT, Int.reduceLE, Int.reduceEq, ↓reduceIte, Int.reduceNeg, Int.reduceAdd, Int.reduceSub, Int.reduceMul, true_imp_iff, forall_const, Nat.mul_one, Int.reduceToNat, Nat.reducePow, Int.reducePow, Bool.true_and, Bool.false_and, Bool.and_false, hf, ←hF]
      exact ⟨(p + 1, c + 1, ts), by dsimp only; omega, by dsimp only; omega, by dsimp only; omega, by dsimp only; omega, hL2, ⟨k, by simp; omega, hlex⟩⟩
    | tok kd t n =>
      obtain ⟨rfl, hL2⟩ := hA
      dsimp only at hlex
      rw [List.drop_drop] at hlex
      obtain ⟨g1, g2⟩ := hfit.2 kd t n rfl
      have hsn := signsN_le ((s.drop p).take n)
      rw [take_len (by omega)] at hsn
      simp (disch := first | assumption | omega | (simp only [List.length_append, List.length_cons, List.length_nil]; omega)) only [go_sem, reduceCtorEq, Nat.reduceEqDiff, Nat.reduceAdd, Nat.reduceSub, Nat.reduceMul, Nat.reduceLeDiff, Int.reduceLT, Int.reduceLE, Int.reduceEq, ↓reduceIte, Int.reduceNeg, Int.reduceAdd, Int.reduceSub, Int.reduceMul, true_imp_iff, forall_const, Nat.mul_one, Int.reduceToNat, Nat.reducePow, Int.reducePow, Bool.true_and, Bool.false_and, Bool.and_false, hf, ←hF]
      exact ⟨(p + n, c + signsN ((s.drop p).take n), ts ++ [⟨kd, t, p, c⟩]), by dsimp only; omega, by dsimp only; omega, by dsimp only; omega, by simp; omega, hL2, ⟨k, by simp; omega, hlex⟩⟩
  · have hlt' : ¬ (p : Int) < s.length := by omega
    have hpe : s.drop p = [] := List.drop_eq_nil_of_le (by omega)
    rw [lexF, hpe, if_pos rfl] at hlex
    subst hlex
    simp (disch := first | assumption | omega | (simp only [List.length_append, List.length_cons, List.length_nil]; omega)) only [go_sem, reduceCtorEq, Nat.reduceEqDiff, Nat.reduceAdd, Nat.reduceSub, Nat.reduceMul, Nat.reduceLeDiff, Int.reduceLT, Int.reduceLE, Int.reduceEq, ↓reduceIte, Int.reduceNeg, Int.reduceAdd, Int.reduceSub, Int.reduceMul, true_imp_iff, forall_const, Nat.mul_one, Int.reduceToNat, Nat.reducePow, Int.reducePow, Bool.true_and, Bool.false_and, Bool.and_false, hf, hcell, hlt', ←hF]
    rw [hF]
    simp (disch := first | assumption | omega | (simp only [List.length_append, List.length_cons, List.length_nil]; omega)) only [go_sem, reduceCtorEq, Nat.reduceEqDiff, Nat.reduceAdd, Nat.reduceSub, Nat.reduceMul, Nat.reduceLeDiff, Int.reduceLT, Int.reduceLE, Int.reduceEq, ↓reduceIte, Int.reduceNeg, Int.reduceAdd, Int.reduceSub, Int.reduceMul, true_imp_iff, forall_const, Nat.mul_one, Int.reduceToNat, Nat.reducePow, Int.reducePow, Bool.true_and, Bool.false_and, Bool.and_false, hf]
    refine (put_ok hL hB 0 [] 0 (by omega)).mono ?_
    rintro v σ' ⟨rfl, hL2⟩
    obtain ⟨k2, hg2, hcell2⟩ := hL2.cell
    have hz : signsN ((s.drop p).take 0) = 0 := by rw [List.take_zero]; rfl
    simp (disch := first | assumption | omega | (simp only [List.length_append, List.length_cons, List.length_nil]; omega)) only [go_sem, reduceCtorEq, Nat.reduceEqDiff, Nat.reduceAdd, Nat.reduceSub, Nat.reduceMul, Nat.reduceLeDiff, Int.reduceLT, Int.reduceLE, Int.reduceEq, ↓reduceIte, Int.reduceNeg, Int.reduceAdd, Int.reduceSub, Int.reduceMul, true_imp_iff, forall_const, Nat.mul_one, Int.reduceToNat, Nat.reducePow, Int.reducePow, Bool.true_and, Bool.false_and, Bool.and_false, hf, hcell2]
    exact retC_by (Drop.trans hg2.drop (Drop.set hb)) (.tuple (.cons (.sl _ _) (.cons (.refl _) (.cons (.refl _) .nil)))) ⟨rfl, rfl⟩
end Go.A
