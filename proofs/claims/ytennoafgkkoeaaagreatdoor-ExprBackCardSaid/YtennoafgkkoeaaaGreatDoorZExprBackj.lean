/- Part 10 of what ExprBack leans on: Zk CodeEm Em CodeEn. -/
import Derived.Test.YtennoafgkkoeaaaGreatDoorProg
import Derived.KernelRfl
import Derived.Test.YtennoafgkkoeaaaGreatDoorZExprBacki
namespace Go.A
open Go.Proofs Go.Lib
set_option maxRecDepth 100000
set_option linter.unusedSimpArgs false
set_option linter.unusedVariables false
def lexCells (s : List UInt8) (p c : Nat) (ts : List Tok) (k : SK) : List AV := [.str s, .int .i64 p, .int .i64 c, .sl k (ts.map tokAV)]
def LX (σ0 : ASt) (b : Nat) (s : List UInt8) (p c : Nat) (ts : List Tok) (σ : ASt) : Prop := GO σ0 b (lexCells s p c ts) (ts.map tokAV).length 4 σ
theorem LX.cell {σ0 σ : ASt} {b : Nat} {s : List UInt8} {p c : Nat} {ts : List Tok} (h : LX σ0 b s p c ts σ) : ∃ k, Grown (σ0.set b (some (.obj [.str s, .int .i64 p, .int .i64 c, .sl k (ts.map tokAV)]))) σ k (ts.map tokAV).length 4 ∧ σ b = some (.obj [.str s, .int .i64 p, .int .i64 c, .sl k (ts.map tokAV)]) := by
  obtain ⟨k, hg⟩ := h
  exact ⟨k, hg, GO.cell (cs := lexCells s p c ts) hg⟩
structure Bnd (s : List UInt8) (p c : Nat) (ts : List Tok) : Prop where
  hs : s.length ≤ 100000
  hp : p ≤ s.length
  hc : c ≤ p
  ht : ts.length ≤ 200000
theorem take_len {s : List UInt8} {p n : Nat} (h : p + n ≤ s.length) : ((s.drop p).take n).length = n := by simp; omega
theorem cut_eq {s : List UInt8} {p n : Nat} : (s.take (p + n)).drop p = (s.drop p).take n := by rw [List.drop_take]; congr 1; omega
set_option maxHeartbeats 1000000 in
theorem put_ok {σ0 σ : ASt} {b : Nat} {s : List UInt8} {p c : Nat} {ts : List Tok} (h : LX σ0 b s p c ts σ) (hB : Bnd s p c ts) (kind : Int) (text : List UInt8) (n : Nat) (hn : p + n ≤ s.length) :
    ACalls Tryz.prog 107 [.ptr b 0, .int .i64 kind, .str text, .int .i64 n] σ fun v σ' => v = .tuple [] ∧ LX σ0 b s (p + n) (c + signsN ((s.drop p).take n)) (ts ++ [Tok.mk kind text p c]) σ' := by
  obtain ⟨k, hg, hb⟩ := h.cell
  obtain ⟨hs, hp, hc, ht⟩ := hB
  have hm : ts.map tokAV ++ [tokAV (Tok.mk kind text p c)] = (ts ++ [Tok.mk kind text p c]).map tokAV := by simp
  have hlen : (ts.map tokAV).length = ts.length := by simp
  have e1 : ((p : Int) + n).toNat = p + n := by omega
  have e2 := cut_eq (s := s) (p := p) (n := n)
  have hsl := signsN_le ((s.drop p).take n)
  rw [take_len hn] at hsl
  refine a107 (by simp) ?_
  simp (disch := first | assumption | omega | (simp only [List.length_append, List.length_cons, List.length_nil]; omega)) only [go_sem, reduceCtorEq, Nat.reduceEqDiff, Nat.reduceAdd, Nat.reduceLeDiff, ↓reduceIte, Bool.true_and, hb]
  refine appC_by (ys := [tokAV (Tok.mk kind text p c)]) hg rfl rfl (by simp only [hlen, List.length_cons, List.length_nil]; omega) (by simp only [hlen, List.length_cons, List.length_nil]; omega) fun k' σ' hg' => ?_
  rw [hm] at hg' ⊢
  have hb' := hg'.at (ASt.set_same _ _ _)
  have hg2 := hg'.obj (r' := .obj [.str s, .int .i64 p, .int .i64 c, .sl k' ((ts ++ [Tok.mk kind text p c]).map tokAV)])
  simp (disch := first | assumption | omega | (simp only [List.length_append, List.length_cons, List.length_nil]; omega)) only [go_sem, reduceCtorEq, Nat.reduceEqDiff, Nat.reduceAdd, Nat.reduceLeDiff, ↓reduceIte, Bool.true_and, hb', e1, e2]
  refine (count_ok _ (by rw [take_len hn]; omega)).use ?_
  simp (disch := first | assumption | omega | (simp only [List.length_append, List.length_cons, List.length_nil]; omega)) only [go_sem, reduceCtorEq, Nat.reduceEqDiff, Nat.reduceAdd, Nat.reduceLeDiff, ↓reduceIte, Bool.true_and, ASt.set_set]
  refine retC_by (Drop.refl _) (.refl _) ⟨rfl, k', ?_⟩
  exact hg'.obj (r' := .obj [.str s, .int .i64 (p + n : Nat), .int .i64 (c + signsN ((s.drop p).take n) : Nat), .sl k' ((ts ++ [Tok.mk kind text p c]).map tokAV)])
theorem pass_ok {σ0 σ : ASt} {b : Nat} {s : List UInt8} {p c : Nat} {ts : List Tok} (h : LX σ0 b s p c ts σ) (hB : Bnd s p c ts) (n : Nat) (hn : p + n ≤ s.length) :
    ACalls Tryz.prog 120 [.ptr b 0, .int .i64 (p + n : Nat)] σ fun v σ' => v = .tuple [] ∧ LX σ0 b s (p + n) (c + signsN ((s.drop p).take n)) ts σ' := by
  obtain ⟨k, hg, hb⟩ := h.cell
  obtain ⟨hs, hp, hc, ht⟩ := hB
  have e1 : (((p + n : Nat) : Int)).toNat = p + n := by omega
  have e2 := cut_eq (s := s) (p := p) (n := n)
  have hsl := signsN_le ((s.drop p).take n)
  rw [take_len hn] at hsl
  have e3 : ((p + n : Nat) : Int) ≤ s.length := by omega
  have e4 : (p : Int) ≤ ((p + n : Nat) : Int) := by omega
  obtain ⟨q, hq⟩ : ∃ q, p + n = q := ⟨_, rfl⟩
  rw [hq] at e1 e2 e3 e4 ⊢
  refine a120 (by simp) ?_
  simp (disch := first | assumption | omega | (simp only [List.length_append, List.length_cons, List.length_nil]; omega)) only [go_sem, reduceCtorEq, Nat.reduceEqDiff, ↓reduceIte, hb, e1, e2]
  refine (count_ok _ (by rw [take_len hn]; omega)).use ?_
  simp (disch := first | assumption | omega | (simp only [List.length_append, List.length_cons, List.length_nil]; omega)) only [go_sem, reduceCtorEq, Nat.reduceEqDiff, Nat.reduceAdd, Nat.reduceLeDiff, ↓reduceIte, Bool.true_and, hb, ASt.set_set]
  refine retC_by (Drop.refl _) (.refl _) ⟨rfl, k, ?_⟩
  exact hg.obj (r' := .obj [.str s, .int .i64 q, .int .i64 (c + signsN ((s.drop p).take n) : Nat), .sl k (ts.map tokAV)])
theorem dec_bd (l : List UInt8) : (decodeL l).1 ≤ 1114111 ∧ 1 ≤ (decodeL l).2 := ⟨decodeL_rune l, decodeL_width l⟩
theorem sign_ok {σ0 σ : ASt} (hU : U8 σ) {b : Nat} {s : List UInt8} {p c : Nat} {ts : List Tok} (h : LX σ0 b s p c ts σ) (hB : Bnd s p c ts) (hp : p < s.length) :
    ACalls Tryz.prog 119 [.ptr b 0] σ fun v σ' => v = .tuple [.int .i32 (if decodeL (s.drop p) = (65533, 1) then 0 else (decodeL (s.drop p)).1), .int .i64 (if decodeL (s.drop p) = (65533, 1) then -1 else (decodeL (s.drop p)).2)] ∧ σ' = σ := by
  obtain ⟨k, hg, hb⟩ := h.cell
  obtain ⟨hs, _, hc, ht⟩ := hB
  have hne : s.drop p ≠ [] := by
    intro h
    have := congrArg List.length h
    simp at this
    omega
  have hd := dec_ok hU hne
  obtain ⟨⟨r, w⟩, hD⟩ : ∃ D, decodeL (s.drop p) = D := ⟨_, rfl⟩
  rw [hD] at hd ⊢
  dsimp only at hd ⊢
  have e1 : ¬ (s.length : Int) ≤ p := by omega
  refine a119 (by simp) ?_
  simp (disch := first | assumption | omega | (simp only [List.length_append, List.length_cons, List.length_nil]; omega)) only [go_sem, reduceCtorEq, Nat.reduceEqDiff, ↓reduceIte, Int.reduceNeg, hb, e1, List.take_length]
  refine hd.mono ?_
  rintro v σ' ⟨rfl, rfl⟩
  by_cases h1 : (r : Int) = 65533
  · by_cases h2 : (w : Int) = 1
    · have e : (r, w) = (65533, 1) := by rw [Prod.mk.injEq]; omega
      rw [if_pos e, if_pos e]
      simp (disch := first | assumption | omega | (simp only [List.length_append, List.length_cons, List.length_nil]; omega)) only [go_sem, Nat.reduceEqDiff, ↓reduceIte, Int.reduceNeg, h1, h2]
      exact retC_by (Drop.refl _) (.refl _) ⟨rfl, rfl⟩
    · have e : ¬ (r, w) = (65533, 1) := by rw [Prod.mk.injEq]; omega
      rw [if_neg e, if_neg e]
      simp (disch := first | assumption | omega | (simp only [List.length_append, List.length_cons, List.length_nil]; omega)) only [go_sem, Nat.reduceEqDiff, ↓reduceIte, h1, h2]
      exact retC_by (Drop.refl _) (.refl _) ⟨rfl, rfl⟩
  · have e : ¬ (r, w) = (65533, 1) := by rw [Prod.mk.injEq]; omega
    rw [if_neg e, if_neg e]
    simp (disch := first | assumption | omega | (simp only [List.length_append, List.length_cons, List.length_nil]; omega)) only [go_sem, Nat.reduceEqDiff, ↓reduceIte, h1]
    exact retC_by (Drop.refl _) (.refl _) ⟨rfl, rfl⟩
def After (σ0 : ASt) (b : Nat) (s : List UInt8) (p c : Nat) (ts : List Tok) : Step → AV → ASt → Prop
  | .bad k, v, σ' => v = .int .i64 10 ∧ ∃ c', LX σ0 b s (p + k) c' ts σ'
  | .blank, v, σ' => v = .int .i64 0 ∧ LX σ0 b s (p + 1) (c + 1) ts σ'
  | .tok kind t n, v, σ' => v = .int .i64 0 ∧ LX σ0 b s (p + n) (c + signsN ((s.drop p).take n)) (ts ++ [⟨kind, t, p, c⟩]) σ'
set_option maxHeartbeats 1000000 in
theorem words_ok {σ0 σ : ASt} {b : Nat} {s : List UInt8} {p c : Nat} {ts : List Tok} (h : LX σ0 b s p c ts σ) (hB : Bnd s p c ts) :
    ACalls Tryz.prog 122 [.ptr b 0] σ fun v σ' => After σ0 b s p c ts (wordsS (s.drop p)) v σ' := by
  obtain ⟨k, hg, hb⟩ := h.cell
  have hB' := hB
  obtain ⟨hs, hp, hc, ht⟩ := hB
  have hrl := runL_le wordB (s.drop p)
  obtain ⟨st, hst⟩ : ∃ st, wordsS (s.drop p) = st := ⟨_, rfl⟩
  rw [hst]
  unfold wordsS at hst
  dsimp only at hst
  obtain ⟨n, hn⟩ : ∃ n, runL wordB (s.drop p) = n := ⟨_, rfl⟩
  rw [hn] at hst hrl
  rw [List.length_drop] at hrl
  have hwl : ((s.drop p).take n).length = n := take_len (by omega)
  obtain ⟨w, hw⟩ : ∃ w, (s.drop p).take n = w := ⟨_, rfl⟩
  rw [hw] at hst hwl
  have i1 := isNum_ok w (by omega)
  have i2 := isRef_ok w (by omega)
  have i3 := isName_ok w (by omega)
  have i4 := tgreat_ok w (by omega)
  have P1 := fun kind text => put_ok h hB' kind text n (by omega)
  refine a122 (by simp) ?_
  obtain ⟨F, hF⟩ : ∃ F, F = ACode.wp Tryz.prog c122_29 := ⟨_, rfl⟩
  simp (disch := first | assumption | omega | (simp only [List.length_append, List.length_cons, List.length_nil]; omega)) only [go_sem, ←hF]
  refine wp_loop_on (fun (i : Nat) a σ' => i ≤ n ∧ i + runL wordB (s.drop (p + i)) = n ∧ (a 0 = .ptr b 0 ∧ a 3 = .int .i64 i) ∧ σ' = σ) (fun i => n - i) 0 ⟨Nat.zero_le _, by rw [Nat.add_zero, Nat.zero_add]; exact hn, ?_, rfl⟩ ?_
  · simp (disch := first | assumption | omega | (simp only [List.length_append, List.length_cons, List.length_nil]; omega)) only [go_sem, reduceCtorEq, ↓reduceIte]
  rintro i a σ1 ⟨hi, hrun, hf, rfl⟩
  have fin : i = n → ∀ a : AFr, (a 0 = .ptr b 0 ∧ a 3 = .int .i64 i) → F (RetQ [.t 2] fun v σ' => After σ0 b s p c ts st v σ') a σ1 := by
    rintro rfl a hf
    have e1 : ((p : Int) + i).toNat = p + i := by omega
    have e2 : (s.take (p + i)).drop p = w := by rw [cut_eq, hw]
    rw [hF]
    simp (disch := first | assumption | omega | (simp only [List.length_append, List.length_cons, List.length_nil]; omega)) only [go_sem, reduceCtorEq, Nat.reduceEqDiff, ↓reduceIte, hf, hb, e1, e2]
    refine i1.use ?_
    cases hnum : numB w with
    | true =>
      rw [hnum, if_pos rfl] at hst
      subst hst
      simp (disch := first | assumption | omega | (simp only [List.length_append, List.length_cons, List.length_nil]; omega)) only [go_sem, reduceCtorEq, Nat.reduceEqDiff, ↓reduceIte, hf]
      refine (P1 1 w).mono ?_
      rintro v σ' ⟨rfl, hL⟩
      simp (disch := first | assumption | omega | (simp only [List.length_append, List.length_cons, List.length_nil]; omega)) only [go_sem, ↓reduceIte]
      exact retC_by (Drop.refl _) (.refl _) ⟨rfl, hL⟩
    | false =>
    rw [hnum, if_neg (by simp)] at hst
    simp (disch := first | assumption | omega | (simp only [List.length_append, List.length_cons, List.length_nil]; omega)) only [go_sem, Nat.reduceEqDiff, ↓reduceIte]
    refine i2.use ?_
    cases href : refB w with
    | true =>
      rw [href, if_pos rfl] at hst
      subst hst
      simp (disch := first | assumption | omega | (simp only [List.length_append, List.length_cons, List.length_nil]; omega)) only [go_sem, reduceCtorEq, Nat.reduceEqDiff, ↓reduceIte, hf]
      refine i4.use ?_
      simp (disch := first | assumption | omega | (simp only [List.length_append, List.length_cons, List.length_nil]; omega)) only [go_sem, Nat.reduceEqDiff, ↓reduceIte, hf]
      refine (P1 4 (greatP w)).mono ?_
      rintro v σ' ⟨rfl, hL⟩
      simp (disch := first | assumption | omega | (simp only [List.length_append, List.length_cons, List.length_nil]; omega)) only [go_sem, ↓reduceIte]
      exact retC_by (Drop.refl _) (.refl _) ⟨rfl, hL⟩
    | false =>
    rw [href, if_neg (by simp)] at hst
    simp (disch := first | assumption | omega | (simp only [List.length_append, List.length_cons, List.length_nil]; omega)) only [go_sem, Nat.reduceEqDiff, ↓reduceIte]
    refine i3.use ?_
    cases hnam : nameB w with
    | true =>
      rw [hnam, if_pos rfl] at hst
      subst hst
      simp (disch := first | assumption | omega | (simp only [List.length_append, List.length_cons, List.length_nil]; omega)) only [go_sem, reduceCtorEq, Nat.reduceEqDiff, ↓reduceIte, hf]
      refine i4.use ?_
      simp (disch := first | assumption | omega | (simp only [List.length_append, List.length_cons, List.length_nil]; omega)) only [go_sem, Nat.reduceEqDiff, ↓reduceIte, hf]
      refine (P1 3 (greatP w)).mono ?_
      rintro v σ' ⟨rfl, hL⟩
      simp (disch := first | assumption | omega | (simp only [List.length_append, List.length_cons, List.length_nil]; omega)) only [go_sem, ↓reduceIte]
      exact retC_by (Drop.refl _) (.refl _) ⟨rfl, hL⟩
    | false =>
      rw [hnam, if_neg (by simp)] at hst
      subst hst
      simp (disch := first | assumption | omega | (simp only [List.length_append, List.length_cons, List.length_nil]; omega)) only [go_sem, ↓reduceIte]
      exact retC_by (Drop.refl _) (.refl _) ⟨rfl, c, h⟩
  by_cases hlt : p + i < s.length
  · have hidx : s[p + i]? = some (s[p + i]'hlt) := List.getElem?_eq_getElem hlt
    obtain ⟨d, hd⟩ : ∃ d, s[p + i]'hlt = d := ⟨_, rfl⟩
    rw [hd] at hidx
    have e3 : ((p : Int) + i) < s.length := by omega
    have e4 : ((p : Int) + i).toNat = p + i := by omega
    rw [List.drop_eq_getElem_cons hlt, hd, runL] at hrun
    simp (disch := first | assumption | omega | (simp only [List.length_append, List.length_cons, List.length_nil]; omega)) only [go_sem, reduceCtorEq, Nat.reduceEqDiff, ↓reduceIte, hf, hb, e3, e4, hidx]
    refine (word_ok d).use ?_
    cases hwd : wordB d with
    | true =>
      rw [hwd, if_pos rfl] at hrun
      simp (disch := first | assumption | omega | (simp only [List.length_append, List.length_cons, List.length_nil]; omega)) only [go_sem, reduceCtorEq, Nat.reduceEqDiff, ↓reduceIte, hf]
      exact ⟨i + 1, by omega, by omega, by rw [← Nat.add_assoc]; omega, rfl⟩
    | false =>
      rw [hwd, if_neg (by simp)] at hrun
      simp (disch := first | assumption | omega | (simp only [List.length_append, List.length_cons, List.length_nil]; omega)) only [go_sem, Nat.reduceEqDiff, ↓reduceIte]
      refine fin (by omega) _ ?_
      simp (disch := first | assumption | omega | (simp only [List.length_append, List.length_cons, List.length_nil]; omega)) only [go_sem, reduceCtorEq, Nat.reduceEqDiff, ↓reduceIte, hf]
  · have e : s.drop (p + i) = [] := List.drop_eq_nil_of_le (by omega)
    rw [e, runL] at hrun
    have e3 : ¬ ((p : Int) + i) < s.length := by omega
    simp (disch := first | assumption | omega | (simp only [List.length_append, List.length_cons, List.length_nil]; omega)) only [go_sem, reduceCtorEq, Nat.reduceEqDiff, ↓reduceIte, hf, hb, e3]
    refine fin (by omega) _ ?_
    simp (disch := first | assumption | omega | (simp only [List.length_append, List.length_cons, List.length_nil]; omega)) only [go_sem, reduceCtorEq, Nat.reduceEqDiff, ↓reduceIte, hf]
end Go.A
namespace Go.A
open Go.Proofs Go.Lib
set_option maxRecDepth 100000
set_option linter.unusedSimpArgs false
set_option linter.unusedVariables false
theorem errTexts_len : ∀ e ∈ errTexts, 1 ≤ e.length ∧ e.length ≤ 7 := by decide
set_option maxHeartbeats 1000000 in
theorem lfail_ok {σ0 σ : ASt} {b : Nat} {s : List UInt8} {p c : Nat} {ts : List Tok} (h : LX σ0 b s p c ts σ) (hB : Bnd s p c ts) :
    ACalls Tryz.prog 124 [.ptr b 0] σ fun v σ' => After σ0 b s p c ts (failS (s.drop p) errTexts) v σ' := by
  obtain ⟨k, hg, hb⟩ := h.cell
  have hB' := hB
  obtain ⟨hs, hp, hc, ht⟩ := hB
  obtain ⟨st, hst⟩ : ∃ st, failS (s.drop p) errTexts = st := ⟨_, rfl⟩
  rw [hst]
  have hE := errTexts_len
  have herr := errs_ok
  obtain ⟨E, hE2⟩ : ∃ E, errTexts = E := ⟨_, rfl⟩
  have hEl : E.length = 7 := by rw [← hE2]; rfl
  rw [hE2] at hst hE herr
  clear hE2
  refine a124 (by simp) ?_
  simp (disch := first | assumption | omega | (simp only [List.length_append, List.length_cons, List.length_nil]; omega)) only [go_sem]
  refine herr.use ?_
  simp (disch := first | assumption | omega | (simp only [List.length_append, List.length_cons, List.length_nil]; omega)) only [go_sem, ↓reduceIte, hEl]
  refine wp_loop_on (fun (i : Nat) a σ' => i ≤ 7 ∧ failS (s.drop p) (E.drop i) = st ∧ (a 0 = .ptr b 0 ∧ a 6 = .sl .full (E.map AV.str) ∧ a 7 = .int .i64 7 ∧ a 8 = .int .i64 i) ∧ σ' = σ) (fun i => 7 - i) 0 ⟨Nat.zero_le _, hst, ?_, rfl⟩ ?_
  · simp (disch := first | assumption | omega | (simp only [List.length_append, List.length_cons, List.length_nil]; omega)) only [go_sem, reduceCtorEq, Nat.reduceEqDiff, ↓reduceIte]
  rintro i a σ1 ⟨hi, hst, hf, rfl⟩
  by_cases hlt : i < 7
  · have hlt' : (i : Int) < 7 := by omega
    have hidx0 : E[i]? = some (E[i]'(by omega)) := List.getElem?_eq_getElem (by omega)
    obtain ⟨h1, h2⟩ := hE _ (List.getElem_mem (by omega : i < E.length))
    rw [List.drop_eq_getElem_cons (by omega : i < E.length), failS] at hst
    obtain ⟨e, he⟩ : ∃ e, E[i]'(by omega) = e := ⟨_, rfl⟩
    rw [he] at hidx0 hst h1 h2
    have hidx : (E.map AV.str)[i]? = some (.str e) := by rw [List.getElem?_map, hidx0]; rfl
    rw [List.length_drop] at hst
    by_cases hfit : p + e.length ≤ s.length
    · have e1 : (p : Int) + e.length ≤ s.length := by omega
      have e2 : ((p : Int) + e.length).toNat = p + e.length := by omega
      have e3 := cut_eq (s := s) (p := p) (n := e.length)
      have hgr := tgreat_ok ((s.drop p).take e.length) (by rw [take_len hfit]; omega)
      simp (disch := first | assumption | omega | (simp only [List.length_append, List.length_cons, List.length_nil]; omega)) only [go_sem, reduceCtorEq, Nat.reduceEqDiff, ↓reduceIte, hf, hb, hlt', hidx, e1, e2, e3]
      refine hgr.use ?_
      by_cases heq : greatP ((s.drop p).take e.length) = e
      · rw [if_pos ⟨by omega, heq⟩] at hst
        subst hst
        simp (disch := first | assumption | omega | (simp only [List.length_append, List.length_cons, List.length_nil]; omega)) only [go_sem, reduceCtorEq, Nat.reduceEqDiff, ↓reduceIte, hf, heq]
        refine (put_ok h hB' 5 e e.length hfit).mono ?_
        rintro v σ' ⟨rfl, hL⟩
        simp (disch := first | assumption | omega | (simp only [List.length_append, List.length_cons, List.length_nil]; omega)) only [go_sem, ↓reduceIte]
        exact retC_by (Drop.refl _) (.refl _) ⟨rfl, hL⟩
      · rw [if_neg (by rintro ⟨_, h⟩; exact heq h)] at hst
        simp (disch := first | assumption | omega | (simp only [List.length_append, List.length_cons, List.length_nil]; omega)) only [go_sem, reduceCtorEq, Nat.reduceEqDiff, ↓reduceIte, hf, heq]
        refine ⟨i + 1, by omega, by omega, hst, rfl⟩
    · have e1 : ¬ (p : Int) + e.length ≤ s.length := by omega
      rw [if_neg (by rintro ⟨h, _⟩; omega)] at hst
      simp (disch := first | assumption | omega | (simp only [List.length_append, List.length_cons, List.length_nil]; omega)) only [go_sem, reduceCtorEq, Nat.reduceEqDiff, ↓reduceIte, hf, hb, hlt', hidx, e1]
      refine ⟨i + 1, by omega, by omega, hst, rfl⟩
  · have hlt' : ¬ (i : Int) < 7 := by omega
    rw [List.drop_eq_nil_of_le (show E.length ≤ i by omega), failS] at hst
    subst hst
    simp (disch := first | assumption | omega | (simp only [List.length_append, List.length_cons, List.length_nil]; omega)) only [go_sem, ↓reduceIte, hf, hlt']
    exact retC_by (Drop.refl _) (.refl _) ⟨rfl, c, h⟩
theorem mem_index (c : UInt8) : ∀ l : List UInt8, (-1 ≤ indexByte l c) ∧ (0 ≤ indexByte l c ↔ c ∈ l)
  | [] => by simp [indexByte]
  | x :: l => by
    obtain ⟨h1, h2⟩ := mem_index c l
    unfold indexByte
    by_cases hx : x = c
    · subst hx; simp
    · have hx' : ¬ (x == c) = true := by simpa using hx
      rw [if_neg hx']
      by_cases hm : indexByte l c = -1
      · rw [if_pos (by simpa using hm)]
        refine ⟨by omega, ?_⟩
        simp only [List.mem_cons, ← h2, hm]
        constructor
        · intro h; omega
        · rintro (h | h)
          · exact absurd h.symm hx
          · omega
      · rw [if_neg (by simpa using hm)]
        refine ⟨by omega, ?_⟩
        simp only [List.mem_cons, ← h2]
        constructor
        · intro h; right; omega
        · rintro (h | h)
          · exact absurd h.symm hx
          · omega
theorem twos_len : ∀ e ∈ twos, e.length = 2 := by decide
set_option maxHeartbeats 1000000 in
theorem op_ok {σ0 σ : ASt} {b : Nat} {s : List UInt8} {p c : Nat} {ts : List Tok} (h : LX σ0 b s p c ts σ) (hB : Bnd s p c ts) (hp1 : p < s.length) (r : Int) (n : Nat) (hn : p + n ≤ s.length) :
    ACalls Tryz.prog 125 [.ptr b 0, .int .i32 r, .int .i64 n] σ fun v σ' => After σ0 b s p c ts (opS r n (s.drop p)) v σ' := by
  obtain ⟨k, hg, hb⟩ := h.cell
  have hB' := hB
  obtain ⟨hs, hp, hc, ht⟩ := hB
  obtain ⟨st, hst⟩ : ∃ st, opS r n (s.drop p) = st := ⟨_, rfl⟩
  rw [hst]
  unfold opS at hst
  have hal := alike_ok r
  obtain ⟨A, hA⟩ : ∃ A, alikeP r = A := ⟨_, rfl⟩
  rw [hA] at hst hal
  obtain ⟨F, hF⟩ : ∃ F, F = ACode.wp Tryz.prog c125_39 := ⟨_, rfl⟩
  refine a125 (by simp) ?_
  simp (disch := first | assumption | omega | (simp only [List.length_append, List.length_cons, List.length_nil]; omega)) only [go_sem, Nat.reduceEqDiff, ↓reduceIte]
  refine hal.use ?_
  by_cases hA0 : A = []
  · subst hA0
    rw [if_neg (by simp)] at hst
    have hE := twos_len
    obtain ⟨E, hE2⟩ : ∃ E, twos = E := ⟨_, rfl⟩
    have hEl : E.length = 3 := by rw [← hE2]; rfl
    have hEm : E.map AV.str = [AV.str [60, 61], AV.str [62, 61], AV.str [60, 62]] := by rw [← hE2]; rfl
    rw [hE2] at hst hE
    simp (disch := first | assumption | omega | (simp only [List.length_append, List.length_cons, List.length_nil]; omega)) only [go_sem, Nat.reduceAdd, ↓reduceIte, Bool.true_and, ←hF]
    refine wp_loop_on (fun (i : Nat) a σ' => i ≤ 3 ∧ (match twoS (s.drop p) (E.drop i) with | some e => Step.tok 6 e 2 | none => if ((s.drop p).headD 0) ∈ opChars then .tok 6 ((s.drop p).take 1) 1 else .bad 0) = st ∧ (a 0 = .ptr b 0 ∧ a 18 = .sl .full (E.map AV.str) ∧ a 19 = .int .i64 3 ∧ a 20 = .int .i64 i) ∧ σ' = σ) (fun i => 3 - i) 0 ⟨Nat.zero_le _, hst, ?_, rfl⟩ ?_
    · simp (disch := first | assumption | omega | (simp only [List.length_append, List.length_cons, List.length_nil]; omega)) only [go_sem, reduceCtorEq, Nat.reduceEqDiff, ↓reduceIte, hEm]
    rintro i a σ1 ⟨hi, hst, hf, rfl⟩
    by_cases hlt : i < 3
    · have hlt' : (i : Int) < 3 := by omega
      have hidx0 : E[i]? = some (E[i]'(by omega)) := List.getElem?_eq_getElem (by omega)
      have h2 := hE _ (List.getElem_mem (by omega : i < E.length))
      rw [List.drop_eq_getElem_cons (by omega : i < E.length), twoS] at hst
      obtain ⟨e, he⟩ : ∃ e, E[i]'(by omega) = e := ⟨_, rfl⟩
      rw [he] at hidx0 hst h2
      have hidx : (E.map AV.str)[i]? = some (.str e) := by rw [List.getElem?_map, hidx0]; rfl
      have hpr := prefix_ok (s.drop p) e (by simp; omega) (by omega)
      simp (disch := first | assumption | omega | (simp only [List.length_append, List.length_cons, List.length_nil]; omega)) only [go_sem, reduceCtorEq, Nat.reduceEqDiff, ↓reduceIte, hf, hb, hlt', hidx, List.take_length]
      refine hpr.use ?_
      cases hpe : e.isPrefixOf (s.drop p) with
      | true =>
        rw [hpe, if_pos rfl] at hst
        dsimp only at hst
        subst hst
        have hle : 2 ≤ (s.drop p).length := by
          have := (List.isPrefixOf_iff_prefix.1 hpe).length_le
          omega
        rw [List.length_drop] at hle
        simp (disch := first | assumption | omega | (simp only [List.length_append, List.length_cons, List.length_nil]; omega)) only [go_sem, reduceCtorEq, Nat.reduceEqDiff, ↓reduceIte, hf]
        refine (put_ok h hB' 6 e 2 (by omega)).mono ?_
        rintro v σ' ⟨rfl, hL⟩
        simp (disch := first | assumption | omega | (simp only [List.length_append, List.length_cons, List.length_nil]; omega)) only [go_sem, ↓reduceIte]
        exact retC_by (Drop.refl _) (.refl _) ⟨rfl, hL⟩
      | false =>
        rw [hpe, if_neg (by simp)] at hst
        simp (disch := first | assumption | omega | (simp only [List.length_append, List.length_cons, List.length_nil]; omega)) only [go_sem, reduceCtorEq, Nat.reduceEqDiff, ↓reduceIte, hf]
        exact ⟨i + 1, by omega, by omega, hst, rfl⟩
    · have hlt' : ¬ (i : Int) < 3 := by omega
      rw [List.drop_eq_nil_of_le (show E.length ≤ i by omega), twoS] at hst
      dsimp only at hst
      have hidx : s[p]? = some (s[p]'hp1) := List.getElem?_eq_getElem hp1
      obtain ⟨d, hd⟩ : ∃ d, s[p]'hp1 = d := ⟨_, rfl⟩
      rw [hd] at hidx
      have hdr : s.drop p = d :: s.drop (p + 1) := by rw [List.drop_eq_getElem_cons hp1, hd]
      rw [hdr] at hst
      have hst : (if d ∈ opChars then Step.tok 6 [d] 1 else Step.bad 0) = st := hst
      have hcon := contains_ok opChars d
      obtain ⟨_, hmi⟩ := mem_index d opChars
      have hbb : UInt8.ofNat d.toNat = d := by simp
      simp (disch := first | assumption | omega | (simp only [List.length_append, List.length_cons, List.length_nil]; omega)) only [go_sem, ↓reduceIte, hf, hlt']
      rw [hF]
      simp (disch := first | assumption | omega | (simp only [List.length_append, List.length_cons, List.length_nil]; omega)) only [go_sem, reduceCtorEq, Nat.reduceEqDiff, ↓reduceIte, Bool.true_and, hf, hb, hidx, hbb]
      refine hcon.use ?_
      by_cases hm : d ∈ opChars
      · rw [if_pos hm] at hst
        subst hst
        have e0 := hmi.2 hm
        have e1 : ((p : Int) + 1).toNat = p + 1 := by omega
        have e2 : (s.take (p + 1)).drop p = [d] := by rw [cut_eq (n := 1), hdr]; rfl
        simp (disch := first | assumption | omega | (simp only [List.length_append, List.length_cons, List.length_nil]; omega)) only [go_sem, reduceCtorEq, Nat.reduceEqDiff, ↓reduceIte, hf, hb, e0, e1, e2]
        refine (put_ok h hB' 6 [d] 1 (by omega)).mono ?_
        rintro v σ' ⟨rfl, hL⟩
        simp (disch := first | assumption | omega | (simp only [List.length_append, List.length_cons, List.length_nil]; omega)) only [go_sem, ↓reduceIte]
        exact retC_by (Drop.refl _) (.refl _) ⟨rfl, hL⟩
      · rw [if_neg hm] at hst
        subst hst
        have e0 : ¬ 0 ≤ indexByte opChars d := fun h => hm (hmi.1 h)
        simp (disch := first | assumption | omega | (simp only [List.length_append, List.length_cons, List.length_nil]; omega)) only [go_sem, ↓reduceIte, e0]
        exact retC_by (Drop.refl _) (.refl _) ⟨rfl, c, h⟩
  · rw [if_pos hA0] at hst
    subst hst
    simp (disch := first | assumption | omega | (simp only [List.length_append, List.length_cons, List.length_nil]; omega)) only [go_sem, reduceCtorEq, Nat.reduceEqDiff, ↓reduceIte, hA0]
    refine (put_ok h hB' 6 A n hn).mono ?_
    rintro v σ' ⟨rfl, hL⟩
    simp (disch := first | assumption | omega | (simp only [List.length_append, List.length_cons, List.length_nil]; omega)) only [go_sem, ↓reduceIte]
    exact retC_by (Drop.refl _) (.refl _) ⟨rfl, hL⟩
end Go.A
namespace Go.A
open Go.Proofs Go.Lib
set_option maxRecDepth 100000
set_option linter.unusedSimpArgs false
set_option linter.unusedVariables false
theorem dec_len (l : List UInt8) (hv : decodeL l ≠ (65533, 1)) : runeLen ((decodeL l).1 : Int) = ((decodeL l).2 : Int) := by
  rw [decodeL_N] at hv ⊢
  have k0 := (l.getD 0 0).toNat_lt
  have k1 := (l.getD 1 0).toNat_lt
  have k2 := (l.getD 2 0).toNat_lt
  have k3 := (l.getD 3 0).toNat_lt
  unfold runeLen
  rcases decodeN_shape l.length (l.getD 0 0).toNat (l.getD 1 0).toNat (l.getD 2 0).toNat (l.getD 3 0).toNat with ⟨c, e⟩ | ⟨c1, c2, c3, cv, e⟩ | ⟨c1, c2, c3, c4, cv, cs, e⟩ | ⟨c1, c2, c3, c4, c5, cv, cw, e⟩ | e
  all_goals (rw [e] at hv ⊢; dsimp only at hv ⊢)
  all_goals (try (exact absurd rfl hv))
  all_goals (repeat' split)
  all_goals omega
theorem dec_rune (l : List UInt8) : RuneOk ((decodeL l).1 : Int) := by
  rw [decodeL_N]
  have k0 := (l.getD 0 0).toNat_lt
  have k1 := (l.getD 1 0).toNat_lt
  have k2 := (l.getD 2 0).toNat_lt
  have k3 := (l.getD 3 0).toNat_lt
  unfold RuneOk
  rcases decodeN_shape l.length (l.getD 0 0).toNat (l.getD 1 0).toNat (l.getD 2 0).toNat (l.getD 3 0).toNat with ⟨c, e⟩ | ⟨c1, c2, c3, cv, e⟩ | ⟨c1, c2, c3, c4, cv, cs, e⟩ | ⟨c1, c2, c3, c4, c5, cv, cw, e⟩ | e
  all_goals (rw [e]; dsimp only; omega)
theorem dec_ascii {l : List UInt8} (h0 : l ≠ []) (h : (decodeL l).1 < 128) : ∃ c t, l = c :: t ∧ c.toNat = (decodeL l).1 ∧ (decodeL l).2 = 1 := by
  cases l with
  | nil => exact absurd rfl h0
  | cons c t =>
    refine ⟨c, t, rfl, ?_⟩
    rw [decodeL_N] at h ⊢
    have k0 := ((c :: t).getD 0 0).toNat_lt
    have hc : ((c :: t).getD 0 0) = c := rfl
    rcases decodeN_shape (c :: t).length ((c :: t).getD 0 0).toNat ((c :: t).getD 1 0).toNat ((c :: t).getD 2 0).toNat ((c :: t).getD 3 0).toNat with ⟨c, e⟩ | ⟨c1, c2, c3, cv, e⟩ | ⟨c1, c2, c3, c4, cv, cs, e⟩ | ⟨c1, c2, c3, c4, c5, cv, cw, e⟩ | e
    · rw [e]; exact ⟨rfl, rfl⟩
    all_goals (rw [e] at h; dsimp only at h; omega)
theorem dec_one (c : UInt8) (t : List UInt8) (h : c.toNat < 128) : decodeL (c :: t) = (c.toNat, 1) := by
  rw [decodeL_N]
  unfold decodeN
  rw [if_pos (show ((c :: t).getD 0 0).toNat < 128 from h)]
  rfl
theorem U8.over {τ σ : ASt} (h : U8 τ) (ho : Over τ σ) : U8 σ := ⟨ho.at h.1, ho.at h.2⟩
theorem quotedF_nil : ∀ k p acc, quotedF k [] p acc = .bad 0
  | 0, _, _ => rfl
  | _ + 1, _, _ => by unfold quotedF; rw [if_pos rfl]
theorem enc_le (r : Int) : (encodeRune r).length ≤ 4 := enc_len r
set_option maxHeartbeats 2000000 in
theorem quoted_ok {σ0 τ : ASt} (hU : U8 τ) {b : Nat} {s : List UInt8} {p c : Nat} {ts : List Tok} (h : LX σ0 b s p c ts τ) (hB : Bnd s p c ts) (hp1 : p < s.length) :
    ACalls Tryz.prog 123 [.ptr b 0] τ fun v σ' => After σ0 b s p c ts (quotedF (s.drop p).length (s.drop (p + 1)) 0 []) v σ' := by
  obtain ⟨k0, hg0, hb⟩ := h.cell
  have hB' := hB
  obtain ⟨hs, hp, hc, ht⟩ := hB
  obtain ⟨st, hst⟩ : ∃ st, quotedF (s.drop p).length (s.drop (p + 1)) 0 [] = st := ⟨_, rfl⟩
  rw [hst]
  obtain ⟨body, hbody⟩ : ∃ body, s.drop (p + 1) = body := ⟨_, rfl⟩
  have hbl : body.length = s.length - (p + 1) := by rw [← hbody]; simp
  have hdrop : ∀ q, s.drop (p + 1 + q) = body.drop q := fun q => by rw [← hbody, List.drop_drop]
  have hget : ∀ q, s[p + 1 + q]? = body[q]? := fun q => by rw [← hbody, List.getElem?_drop]
  rw [hbody] at hst
  obtain ⟨F, hF⟩ : ∃ F, F = ACode.wp Tryz.prog c123_63 := ⟨_, rfl⟩
  refine a123 (by simp) ?_
  simp (disch := first | assumption | omega | (simp only [List.length_append, List.length_cons, List.length_nil]; omega)) only [go_sem]
  refine allocTC_by fun bB hbB => ?_
  have nb := ne_of_role hb hbB
  obtain ⟨nb1, nb2⟩ := nb
  have e1 : ((p : Int) + 1).toNat = p + 1 := by omega
  simp (disch := first | assumption | omega | (simp only [List.length_append, List.length_cons, List.length_nil]; omega)) only [go_sem, reduceCtorEq, Nat.reduceEqDiff, ↓reduceIte, hb, e1, hbody, List.take_length, ←hF]
  refine rngC_by fun it hit => ?_
  obtain ⟨ni1, ni2, hit0⟩ := set_none hit
  obtain ⟨nt1, nt2⟩ := ne_of_role hb hit0
  have hbase : ∀ r : Role, (τ.set it (some r)) bB = none := fun r => by rw [ASt.set_ne ni2]; exact hbB
  have fin : ∀ (q : Nat) (acc : List UInt8) (a : AFr) (σ : ASt), q ≤ body.length → acc.length ≤ 4 * q + 4 → BD (τ.set it (some (.iter body q))) bB acc σ →
      ((st = .bad 0 ∧ a 4 = .bool true) ∨ (st = .tok 2 acc (q + 1) ∧ q + 1 ≤ body.length + 1 ∧ a 4 = .bool false ∧ a 5 = .int .i64 (q + 1 : Nat))) → (a 0 = .ptr b 0 ∧ a 3 = .ptr bB 0) →
      F (RetQ [.t 2] fun v σ' => After σ0 b s p c ts st v σ') a σ := by
    intro q acc a σ hq hacc hW hcase hf
    have hov : Over τ σ := (Over.set it _ .refl hit0).trans (hW.over (hbase _))
    rw [hF]
    rcases hcase with ⟨rfl, h4⟩ | ⟨rfl, hq1, h4, h5⟩
    · simp (disch := first | assumption | omega | (simp only [List.length_append, List.length_cons, List.length_nil]; omega)) only [go_sem, ↓reduceIte, h4]
      exact retC_by hov.drop (.refl _) ⟨rfl, c, h⟩
    · obtain ⟨σ0', hL, _, hback⟩ := GO.over h hov
      have hstr := bstring_ok hW (by omega)
      simp (disch := first | assumption | omega | (simp only [List.length_append, List.length_cons, List.length_nil]; omega)) only [go_sem, reduceCtorEq, Nat.reduceEqDiff, ↓reduceIte, hf, h4]
      refine hstr.mono ?_
      rintro v σ' ⟨rfl, rfl⟩
      simp (disch := first | assumption | omega | (simp only [List.length_append, List.length_cons, List.length_nil]; omega)) only [go_sem, Nat.reduceEqDiff, ↓reduceIte, h5]
      refine (put_ok hL hB' 2 acc (q + 1) (by omega)).mono ?_
      rintro v σ' ⟨rfl, hL2⟩
      obtain ⟨σ'', hd, hL3⟩ := hback _ _ _ hL2
      simp (disch := first | assumption | omega | (simp only [List.length_append, List.length_cons, List.length_nil]; omega)) only [go_sem, ↓reduceIte]
      exact retC_by hd (.refl _) ⟨rfl, hL3⟩
  have hst0 : BD (τ.set it (some (.iter body 0))) bB [] ((τ.set bB (some (.typ 72 [.pointer none, .slice none 0 0]))).set it (some (.iter body 0))) := .inl ⟨rfl, set_swap ni2⟩
  simp (disch := first | assumption | omega | (simp only [List.length_append, List.length_cons, List.length_nil]; omega)) only [go_sem]
  refine wp_loop_on (fun (i : Nat × List UInt8 × Bool) a σ' => i.1 ≤ body.length ∧ i.2.1.length ≤ 4 * i.1 + 4 ∧ BD (τ.set it (some (.iter body i.1))) bB i.2.1 σ' ∧
      (i.2.2 = false → a 5 = .int .i64 (i.1 + 1 : Nat) ∧ ∃ k, (body.drop i.1).length ≤ k ∧ quotedF k (body.drop i.1) i.1 i.2.1 = st) ∧
      (i.2.2 = true → body[i.1]? = some 34 ∧ a 5 = .int .i64 (i.1 + 2 : Nat) ∧ ∃ k, (body.drop (i.1 + 1)).length ≤ k ∧ quotedF k (body.drop (i.1 + 1)) (i.1 + 1) i.2.1 = st) ∧
      (a 0 = .ptr b 0 ∧ a 3 = .ptr bB 0 ∧ a 4 = .bool true ∧ a 21 = .ptr it 0))
    (fun i => body.length - i.1) (0, [], false) ⟨Nat.zero_le _, by simp, hst0, fun _ => ⟨?_, _, ?_, hst⟩, fun h => (by cases h), ?_⟩ ?_
  · simp (disch := first | assumption | omega | (simp only [List.length_append, List.length_cons, List.length_nil]; omega)) only [go_sem, Nat.reduceEqDiff, ↓reduceIte]
  · simp; omega
  · simp (disch := first | assumption | omega | (simp only [List.length_append, List.length_cons, List.length_nil]; omega)) only [go_sem, reduceCtorEq, Nat.reduceEqDiff, ↓reduceIte]
  rintro ⟨q, acc, skip⟩ a σ ⟨hq, hacc, hW, hns, hsk, hf⟩
  dsimp only at hq hacc hW hns hsk
  obtain ⟨-, hitr⟩ := hW.iter (r' := .iter body q) ni1
  have hov : Over τ σ := (Over.set it _ .refl hit0).trans (hW.over (hbase _))
  have hbs := hov.at hb
  by_cases hlt : q < body.length
  · have hne : body.drop q ≠ [] := by
      intro h
      have := congrArg List.length h
      simp at this
      omega
    obtain ⟨⟨r, w⟩, hD⟩ : ∃ D, decodeL (body.drop q) = D := ⟨_, rfl⟩
    have hD2 : Utf8.decode ⟨⟨body⟩⟩ q = (r, w) := by rw [← hD]; exact (decodeL_drop ⟨⟨body⟩⟩ q).symm
    have hDrop : decodeL (s.drop (p + 1 + q)) = (r, w) := by rw [hdrop]; exact hD
    have hwle := decodeL_le (body.drop q) hne
    have hbd := dec_bd (body.drop q)
    have hrk := dec_rune (body.drop q)
    rw [hD] at hwle hbd hrk
    dsimp only at hwle hbd hrk
    rw [List.length_drop] at hwle
    obtain ⟨hW2, -⟩ := hW.iter (r' := .iter body (q + w)) ni1
    have hov2 : Over τ (σ.set it (some (.iter body (q + w)))) := (Over.set it _ .refl hit0).trans (hW2.over (hbase _))
    have hb2 := hov2.at hb
    simp (disch := first | assumption | omega | (simp only [List.length_append, List.length_cons, List.length_nil]; omega)) only [go_sem, hf, hitr]
    refine nxt_more hlt ?_
    rw [hD2]
    cases skip with
    | true =>
      obtain ⟨h34, h5, kk, hk1, hk2⟩ := hsk rfl
      have hd34 : body.drop q = 34 :: body.drop (q + 1) := by
        rw [List.drop_eq_getElem_cons hlt]
        rw [List.getElem?_eq_getElem hlt] at h34
        injection h34 with h34
        rw [h34]
      have hw1 : (r, w) = (34, 1) := by
        rw [← hD, hd34]
        exact dec_one 34 _ (by decide)
      injection hw1 with hr1 hw1
      subst hr1 hw1
      have e2 : (q : Int) + 1 < (q + 2 : Nat) := by omega
      simp (disch := first | assumption | omega | (simp only [List.length_append, List.length_cons, List.length_nil]; omega)) only [go_sem, reduceCtorEq, Nat.reduceEqDiff, ↓reduceIte, hf, h5]
      exact ⟨(q + 1, acc, false), by dsimp only; omega, by dsimp only; omega, by dsimp only; omega, hW2, fun _ => ⟨rfl, kk, hk1, hk2⟩, fun h => (by cases h)⟩
    | false =>
      obtain ⟨h5, kk, hk1, hk2⟩ := hns rfl
      have e2 : ¬ (q : Int) + 1 < (q + 1 : Nat) := by omega
      have e3 : (p : Int) + 1 + q = (p + 1 + q : Nat) := by omega
      cases kk with
      | zero => simp at hk1; omega
      | succ kk =>
      rw [quotedF, if_neg hne, hD] at hk2
      dsimp only at hk2
      rw [List.length_drop] at hk1
      have hlen : decodeL (body.drop q) ≠ (65533, 1) → runeLen (r : Int) = w := fun hv => by
        have := dec_len (body.drop q) hv
        rw [hD] at this
        exact this
      have hasc := dec_ascii hne
      rw [hD] at hasc hlen
      dsimp only at hasc
      have hel := enc_le (r : Int)
      obtain ⟨G, hG⟩ : ∃ F, F = ACode.wp Tryz.prog c123_43 := ⟨_, rfl⟩
      have step : (r, w) ≠ (65533, 1) → ∀ (Q : APost) (a : AFr), (a 0 = .ptr b 0 ∧ a 3 = .ptr bB 0 ∧ a 4 = .bool true ∧ a 6 = .int .i64 q ∧ a 7 = .int .i32 r ∧ a 8 = .int .i64 (p + 1 + q : Nat) ∧ a 21 = .ptr it 0) →
          (∀ a' σ', (a' 0 = .ptr b 0 ∧ a' 3 = .ptr bB 0 ∧ a' 4 = .bool false ∧ a' 5 = .int .i64 (q + 1 + 1 : Nat)) → BD (τ.set it (some (.iter body (q + 1)))) bB acc σ' → st = .tok 2 acc (q + 1 + 1) → Q (.exit 0) a' σ') →
          (∀ a' σ' q' acc' skip', q < q' → q' ≤ body.length → acc'.length ≤ 4 * q' + 4 → BD (τ.set it (some (.iter body q'))) bB acc' σ' →
            (skip' = false → a' 5 = .int .i64 (q' + 1 : Nat) ∧ ∃ k, (body.drop q').length ≤ k ∧ quotedF k (body.drop q') q' acc' = st) →
            (skip' = true → body[q']? = some 34 ∧ a' 5 = .int .i64 (q' + 2 : Nat) ∧ ∃ k, (body.drop (q' + 1)).length ≤ k ∧ quotedF k (body.drop (q' + 1)) (q' + 1) acc' = st) →
            (a' 0 = .ptr b 0 ∧ a' 3 = .ptr bB 0 ∧ a' 4 = .bool true ∧ a' 21 = .ptr it 0) → Q (.exit 1) a' σ') →
          G Q a (σ.set it (some (.iter body (q + w)))) := by
        intro hv Q a hf hQ0 hQ1
        rw [if_neg hv] at hk2
        have hlen := hlen hv
        rw [hG]
        by_cases h34 : (r : Int) = 34
        · have hr34 : r = 34 := by omega
          rw [if_neg (by simpa using hr34)] at hk2
          obtain ⟨d, t, hdt, hdc, hw1⟩ := hasc (by omega)
          subst hw1
          have hq1 : (body.drop q)[1]? = body[q + 1]? := by rw [List.getElem?_drop]
          rw [hq1] at hk2
          have hg1 := hget (q + 1)
          obtain ⟨P, hP⟩ : ∃ P, p + 1 + (q + 1) = P := ⟨_, rfl⟩
          have e4 : ((p : Int) + 1 + q + 1).toNat = P := by omega
          rw [hP] at hg1
          by_cases h2 : body[q + 1]? = some 34
          · rw [if_pos h2] at hk2
            have hlt2 := (List.getElem?_eq_some_iff.1 h2).1
            rw [h2] at hg1
            have e5 : (p : Int) + 1 + q + 1 < s.length := by omega
            have e6 : ((UInt8.toNat 34 : Nat) : Int) = 34 := rfl
            simp (disch := first | assumption | omega | (simp only [List.length_append, List.length_cons, List.length_nil]; omega)) only [go_sem, reduceCtorEq, Nat.reduceEqDiff, ↓reduceIte, hf, hb2, h34, e4, e5, e6, hg1]
            refine (writeByte_ok hW2 34 (by omega)).mono ?_
            rintro v σ' ⟨rfl, hW3⟩
            simp (disch := first | assumption | omega | (simp only [List.length_append, List.length_cons, List.length_nil]; omega)) only [go_sem, Nat.reduceEqDiff, ↓reduceIte, hf]
            refine hQ1 _ _ (q + 1) (acc ++ [34]) true (by omega) (by omega) (by simp; omega) hW3 (fun h => by cases h) (fun _ => ⟨h2, ?_, kk, ?_, ?_⟩) ?_
            · simp (disch := first | assumption | omega | (simp only [List.length_append, List.length_cons, List.length_nil]; omega)) only [go_sem, ↓reduceIte]
              rfl
            · simp; omega
            · rw [List.drop_drop] at hk2
              exact hk2
            · simp (disch := first | assumption | omega | (simp only [List.length_append, List.length_cons, List.length_nil]; omega)) only [go_sem, reduceCtorEq, Nat.reduceEqDiff, ↓reduceIte, hf]
          · rw [if_neg h2] at hk2
            by_cases hlt2 : q + 1 < body.length
            · have e5 : (p : Int) + 1 + q + 1 < s.length := by omega
              have hx : body[q + 1]? = some (body[q + 1]'hlt2) := List.getElem?_eq_getElem hlt2
              obtain ⟨x, hxe⟩ : ∃ x, body[q + 1]'hlt2 = x := ⟨_, rfl⟩
              rw [hxe] at hx
              rw [hx] at hg1 h2
              have hx34 : ¬ (x.toNat : Int) = 34 := by
                intro h
                apply h2
                congr 1
                apply UInt8.toNat_inj.1
                have : x.toNat = 34 := by omega
                simpa using this
              simp (disch := first | assumption | omega | (simp only [List.length_append, List.length_cons, List.length_nil]; omega)) only [go_sem, reduceCtorEq, Nat.reduceEqDiff, ↓reduceIte, hf, hb2, h34, e4, e5, hg1, hx34]
              refine hQ0 _ _ ?_ hW2 hk2.symm
              simp (disch := first | assumption | omega | (simp only [List.length_append, List.length_cons, List.length_nil]; omega)) only [go_sem, reduceCtorEq, Nat.reduceEqDiff, ↓reduceIte, hf]
              rfl
            · have e5 : ¬ (p : Int) + 1 + q + 1 < s.length := by omega
              simp (disch := first | assumption | omega | (simp only [List.length_append, List.length_cons, List.length_nil]; omega)) only [go_sem, reduceCtorEq, Nat.reduceEqDiff, ↓reduceIte, hf, hb2, h34, e5]
              refine hQ0 _ _ ?_ hW2 hk2.symm
              simp (disch := first | assumption | omega | (simp only [List.length_append, List.length_cons, List.length_nil]; omega)) only [go_sem, reduceCtorEq, Nat.reduceEqDiff, ↓reduceIte, hf]
              rfl
        · have hr34 : r ≠ 34 := by omega
          rw [if_pos hr34] at hk2
          clear hasc
          simp (disch := first | assumption | omega | (simp only [List.length_append, List.length_cons, List.length_nil]; omega)) only [go_sem, Nat.reduceEqDiff, ↓reduceIte, hf, h34]
          refine (writeRune_ok hW2 hrk (by omega)).mono ?_
          rintro v σ' hW3
          simp (disch := first | assumption | omega | (simp only [List.length_append, List.length_cons, List.length_nil]; omega)) only [go_sem, Nat.reduceEqDiff, ↓reduceIte, hf]
          refine (runeLen_ok r).use ?_
          rw [hlen]
          simp (disch := first | assumption | omega | (simp only [List.length_append, List.length_cons, List.length_nil]; omega)) only [go_sem, Nat.reduceEqDiff, ↓reduceIte]
          refine hQ1 _ _ (q + w) (acc ++ encodeRune r) false (by omega) (by omega) (by simp; omega) hW3 (fun _ => ⟨?_, kk, ?_, ?_⟩) (fun h => by cases h) ?_
          · simp (disch := first | assumption | omega | (simp only [List.length_append, List.length_cons, List.length_nil]; omega)) only [go_sem, ↓reduceIte]
            congr 1
            omega
          · simp; omega
          · rw [List.drop_drop] at hk2
            exact hk2
          · simp (disch := first | assumption | omega | (simp only [List.length_append, List.length_cons, List.length_nil]; omega)) only [go_sem, reduceCtorEq, Nat.reduceEqDiff, ↓reduceIte, hf]
      have hQ0 : ∀ (a' : AFr) σ', (a' 0 = .ptr b 0 ∧ a' 3 = .ptr bB 0 ∧ a' 4 = .bool false ∧ a' 5 = .int .i64 (q + 1 + 1 : Nat)) → BD (τ.set it (some (.iter body (q + 1)))) bB acc σ' → st = .tok 2 acc (q + 1 + 1) →
          F (RetQ [.t 2] fun v σ' => After σ0 b s p c ts st v σ') a' σ' := fun a' σ' hf' hW3 hst3 =>
        fin (q + 1) acc a' σ' (by omega) (by omega) hW3 (.inr ⟨hst3, by omega, hf'.2.2.1, hf'.2.2.2⟩) ⟨hf'.1, hf'.2.1⟩
      by_cases hbad : (r, w) = (65533, 1)
      · rw [if_pos hbad] at hk2
        injection hbad with hr1 hw1
        subst hr1 hw1
        obtain ⟨σ0', hL, _, hback⟩ := GO.over h hov2
        have hdec := dec_ok (hU.over hov2) (l := s.drop (p + 1 + q)) (by rw [hdrop]; exact hne)
        rw [hDrop] at hdec
        have hpass := pass_ok hL hB' (1 + q) (by omega)
        rw [show p + (1 + q) = p + 1 + q by omega] at hpass
        have e7 : ((p : Int) + 1 + q).toNat = p + 1 + q := by omega
        clear hasc step
        simp (disch := first | assumption | omega | (simp only [List.length_append, List.length_cons, List.length_nil]; omega)) only [go_sem, reduceCtorEq, Nat.reduceEqDiff, ↓reduceIte, hf, h5, hb2, e7, List.take_length, ←hG]
        refine hdec.mono ?_
        rintro v σ' ⟨rfl, rfl⟩
        simp (disch := first | assumption | omega | (simp only [List.length_append, List.length_cons, List.length_nil]; omega)) only [go_sem, reduceCtorEq, Nat.reduceEqDiff, ↓reduceIte, hf]
        refine hpass.mono ?_
        rintro v σ' ⟨rfl, hL2⟩
        obtain ⟨σ'', hd, hL3⟩ := hback _ _ _ hL2
        simp (disch := first | assumption | omega | (simp only [List.length_append, List.length_cons, List.length_nil]; omega)) only [go_sem, ↓reduceIte]
        subst hk2
        refine retC_by hd (.refl _) ⟨rfl, c + signsN ((s.drop p).take (1 + q)), ?_⟩
        rw [show p + (1 + q) = p + 1 + q by omega]
        exact hL3
      have stp := step hbad
      clear step hasc
      by_cases h65 : (r : Int) = 65533
      · have hw1 : ¬ (w : Int) = 1 := by
          intro h
          apply hbad
          rw [Prod.mk.injEq]
          omega
        have hdec := dec_ok (hU.over hov2) (l := s.drop (p + 1 + q)) (by rw [hdrop]; exact hne)
        rw [hDrop] at hdec
        have e7 : ((p : Int) + 1 + q).toNat = p + 1 + q := by omega
        simp (disch := first | assumption | omega | (simp only [List.length_append, List.length_cons, List.length_nil]; omega)) only [go_sem, reduceCtorEq, Nat.reduceEqDiff, ↓reduceIte, hf, h5, hb2, e7, h65, List.take_length, ←hG]
        refine hdec.mono ?_
        rintro v σ' ⟨rfl, rfl⟩
        simp (disch := first | assumption | omega | (simp only [List.length_append, List.length_cons, List.length_nil]; omega)) only [go_sem, Nat.reduceEqDiff, ↓reduceIte, hw1]
        refine stp _ _ ?_ ?_ ?_
        · simp (disch := first | assumption | omega | (simp only [List.length_append, List.length_cons, List.length_nil]; omega)) only [go_sem, reduceCtorEq, Nat.reduceEqDiff, ↓reduceIte, hf]
          rw [← h65]
        · intro a' σ' hf' hW3 hst3
          simp (disch := first | assumption | omega | (simp only [List.length_append, List.length_cons, List.length_nil]; omega)) only [go_sem, reduceCtorEq, ↓reduceIte]
          exact hQ0 a' σ' hf' hW3 hst3
        · intro a' σ' q' acc' skip' h1 h2 h3 h4 h5 h6 h7
          simp (disch := first | assumption | omega | (simp only [List.length_append, List.length_cons, List.length_nil]; omega)) only [go_sem, ↓reduceIte]
          exact ⟨(q', acc', skip'), by dsimp only; omega, h2, h3, h4, h5, h6, h7⟩
      · simp (disch := first | assumption | omega | (simp only [List.length_append, List.length_cons, List.length_nil]; omega)) only [go_sem, reduceCtorEq, Nat.reduceEqDiff, ↓reduceIte, hf, h5, hb2, h65, ←hG]
        refine stp _ _ ?_ ?_ ?_
        · simp (disch := first | assumption | omega | (simp only [List.length_append, List.length_cons, List.length_nil]; omega)) only [go_sem, reduceCtorEq, Nat.reduceEqDiff, ↓reduceIte, hf]
        · intro a' σ' hf' hW3 hst3
          simp (disch := first | assumption | omega | (simp only [List.length_append, List.length_cons, List.length_nil]; omega)) only [go_sem, reduceCtorEq, ↓reduceIte]
          exact hQ0 a' σ' hf' hW3 hst3
        · intro a' σ' q' acc' skip' h1 h2 h3 h4 h5 h6 h7
          simp (disch := first | assumption | omega | (simp only [List.length_append, List.length_cons, List.length_nil]; omega)) only [go_sem, ↓reduceIte]
          exact ⟨(q', acc', skip'), by dsimp only; omega, h2, h3, h4, h5, h6, h7⟩
  · have hq' : q = body.length := by omega
    cases skip with
    | true =>
      obtain ⟨h34, _⟩ := hsk rfl
      rw [List.getElem?_eq_none (by omega)] at h34
      cases h34
    | false =>
    obtain ⟨h5, kk, hk1, hk2⟩ := hns rfl
    rw [List.drop_eq_nil_of_le (by omega), quotedF_nil] at hk2
    simp (disch := first | assumption | omega | (simp only [List.length_append, List.length_cons, List.length_nil]; omega)) only [go_sem, hf, hitr]
    refine nxt_over (by omega) ?_
    simp (disch := first | assumption | omega | (simp only [List.length_append, List.length_cons, List.length_nil]; omega)) only [go_sem, ↓reduceIte]
    refine fin q acc _ σ (by omega) hacc hW (.inl ⟨hk2.symm, ?_⟩) ?_
    · simp (disch := first | assumption | omega | (simp only [List.length_append, List.length_cons, List.length_nil]; omega)) only [go_sem, Nat.reduceEqDiff, ↓reduceIte, hf]
    · simp (disch := first | assumption | omega | (simp only [List.length_append, List.length_cons, List.length_nil]; omega)) only [go_sem, reduceCtorEq, Nat.reduceEqDiff, ↓reduceIte, hf]
end Go.A
namespace Go.A
open Go.Proofs Go.Lib
set_option maxRecDepth 100000
set_option linter.unusedSimpArgs false
set_option linter.unusedVariables false
theorem signs_one {c : UInt8} (h : c.toNat < 128) : signsN [c] = 1 := by
  unfold signsN
  have := runeCount_ascii ⟨⟨[c]⟩⟩ (fun j hj => by
    have : j = 0 := by simp [ByteArray.size] at hj; omega
    subst this
    exact h)
  simpa [ByteArray.size] using this
set_option maxHeartbeats 1000000 in
theorem tnext_ok {σ0 σ : ASt} (hU : U8 σ) {b : Nat} {s : List UInt8} {p c : Nat} {ts : List Tok} (h : LX σ0 b s p c ts σ) (hB : Bnd s p c ts) (hp : p < s.length) :
    ACalls Tryz.prog 106 [.ptr b 0] σ fun v σ' => After σ0 b s p c ts (stepP (s.drop p)) v σ' := by
  obtain ⟨st, hst⟩ : ∃ st, stepP (s.drop p) = st := ⟨_, rfl⟩
  rw [hst]
  have hne : s.drop p ≠ [] := by
    intro h
    have := congrArg List.length h
    simp at this
    omega
  have hs1 := hB.hs
  have hsg := sign_ok hU h hB hp
  have hasc := dec_ascii hne
  have hle := decodeL_le _ hne
  have hbd := dec_bd (s.drop p)
  have hwo := words_ok h hB
  have hqu := quoted_ok hU h hB hp
  have hfa := lfail_ok h hB
  have hop := op_ok h hB hp
  have hps := pass_ok h hB 1 (by omega)
  obtain ⟨k, hg, hb⟩ := h.cell
  rw [List.length_drop] at hle
  unfold stepP at hst
  dsimp only at hst
  obtain ⟨⟨r, w⟩, hD⟩ : ∃ D, decodeL (s.drop p) = D := ⟨_, rfl⟩
  rw [hD] at hst hsg hasc hle hbd
  dsimp only at hst hsg hasc hle hbd
  refine a106 (by simp) ?_
  simp (disch := first | assumption | omega | (simp only [List.length_append, List.length_cons, List.length_nil]; omega)) only [go_sem, reduceCtorEq, ↓reduceIte]
  refine hsg.mono ?_
  rintro v σ' ⟨rfl, rfl⟩
  by_cases hbad : (r, w) = (65533, 1)
  · rw [if_pos hbad] at hst
    rw [if_pos hbad, if_pos hbad]
    subst hst
    simp (disch := first | assumption | omega | (simp only [List.length_append, List.length_cons, List.length_nil]; omega)) only [go_sem, Nat.reduceEqDiff, Int.reduceLT, ↓reduceIte, Int.reduceNeg]
    exact retC_by (Drop.refl _) (.refl _) ⟨rfl, c, h⟩
  rw [if_neg hbad] at hst
  rw [if_neg hbad, if_neg hbad]
  have e0 : ¬ (w : Int) < 0 := by omega
  by_cases hbl : r = 32 ∨ r = 9 ∨ r = 10
  · rw [if_pos hbl] at hst
    subst hst
    obtain ⟨d, t, hdt, hdc, hw1⟩ := hasc (by omega)
    have hs1 : signsN ((s.drop p).take 1) = 1 := by rw [hdt, List.take_succ_cons, List.take_zero]; exact signs_one (by omega)
    rw [hs1] at hps
    subst hw1
    have e1 : ((1 : Nat) : Int) = 1 := rfl
    rcases hbl with rfl | rfl | rfl
    all_goals
      simp (disch := first | assumption | omega | (simp only [List.length_append, List.length_cons, List.length_nil]; omega)) only [go_sem, reduceCtorEq, Nat.reduceEqDiff, Int.reduceLT, Int.reduceEq, ↓reduceIte, hb]
      refine hps.mono ?_
      rintro v σ2 ⟨rfl, hL⟩
      simp (disch := first | assumption | omega | (simp only [List.length_append, List.length_cons, List.length_nil]; omega)) only [go_sem, ↓reduceIte]
      exact retC_by (Drop.refl _) (.refl _) ⟨rfl, hL⟩
  rw [if_neg hbl] at hst
  have n1 : ¬ (r : Int) = 32 := by omega
  have n2 : ¬ (r : Int) = 9 := by omega
  have n3 : ¬ (r : Int) = 10 := by omega
  by_cases h128 : r < 128
  · obtain ⟨d, t, hdt, hdc, hw1⟩ := hasc h128
    clear hasc
    have hdr : UInt8.ofNat r = d := by rw [← hdc]; simp
    have hwd := word_ok d
    rw [hdc] at hwd
    rw [hdr] at hst
    have i128 : (r : Int) < 128 := by omega
    simp (disch := first | assumption | omega | (simp only [List.length_append, List.length_cons, List.length_nil]; omega)) only [go_sem, Nat.reduceEqDiff, ↓reduceIte, e0, n1, n2, n3, i128]
    refine hwd.use ?_
    cases hw : wordB d with
    | true =>
      rw [if_pos ⟨h128, hw⟩] at hst
      subst hst
      simp (disch := first | assumption | omega | (simp only [List.length_append, List.length_cons, List.length_nil]; omega)) only [go_sem, reduceCtorEq, Nat.reduceEqDiff, ↓reduceIte]
      refine hwo.mono ?_
      intro v σ' hA
      simp (disch := first | assumption | omega | (simp only [List.length_append, List.length_cons, List.length_nil]; omega)) only [go_sem, ↓reduceIte]
      exact retC_by (Drop.refl _) (.refl _) hA
    | false =>
    rw [if_neg (by rintro ⟨_, h⟩; rw [hw] at h; cases h)] at hst
    by_cases h34 : r = 34
    · rw [if_pos h34, List.drop_drop] at hst
      subst hst
      have i34 : (r : Int) = 34 := by omega
      simp (disch := first | assumption | omega | (simp only [List.length_append, List.length_cons, List.length_nil]; omega)) only [go_sem, reduceCtorEq, Nat.reduceEqDiff, ↓reduceIte, i34]
      refine hqu.mono ?_
      intro v σ' hA
      simp (disch := first | assumption | omega | (simp only [List.length_append, List.length_cons, List.length_nil]; omega)) only [go_sem, ↓reduceIte]
      exact retC_by (Drop.refl _) (.refl _) hA
    rw [if_neg h34] at hst
    have i34 : ¬ (r : Int) = 34 := by omega
    by_cases h35 : r = 35
    · rw [if_pos h35] at hst
      subst hst
      have i35 : (r : Int) = 35 := by omega
      simp (disch := first | assumption | omega | (simp only [List.length_append, List.length_cons, List.length_nil]; omega)) only [go_sem, reduceCtorEq, Nat.reduceEqDiff, Int.reduceEq, ↓reduceIte, i35]
      refine hfa.mono ?_
      intro v σ' hA
      simp (disch := first | assumption | omega | (simp only [List.length_append, List.length_cons, List.length_nil]; omega)) only [go_sem, ↓reduceIte]
      exact retC_by (Drop.refl _) (.refl _) hA
    rw [if_neg h35] at hst
    have i35 : ¬ (r : Int) = 35 := by omega
    subst hst
    simp (disch := first | assumption | omega | (simp only [List.length_append, List.length_cons, List.length_nil]; omega)) only [go_sem, reduceCtorEq, Nat.reduceEqDiff, ↓reduceIte, i34, i35]
    refine (hop r w (by omega)).mono ?_
    intro v σ' hA
    simp (disch := first | assumption | omega | (simp only [List.length_append, List.length_cons, List.length_nil]; omega)) only [go_sem, ↓reduceIte]
    exact retC_by (Drop.refl _) (.refl _) hA
  · rw [if_neg (by rintro ⟨h, _⟩; exact h128 h), if_neg (by omega), if_neg (by omega)] at hst
    subst hst
    have i128 : ¬ (r : Int) < 128 := by omega
    have i34 : ¬ (r : Int) = 34 := by omega
    have i35 : ¬ (r : Int) = 35 := by omega
    simp (disch := first | assumption | omega | (simp only [List.length_append, List.length_cons, List.length_nil]; omega)) only [go_sem, reduceCtorEq, Nat.reduceEqDiff, ↓reduceIte, e0, n1, n2, n3, i128, i34, i35]
    refine (hop r w (by omega)).mono ?_
    intro v σ' hA
    simp (disch := first | assumption | omega | (simp only [List.length_append, List.length_cons, List.length_nil]; omega)) only [go_sem, ↓reduceIte]
    exact retC_by (Drop.refl _) (.refl _) hA
theorem quotedF_fits : ∀ (k : Nat) (r : List UInt8) (p : Nat) (acc : List UInt8), (∀ j, quotedF k r p acc = .bad j → j < 1 + p + r.length) ∧ quotedF k r p acc ≠ .blank ∧ ∀ kd t n, quotedF k r p acc = .tok kd t n → p + 2 ≤ n ∧ n ≤ p + 1 + r.length
  | 0, r, p, acc => by
    refine ⟨fun j h => ?_, by simp [quotedF], fun kd t n h => by simp [quotedF] at h⟩
    simp only [quotedF, Step.bad.injEq] at h
    omega
  | k + 1, r, p, acc => by
    by_cases hr : r = []
    · subst hr
      rw [quotedF_nil]
      refine ⟨fun j h => ?_, by simp, fun kd t n h => by simp at h⟩
      simp only [Step.bad.injEq] at h
      omega
    have hpos := List.length_pos_iff.2 hr
    have hle := decodeL_le r hr
    have hw := decodeL_width r
    unfold quotedF
    rw [if_neg hr]
    split
    · refine ⟨fun j h => ?_, by simp, fun kd t n h => by simp at h⟩
      simp only [Step.bad.injEq] at h
      omega
    split
    · obtain ⟨h1, h2, h3⟩ := quotedF_fits k (r.drop (decodeL r).2) (p + (decodeL r).2) (acc ++ encodeRune ((decodeL r).1 : Int))
      rw [List.length_drop] at h1 h3
      exact ⟨fun j h => by have := h1 j h; omega, h2, fun kd t n h => by have := h3 kd t n h; omega⟩
    split
    · rename_i h1 h2 h3
      have hl2 := (List.getElem?_eq_some_iff.1 h3).1
      obtain ⟨h1, h2, h3⟩ := quotedF_fits k (r.drop 2) (p + 2) (acc ++ [34])
      rw [List.length_drop] at h1 h3
      exact ⟨fun j h => by have := h1 j h; omega, h2, fun kd t n h => by have := h3 kd t n h; omega⟩
    · refine ⟨fun j h => by simp at h, by simp, fun kd t n h => ?_⟩
      simp only [Step.tok.injEq] at h
      omega
theorem failS_fits (r : List UInt8) (hr : r ≠ []) : ∀ (es : List (List UInt8)), (∀ e ∈ es, 1 ≤ e.length) → (∀ j, failS r es = .bad j → j < r.length) ∧ failS r es ≠ .blank ∧ ∀ kd t n, failS r es = .tok kd t n → 1 ≤ n ∧ n ≤ r.length
  | [], _ => by
    have := List.length_pos_iff.2 hr
    refine ⟨fun j h => ?_, by simp [failS], fun kd t n h => by simp [failS] at h⟩
    simp only [failS, Step.bad.injEq] at h
    omega
  | e :: es, he => by
    unfold failS
    split
    · rename_i h1
      have := he e (by simp)
      refine ⟨fun j h => by simp at h, by simp, fun kd t n h => ?_⟩
      simp only [Step.tok.injEq] at h
      omega
    · exact failS_fits r hr es fun e h => he e (by simp [h])
theorem twoS_fits (r : List UInt8) : ∀ (es : List (List UInt8)) e, twoS r es = some e → e ∈ es ∧ e.isPrefixOf r = true
  | [], e, h => by simp [twoS] at h
  | x :: es, e, h => by
    unfold twoS at h
    split at h
    · injection h with h; subst h; exact ⟨by simp, by assumption⟩
    · obtain ⟨h1, h2⟩ := twoS_fits r es e h
      exact ⟨by simp [h1], h2⟩
theorem stepP_fits (r : List UInt8) (hr : r ≠ []) : (∀ j, stepP r = .bad j → j < r.length) ∧ ∀ kd t n, stepP r = .tok kd t n → 1 ≤ n ∧ n ≤ r.length := by
  have hpos := List.length_pos_iff.2 hr
  have hle := decodeL_le r hr
  have hw := decodeL_width r
  have hasc := dec_ascii hr
  have bad0 : (∀ j, Step.bad 0 = .bad j → j < r.length) ∧ ∀ kd t n, Step.bad 0 = .tok kd t n → 1 ≤ n ∧ n ≤ r.length := by
    refine ⟨fun j h => ?_, fun kd t n h => by simp at h⟩
    simp only [Step.bad.injEq] at h
    omega
  have tok1 : ∀ kd t n, 1 ≤ n → n ≤ r.length → (∀ j, Step.tok kd t n = .bad j → j < r.length) ∧ ∀ kd' t' n', Step.tok kd t n = .tok kd' t' n' → 1 ≤ n' ∧ n' ≤ r.length := by
    intro kd t n h1 h2
    refine ⟨fun j h => by simp at h, fun kd t n h => ?_⟩
    simp only [Step.tok.injEq] at h
    omega
  unfold stepP
  dsimp only
  split
  · exact bad0
  split
  · exact ⟨fun j h => by simp at h, fun kd t n h => by simp at h⟩
  split
  · rename_i h1 h2 h3
    obtain ⟨d, t, hdt, hdc, _⟩ := hasc h3.1
    have hrl := runL_le wordB r
    have h1 : 1 ≤ runL wordB r := by
      rw [hdt, runL]
      have : UInt8.ofNat (decodeL r).1 = d := by rw [← hdc]; simp
      rw [this] at h3
      rw [if_pos h3.2]
      omega
    unfold wordsS
    dsimp only
    repeat' split
    all_goals first | exact tok1 _ _ _ h1 hrl | exact bad0
  split
  · obtain ⟨h1, h2, h3⟩ := quotedF_fits r.length (r.drop 1) 0 []
    rw [List.length_drop] at h1 h3
    exact ⟨fun j h => by have := h1 j h; omega, fun kd t n h => by have := h3 kd t n h; omega⟩
  split
  · obtain ⟨h1, h2, h3⟩ := failS_fits r hr errTexts (by decide)
    exact ⟨h1, h3⟩
  · unfold opS
    split
    · exact tok1 _ _ _ hw hle
    · split
      · rename_i e he
        obtain ⟨h1, h2⟩ := twoS_fits r _ _ he
        have := twos_len e h1
        have := (List.isPrefixOf_iff_prefix.1 h2).length_le
        exact tok1 _ _ _ (by omega) (by omega)
      · split
        · exact tok1 _ _ _ (by omega) (by omega)
        · exact bad0
theorem After.u8 {σ0 σ' : ASt} (hU : U8 σ0) {b : Nat} (hb : σ0 b = none) {s : List UInt8} {p c : Nat} {ts : List Tok} (h : LX σ0 b s p c ts σ') : U8 σ' := by
  have hne : ∀ x r, σ0 x = some r → x ≠ b := by rintro x r hx rfl; rw [hb] at hx; cases hx
  exact ⟨GO.at h (hne _ _ hU.1) hU.1, GO.at h (hne _ _ hU.2) hU.2⟩
theorem lex_ok {σ : ASt} (hU : U8 σ) (s : List UInt8) (hs : s.length ≤ 100000) :
    ACalls Tryz.prog 95 [.str s] σ fun v σ' => v = .tuple [.sl .shr ((lexP s).1.map tokAV), .int .i64 (lexP s).2.1, .int .i64 (lexP s).2.2] ∧ σ' = σ := by
  obtain ⟨R, hR⟩ : ∃ R, lexP s = R := ⟨_, rfl⟩
  rw [hR]
  unfold lexP at hR
  refine a95 (by simp) ?_
  obtain ⟨F, hF⟩ : ∃ F, F = ACode.wp Tryz.prog c95_24 := ⟨_, rfl⟩
  by_cases hbig : 2000 < s.length
  · rw [if_pos hbig] at hR
    subst hR
    have e1 : (2000 : Int) < s.length := by omega
    simp (disch := first | assumption | omega | (simp only [List.length_append, List.length_cons, List.length_nil]; omega)) only [go_sem, reduceCtorEq, Nat.reduceEqDiff, ↓reduceIte, e1]
    exact retC_by (Drop.refl _) (.tuple (.cons (.sl _ _) (.cons (.refl _) (.cons (.refl _) .nil)))) ⟨rfl, rfl⟩
  rw [if_neg hbig] at hR
  have e1 : ¬ (2000 : Int) < s.length := by omega
  simp (disch := first | assumption | omega | (simp only [List.length_append, List.length_cons, List.length_nil]; omega)) only [go_sem, reduceCtorEq, Nat.reduceAdd, Nat.reduceLeDiff, ↓reduceIte, e1]
  refine boxC_by rfl fun b hb => ?_
  simp (disch := first | assumption | omega | (simp only [List.length_append, List.length_cons, List.length_nil]; omega)) only [go_sem, ↓reduceIte, ←hF]
  have h0 : LX σ b s 0 0 [] (σ.set b (some (.obj [.str s, .int .i64 0, .int .i64 0, .sl .full []]))) := ⟨.full, .inl ⟨rfl, rfl, rfl⟩⟩
  refine wp_loop_on (fun (i : Nat × Nat × List Tok) a σ' => i.1 ≤ s.length ∧ i.2.1 ≤ i.1 ∧ i.2.2.length ≤ i.1 ∧ LX σ b s i.1 i.2.1 i.2.2 σ' ∧ (∃ k, (s.drop i.1).length < k ∧ lexF k (s.drop i.1) i.1 i.2.1 i.2.2 = R) ∧ (a 0 = .str s ∧ a 5 = .ptr b 0))
    (fun i => s.length - i.1) (0, 0, []) ⟨Nat.zero_le _, Nat.le_refl _, Nat.le_refl _, h0, ⟨s.length + 1, by simp, hR⟩, ?_⟩ ?_
  · simp (disch := first | assumption | omega | (simp only [List.length_append, List.length_cons, List.length_nil]; omega)) only [go_sem, reduceCtorEq, ↓reduceIte]
  rintro ⟨p, c, ts⟩ a σ1 ⟨hp, hc, ht, hL, ⟨k, hk, hlex⟩, hf⟩
  dsimp only at hp hc ht hL hk hlex hf
  have hB : Bnd s p c ts := ⟨hs, hp, hc, by omega⟩
  have hU1 := After.u8 hU hb hL
  obtain ⟨kk, hg, hcell⟩ := hL.cell
  cases k with
  | zero => omega
  | succ k =>
  rw [List.length_drop] at hk
  by_cases hlt : p < s.length
  · have hne : s.drop p ≠ [] := by
      intro h
      have := congrArg List.length h
      simp at this
      omega
    have hlt' : (p : Int) < s.length := by omega
    have hfit := stepP_fits _ hne
    have hnx := tnext_ok hU1 hL hB hlt
    rw [lexF, if_neg hne] at hlex
    obtain ⟨st, hst⟩ : ∃ st, stepP (s.drop p) = st := ⟨_, rfl⟩
    rw [hst] at hlex hfit hnx
    rw [List.length_drop] at hfit
    simp (disch := first | assumption | omega | (simp only [List.length_append, List.length_cons, List.length_nil]; omega)) only [go_sem, reduceCtorEq, Nat.reduceEqDiff, ↓reduceIte, hf, hcell, hlt']
    refine hnx.mono ?_
    intro v σ' hA
    cases st with
    | bad j =>
      obtain ⟨rfl, c', hL2⟩ := hA
      obtain ⟨k2, hg2, hcell2⟩ := hL2.cell
      dsimp only at hlex
      subst hlex
      simp (disch := first | assumption | omega | (simp only [List.length_append, List.length_cons, List.length_nil]; omega)) only [go_sem, Nat.reduceEqDiff, Int.reduceEq, ↓reduceIte, hf, hcell2]
      exact retC_by (Drop.trans hg2.drop (Drop.set hb)) (.tuple (.cons (.sl _ _) (.cons (.refl _) (.cons (.refl _) .nil)))) ⟨rfl, rfl⟩
    | blank =>
      obtain ⟨rfl, hL2⟩ := hA
      dsimp only at hlex
      rw [List.drop_drop] at hlex
      simp (disch := first | assumption | omega | (simp only [List.length_append, List.length_cons, List.length_nil]; omega)) only [go_sem, reduceCtorEq, Nat.reduceEqDiff, ↓reduceIte, hf]
      exact ⟨(p + 1, c + 1, ts), by dsimp only; omega, by dsimp only; omega, by dsimp only; omega, by dsimp only; omega, hL2, ⟨k, by simp; omega, hlex⟩⟩
    | tok kd t n =>
      obtain ⟨rfl, hL2⟩ := hA
      dsimp only at hlex
      rw [List.drop_drop] at hlex
      obtain ⟨g1, g2⟩ := hfit.2 kd t n rfl
      have hsn := signsN_le ((s.drop p).take n)
      rw [take_len (by omega)] at hsn
      simp (disch := first | assumption | omega | (simp only [List.length_append, List.length_cons, List.length_nil]; omega)) only [go_sem, reduceCtorEq, Nat.reduceEqDiff, ↓reduceIte, hf]
      exact ⟨(p + n, c + signsN ((s.drop p).take n), ts ++ [⟨kd, t, p, c⟩]), by dsimp only; omega, by dsimp only; omega, by dsimp only; omega, by simp; omega, hL2, ⟨k, by simp; omega, hlex⟩⟩
  · have hlt' : ¬ (p : Int) < s.length := by omega
    have hpe : s.drop p = [] := List.drop_eq_nil_of_le (by omega)
    rw [lexF, hpe, if_pos rfl] at hlex
    subst hlex
    simp (disch := first | assumption | omega | (simp only [List.length_append, List.length_cons, List.length_nil]; omega)) only [go_sem, reduceCtorEq, Nat.reduceEqDiff, ↓reduceIte, hf, hcell, hlt']
    rw [hF]
    simp (disch := first | assumption | omega | (simp only [List.length_append, List.length_cons, List.length_nil]; omega)) only [go_sem, Nat.reduceEqDiff, ↓reduceIte, hf]
    refine (put_ok hL hB 0 [] 0 (by omega)).mono ?_
    rintro v σ' ⟨rfl, hL2⟩
    obtain ⟨k2, hg2, hcell2⟩ := hL2.cell
    have hz : signsN ((s.drop p).take 0) = 0 := by rw [List.take_zero]; rfl
    simp (disch := first | assumption | omega | (simp only [List.length_append, List.length_cons, List.length_nil]; omega)) only [go_sem, Nat.reduceEqDiff, ↓reduceIte, hf, hcell2]
    exact retC_by (Drop.trans hg2.drop (Drop.set hb)) (.tuple (.cons (.sl _ _) (.cons (.refl _) (.cons (.refl _) .nil)))) ⟨rfl, rfl⟩
end Go.A
namespace Go.A
open Go.Proofs
/-! 21: tabular/expr.Write -/
def c21_0 : ACode := .ops [
 ⟨some 3, none, .e (.box (.t 1)), []⟩]
def c21_1 : ACode := .ops [
 ⟨some 6, none, .q (.mv (.t 0)), []⟩,
 ⟨some 7, none, .q (.fa 0 (.t 3)), []⟩,
 ⟨some 8, none, .q (.ld none (.t 7)), []⟩,
 ⟨some 9, none, .q (.conv .u64 (.t 8)), []⟩,
 ⟨some 10, none, .e (.call 42 [(.t 6), (.t 9)]), []⟩]
def c21_2 : ACode := .ops [
 ⟨some 11, none, .q (.fa 0 (.t 3)), []⟩,
 ⟨some 12, none, .q (.ld none (.t 11)), []⟩]
def c21_3 : ACode := .ops [
 ⟨some 14, none, .q (.bin .eql (.t 12) (.v (.int .i64 1))), []⟩,
 ⟨some 13, none, .q (.mv (.t 14)), []⟩]
def c21_4 : ACode := .ops [
 ⟨some 15, none, .q (.bin .eql (.t 12) (.v (.int .i64 3))), []⟩,
 ⟨some 13, none, .q (.mv (.t 15)), []⟩]
def c21_5 : ACode := .ops [
 ⟨some 16, none, .q (.bin .eql (.t 12) (.v (.int .i64 4))), []⟩,
 ⟨some 13, none, .q (.mv (.t 16)), []⟩]
def c21_6 : ACode := .cond (.t 13) .skip c21_5
def c21_7 : ACode := .seq c21_4 c21_6
def c21_8 : ACode := .cond (.t 13) .skip c21_7
def c21_9 : ACode := .seq c21_3 c21_8
def c21_10 : ACode := .ops [
 ⟨some 17, none, .q (.mv (.t 0)), []⟩,
 ⟨some 18, none, .q (.fa 1 (.t 3)), []⟩,
 ⟨some 19, none, .q (.ld none (.t 18)), []⟩,
 ⟨some 20, none, .e (.call 43 [(.t 17), (.t 19)]), []⟩]
def c21_11 : ACode := .ops [
 ⟨some 22, none, .q (.bin .eql (.t 12) (.v (.int .i64 2))), []⟩,
 ⟨some 21, none, .q (.mv (.t 22)), []⟩]
def c21_12 : ACode := .ops [
 ⟨some 23, none, .q (.mv (.t 0)), []⟩,
 ⟨some 24, none, .q (.fa 2 (.t 3)), []⟩,
 ⟨some 25, none, .q (.ld none (.t 24)), []⟩,
 ⟨some 26, none, .e (.call 44 [(.t 23), (.t 25)]), []⟩]
def c21_13 : ACode := .ops [
 ⟨some 28, none, .q (.bin .eql (.t 12) (.v (.int .i64 5))), []⟩,
 ⟨some 27, none, .q (.mv (.t 28)), []⟩]
def c21_14 : ACode := .ops [
 ⟨some 29, none, .q (.mv (.t 0)), []⟩,
 ⟨some 30, none, .q (.fa 3 (.t 3)), []⟩,
 ⟨some 31, none, .q (.ld (some 4) (.t 30)), []⟩,
 ⟨some 32, none, .e (.call 45 [(.t 29), (.t 31)]), []⟩]
def c21_15 : ACode := .ops [
 ⟨some 34, none, .q (.bin .eql (.t 12) (.v (.int .i64 6))), []⟩,
 ⟨some 33, none, .q (.mv (.t 34)), []⟩]
def c21_16 : ACode := .ops [
 ⟨some 35, none, .q (.mv (.t 0)), []⟩,
 ⟨some 36, none, .q (.fa 3 (.t 3)), []⟩,
 ⟨some 37, none, .q (.ld (some 4) (.t 36)), []⟩,
 ⟨some 38, none, .e (.call 45 [(.t 35), (.t 37)]), []⟩]
def c21_17 : ACode := .ops [
 ⟨some 39, none, .q (.mv (.t 0)), []⟩,
 ⟨some 40, none, .q (.fa 7 (.t 3)), []⟩,
 ⟨some 41, none, .q (.ld (some 4) (.t 40)), []⟩,
 ⟨some 42, none, .e (.call 45 [(.t 39), (.t 41)]), []⟩]
def c21_18 : ACode := .seq c21_16 c21_17
def c21_19 : ACode := .ops [
 ⟨some 44, none, .q (.bin .eql (.t 12) (.v (.int .i64 22))), []⟩,
 ⟨some 43, none, .q (.mv (.t 44)), []⟩]
def c21_20 : ACode := .ops [
 ⟨some 45, none, .q (.mv (.t 0)), []⟩,
 ⟨some 46, none, .q (.fa 2 (.t 3)), []⟩,
 ⟨some 47, none, .q (.ld none (.t 46)), []⟩,
 ⟨some 48, none, .e (.call 44 [(.t 45), (.t 47)]), []⟩]
def c21_21 : ACode := .ops [
 ⟨some 49, none, .q (.mv (.t 0)), []⟩,
 ⟨some 50, none, .q (.fa 11 (.t 3)), []⟩,
 ⟨some 51, none, .q (.ld none (.t 50)), []⟩,
 ⟨some 52, none, .q (.len (.t 51)), []⟩,
 ⟨some 53, none, .q (.conv .u64 (.t 52)), []⟩,
 ⟨some 54, none, .e (.call 42 [(.t 49), (.t 53)]), []⟩]
def c21_22 : ACode := .seq c21_20 c21_21
def c21_23 : ACode := .cond (.t 43) c21_22 .skip
def c21_24 : ACode := .seq c21_19 c21_23
def c21_25 : ACode := .cond (.t 33) c21_18 c21_24
def c21_26 : ACode := .seq c21_15 c21_25
def c21_27 : ACode := .cond (.t 27) c21_14 c21_26
def c21_28 : ACode := .seq c21_13 c21_27
def c21_29 : ACode := .cond (.t 21) c21_12 c21_28
def c21_30 : ACode := .seq c21_11 c21_29
def c21_31 : ACode := .cond (.t 13) c21_10 c21_30
def c21_32 : ACode := .seq c21_9 c21_31
def c21_33 : ACode := .block 0 c21_32
def c21_34 : ACode := .seq c21_2 c21_33
def c21_35 : ACode := .ops [
 ⟨some 55, none, .q (.fa 11 (.t 3)), []⟩,
 ⟨some 56, none, .q (.ld none (.t 55)), []⟩,
 ⟨some 57, none, .q (.len (.t 56)), []⟩,
 ⟨some 58, none, .q (.mv (.v (.int .i64 0))), []⟩]
def c21_36 : ACode := .ops [
 ⟨some 59, none, .q (.bin .lss (.t 58) (.t 57)), []⟩]
def c21_37 : ACode := .cond (.t 59) .skip (.exit 1)
def c21_38 : ACode := .ops [
 ⟨some 60, none, .q (.ia 12 (.t 56) (.t 58)), []⟩,
 ⟨some 61, none, .q (.ld (some 12) (.t 60)), []⟩,
 ⟨some 5, none, .e (.alloc [(.int .i64 0), (.int .i64 0), (.str []), (.int .i64 0), (.int .i64 0), (.bool false), (.bool false), (.int .i64 0), (.int .i64 0), (.bool false), (.bool false), (.sl .full [])]), []⟩,
 ⟨none, none, .e (.store 12 (.t 5) (.t 61)), []⟩]
def c21_39 : ACode := .ops [
 ⟨some 62, none, .q (.mv (.t 0)), []⟩,
 ⟨some 63, none, .q (.ld (some 12) (.t 5)), []⟩,
 ⟨some 64, none, .e (.call 21 [(.t 62), (.t 63)]), []⟩]
def c21_40 : ACode := .seq c21_38 c21_39
def c21_41 : ACode := .block 2 c21_40
def c21_42 : ACode := .ops [
 ⟨some 65, none, .q (.bin .add (.t 58) (.v (.int .i64 1))), []⟩,
 ⟨some 58, none, .q (.mv (.t 65)), []⟩]
def c21_43 : ACode := .seq c21_41 c21_42
def c21_44 : ACode := .seq c21_37 c21_43
def c21_45 : ACode := .seq c21_36 c21_44
def c21_46 : ACode := .loop c21_45
def c21_47 : ACode := .block 1 c21_46
def c21_48 : ACode := .seq c21_35 c21_47
def c21_49 : ACode := .seq c21_34 c21_48
def c21_50 : ACode := .seq c21_1 c21_49
def c21_51 : ACode := .seq c21_0 c21_50
@[go_sem] theorem c21_0_wp : type_of% (wp_of c21_0.eq_1) := wp_of c21_0.eq_1
@[go_sem] theorem c21_1_wp : type_of% (wp_of c21_1.eq_1) := wp_of c21_1.eq_1
@[go_sem] theorem c21_2_wp : type_of% (wp_of c21_2.eq_1) := wp_of c21_2.eq_1
@[go_sem] theorem c21_3_wp : type_of% (wp_of c21_3.eq_1) := wp_of c21_3.eq_1
@[go_sem] theorem c21_4_wp : type_of% (wp_of c21_4.eq_1) := wp_of c21_4.eq_1
@[go_sem] theorem c21_5_wp : type_of% (wp_of c21_5.eq_1) := wp_of c21_5.eq_1
@[go_sem] theorem c21_6_wp : type_of% (wp_of c21_6.eq_1) := wp_of c21_6.eq_1
@[go_sem] theorem c21_7_wp : type_of% (wp_of c21_7.eq_1) := wp_of c21_7.eq_1
@[go_sem] theorem c21_8_wp : type_of% (wp_of c21_8.eq_1) := wp_of c21_8.eq_1
@[go_sem] theorem c21_9_wp : type_of% (wp_of c21_9.eq_1) := wp_of c21_9.eq_1
@[go_sem] theorem c21_10_wp : type_of% (wp_of c21_10.eq_1) := wp_of c21_10.eq_1
@[go_sem] theorem c21_11_wp : type_of% (wp_of c21_11.eq_1) := wp_of c21_11.eq_1
@[go_sem] theorem c21_12_wp : type_of% (wp_of c21_12.eq_1) := wp_of c21_12.eq_1
@[go_sem] theorem c21_13_wp : type_of% (wp_of c21_13.eq_1) := wp_of c21_13.eq_1
@[go_sem] theorem c21_14_wp : type_of% (wp_of c21_14.eq_1) := wp_of c21_14.eq_1
@[go_sem] theorem c21_15_wp : type_of% (wp_of c21_15.eq_1) := wp_of c21_15.eq_1
@[go_sem] theorem c21_16_wp : type_of% (wp_of c21_16.eq_1) := wp_of c21_16.eq_1
@[go_sem] theorem c21_17_wp : type_of% (wp_of c21_17.eq_1) := wp_of c21_17.eq_1
@[go_sem] theorem c21_18_wp : type_of% (wp_of c21_18.eq_1) := wp_of c21_18.eq_1
@[go_sem] theorem c21_19_wp : type_of% (wp_of c21_19.eq_1) := wp_of c21_19.eq_1
@[go_sem] theorem c21_20_wp : type_of% (wp_of c21_20.eq_1) := wp_of c21_20.eq_1
@[go_sem] theorem c21_21_wp : type_of% (wp_of c21_21.eq_1) := wp_of c21_21.eq_1
@[go_sem] theorem c21_22_wp : type_of% (wp_of c21_22.eq_1) := wp_of c21_22.eq_1
@[go_sem] theorem c21_23_wp : type_of% (wp_of c21_23.eq_1) := wp_of c21_23.eq_1
@[go_sem] theorem c21_24_wp : type_of% (wp_of c21_24.eq_1) := wp_of c21_24.eq_1
@[go_sem] theorem c21_25_wp : type_of% (wp_of c21_25.eq_1) := wp_of c21_25.eq_1
@[go_sem] theorem c21_26_wp : type_of% (wp_of c21_26.eq_1) := wp_of c21_26.eq_1
@[go_sem] theorem c21_27_wp : type_of% (wp_of c21_27.eq_1) := wp_of c21_27.eq_1
@[go_sem] theorem c21_28_wp : type_of% (wp_of c21_28.eq_1) := wp_of c21_28.eq_1
@[go_sem] theorem c21_29_wp : type_of% (wp_of c21_29.eq_1) := wp_of c21_29.eq_1
@[go_sem] theorem c21_30_wp : type_of% (wp_of c21_30.eq_1) := wp_of c21_30.eq_1
@[go_sem] theorem c21_31_wp : type_of% (wp_of c21_31.eq_1) := wp_of c21_31.eq_1
@[go_sem] theorem c21_32_wp : type_of% (wp_of c21_32.eq_1) := wp_of c21_32.eq_1
@[go_sem] theorem c21_33_wp : type_of% (wp_of c21_33.eq_1) := wp_of c21_33.eq_1
@[go_sem] theorem c21_34_wp : type_of% (wp_of c21_34.eq_1) := wp_of c21_34.eq_1
@[go_sem] theorem c21_35_wp : type_of% (wp_of c21_35.eq_1) := wp_of c21_35.eq_1
@[go_sem] theorem c21_36_wp : type_of% (wp_of c21_36.eq_1) := wp_of c21_36.eq_1
@[go_sem] theorem c21_37_wp : type_of% (wp_of c21_37.eq_1) := wp_of c21_37.eq_1
@[go_sem] theorem c21_38_wp : type_of% (wp_of c21_38.eq_1) := wp_of c21_38.eq_1
@[go_sem] theorem c21_39_wp : type_of% (wp_of c21_39.eq_1) := wp_of c21_39.eq_1
@[go_sem] theorem c21_40_wp : type_of% (wp_of c21_40.eq_1) := wp_of c21_40.eq_1
@[go_sem] theorem c21_41_wp : type_of% (wp_of c21_41.eq_1) := wp_of c21_41.eq_1
@[go_sem] theorem c21_42_wp : type_of% (wp_of c21_42.eq_1) := wp_of c21_42.eq_1
@[go_sem] theorem c21_43_wp : type_of% (wp_of c21_43.eq_1) := wp_of c21_43.eq_1
@[go_sem] theorem c21_44_wp : type_of% (wp_of c21_44.eq_1) := wp_of c21_44.eq_1
@[go_sem] theorem c21_45_wp : type_of% (wp_of c21_45.eq_1) := wp_of c21_45.eq_1
@[go_sem] theorem c21_46_wp : type_of% (wp_of c21_46.eq_1) := wp_of c21_46.eq_1
@[go_sem] theorem c21_47_wp : type_of% (wp_of c21_47.eq_1) := wp_of c21_47.eq_1
@[go_sem] theorem c21_48_wp : type_of% (wp_of c21_48.eq_1) := wp_of c21_48.eq_1
@[go_sem] theorem c21_49_wp : type_of% (wp_of c21_49.eq_1) := wp_of c21_49.eq_1
@[go_sem] theorem c21_50_wp : type_of% (wp_of c21_50.eq_1) := wp_of c21_50.eq_1
@[go_sem] theorem c21_51_wp : type_of% (wp_of c21_51.eq_1) := wp_of c21_51.eq_1
def c21 : AFn := ⟨66, [], c21_51⟩
set_option maxRecDepth 100000 in
theorem c21_ok : compF Tryz.prog Tryz.f21 = some c21 := by kernel_rfl
theorem a21 {args : List AV} {σ : ASt} {R : AV → ASt → Prop} (hl : args.length ≤ 66) (h : c21_51.wp Tryz.prog (RetQ [] R) (init args) σ) : ACalls Tryz.prog 21 args σ R := acalls_of Tryz.func21 c21_ok hl h
/-! 45: tabular/expr.putRef -/
def c45_0 : ACode := .ops [
 ⟨some 3, none, .e (.box (.t 1)), []⟩]
def c45_1 : ACode := .ops [
 ⟨some 4, none, .q (.mv (.v (.int .i64 0))), []⟩]
def c45_2 : ACode := .ops [
 ⟨some 5, none, .q (.fa 2 (.t 3)), []⟩,
 ⟨some 6, none, .q (.ld none (.t 5)), []⟩]
def c45_3 : ACode := .ops [
 ⟨some 4, none, .q (.mv (.v (.int .i64 1))), []⟩]
def c45_4 : ACode := .cond (.t 6) c45_3 .skip
def c45_5 : ACode := .seq c45_2 c45_4
def c45_6 : ACode := .ops [
 ⟨some 7, none, .q (.fa 3 (.t 3)), []⟩,
 ⟨some 8, none, .q (.ld none (.t 7)), []⟩]
def c45_7 : ACode := .ops [
 ⟨some 9, none, .q (.mv (.t 4)), []⟩,
 ⟨some 10, none, .q (.bin .add (.t 9) (.v (.int .i64 2))), []⟩,
 ⟨some 4, none, .q (.mv (.t 10)), []⟩]
def c45_8 : ACode := .cond (.t 8) c45_7 .skip
def c45_9 : ACode := .seq c45_6 c45_8
def c45_10 : ACode := .ops [
 ⟨some 11, none, .q (.mv (.t 0)), []⟩,
 ⟨some 12, none, .q (.mv (.t 4)), []⟩,
 ⟨some 13, none, .q (.fa 0 (.t 3)), []⟩,
 ⟨some 14, none, .q (.ld none (.t 13)), []⟩,
 ⟨some 15, none, .q (.bin .mul (.v (.int .i64 4)) (.t 14)), []⟩,
 ⟨some 16, none, .q (.bin .add (.t 12) (.t 15)), []⟩,
 ⟨some 17, none, .q (.conv .u64 (.t 16)), []⟩,
 ⟨some 18, none, .e (.call 42 [(.t 11), (.t 17)]), []⟩]
def c45_11 : ACode := .ops [
 ⟨some 19, none, .q (.mv (.t 0)), []⟩,
 ⟨some 20, none, .q (.fa 1 (.t 3)), []⟩,
 ⟨some 21, none, .q (.ld none (.t 20)), []⟩,
 ⟨some 22, none, .q (.conv .u64 (.t 21)), []⟩,
 ⟨some 23, none, .e (.call 42 [(.t 19), (.t 22)]), []⟩]
def c45_12 : ACode := .seq c45_10 c45_11
def c45_13 : ACode := .seq c45_9 c45_12
def c45_14 : ACode := .seq c45_5 c45_13
def c45_15 : ACode := .seq c45_1 c45_14
def c45_16 : ACode := .seq c45_0 c45_15
@[go_sem] theorem c45_0_wp : type_of% (wp_of c45_0.eq_1) := wp_of c45_0.eq_1
@[go_sem] theorem c45_1_wp : type_of% (wp_of c45_1.eq_1) := wp_of c45_1.eq_1
@[go_sem] theorem c45_2_wp : type_of% (wp_of c45_2.eq_1) := wp_of c45_2.eq_1
@[go_sem] theorem c45_3_wp : type_of% (wp_of c45_3.eq_1) := wp_of c45_3.eq_1
@[go_sem] theorem c45_4_wp : type_of% (wp_of c45_4.eq_1) := wp_of c45_4.eq_1
@[go_sem] theorem c45_5_wp : type_of% (wp_of c45_5.eq_1) := wp_of c45_5.eq_1
@[go_sem] theorem c45_6_wp : type_of% (wp_of c45_6.eq_1) := wp_of c45_6.eq_1
@[go_sem] theorem c45_7_wp : type_of% (wp_of c45_7.eq_1) := wp_of c45_7.eq_1
@[go_sem] theorem c45_8_wp : type_of% (wp_of c45_8.eq_1) := wp_of c45_8.eq_1
@[go_sem] theorem c45_9_wp : type_of% (wp_of c45_9.eq_1) := wp_of c45_9.eq_1
@[go_sem] theorem c45_10_wp : type_of% (wp_of c45_10.eq_1) := wp_of c45_10.eq_1
@[go_sem] theorem c45_11_wp : type_of% (wp_of c45_11.eq_1) := wp_of c45_11.eq_1
@[go_sem] theorem c45_12_wp : type_of% (wp_of c45_12.eq_1) := wp_of c45_12.eq_1
@[go_sem] theorem c45_13_wp : type_of% (wp_of c45_13.eq_1) := wp_of c45_13.eq_1
@[go_sem] theorem c45_14_wp : type_of% (wp_of c45_14.eq_1) := wp_of c45_14.eq_1
@[go_sem] theorem c45_15_wp : type_of% (wp_of c45_15.eq_1) := wp_of c45_15.eq_1
@[go_sem] theorem c45_16_wp : type_of% (wp_of c45_16.eq_1) := wp_of c45_16.eq_1
def c45 : AFn := ⟨24, [], c45_16⟩
set_option maxRecDepth 100000 in
theorem c45_ok : compF Tryz.prog Tryz.f45 = some c45 := by kernel_rfl
theorem a45 {args : List AV} {σ : ASt} {R : AV → ASt → Prop} (hl : args.length ≤ 24) (h : c45_16.wp Tryz.prog (RetQ [] R) (init args) σ) : ACalls Tryz.prog 45 args σ R := acalls_of Tryz.func45 c45_ok hl h
end Go.A
namespace Go.A
open Go.Proofs Go.Lib Go.Vint
set_option maxRecDepth 100000
set_option linter.unusedSimpArgs false
set_option linter.unusedVariables false
def absN (r : Ref) : Nat := (if r.absRow = true then 1 else 0) + (if r.absCol = true then 2 else 0)
def rfB (r : Ref) : List UInt8 := uintB (absN r + 4 * r.row.toNat) ++ uintB r.col.toNat
def restB (op n : Int) (s : List UInt8) (a b : Ref) (k : Nat) : List UInt8 :=
  if op = 1 ∨ op = 3 ∨ op = 4 then uintB (foldI n).toNat else if op = 2 then textB s else if op = 5 then rfB a else if op = 6 then rfB a ++ rfB b else if op = 22 then textB s ++ uintB k else []
mutual
def Nd.bytes : Nd → List UInt8
  | .mk op n s a b kids => uintB op.toNat ++ restB op n s a b kids.length ++ Nd.bytess kids
def Nd.bytess : List Nd → List UInt8
  | [] => []
  | x :: xs => x.bytes ++ Nd.bytess xs
end
def arity (op : Int) : Nat := if op = 7 ∨ op = 8 ∨ op = 9 then 1 else if 10 ≤ op ∧ op ≤ 21 then 2 else 0
def nameOkP (s : List UInt8) : Bool := decide ((lexP s).2.2 = 0) && (decide ((lexP s).1.length = 2) && match (lexP s).1 with
  | t :: _ => decide (t.kind = 3) && decide (t.text = s)
  | [] => false)
structure GdN (op n : Int) (s : List UInt8) (a b : Ref) (k : Nat) : Prop where
  op1 : 1 ≤ op
  op2 : op ≤ 23
  n1 : op = 1 → 0 ≤ n ∧ n ≤ 999999999999999999
  n3 : op = 3 → n = 0 ∨ n = 1
  n4 : op = 4 → n.tmod 10000 = 0 ∧ 10000 ≤ n ∧ n ≤ 70000
  n0 : op ≠ 1 → op ≠ 3 → op ≠ 4 → n = 0
  s2 : op = 2 → s.length ≤ 2000 ∧ (sgT s).isSome = true
  s22 : op = 22 → s.length ≤ 2000 ∧ nameOkP s = true ∧ k ≤ 2000
  s0 : op ≠ 2 → op ≠ 22 → s = []
  ga : op = 5 ∨ op = 6 → a.good = true
  a0 : op ≠ 5 → op ≠ 6 → a = .zero
  gb : op = 6 → b.good = true
  b0 : op ≠ 6 → b = .zero
  ar : op ≠ 22 → k = arity op
mutual
def Nd.gd : Nd → Prop
  | .mk op n s a b kids => GdN op n s a b kids.length ∧ Nd.gds kids
def Nd.gds : List Nd → Prop
  | [] => True
  | x :: xs => x.gd ∧ Nd.gds xs
end
theorem Nd.gds_mem : ∀ {l : List Nd}, Nd.gds l ↔ ∀ x ∈ l, x.gd
  | [] => by simp [Nd.gds]
  | y :: l => by rw [Nd.gds, Nd.gds_mem (l := l)]; simp
theorem GdN.num {op n : Int} {s : List UInt8} {a b : Ref} {k : Nat} (h : GdN op n s a b k) : 0 ≤ n ∧ n ≤ 999999999999999999 := by
  have h1 := h.n1
  have h3 := h.n3
  have h4 := h.n4
  have h0 := h.n0
  by_cases e1 : op = 1
  · exact h1 e1
  by_cases e3 : op = 3
  · have := h3 e3; omega
  by_cases e4 : op = 4
  · have := h4 e4; omega
  · have := h0 e1 e3 e4; omega
theorem arity_le (op : Int) : arity op ≤ 2 := by
  unfold arity
  repeat' split
  all_goals omega
theorem GdN.kids {op n : Int} {s : List UInt8} {a b : Ref} {k : Nat} (h : GdN op n s a b k) : k ≤ 2000 := by
  by_cases e : op = 22
  · exact (h.s22 e).2.2
  · have := h.ar e; have := arity_le op; omega
theorem good_bd {r : Ref} (h : r.good = true) : 0 ≤ r.row ∧ r.row < 3000 ∧ 0 ≤ r.col ∧ r.col < 700 := by
  unfold Ref.good at h
  exact of_decide_eq_true h
theorem bytess_take {x : Nd} : ∀ {l : List Nd} {i : Nat}, l[i]? = some x → Nd.bytess (l.take (i + 1)) = Nd.bytess (l.take i) ++ x.bytes
  | [], i, h => by simp at h
  | y :: l, 0, h => by simp at h; subst h; simp [Nd.bytess]
  | y :: l, i + 1, h => by
    simp only [List.getElem?_cons_succ] at h
    rw [List.take_succ_cons, List.take_succ_cons, Nd.bytess, Nd.bytess, bytess_take h, List.append_assoc]
theorem bytess_le : ∀ (l : List Nd) (i : Nat), (Nd.bytess (l.take i)).length ≤ (Nd.bytess l).length
  | [], i => by simp [Nd.bytess]
  | y :: l, 0 => by simp [Nd.bytess]
  | y :: l, i + 1 => by rw [List.take_succ_cons, Nd.bytess, Nd.bytess, List.length_append, List.length_append]; have := bytess_le l i; omega
theorem putref_ok (r : Ref) (hr : r.good = true) (σ0 : ASt) (b : Nat) (l : List UInt8) (σ : ASt) (hW : W σ0 b l σ) (hl : l.length + (rfB r).length ≤ 1000000) :
    ACalls Tryz.prog 45 [.ptr b 0, refAV r] σ fun v σ' => v = .tuple [] ∧ W σ0 b (l ++ rfB r) σ' := by
  obtain ⟨r1, r2, r3, r4⟩ := good_bd hr
  obtain ⟨row, col, ar, ac⟩ := r
  dsimp only at r1 r2 r3 r4
  have key : ∀ q : Int, 0 ≤ q → q ≤ 3 → IntKind.wrap .u64 (q + 4 * row) = q + 4 * row ∧ IntKind.wrap .u64 (4 * row) = 4 * row ∧ IntKind.wrap .u64 col = col := fun q h0 h1 => by
    rw [IntKind.wrap_u64, IntKind.wrap_u64, IntKind.wrap_u64]; omega
  obtain ⟨U, hU⟩ : ∃ U : Int, ((absN ⟨row, col, ar, ac⟩ : Nat) : Int) + 4 * row = U := ⟨_, rfl⟩
  have hrf : rfB ⟨row, col, ar, ac⟩ = uintB U.toNat ++ uintB col.toNat := by
    unfold rfB
    rw [show absN ⟨row, col, ar, ac⟩ + 4 * row.toNat = U.toNat by omega]
  rw [hrf] at hl ⊢
  rw [List.length_append] at hl
  have hadd := fun (c : Nat) (hc : σ c = none) (r : Role) => hW.add (r := r) hc
  unfold refAV
  cases ar <;> cases ac
  all_goals
    have hU' := hU
    unfold absN at hU'
    simp only [Bool.false_eq_true, if_false, if_true, Nat.zero_add, Nat.add_zero, Nat.reduceAdd] at hU'
    clear hU hrf
    have hb : 0 ≤ U ∧ U ≤ 20000 := by omega
    have hw0 := (key 0 (by omega) (by omega)).2.2
    refine a45 (by simp) ?_
    simp (disch := first | assumption | omega | (simp only [List.length_append, List.length_cons, List.length_nil]; omega)) only [go_sem]
    refine boxC_by rfl fun c hc => ?_
    have hadd := hadd c hc
    simp (disch := first | assumption | omega | (simp only [List.length_append, List.length_cons, List.length_nil]; omega)) only [go_sem, reduceCtorEq, Nat.reduceEqDiff, ↓reduceIte, Int.reduceAdd]
    refine ACalls.of_eq (congrArg (fun x => [AV.ptr b 0, AV.int .u64 x]) (show _ = U by omega)) ?_
    refine (wuint_ok _ b U l _ (hadd _).1 (by omega) (by omega) (by omega)).mono ?_
    rintro v σ1 ⟨rfl, hW1⟩
    have hc1 := hW1.role (hadd (.obj [])).2.1
    simp (disch := first | assumption | omega | (simp only [List.length_append, List.length_cons, List.length_nil]; omega)) only [go_sem, reduceCtorEq, Nat.reduceEqDiff, ↓reduceIte, hc1, hw0]
    refine (wuint_ok _ b col _ _ hW1 (by omega) (by omega) (by rw [List.length_append]; omega)).mono ?_
    rintro v σ2 ⟨rfl, hW2⟩
    rw [List.append_assoc] at hW2
    obtain ⟨σ3, hd, hW3, _⟩ := hW2.off (hadd (.obj [])).2.1 (hadd (.obj [])).2.2
    simp (disch := first | assumption | omega | (simp only [List.length_append, List.length_cons, List.length_nil]; omega)) only [go_sem]
    exact retC_by hd (.refl _) ⟨rfl, hW3⟩
theorem ewrite_le : ∀ (k : Nat) (n : Nd), n.size ≤ k → n.gd → ∀ (σ0 : ASt) (b : Nat) (l : List UInt8) (σ : ASt), W σ0 b l σ → l.length + n.bytes.length ≤ 900000 →
    ACalls Tryz.prog 21 [.ptr b 0, n.av] σ fun v σ' => v = .tuple [] ∧ W σ0 b (l ++ n.bytes) σ'
  | 0, n, hk, _ => by have := n.size_pos; omega
  | k + 1, n, hk, hg => by
    intro σ0 b l σ hW hl
    have ih := ewrite_le k
    obtain ⟨op, m, s, a, d, kids⟩ := n
    rw [Nd.size] at hk
    rw [Nd.gd] at hg
    obtain ⟨hg, hgs⟩ := hg
    have hm := hg.num
    have o1 := hg.op1
    have o2 := hg.op2
    have hkl := hg.kids
    rw [Nd.bytes] at hl ⊢
    rw [Nd.av_cs]
    rw [List.length_append, List.length_append] at hl
    have hops := uintB_le (u := op) (by omega)
    have hms := uintB_le (u := foldI m) (by have := foldI_bd (n := m) (by omega) (by omega); omega)
    have hfold := foldI_bd (n := m) (by omega) (by omega)
    have hw64 : IntKind.wrap .u64 op = op := by rw [IntKind.wrap_u64]; omega
    have hklw : IntKind.wrap .u64 (kids.length : Int) = kids.length := by rw [IntKind.wrap_u64]; omega
    obtain ⟨F, hF⟩ : ∃ F, F = ACode.wp Tryz.prog c21_48 := ⟨_, rfl⟩
    obtain ⟨H, hH⟩ : ∃ H, uintB op.toNat ++ restB op m s a d kids.length = H := ⟨_, rfl⟩
    have hHl : H.length = (uintB op.toNat).length + (restB op m s a d kids.length).length := by rw [← hH, List.length_append]
    have hlH : l.length + H.length + (Nd.bytess kids).length ≤ 900000 := by omega
    rw [hH]
    obtain ⟨Q, hQ⟩ : ∃ Q, Q = RetQ [] fun v σ' => v = AV.tuple [] ∧ W σ0 b (l ++ (H ++ Nd.bytess kids)) σ' := ⟨_, rfl⟩
    have fin : ∀ (c : Nat) (σ1 : ASt) (a1 : AFr), c ≠ b → σ0 c = none → W (σ0.set c (some (.obj (Nd.cs op m s a d (kids.map Nd.av))))) b (l ++ H) σ1 → (a1 0 = .ptr b 0 ∧ a1 3 = .ptr c 0) → F Q a1 σ1 := by
      intro c σ1 a1 hcb hc0 hW1 hf
      have hc1 := hW1.role hcb
      rw [hF]
      simp (disch := first | assumption | omega | (simp only [List.length_append, List.length_cons, List.length_nil]; omega)) only [go_sem, ↓reduceIte, hf, hc1]
      obtain ⟨σ3, hd3, hW3, _⟩ := hW1.off hcb hc0
      refine wp_loop_by (fun (i : Nat) a1 s2 => i ≤ kids.length ∧ (a1 0 = .ptr b 0 ∧ a1 56 = .sl .shr (kids.map Nd.av) ∧ a1 57 = .int .i64 kids.length ∧ a1 58 = .int .i64 i) ∧ W σ0 b (l ++ H ++ Nd.bytess (kids.take i)) s2) (fun i => kids.length - i) 0 (Dr.drop hd3 ⟨Nat.zero_le _, ?_, by rw [List.take_zero, Nd.bytess, List.append_nil]; exact hW3⟩) ?_
      · simp (disch := first | assumption | omega | (simp only [List.length_append, List.length_cons, List.length_nil]; omega)) only [go_sem, reduceCtorEq, Nat.reduceEqDiff, ↓reduceIte, hf]
      rintro i a2 s2 ⟨hi, hf2, hW2⟩
      by_cases hlt : i < kids.length
      · have hlt' : (i : Int) < kids.length := by omega
        have hx : kids[i]? = some (kids[i]'hlt) := List.getElem?_eq_getElem hlt
        have hmem := List.getElem_mem hlt
        obtain ⟨x, hxe⟩ : ∃ x, kids[i]'hlt = x := ⟨_, rfl⟩
        rw [hxe] at hx hmem
        have hmx := Nd.get hx
        have hsz := Nd.size_kid hmem
        have hih := ih x (by omega) (Nd.gds_mem.1 hgs x hmem)
        have hbt := bytess_take hx
        have hbl := bytess_le kids (i + 1)
        rw [hbt, List.length_append] at hbl
        obtain ⟨xo, xm, xs, xa, xb, xk⟩ := x
        rw [Nd.av_cs] at hmx hih
        generalize xk.map Nd.av = XK at *
        generalize kids.map Nd.av = KL at *
        generalize Nd.bytes (.mk xo xm xs xa xb xk) = XB at *
        simp (disch := first | assumption | omega | (simp only [List.length_append, List.length_cons, List.length_nil]; omega)) only [go_sem, Nat.reduceEqDiff, Nat.reduceLeDiff, ↓reduceIte, hf2, hlt', hmx]
        refine allocC_by fun e he => ?_
        obtain ⟨hWe, heb, he0⟩ := hW2.add he (r := .obj (Nd.cs xo xm xs xa xb XK))
        simp (disch := first | assumption | omega | (simp only [List.length_append, List.length_cons, List.length_nil]; omega)) only [go_sem, reduceCtorEq, Nat.reduceEqDiff, Nat.reduceAdd, Nat.reduceLeDiff, ↓reduceIte, hf2, ASt.set_set]
        refine (hih _ b _ _ hWe (by rw [List.length_append, List.length_append]; omega)).mono ?_
        rintro v σ4 ⟨rfl, hW4⟩
        obtain ⟨σ5, hd5, hW5, _⟩ := hW4.off heb he0
        simp (disch := first | assumption | omega | (simp only [List.length_append, List.length_cons, List.length_nil]; omega)) only [go_sem, Nat.reduceEqDiff, ↓reduceIte, hf2]
        refine ⟨i + 1, by dsimp only; omega, Dr.drop hd5 ⟨by omega, ?_, by rw [hbt, ← List.append_assoc]; exact hW5⟩⟩
        simp (disch := first | assumption | omega | (simp only [List.length_append, List.length_cons, List.length_nil]; omega)) only [go_sem, reduceCtorEq, Nat.reduceEqDiff, ↓reduceIte, hf2]
      · have hlt' : ¬ (i : Int) < kids.length := by omega
        rw [List.take_of_length_le (by omega)] at hW2
        rw [hQ]
        simp (disch := first | assumption | omega | (simp only [List.length_append, List.length_cons, List.length_nil]; omega)) only [go_sem, ↓reduceIte, hf2, hlt']
        exact retC_by (Drop.refl _) (.refl _) ⟨rfl, by rw [← List.append_assoc]; exact hW2⟩
    have hadd := fun (c : Nat) (hc : σ c = none) (r : Role) => hW.add (r := r) hc
    refine a21 (by simp) ?_
    rw [← hQ]
    simp (disch := first | assumption | omega | (simp only [List.length_append, List.length_cons, List.length_nil]; omega)) only [go_sem]
    refine boxC_by rfl fun c hc => ?_
    obtain ⟨hWc, hcb, hc0⟩ := hW.add hc (r := .obj (Nd.cs op m s a d (kids.map Nd.av)))
    have hkm : (kids.map Nd.av).length = kids.length := by simp
    generalize kids.map Nd.av = KL at *
    simp (disch := first | assumption | omega | (simp only [List.length_append, List.length_cons, List.length_nil]; omega)) only [go_sem, reduceCtorEq, Nat.reduceEqDiff, ↓reduceIte, hw64]
    refine (wuint_ok _ b op l _ hWc (by omega) (by omega) (by omega)).mono ?_
    rintro v σ1 ⟨rfl, hW1⟩
    have hc1 := hW1.role hcb
    have hcd : 0 ≤ op ∧ op ≤ 23 := by omega
    by_cases h134 : op = 1 ∨ op = 3 ∨ op = 4
    · have hrb : restB op m s a d kids.length = uintB (foldI m).toNat := if_pos h134
      rw [hrb] at hH hHl
      have fin := fin c
      rcases h134 with h1 | h1 | h1
      all_goals
        simp (disch := first | assumption | omega | (simp only [List.length_append, List.length_cons, List.length_nil]; omega)) only [go_sem, reduceCtorEq, Nat.reduceEqDiff, Int.reduceEq, ↓reduceIte, hc1, h1, ←hF]
        refine (wint_ok _ b m _ _ hW1 (by omega) (by omega) (by rw [List.length_append]; omega)).mono ?_
        rintro v σ2 ⟨rfl, hW2⟩
        rw [List.append_assoc, hH] at hW2
        simp (disch := first | assumption | omega | (simp only [List.length_append, List.length_cons, List.length_nil]; omega)) only [go_sem]
        refine fin _ _ hcb hc0 hW2 ?_
        simp (disch := first | assumption | omega | (simp only [List.length_append, List.length_cons, List.length_nil]; omega)) only [go_sem, reduceCtorEq, Nat.reduceEqDiff, ↓reduceIte]
    have g1 : op ≠ 1 := by omega
    have g3 : op ≠ 3 := by omega
    have g4 : op ≠ 4 := by omega
    by_cases h2 : op = 2
    · have hrb : restB op m s a d kids.length = textB s := by unfold restB; rw [if_neg h134, if_pos h2]
      rw [hrb] at hH hHl
      have hsl := (hg.s2 h2).1
      simp (disch := first | assumption | omega | (simp only [List.length_append, List.length_cons, List.length_nil]; omega)) only [go_sem, reduceCtorEq, Nat.reduceEqDiff, Int.reduceEq, ↓reduceIte, hc1, h2, ←hF]
      refine (wtext_ok _ b s _ _ hW1 (by rw [List.length_append]; omega)).mono ?_
      rintro v σ2 ⟨rfl, hW2⟩
      rw [List.append_assoc, hH] at hW2
      simp (disch := first | assumption | omega | (simp only [List.length_append, List.length_cons, List.length_nil]; omega)) only [go_sem]
      refine fin c _ _ hcb hc0 hW2 ?_
      simp (disch := first | assumption | omega | (simp only [List.length_append, List.length_cons, List.length_nil]; omega)) only [go_sem, reduceCtorEq, Nat.reduceEqDiff, ↓reduceIte]
    by_cases h5 : op = 5
    · have hrb : restB op m s a d kids.length = rfB a := by unfold restB; rw [if_neg h134, if_neg h2, if_pos h5]
      rw [hrb] at hH hHl
      simp (disch := first | assumption | omega | (simp only [List.length_append, List.length_cons, List.length_nil]; omega)) only [go_sem, reduceCtorEq, Nat.reduceEqDiff, Nat.reduceAdd, Nat.reduceLeDiff, Int.reduceEq, ↓reduceIte, hc1, h5, ←hF]
      refine (putref_ok a (hg.ga (.inl h5)) _ b _ _ hW1 (by rw [List.length_append]; omega)).mono ?_
      rintro v σ2 ⟨rfl, hW2⟩
      rw [List.append_assoc, hH] at hW2
      simp (disch := first | assumption | omega | (simp only [List.length_append, List.length_cons, List.length_nil]; omega)) only [go_sem]
      refine fin c _ _ hcb hc0 hW2 ?_
      simp (disch := first | assumption | omega | (simp only [List.length_append, List.length_cons, List.length_nil]; omega)) only [go_sem, reduceCtorEq, Nat.reduceEqDiff, ↓reduceIte]
    by_cases h6 : op = 6
    · have hrb : restB op m s a d kids.length = rfB a ++ rfB d := by unfold restB; rw [if_neg h134, if_neg h2, if_neg h5, if_pos h6]
      rw [hrb] at hH hHl
      rw [List.length_append] at hHl
      simp (disch := first | assumption | omega | (simp only [List.length_append, List.length_cons, List.length_nil]; omega)) only [go_sem, reduceCtorEq, Nat.reduceEqDiff, Nat.reduceAdd, Nat.reduceLeDiff, Int.reduceEq, ↓reduceIte, hc1, h6, ←hF]
      refine (putref_ok a (hg.ga (.inr h6)) _ b _ _ hW1 (by rw [List.length_append]; omega)).mono ?_
      rintro v σ2 ⟨rfl, hW2⟩
      have hc2 := hW2.role hcb
      simp (disch := first | assumption | omega | (simp only [List.length_append, List.length_cons, List.length_nil]; omega)) only [go_sem, reduceCtorEq, Nat.reduceEqDiff, Nat.reduceAdd, Nat.reduceLeDiff, ↓reduceIte, hc2]
      refine (putref_ok d (hg.gb h6) _ b _ _ hW2 (by rw [List.length_append, List.length_append]; omega)).mono ?_
      rintro v σ3 ⟨rfl, hW3⟩
      rw [List.append_assoc, List.append_assoc, hH] at hW3
      simp (disch := first | assumption | omega | (simp only [List.length_append, List.length_cons, List.length_nil]; omega)) only [go_sem]
      refine fin c _ _ hcb hc0 hW3 ?_
      simp (disch := first | assumption | omega | (simp only [List.length_append, List.length_cons, List.length_nil]; omega)) only [go_sem, reduceCtorEq, Nat.reduceEqDiff, ↓reduceIte]
    by_cases h22 : op = 22
    · have hrb : restB op m s a d kids.length = textB s ++ uintB kids.length := by unfold restB; rw [if_neg h134, if_neg h2, if_neg h5, if_neg h6, if_pos h22]
      rw [hrb] at hH hHl
      rw [List.length_append] at hHl
      have hsl := (hg.s22 h22).1
      have e1 : ((kids.length : Int)).toNat = kids.length := by omega
      simp (disch := first | assumption | omega | (simp only [List.length_append, List.length_cons, List.length_nil]; omega)) only [go_sem, reduceCtorEq, Nat.reduceEqDiff, Int.reduceEq, ↓reduceIte, hc1, h22, ←hF]
      refine (wtext_ok _ b s _ _ hW1 (by rw [List.length_append]; omega)).mono ?_
      rintro v σ2 ⟨rfl, hW2⟩
      have hc2 := hW2.role hcb
      simp (disch := first | assumption | omega | (simp only [List.length_append, List.length_cons, List.length_nil]; omega)) only [go_sem, reduceCtorEq, Nat.reduceEqDiff, ↓reduceIte, hc2, hkm]
      refine (wuint_ok _ b kids.length _ _ hW2 (by omega) (by omega) (by rw [e1, List.length_append, List.length_append]; omega)).mono ?_
      rintro v σ3 ⟨rfl, hW3⟩
      rw [e1, List.append_assoc, List.append_assoc, hH] at hW3
      simp (disch := first | assumption | omega | (simp only [List.length_append, List.length_cons, List.length_nil]; omega)) only [go_sem]
      refine fin c _ _ hcb hc0 hW3 ?_
      simp (disch := first | assumption | omega | (simp only [List.length_append, List.length_cons, List.length_nil]; omega)) only [go_sem, reduceCtorEq, Nat.reduceEqDiff, ↓reduceIte]
    have hrb : restB op m s a d kids.length = [] := by unfold restB; rw [if_neg h134, if_neg h2, if_neg h5, if_neg h6, if_neg h22]
    rw [hrb, List.append_nil] at hH
    rw [hH] at hW1
    simp (disch := first | assumption | omega | (simp only [List.length_append, List.length_cons, List.length_nil]; omega)) only [go_sem, Nat.reduceEqDiff, ↓reduceIte, hc1, g1, g3, g4, h2, h5, h6, h22, ←hF]
    refine fin c _ _ hcb hc0 hW1 ?_
    simp (disch := first | assumption | omega | (simp only [List.length_append, List.length_cons, List.length_nil]; omega)) only [go_sem, reduceCtorEq, Nat.reduceEqDiff, ↓reduceIte]
theorem ewrite_ok (n : Nd) (hg : n.gd) (σ0 : ASt) (b : Nat) (l : List UInt8) (σ : ASt) (hW : W σ0 b l σ) (hl : l.length + n.bytes.length ≤ 900000) :
    ACalls Tryz.prog 21 [.ptr b 0, n.av] σ fun v σ' => v = .tuple [] ∧ W σ0 b (l ++ n.bytes) σ' := ewrite_le n.size n (Nat.le_refl _) hg σ0 b l σ hW hl
end Go.A
namespace Go.A
open Go.Proofs
/-! 73: tabular/expr.kids -/
def c73_0 : ACode := .ops [
 ⟨some 2, none, .q (.mv (.v (.int .i64 0))), []⟩]
def c73_1 : ACode := .ops [
 ⟨some 4, none, .q (.mv (.t 0)), []⟩,
 ⟨some 5, none, .q (.bin .eql (.t 4) (.v (.int .i64 7))), []⟩,
 ⟨some 6, none, .q (.mv (.t 5)), []⟩,
 ⟨some 7, some (6, false), .q (.mv (.t 0)), []⟩,
 ⟨some 8, some (6, false), .q (.bin .eql (.t 7) (.v (.int .i64 8))), []⟩,
 ⟨some 9, none, .q (.pick (.t 6) (.v (.bool true)) (.t 8)), []⟩,
 ⟨some 10, none, .q (.mv (.t 9)), []⟩,
 ⟨some 11, some (10, false), .q (.mv (.t 0)), []⟩,
 ⟨some 12, some (10, false), .q (.bin .eql (.t 11) (.v (.int .i64 9))), []⟩,
 ⟨some 13, none, .q (.pick (.t 10) (.v (.bool true)) (.t 12)), []⟩,
 ⟨some 3, none, .q (.mv (.t 13)), []⟩]
def c73_2 : ACode := .ops [
 ⟨some 2, none, .q (.mv (.v (.int .i64 1))), []⟩]
def c73_3 : ACode := .seq c73_2 .ret
def c73_4 : ACode := .ops [
 ⟨some 15, none, .q (.mv (.t 0)), []⟩,
 ⟨some 16, none, .q (.bin .geq (.t 15) (.v (.int .i64 10))), []⟩,
 ⟨some 17, none, .q (.mv (.t 16)), []⟩,
 ⟨some 18, some (17, true), .q (.mv (.t 0)), []⟩,
 ⟨some 19, some (17, true), .q (.bin .lss (.t 18) (.v (.int .i64 22))), []⟩,
 ⟨some 20, none, .q (.pick (.t 17) (.t 19) (.v (.bool false))), []⟩,
 ⟨some 14, none, .q (.mv (.t 20)), []⟩]
def c73_5 : ACode := .ops [
 ⟨some 2, none, .q (.mv (.v (.int .i64 2))), []⟩]
def c73_6 : ACode := .seq c73_5 .ret
def c73_7 : ACode := .cond (.t 14) c73_6 .skip
def c73_8 : ACode := .seq c73_4 c73_7
def c73_9 : ACode := .cond (.t 3) c73_3 c73_8
def c73_10 : ACode := .seq c73_1 c73_9
def c73_11 : ACode := .block 0 c73_10
def c73_12 : ACode := .ops [
 ⟨some 2, none, .q (.mv (.v (.int .i64 0))), []⟩]
def c73_13 : ACode := .seq c73_12 .ret
def c73_14 : ACode := .seq c73_11 c73_13
def c73_15 : ACode := .seq c73_0 c73_14
@[go_sem] theorem c73_0_wp : type_of% (wp_of c73_0.eq_1) := wp_of c73_0.eq_1
@[go_sem] theorem c73_1_wp : type_of% (wp_of c73_1.eq_1) := wp_of c73_1.eq_1
@[go_sem] theorem c73_2_wp : type_of% (wp_of c73_2.eq_1) := wp_of c73_2.eq_1
@[go_sem] theorem c73_3_wp : type_of% (wp_of c73_3.eq_1) := wp_of c73_3.eq_1
@[go_sem] theorem c73_4_wp : type_of% (wp_of c73_4.eq_1) := wp_of c73_4.eq_1
@[go_sem] theorem c73_5_wp : type_of% (wp_of c73_5.eq_1) := wp_of c73_5.eq_1
@[go_sem] theorem c73_6_wp : type_of% (wp_of c73_6.eq_1) := wp_of c73_6.eq_1
@[go_sem] theorem c73_7_wp : type_of% (wp_of c73_7.eq_1) := wp_of c73_7.eq_1
@[go_sem] theorem c73_8_wp : type_of% (wp_of c73_8.eq_1) := wp_of c73_8.eq_1
@[go_sem] theorem c73_9_wp : type_of% (wp_of c73_9.eq_1) := wp_of c73_9.eq_1
@[go_sem] theorem c73_10_wp : type_of% (wp_of c73_10.eq_1) := wp_of c73_10.eq_1
@[go_sem] theorem c73_11_wp : type_of% (wp_of c73_11.eq_1) := wp_of c73_11.eq_1
@[go_sem] theorem c73_12_wp : type_of% (wp_of c73_12.eq_1) := wp_of c73_12.eq_1
@[go_sem] theorem c73_13_wp : type_of% (wp_of c73_13.eq_1) := wp_of c73_13.eq_1
@[go_sem] theorem c73_14_wp : type_of% (wp_of c73_14.eq_1) := wp_of c73_14.eq_1
@[go_sem] theorem c73_15_wp : type_of% (wp_of c73_15.eq_1) := wp_of c73_15.eq_1
def c73 : AFn := ⟨21, [.t 2], c73_15⟩
set_option maxRecDepth 100000 in
theorem c73_ok : compF Tryz.prog Tryz.f73 = some c73 := by kernel_rfl
theorem a73 {args : List AV} {σ : ASt} {R : AV → ASt → Prop} (hl : args.length ≤ 21) (h : c73_15.wp Tryz.prog (RetQ [.t 2] R) (init args) σ) : ACalls Tryz.prog 73 args σ R := acalls_of Tryz.func73 c73_ok hl h
/-! 75: tabular/expr.value -/
def c75_0 : ACode := .ops [
 ⟨some 1, none, .e (.box (.t 0)), []⟩,
 ⟨some 2, none, .q (.mv (.v (.bool false))), []⟩]
def c75_1 : ACode := .ops [
 ⟨some 3, none, .q (.fa 0 (.t 1)), []⟩,
 ⟨some 4, none, .q (.ld none (.t 3)), []⟩]
def c75_2 : ACode := .ops [
 ⟨some 6, none, .q (.bin .eql (.t 4) (.v (.int .i64 3))), []⟩,
 ⟨some 5, none, .q (.mv (.t 6)), []⟩]
def c75_3 : ACode := .ops [
 ⟨some 7, none, .q (.fa 1 (.t 1)), []⟩,
 ⟨some 8, none, .q (.ld none (.t 7)), []⟩,
 ⟨some 9, none, .q (.bin .eql (.t 8) (.v (.int .i64 0))), []⟩,
 ⟨some 10, none, .q (.mv (.t 9)), []⟩,
 ⟨some 11, some (10, false), .q (.fa 1 (.t 1)), []⟩,
 ⟨some 12, some (10, false), .q (.ld none (.t 11)), []⟩,
 ⟨some 13, some (10, false), .q (.bin .eql (.t 12) (.v (.int .i64 1))), []⟩,
 ⟨some 14, none, .q (.pick (.t 10) (.v (.bool true)) (.t 13)), []⟩,
 ⟨some 2, none, .q (.mv (.t 14)), []⟩]
def c75_4 : ACode := .seq c75_3 .ret
def c75_5 : ACode := .ops [
 ⟨some 16, none, .q (.bin .eql (.t 4) (.v (.int .i64 4))), []⟩,
 ⟨some 15, none, .q (.mv (.t 16)), []⟩]
def c75_6 : ACode := .ops [
 ⟨some 17, none, .q (.fa 1 (.t 1)), []⟩,
 ⟨some 18, none, .q (.ld none (.t 17)), []⟩,
 ⟨some 19, none, .e (.call 92 [(.t 18)]), []⟩,
 ⟨some 20, none, .q (.mv (.t 19)), []⟩,
 ⟨some 21, some (20, true), .q (.ld (some 12) (.t 1)), []⟩,
 ⟨some 22, some (20, true), .e (.call 25 [(.t 21)]), []⟩,
 ⟨some 23, some (20, true), .q (.bin .neq (.t 22) (.v (.str []))), []⟩,
 ⟨some 24, none, .q (.pick (.t 20) (.t 23) (.v (.bool false))), []⟩,
 ⟨some 2, none, .q (.mv (.t 24)), []⟩]
def c75_7 : ACode := .seq c75_6 .ret
def c75_8 : ACode := .cond (.t 15) c75_7 .skip
def c75_9 : ACode := .seq c75_5 c75_8
def c75_10 : ACode := .cond (.t 5) c75_4 c75_9
def c75_11 : ACode := .seq c75_2 c75_10
def c75_12 : ACode := .block 0 c75_11
def c75_13 : ACode := .seq c75_1 c75_12
def c75_14 : ACode := .ops [
 ⟨some 25, none, .q (.fa 1 (.t 1)), []⟩,
 ⟨some 26, none, .q (.ld none (.t 25)), []⟩,
 ⟨some 27, none, .q (.bin .geq (.t 26) (.v (.int .i64 0))), []⟩,
 ⟨some 28, none, .q (.mv (.t 27)), []⟩,
 ⟨some 29, some (28, true), .q (.fa 1 (.t 1)), []⟩,
 ⟨some 30, some (28, true), .q (.ld none (.t 29)), []⟩,
 ⟨some 31, some (28, true), .e (.call 93 [(.t 30)]), []⟩,
 ⟨some 32, none, .q (.pick (.t 28) (.t 31) (.v (.bool false))), []⟩,
 ⟨some 2, none, .q (.mv (.t 32)), []⟩]
def c75_15 : ACode := .seq c75_14 .ret
def c75_16 : ACode := .seq c75_13 c75_15
def c75_17 : ACode := .seq c75_0 c75_16
@[go_sem] theorem c75_0_wp : type_of% (wp_of c75_0.eq_1) := wp_of c75_0.eq_1
@[go_sem] theorem c75_1_wp : type_of% (wp_of c75_1.eq_1) := wp_of c75_1.eq_1
@[go_sem] theorem c75_2_wp : type_of% (wp_of c75_2.eq_1) := wp_of c75_2.eq_1
@[go_sem] theorem c75_3_wp : type_of% (wp_of c75_3.eq_1) := wp_of c75_3.eq_1
@[go_sem] theorem c75_4_wp : type_of% (wp_of c75_4.eq_1) := wp_of c75_4.eq_1
@[go_sem] theorem c75_5_wp : type_of% (wp_of c75_5.eq_1) := wp_of c75_5.eq_1
@[go_sem] theorem c75_6_wp : type_of% (wp_of c75_6.eq_1) := wp_of c75_6.eq_1
@[go_sem] theorem c75_7_wp : type_of% (wp_of c75_7.eq_1) := wp_of c75_7.eq_1
@[go_sem] theorem c75_8_wp : type_of% (wp_of c75_8.eq_1) := wp_of c75_8.eq_1
@[go_sem] theorem c75_9_wp : type_of% (wp_of c75_9.eq_1) := wp_of c75_9.eq_1
@[go_sem] theorem c75_10_wp : type_of% (wp_of c75_10.eq_1) := wp_of c75_10.eq_1
@[go_sem] theorem c75_11_wp : type_of% (wp_of c75_11.eq_1) := wp_of c75_11.eq_1
@[go_sem] theorem c75_12_wp : type_of% (wp_of c75_12.eq_1) := wp_of c75_12.eq_1
@[go_sem] theorem c75_13_wp : type_of% (wp_of c75_13.eq_1) := wp_of c75_13.eq_1
@[go_sem] theorem c75_14_wp : type_of% (wp_of c75_14.eq_1) := wp_of c75_14.eq_1
@[go_sem] theorem c75_15_wp : type_of% (wp_of c75_15.eq_1) := wp_of c75_15.eq_1
@[go_sem] theorem c75_16_wp : type_of% (wp_of c75_16.eq_1) := wp_of c75_16.eq_1
@[go_sem] theorem c75_17_wp : type_of% (wp_of c75_17.eq_1) := wp_of c75_17.eq_1
def c75 : AFn := ⟨33, [.t 2], c75_17⟩
set_option maxRecDepth 100000 in
theorem c75_ok : compF Tryz.prog Tryz.f75 = some c75 := by kernel_rfl
theorem a75 {args : List AV} {σ : ASt} {R : AV → ASt → Prop} (hl : args.length ≤ 33) (h : c75_17.wp Tryz.prog (RetQ [.t 2] R) (init args) σ) : ACalls Tryz.prog 75 args σ R := acalls_of Tryz.func75 c75_ok hl h
/-! 77: tabular/token.Signs -/
def c77_0 : ACode := .ops [
 ⟨some 2, none, .q (.mv (.v (.int .i64 0))), []⟩,
 ⟨some 3, none, .q (.mv (.v (.bool false))), []⟩]
def c77_1 : ACode := .ops [
 ⟨some 4, none, .q (.mv (.v (.int .i64 0))), []⟩]
def c77_2 : ACode := .ops [
 ⟨some 9, none, .q (.mv (.t 0)), []⟩,
 ⟨some 10, none, .e (.rng (.t 9)), []⟩]
def c77_3 : ACode := .ops [
 ⟨some 11, none, .e (.nxt (.t 10)), []⟩,
 ⟨some 12, none, .q (.ext 0 (.t 11)), []⟩]
def c77_4 : ACode := .cond (.t 12) .skip (.exit 0)
def c77_5 : ACode := .ops [
 ⟨some 13, none, .q (.ext 1 (.t 11)), []⟩,
 ⟨some 14, none, .q (.ext 2 (.t 11)), []⟩,
 ⟨some 5, none, .q (.mv (.t 13)), []⟩,
 ⟨some 6, none, .q (.mv (.t 14)), []⟩]
def c77_6 : ACode := .ops [
 ⟨some 15, none, .q (.mv (.t 6)), []⟩,
 ⟨some 16, none, .q (.bin .eql (.t 15) (.v (.int .i32 65533))), []⟩]
def c77_7 : ACode := .ops [
 ⟨some 18, none, .q (.mv (.t 0)), []⟩,
 ⟨some 19, none, .q (.mv (.t 5)), []⟩,
 ⟨some 20, none, .q (.slfrom (true, 0) (.t 18) (.t 19)), []⟩,
 ⟨some 21, none, .e (.call 94 [(.t 20)]), []⟩,
 ⟨some 17, none, .q (.mv (.t 21)), []⟩,
 ⟨some 22, none, .q (.ext 0 (.t 17)), []⟩,
 ⟨some 23, none, .q (.ext 1 (.t 17)), []⟩,
 ⟨some 7, none, .q (.mv (.t 22)), []⟩,
 ⟨some 8, none, .q (.mv (.t 23)), []⟩]
def c77_8 : ACode := .ops [
 ⟨some 24, none, .q (.mv (.t 8)), []⟩,
 ⟨some 25, none, .q (.bin .eql (.t 24) (.v (.int .i64 1))), []⟩]
def c77_9 : ACode := .ops [
 ⟨some 2, none, .q (.mv (.v (.int .i64 0))), []⟩,
 ⟨some 3, none, .q (.mv (.v (.bool false))), []⟩]
def c77_10 : ACode := .seq c77_9 .ret
def c77_11 : ACode := .cond (.t 25) c77_10 .skip
def c77_12 : ACode := .seq c77_8 c77_11
def c77_13 : ACode := .seq c77_7 c77_12
def c77_14 : ACode := .cond (.t 16) c77_13 .skip
def c77_15 : ACode := .seq c77_6 c77_14
def c77_16 : ACode := .ops [
 ⟨some 26, none, .q (.mv (.t 4)), []⟩,
 ⟨some 27, none, .q (.bin .add (.t 26) (.v (.int .i64 1))), []⟩,
 ⟨some 4, none, .q (.mv (.t 27)), []⟩]
def c77_17 : ACode := .seq c77_15 c77_16
def c77_18 : ACode := .seq c77_5 c77_17
def c77_19 : ACode := .block 1 c77_18
def c77_20 : ACode := .seq c77_4 c77_19
def c77_21 : ACode := .seq c77_3 c77_20
def c77_22 : ACode := .loop c77_21
def c77_23 : ACode := .block 0 c77_22
def c77_24 : ACode := .seq c77_2 c77_23
def c77_25 : ACode := .ops [
 ⟨some 28, none, .q (.mv (.t 4)), []⟩,
 ⟨some 2, none, .q (.mv (.t 28)), []⟩,
 ⟨some 3, none, .q (.mv (.v (.bool true))), []⟩]
def c77_26 : ACode := .seq c77_25 .ret
def c77_27 : ACode := .seq c77_24 c77_26
def c77_28 : ACode := .seq c77_1 c77_27
def c77_29 : ACode := .seq c77_0 c77_28
@[go_sem] theorem c77_0_wp : type_of% (wp_of c77_0.eq_1) := wp_of c77_0.eq_1
@[go_sem] theorem c77_1_wp : type_of% (wp_of c77_1.eq_1) := wp_of c77_1.eq_1
@[go_sem] theorem c77_2_wp : type_of% (wp_of c77_2.eq_1) := wp_of c77_2.eq_1
@[go_sem] theorem c77_3_wp : type_of% (wp_of c77_3.eq_1) := wp_of c77_3.eq_1
@[go_sem] theorem c77_4_wp : type_of% (wp_of c77_4.eq_1) := wp_of c77_4.eq_1
@[go_sem] theorem c77_5_wp : type_of% (wp_of c77_5.eq_1) := wp_of c77_5.eq_1
@[go_sem] theorem c77_6_wp : type_of% (wp_of c77_6.eq_1) := wp_of c77_6.eq_1
@[go_sem] theorem c77_7_wp : type_of% (wp_of c77_7.eq_1) := wp_of c77_7.eq_1
@[go_sem] theorem c77_8_wp : type_of% (wp_of c77_8.eq_1) := wp_of c77_8.eq_1
@[go_sem] theorem c77_9_wp : type_of% (wp_of c77_9.eq_1) := wp_of c77_9.eq_1
@[go_sem] theorem c77_10_wp : type_of% (wp_of c77_10.eq_1) := wp_of c77_10.eq_1
@[go_sem] theorem c77_11_wp : type_of% (wp_of c77_11.eq_1) := wp_of c77_11.eq_1
@[go_sem] theorem c77_12_wp : type_of% (wp_of c77_12.eq_1) := wp_of c77_12.eq_1
@[go_sem] theorem c77_13_wp : type_of% (wp_of c77_13.eq_1) := wp_of c77_13.eq_1
@[go_sem] theorem c77_14_wp : type_of% (wp_of c77_14.eq_1) := wp_of c77_14.eq_1
@[go_sem] theorem c77_15_wp : type_of% (wp_of c77_15.eq_1) := wp_of c77_15.eq_1
@[go_sem] theorem c77_16_wp : type_of% (wp_of c77_16.eq_1) := wp_of c77_16.eq_1
@[go_sem] theorem c77_17_wp : type_of% (wp_of c77_17.eq_1) := wp_of c77_17.eq_1
@[go_sem] theorem c77_18_wp : type_of% (wp_of c77_18.eq_1) := wp_of c77_18.eq_1
@[go_sem] theorem c77_19_wp : type_of% (wp_of c77_19.eq_1) := wp_of c77_19.eq_1
@[go_sem] theorem c77_20_wp : type_of% (wp_of c77_20.eq_1) := wp_of c77_20.eq_1
@[go_sem] theorem c77_21_wp : type_of% (wp_of c77_21.eq_1) := wp_of c77_21.eq_1
@[go_sem] theorem c77_22_wp : type_of% (wp_of c77_22.eq_1) := wp_of c77_22.eq_1
@[go_sem] theorem c77_23_wp : type_of% (wp_of c77_23.eq_1) := wp_of c77_23.eq_1
@[go_sem] theorem c77_24_wp : type_of% (wp_of c77_24.eq_1) := wp_of c77_24.eq_1
@[go_sem] theorem c77_25_wp : type_of% (wp_of c77_25.eq_1) := wp_of c77_25.eq_1
@[go_sem] theorem c77_26_wp : type_of% (wp_of c77_26.eq_1) := wp_of c77_26.eq_1
@[go_sem] theorem c77_27_wp : type_of% (wp_of c77_27.eq_1) := wp_of c77_27.eq_1
@[go_sem] theorem c77_28_wp : type_of% (wp_of c77_28.eq_1) := wp_of c77_28.eq_1
@[go_sem] theorem c77_29_wp : type_of% (wp_of c77_29.eq_1) := wp_of c77_29.eq_1
def c77 : AFn := ⟨29, [.t 2, .t 3], c77_29⟩
set_option maxRecDepth 100000 in
theorem c77_ok : compF Tryz.prog Tryz.f77 = some c77 := by kernel_rfl
theorem a77 {args : List AV} {σ : ASt} {R : AV → ASt → Prop} (hl : args.length ≤ 29) (h : c77_29.wp Tryz.prog (RetQ [.t 2, .t 3] R) (init args) σ) : ACalls Tryz.prog 77 args σ R := acalls_of Tryz.func77 c77_ok hl h
/-! 78: tabular/expr.getRef -/
def c78_0 : ACode := .ops [
 ⟨some 2, none, .e (.alloc [(.int .i64 0), (.int .i64 0), (.bool false), (.bool false)]), []⟩,
 ⟨some 3, none, .q (.mv (.v (.bool false))), []⟩]
def c78_1 : ACode := .ops [
 ⟨some 6, none, .q (.mv (.t 0)), []⟩,
 ⟨some 7, none, .e (.call 71 [(.t 6)]), []⟩,
 ⟨some 8, none, .q (.mv (.t 0)), []⟩,
 ⟨some 9, none, .e (.call 71 [(.t 8)]), []⟩,
 ⟨some 4, none, .q (.mv (.t 7)), []⟩,
 ⟨some 5, none, .q (.mv (.t 9)), []⟩]
def c78_2 : ACode := .ops [
 ⟨some 10, none, .q (.mv (.t 4)), []⟩,
 ⟨some 11, none, .q (.bin .geq (.t 10) (.v (.int .u64 12000))), []⟩,
 ⟨some 12, none, .q (.mv (.t 11)), []⟩,
 ⟨some 13, some (12, false), .q (.mv (.t 5)), []⟩,
 ⟨some 14, some (12, false), .q (.bin .geq (.t 13) (.v (.int .u64 700))), []⟩,
 ⟨some 15, none, .q (.pick (.t 12) (.v (.bool true)) (.t 14)), []⟩]
def c78_3 : ACode := .ops [
 ⟨some 16, none, .q (.build [(.int .i64 0), (.int .i64 0), (.bool false), (.bool false)] []), []⟩,
 ⟨none, none, .e (.store 4 (.t 2) (.t 16)), []⟩,
 ⟨some 3, none, .q (.mv (.v (.bool false))), []⟩]
def c78_4 : ACode := .seq c78_3 .ret
def c78_5 : ACode := .cond (.t 15) c78_4 .skip
def c78_6 : ACode := .seq c78_2 c78_5
def c78_7 : ACode := .ops [
 ⟨some 17, none, .q (.mv (.t 4)), []⟩,
 ⟨some 18, none, .q (.bin .quo (.t 17) (.v (.int .u64 4))), []⟩,
 ⟨some 19, none, .q (.conv .i64 (.t 18)), []⟩,
 ⟨some 20, none, .q (.mv (.t 5)), []⟩,
 ⟨some 21, none, .q (.conv .i64 (.t 20)), []⟩,
 ⟨some 22, none, .q (.mv (.t 4)), []⟩,
 ⟨some 23, none, .q (.bin .and (.t 22) (.v (.int .u64 1))), []⟩,
 ⟨some 24, none, .q (.bin .eql (.t 23) (.v (.int .u64 1))), []⟩,
 ⟨some 25, none, .q (.mv (.t 4)), []⟩,
 ⟨some 26, none, .q (.bin .and (.t 25) (.v (.int .u64 2))), []⟩,
 ⟨some 27, none, .q (.bin .eql (.t 26) (.v (.int .u64 2))), []⟩,
 ⟨some 28, none, .q (.build [(.int .i64 0), (.int .i64 0), (.bool false), (.bool false)] [(0, 1, (.t 19)), (1, 1, (.t 21)), (2, 1, (.t 24)), (3, 1, (.t 27))]), []⟩,
 ⟨none, none, .e (.store 4 (.t 2) (.t 28)), []⟩,
 ⟨some 3, none, .q (.mv (.v (.bool true))), []⟩]
def c78_8 : ACode := .seq c78_7 .ret
def c78_9 : ACode := .seq c78_6 c78_8
def c78_10 : ACode := .seq c78_1 c78_9
def c78_11 : ACode := .seq c78_0 c78_10
@[go_sem] theorem c78_0_wp : type_of% (wp_of c78_0.eq_1) := wp_of c78_0.eq_1
@[go_sem] theorem c78_1_wp : type_of% (wp_of c78_1.eq_1) := wp_of c78_1.eq_1
@[go_sem] theorem c78_2_wp : type_of% (wp_of c78_2.eq_1) := wp_of c78_2.eq_1
@[go_sem] theorem c78_3_wp : type_of% (wp_of c78_3.eq_1) := wp_of c78_3.eq_1
@[go_sem] theorem c78_4_wp : type_of% (wp_of c78_4.eq_1) := wp_of c78_4.eq_1
@[go_sem] theorem c78_5_wp : type_of% (wp_of c78_5.eq_1) := wp_of c78_5.eq_1
@[go_sem] theorem c78_6_wp : type_of% (wp_of c78_6.eq_1) := wp_of c78_6.eq_1
@[go_sem] theorem c78_7_wp : type_of% (wp_of c78_7.eq_1) := wp_of c78_7.eq_1
@[go_sem] theorem c78_8_wp : type_of% (wp_of c78_8.eq_1) := wp_of c78_8.eq_1
@[go_sem] theorem c78_9_wp : type_of% (wp_of c78_9.eq_1) := wp_of c78_9.eq_1
@[go_sem] theorem c78_10_wp : type_of% (wp_of c78_10.eq_1) := wp_of c78_10.eq_1
@[go_sem] theorem c78_11_wp : type_of% (wp_of c78_11.eq_1) := wp_of c78_11.eq_1
def c78 : AFn := ⟨29, [.c 2 (some 4), .t 3], c78_11⟩
set_option maxRecDepth 100000 in
theorem c78_ok : compF Tryz.prog Tryz.f78 = some c78 := by kernel_rfl
theorem a78 {args : List AV} {σ : ASt} {R : AV → ASt → Prop} (hl : args.length ≤ 29) (h : c78_11.wp Tryz.prog (RetQ [.c 2 (some 4), .t 3] R) (init args) σ) : ACalls Tryz.prog 78 args σ R := acalls_of Tryz.func78 c78_ok hl h
/-! 79: tabular/expr.name -/
def c79_0 : ACode := .ops [
 ⟨some 2, none, .q (.mv (.v (.bool false))), []⟩]
def c79_1 : ACode := .ops [
 ⟨some 7, none, .q (.mv (.t 0)), []⟩,
 ⟨some 8, none, .e (.call 95 [(.t 7)]), []⟩,
 ⟨some 6, none, .q (.mv (.t 8)), []⟩,
 ⟨some 9, none, .q (.ext 0 (.t 6)), []⟩,
 ⟨some 10, none, .q (.ext 1 (.t 6)), []⟩,
 ⟨some 11, none, .q (.ext 2 (.t 6)), []⟩,
 ⟨some 3, none, .q (.mv (.t 9)), []⟩,
 ⟨some 4, none, .q (.mv (.t 10)), []⟩,
 ⟨some 5, none, .q (.mv (.t 11)), []⟩]
def c79_2 : ACode := .ops [
 ⟨some 12, none, .q (.mv (.t 5)), []⟩,
 ⟨some 13, none, .q (.bin .eql (.t 12) (.v (.int .i64 0))), []⟩,
 ⟨some 14, none, .q (.mv (.t 13)), []⟩,
 ⟨some 15, some (14, true), .q (.mv (.t 3)), []⟩,
 ⟨some 16, some (14, true), .q (.len (.t 15)), []⟩,
 ⟨some 17, some (14, true), .q (.bin .eql (.t 16) (.v (.int .i64 2))), []⟩,
 ⟨some 18, none, .q (.pick (.t 14) (.t 17) (.v (.bool false))), []⟩,
 ⟨some 19, none, .q (.mv (.t 18)), []⟩,
 ⟨some 20, some (19, true), .q (.mv (.t 3)), []⟩,
 ⟨some 21, some (19, true), .q (.ia 4 (.t 20) (.v (.int .i64 0))), []⟩,
 ⟨some 22, some (19, true), .q (.fa 0 (.t 21)), []⟩,
 ⟨some 23, some (19, true), .q (.ld none (.t 22)), []⟩,
 ⟨some 24, some (19, true), .q (.bin .eql (.t 23) (.v (.int .i64 3))), []⟩,
 ⟨some 25, none, .q (.pick (.t 19) (.t 24) (.v (.bool false))), []⟩,
 ⟨some 26, none, .q (.mv (.t 25)), []⟩,
 ⟨some 27, some (26, true), .q (.mv (.t 3)), []⟩,
 ⟨some 28, some (26, true), .q (.ia 4 (.t 27) (.v (.int .i64 0))), []⟩,
 ⟨some 29, some (26, true), .q (.fa 1 (.t 28)), []⟩,
 ⟨some 30, some (26, true), .q (.ld none (.t 29)), []⟩,
 ⟨some 31, some (26, true), .q (.mv (.t 0)), []⟩,
 ⟨some 32, some (26, true), .q (.bin .eql (.t 30) (.t 31)), []⟩,
 ⟨some 33, none, .q (.pick (.t 26) (.t 32) (.v (.bool false))), []⟩,
 ⟨some 2, none, .q (.mv (.t 33)), []⟩]
def c79_3 : ACode := .seq c79_2 .ret
def c79_4 : ACode := .seq c79_1 c79_3
def c79_5 : ACode := .seq c79_0 c79_4
@[go_sem] theorem c79_0_wp : type_of% (wp_of c79_0.eq_1) := wp_of c79_0.eq_1
@[go_sem] theorem c79_1_wp : type_of% (wp_of c79_1.eq_1) := wp_of c79_1.eq_1
@[go_sem] theorem c79_2_wp : type_of% (wp_of c79_2.eq_1) := wp_of c79_2.eq_1
@[go_sem] theorem c79_3_wp : type_of% (wp_of c79_3.eq_1) := wp_of c79_3.eq_1
@[go_sem] theorem c79_4_wp : type_of% (wp_of c79_4.eq_1) := wp_of c79_4.eq_1
@[go_sem] theorem c79_5_wp : type_of% (wp_of c79_5.eq_1) := wp_of c79_5.eq_1
def c79 : AFn := ⟨34, [.t 2], c79_5⟩
set_option maxRecDepth 100000 in
theorem c79_ok : compF Tryz.prog Tryz.f79 = some c79 := by kernel_rfl
theorem a79 {args : List AV} {σ : ASt} {R : AV → ASt → Prop} (hl : args.length ≤ 34) (h : c79_5.wp Tryz.prog (RetQ [.t 2] R) (init args) σ) : ACalls Tryz.prog 79 args σ R := acalls_of Tryz.func79 c79_ok hl h
end Go.A
