/- Part 9 of what ShiftBack leans on: Pb CodePc Pc CodePd Pd CodePe Pe CodePf Pf CodePg Pg Ph CodePi. -/
import Derived.Test.YtelbefdoehlmhaaGreatDoorProg
import Derived.KernelRfl
import Derived.Test.YtelbefdoehlmhaaGreatDoorZShiftBackh
set_option linter.defProp false
set_option linter.unusedSimpArgs false
set_option linter.unusedVariables false
set_option maxRecDepth 100000
namespace Go.A
open Go.Proofs Go.Lib
def pr (T : List Tok) (s : PSt) : Option Role := some (.obj [.sl .shr (T.map tokAV), .int .i64 s.i, .int .i64 s.deep, .int .i64 s.err, .int .i64 s.bad])
theorem set_self0 {σ : ASt} {b : Nat} {r : Option Role} (h : σ b = r) : σ.set b r = σ := by
 funext x
 simp only [ASt.set]
 split
 ·rename_i hx; rw [hx, h]
 ·rfl
theorem tok_get {T : List Tok} {i : Nat} (h : i < T.length) : (T.map tokAV)[i]? = some (tokAV (T.getD i endT)) := by
 rw [List.getElem?_map, List.getD_eq_getElem?_getD, List.getElem?_eq_getElem h]
 rfl
theorem pcur_ok {T : List Tok} {s : PSt} (hi : s.i < T.length) {σ : ASt} {b : Nat} (hb : σ b = pr T s) : ACalls Tryz.prog 29 [.ptr b 0] σ fun v σ' => v = tokAV (curT T s) ∧ σ' = σ := by
 unfold curT
 unfold pr at hb
 have ht := tok_get hi
 have hlen : (T.map tokAV).length = T.length := by simp
 have hi' : (s.i : Int) < T.length := by omega
 generalize T.getD s.i endT = t at *
 generalize T.map tokAV = TL at *
 obtain ⟨kd, tx, at', col⟩ := t
 unfold tokAV at ht
 dsimp only at ht
 refine a29 (by simp) ?_
 simp (disch := first | assumption | omega) only [go_sem]
 refine allocC_by fun d hd => ?_
 have hbd : b ≠ d := by rintro rfl; rw [hb] at hd; cases hd
 by_cases he : s.err = 0
 ·rw [if_neg (by simp [he])]
  simp (disch := first | assumption | omega) only [go_sem, reduceCtorEq, Nat.reduceEqDiff, Nat.reduceAdd, Nat.reduceLeDiff, ↓reduceIte, Bool.true_and, hb, he, ht, ASt.set_set]
  exact retC_by (Drop.set hd) (.refl _) ⟨rfl, rfl⟩
 ·rw [if_pos he]
  simp (disch := first | assumption | omega) only [go_sem, reduceCtorEq, Nat.reduceEqDiff, Nat.reduceAdd, Nat.reduceLeDiff, ↓reduceIte, Bool.true_and, hb, he, ASt.set_set]
  exact retC_by (Drop.set hd) (.refl _) ⟨rfl, rfl⟩
theorem pfail_ok {T : List Tok} {s : PSt} (hi : s.i < T.length) (e : Int) {σ : ASt} {b : Nat} (hb : σ b = pr T s) : ACalls Tryz.prog 30 [.ptr b 0, .int .i64 e] σ fun v σ' => v = zN.av ∧ σ' = σ.set b (pr T (failP T s e)) := by
 have ht := tok_get hi
 have hlen : (T.map tokAV).length = T.length := by simp
 have hi' : (s.i : Int) < T.length := by omega
 have hfl : ∀ x : PSt, x.err = 0 → failP T x e = ⟨x.i, x.deep, e, ((T.getD x.i endT).at' : Nat)⟩ := fun x hx => by unfold failP; rw [if_pos hx]
 have hfn : s.err ≠ 0 → failP T s e = s := fun hx => by unfold failP; rw [if_neg hx]
 have hfl := hfl s
 generalize T.getD s.i endT = t at *
 have hz : zN.av = .agg [.int .i64 0, .int .i64 0, .str [], .int .i64 0, .int .i64 0, .bool false, .bool false, .int .i64 0, .int .i64 0, .bool false, .bool false, .sl .shr []] := rfl
 rw [hz]
 have hdz : ∀ σ σ' : ASt, Fz σ σ' (resV [.agg [.int .i64 0, .int .i64 0, .str [], .int .i64 0, .int .i64 0, .bool false, .bool false, .int .i64 0, .int .i64 0, .bool false, .bool false, .sl .full []]]) (.agg [.int .i64 0, .int .i64 0, .str [], .int .i64 0, .int .i64 0, .bool false, .bool false, .int .i64 0, .int .i64 0, .bool false, .bool false, .sl .shr []]) := fun σ σ' => Fz.agg (.cons (.refl _) (.cons (.refl _) (.cons (.refl _) (.cons (.refl _) (.cons (.refl _) (.cons (.refl _) (.cons (.refl _) (.cons (.refl _) (.cons (.refl _) (.cons (.refl _) (.cons (.refl _) (.cons (.sl _ _) .nil))))))))))))
 refine a30 (by simp) ?_
 by_cases he : s.err = 0
 ·rw [hfl he]
  obtain ⟨si, sd, se, sb⟩ := s
  dsimp only at he ht hi' hb hlen
  subst he
  obtain ⟨kd, tx, at', col⟩ := t
  unfold pr at hb ⊢
  dsimp only at hb ⊢
  generalize T.map tokAV = TL at *
  unfold tokAV at ht
  dsimp only at ht
  simp (disch := first | assumption | omega) only [go_sem]
  refine allocC_by fun d hd => ?_
  have hbd : b ≠ d := by rintro rfl; rw [hb] at hd; cases hd
  have hsw : ∀ (X Y Z : Option Role), ((σ.set d X).set b Y).set d Z = (σ.set b Y).set d Z := fun X Y Z => by rw [set_swap (Ne.symm hbd), ASt.set_set]
  have hdr : ∀ X Y : Option Role, ((σ.set d X).set b Y) d = X := fun X Y => by rw [ASt.set_ne (Ne.symm hbd), ASt.set_same]
  have hdd : ∀ X Y : Option Role, Drop ((σ.set b X).set d Y) (σ.set b X) := fun X Y => Drop.set (by rw [ASt.set_ne (Ne.symm hbd)]; exact hd)
  simp (disch := first | assumption | omega) only [go_sem, reduceCtorEq, Nat.reduceEqDiff, Nat.reduceAdd, Nat.reduceLeDiff, ↓reduceIte, Bool.true_and, hb, ht, ASt.set_set, hdr, hsw]
  exact retC_by (hdd _ _) (hdz _ _) ⟨rfl, rfl⟩
 ·rw [hfn he, set_self0 hb]
  unfold pr at hb
  generalize T.map tokAV = TL at *
  simp (disch := first | assumption | omega) only [go_sem]
  refine allocC_by fun d hd => ?_
  have hbd : b ≠ d := by rintro rfl; rw [hb] at hd; cases hd
  simp (disch := first | assumption | omega) only [go_sem, reduceCtorEq, Nat.reduceEqDiff, Nat.reduceAdd, Nat.reduceLeDiff, ↓reduceIte, Bool.true_and, hb, he, ASt.set_set]
  exact retC_by (Drop.set hd) (hdz _ _) ⟨rfl, rfl⟩
theorem pat_ok {T : List Tok} {s : PSt} (hi : s.i < T.length) (x : List UInt8) {σ : ASt} {b : Nat} (hb : σ b = pr T s) : ACalls Tryz.prog 68 [.ptr b 0, .str x] σ fun v σ' => v = .bool (isOp T s x) ∧ σ' = σ := by
 have hc := pcur_ok hi hb
 unfold isOp
 generalize curT T s = t at *
 obtain ⟨kd, tx, at', col⟩ := t
 unfold tokAV at hc
 dsimp only at hc ⊢
 refine a68 (by simp) ?_
 simp (disch := first | assumption | omega) only [go_sem, reduceCtorEq, ↓reduceIte]
 refine hc.mono ?_
 rintro v σ' ⟨rfl, rfl⟩
 simp (disch := first | assumption | omega) only [go_sem]
 refine allocC_by fun d hd => ?_
 by_cases hk : kd = 6
 ·simp (disch := first | assumption | omega) only [go_sem, Nat.reduceEqDiff, Nat.reduceAdd, Nat.reduceLeDiff, ↓reduceIte, Bool.true_and, hk, ASt.set_set]
  exact retC_by (Drop.set hd) (.refl _) ⟨by simp [resV_one], rfl⟩
 ·simp (disch := first | assumption | omega) only [go_sem, Nat.reduceEqDiff, Nat.reduceAdd, Nat.reduceLeDiff, ↓reduceIte, Bool.true_and, Bool.false_and, hk, ASt.set_set]
  exact retC_by (Drop.set hd) (.refl _) ⟨by simp [resV_one], rfl⟩
theorem paccept_ok {T : List Tok} {s : PSt} (hT : Ends T) (hf : Fit T s) (hn : T.length ≤ 1000000) (x : List UInt8) {σ : ASt} {b : Nat} (hb : σ b = pr T s) :
  ACalls Tryz.prog 96 [.ptr b 0, .str x] σ fun v σ' => v = .bool (isOp T s x) ∧ σ' = if isOp T s x = true then σ.set b (pr T s.next) else σ := by
 have hc := pat_ok hf.i x hb
 have hil := hf.i
 refine a96 (by simp) ?_
 simp (disch := first | assumption | omega) only [go_sem, reduceCtorEq, Nat.reduceEqDiff, ↓reduceIte]
 refine hc.mono ?_
 rintro v σ' ⟨rfl, rfl⟩
 cases isOp T s x with
 | true =>
   unfold pr at hb
   simp (disch := first | assumption | omega) only [go_sem, reduceCtorEq, Nat.reduceEqDiff, Nat.reduceAdd, Nat.reduceLeDiff, ↓reduceIte, Bool.true_and, hb]
   exact retC_by (Drop.refl _) (.refl _) ⟨rfl, rfl⟩
 | false =>
   simp (disch := first | assumption | omega) only [go_sem, ↓reduceIte]
   exact retC_by (Drop.refl _) (.refl _) ⟨rfl, rfl⟩
theorem pmust_ok {T : List Tok} {s : PSt} (hT : Ends T) (hf : Fit T s) (hn : T.length ≤ 1000000) (x : List UInt8) {σ : ASt} {b : Nat} (hb : σ b = pr T s) :
  ACalls Tryz.prog 116 [.ptr b 0, .str x] σ fun v σ' => v = .tuple [] ∧ σ' = σ.set b (pr T (mustP T s x)) := by
 have hc := paccept_ok hT hf hn x hb
 have hF := pfail_ok hf.i 10 hb
 unfold mustP
 refine a116 (by simp) ?_
 simp (disch := first | assumption | omega) only [go_sem, Nat.reduceEqDiff, ↓reduceIte]
 refine hc.mono ?_
 rintro v σ' ⟨rfl, rfl⟩
 cases isOp T s x with
 | true =>
   rw [if_pos rfl, if_pos rfl]
   simp (disch := first | assumption | omega) only [go_sem, ↓reduceIte]
   exact retC_by (Drop.refl _) (.refl _) ⟨rfl, rfl⟩
 | false =>
   rw [if_neg (by simp), if_neg (by simp)]
   simp (disch := first | assumption | omega) only [go_sem, reduceCtorEq, ↓reduceIte]
   refine hF.mono ?_
   rintro v σ' ⟨rfl, rfl⟩
   simp (disch := first | assumption | omega) only [go_sem]
   exact retC_by (Drop.refl _) (.refl _) ⟨rfl, rfl⟩
theorem penter_ok {T : List Tok} {s : PSt} (hi : s.i < T.length) (hd : 0 ≤ s.deep ∧ s.deep ≤ 100) {σ : ASt} {b : Nat} (hb : σ b = pr T s) :
  ACalls Tryz.prog 70 [.ptr b 0] σ fun v σ' => v = .tuple [] ∧ σ' = σ.set b (pr T (enterP T s)) := by
 have hF := fun τ h => pfail_ok (T := T) (s := { s with deep := s.deep + 1 }) hi 12 (σ := τ) (b := b) h
 have hb' := hb
 unfold pr at hb
 refine a70 (by simp) ?_
 unfold enterP
 by_cases h40 : 40 < s.deep + 1
 ·rw [if_pos h40]
  simp (disch := first | assumption | omega) only [go_sem, reduceCtorEq, Nat.reduceEqDiff, Nat.reduceAdd, Nat.reduceLeDiff, ↓reduceIte, Bool.true_and, hb, h40]
  refine (hF _ (ASt.set_same _ _ _)).mono ?_
  rintro v σ' ⟨rfl, rfl⟩
  rw [ASt.set_set]
  simp (disch := first | assumption | omega) only [go_sem]
  exact retC_by (Drop.refl _) (.refl _) ⟨rfl, rfl⟩
 ·rw [if_neg h40]
  simp (disch := first | assumption | omega) only [go_sem, reduceCtorEq, Nat.reduceEqDiff, Nat.reduceAdd, Nat.reduceLeDiff, ↓reduceIte, Bool.true_and, hb, h40]
  exact retC_by (Drop.refl _) (.refl _) ⟨rfl, rfl⟩
theorem pleave_ok {T : List Tok} {s : PSt} (hd : 0 ≤ s.deep ∧ s.deep ≤ 100) {σ : ASt} {b : Nat} (hb : σ b = pr T s) :
  ADefer Tryz.prog 71 [.ptr b 0] σ fun v σ' => v = .tuple [] ∧ σ' = σ.set b (pr T (leaveP s)) := by
 unfold pr at hb
 refine d71 (by simp) ?_
 simp (disch := first | assumption | omega) only [go_sem, Nat.reduceEqDiff, Nat.reduceAdd, Nat.reduceLeDiff, ↓reduceIte, Bool.true_and, hb]
 exact rfl
theorem pref_ok (t : Tok) (ht : t.text.length ≤ 1000000) : Pure Tryz.prog 131 [tokAV t] (refAV (refT t)) := by
 intro σ
 have hP := parse_ok t.text (by omega)
 unfold refT
 generalize parseP t.text = R at *
 obtain ⟨⟨row, col, ar, ac⟩, ok⟩ := R
 obtain ⟨kd, tx, at', col⟩ := t
 unfold tokAV refAV at *
 dsimp only at *
 refine a131 (by simp) ?_
 simp (disch := first | assumption | omega) only [go_sem]
 refine boxC_by rfl fun c hc => ?_
 simp (disch := first | assumption | omega) only [go_sem]
 refine allocC_by fun d hd => ?_
 have hcd : c ≠ d := by rintro rfl; rw [ASt.set_same] at hd; cases hd
 have hd0 := (Drop.set hc).nil hd
 simp (disch := first | assumption | omega) only [go_sem, Nat.reduceEqDiff, ↓reduceIte]
 refine hP.use ?_
 simp (disch := first | assumption | omega) only [go_sem, Nat.reduceEqDiff, ↓reduceIte]
 refine allocC_by fun e he => ?_
 have hde : d ≠ e := by rintro rfl; rw [ASt.set_same] at he; cases he
 have he1 := he
 rw [ASt.set_ne (Ne.symm hde)] at he1
 have hsw : ∀ (ρ : ASt) (X Y Z : Option Role), ((ρ.set d X).set e Y).set d Z = (ρ.set d Z).set e Y := fun ρ X Y Z => set_mid hde
 have hdr : ∀ (ρ : ASt) (X Y : Option Role), ((ρ.set d X).set e Y) d = X := fun ρ X Y => by rw [ASt.set_ne hde, ASt.set_same]
 have hD : ∀ X Y Z : Option Role, Drop (((σ.set c X).set d Y).set e Z) σ := fun X Y Z => by
  have h1 : c ≠ e := by rintro rfl; rw [ASt.set_same] at he1; cases he1
  have h2 : σ e = none := by rw [ASt.set_ne (Ne.symm h1)] at he1; exact he1
  exact ((Drop.set hc).off hd0).off h2
 simp (disch := first | assumption | omega) only [go_sem, Nat.reduceEqDiff, Nat.reduceAdd, Nat.reduceLeDiff, ↓reduceIte, Bool.true_and, hsw, hdr, ASt.set_set]
 exact retC_by (hD _ _ _) (.refl _) ⟨rfl, rfl⟩
theorem strindex_ok (l : List (List UInt8)) (x : List UInt8) (hl : l.length ≤ 1000000) : Pure Tryz.prog 50 [.sl .shr (l.map AV.str), .str x] (.int .i64 (idxP l x)) := by
 intro σ
 obtain ⟨q, hq⟩ : ∃ q, idxP l x = q := ⟨_, rfl⟩
 rw [hq]
 unfold idxP at hq
 have hlen : (l.map AV.str).length = l.length := by simp
 refine a50 (by simp) ?_
 simp (disch := first | assumption | omega) only [go_sem, reduceCtorEq, ↓reduceIte]
 refine wp_loop_on (fun (i : Nat) a1 s2 => (i ≤ l.length ∧ idxS x (l.drop i) i = q) ∧ (a1 0 = .sl .shr (l.map AV.str) ∧ a1 1 = .str x ∧ a1 7 = .int .i64 l.length ∧ a1 8 = .int .i64 i) ∧ s2 = σ) (fun i => l.length - i) 0 ⟨⟨Nat.zero_le _, by rw [List.drop_zero]; exact hq⟩, ?_, rfl⟩ ?_
 ·simp (disch := first | assumption | omega) only [go_sem, reduceCtorEq, Nat.reduceEqDiff, ↓reduceIte]
 rintro i a1 s2 ⟨⟨hi, hqi⟩, hf, rfl⟩
 by_cases hlt : i < l.length
 ·have hlt' : (i : Int) < l.length := by omega
  have hx : l[i]? = some (l[i]'hlt) := List.getElem?_eq_getElem hlt
  rw [List.drop_eq_getElem_cons hlt, idxS] at hqi
  obtain ⟨y, hxe⟩ : ∃ y, l[i]'hlt = y := ⟨_, rfl⟩
  rw [hxe] at hx hqi
  have hmx : (l.map AV.str)[i]? = some (.str y) := by rw [List.getElem?_map, hx]; rfl
  generalize l.map AV.str = XL at *
  by_cases he : x = y
  ·rw [if_pos he] at hqi
   subst he
   simp (disch := first | assumption | omega) only [go_sem, reduceCtorEq, Nat.reduceEqDiff, ↓reduceIte, hf, hlt', hmx, eq_self]
   exact retC_by (Drop.refl _) (.refl _) ⟨by rw [← hqi]; rfl, rfl⟩
  ·rw [if_neg he] at hqi
   simp (disch := first | assumption | omega) only [go_sem, reduceCtorEq, Nat.reduceEqDiff, ↓reduceIte, hf, hlt', hmx, he]
   exact ⟨i + 1, by omega, ⟨by omega, hqi⟩, rfl⟩
 ·have hlt' : ¬ (i : Int) < l.length := by omega
  rw [List.drop_eq_nil_of_le (by omega), idxS] at hqi
  subst hqi
  simp (disch := first | assumption | omega) only [go_sem, ↓reduceIte, Int.reduceNeg, hf, hlt']
  exact retC_by (Drop.refl _) (.refl _) ⟨rfl, rfl⟩
theorem strcontains_ok (l : List (List UInt8)) (x : List UInt8) (hl : l.length ≤ 1000000) : Pure Tryz.prog 49 [.sl .shr (l.map AV.str), .str x] (.bool (decide (x ∈ l))) := by
 intro σ
 have hI := strindex_ok l x hl
 rw [← idxS_mem x l 0]
 unfold idxP at hI
 generalize idxS x l 0 = q at *
 generalize l.map AV.str = XL at *
 refine a49 (by simp) ?_
 simp (disch := first | assumption | omega) only [go_sem, reduceCtorEq, Nat.reduceEqDiff, ↓reduceIte]
 refine hI.use ?_
 simp (disch := first | assumption | omega) only [go_sem, ↓reduceIte]
 exact retC_by (Drop.refl _) (.refl _) ⟨rfl, rfl⟩
end Go.A
namespace Go.A
open Go.Proofs
/-! 28: (*tabular/parse.parser).between -/
def c28_0 : ACode := .ops [
 ⟨some 4, none, .e (.alloc [(.int .i64 0), (.int .i64 0), (.str []), (.int .i64 0), (.int .i64 0), (.bool false), (.bool false), (.int .i64 0), (.int .i64 0), (.bool false), (.bool false), (.sl .full [])]), []⟩]
def c28_1 : ACode := .ops [
 ⟨some 7, none, .q (.mv (.t 1)), []⟩,
 ⟨some 8, none, .q (.ld none (.v (.ptr 0 0))), []⟩,
 ⟨some 9, none, .q (.len (.t 8)), []⟩,
 ⟨some 10, none, .q (.bin .eql (.t 7) (.t 9)), []⟩]
def c28_2 : ACode := .ops [
 ⟨some 11, none, .q (.mv (.t 0)), []⟩,
 ⟨some 12, none, .e (.call 48 [(.t 11)]), []⟩,
 ⟨none, none, .e (.store 12 (.t 4) (.t 12)), []⟩]
def c28_3 : ACode := .seq c28_2 .ret
def c28_4 : ACode := .cond (.t 10) c28_3 .skip
def c28_5 : ACode := .seq c28_1 c28_4
def c28_6 : ACode := .ops [
 ⟨some 13, none, .q (.mv (.t 0)), []⟩,
 ⟨some 14, none, .q (.mv (.t 1)), []⟩,
 ⟨some 15, none, .q (.bin .add (.t 14) (.v (.int .i64 1))), []⟩,
 ⟨some 16, none, .e (.call 28 [(.t 13), (.t 15)]), []⟩,
 ⟨some 5, none, .e (.alloc [(.int .i64 0), (.int .i64 0), (.str []), (.int .i64 0), (.int .i64 0), (.bool false), (.bool false), (.int .i64 0), (.int .i64 0), (.bool false), (.bool false), (.sl .full [])]), []⟩,
 ⟨none, none, .e (.store 12 (.t 5) (.t 16)), []⟩]
def c28_7 : ACode := .ops [
 ⟨some 17, none, .q (.mv (.t 0)), []⟩,
 ⟨some 18, none, .e (.call 29 [(.t 17)]), []⟩,
 ⟨some 19, none, .q (.fld 0 none (.t 18)), []⟩,
 ⟨some 20, none, .q (.bin .eql (.t 19) (.v (.int .i64 6))), []⟩,
 ⟨some 21, none, .q (.mv (.t 20)), []⟩,
 ⟨some 22, some (21, true), .q (.ld none (.v (.ptr 0 0))), []⟩,
 ⟨some 23, some (21, true), .q (.mv (.t 1)), []⟩,
 ⟨some 24, some (21, true), .q (.ia 1 (.t 22) (.t 23)), []⟩,
 ⟨some 25, some (21, true), .q (.ld none (.t 24)), []⟩,
 ⟨some 26, some (21, true), .q (.mv (.t 0)), []⟩,
 ⟨some 27, some (21, true), .e (.call 29 [(.t 26)]), [⟨(some (21, true)), .ld none (.v (.ptr 0 0)), 22⟩, ⟨(some (21, true)), .ld none (.t 24), 25⟩]⟩,
 ⟨some 28, some (21, true), .q (.fld 1 none (.t 27)), []⟩,
 ⟨some 29, some (21, true), .e (.call 49 [(.t 25), (.t 28)]), []⟩,
 ⟨some 30, none, .q (.pick (.t 21) (.t 29) (.v (.bool false))), []⟩]
def c28_8 : ACode := .cond (.t 30) .skip (.exit 0)
def c28_9 : ACode := .seq c28_7 c28_8
def c28_10 : ACode := .ops [
 ⟨some 31, none, .e (.call 51 []), []⟩,
 ⟨some 32, none, .q (.mv (.t 0)), []⟩,
 ⟨some 33, none, .e (.call 29 [(.t 32)]), []⟩,
 ⟨some 34, none, .q (.fld 1 none (.t 33)), []⟩,
 ⟨some 35, none, .e (.call 50 [(.t 31), (.t 34)]), []⟩,
 ⟨some 36, none, .q (.bin .add (.v (.int .i64 10)) (.t 35)), []⟩,
 ⟨some 6, none, .q (.mv (.t 36)), []⟩]
def c28_11 : ACode := .ops [
 ⟨some 37, none, .q (.mv (.t 0)), []⟩,
 ⟨some 38, none, .q (.nc (.t 37)), []⟩,
 ⟨some 39, none, .q (.fa 1 (.t 38)), []⟩,
 ⟨some 40, none, .q (.ld none (.t 39)), []⟩,
 ⟨some 41, none, .q (.bin .add (.t 40) (.v (.int .i64 1))), []⟩,
 ⟨some 42, none, .q (.nc (.t 37)), []⟩,
 ⟨some 43, none, .q (.fa 1 (.t 42)), []⟩,
 ⟨none, none, .e (.store 1 (.t 43) (.t 41)), []⟩]
def c28_12 : ACode := .ops [
 ⟨some 44, none, .q (.mv (.t 6)), []⟩,
 ⟨some 45, none, .q (.ld (some 12) (.t 5)), []⟩,
 ⟨some 46, none, .q (.mv (.t 0)), []⟩,
 ⟨some 47, none, .q (.mv (.t 1)), []⟩,
 ⟨some 48, none, .q (.bin .add (.t 47) (.v (.int .i64 1))), []⟩,
 ⟨some 49, none, .e (.call 28 [(.t 46), (.t 48)]), [⟨none, .ld (some 12) (.t 5), 45⟩]⟩,
 ⟨some 50, none, .q (.bsl 12 [(.t 45), (.t 49)]), []⟩,
 ⟨some 51, none, .q (.build [(.int .i64 0), (.int .i64 0), (.str []), (.int .i64 0), (.int .i64 0), (.bool false), (.bool false), (.int .i64 0), (.int .i64 0), (.bool false), (.bool false), (.sl .full [])] [(0, 1, (.t 44)), (11, 1, (.t 50))]), []⟩,
 ⟨none, none, .e (.store 12 (.t 5) (.t 51)), []⟩]
def c28_13 : ACode := .seq c28_11 c28_12
def c28_14 : ACode := .seq c28_10 c28_13
def c28_15 : ACode := .block 1 c28_14
def c28_16 : ACode := .seq c28_9 c28_15
def c28_17 : ACode := .loop c28_16
def c28_18 : ACode := .block 0 c28_17
def c28_19 : ACode := .ops [
 ⟨some 52, none, .q (.ld (some 12) (.t 5)), []⟩,
 ⟨none, none, .e (.store 12 (.t 4) (.t 52)), []⟩]
def c28_20 : ACode := .seq c28_19 .ret
def c28_21 : ACode := .seq c28_18 c28_20
def c28_22 : ACode := .seq c28_6 c28_21
def c28_23 : ACode := .seq c28_5 c28_22
def c28_24 : ACode := .seq c28_0 c28_23
@[go_sem] def c28_0_wp := wp_of c28_0.eq_1
@[go_sem] def c28_1_wp := wp_of c28_1.eq_1
@[go_sem] def c28_2_wp := wp_of c28_2.eq_1
@[go_sem] def c28_3_wp := wp_of c28_3.eq_1
@[go_sem] def c28_4_wp := wp_of c28_4.eq_1
@[go_sem] def c28_5_wp := wp_of c28_5.eq_1
@[go_sem] def c28_6_wp := wp_of c28_6.eq_1
@[go_sem] def c28_7_wp := wp_of c28_7.eq_1
@[go_sem] def c28_8_wp := wp_of c28_8.eq_1
@[go_sem] def c28_9_wp := wp_of c28_9.eq_1
@[go_sem] def c28_10_wp := wp_of c28_10.eq_1
@[go_sem] def c28_11_wp := wp_of c28_11.eq_1
@[go_sem] def c28_12_wp := wp_of c28_12.eq_1
@[go_sem] def c28_13_wp := wp_of c28_13.eq_1
@[go_sem] def c28_14_wp := wp_of c28_14.eq_1
@[go_sem] def c28_15_wp := wp_of c28_15.eq_1
@[go_sem] def c28_16_wp := wp_of c28_16.eq_1
@[go_sem] def c28_17_wp := wp_of c28_17.eq_1
@[go_sem] def c28_18_wp := wp_of c28_18.eq_1
@[go_sem] def c28_19_wp := wp_of c28_19.eq_1
@[go_sem] def c28_20_wp := wp_of c28_20.eq_1
@[go_sem] def c28_21_wp := wp_of c28_21.eq_1
@[go_sem] def c28_22_wp := wp_of c28_22.eq_1
@[go_sem] def c28_23_wp := wp_of c28_23.eq_1
@[go_sem] def c28_24_wp := wp_of c28_24.eq_1
def c28 : AFn := ⟨53, [.c 4 (some 12)], c28_24⟩
theorem c28_ok : compF Tryz.prog Tryz.f28 = some c28 := by kernel_rfl
theorem a28 {args : List AV} {σ : ASt} {R : AV → ASt → Prop} (hl : args.length ≤ 53) (h : c28_24.wp Tryz.prog (RetQ [.c 4 (some 12)] R) (init args) σ) : ACalls Tryz.prog 28 args σ R := acalls_of Tryz.func28 c28_ok hl h
end Go.A
namespace Go.A
open Go.Proofs Go.Lib
structure St2 (σ : ASt) (b d : Nat) (T : Option Role → Option Role → ASt) : Prop where
 ab : ∀ X Y, (σ.set b X).set d Y = T X Y
 ba : ∀ X Y, (σ.set d Y).set b X = T X Y
 one : ∀ Y, σ.set d Y = T (σ b) Y
 a1 : ∀ X Y, T X Y b = X
 a2 : ∀ X Y, T X Y d = Y
 s1 : ∀ X Y X', (T X Y).set b X' = T X' Y
 s2 : ∀ X Y Y', (T X Y).set d Y' = T X Y'
 drop : ∀ X Y, Drop (T X Y) (σ.set b X)
 fix : ∀ X Y x l, σ x = some (.fix l) → T X Y x = some (.fix l)
 other : ∀ X Y x, x ≠ b → x ≠ d → T X Y x = σ x
theorem St2.of {σ : ASt} {b d : Nat} (hd : σ d = none) (hb : ∀ l, σ b ≠ some (.fix l)) (hb0 : σ b ≠ none) : b ≠ d ∧ ∃ T, St2 σ b d T := by
 have n : b ≠ d := by rintro rfl; exact hb0 hd
 refine ⟨n, fun X Y => (σ.set b X).set d Y, fun X Y => rfl, fun X Y => set_swap (Ne.symm n), fun Y => ?_, fun X Y => ?_, fun X Y => ASt.set_same _ _ _, fun X Y X' => ?_, fun X Y Y' => by rw [ASt.set_set], fun X Y => ?_, fun X Y x l h => ?_, fun X Y x h1 h2 => ?_⟩
 ·show σ.set d Y = (σ.set b (σ b)).set d Y
  rw [set_self0 rfl]
 ·show ((σ.set b X).set d Y) b = X
  rw [ASt.set_ne n, ASt.set_same]
 ·show ((σ.set b X).set d Y).set b X' = (σ.set b X').set d Y
  rw [set_swap (Ne.symm n), ASt.set_set]
 ·exact Drop.set (by rw [ASt.set_ne (Ne.symm n)]; exact hd)
 ·show ((σ.set b X).set d Y) x = some (.fix l)
  rw [ASt.set_ne, ASt.set_ne]
  ·exact h
  ·rintro rfl; exact hb l h
  ·rintro rfl; rw [hd] at h; cases h
 ·show ((σ.set b X).set d Y) x = σ x
  rw [ASt.set_ne h2, ASt.set_ne h1]
structure St3 (σ : ASt) (b d e : Nat) (T2 : Option Role → Option Role → ASt) (T : Option Role → Option Role → Option Role → ASt) : Prop where
 ab : ∀ X Y Z, (T2 X Y).set e Z = T X Y Z
 a1 : ∀ X Y Z, T X Y Z b = X
 a2 : ∀ X Y Z, T X Y Z d = Y
 a3 : ∀ X Y Z, T X Y Z e = Z
 s1 : ∀ X Y Z X', (T X Y Z).set b X' = T X' Y Z
 s2 : ∀ X Y Z Y', (T X Y Z).set d Y' = T X Y' Z
 s3 : ∀ X Y Z Z', (T X Y Z).set e Z' = T X Y Z'
 drop : ∀ X Y Z, Drop (T X Y Z) (σ.set b X)
 drop2 : ∀ X Y Z, Drop (T X Y Z) (T2 X Y)
 fix : ∀ X Y Z x l, σ x = some (.fix l) → T X Y Z x = some (.fix l)
 other : ∀ X Y Z x, x ≠ b → x ≠ d → x ≠ e → T X Y Z x = σ x
theorem St3.of {σ : ASt} {b d e : Nat} {T2 : Option Role → Option Role → ASt} (h : St2 σ b d T2) {X0 Y0 : Role} (he : T2 (some X0) (some Y0) e = none) : b ≠ e ∧ d ≠ e ∧ ∃ T, St3 σ b d e T2 T := by
 have nb : b ≠ e := by rintro rfl; rw [h.a1] at he; cases he
 have nd : d ≠ e := by rintro rfl; rw [h.a2] at he; cases he
 have h0 : ∀ X Y, T2 X Y e = none := fun X Y => by rw [h.other _ _ _ (Ne.symm nb) (Ne.symm nd)]; rwa [h.other _ _ _ (Ne.symm nb) (Ne.symm nd)] at he
 refine ⟨nb, nd, fun X Y Z => (T2 X Y).set e Z, fun X Y Z => rfl, fun X Y Z => ?_, fun X Y Z => ?_, fun X Y Z => ASt.set_same _ _ _, fun X Y Z X' => ?_, fun X Y Z X' => ?_, fun X Y Z Z' => by rw [ASt.set_set], fun X Y Z => ?_, fun X Y Z => Drop.set (h0 _ _), fun X Y Z x l hx => ?_, fun X Y Z x h1 h2 h3 => ?_⟩
 ·show ((T2 X Y).set e Z) b = X
  rw [ASt.set_ne nb, h.a1]
 ·show ((T2 X Y).set e Z) d = Y
  rw [ASt.set_ne nd, h.a2]
 ·show ((T2 X Y).set e Z).set b X' = (T2 X' Y).set e Z
  rw [set_swap (Ne.symm nb), h.s1]
 ·show ((T2 X Y).set e Z).set d X' = (T2 X X').set e Z
  rw [set_swap (Ne.symm nd), h.s2]
 ·exact (Drop.set (h0 _ _)).trans (h.drop _ _)
 ·show ((T2 X Y).set e Z) x = some (.fix l)
  have hx2 := h.fix X Y x l hx
  rw [ASt.set_ne]
  ·exact hx2
  ·rintro rfl; rw [h0] at hx2; cases hx2
 ·show ((T2 X Y).set e Z) x = σ x
  rw [ASt.set_ne h3, h.other _ _ _ h1 h2]
structure St4 (σ : ASt) (b d e g : Nat) (T3 : Option Role → Option Role → Option Role → ASt) (T : Option Role → Option Role → Option Role → Option Role → ASt) : Prop where
 ab : ∀ X Y Z W, (T3 X Y Z).set g W = T X Y Z W
 a1 : ∀ X Y Z W, T X Y Z W b = X
 a2 : ∀ X Y Z W, T X Y Z W d = Y
 a3 : ∀ X Y Z W, T X Y Z W e = Z
 a4 : ∀ X Y Z W, T X Y Z W g = W
 s1 : ∀ X Y Z W X', (T X Y Z W).set b X' = T X' Y Z W
 s2 : ∀ X Y Z W Y', (T X Y Z W).set d Y' = T X Y' Z W
 s4 : ∀ X Y Z W W', (T X Y Z W).set g W' = T X Y Z W'
 drop : ∀ X Y Z W, Drop (T X Y Z W) (σ.set b X)
theorem St4.of {σ : ASt} {b d e g : Nat} {T2 : Option Role → Option Role → ASt} {T3 : Option Role → Option Role → Option Role → ASt} (h : St3 σ b d e T2 T3) {X0 Y0 Z0 : Role} (hg : T3 (some X0) (some Y0) (some Z0) g = none) : ∃ T, St4 σ b d e g T3 T := by
 have nb : b ≠ g := by rintro rfl; rw [h.a1] at hg; cases hg
 have nd : d ≠ g := by rintro rfl; rw [h.a2] at hg; cases hg
 have ne : e ≠ g := by rintro rfl; rw [h.a3] at hg; cases hg
 have h0 : ∀ X Y Z, T3 X Y Z g = none := fun X Y Z => by rw [h.other _ _ _ _ (Ne.symm nb) (Ne.symm nd) (Ne.symm ne)]; rwa [h.other _ _ _ _ (Ne.symm nb) (Ne.symm nd) (Ne.symm ne)] at hg
 refine ⟨fun X Y Z W => (T3 X Y Z).set g W, fun X Y Z W => rfl, fun X Y Z W => ?_, fun X Y Z W => ?_, fun X Y Z W => ?_, fun X Y Z W => ASt.set_same _ _ _, fun X Y Z W X' => ?_, fun X Y Z W X' => ?_, fun X Y Z W W' => by rw [ASt.set_set], fun X Y Z W => (Drop.set (h0 _ _ _)).trans (h.drop _ _ _)⟩
 ·show ((T3 X Y Z).set g W) b = X
  rw [ASt.set_ne nb, h.a1]
 ·show ((T3 X Y Z).set g W) d = Y
  rw [ASt.set_ne nd, h.a2]
 ·show ((T3 X Y Z).set g W) e = Z
  rw [ASt.set_ne ne, h.a3]
 ·show ((T3 X Y Z).set g W).set b X' = (T3 X' Y Z).set g W
  rw [set_swap (Ne.symm nb), h.s1]
 ·show ((T3 X Y Z).set g W).set d X' = (T3 X X' Z).set g W
  rw [set_swap (Ne.symm nd), h.s2]
def lvAV : AV := .sl .shr (levelsL.map fun l => .sl .shr (l.map AV.str))
def LV (σ : ASt) : Prop := σ 0 = some (.fix [lvAV])
theorem pr_fix {T : List Tok} {s : PSt} {σ : ASt} {b : Nat} (hb : σ b = pr T s) : (∀ l, σ b ≠ some (.fix l)) ∧ σ b ≠ none := by
 rw [hb]; unfold pr
 exact ⟨fun l => by simp, by simp⟩
theorem level_get {lvl : Nat} (h : lvl < 5) : (levelsL.map fun l => AV.sl .shr (l.map AV.str))[lvl]? = some (.sl .shr ((levelsL.getD lvl []).map AV.str)) := by
 have : ∀ lvl, lvl < 5 → (levelsL.map fun l => AV.sl .shr (l.map AV.str))[lvl]? = some (.sl .shr ((levelsL.getD lvl []).map AV.str)) := by
  intro lvl h
  match lvl, h with
  | 0, _ => rfl
  | 1, _ => rfl
  | 2, _ => rfl
  | 3, _ => rfl
  | 4, _ => rfl
 exact this lvl h
theorem level_len (lvl : Nat) : (levelsL.getD lvl []).length ≤ 6 := by
 match lvl with
 | 0 | 1 | 2 | 3 | 4 => decide
 | n + 5 => simp [levelsL]
structure TokOk (T : List Tok) : Prop where
 ends : Ends T
 len : T.length ≤ 1000000
 text : ∀ i, (T.getD i endT).text.length ≤ 100000
theorem TokOk.cur {T : List Tok} (h : TokOk T) (s : PSt) : (curT T s).text.length ≤ 100000 := by
 unfold curT
 split
 ·decide
 ·exact h.text _
structure WalkF (T : List Tok) (f : Nat) : Prop where
 betw : ∀ (b lvl : Nat) s r, lvl ≤ 5 → betwP T f lvl s = some r → Fit T s → ∀ σ, LV σ → σ b = pr T s → ACalls Tryz.prog 28 [.ptr b 0, .int .i64 lvl] σ fun v σ' => v = r.1.av ∧ σ' = σ.set b (pr T r.2)
 signed : ∀ (b : Nat) s r, signedP T f s = some r → Fit T s → ∀ σ, LV σ → σ b = pr T s → ACalls Tryz.prog 48 [.ptr b 0] σ fun v σ' => v = r.1.av ∧ σ' = σ.set b (pr T r.2)
 hundred : ∀ (b : Nat) s r, hundredP T f s = some r → Fit T s → ∀ σ, LV σ → σ b = pr T s → ACalls Tryz.prog 69 [.ptr b 0] σ fun v σ' => v = r.1.av ∧ σ' = σ.set b (pr T r.2)
 prim : ∀ (b : Nat) s r, primP T f s = some r → Fit T s → ∀ σ, LV σ → σ b = pr T s → ACalls Tryz.prog 95 [.ptr b 0] σ fun v σ' => v = r.1.av ∧ σ' = σ.set b (pr T r.2)
 name : ∀ (b : Nat) s r, nameP T f s = some r → Fit T s → (curT T s).kind = 3 → ∀ σ, LV σ → σ b = pr T s → ACalls Tryz.prog 115 [.ptr b 0, tokAV (curT T s)] σ fun v σ' => v = r.1.av ∧ σ' = σ.set b (pr T r.2)
 args : ∀ (b : Nat) s r, argsP T f s = some r → Fit T s → ∀ σ, LV σ → σ b = pr T s → ACalls Tryz.prog 132 [.ptr b 0] σ fun v σ' => v = .sl .shr (r.1.map Nd.av) ∧ σ' = σ.set b (pr T r.2)
theorem bin_cells (op : Int) (ks : List Nd) (L : List AV) (h : Go.A.deeps L = ks.map Nd.av) : Go.A.deeps [.int .i64 op, .int .i64 0, .str [], .int .i64 0, .int .i64 0, .bool false, .bool false, .int .i64 0, .int .i64 0, .bool false, .bool false, .sl .full L] = Nd.cs op 0 [] .zero .zero (ks.map Nd.av) := by
 rw [← h]; rfl
set_option maxHeartbeats 4000000 in
theorem betw_walk {T : List Tok} (hT : TokOk T) (f : Nat) (ih : ∀ f', f' < f + 1 → WalkF T f') (b lvl : Nat) (s : PSt) (r : Nd × PSt) (hl5 : lvl ≤ 5) (h : betwP T (f + 1) lvl s = some r) (hf : Fit T s) (σ : ASt) (hV : LV σ) (hb : σ b = pr T s) :
  ACalls Tryz.prog 28 [.ptr b 0, .int .i64 lvl] σ fun v σ' => v = r.1.av ∧ σ' = σ.set b (pr T r.2) := by
 rw [betwP] at h
 have hlL : (levelsL.map fun l => AV.sl .shr (l.map AV.str)).length = 5 := rfl
 have hwent := wentF hT.ends
 refine a28 (by simp) ?_
 simp (disch := first | assumption | omega) only [go_sem]
 refine allocC_by fun d hd => ?_
 obtain ⟨hbd, T2, S2⟩ := St2.of hd (pr_fix hb).1 (pr_fix hb).2
 rw [S2.one, hb]
 have V2 : ∀ X Y, LV (T2 X Y) := fun X Y => S2.fix _ _ _ _ hV
 have v2 : ∀ X Y, T2 X Y 0 = some (.fix [.sl .shr (levelsL.map fun l => .sl .shr (l.map AV.str))]) := fun X Y => V2 X Y
 have hgl := fun h => level_get (lvl := lvl) h
 generalize hLs : (levelsL.map fun l => AV.sl .shr (l.map AV.str)) = LS at *
 by_cases h5 : lvl = 5
 ·rw [if_pos h5] at h
  have h5' : (lvl : Int) = 5 := by omega
  have hc := (ih f (by omega)).signed b s r h hf _ (V2 (pr T s) (some (.obj zero12))) (S2.a1 _ _)
  obtain ⟨n, s'⟩ := r
  dsimp only at hc ⊢
  obtain ⟨o, m, t, x, y, ks⟩ := n
  rw [Nd.av_cs] at hc ⊢
  unfold zero12 at hc
  simp (disch := first | assumption | omega) only [go_sem, reduceCtorEq, Nat.reduceEqDiff, ↓reduceIte, v2, hlL, h5']
  refine hc.mono ?_
  rintro v σ1 ⟨rfl, rfl⟩
  have hs1 := S2.s1
  have hs2 := S2.s2
  have ha2 := S2.a2
  simp (disch := first | assumption | omega) only [go_sem, Nat.reduceEqDiff, Nat.reduceAdd, Nat.reduceLeDiff, ↓reduceIte, hs1, hs2, ha2]
  exact retC_by (S2.drop _ _) (.refl _) ⟨rfl, rfl⟩
 ·rw [if_neg h5] at h
  have h5' : ¬ (lvl : Int) = 5 := by omega
  have hl5' : lvl < 5 := by omega
  cases h1 : betwP T f (lvl + 1) s with
  | none => rw [h1] at h; cases h
  | some r1 =>
    rw [h1] at h
    dsimp only at h
    have hw1 := (hwent f).betw _ _ _ h1 hf
    have hc := (ih f (by omega)).betw b (lvl + 1) s r1 (by omega) h1 hf _ (V2 (pr T s) (some (.obj zero12))) (S2.a1 _ _)
    have e1 : (((lvl + 1 : Nat)) : Int) = (lvl : Int) + 1 := by omega
    rw [e1] at hc
    have hb1 : b = b := rfl
    have hs1 := S2.s1
    have hs2 := S2.s2
    have ha2 := S2.a2
    unfold zero12 at hc
    obtain ⟨n1, s1⟩ := r1
    dsimp only at hc h hw1
    have hex : ∃ o m t x y KL, n1.av = .agg (Nd.cs o m t x y KL) := by obtain ⟨o, m, t, x, y, ks⟩ := n1; exact ⟨_, _, _, _, _, _, Nd.av_cs ..⟩
    obtain ⟨o, m, t, x, y, KL, hn1⟩ := hex
    rw [hn1] at hc
    simp (disch := first | assumption | omega) only [go_sem, reduceCtorEq, Nat.reduceEqDiff, ↓reduceIte, v2, hlL, h5']
    refine hc.mono ?_
    rintro v σ1 ⟨rfl, rfl⟩
    simp (disch := first | assumption | omega) only [go_sem, hs1]
    refine allocC_by fun e he => ?_
    obtain ⟨hbe, hde, T3, S3⟩ := St3.of S2 (X0 := .obj _) he
    have ab := S3.ab
    have k3 := S3.s3
    have k2 := S3.s2
    have k1 := S3.s1
    have q3 := S3.a3
    have q2 := S3.a2
    have q1 := S3.a1
    have v3 : ∀ X Y Z, T3 X Y Z 0 = some (.fix [.sl .shr LS]) := fun X Y Z => by
     rw [← ab]
     have := v2 X Y
     rw [ASt.set_ne]
     ·exact this
     ·rintro rfl; rw [v2] at he; cases he
    have V3 : ∀ X Y Z, LV (T3 X Y Z) := fun X Y Z => by
     have := v3 X Y Z
     rw [← hLs] at this
     exact this
    have hSg := esigns_ok
    simp (disch := first | assumption | omega) only [go_sem, Nat.reduceEqDiff, Nat.reduceAdd, Nat.reduceLeDiff, ↓reduceIte, ab, k3, q3]
    refine wp_loop_by (fun (q : Nat × Nd × PSt) a1 st => (q.1 ≤ f ∧ loopP T q.1 lvl q.2.1 q.2.2 = some r ∧ Fit T q.2.2) ∧ (a1 0 = .ptr b 0 ∧ a1 1 = .int .i64 lvl ∧ a1 4 = .ptr d 0 ∧ a1 5 = .ptr e 0) ∧ st = T3 (pr T q.2.2) (some (.obj zero12)) (some (.obj q.2.1.av.cells))) (fun q => q.1) (f, n1, s1) (Dr.now ⟨⟨Nat.le_refl _, h, hw1.fit⟩, ?_, by dsimp only; rw [hn1]; rfl⟩) ?_
    ·simp (disch := first | assumption | omega) only [go_sem, reduceCtorEq, Nat.reduceEqDiff, ↓reduceIte]
    clear h hn1 hw1 hc h1
    rintro ⟨f', n, s'⟩ a1 st ⟨⟨g1, g2, g3⟩, hf2, rfl⟩
    dsimp only at g1 g2 g3 hf2 ⊢
    obtain ⟨f'', rfl⟩ : ∃ f'', f' = f'' + 1 := by
     cases f' with
     | zero => rw [loopP] at g2; cases g2
     | succ f'' => exact ⟨f'', rfl⟩
    rw [loopP] at g2
    have hcu := pcur_ok (T := T) g3.i (q1 (pr T s') (some (.obj zero12)) (some (.obj n.av.cells)))
    have hsgn : sgn T s' lvl = (decide ((curT T s').kind = 6) && decide ((curT T s').text ∈ levelsL.getD lvl [])) := rfl
    have hkk := sgn_kind (T := T) (s := s') (l := lvl)
    have hcl := strcontains_ok (levelsL.getD lvl []) (curT T s').text (by have := level_len lvl; omega)
    have hix := strindex_ok signL (curT T s').text (by decide)
    have hrg := idxS_rng (curT T s').text signL 0
    have hll : signL.length = 12 := rfl
    have hnn : n.av = .agg n.av.cells := by cases n; rfl
    have hil := g3.i
    have htl := hT.len
    obtain ⟨NC, hNC⟩ : ∃ NC, n.av.cells = NC := ⟨_, rfl⟩
    have hlen : NC.length = 12 := by rw [← hNC]; exact Nd.av_len n
    have hlv : leaves NC = true := by rw [← hNC]; exact Nd.av_leaves n
    have htk : NC.take 12 = NC := List.take_of_length_le (by omega)
    have hdk : NC.drop 12 = [] := List.drop_of_length_le (by omega)
    rw [hNC] at hcu hnn ⊢
    generalize hct : curT T s' = tk at *
    unfold tokAV at hcu
    generalize hZ : zero12 = Z12 at *
    have v3' := v3 (pr T s') (some (.obj Z12)) (some (.obj NC))
    generalize hLL : levelsL.getD lvl [] = LL at *
    have hgl := hgl hl5'
    by_cases hk6 : tk.kind = 6
    ·simp (disch := first | assumption | omega) only [go_sem, ↓reduceIte, hf2]
     refine hcu.mono ?_
     rintro v σ1 ⟨rfl, rfl⟩
     simp (disch := first | assumption | omega) only [go_sem, reduceCtorEq, Nat.reduceEqDiff, ↓reduceIte, hf2, hk6, v3, hgl]
     refine hcu.mono ?_
     rintro v σ1 ⟨rfl, rfl⟩
     simp (disch := first | assumption | omega) only [go_sem, Nat.reduceEqDiff, ↓reduceIte, forall_const, v3]
     refine hcl.use ?_
     by_cases hmem : tk.text ∈ LL
     ·rw [decide_eq_true hk6, decide_eq_true hmem] at hsgn
      rw [decide_eq_true hmem]
      rw [hsgn, if_pos (by rfl)] at g2
      cases h2 : betwP T f'' (lvl + 1) s'.next with
      | none => rw [h2] at g2; cases g2
      | some r2 =>
        rw [h2] at g2
        dsimp only at g2
        have hfn := (g3.next hT.ends (hct ▸ hkk hsgn)).1
        have hw2 := (hwent f'').betw _ _ _ h2 hfn
        have hcb := (ih f'' (by omega)).betw b (lvl + 1) s'.next r2 (by omega) h2 hfn _ (V3 (pr T s'.next) (some (.obj Z12)) (some (.obj NC))) (q1 _ _ _)
        rw [e1] at hcb
        unfold idxP at hix
        have hidx : idxP signL tk.text = idxS tk.text signL 0 := rfl
        rw [hidx] at g2
        generalize idxS tk.text signL 0 = q at *
        obtain ⟨m2, s2⟩ := r2
        dsimp only at hcb g2 hw2
        have hmm : m2.av = .agg m2.av.cells := by cases m2; rfl
        have hcell : Go.A.deeps [.int .i64 (10 + q), .int .i64 0, .str [], .int .i64 0, .int .i64 0, .bool false, .bool false, .int .i64 0, .int .i64 0, .bool false, .bool false, .sl .full [n.av, m2.av]] = (Nd.mk (10 + q) 0 [] .zero .zero [n, m2]).av.cells := by
         have := bin_cells (10 + q) [n, m2] [n.av, m2.av] (by simp only [deeps_cons, deeps_nil, Nd.deep]; rfl)
         rw [this, Nd.av_cs]
         rfl
        obtain ⟨MC, hMC⟩ : ∃ MC, m2.av.cells = MC := ⟨_, rfl⟩
        have hlen2 : MC.length = 12 := by rw [← hMC]; exact Nd.av_len m2
        have hlv2 : leaves MC = true := by rw [← hMC]; exact Nd.av_leaves m2
        have htk2 : MC.take 12 = MC := List.take_of_length_le (by omega)
        rw [hMC] at hmm
        rw [hnn, hmm] at hcell
        rw [hmm] at hcb
        have hpr : pr T s' = some (.obj [.sl .shr (T.map tokAV), .int .i64 s'.i, .int .i64 s'.deep, .int .i64 s'.err, .int .i64 s'.bad]) := rfl
        have hpn : some (Role.obj [.sl .shr (T.map tokAV), .int .i64 ((s'.i : Int) + 1), .int .i64 s'.deep, .int .i64 s'.err, .int .i64 s'.bad]) = pr T s'.next := rfl
        simp (disch := first | assumption | omega) only [go_sem, Nat.reduceEqDiff, ↓reduceIte]
        refine hSg.use ?_
        simp (disch := first | assumption | omega) only [go_sem, reduceCtorEq, ↓reduceIte, hf2]
        refine hcu.mono ?_
        rintro v σ1 ⟨rfl, rfl⟩
        simp (disch := first | assumption | omega) only [go_sem, Nat.reduceEqDiff, ↓reduceIte]
        refine hix.use ?_
        rw [hpr] at hcu ⊢
        simp (disch := first | assumption | omega) only [go_sem, reduceCtorEq, Nat.reduceEqDiff, Nat.reduceAdd, Nat.reduceLeDiff, ↓reduceIte, Bool.true_and, hf2, q1, k1]
        rw [hpn]
        simp (disch := first | assumption | omega) only [go_sem, reduceCtorEq, Nat.reduceEqDiff, Nat.reduceLeDiff, ↓reduceIte, hf2, q3, hlen, htk]
        refine hcb.mono ?_
        rintro v σ1 ⟨rfl, rfl⟩
        simp (disch := first | assumption | omega) only [go_sem, Nat.reduceEqDiff, Nat.reduceAdd, Nat.reduceLeDiff, ↓reduceIte, Bool.true_and, hf2, k1, q3, k3, hlen, hlen2, htk, hdk]
        have hsd : SDrop (T3 (pr T s2) (some (.obj Z12)) (some (.obj [.int .i64 (10 + q), .int .i64 0, .str [], .int .i64 0, .int .i64 0, .bool false, .bool false, .int .i64 0, .int .i64 0, .bool false, .bool false, .sl .full [.agg NC, .agg MC]]))) (T3 (pr T s2) (some (.obj Z12)) (some (.obj (Nd.mk (10 + q) 0 [] .zero .zero [n, m2]).av.cells))) := by
         rw [← ab, ← ab]
         exact (SDrop.refl _).cong hcell
        refine ⟨(f'', .mk (10 + q) 0 [] .zero .zero [n, m2], s2), by dsimp only; omega, Dr.sdrop hsd ⟨⟨by dsimp only; omega, g2, hw2.fit⟩, ?_, rfl⟩⟩
        simp (disch := first | assumption | omega) only [go_sem, reduceCtorEq, Nat.reduceEqDiff, ↓reduceIte, hf2]
     ·rw [decide_eq_false hmem, Bool.and_false] at hsgn
      rw [decide_eq_false hmem]
      rw [hsgn, if_neg (by simp)] at g2
      injection g2 with g2
      subst g2
      have hzl : Z12.length = 12 := by rw [← hZ]; rfl
      have hzd : Z12.drop 12 = [] := by rw [← hZ]; rfl
      simp (disch := first | assumption | omega) only [go_sem, Nat.reduceEqDiff, Nat.reduceLeDiff, ↓reduceIte, hf2, q3, q2, k2, hlen, hlv, htk, hzl, hzd]
      exact retC_by (S3.drop _ _ _) (.refl _) ⟨hnn.symm, rfl⟩
    ·rw [decide_eq_false hk6, Bool.false_and] at hsgn
     rw [hsgn, if_neg (by simp)] at g2
     injection g2 with g2
     subst g2
     simp (disch := first | assumption | omega) only [go_sem, ↓reduceIte, hf2]
     refine hcu.mono ?_
     rintro v σ1 ⟨rfl, rfl⟩
     have hzl : Z12.length = 12 := by rw [← hZ]; rfl
     have hzd : Z12.drop 12 = [] := by rw [← hZ]; rfl
     simp (disch := first | assumption | omega) only [go_sem, Nat.reduceEqDiff, Nat.reduceLeDiff, ↓reduceIte, hf2, hk6, q3, q2, k2, hlen, hlv, htk, hzl, hzd]
     exact retC_by (S3.drop _ _ _) (.refl _) ⟨hnn.symm, rfl⟩
end Go.A
namespace Go.A
open Go.Proofs
/-! 48: (*tabular/parse.parser).signed -/
def c48_0 : ACode := .ops [
 ⟨some 2, none, .e (.alloc [(.int .i64 0), (.int .i64 0), (.str []), (.int .i64 0), (.int .i64 0), (.bool false), (.bool false), (.int .i64 0), (.int .i64 0), (.bool false), (.bool false), (.sl .full [])]), []⟩]
def c48_1 : ACode := .ops [
 ⟨some 3, none, .q (.mv (.v (.int .i64 0))), []⟩]
def c48_2 : ACode := .ops [
 ⟨some 7, none, .q (.mv (.t 0)), []⟩,
 ⟨some 8, none, .e (.call 68 [(.t 7), (.v (.str [45]))]), []⟩,
 ⟨some 6, none, .q (.mv (.t 8)), []⟩]
def c48_3 : ACode := .ops [
 ⟨some 3, none, .q (.mv (.v (.int .i64 7))), []⟩]
def c48_4 : ACode := .ops [
 ⟨some 10, none, .q (.mv (.t 0)), []⟩,
 ⟨some 11, none, .e (.call 68 [(.t 10), (.v (.str [43]))]), []⟩,
 ⟨some 9, none, .q (.mv (.t 11)), []⟩]
def c48_5 : ACode := .ops [
 ⟨some 3, none, .q (.mv (.v (.int .i64 8))), []⟩]
def c48_6 : ACode := .ops [
 ⟨some 4, none, .q (.mv (.t 0)), []⟩,
 ⟨some 5, none, .e (.call 69 [(.t 4)]), []⟩,
 ⟨none, none, .e (.store 12 (.t 2) (.t 5)), []⟩]
def c48_7 : ACode := .seq c48_6 .ret
def c48_8 : ACode := .cond (.t 9) c48_5 c48_7
def c48_9 : ACode := .seq c48_4 c48_8
def c48_10 : ACode := .cond (.t 6) c48_3 c48_9
def c48_11 : ACode := .seq c48_2 c48_10
def c48_12 : ACode := .block 0 c48_11
def c48_13 : ACode := .ops [
 ⟨some 12, none, .q (.mv (.t 0)), []⟩,
 ⟨some 13, none, .e (.call 70 [(.t 12)]), []⟩]
def c48_14 : ACode := .ops [
 ⟨some 15, none, .q (.mv (.t 0)), []⟩,
 ⟨some 16, none, .q (.nc (.t 15)), []⟩,
 ⟨some 17, none, .q (.fa 3 (.t 16)), []⟩,
 ⟨some 18, none, .q (.ld none (.t 17)), []⟩,
 ⟨some 19, none, .q (.bin .eql (.t 18) (.v (.int .i64 0))), []⟩]
def c48_15 : ACode := .ops [
 ⟨some 20, none, .q (.mv (.t 0)), []⟩,
 ⟨some 21, none, .q (.nc (.t 20)), []⟩,
 ⟨some 22, none, .q (.fa 1 (.t 21)), []⟩,
 ⟨some 23, none, .q (.ld none (.t 22)), []⟩,
 ⟨some 24, none, .q (.bin .add (.t 23) (.v (.int .i64 1))), []⟩,
 ⟨some 25, none, .q (.nc (.t 20)), []⟩,
 ⟨some 26, none, .q (.fa 1 (.t 25)), []⟩,
 ⟨none, none, .e (.store 1 (.t 26) (.t 24)), []⟩]
def c48_16 : ACode := .cond (.t 19) c48_15 .skip
def c48_17 : ACode := .seq c48_14 c48_16
def c48_18 : ACode := .ops [
 ⟨some 27, none, .q (.mv (.t 3)), []⟩,
 ⟨some 28, none, .q (.mv (.t 0)), []⟩,
 ⟨some 29, none, .e (.call 48 [(.t 28)]), []⟩,
 ⟨some 30, none, .q (.bsl 12 [(.t 29)]), []⟩,
 ⟨some 31, none, .q (.build [(.int .i64 0), (.int .i64 0), (.str []), (.int .i64 0), (.int .i64 0), (.bool false), (.bool false), (.int .i64 0), (.int .i64 0), (.bool false), (.bool false), (.sl .full [])] [(0, 1, (.t 27)), (11, 1, (.t 30))]), []⟩,
 ⟨none, none, .e (.store 12 (.t 2) (.t 31)), []⟩]
def c48_19 : ACode := .seq c48_18 .ret
def c48_20 : ACode := .seq c48_17 c48_19
def c48_21 : ACode := .dfr 71 (.t 0) 14 c48_20
def c48_22 : ACode := .seq c48_13 c48_21
def c48_23 : ACode := .seq c48_12 c48_22
def c48_24 : ACode := .seq c48_1 c48_23
def c48_25 : ACode := .seq c48_0 c48_24
@[go_sem] def c48_0_wp := wp_of c48_0.eq_1
@[go_sem] def c48_1_wp := wp_of c48_1.eq_1
@[go_sem] def c48_2_wp := wp_of c48_2.eq_1
@[go_sem] def c48_3_wp := wp_of c48_3.eq_1
@[go_sem] def c48_4_wp := wp_of c48_4.eq_1
@[go_sem] def c48_5_wp := wp_of c48_5.eq_1
@[go_sem] def c48_6_wp := wp_of c48_6.eq_1
@[go_sem] def c48_7_wp := wp_of c48_7.eq_1
@[go_sem] def c48_8_wp := wp_of c48_8.eq_1
@[go_sem] def c48_9_wp := wp_of c48_9.eq_1
@[go_sem] def c48_10_wp := wp_of c48_10.eq_1
@[go_sem] def c48_11_wp := wp_of c48_11.eq_1
@[go_sem] def c48_12_wp := wp_of c48_12.eq_1
@[go_sem] def c48_13_wp := wp_of c48_13.eq_1
@[go_sem] def c48_14_wp := wp_of c48_14.eq_1
@[go_sem] def c48_15_wp := wp_of c48_15.eq_1
@[go_sem] def c48_16_wp := wp_of c48_16.eq_1
@[go_sem] def c48_17_wp := wp_of c48_17.eq_1
@[go_sem] def c48_18_wp := wp_of c48_18.eq_1
@[go_sem] def c48_19_wp := wp_of c48_19.eq_1
@[go_sem] def c48_20_wp := wp_of c48_20.eq_1
@[go_sem] def c48_21_wp := wp_of c48_21.eq_1
@[go_sem] def c48_22_wp := wp_of c48_22.eq_1
@[go_sem] def c48_23_wp := wp_of c48_23.eq_1
@[go_sem] def c48_24_wp := wp_of c48_24.eq_1
@[go_sem] def c48_25_wp := wp_of c48_25.eq_1
def c48 : AFn := ⟨32, [.c 2 (some 12)], c48_25⟩
theorem c48_ok : compF Tryz.prog Tryz.f48 = some c48 := by kernel_rfl
theorem a48 {args : List AV} {σ : ASt} {R : AV → ASt → Prop} (hl : args.length ≤ 32) (h : c48_25.wp Tryz.prog (RetQ [.c 2 (some 12)] R) (init args) σ) : ACalls Tryz.prog 48 args σ R := acalls_of Tryz.func48 c48_ok hl h
/-! 69: (*tabular/parse.parser).hundred -/
def c69_0 : ACode := .ops [
 ⟨some 2, none, .e (.alloc [(.int .i64 0), (.int .i64 0), (.str []), (.int .i64 0), (.int .i64 0), (.bool false), (.bool false), (.int .i64 0), (.int .i64 0), (.bool false), (.bool false), (.sl .full [])]), []⟩]
def c69_1 : ACode := .ops [
 ⟨some 4, none, .q (.mv (.t 0)), []⟩,
 ⟨some 5, none, .e (.call 95 [(.t 4)]), []⟩,
 ⟨some 3, none, .e (.alloc [(.int .i64 0), (.int .i64 0), (.str []), (.int .i64 0), (.int .i64 0), (.bool false), (.bool false), (.int .i64 0), (.int .i64 0), (.bool false), (.bool false), (.sl .full [])]), []⟩,
 ⟨none, none, .e (.store 12 (.t 3) (.t 5)), []⟩]
def c69_2 : ACode := .ops [
 ⟨some 6, none, .q (.mv (.t 0)), []⟩,
 ⟨some 7, none, .e (.call 96 [(.t 6), (.v (.str [37]))]), []⟩]
def c69_3 : ACode := .cond (.t 7) .skip (.exit 0)
def c69_4 : ACode := .seq c69_2 c69_3
def c69_5 : ACode := .ops [
 ⟨some 8, none, .q (.ld (some 12) (.t 3)), []⟩,
 ⟨some 9, none, .q (.bsl 12 [(.t 8)]), []⟩,
 ⟨some 10, none, .q (.build [(.int .i64 0), (.int .i64 0), (.str []), (.int .i64 0), (.int .i64 0), (.bool false), (.bool false), (.int .i64 0), (.int .i64 0), (.bool false), (.bool false), (.sl .full [])] [(0, 1, (.v (.int .i64 9))), (11, 1, (.t 9))]), []⟩,
 ⟨none, none, .e (.store 12 (.t 3) (.t 10)), []⟩]
def c69_6 : ACode := .block 1 c69_5
def c69_7 : ACode := .seq c69_4 c69_6
def c69_8 : ACode := .loop c69_7
def c69_9 : ACode := .block 0 c69_8
def c69_10 : ACode := .ops [
 ⟨some 11, none, .q (.ld (some 12) (.t 3)), []⟩,
 ⟨none, none, .e (.store 12 (.t 2) (.t 11)), []⟩]
def c69_11 : ACode := .seq c69_10 .ret
def c69_12 : ACode := .seq c69_9 c69_11
def c69_13 : ACode := .seq c69_1 c69_12
def c69_14 : ACode := .seq c69_0 c69_13
@[go_sem] def c69_0_wp := wp_of c69_0.eq_1
@[go_sem] def c69_1_wp := wp_of c69_1.eq_1
@[go_sem] def c69_2_wp := wp_of c69_2.eq_1
@[go_sem] def c69_3_wp := wp_of c69_3.eq_1
@[go_sem] def c69_4_wp := wp_of c69_4.eq_1
@[go_sem] def c69_5_wp := wp_of c69_5.eq_1
@[go_sem] def c69_6_wp := wp_of c69_6.eq_1
@[go_sem] def c69_7_wp := wp_of c69_7.eq_1
@[go_sem] def c69_8_wp := wp_of c69_8.eq_1
@[go_sem] def c69_9_wp := wp_of c69_9.eq_1
@[go_sem] def c69_10_wp := wp_of c69_10.eq_1
@[go_sem] def c69_11_wp := wp_of c69_11.eq_1
@[go_sem] def c69_12_wp := wp_of c69_12.eq_1
@[go_sem] def c69_13_wp := wp_of c69_13.eq_1
@[go_sem] def c69_14_wp := wp_of c69_14.eq_1
def c69 : AFn := ⟨12, [.c 2 (some 12)], c69_14⟩
theorem c69_ok : compF Tryz.prog Tryz.f69 = some c69 := by kernel_rfl
theorem a69 {args : List AV} {σ : ASt} {R : AV → ASt → Prop} (hl : args.length ≤ 12) (h : c69_14.wp Tryz.prog (RetQ [.c 2 (some 12)] R) (init args) σ) : ACalls Tryz.prog 69 args σ R := acalls_of Tryz.func69 c69_ok hl h
end Go.A
namespace Go.A
open Go.Proofs Go.Lib
theorem fzN {σ σ' : ASt} (o m : Int) (s : List UInt8) (a b : Ref) (k : SK) (xs : List AV) : Fz σ σ' (resV [.agg [.int .i64 o, .int .i64 m, .str s, .int .i64 a.row, .int .i64 a.col, .bool a.absRow, .bool a.absCol, .int .i64 b.row, .int .i64 b.col, .bool b.absRow, .bool b.absCol, .sl k xs]]) (.agg (Nd.cs o m s a b xs)) :=
 Fz.agg (.cons (.refl _) (.cons (.refl _) (.cons (.refl _) (.cons (.refl _) (.cons (.refl _) (.cons (.refl _) (.cons (.refl _) (.cons (.refl _) (.cons (.refl _) (.cons (.refl _) (.cons (.refl _) (.cons (.sl _ _) .nil))))))))))))
set_option maxHeartbeats 4000000 in
theorem signed_walk {T : List Tok} (hT : TokOk T) (f : Nat) (ih : ∀ f', f' < f + 1 → WalkF T f') (b : Nat) (s : PSt) (r : Nd × PSt) (h : signedP T (f + 1) s = some r) (hf : Fit T s) (σ : ASt) (hV : LV σ) (hb : σ b = pr T s) :
  ACalls Tryz.prog 48 [.ptr b 0] σ fun v σ' => v = r.1.av ∧ σ' = σ.set b (pr T r.2) := by
 rw [signedP] at h
 have hwent := wentF hT.ends
 have hlen := hT.len
 have hil := hf.i
 refine a48 (by simp) ?_
 simp (disch := first | assumption | omega) only [go_sem]
 refine allocC_by fun d hd => ?_
 obtain ⟨hbd, T2, S2⟩ := St2.of hd (pr_fix hb).1 (pr_fix hb).2
 rw [S2.one, hb]
 have V2 : ∀ X Y, LV (T2 X Y) := fun X Y => S2.fix _ _ _ _ hV
 have k1 := S2.s1
 have k2 := S2.s2
 have q1 := S2.a1
 have q2 := S2.a2
 have ha1 := fun X => pat_ok hf.i [45] (q1 (pr T s) X)
 have ha2 := fun X => pat_ok hf.i [43] (q1 (pr T s) X)
 have behind : ∀ (op : Int) (r1 : Nd × PSt), (curT T s).kind ≠ 0 → (op = 7 ∨ op = 8) → signedP T f (stepP1 (enterP T s)) = some r1 → r = (.mk op 0 [] .zero .zero [r1.1], leaveP r1.2) → ∀ a1 : AFr, (a1 0 = .ptr b 0 ∧ a1 2 = .ptr d 0 ∧ a1 3 = .int .i64 op) →
   ACode.wp Tryz.prog c48_22 (RetQ [.c 2 (some 12)] fun v σ' => v = r.1.av ∧ σ' = σ.set b (pr T r.2)) a1 (T2 (pr T s) (some (.obj zero12))) := by
  intro op r1 hk hop h1 hr a1 hfr
  have he0 := cur_err hk
  obtain ⟨e1, e2, e3⟩ := enter_err hT.ends hf he0
  obtain ⟨g1, g2, g3⟩ := enter_fit hT.ends hf hk
  have hw := (hwent f).signed _ _ h1 g1
  have hen := penter_ok (T := T) (s := s) hf.i ⟨hf.d0, by have := hf.d1; omega⟩ (q1 (pr T s) (some (.obj zero12)))
  have hsi := (ih f (by omega)).signed b _ r1 h1 g1 _ (V2 (pr T (stepP1 (enterP T s))) (some (.obj zero12))) (q1 _ _)
  have hlv := fun X => pleave_ok (T := T) (s := r1.2) ⟨hw.fit.d0, by have := hw.fit.d1; omega⟩ (q1 (pr T r1.2) X)
  have hst : stepP1 (enterP T s) = if (enterP T s).err = 0 then (enterP T s).next else enterP T s := rfl
  generalize hS : stepP1 (enterP T s) = sS at *
  generalize hE : enterP T s = sE at *
  obtain ⟨n1, s1⟩ := r1
  dsimp only at hsi hlv hr
  subst hr
  dsimp only
  obtain ⟨o, m, t, x, y, ks⟩ := n1
  rw [Nd.av_cs] at hsi
  have hav : (Nd.mk op 0 [] .zero .zero [Nd.mk o m t x y ks]).av = .agg (Nd.cs op 0 [] .zero .zero [.agg (Nd.cs o m t x y (ks.map Nd.av))]) := by rw [Nd.av_cs, List.map_cons, Nd.av_cs]; rfl
  rw [hav]
  generalize ks.map Nd.av = KL at *
  unfold zero12 at *
  simp (disch := first | assumption | omega) only [go_sem, ↓reduceIte, hfr]
  refine hen.mono ?_
  rintro v σ1 ⟨rfl, rfl⟩
  rw [k1]
  have hprE : pr T sE = some (.obj [.sl .shr (T.map tokAV), .int .i64 sE.i, .int .i64 sE.deep, .int .i64 sE.err, .int .i64 sE.bad]) := rfl
  have hpn : some (Role.obj [.sl .shr (T.map tokAV), .int .i64 ((sE.i : Int) + 1), .int .i64 sE.deep, .int .i64 sE.err, .int .i64 sE.bad]) = pr T sE.next := rfl
  have q1' := fun Y => q1 (pr T sE) Y
  rw [hprE] at q1'
  by_cases he : sE.err = 0
  ·rw [if_pos he] at hst
   subst hst
   have hEi : (sE.i : Int) ≤ 1000000 := by omega
   rw [he] at hpn q1'
   rw [hprE, he]
   simp (disch := first | assumption | omega) only [go_sem, reduceCtorEq, Nat.reduceEqDiff, Nat.reduceAdd, Nat.reduceLeDiff, ↓reduceIte, Bool.true_and, hfr, q1', k1]
   rw [hpn]
   refine hsi.mono ?_
   rintro v σ1 ⟨rfl, rfl⟩
   rw [k1]
   simp (disch := first | assumption | omega) only [go_sem, Nat.reduceEqDiff, Nat.reduceAdd, Nat.reduceLeDiff, ↓reduceIte, Bool.true_and, hfr, q2, k2]
   refine (hlv _).mono ?_
   rintro v σ1 ⟨rfl, rfl⟩
   rw [k1]
   simp (disch := first | assumption | omega) only [go_sem, Nat.reduceAdd, Nat.reduceLeDiff, ↓reduceIte, q2]
   exact retC_by (S2.drop _ _) (fzN op 0 [] .zero .zero _ _) ⟨rfl, rfl⟩
  ·rw [if_neg he] at hst
   subst hst
   have q1s : ∀ Y, T2 (pr T sS) Y b = some (.obj [.sl .shr (T.map tokAV), .int .i64 sS.i, .int .i64 sS.deep, .int .i64 sS.err, .int .i64 sS.bad]) := fun Y => q1 _ _
   simp (disch := first | assumption | omega) only [go_sem, reduceCtorEq, Nat.reduceEqDiff, ↓reduceIte, hfr, q1s, he]
   refine hsi.mono ?_
   rintro v σ1 ⟨rfl, rfl⟩
   rw [k1]
   simp (disch := first | assumption | omega) only [go_sem, Nat.reduceEqDiff, Nat.reduceAdd, Nat.reduceLeDiff, ↓reduceIte, Bool.true_and, hfr, q2, k2]
   refine (hlv _).mono ?_
   rintro v σ1 ⟨rfl, rfl⟩
   rw [k1]
   simp (disch := first | assumption | omega) only [go_sem, Nat.reduceAdd, Nat.reduceLeDiff, ↓reduceIte, q2]
   exact retC_by (S2.drop _ _) (fzN op 0 [] .zero .zero _ _) ⟨rfl, rfl⟩
 obtain ⟨F, hF⟩ : ∃ F, F = ACode.wp Tryz.prog c48_22 := ⟨_, rfl⟩
 rw [← hF] at behind
 by_cases hm : isOp T s [45] = true
 ·rw [if_pos hm] at h
  rw [hm] at ha1
  cases h1 : signedP T f (stepP1 (enterP T s)) with
  | none => rw [h1] at h; cases h
  | some r1 =>
    rw [h1] at h
    injection h with h
    simp (disch := first | assumption | omega) only [go_sem, reduceCtorEq, ↓reduceIte, ←hF]
    refine (ha1 _).mono ?_
    rintro v σ1 ⟨rfl, rfl⟩
    simp (disch := first | assumption | omega) only [go_sem, ↓reduceIte]
    refine behind 7 r1 (isOp_kind hm) (.inl rfl) h1 h.symm _ ?_
    simp (disch := first | assumption | omega) only [go_sem, reduceCtorEq, Nat.reduceEqDiff, ↓reduceIte]
 rw [if_neg hm] at h
 have hm' : isOp T s [45] = false := by simpa using hm
 rw [hm'] at ha1
 by_cases hp : isOp T s [43] = true
 ·rw [if_pos hp] at h
  rw [hp] at ha2
  cases h1 : signedP T f (stepP1 (enterP T s)) with
  | none => rw [h1] at h; cases h
  | some r1 =>
    rw [h1] at h
    injection h with h
    simp (disch := first | assumption | omega) only [go_sem, reduceCtorEq, ↓reduceIte, ←hF]
    refine (ha1 _).mono ?_
    rintro v σ1 ⟨rfl, rfl⟩
    simp (disch := first | assumption | omega) only [go_sem, reduceCtorEq, ↓reduceIte]
    refine (ha2 _).mono ?_
    rintro v σ1 ⟨rfl, rfl⟩
    simp (disch := first | assumption | omega) only [go_sem, ↓reduceIte]
    refine behind 8 r1 (isOp_kind hp) (.inr rfl) h1 h.symm _ ?_
    simp (disch := first | assumption | omega) only [go_sem, reduceCtorEq, Nat.reduceEqDiff, ↓reduceIte]
 rw [if_neg hp] at h
 have hp' : isOp T s [43] = false := by simpa using hp
 rw [hp'] at ha2
 have hh := (ih f (by omega)).hundred b s r h hf _ (V2 (pr T s) (some (.obj zero12))) (q1 _ _)
 obtain ⟨n, s'⟩ := r
 dsimp only at hh ⊢
 obtain ⟨o, m, t, x, y, ks⟩ := n
 rw [Nd.av_cs] at hh ⊢
 unfold zero12 at hh
 simp (disch := first | assumption | omega) only [go_sem, reduceCtorEq, ↓reduceIte, ←hF]
 refine (ha1 _).mono ?_
 rintro v σ1 ⟨rfl, rfl⟩
 simp (disch := first | assumption | omega) only [go_sem, reduceCtorEq, ↓reduceIte]
 refine (ha2 _).mono ?_
 rintro v σ1 ⟨rfl, rfl⟩
 simp (disch := first | assumption | omega) only [go_sem, reduceCtorEq, ↓reduceIte]
 refine hh.mono ?_
 rintro v σ1 ⟨rfl, rfl⟩
 rw [k1]
 simp (disch := first | assumption | omega) only [go_sem, Nat.reduceEqDiff, Nat.reduceAdd, Nat.reduceLeDiff, ↓reduceIte, q2, k2]
 exact retC_by (S2.drop _ _) (.refl _) ⟨rfl, rfl⟩
set_option maxHeartbeats 4000000 in
theorem hundred_walk {T : List Tok} (hT : TokOk T) (f : Nat) (ih : ∀ f', f' < f + 1 → WalkF T f') (b : Nat) (s : PSt) (r : Nd × PSt) (h : hundredP T (f + 1) s = some r) (hf : Fit T s) (σ : ASt) (hV : LV σ) (hb : σ b = pr T s) :
  ACalls Tryz.prog 69 [.ptr b 0] σ fun v σ' => v = r.1.av ∧ σ' = σ.set b (pr T r.2) := by
 rw [hundredP] at h
 have hwent := wentF hT.ends
 refine a69 (by simp) ?_
 simp (disch := first | assumption | omega) only [go_sem]
 refine allocC_by fun d hd => ?_
 obtain ⟨hbd, T2, S2⟩ := St2.of hd (pr_fix hb).1 (pr_fix hb).2
 rw [S2.one, hb]
 have V2 : ∀ X Y, LV (T2 X Y) := fun X Y => S2.fix _ _ _ _ hV
 have k1 := S2.s1
 cases h1 : primP T f s with
 | none => rw [h1] at h; cases h
 | some r1 =>
   rw [h1] at h
   dsimp only at h
   have hw1 := (hwent f).prim _ _ h1 hf
   have hc := (ih f (by omega)).prim b s r1 h1 hf _ (V2 (pr T s) (some (.obj zero12))) (S2.a1 _ _)
   unfold zero12 at hc
   obtain ⟨n1, s1⟩ := r1
   dsimp only at hc h hw1
   have hex : ∃ o m t x y KL, n1.av = .agg (Nd.cs o m t x y KL) := by obtain ⟨o, m, t, x, y, ks⟩ := n1; exact ⟨_, _, _, _, _, _, Nd.av_cs ..⟩
   obtain ⟨o, m, t, x, y, KL, hn1⟩ := hex
   rw [hn1] at hc
   simp (disch := first | assumption | omega) only [go_sem, reduceCtorEq, ↓reduceIte]
   refine hc.mono ?_
   rintro v σ1 ⟨rfl, rfl⟩
   rw [k1]
   simp (disch := first | assumption | omega) only [go_sem]
   refine allocC_by fun e he => ?_
   obtain ⟨hbe, hde, T3, S3⟩ := St3.of S2 (X0 := .obj _) he
   have ab := S3.ab
   have k3 := S3.s3
   have k2 := S3.s2
   have k1 := S3.s1
   have q3 := S3.a3
   have q2 := S3.a2
   have q1 := S3.a1
   simp (disch := first | assumption | omega) only [go_sem, Nat.reduceEqDiff, Nat.reduceAdd, Nat.reduceLeDiff, ↓reduceIte, ab, k3, q3]
   refine wp_loop_by (fun (q : Nat × Nd × PSt) a1 st => (q.1 ≤ f ∧ hloopP T q.1 q.2.1 q.2.2 = some r ∧ Fit T q.2.2) ∧ (a1 0 = .ptr b 0 ∧ a1 2 = .ptr d 0 ∧ a1 3 = .ptr e 0) ∧ st = T3 (pr T q.2.2) (some (.obj zero12)) (some (.obj q.2.1.av.cells))) (fun q => q.1) (f, n1, s1) (Dr.now ⟨⟨Nat.le_refl _, h, hw1.fit⟩, ?_, by dsimp only; rw [hn1]; rfl⟩) ?_
   ·simp (disch := first | assumption | omega) only [go_sem, reduceCtorEq, Nat.reduceEqDiff, ↓reduceIte]
   clear h hn1 hw1 hc h1
   rintro ⟨f', n, s'⟩ a1 st ⟨⟨g1, g2, g3⟩, hf2, rfl⟩
   dsimp only at g1 g2 g3 hf2 ⊢
   obtain ⟨f'', rfl⟩ : ∃ f'', f' = f'' + 1 := by
    cases f' with
    | zero => rw [hloopP] at g2; cases g2
    | succ f'' => exact ⟨f'', rfl⟩
   rw [hloopP] at g2
   have hac := paccept_ok hT.ends g3 hT.len [37] (q1 (pr T s') (some (.obj zero12)) (some (.obj n.av.cells)))
   have hnn : n.av = .agg n.av.cells := by cases n; rfl
   have hcell : Go.A.deeps [.int .i64 9, .int .i64 0, .str [], .int .i64 0, .int .i64 0, .bool false, .bool false, .int .i64 0, .int .i64 0, .bool false, .bool false, .sl .full [n.av]] = (Nd.mk 9 0 [] .zero .zero [n]).av.cells := by
    have := bin_cells 9 [n] [n.av] (by simp only [deeps_cons, deeps_nil, Nd.deep]; rfl)
    rw [this, Nd.av_cs]
    rfl
   obtain ⟨NC, hNC⟩ : ∃ NC, n.av.cells = NC := ⟨_, rfl⟩
   have hlen : NC.length = 12 := by rw [← hNC]; exact Nd.av_len n
   have hlv : leaves NC = true := by rw [← hNC]; exact Nd.av_leaves n
   have htk : NC.take 12 = NC := List.take_of_length_le (by omega)
   have hdk : NC.drop 12 = [] := List.drop_of_length_le (by omega)
   rw [hNC] at hac hnn ⊢
   rw [hnn] at hcell
   have hzl : zero12.length = 12 := rfl
   have hzd : zero12.drop 12 = [] := rfl
   generalize zero12 = Z12 at *
   by_cases hop : isOp T s' [37] = true
   ·rw [if_pos hop] at g2
    rw [hop, if_pos rfl, k1] at hac
    have hfn := (g3.next hT.ends (isOp_kind hop)).1
    simp (disch := first | assumption | omega) only [go_sem, ↓reduceIte, hf2]
    refine hac.mono ?_
    rintro v σ1 ⟨rfl, rfl⟩
    simp (disch := first | assumption | omega) only [go_sem, Nat.reduceEqDiff, Nat.reduceAdd, Nat.reduceLeDiff, ↓reduceIte, Bool.true_and, hf2, q3, k3, hlen, htk, hdk]
    have hsd : SDrop (T3 (pr T s'.next) (some (.obj Z12)) (some (.obj [.int .i64 9, .int .i64 0, .str [], .int .i64 0, .int .i64 0, .bool false, .bool false, .int .i64 0, .int .i64 0, .bool false, .bool false, .sl .full [.agg NC]]))) (T3 (pr T s'.next) (some (.obj Z12)) (some (.obj (Nd.mk 9 0 [] .zero .zero [n]).av.cells))) := by
     rw [← ab, ← ab]
     exact (SDrop.refl _).cong hcell
    refine ⟨(f'', .mk 9 0 [] .zero .zero [n], s'.next), by dsimp only; omega, Dr.sdrop hsd ⟨⟨by dsimp only; omega, g2, hfn⟩, ?_, rfl⟩⟩
    simp (disch := first | assumption | omega) only [go_sem, reduceCtorEq, Nat.reduceEqDiff, ↓reduceIte, hf2]
   ·have hop' : isOp T s' [37] = false := by simpa using hop
    rw [if_neg hop] at g2
    injection g2 with g2
    subst g2
    rw [hop', if_neg (by simp)] at hac
    simp (disch := first | assumption | omega) only [go_sem, ↓reduceIte, hf2]
    refine hac.mono ?_
    rintro v σ1 ⟨rfl, rfl⟩
    simp (disch := first | assumption | omega) only [go_sem, Nat.reduceEqDiff, Nat.reduceLeDiff, ↓reduceIte, hf2, q3, q2, k2, hlen, hlv, htk, hzl, hzd]
    exact retC_by (S3.drop _ _ _) (.refl _) ⟨hnn.symm, rfl⟩
end Go.A
namespace Go.A
open Go.Proofs
/-! 114: (*tabular/parse.parser).area -/
def c114_0 : ACode := .ops [
 ⟨some 2, none, .e (.alloc [(.int .i64 0), (.int .i64 0), (.str []), (.int .i64 0), (.int .i64 0), (.bool false), (.bool false), (.int .i64 0), (.int .i64 0), (.bool false), (.bool false), (.sl .full [])]), []⟩]
def c114_1 : ACode := .ops [
 ⟨some 5, none, .q (.mv (.t 0)), []⟩,
 ⟨some 6, none, .e (.call 29 [(.t 5)]), []⟩,
 ⟨some 7, none, .e (.call 131 [(.t 6)]), []⟩,
 ⟨some 8, none, .q (.build [(.int .i64 0), (.int .i64 0), (.str []), (.int .i64 0), (.int .i64 0), (.bool false), (.bool false), (.int .i64 0), (.int .i64 0), (.bool false), (.bool false), (.sl .full [])] [(0, 1, (.v (.int .i64 5))), (3, 4, (.t 7))]), []⟩,
 ⟨some 3, none, .e (.alloc [(.int .i64 0), (.int .i64 0), (.str []), (.int .i64 0), (.int .i64 0), (.bool false), (.bool false), (.int .i64 0), (.int .i64 0), (.bool false), (.bool false), (.sl .full [])]), []⟩,
 ⟨none, none, .e (.store 12 (.t 3) (.t 8)), []⟩]
def c114_2 : ACode := .ops [
 ⟨some 9, none, .q (.mv (.t 0)), []⟩,
 ⟨some 10, none, .q (.nc (.t 9)), []⟩,
 ⟨some 11, none, .q (.fa 1 (.t 10)), []⟩,
 ⟨some 12, none, .q (.ld none (.t 11)), []⟩,
 ⟨some 13, none, .q (.bin .add (.t 12) (.v (.int .i64 1))), []⟩,
 ⟨some 14, none, .q (.nc (.t 9)), []⟩,
 ⟨some 15, none, .q (.fa 1 (.t 14)), []⟩,
 ⟨none, none, .e (.store 1 (.t 15) (.t 13)), []⟩]
def c114_3 : ACode := .ops [
 ⟨some 16, none, .q (.mv (.t 0)), []⟩,
 ⟨some 17, none, .e (.call 96 [(.t 16), (.v (.str [58]))]), []⟩,
 ⟨some 18, none, .q (.un .not (.t 17)), []⟩]
def c114_4 : ACode := .ops [
 ⟨some 19, none, .q (.ld (some 12) (.t 3)), []⟩,
 ⟨none, none, .e (.store 12 (.t 2) (.t 19)), []⟩]
def c114_5 : ACode := .seq c114_4 .ret
def c114_6 : ACode := .cond (.t 18) c114_5 .skip
def c114_7 : ACode := .seq c114_3 c114_6
def c114_8 : ACode := .ops [
 ⟨some 20, none, .q (.mv (.t 0)), []⟩,
 ⟨some 21, none, .e (.call 29 [(.t 20)]), []⟩,
 ⟨some 4, none, .e (.alloc [(.int .i64 0), (.str []), (.int .i64 0), (.int .i64 0)]), []⟩,
 ⟨none, none, .e (.store 4 (.t 4) (.t 21)), []⟩]
def c114_9 : ACode := .ops [
 ⟨some 22, none, .q (.fa 0 (.t 4)), []⟩,
 ⟨some 23, none, .q (.ld none (.t 22)), []⟩,
 ⟨some 24, none, .q (.bin .neq (.t 23) (.v (.int .i64 4))), []⟩]
def c114_10 : ACode := .ops [
 ⟨some 25, none, .q (.mv (.t 0)), []⟩,
 ⟨some 26, none, .e (.call 30 [(.t 25), (.v (.int .i64 10))]), []⟩,
 ⟨none, none, .e (.store 12 (.t 2) (.t 26)), []⟩]
def c114_11 : ACode := .seq c114_10 .ret
def c114_12 : ACode := .cond (.t 24) c114_11 .skip
def c114_13 : ACode := .seq c114_9 c114_12
def c114_14 : ACode := .ops [
 ⟨some 27, none, .q (.mv (.t 0)), []⟩,
 ⟨some 28, none, .q (.nc (.t 27)), []⟩,
 ⟨some 29, none, .q (.fa 1 (.t 28)), []⟩,
 ⟨some 30, none, .q (.ld none (.t 29)), []⟩,
 ⟨some 31, none, .q (.bin .add (.t 30) (.v (.int .i64 1))), []⟩,
 ⟨some 32, none, .q (.nc (.t 27)), []⟩,
 ⟨some 33, none, .q (.fa 1 (.t 32)), []⟩,
 ⟨none, none, .e (.store 1 (.t 33) (.t 31)), []⟩]
def c114_15 : ACode := .ops [
 ⟨some 34, none, .q (.fa 3 (.t 3)), []⟩,
 ⟨some 35, none, .q (.ld (some 4) (.t 34)), []⟩,
 ⟨some 36, none, .q (.ld (some 4) (.t 4)), []⟩,
 ⟨some 37, none, .e (.call 131 [(.t 36)]), [⟨none, .ld (some 4) (.t 34), 35⟩]⟩,
 ⟨some 38, none, .q (.build [(.int .i64 0), (.int .i64 0), (.str []), (.int .i64 0), (.int .i64 0), (.bool false), (.bool false), (.int .i64 0), (.int .i64 0), (.bool false), (.bool false), (.sl .full [])] [(0, 1, (.v (.int .i64 6))), (3, 4, (.t 35)), (7, 4, (.t 37))]), []⟩,
 ⟨none, none, .e (.store 12 (.t 2) (.t 38)), []⟩]
def c114_16 : ACode := .seq c114_15 .ret
def c114_17 : ACode := .seq c114_14 c114_16
def c114_18 : ACode := .seq c114_13 c114_17
def c114_19 : ACode := .seq c114_8 c114_18
def c114_20 : ACode := .seq c114_7 c114_19
def c114_21 : ACode := .seq c114_2 c114_20
def c114_22 : ACode := .seq c114_1 c114_21
def c114_23 : ACode := .seq c114_0 c114_22
@[go_sem] def c114_0_wp := wp_of c114_0.eq_1
@[go_sem] def c114_1_wp := wp_of c114_1.eq_1
@[go_sem] def c114_2_wp := wp_of c114_2.eq_1
@[go_sem] def c114_3_wp := wp_of c114_3.eq_1
@[go_sem] def c114_4_wp := wp_of c114_4.eq_1
@[go_sem] def c114_5_wp := wp_of c114_5.eq_1
@[go_sem] def c114_6_wp := wp_of c114_6.eq_1
@[go_sem] def c114_7_wp := wp_of c114_7.eq_1
@[go_sem] def c114_8_wp := wp_of c114_8.eq_1
@[go_sem] def c114_9_wp := wp_of c114_9.eq_1
@[go_sem] def c114_10_wp := wp_of c114_10.eq_1
@[go_sem] def c114_11_wp := wp_of c114_11.eq_1
@[go_sem] def c114_12_wp := wp_of c114_12.eq_1
@[go_sem] def c114_13_wp := wp_of c114_13.eq_1
@[go_sem] def c114_14_wp := wp_of c114_14.eq_1
@[go_sem] def c114_15_wp := wp_of c114_15.eq_1
@[go_sem] def c114_16_wp := wp_of c114_16.eq_1
@[go_sem] def c114_17_wp := wp_of c114_17.eq_1
@[go_sem] def c114_18_wp := wp_of c114_18.eq_1
@[go_sem] def c114_19_wp := wp_of c114_19.eq_1
@[go_sem] def c114_20_wp := wp_of c114_20.eq_1
@[go_sem] def c114_21_wp := wp_of c114_21.eq_1
@[go_sem] def c114_22_wp := wp_of c114_22.eq_1
@[go_sem] def c114_23_wp := wp_of c114_23.eq_1
def c114 : AFn := ⟨39, [.c 2 (some 12)], c114_23⟩
theorem c114_ok : compF Tryz.prog Tryz.f114 = some c114 := by kernel_rfl
theorem a114 {args : List AV} {σ : ASt} {R : AV → ASt → Prop} (hl : args.length ≤ 39) (h : c114_23.wp Tryz.prog (RetQ [.c 2 (some 12)] R) (init args) σ) : ACalls Tryz.prog 114 args σ R := acalls_of Tryz.func114 c114_ok hl h
/-! 132: (*tabular/parse.parser).args -/
def c132_0 : ACode := .ops [
 ⟨some 2, none, .q (.mv (.v (.sl .full []))), []⟩]
def c132_1 : ACode := .ops [
 ⟨some 4, none, .q (.mv (.t 0)), []⟩,
 ⟨some 5, none, .e (.call 96 [(.t 4), (.v (.str [41]))]), []⟩]
def c132_2 : ACode := .ops [
 ⟨some 2, none, .q (.mv (.v (.sl .full []))), []⟩]
def c132_3 : ACode := .seq c132_2 .ret
def c132_4 : ACode := .cond (.t 5) c132_3 .skip
def c132_5 : ACode := .seq c132_1 c132_4
def c132_6 : ACode := .ops [
 ⟨some 3, none, .q (.mv (.v (.sl .full []))), []⟩]
def c132_7 : ACode := .ops [
 ⟨some 6, none, .q (.mv (.t 0)), []⟩,
 ⟨some 7, none, .q (.nc (.t 6)), []⟩,
 ⟨some 8, none, .q (.fa 3 (.t 7)), []⟩,
 ⟨some 9, none, .q (.ld none (.t 8)), []⟩,
 ⟨some 10, none, .q (.bin .eql (.t 9) (.v (.int .i64 0))), []⟩]
def c132_8 : ACode := .cond (.t 10) .skip (.exit 0)
def c132_9 : ACode := .seq c132_7 c132_8
def c132_10 : ACode := .ops [
 ⟨some 11, none, .q (.mv (.t 0)), []⟩,
 ⟨some 12, none, .e (.call 68 [(.t 11), (.v (.str [44]))]), []⟩,
 ⟨some 13, none, .q (.mv (.t 12)), []⟩,
 ⟨some 14, some (13, false), .q (.mv (.t 0)), []⟩,
 ⟨some 15, some (13, false), .e (.call 68 [(.t 14), (.v (.str [41]))]), []⟩,
 ⟨some 16, none, .q (.pick (.t 13) (.v (.bool true)) (.t 15)), []⟩]
def c132_11 : ACode := .ops [
 ⟨some 17, none, .q (.mv (.t 3)), []⟩,
 ⟨some 18, none, .q (.build [(.int .i64 0), (.int .i64 0), (.str []), (.int .i64 0), (.int .i64 0), (.bool false), (.bool false), (.int .i64 0), (.int .i64 0), (.bool false), (.bool false), (.sl .full [])] [(0, 1, (.v (.int .i64 23)))]), []⟩,
 ⟨some 19, none, .q (.bsl 12 [(.t 18)]), []⟩,
 ⟨some 20, none, .e (.app 29 12 104 [(.int .i64 0), (.int .i64 0), (.str []), (.int .i64 0), (.int .i64 0), (.bool false), (.bool false), (.int .i64 0), (.int .i64 0), (.bool false), (.bool false), (.sl .full [])] (.t 17) (.t 19)), []⟩,
 ⟨some 3, none, .q (.mv (.t 20)), []⟩]
def c132_12 : ACode := .ops [
 ⟨some 21, none, .q (.mv (.t 3)), []⟩,
 ⟨some 22, none, .q (.mv (.t 0)), []⟩,
 ⟨some 23, none, .e (.call 28 [(.t 22), (.v (.int .i64 0))]), []⟩,
 ⟨some 24, none, .q (.bsl 12 [(.t 23)]), []⟩,
 ⟨some 25, none, .e (.app 29 12 104 [(.int .i64 0), (.int .i64 0), (.str []), (.int .i64 0), (.int .i64 0), (.bool false), (.bool false), (.int .i64 0), (.int .i64 0), (.bool false), (.bool false), (.sl .full [])] (.t 21) (.t 24)), []⟩,
 ⟨some 3, none, .q (.mv (.t 25)), []⟩]
def c132_13 : ACode := .cond (.t 16) c132_11 c132_12
def c132_14 : ACode := .seq c132_10 c132_13
def c132_15 : ACode := .ops [
 ⟨some 26, none, .q (.mv (.t 0)), []⟩,
 ⟨some 27, none, .e (.call 96 [(.t 26), (.v (.str [44]))]), []⟩,
 ⟨some 28, none, .q (.un .not (.t 27)), []⟩]
def c132_16 : ACode := .ops [
 ⟨some 29, none, .q (.mv (.t 0)), []⟩,
 ⟨some 30, none, .e (.call 116 [(.t 29), (.v (.str [41]))]), []⟩]
def c132_17 : ACode := .seq c132_16 (.exit 0)
def c132_18 : ACode := .cond (.t 28) c132_17 .skip
def c132_19 : ACode := .seq c132_15 c132_18
def c132_20 : ACode := .seq c132_14 c132_19
def c132_21 : ACode := .block 1 c132_20
def c132_22 : ACode := .seq c132_9 c132_21
def c132_23 : ACode := .loop c132_22
def c132_24 : ACode := .block 0 c132_23
def c132_25 : ACode := .ops [
 ⟨some 31, none, .q (.mv (.t 3)), []⟩,
 ⟨some 2, none, .q (.mv (.t 31)), []⟩]
def c132_26 : ACode := .seq c132_25 .ret
def c132_27 : ACode := .seq c132_24 c132_26
def c132_28 : ACode := .seq c132_6 c132_27
def c132_29 : ACode := .seq c132_5 c132_28
def c132_30 : ACode := .seq c132_0 c132_29
@[go_sem] def c132_0_wp := wp_of c132_0.eq_1
@[go_sem] def c132_1_wp := wp_of c132_1.eq_1
@[go_sem] def c132_2_wp := wp_of c132_2.eq_1
@[go_sem] def c132_3_wp := wp_of c132_3.eq_1
@[go_sem] def c132_4_wp := wp_of c132_4.eq_1
@[go_sem] def c132_5_wp := wp_of c132_5.eq_1
@[go_sem] def c132_6_wp := wp_of c132_6.eq_1
@[go_sem] def c132_7_wp := wp_of c132_7.eq_1
@[go_sem] def c132_8_wp := wp_of c132_8.eq_1
@[go_sem] def c132_9_wp := wp_of c132_9.eq_1
@[go_sem] def c132_10_wp := wp_of c132_10.eq_1
@[go_sem] def c132_11_wp := wp_of c132_11.eq_1
@[go_sem] def c132_12_wp := wp_of c132_12.eq_1
@[go_sem] def c132_13_wp := wp_of c132_13.eq_1
@[go_sem] def c132_14_wp := wp_of c132_14.eq_1
@[go_sem] def c132_15_wp := wp_of c132_15.eq_1
@[go_sem] def c132_16_wp := wp_of c132_16.eq_1
@[go_sem] def c132_17_wp := wp_of c132_17.eq_1
@[go_sem] def c132_18_wp := wp_of c132_18.eq_1
@[go_sem] def c132_19_wp := wp_of c132_19.eq_1
@[go_sem] def c132_20_wp := wp_of c132_20.eq_1
@[go_sem] def c132_21_wp := wp_of c132_21.eq_1
@[go_sem] def c132_22_wp := wp_of c132_22.eq_1
@[go_sem] def c132_23_wp := wp_of c132_23.eq_1
@[go_sem] def c132_24_wp := wp_of c132_24.eq_1
@[go_sem] def c132_25_wp := wp_of c132_25.eq_1
@[go_sem] def c132_26_wp := wp_of c132_26.eq_1
@[go_sem] def c132_27_wp := wp_of c132_27.eq_1
@[go_sem] def c132_28_wp := wp_of c132_28.eq_1
@[go_sem] def c132_29_wp := wp_of c132_29.eq_1
@[go_sem] def c132_30_wp := wp_of c132_30.eq_1
def c132 : AFn := ⟨32, [.t 2], c132_30⟩
theorem c132_ok : compF Tryz.prog Tryz.f132 = some c132 := by kernel_rfl
theorem a132 {args : List AV} {σ : ASt} {R : AV → ASt → Prop} (hl : args.length ≤ 32) (h : c132_30.wp Tryz.prog (RetQ [.t 2] R) (init args) σ) : ACalls Tryz.prog 132 args σ R := acalls_of Tryz.func132 c132_ok hl h
end Go.A
namespace Go.A
open Go.Proofs Go.Lib
theorem zN_av : zN.av = .agg (Nd.cs 0 0 [] .zero .zero []) := rfl
theorem zN_cells : (Nd.cs 0 0 [] .zero .zero [] : List AV) = [.int .i64 0, .int .i64 0, .str [], .int .i64 0, .int .i64 0, .bool false, .bool false, .int .i64 0, .int .i64 0, .bool false, .bool false, .sl .shr []] := rfl
set_option maxHeartbeats 4000000 in
theorem area_walk {T : List Tok} (hT : TokOk T) (b : Nat) (s : PSt) (hf : Fit T s) (hk : (curT T s).kind = 4) (σ : ASt) (hb : σ b = pr T s) :
  ACalls Tryz.prog 114 [.ptr b 0] σ fun v σ' => v = (areaP T s).1.av ∧ σ' = σ.set b (pr T (areaP T s).2) := by
 have hlen := hT.len
 have hil := hf.i
 have hn := (hf.next hT.ends (by omega)).1
 have hni := hn.i
 refine a114 (by simp) ?_
 obtain ⟨R, hR⟩ : ∃ R, areaP T s = R := ⟨_, rfl⟩
 rw [hR]
 unfold areaP at hR
 simp (disch := first | assumption | omega) only [go_sem]
 refine allocC_by fun d hd => ?_
 obtain ⟨hbd, T2, S2⟩ := St2.of hd (pr_fix hb).1 (pr_fix hb).2
 rw [S2.one, hb]
 have k1 := S2.s1
 have q1 := S2.a1
 have hcu := fun X => pcur_ok (T := T) hf.i (q1 (pr T s) X)
 have hrf := pref_ok (curT T s) (by have := hT.cur s; omega)
 generalize hct : curT T s = tk at *
 obtain ⟨a, ha⟩ : ∃ a, refT tk = a := ⟨_, rfl⟩
 rw [ha] at hrf hR
 unfold tokAV refAV at hrf
 unfold tokAV at hcu
 simp (disch := first | assumption | omega) only [go_sem, reduceCtorEq, ↓reduceIte]
 refine (hcu _).mono ?_
 rintro v σ1 ⟨rfl, rfl⟩
 simp (disch := first | assumption | omega) only [go_sem, ↓reduceIte]
 refine hrf.use ?_
 simp (disch := first | assumption | omega) only [go_sem, Nat.reduceAdd, Nat.reduceLeDiff, ↓reduceIte]
 refine allocC_by fun e he => ?_
 obtain ⟨hbe, hde, T3, S3⟩ := St3.of S2 (X0 := .obj _) he
 have ab := S3.ab
 have k3 := S3.s3
 have k2 := S3.s2
 have k1 := S3.s1
 have q3 := S3.a3
 have q2 := S3.a2
 have q1 := S3.a1
 have hpr : ∀ x : PSt, pr T x = some (.obj [.sl .shr (T.map tokAV), .int .i64 x.i, .int .i64 x.deep, .int .i64 x.err, .int .i64 x.bad]) := fun x => rfl
 have hpn : some (Role.obj [.sl .shr (T.map tokAV), .int .i64 ((s.i : Int) + 1), .int .i64 s.deep, .int .i64 s.err, .int .i64 s.bad]) = pr T s.next := rfl
 obtain ⟨NC, hNC⟩ : ∃ NC, ([.int .i64 5, .int .i64 0, .str [], .int .i64 a.row, .int .i64 a.col, .bool a.absRow, .bool a.absCol, .int .i64 0, .int .i64 0, .bool false, .bool false, .sl .full []] : List AV) = NC := ⟨_, rfl⟩
 have hac := fun X Y => paccept_ok hT.ends hn hT.len [58] (q1 (pr T s.next) X Y)
 simp (disch := first | assumption | omega) only [go_sem, reduceCtorEq, Nat.reduceEqDiff, Nat.reduceAdd, Nat.reduceLeDiff, ↓reduceIte, Bool.true_and, ab, k3, q3]
 rw [hpr s]
 simp (disch := first | assumption | omega) only [go_sem, reduceCtorEq, Nat.reduceEqDiff, Nat.reduceAdd, Nat.reduceLeDiff, ↓reduceIte, Bool.true_and, q1, k1]
 rw [hpn]
 have hz12 : zero12 = [.int .i64 0, .int .i64 0, .str [], .int .i64 0, .int .i64 0, .bool false, .bool false, .int .i64 0, .int .i64 0, .bool false, .bool false, .sl .full []] := rfl
 refine (hac _ _).mono ?_
 rintro v σ1 ⟨rfl, rfl⟩
 by_cases hc : isOp T s.next [58] = false
 ·rw [if_pos hc] at hR
  subst hR
  rw [hc, if_neg (by simp)]
  simp (disch := first | assumption | omega) only [go_sem, Nat.reduceEqDiff, Nat.reduceAdd, Nat.reduceLeDiff, ↓reduceIte, Bool.true_and, q2, q3, k2]
  rw [Nd.av_cs]
  exact retC_by (S3.drop _ _ _) (fzN 5 0 [] a .zero _ _) ⟨rfl, rfl⟩
 ·rw [if_neg hc] at hR
  have hc' : isOp T s.next [58] = true := by simpa using hc
  rw [hc', if_pos rfl, k1]
  have hn2 := (hn.next hT.ends (isOp_kind hc')).1
  have hn2i := hn2.i
  have hcu2 := fun X Y => pcur_ok (T := T) hn2.i (q1 (pr T s.next.next) X Y)
  have hrf2 := pref_ok (curT T s.next.next) (by have := hT.cur s.next.next; omega)
  have hfl := fun τ h => pfail_ok (T := T) (s := s.next.next) hn2.i 10 (σ := τ) (b := b) h
  have hpn2 : some (Role.obj [.sl .shr (T.map tokAV), .int .i64 (s.next.next.i + 1 : Int), .int .i64 s.next.next.deep, .int .i64 s.next.next.err, .int .i64 s.next.next.bad]) = pr T s.next.next.next := rfl
  have hk2 : (curT T s.next.next).kind ≠ 0 → s.next.next.i + 1 < T.length := fun h => (hn2.next hT.ends h).1.i
  generalize hct2 : curT T s.next.next = tk2 at *
  obtain ⟨a2, ha2⟩ : ∃ a, refT tk2 = a := ⟨_, rfl⟩
  rw [ha2] at hrf2 hR
  unfold tokAV refAV at hrf2
  unfold tokAV at hcu2
  simp (disch := first | assumption | omega) only [go_sem, reduceCtorEq, ↓reduceIte]
  refine (hcu2 _ _).mono ?_
  rintro v σ1 ⟨rfl, rfl⟩
  simp (disch := first | assumption | omega) only [go_sem]
  refine allocC_by fun g hg => ?_
  obtain ⟨T4, S4⟩ := St4.of S3 (X0 := .obj _) hg
  have ab4 := S4.ab
  have m1 := S4.s1
  have m2 := S4.s2
  have m4 := S4.s4
  have p1 := S4.a1
  have p2 := S4.a2
  have p3 := S4.a3
  have p4 := S4.a4
  generalize hs2 : s.next.next = sN at *
  by_cases hk4 : tk2.kind = 4
  ·rw [if_neg (by simpa using hk4)] at hR
   subst hR
   have hi2 := hk2 (by omega)
   simp (disch := first | assumption | omega) only [go_sem, reduceCtorEq, Nat.reduceEqDiff, Nat.reduceAdd, Nat.reduceLeDiff, ↓reduceIte, Bool.true_and, ab4, m4, p4, hk4]
   rw [hpr sN]
   simp (disch := first | assumption | omega) only [go_sem, Nat.reduceEqDiff, Nat.reduceAdd, Nat.reduceLeDiff, ↓reduceIte, Bool.true_and, p1, m1]
   rw [hpn2]
   rw [hk4] at hrf2
   simp (disch := first | assumption | omega) only [go_sem, Nat.reduceEqDiff, Nat.reduceAdd, Nat.reduceLeDiff, ↓reduceIte, p3, p4]
   refine hrf2.use ?_
   simp (disch := first | assumption | omega) only [go_sem, Nat.reduceEqDiff, Nat.reduceAdd, Nat.reduceLeDiff, ↓reduceIte, Bool.true_and, p2, p3, m2]
   rw [Nd.av_cs]
   exact retC_by (S4.drop _ _ _ _) (fzN 6 0 [] a a2 _ _) ⟨rfl, rfl⟩
  ·rw [if_pos hk4] at hR
   subst hR
   simp (disch := first | assumption | omega) only [go_sem, reduceCtorEq, Nat.reduceEqDiff, Nat.reduceAdd, Nat.reduceLeDiff, ↓reduceIte, Bool.true_and, ab4, m4, p4, hk4]
   refine (hfl _ (p1 _ _ _ _)).mono ?_
   rintro v σ1 ⟨rfl, rfl⟩
   rw [m1, zN_av, zN_cells]
   simp (disch := first | assumption | omega) only [go_sem, Nat.reduceEqDiff, Nat.reduceAdd, Nat.reduceLeDiff, ↓reduceIte, Bool.true_and, p2, m2]
   exact retC_by (S4.drop _ _ _ _) (.refl _) ⟨rfl, rfl⟩
theorem deeps_app : ∀ xs ys : List AV, Go.A.deeps (xs ++ ys) = Go.A.deeps xs ++ Go.A.deeps ys
 | [], ys => rfl
 | x :: xs, ys => by rw [List.cons_append, deeps_cons, deeps_cons, deeps_app xs ys, List.cons_append]
theorem OwnSl.fzd {σ0 σ st σ' : ASt} {v : AV} {xs : List AV} {s : Nat} (h : OwnSl σ0 σ v xs s) (hd : Drop st σ) (hx : ∀ x ∈ xs, x.cells.length = s) (hn : ∀ b, σ0 b = none → σ' b = none) : Fz st σ' v (.sl .shr xs) := by
 rcases h with ⟨rfl, rfl, rfl⟩ | ⟨b, c, rest, rfl, h2, h3, h4, rfl⟩
 ·exact .sl _ _
 ·have hxl : (xs.flatMap AV.cells).length = xs.length * s := lens_flat hx
  refine .msl 0 _ c s xs (hd.had (ASt.set_same _ _ _)) (hn _ h4) rfl h2 hx ?_
  rw [List.drop_zero, ← hxl, List.take_left]
set_option maxHeartbeats 4000000 in
theorem args_walk {T : List Tok} (hT : TokOk T) (f : Nat) (ih : ∀ f', f' < f + 1 → WalkF T f') (b : Nat) (s : PSt) (r : List Nd × PSt) (h : argsP T (f + 1) s = some r) (hf : Fit T s) (σ : ASt) (hV : LV σ) (hb : σ b = pr T s) :
  ACalls Tryz.prog 132 [.ptr b 0] σ fun v σ' => v = .sl .shr (r.1.map Nd.av) ∧ σ' = σ.set b (pr T r.2) := by
 rw [argsP] at h
 have hwent := wentF hT.ends
 have hac := paccept_ok hT.ends hf hT.len [41] hb
 refine ACalls.retd (K := fun v σ' => Go.A.deep v = .sl .shr (r.1.map Nd.av) ∧ σ' = σ.set b (pr T r.2)) ?_ (fun v σ' h => h)
 refine a132 (by simp) ?_
 by_cases hc : isOp T s [41] = true
 ·rw [if_pos hc] at h
  injection h with h
  subst h
  rw [hc, if_pos rfl] at hac
  simp (disch := first | assumption | omega) only [go_sem, reduceCtorEq, ↓reduceIte]
  refine hac.mono ?_
  rintro v σ1 ⟨rfl, rfl⟩
  simp (disch := first | assumption | omega) only [go_sem, ↓reduceIte]
  exact retC_by (Drop.refl _) (.refl _) ⟨rfl, rfl⟩
 rw [if_neg hc] at h
 have hc' : isOp T s [41] = false := by simpa using hc
 rw [hc', if_neg (by simp)] at hac
 simp (disch := first | assumption | omega) only [go_sem, reduceCtorEq, ↓reduceIte]
 refine hac.mono ?_
 rintro v σ1 ⟨rfl, rfl⟩
 obtain ⟨F, hF⟩ : ∃ F, F = ACode.wp Tryz.prog c132_26 := ⟨_, rfl⟩
 have hpr : ∀ x : PSt, pr T x = some (.obj [.sl .shr (T.map tokAV), .int .i64 x.i, .int .i64 x.deep, .int .i64 x.err, .int .i64 x.bad]) := fun x => rfl
 have hbs := hb
 have fin : ∀ (l : List Nd) (s' : PSt) (XS : List AV) (v : AV) (st : ASt) (a1 : AFr), r = (l, s') → (∃ σ2, Drop st σ2 ∧ OwnSl (σ1.set b (pr T s')) σ2 v XS 12) → (∀ x ∈ XS, x.cells.length = 12) → Go.A.deeps XS = l.map Nd.av → a1 3 = v →
   F (RetQ [.t 2] fun v σ' => Go.A.deep v = .sl .shr (r.1.map Nd.av) ∧ σ' = σ1.set b (pr T r.2)) a1 st := by
  intro l s' XS v st a1 hr ⟨σ2, hdr, hO⟩ hx hd h3
  subst hr
  rw [hF]
  have hz := hO.fzd hdr hx (σ' := σ1.set b (pr T s')) (fun x hx => hx)
  simp (disch := first | assumption | omega) only [go_sem, ↓reduceIte, h3]
  refine retC_by (r := .sl .shr XS) (hdr.trans hO.drop) ?_ ⟨by rw [deep_sl, hd], rfl⟩
  first | exact hz | (rw [resV_one]; exact hz)
 simp (disch := first | assumption | omega) only [go_sem, ↓reduceIte, ←hF]
 refine wp_loop_by (fun (q : Nat × List Nd × PSt) a1 st => (q.1 ≤ f ∧ aloopP T q.1 q.2.1 q.2.2 = some r ∧ Fit T q.2.2 ∧ q.2.1.length ≤ q.2.2.i) ∧ a1 0 = .ptr b 0 ∧ ∃ v XS, a1 3 = v ∧ OwnSl (σ1.set b (pr T q.2.2)) st v XS 12 ∧ (∀ x ∈ XS, x.cells.length = 12) ∧ Go.A.deeps XS = q.2.1.map Nd.av) (fun q => q.1) (f, [], s) (Dr.now ⟨⟨Nat.le_refl _, h, hf, Nat.zero_le _⟩, ?_, .sl .full [], [], ?_, ?_, by simp, rfl⟩) ?_
 ·simp (disch := first | assumption | omega) only [go_sem, reduceCtorEq, ↓reduceIte]
 ·simp (disch := first | assumption | omega) only [go_sem, ↓reduceIte]
 ·dsimp only; rw [set_self0 hb]; exact .inl ⟨rfl, rfl, rfl⟩
 clear h hac hc hc'
 rintro ⟨f', l, s'⟩ a1 st ⟨⟨g1, g2, g3, g4⟩, h0, v, XS, h3, hO, hx, hdl⟩
 dsimp only at g1 g2 g3 g4 hO hdl
 obtain ⟨f'', rfl⟩ : ∃ f'', f' = f'' + 1 := by
  cases f' with
  | zero => rw [aloopP] at g2; cases g2
  | succ f'' => exact ⟨f'', rfl⟩
 rw [aloopP] at g2
 have hbb : st b = pr T s' := hO.at (x := b) (ASt.set_same _ _ _)
 have hVs : LV st := by
  unfold LV at hV ⊢
  refine hO.at ?_
  rw [ASt.set_ne]
  ·exact hV
  ·rintro e; rw [← e, hV] at hbs; unfold pr at hbs; cases hbs
 have hxl : XS.length = l.length := by
  have := congrArg List.length hdl
  rw [List.length_map] at this
  rw [← this, deeps_len]
 have hil := g3.i
 have htl := hT.len
 have hbb' := hbb
 rw [hpr] at hbb'
 by_cases he : s'.err = 0
 ·rw [if_neg (by simp [he])] at g2
  have ha1 := pat_ok g3.i [44] hbb
  have ha2 := pat_ok g3.i [41] hbb
  obtain ⟨B, hB⟩ : ∃ B, B = ACode.wp Tryz.prog c132_19 := ⟨_, rfl⟩
  have behind : ∀ (Q : APost) (s2 : PSt) (v' : AV) (st' : ASt) (XS' : List AV) (a2 : AFr), Fit T s2 → (∃ σ2, Drop st' σ2 ∧ OwnSl (σ1.set b (pr T s2)) σ2 v' XS' 12) → a2 0 = .ptr b 0 → a2 3 = v' →
    (∀ a3 st3, isOp T s2 [44] = true → a3 0 = .ptr b 0 → a3 3 = v' → (∃ σ2, Drop st3 σ2 ∧ OwnSl (σ1.set b (pr T s2.next)) σ2 v' XS' 12) → Q .normal a3 st3) →
    (∀ a3 st3, isOp T s2 [44] = false → a3 3 = v' → (∃ σ2, Drop st3 σ2 ∧ OwnSl (σ1.set b (pr T (mustP T s2 [41]))) σ2 v' XS' 12) → Q (.exit 0) a3 st3) → B Q a2 st' := by
   intro Q s2 v' st' XS' a2 hf2 ⟨σd, hdd, hO2⟩ h02 h32 hgo hend
   rw [hB]
   have hb2 : st' b = pr T s2 := hdd.had (hO2.at (x := b) (ASt.set_same _ _ _))
   have hac := paccept_ok hT.ends hf2 hT.len [44] hb2
   have hmu := pmust_ok hT.ends hf2 hT.len [41] hb2
   simp (disch := first | assumption | omega) only [go_sem, ↓reduceIte, h02]
   refine hac.mono ?_
   rintro w σ2 ⟨rfl, rfl⟩
   by_cases h44 : isOp T s2 [44] = true
   ·rw [h44, if_pos rfl]
    simp (disch := first | assumption | omega) only [go_sem, ↓reduceIte]
    refine hgo _ _ h44 (by simp (disch := first | assumption | omega) only [go_sem, reduceCtorEq, ↓reduceIte, h02]) (by simp (disch := first | assumption | omega) only [go_sem, Nat.reduceEqDiff, ↓reduceIte, h32]) ?_
    have := hO2.put (ASt.set_same σ1 b (pr T s2) : _ = some _) (pr T s2.next)
    rw [ASt.set_set] at this
    exact ⟨_, hdd.set_cong, this⟩
   ·have h44' : isOp T s2 [44] = false := by simpa using h44
    rw [h44', if_neg (by simp)]
    simp (disch := first | assumption | omega) only [go_sem, reduceCtorEq, ↓reduceIte, h02]
    refine hmu.mono ?_
    rintro w σ2 ⟨rfl, rfl⟩
    simp (disch := first | assumption | omega) only [go_sem]
    refine hend _ _ h44' (by simp (disch := first | assumption | omega) only [go_sem, Nat.reduceEqDiff, ↓reduceIte, h32]) ?_
    have := hO2.put (ASt.set_same σ1 b (pr T s2) : _ = some _) (pr T (mustP T s2 [41]))
    rw [ASt.set_set] at this
    exact ⟨_, hdd.set_cong, this⟩
  have more : ∀ (x : Nd) (s2 : PSt) (X : AV), X.cells.length = 12 → Go.A.deep X = x.av → (if isOp T s2 [44] = true then aloopP T f'' (l ++ [x]) s2.next else some (l ++ [x], mustP T s2 [41])) = some r → Fit T s2 → s'.i ≤ s2.i → ∀ (v' : AV) (st' : ASt) (a2 : AFr), (∃ σ2, Drop st' σ2 ∧ OwnSl (σ1.set b (pr T s2)) σ2 v' (XS ++ [X]) 12) → a2 0 = .ptr b 0 → a2 3 = v' →
    B (BlockQ 1 (LoopQ (Again (fun (q : Nat × List Nd × PSt) a1 st => (q.1 ≤ f ∧ aloopP T q.1 q.2.1 q.2.2 = some r ∧ Fit T q.2.2 ∧ q.2.1.length ≤ q.2.2.i) ∧ a1 0 = .ptr b 0 ∧ ∃ v XS, a1 3 = v ∧ OwnSl (σ1.set b (pr T q.2.2)) st v XS 12 ∧ (∀ x ∈ XS, x.cells.length = 12) ∧ Go.A.deeps XS = q.2.1.map Nd.av) (fun q => q.1) (f'' + 1, l, s'))
     (BlockQ 0 (SeqQ F (RetQ [.t 2] fun v σ' => Go.A.deep v = .sl .shr (r.1.map Nd.av) ∧ σ' = σ1.set b (pr T r.2)))))) a2 st' := by
   intro x s2 X hX hXd hr hf2 hle v' st' a2 hO2 h02 h32
   have hxs : ∀ y ∈ XS ++ [X], y.cells.length = 12 := by
    intro y hy
    rcases List.mem_append.1 hy with hy | hy
    ·exact hx y hy
    ·simp at hy; subst hy; exact hX
   have hds : Go.A.deeps (XS ++ [X]) = (l ++ [x]).map Nd.av := by
    rw [List.map_append, ← hdl, deeps_app, deeps_cons, hXd]
    rfl
   refine behind _ s2 v' st' (XS ++ [X]) a2 hf2 hO2 h02 h32 (fun a3 st3 h44 h03 h33 hO3 => ?_) (fun a3 st3 h44 h33 hO3 => ?_)
   ·rw [if_pos h44] at hr
    have hfn := (hf2.next hT.ends (isOp_kind h44)).1
    obtain ⟨σ3, hd3, hO3⟩ := hO3
    simp (disch := first | assumption | omega) only [go_sem]
    exact ⟨(f'', l ++ [x], s2.next), by dsimp only; omega, Dr.drop hd3 ⟨⟨by dsimp only; omega, hr, hfn, by dsimp only; rw [List.length_append]; show l.length + 1 ≤ s2.i + 1; omega⟩, h03, v', XS ++ [X], h33, hO3, hxs, hds⟩⟩
   ·rw [if_neg (by simp [h44])] at hr
    injection hr with hr
    simp (disch := first | assumption | omega) only [go_sem, reduceCtorEq, ↓reduceIte]
    exact fin _ _ (XS ++ [X]) v' st3 a3 hr.symm hO3 hxs hds h33
  by_cases hmi : isOp T s' [44] = true ∨ isOp T s' [41] = true
  ·rw [if_pos hmi] at g2
   dsimp only at g2
   have hmore := more missN s' (.agg [.int .i64 23, .int .i64 0, .str [], .int .i64 0, .int .i64 0, .bool false, .bool false, .int .i64 0, .int .i64 0, .bool false, .bool false, .sl .full []]) rfl rfl g2 g3 (Nat.le_refl _)
   by_cases h44 : isOp T s' [44] = true
   ·rw [h44] at ha1
    simp (disch := first | assumption | omega) only [go_sem, reduceCtorEq, ↓reduceIte, h0, hbb', he, ←hB]
    refine ha1.mono ?_
    rintro w σ2 ⟨rfl, rfl⟩
    simp (disch := first | assumption | omega) only [go_sem, Nat.reduceEqDiff, Nat.reduceAdd, Nat.reduceLeDiff, ↓reduceIte, Bool.true_and, h3]
    refine OwnSl.app hO hx rfl rfl (by simp only [List.length_cons, List.length_nil]; omega) (by simp only [List.length_cons, List.length_nil]; omega) (by simp) fun v' σ' ⟨σ2, hd, hO2⟩ => ?_
    simp (disch := first | assumption | omega) only [go_sem, ↓reduceIte]
    refine hmore v' _ _ ⟨σ2, hd, hO2⟩ ?_ ?_
    ·simp (disch := first | assumption | omega) only [go_sem, reduceCtorEq, ↓reduceIte, h0]
    ·simp (disch := first | assumption | omega) only [go_sem, ↓reduceIte]
   ·have h44' : isOp T s' [44] = false := by simpa using h44
    have h41 : isOp T s' [41] = true := hmi.resolve_left h44
    rw [h44'] at ha1
    rw [h41] at ha2
    simp (disch := first | assumption | omega) only [go_sem, reduceCtorEq, ↓reduceIte, h0, hbb', he, ←hB]
    refine ha1.mono ?_
    rintro w σ2 ⟨rfl, rfl⟩
    simp (disch := first | assumption | omega) only [go_sem, reduceCtorEq, Nat.reduceEqDiff, ↓reduceIte, h0]
    refine ha2.mono ?_
    rintro w σ2 ⟨rfl, rfl⟩
    simp (disch := first | assumption | omega) only [go_sem, Nat.reduceEqDiff, Nat.reduceAdd, Nat.reduceLeDiff, ↓reduceIte, Bool.true_and, h3]
    refine OwnSl.app hO hx rfl rfl (by simp only [List.length_cons, List.length_nil]; omega) (by simp only [List.length_cons, List.length_nil]; omega) (by simp) fun v' σ' ⟨σ2, hd, hO2⟩ => ?_
    simp (disch := first | assumption | omega) only [go_sem, ↓reduceIte]
    refine hmore v' _ _ ⟨σ2, hd, hO2⟩ ?_ ?_
    ·simp (disch := first | assumption | omega) only [go_sem, reduceCtorEq, ↓reduceIte, h0]
    ·simp (disch := first | assumption | omega) only [go_sem, ↓reduceIte]
  ·rw [if_neg hmi] at g2
   cases h1 : betwP T f'' 0 s' with
   | none => rw [h1] at g2; cases g2
   | some r1 =>
     rw [h1] at g2
     dsimp only at g2
     have h44' : isOp T s' [44] = false := by simpa using fun h => hmi (.inl h)
     have h41' : isOp T s' [41] = false := by simpa using fun h => hmi (.inr h)
     rw [h44'] at ha1
     rw [h41'] at ha2
     have hw := (hwent f'').betw _ _ _ h1 g3
     have hcb := (ih f'' (by omega)).betw b 0 s' r1 (by omega) h1 g3 _ hVs hbb
     rw [show ((0 : Nat) : Int) = 0 from rfl] at hcb
     obtain ⟨x1, s2⟩ := r1
     dsimp only at g2 hw hcb
     have hmore := more x1 s2 x1.av (Nd.av_len x1) (Nd.deep x1) g2 hw.fit hw.le
     have hO1 := hO.put (ASt.set_same σ1 b (pr T s') : _ = some _) (pr T s2)
     rw [ASt.set_set] at hO1
     obtain ⟨o, m, t, x, y, ks⟩ := x1
     rw [Nd.av_cs] at hmore hcb
     generalize ks.map Nd.av = KL at *
     simp (disch := first | assumption | omega) only [go_sem, reduceCtorEq, ↓reduceIte, h0, hbb', he, ←hB]
     refine ha1.mono ?_
     rintro w σ2 ⟨rfl, rfl⟩
     simp (disch := first | assumption | omega) only [go_sem, reduceCtorEq, Nat.reduceEqDiff, ↓reduceIte, h0]
     refine ha2.mono ?_
     rintro w σ2 ⟨rfl, rfl⟩
     simp (disch := first | assumption | omega) only [go_sem, reduceCtorEq, Nat.reduceEqDiff, ↓reduceIte, h0, h3]
     refine hcb.mono ?_
     rintro w σ2 ⟨rfl, rfl⟩
     simp (disch := first | assumption | omega) only [go_sem, Nat.reduceEqDiff, ↓reduceIte, Bool.true_and]
     refine OwnSl.app hO1 hx rfl rfl (by simp only [List.length_cons, List.length_nil]; omega) (by simp only [List.length_cons, List.length_nil]; omega) (by simp) fun v' σ' ⟨σ2, hd, hO2⟩ => ?_
     simp (disch := first | assumption | omega) only [go_sem, ↓reduceIte]
     refine hmore v' _ _ ⟨σ2, hd, hO2⟩ ?_ ?_
     ·simp (disch := first | assumption | omega) only [go_sem, reduceCtorEq, ↓reduceIte, h0]
     ·simp (disch := first | assumption | omega) only [go_sem, ↓reduceIte]
 ·rw [if_pos he] at g2
  injection g2 with g2
  simp (disch := first | assumption | omega) only [go_sem, ↓reduceIte, h0, hbb', he]
  exact fin l s' XS v st _ g2.symm ⟨st, Drop.refl _, hO⟩ hx hdl (by simp (disch := first | assumption | omega) only [go_sem, Nat.reduceEqDiff, ↓reduceIte, h3])
end Go.A
namespace Go.A
open Go.Proofs
/-! 115: (*tabular/parse.parser).name -/
def c115_0 : ACode := .ops [
 ⟨some 3, none, .e (.box (.t 1)), []⟩,
 ⟨some 4, none, .e (.alloc [(.int .i64 0), (.int .i64 0), (.str []), (.int .i64 0), (.int .i64 0), (.bool false), (.bool false), (.int .i64 0), (.int .i64 0), (.bool false), (.bool false), (.sl .full [])]), []⟩]
def c115_1 : ACode := .ops [
 ⟨some 7, none, .q (.mv (.t 0)), []⟩,
 ⟨some 8, none, .q (.nc (.t 7)), []⟩,
 ⟨some 9, none, .q (.fa 0 (.t 8)), []⟩,
 ⟨some 10, none, .q (.ld none (.t 9)), []⟩,
 ⟨some 11, none, .q (.mv (.t 0)), []⟩,
 ⟨some 12, none, .q (.nc (.t 11)), []⟩,
 ⟨some 13, none, .q (.fa 1 (.t 12)), []⟩,
 ⟨some 14, none, .q (.ld none (.t 13)), []⟩,
 ⟨some 15, none, .q (.bin .add (.t 14) (.v (.int .i64 1))), []⟩,
 ⟨some 16, none, .q (.ia 4 (.t 10) (.t 15)), []⟩,
 ⟨some 17, none, .q (.ld (some 4) (.t 16)), []⟩,
 ⟨some 5, none, .e (.alloc [(.int .i64 0), (.str []), (.int .i64 0), (.int .i64 0)]), [⟨none, .ld none (.t 9), 10⟩, ⟨none, .ld none (.t 13), 14⟩, ⟨none, .ld (some 4) (.t 16), 17⟩]⟩,
 ⟨none, none, .e (.store 4 (.t 5) (.t 17)), []⟩]
def c115_2 : ACode := .ops [
 ⟨some 18, none, .q (.fa 0 (.t 5)), []⟩,
 ⟨some 19, none, .q (.ld none (.t 18)), []⟩,
 ⟨some 20, none, .q (.bin .eql (.t 19) (.v (.int .i64 6))), []⟩,
 ⟨some 21, none, .q (.mv (.t 20)), []⟩,
 ⟨some 22, some (21, true), .q (.fa 1 (.t 5)), []⟩,
 ⟨some 23, some (21, true), .q (.ld none (.t 22)), []⟩,
 ⟨some 24, some (21, true), .q (.bin .eql (.t 23) (.v (.str [40]))), []⟩,
 ⟨some 25, none, .q (.pick (.t 21) (.t 24) (.v (.bool false))), []⟩]
def c115_3 : ACode := .ops [
 ⟨some 26, none, .q (.mv (.t 0)), []⟩,
 ⟨some 27, none, .e (.call 70 [(.t 26)]), []⟩]
def c115_4 : ACode := .ops [
 ⟨some 29, none, .q (.mv (.t 0)), []⟩,
 ⟨some 30, none, .q (.nc (.t 29)), []⟩,
 ⟨some 31, none, .q (.fa 3 (.t 30)), []⟩,
 ⟨some 32, none, .q (.ld none (.t 31)), []⟩,
 ⟨some 33, none, .q (.bin .neq (.t 32) (.v (.int .i64 0))), []⟩]
def c115_5 : ACode := .ops [
 ⟨some 34, none, .q (.build [(.int .i64 0), (.int .i64 0), (.str []), (.int .i64 0), (.int .i64 0), (.bool false), (.bool false), (.int .i64 0), (.int .i64 0), (.bool false), (.bool false), (.sl .full [])] []), []⟩,
 ⟨none, none, .e (.store 12 (.t 4) (.t 34)), []⟩]
def c115_6 : ACode := .seq c115_5 .ret
def c115_7 : ACode := .cond (.t 33) c115_6 .skip
def c115_8 : ACode := .seq c115_4 c115_7
def c115_9 : ACode := .ops [
 ⟨some 35, none, .q (.mv (.t 0)), []⟩,
 ⟨some 36, none, .q (.nc (.t 35)), []⟩,
 ⟨some 37, none, .q (.fa 1 (.t 36)), []⟩,
 ⟨some 38, none, .q (.ld none (.t 37)), []⟩,
 ⟨some 39, none, .q (.bin .add (.t 38) (.v (.int .i64 2))), []⟩,
 ⟨some 40, none, .q (.nc (.t 35)), []⟩,
 ⟨some 41, none, .q (.fa 1 (.t 40)), []⟩,
 ⟨none, none, .e (.store 1 (.t 41) (.t 39)), []⟩]
def c115_10 : ACode := .ops [
 ⟨some 42, none, .q (.fa 1 (.t 3)), []⟩,
 ⟨some 43, none, .q (.ld none (.t 42)), []⟩,
 ⟨some 44, none, .q (.mv (.t 0)), []⟩,
 ⟨some 45, none, .e (.call 132 [(.t 44)]), [⟨none, .ld none (.t 42), 43⟩]⟩,
 ⟨some 46, none, .q (.build [(.int .i64 0), (.int .i64 0), (.str []), (.int .i64 0), (.int .i64 0), (.bool false), (.bool false), (.int .i64 0), (.int .i64 0), (.bool false), (.bool false), (.sl .full [])] [(0, 1, (.v (.int .i64 22))), (2, 1, (.t 43)), (11, 1, (.t 45))]), []⟩,
 ⟨none, none, .e (.store 12 (.t 4) (.t 46)), []⟩]
def c115_11 : ACode := .seq c115_10 .ret
def c115_12 : ACode := .seq c115_9 c115_11
def c115_13 : ACode := .seq c115_8 c115_12
def c115_14 : ACode := .dfr 71 (.t 0) 28 c115_13
def c115_15 : ACode := .seq c115_3 c115_14
def c115_16 : ACode := .cond (.t 25) c115_15 .skip
def c115_17 : ACode := .seq c115_2 c115_16
def c115_18 : ACode := .ops [
 ⟨some 47, none, .q (.build [(.int .i64 0), (.int .i64 0), (.str []), (.int .i64 0), (.int .i64 0), (.bool false), (.bool false), (.int .i64 0), (.int .i64 0), (.bool false), (.bool false), (.sl .full [])] [(0, 1, (.v (.int .i64 3)))]), []⟩,
 ⟨some 6, none, .e (.alloc [(.int .i64 0), (.int .i64 0), (.str []), (.int .i64 0), (.int .i64 0), (.bool false), (.bool false), (.int .i64 0), (.int .i64 0), (.bool false), (.bool false), (.sl .full [])]), []⟩,
 ⟨none, none, .e (.store 12 (.t 6) (.t 47)), []⟩]
def c115_19 : ACode := .ops [
 ⟨some 48, none, .q (.fa 1 (.t 3)), []⟩,
 ⟨some 49, none, .q (.ld none (.t 48)), []⟩]
def c115_20 : ACode := .ops [
 ⟨some 53, none, .q (.bin .eql (.t 49) (.v (.str [84, 82, 85, 69]))), []⟩,
 ⟨some 52, none, .q (.mv (.t 53)), []⟩]
def c115_21 : ACode := .ops [
 ⟨some 54, none, .q (.fa 1 (.t 6)), []⟩,
 ⟨none, none, .e (.store 1 (.t 54) (.v (.int .i64 1))), []⟩]
def c115_22 : ACode := .ops [
 ⟨some 56, none, .q (.bin .eql (.t 49) (.v (.str [70, 65, 76, 83, 69]))), []⟩,
 ⟨some 55, none, .q (.mv (.t 56)), []⟩]
def c115_23 : ACode := .ops [
 ⟨some 50, none, .q (.mv (.t 0)), []⟩,
 ⟨some 51, none, .e (.call 30 [(.t 50), (.v (.int .i64 10))]), []⟩,
 ⟨none, none, .e (.store 12 (.t 4) (.t 51)), []⟩]
def c115_24 : ACode := .seq c115_23 .ret
def c115_25 : ACode := .cond (.t 55) .skip c115_24
def c115_26 : ACode := .seq c115_22 c115_25
def c115_27 : ACode := .cond (.t 52) c115_21 c115_26
def c115_28 : ACode := .seq c115_20 c115_27
def c115_29 : ACode := .block 0 c115_28
def c115_30 : ACode := .seq c115_19 c115_29
def c115_31 : ACode := .ops [
 ⟨some 57, none, .q (.mv (.t 0)), []⟩,
 ⟨some 58, none, .q (.nc (.t 57)), []⟩,
 ⟨some 59, none, .q (.fa 1 (.t 58)), []⟩,
 ⟨some 60, none, .q (.ld none (.t 59)), []⟩,
 ⟨some 61, none, .q (.bin .add (.t 60) (.v (.int .i64 1))), []⟩,
 ⟨some 62, none, .q (.nc (.t 57)), []⟩,
 ⟨some 63, none, .q (.fa 1 (.t 62)), []⟩,
 ⟨none, none, .e (.store 1 (.t 63) (.t 61)), []⟩]
def c115_32 : ACode := .ops [
 ⟨some 64, none, .q (.ld (some 12) (.t 6)), []⟩,
 ⟨none, none, .e (.store 12 (.t 4) (.t 64)), []⟩]
def c115_33 : ACode := .seq c115_32 .ret
def c115_34 : ACode := .seq c115_31 c115_33
def c115_35 : ACode := .seq c115_30 c115_34
def c115_36 : ACode := .seq c115_18 c115_35
def c115_37 : ACode := .seq c115_17 c115_36
def c115_38 : ACode := .seq c115_1 c115_37
def c115_39 : ACode := .seq c115_0 c115_38
@[go_sem] def c115_0_wp := wp_of c115_0.eq_1
@[go_sem] def c115_1_wp := wp_of c115_1.eq_1
@[go_sem] def c115_2_wp := wp_of c115_2.eq_1
@[go_sem] def c115_3_wp := wp_of c115_3.eq_1
@[go_sem] def c115_4_wp := wp_of c115_4.eq_1
@[go_sem] def c115_5_wp := wp_of c115_5.eq_1
@[go_sem] def c115_6_wp := wp_of c115_6.eq_1
@[go_sem] def c115_7_wp := wp_of c115_7.eq_1
@[go_sem] def c115_8_wp := wp_of c115_8.eq_1
@[go_sem] def c115_9_wp := wp_of c115_9.eq_1
@[go_sem] def c115_10_wp := wp_of c115_10.eq_1
@[go_sem] def c115_11_wp := wp_of c115_11.eq_1
@[go_sem] def c115_12_wp := wp_of c115_12.eq_1
@[go_sem] def c115_13_wp := wp_of c115_13.eq_1
@[go_sem] def c115_14_wp := wp_of c115_14.eq_1
@[go_sem] def c115_15_wp := wp_of c115_15.eq_1
@[go_sem] def c115_16_wp := wp_of c115_16.eq_1
@[go_sem] def c115_17_wp := wp_of c115_17.eq_1
@[go_sem] def c115_18_wp := wp_of c115_18.eq_1
@[go_sem] def c115_19_wp := wp_of c115_19.eq_1
@[go_sem] def c115_20_wp := wp_of c115_20.eq_1
@[go_sem] def c115_21_wp := wp_of c115_21.eq_1
@[go_sem] def c115_22_wp := wp_of c115_22.eq_1
@[go_sem] def c115_23_wp := wp_of c115_23.eq_1
@[go_sem] def c115_24_wp := wp_of c115_24.eq_1
@[go_sem] def c115_25_wp := wp_of c115_25.eq_1
@[go_sem] def c115_26_wp := wp_of c115_26.eq_1
@[go_sem] def c115_27_wp := wp_of c115_27.eq_1
@[go_sem] def c115_28_wp := wp_of c115_28.eq_1
@[go_sem] def c115_29_wp := wp_of c115_29.eq_1
@[go_sem] def c115_30_wp := wp_of c115_30.eq_1
@[go_sem] def c115_31_wp := wp_of c115_31.eq_1
@[go_sem] def c115_32_wp := wp_of c115_32.eq_1
@[go_sem] def c115_33_wp := wp_of c115_33.eq_1
@[go_sem] def c115_34_wp := wp_of c115_34.eq_1
@[go_sem] def c115_35_wp := wp_of c115_35.eq_1
@[go_sem] def c115_36_wp := wp_of c115_36.eq_1
@[go_sem] def c115_37_wp := wp_of c115_37.eq_1
@[go_sem] def c115_38_wp := wp_of c115_38.eq_1
@[go_sem] def c115_39_wp := wp_of c115_39.eq_1
def c115 : AFn := ⟨65, [.c 4 (some 12)], c115_39⟩
theorem c115_ok : compF Tryz.prog Tryz.f115 = some c115 := by kernel_rfl
theorem a115 {args : List AV} {σ : ASt} {R : AV → ASt → Prop} (hl : args.length ≤ 65) (h : c115_39.wp Tryz.prog (RetQ [.c 4 (some 12)] R) (init args) σ) : ACalls Tryz.prog 115 args σ R := acalls_of Tryz.func115 c115_ok hl h
end Go.A
namespace Go.A
open Go.Proofs Go.Lib
set_option maxHeartbeats 4000000 in
theorem name_walk {T : List Tok} (hT : TokOk T) (f : Nat) (ih : ∀ f', f' < f + 1 → WalkF T f') (b : Nat) (s : PSt) (r : Nd × PSt) (h : nameP T (f + 1) s = some r) (hf : Fit T s) (hk3 : (curT T s).kind = 3) (σ : ASt) (hV : LV σ) (hb : σ b = pr T s) :
  ACalls Tryz.prog 115 [.ptr b 0, tokAV (curT T s)] σ fun v σ' => v = r.1.av ∧ σ' = σ.set b (pr T r.2) := by
 rw [nameP] at h
 have hwent := wentF hT.ends
 have he0 : s.err = 0 := cur_err (T := T) (by omega)
 have hn := (hf.next hT.ends (by omega)).1
 have hni : s.i + 1 < T.length := hn.i
 have hlen := hT.len
 have hil := hf.i
 have hget : (T.map tokAV)[s.i + 1]? = some (.agg [.int .i64 (T.getD (s.i + 1) endT).kind, .str (T.getD (s.i + 1) endT).text, .int .i64 (T.getD (s.i + 1) endT).at', .int .i64 (T.getD (s.i + 1) endT).col]) := tok_get hni
 have hTL : (T.map tokAV).length = T.length := by simp
 have hge2 := hT.ends.more (s.i + 1) hni
 have hpr : ∀ x : PSt, pr T x = some (.obj [.sl .shr (T.map tokAV), .int .i64 x.i, .int .i64 x.deep, .int .i64 x.err, .int .i64 x.bad]) := fun x => rfl
 have hcur := hk3
 generalize hct : curT T s = tk at *
 generalize hN : T.getD (s.i + 1) endT = tn at *
 have htv : tokAV tk = .agg [.int .i64 tk.kind, .str tk.text, .int .i64 tk.at', .int .i64 tk.col] := rfl
 rw [htv]
 obtain ⟨TC, hTC⟩ : ∃ TC, ([.int .i64 tk.kind, .str tk.text, .int .i64 tk.at', .int .i64 tk.col] : List AV) = TC := ⟨_, rfl⟩
 have hbn : σ b ≠ none := (pr_fix hb).2
 refine a115 (by simp) ?_
 simp (disch := first | assumption | omega) only [go_sem]
 refine boxC_by rfl fun c hc => ?_
 have hbc : b ≠ c := by rintro rfl; exact hbn hc
 have hbσ : (σ.set c (some (.obj [.int .i64 tk.kind, .str tk.text, .int .i64 tk.at', .int .i64 tk.col]))) b = pr T s := by rw [ASt.set_ne hbc]; exact hb
 have hVσ : LV (σ.set c (some (.obj [.int .i64 tk.kind, .str tk.text, .int .i64 tk.at', .int .i64 tk.col]))) := by
  unfold LV at hV ⊢
  rw [ASt.set_ne]
  ·exact hV
  ·rintro e; rw [← e, hV] at hc; cases hc
 have hcσ : (σ.set c (some (.obj [.int .i64 tk.kind, .str tk.text, .int .i64 tk.at', .int .i64 tk.col]))) c = some (.obj [.int .i64 tk.kind, .str tk.text, .int .i64 tk.at', .int .i64 tk.col]) := ASt.set_same _ _ _
 have hDσ : ∀ X : Option Role, Drop ((σ.set c (some (.obj [.int .i64 tk.kind, .str tk.text, .int .i64 tk.at', .int .i64 tk.col]))).set b X) (σ.set b X) := fun X => by
  rw [set_swap (Ne.symm hbc)]
  exact Drop.set (by rw [ASt.set_ne (Ne.symm hbc)]; exact hc)
 simp (disch := first | assumption | omega) only [go_sem]
 refine allocC_by fun d hd => ?_
 generalize hρ : σ.set c (some (.obj [.int .i64 tk.kind, .str tk.text, .int .i64 tk.at', .int .i64 tk.col])) = ρ at *
 obtain ⟨hbd, T2, S2⟩ := St2.of hd (pr_fix hbσ).1 (pr_fix hbσ).2
 have hcd : c ≠ d := by rintro rfl; rw [hcσ] at hd; cases hd
 rw [S2.one, hbσ]
 have q1 := fun Y => S2.a1 (pr T s) Y
 rw [hpr s] at q1
 have e1 : ((s.i : Int) + 1).toNat = s.i + 1 := by omega
 have e2 : ((s.i : Int) + 1) < T.length := by omega
 rw [hpr s]
 simp (disch := first | assumption | omega) only [go_sem, reduceCtorEq, Nat.reduceEqDiff, Nat.reduceAdd, Nat.reduceLeDiff, ↓reduceIte, q1, hget, e1]
 refine allocC_by fun g hg => ?_
 obtain ⟨hbg, hdg, T3, S3⟩ := St3.of S2 (X0 := .obj _) hg
 have ab := S3.ab
 have k3 := S3.s3
 have k2 := S3.s2
 have k1 := S3.s1
 have w3 := S3.a3
 have w2 := S3.a2
 have w1 := S3.a1
 have hcg : c ≠ g := by
  rintro rfl
  rw [S2.other _ _ _ (Ne.symm hbc) hcd, hcσ] at hg
  cases hg
 have wc : ∀ X Y Z, T3 X Y Z c = some (.obj [.int .i64 tk.kind, .str tk.text, .int .i64 tk.at', .int .i64 tk.col]) := fun X Y Z => by rw [S3.other _ _ _ _ (Ne.symm hbc) hcd hcg]; exact hcσ
 have V3 : ∀ X Y Z, LV (T3 X Y Z) := fun X Y Z => S3.fix _ _ _ _ _ hVσ
 have hDr : ∀ X Y Z, Drop (T3 X Y Z) (σ.set b X) := fun X Y Z => (S3.drop _ _ _).trans (hDσ _)
 have w1' := fun Y Z => w1 (pr T s) Y Z
 rw [hpr s] at w1'
 simp (disch := first | assumption | omega) only [go_sem, Nat.reduceEqDiff, Nat.reduceAdd, Nat.reduceLeDiff, ↓reduceIte, Bool.true_and, ab, k3, w3, w1']
 rw [← hpr s]
 by_cases hop : tn.kind = 6 ∧ tn.text = [40]
 ·rw [if_pos hop] at h
  obtain ⟨hp1, hp2⟩ := hop
  obtain ⟨g1, g2, g3⟩ := enter_err hT.ends hf he0
  have hen := fun Y Z => penter_ok (T := T) (s := s) hf.i ⟨hf.d0, by have := hf.d1; omega⟩ (w1 (pr T s) Y Z)
  have g4 := fun he => enter2 hT.ends hf (by rw [hct, hcur]; decide) he
  simp (disch := first | assumption | omega) only [go_sem, reduceCtorEq, Nat.reduceEqDiff, ↓reduceIte, hp1, hp2, w3]
  refine (hen _ _).mono ?_
  rintro v σ1 ⟨rfl, rfl⟩
  rw [k1]
  generalize hE : enterP T s = sE at *
  by_cases he : sE.err = 0
  ·rw [if_neg (by simp [he])] at h
   cases h1 : argsP T f sE.next.next with
   | none => rw [h1] at h; cases h
   | some r1 =>
     rw [h1] at h
     injection h with h
     subst h
     obtain ⟨f1, f2, f3, f4⟩ := g4 he
     have hl2 := hge2 (by omega)
     have f5 : Fit T sE.next.next := ⟨by show sE.i + 1 + 1 < _; omega, f1.d0, f1.d1, f1.d2⟩
     have hw := (hwent f).args _ _ h1 f5
     have har := fun Y Z => (ih f (by omega)).args b _ r1 h1 f5 _ (V3 (pr T sE.next.next) Y Z) (w1 _ _ _)
     have hlv := fun Y Z => pleave_ok (T := T) (s := r1.2) ⟨hw.fit.d0, by have := hw.fit.d1; omega⟩ (w1 (pr T r1.2) Y Z)
     have hpn : some (Role.obj [.sl .shr (T.map tokAV), .int .i64 ((sE.i : Int) + 2), .int .i64 sE.deep, .int .i64 0, .int .i64 sE.bad]) = pr T sE.next.next := by
      rw [hpr]
      show _ = some (Role.obj [.sl .shr (T.map tokAV), .int .i64 (((sE.i + 1 + 1 : Nat)) : Int), .int .i64 sE.deep, .int .i64 sE.err, .int .i64 sE.bad])
      rw [he, show (((sE.i + 1 + 1 : Nat)) : Int) = (sE.i : Int) + 2 by omega]
     have v1 := fun Y Z => w1 (pr T sE) Y Z
     rw [hpr sE, he] at v1
     have hEi : (sE.i : Int) ≤ 1000000 := by omega
     obtain ⟨L, s1⟩ := r1
     dsimp only at har hlv ⊢
     rw [hpr sE, he]
     simp (disch := first | assumption | omega) only [go_sem, reduceCtorEq, Nat.reduceEqDiff, Nat.reduceAdd, Nat.reduceLeDiff, ↓reduceIte, Bool.true_and, v1, k1]
     rw [hpn]
     simp (disch := first | assumption | omega) only [go_sem, reduceCtorEq, ↓reduceIte, wc]
     refine (har _ _).mono ?_
     rintro v σ1 ⟨rfl, rfl⟩
     rw [k1]
     simp (disch := first | assumption | omega) only [go_sem, Nat.reduceEqDiff, Nat.reduceAdd, Nat.reduceLeDiff, ↓reduceIte, Bool.true_and, wc, w2, k2]
     refine (hlv _ _).mono ?_
     rintro v σ1 ⟨rfl, rfl⟩
     rw [k1]
     simp (disch := first | assumption | omega) only [go_sem, Nat.reduceAdd, Nat.reduceLeDiff, ↓reduceIte, w2]
     rw [Nd.av_cs]
     exact retC_by (hDr _ _ _) (fzN 22 0 tk.text .zero .zero _ _) ⟨rfl, rfl⟩
  ·rw [if_pos he] at h
   injection h with h
   subst h
   have hlv := fun Y Z => pleave_ok (T := T) (s := sE) ⟨g1.d0, by have := g1.d1; omega⟩ (w1 (pr T sE) Y Z)
   have v1 : ∀ Y Z, T3 (pr T sE) Y Z b = some (.obj [.sl .shr (T.map tokAV), .int .i64 sE.i, .int .i64 sE.deep, .int .i64 sE.err, .int .i64 sE.bad]) := fun Y Z => w1 _ _ _
   simp (disch := first | assumption | omega) only [go_sem, reduceCtorEq, Nat.reduceEqDiff, Nat.reduceAdd, Nat.reduceLeDiff, ↓reduceIte, Bool.true_and, v1, he, w2, k2]
   refine (hlv _ _).mono ?_
   rintro v σ1 ⟨rfl, rfl⟩
   rw [k1]
   simp (disch := first | assumption | omega) only [go_sem, Nat.reduceAdd, Nat.reduceLeDiff, ↓reduceIte, w2]
   rw [zN_av]
   exact retC_by (hDr _ _ _) (fzN 0 0 [] .zero .zero _ _) ⟨rfl, rfl⟩
 ·rw [if_neg hop] at h
  have hpn : some (Role.obj [.sl .shr (T.map tokAV), .int .i64 ((s.i : Int) + 1), .int .i64 s.deep, .int .i64 s.err, .int .i64 s.bad]) = pr T s.next := rfl
  have hfl := fun τ hh => pfail_ok (T := T) (s := s) hf.i 10 (σ := τ) (b := b) hh
  have rest : ∀ a1 : AFr, (a1 0 = .ptr b 0 ∧ a1 3 = .ptr c 0 ∧ a1 4 = .ptr d 0) → ACode.wp Tryz.prog c115_36 (RetQ [.c 4 (some 12)] fun v σ' => v = r.1.av ∧ σ' = σ.set b (pr T r.2)) a1 (T3 (pr T s) (some (.obj zero12)) (some (.obj [.int .i64 tn.kind, .str tn.text, .int .i64 tn.at', .int .i64 tn.col]))) := by
   intro a1 hf1
   unfold zero12
   simp (disch := first | assumption | omega) only [go_sem, Nat.reduceAdd, Nat.reduceLeDiff, ↓reduceIte]
   refine allocC_by fun e he => ?_
   obtain ⟨T4, S4⟩ := St4.of S3 (X0 := .obj _) he
   have ab4 := S4.ab
   have m1 := S4.s1
   have m2 := S4.s2
   have m4 := S4.s4
   have p1 := S4.a1
   have p2 := S4.a2
   have p4 := S4.a4
   have hce : c ≠ e := by rintro rfl; rw [wc] at he; cases he
   have pc : ∀ X Y Z W, T4 X Y Z W c = some (.obj [.int .i64 tk.kind, .str tk.text, .int .i64 tk.at', .int .i64 tk.col]) := fun X Y Z W => by rw [← ab4, ASt.set_ne hce]; exact wc _ _ _
   have hDr4 : ∀ X Y Z W, Drop (T4 X Y Z W) (σ.set b X) := fun X Y Z W => (S4.drop _ _ _ _).trans (hDσ _)
   have v1 := fun Y Z W => p1 (pr T s) Y Z W
   rw [hpr s] at v1
   by_cases t1 : tk.text = [84, 82, 85, 69]
   ·rw [if_pos t1] at h
    injection h with h
    subst h
    rw [t1] at pc
    rw [hpr s]
    simp (disch := first | assumption | omega) only [go_sem, reduceCtorEq, Nat.reduceEqDiff, Nat.reduceAdd, Nat.reduceLeDiff, ↓reduceIte, Bool.true_and, hf1, ab4, m4, p4, pc, v1, m1]
    rw [hpn]
    simp (disch := first | assumption | omega) only [go_sem, Nat.reduceEqDiff, Nat.reduceAdd, Nat.reduceLeDiff, ↓reduceIte, Bool.true_and, hf1, p2, m2]
    rw [Nd.av_cs]
    exact retC_by (hDr4 _ _ _ _) (fzN 3 1 [] .zero .zero _ _) ⟨rfl, rfl⟩
   rw [if_neg t1] at h
   by_cases t2 : tk.text = [70, 65, 76, 83, 69]
   ·rw [if_pos t2] at h
    injection h with h
    subst h
    have t3 : ¬ ([70, 65, 76, 83, 69] : List UInt8) = [84, 82, 85, 69] := by decide
    rw [hpr s]
    simp (disch := first | assumption | omega) only [go_sem, reduceCtorEq, Nat.reduceEqDiff, Nat.reduceAdd, Nat.reduceLeDiff, ↓reduceIte, Bool.true_and, hf1, ab4, m4, p4, pc, t2, t3, v1, m1]
    rw [hpn]
    simp (disch := first | assumption | omega) only [go_sem, Nat.reduceEqDiff, Nat.reduceAdd, Nat.reduceLeDiff, ↓reduceIte, Bool.true_and, hf1, p2, m2]
    rw [Nd.av_cs]
    exact retC_by (hDr4 _ _ _ _) (fzN 3 0 [] .zero .zero _ _) ⟨rfl, rfl⟩
   rw [if_neg t2] at h
   injection h with h
   subst h
   simp (disch := first | assumption | omega) only [go_sem, reduceCtorEq, Nat.reduceEqDiff, Nat.reduceAdd, Nat.reduceLeDiff, ↓reduceIte, Bool.true_and, hf1, ab4, m4, p4, pc, t1, t2]
   refine (hfl _ (p1 _ _ _ _)).mono ?_
   rintro v σ1 ⟨rfl, rfl⟩
   rw [m1, zN_av, zN_cells]
   simp (disch := first | assumption | omega) only [go_sem, Nat.reduceEqDiff, Nat.reduceAdd, Nat.reduceLeDiff, ↓reduceIte, Bool.true_and, hf1, p2, m2]
   exact retC_by (hDr4 _ _ _ _) (.refl _) ⟨rfl, rfl⟩
  obtain ⟨F, hF⟩ : ∃ F, F = ACode.wp Tryz.prog c115_36 := ⟨_, rfl⟩
  rw [← hF] at rest
  unfold zero12 at rest
  by_cases hp1 : tn.kind = 6
  ·have hp2 : ¬ tn.text = [40] := fun h2 => hop ⟨hp1, h2⟩
   rw [hp1] at rest
   simp (disch := first | assumption | omega) only [go_sem, Nat.reduceEqDiff, ↓reduceIte, w3, hp1, hp2, ←hF]
   refine rest _ ?_
   simp (disch := first | assumption | omega) only [go_sem, reduceCtorEq, Nat.reduceEqDiff, ↓reduceIte]
  ·simp (disch := first | assumption | omega) only [go_sem, Nat.reduceEqDiff, ↓reduceIte, hp1, ←hF]
   refine rest _ ?_
   simp (disch := first | assumption | omega) only [go_sem, reduceCtorEq, Nat.reduceEqDiff, ↓reduceIte]
end Go.A
namespace Go.A
open Go.Proofs
/-! 95: (*tabular/parse.parser).primary -/
def c95_0 : ACode := .ops [
 ⟨some 2, none, .e (.alloc [(.int .i64 0), (.int .i64 0), (.str []), (.int .i64 0), (.int .i64 0), (.bool false), (.bool false), (.int .i64 0), (.int .i64 0), (.bool false), (.bool false), (.sl .full [])]), []⟩]
def c95_1 : ACode := .ops [
 ⟨some 7, none, .q (.mv (.t 0)), []⟩,
 ⟨some 8, none, .e (.call 29 [(.t 7)]), []⟩,
 ⟨some 3, none, .e (.alloc [(.int .i64 0), (.str []), (.int .i64 0), (.int .i64 0)]), []⟩,
 ⟨none, none, .e (.store 4 (.t 3) (.t 8)), []⟩]
def c95_2 : ACode := .ops [
 ⟨some 9, none, .q (.fa 0 (.t 3)), []⟩,
 ⟨some 10, none, .q (.ld none (.t 9)), []⟩]
def c95_3 : ACode := .ops [
 ⟨some 12, none, .q (.bin .eql (.t 10) (.v (.int .i64 1))), []⟩,
 ⟨some 11, none, .q (.mv (.t 12)), []⟩]
def c95_4 : ACode := .ops [
 ⟨some 14, none, .q (.fa 1 (.t 3)), []⟩,
 ⟨some 15, none, .q (.ld none (.t 14)), []⟩,
 ⟨some 16, none, .e (.call 113 [(.t 15)]), []⟩,
 ⟨some 13, none, .q (.mv (.t 16)), []⟩,
 ⟨some 17, none, .q (.ext 0 (.t 13)), []⟩,
 ⟨some 18, none, .q (.ext 1 (.t 13)), []⟩,
 ⟨some 4, none, .q (.mv (.t 17)), []⟩,
 ⟨some 5, none, .q (.mv (.t 18)), []⟩]
def c95_5 : ACode := .ops [
 ⟨some 19, none, .q (.mv (.t 5)), []⟩,
 ⟨some 20, none, .q (.un .not (.t 19)), []⟩]
def c95_6 : ACode := .ops [
 ⟨some 21, none, .q (.mv (.t 0)), []⟩,
 ⟨some 22, none, .e (.call 30 [(.t 21), (.v (.int .i64 10))]), []⟩,
 ⟨none, none, .e (.store 12 (.t 2) (.t 22)), []⟩]
def c95_7 : ACode := .seq c95_6 .ret
def c95_8 : ACode := .cond (.t 20) c95_7 .skip
def c95_9 : ACode := .seq c95_5 c95_8
def c95_10 : ACode := .ops [
 ⟨some 23, none, .q (.mv (.t 0)), []⟩,
 ⟨some 24, none, .q (.nc (.t 23)), []⟩,
 ⟨some 25, none, .q (.fa 1 (.t 24)), []⟩,
 ⟨some 26, none, .q (.ld none (.t 25)), []⟩,
 ⟨some 27, none, .q (.bin .add (.t 26) (.v (.int .i64 1))), []⟩,
 ⟨some 28, none, .q (.nc (.t 23)), []⟩,
 ⟨some 29, none, .q (.fa 1 (.t 28)), []⟩,
 ⟨none, none, .e (.store 1 (.t 29) (.t 27)), []⟩]
def c95_11 : ACode := .ops [
 ⟨some 30, none, .q (.mv (.t 4)), []⟩,
 ⟨some 31, none, .q (.build [(.int .i64 0), (.int .i64 0), (.str []), (.int .i64 0), (.int .i64 0), (.bool false), (.bool false), (.int .i64 0), (.int .i64 0), (.bool false), (.bool false), (.sl .full [])] [(0, 1, (.v (.int .i64 1))), (1, 1, (.t 30))]), []⟩,
 ⟨none, none, .e (.store 12 (.t 2) (.t 31)), []⟩]
def c95_12 : ACode := .seq c95_11 .ret
def c95_13 : ACode := .seq c95_10 c95_12
def c95_14 : ACode := .seq c95_9 c95_13
def c95_15 : ACode := .seq c95_4 c95_14
def c95_16 : ACode := .ops [
 ⟨some 33, none, .q (.bin .eql (.t 10) (.v (.int .i64 2))), []⟩,
 ⟨some 32, none, .q (.mv (.t 33)), []⟩]
def c95_17 : ACode := .ops [
 ⟨some 34, none, .q (.mv (.t 0)), []⟩,
 ⟨some 35, none, .q (.nc (.t 34)), []⟩,
 ⟨some 36, none, .q (.fa 1 (.t 35)), []⟩,
 ⟨some 37, none, .q (.ld none (.t 36)), []⟩,
 ⟨some 38, none, .q (.bin .add (.t 37) (.v (.int .i64 1))), []⟩,
 ⟨some 39, none, .q (.nc (.t 34)), []⟩,
 ⟨some 40, none, .q (.fa 1 (.t 39)), []⟩,
 ⟨none, none, .e (.store 1 (.t 40) (.t 38)), []⟩]
def c95_18 : ACode := .ops [
 ⟨some 41, none, .q (.fa 1 (.t 3)), []⟩,
 ⟨some 42, none, .q (.ld none (.t 41)), []⟩,
 ⟨some 43, none, .q (.build [(.int .i64 0), (.int .i64 0), (.str []), (.int .i64 0), (.int .i64 0), (.bool false), (.bool false), (.int .i64 0), (.int .i64 0), (.bool false), (.bool false), (.sl .full [])] [(0, 1, (.v (.int .i64 2))), (2, 1, (.t 42))]), []⟩,
 ⟨none, none, .e (.store 12 (.t 2) (.t 43)), []⟩]
def c95_19 : ACode := .seq c95_18 .ret
def c95_20 : ACode := .seq c95_17 c95_19
def c95_21 : ACode := .ops [
 ⟨some 45, none, .q (.bin .eql (.t 10) (.v (.int .i64 5))), []⟩,
 ⟨some 44, none, .q (.mv (.t 45)), []⟩]
def c95_22 : ACode := .ops [
 ⟨some 46, none, .q (.mv (.t 0)), []⟩,
 ⟨some 47, none, .q (.nc (.t 46)), []⟩,
 ⟨some 48, none, .q (.fa 1 (.t 47)), []⟩,
 ⟨some 49, none, .q (.ld none (.t 48)), []⟩,
 ⟨some 50, none, .q (.bin .add (.t 49) (.v (.int .i64 1))), []⟩,
 ⟨some 51, none, .q (.nc (.t 46)), []⟩,
 ⟨some 52, none, .q (.fa 1 (.t 51)), []⟩,
 ⟨none, none, .e (.store 1 (.t 52) (.t 50)), []⟩]
def c95_23 : ACode := .ops [
 ⟨some 54, none, .q (.fa 1 (.t 3)), []⟩,
 ⟨some 55, none, .q (.ld none (.t 54)), []⟩,
 ⟨some 53, none, .e (.call 91 []), [⟨none, .ld none (.t 54), 55⟩]⟩,
 ⟨some 56, none, .e (.call 50 [(.t 53), (.t 55)]), []⟩,
 ⟨some 57, none, .q (.bin .add (.t 56) (.v (.int .i64 1))), []⟩,
 ⟨some 58, none, .q (.bin .mul (.t 57) (.v (.int .i64 10000))), []⟩,
 ⟨some 59, none, .q (.build [(.int .i64 0), (.int .i64 0), (.str []), (.int .i64 0), (.int .i64 0), (.bool false), (.bool false), (.int .i64 0), (.int .i64 0), (.bool false), (.bool false), (.sl .full [])] [(0, 1, (.v (.int .i64 4))), (1, 1, (.t 58))]), []⟩,
 ⟨none, none, .e (.store 12 (.t 2) (.t 59)), []⟩]
def c95_24 : ACode := .seq c95_23 .ret
def c95_25 : ACode := .seq c95_22 c95_24
def c95_26 : ACode := .ops [
 ⟨some 61, none, .q (.bin .eql (.t 10) (.v (.int .i64 4))), []⟩,
 ⟨some 60, none, .q (.mv (.t 61)), []⟩]
def c95_27 : ACode := .ops [
 ⟨some 62, none, .q (.mv (.t 0)), []⟩,
 ⟨some 63, none, .e (.call 114 [(.t 62)]), []⟩,
 ⟨none, none, .e (.store 12 (.t 2) (.t 63)), []⟩]
def c95_28 : ACode := .seq c95_27 .ret
def c95_29 : ACode := .ops [
 ⟨some 65, none, .q (.bin .eql (.t 10) (.v (.int .i64 3))), []⟩,
 ⟨some 64, none, .q (.mv (.t 65)), []⟩]
def c95_30 : ACode := .ops [
 ⟨some 66, none, .q (.mv (.t 0)), []⟩,
 ⟨some 67, none, .q (.ld (some 4) (.t 3)), []⟩,
 ⟨some 68, none, .e (.call 115 [(.t 66), (.t 67)]), []⟩,
 ⟨none, none, .e (.store 12 (.t 2) (.t 68)), []⟩]
def c95_31 : ACode := .seq c95_30 .ret
def c95_32 : ACode := .cond (.t 64) c95_31 .skip
def c95_33 : ACode := .seq c95_29 c95_32
def c95_34 : ACode := .cond (.t 60) c95_28 c95_33
def c95_35 : ACode := .seq c95_26 c95_34
def c95_36 : ACode := .cond (.t 44) c95_25 c95_35
def c95_37 : ACode := .seq c95_21 c95_36
def c95_38 : ACode := .cond (.t 32) c95_20 c95_37
def c95_39 : ACode := .seq c95_16 c95_38
def c95_40 : ACode := .cond (.t 11) c95_15 c95_39
def c95_41 : ACode := .seq c95_3 c95_40
def c95_42 : ACode := .block 0 c95_41
def c95_43 : ACode := .seq c95_2 c95_42
def c95_44 : ACode := .seq c95_1 c95_43
def c95_45 : ACode := .ops [
 ⟨some 69, none, .q (.mv (.t 0)), []⟩,
 ⟨some 70, none, .e (.call 68 [(.t 69), (.v (.str [40]))]), []⟩,
 ⟨some 71, none, .q (.un .not (.t 70)), []⟩]
def c95_46 : ACode := .ops [
 ⟨some 72, none, .q (.mv (.t 0)), []⟩,
 ⟨some 73, none, .e (.call 30 [(.t 72), (.v (.int .i64 10))]), []⟩,
 ⟨none, none, .e (.store 12 (.t 2) (.t 73)), []⟩]
def c95_47 : ACode := .seq c95_46 .ret
def c95_48 : ACode := .cond (.t 71) c95_47 .skip
def c95_49 : ACode := .seq c95_45 c95_48
def c95_50 : ACode := .ops [
 ⟨some 74, none, .q (.mv (.t 0)), []⟩,
 ⟨some 75, none, .e (.call 70 [(.t 74)]), []⟩]
def c95_51 : ACode := .ops [
 ⟨some 77, none, .q (.mv (.t 0)), []⟩,
 ⟨some 78, none, .q (.nc (.t 77)), []⟩,
 ⟨some 79, none, .q (.fa 3 (.t 78)), []⟩,
 ⟨some 80, none, .q (.ld none (.t 79)), []⟩,
 ⟨some 81, none, .q (.bin .eql (.t 80) (.v (.int .i64 0))), []⟩]
def c95_52 : ACode := .ops [
 ⟨some 82, none, .q (.mv (.t 0)), []⟩,
 ⟨some 83, none, .q (.nc (.t 82)), []⟩,
 ⟨some 84, none, .q (.fa 1 (.t 83)), []⟩,
 ⟨some 85, none, .q (.ld none (.t 84)), []⟩,
 ⟨some 86, none, .q (.bin .add (.t 85) (.v (.int .i64 1))), []⟩,
 ⟨some 87, none, .q (.nc (.t 82)), []⟩,
 ⟨some 88, none, .q (.fa 1 (.t 87)), []⟩,
 ⟨none, none, .e (.store 1 (.t 88) (.t 86)), []⟩]
def c95_53 : ACode := .cond (.t 81) c95_52 .skip
def c95_54 : ACode := .seq c95_51 c95_53
def c95_55 : ACode := .ops [
 ⟨some 89, none, .q (.mv (.t 0)), []⟩,
 ⟨some 90, none, .e (.call 28 [(.t 89), (.v (.int .i64 0))]), []⟩,
 ⟨some 6, none, .e (.alloc [(.int .i64 0), (.int .i64 0), (.str []), (.int .i64 0), (.int .i64 0), (.bool false), (.bool false), (.int .i64 0), (.int .i64 0), (.bool false), (.bool false), (.sl .full [])]), []⟩,
 ⟨none, none, .e (.store 12 (.t 6) (.t 90)), []⟩]
def c95_56 : ACode := .ops [
 ⟨some 91, none, .q (.mv (.t 0)), []⟩,
 ⟨some 92, none, .e (.call 116 [(.t 91), (.v (.str [41]))]), []⟩]
def c95_57 : ACode := .ops [
 ⟨some 93, none, .q (.ld (some 12) (.t 6)), []⟩,
 ⟨none, none, .e (.store 12 (.t 2) (.t 93)), []⟩]
def c95_58 : ACode := .seq c95_57 .ret
def c95_59 : ACode := .seq c95_56 c95_58
def c95_60 : ACode := .seq c95_55 c95_59
def c95_61 : ACode := .seq c95_54 c95_60
def c95_62 : ACode := .dfr 71 (.t 0) 76 c95_61
def c95_63 : ACode := .seq c95_50 c95_62
def c95_64 : ACode := .seq c95_49 c95_63
def c95_65 : ACode := .seq c95_44 c95_64
def c95_66 : ACode := .seq c95_0 c95_65
@[go_sem] def c95_0_wp := wp_of c95_0.eq_1
@[go_sem] def c95_1_wp := wp_of c95_1.eq_1
@[go_sem] def c95_2_wp := wp_of c95_2.eq_1
@[go_sem] def c95_3_wp := wp_of c95_3.eq_1
@[go_sem] def c95_4_wp := wp_of c95_4.eq_1
@[go_sem] def c95_5_wp := wp_of c95_5.eq_1
@[go_sem] def c95_6_wp := wp_of c95_6.eq_1
@[go_sem] def c95_7_wp := wp_of c95_7.eq_1
@[go_sem] def c95_8_wp := wp_of c95_8.eq_1
@[go_sem] def c95_9_wp := wp_of c95_9.eq_1
@[go_sem] def c95_10_wp := wp_of c95_10.eq_1
@[go_sem] def c95_11_wp := wp_of c95_11.eq_1
@[go_sem] def c95_12_wp := wp_of c95_12.eq_1
@[go_sem] def c95_13_wp := wp_of c95_13.eq_1
@[go_sem] def c95_14_wp := wp_of c95_14.eq_1
@[go_sem] def c95_15_wp := wp_of c95_15.eq_1
@[go_sem] def c95_16_wp := wp_of c95_16.eq_1
@[go_sem] def c95_17_wp := wp_of c95_17.eq_1
@[go_sem] def c95_18_wp := wp_of c95_18.eq_1
@[go_sem] def c95_19_wp := wp_of c95_19.eq_1
@[go_sem] def c95_20_wp := wp_of c95_20.eq_1
@[go_sem] def c95_21_wp := wp_of c95_21.eq_1
@[go_sem] def c95_22_wp := wp_of c95_22.eq_1
@[go_sem] def c95_23_wp := wp_of c95_23.eq_1
@[go_sem] def c95_24_wp := wp_of c95_24.eq_1
@[go_sem] def c95_25_wp := wp_of c95_25.eq_1
@[go_sem] def c95_26_wp := wp_of c95_26.eq_1
@[go_sem] def c95_27_wp := wp_of c95_27.eq_1
@[go_sem] def c95_28_wp := wp_of c95_28.eq_1
@[go_sem] def c95_29_wp := wp_of c95_29.eq_1
@[go_sem] def c95_30_wp := wp_of c95_30.eq_1
@[go_sem] def c95_31_wp := wp_of c95_31.eq_1
@[go_sem] def c95_32_wp := wp_of c95_32.eq_1
@[go_sem] def c95_33_wp := wp_of c95_33.eq_1
@[go_sem] def c95_34_wp := wp_of c95_34.eq_1
@[go_sem] def c95_35_wp := wp_of c95_35.eq_1
@[go_sem] def c95_36_wp := wp_of c95_36.eq_1
@[go_sem] def c95_37_wp := wp_of c95_37.eq_1
@[go_sem] def c95_38_wp := wp_of c95_38.eq_1
@[go_sem] def c95_39_wp := wp_of c95_39.eq_1
@[go_sem] def c95_40_wp := wp_of c95_40.eq_1
@[go_sem] def c95_41_wp := wp_of c95_41.eq_1
@[go_sem] def c95_42_wp := wp_of c95_42.eq_1
@[go_sem] def c95_43_wp := wp_of c95_43.eq_1
@[go_sem] def c95_44_wp := wp_of c95_44.eq_1
@[go_sem] def c95_45_wp := wp_of c95_45.eq_1
@[go_sem] def c95_46_wp := wp_of c95_46.eq_1
@[go_sem] def c95_47_wp := wp_of c95_47.eq_1
@[go_sem] def c95_48_wp := wp_of c95_48.eq_1
@[go_sem] def c95_49_wp := wp_of c95_49.eq_1
@[go_sem] def c95_50_wp := wp_of c95_50.eq_1
@[go_sem] def c95_51_wp := wp_of c95_51.eq_1
@[go_sem] def c95_52_wp := wp_of c95_52.eq_1
@[go_sem] def c95_53_wp := wp_of c95_53.eq_1
@[go_sem] def c95_54_wp := wp_of c95_54.eq_1
@[go_sem] def c95_55_wp := wp_of c95_55.eq_1
@[go_sem] def c95_56_wp := wp_of c95_56.eq_1
@[go_sem] def c95_57_wp := wp_of c95_57.eq_1
@[go_sem] def c95_58_wp := wp_of c95_58.eq_1
@[go_sem] def c95_59_wp := wp_of c95_59.eq_1
@[go_sem] def c95_60_wp := wp_of c95_60.eq_1
@[go_sem] def c95_61_wp := wp_of c95_61.eq_1
@[go_sem] def c95_62_wp := wp_of c95_62.eq_1
@[go_sem] def c95_63_wp := wp_of c95_63.eq_1
@[go_sem] def c95_64_wp := wp_of c95_64.eq_1
@[go_sem] def c95_65_wp := wp_of c95_65.eq_1
@[go_sem] def c95_66_wp := wp_of c95_66.eq_1
def c95 : AFn := ⟨94, [.c 2 (some 12)], c95_66⟩
theorem c95_ok : compF Tryz.prog Tryz.f95 = some c95 := by kernel_rfl
theorem a95 {args : List AV} {σ : ASt} {R : AV → ASt → Prop} (hl : args.length ≤ 94) (h : c95_66.wp Tryz.prog (RetQ [.c 2 (some 12)] R) (init args) σ) : ACalls Tryz.prog 95 args σ R := acalls_of Tryz.func95 c95_ok hl h
end Go.A
namespace Go.A
open Go.Proofs Go.Lib
set_option maxHeartbeats 8000000 in
theorem prim_walk {T : List Tok} (hT : TokOk T) (f : Nat) (ih : ∀ f', f' < f + 1 → WalkF T f') (b : Nat) (s : PSt) (r : Nd × PSt) (h : primP T (f + 1) s = some r) (hf : Fit T s) (σ : ASt) (hV : LV σ) (hb : σ b = pr T s) :
  ACalls Tryz.prog 95 [.ptr b 0] σ fun v σ' => v = r.1.av ∧ σ' = σ.set b (pr T r.2) := by
 rw [primP] at h
 have hwent := wentF hT.ends
 have hlen := hT.len
 have hil := hf.i
 have hpr : ∀ x : PSt, pr T x = some (.obj [.sl .shr (T.map tokAV), .int .i64 x.i, .int .i64 x.deep, .int .i64 x.err, .int .i64 x.bad]) := fun x => rfl
 have hpn : some (Role.obj [.sl .shr (T.map tokAV), .int .i64 ((s.i : Int) + 1), .int .i64 s.deep, .int .i64 s.err, .int .i64 s.bad]) = pr T s.next := rfl
 have htx := hT.cur s
 have hD := dparse_ok (curT T s).text htx
 have hE := tenames_ok
 have hix := strindex_ok errL (curT T s).text (by decide)
 have hrg := idxS_rng (curT T s).text errL 0
 have hel : errL.length = 7 := rfl
 have hidx : idxP errL (curT T s).text = idxS (curT T s).text errL 0 := rfl
 have hAr := fun hk τ hh => area_walk hT b s hf hk τ hh
 have hNa := fun hk r hr τ hv hh => (ih f (by omega)).name b s r hr hf hk τ hv hh
 refine a95 (by simp) ?_
 simp (disch := first | assumption | omega) only [go_sem]
 refine allocC_by fun d hd => ?_
 obtain ⟨hbd, T2, S2⟩ := St2.of hd (pr_fix hb).1 (pr_fix hb).2
 rw [S2.one, hb]
 have q1 := S2.a1
 have hcu := fun X => pcur_ok (T := T) hf.i (q1 (pr T s) X)
 have htv : tokAV (curT T s) = .agg [.int .i64 (curT T s).kind, .str (curT T s).text, .int .i64 (curT T s).at', .int .i64 (curT T s).col] := rfl
 rw [htv] at hcu
 rw [htv] at hNa
 generalize hct : curT T s = tk at *
 simp (disch := first | assumption | omega) only [go_sem, reduceCtorEq, ↓reduceIte]
 refine (hcu _).mono ?_
 rintro v σ1 ⟨rfl, rfl⟩
 simp (disch := first | assumption | omega) only [go_sem]
 refine allocC_by fun e he => ?_
 obtain ⟨hbe, hde, T3, S3⟩ := St3.of S2 (X0 := .obj _) he
 have ab := S3.ab
 have k3 := S3.s3
 have k2 := S3.s2
 have k1 := S3.s1
 have w3 := S3.a3
 have w2 := S3.a2
 have w1 := S3.a1
 have V3 : ∀ X Y Z, LV (T3 X Y Z) := fun X Y Z => S3.fix _ _ _ _ _ hV
 have hDr := S3.drop
 have v1 := fun Y Z => w1 (pr T s) Y Z
 rw [hpr s] at v1
 have hfl := fun τ hh => pfail_ok (T := T) (s := s) hf.i 10 (σ := τ) (b := b) hh
 obtain ⟨F, hF⟩ : ∃ F, F = ACode.wp Tryz.prog c95_64 := ⟨_, rfl⟩
 simp (disch := first | assumption | omega) only [go_sem, Nat.reduceEqDiff, Nat.reduceAdd, Nat.reduceLeDiff, ↓reduceIte, Bool.true_and, ab, k3, w3, ←hF]
 by_cases c1 : tk.kind = 1
 ·rw [if_pos c1] at h
  cases hp : parseD tk.text with
  | none =>
    rw [hp] at h hD
    injection h with h
    subst h
    have hD' : Pure Tryz.prog 113 [.str tk.text] (.tuple [.int .i64 0, .bool false]) := hD
    simp (disch := first | assumption | omega) only [go_sem, Nat.reduceEqDiff, ↓reduceIte, c1, w3]
    refine hD'.use ?_
    simp (disch := first | assumption | omega) only [go_sem, reduceCtorEq, Nat.reduceEqDiff, ↓reduceIte]
    refine (hfl _ (w1 _ _ _)).mono ?_
    rintro v σ1 ⟨rfl, rfl⟩
    rw [k1, zN_av, zN_cells]
    simp (disch := first | assumption | omega) only [go_sem, Nat.reduceEqDiff, Nat.reduceAdd, Nat.reduceLeDiff, ↓reduceIte, Bool.true_and, w2, k2]
    exact retC_by (hDr _ _ _) (.refl _) ⟨rfl, rfl⟩
  | some v =>
    rw [hp] at h hD
    injection h with h
    subst h
    have hD' : Pure Tryz.prog 113 [.str tk.text] (.tuple [.int .i64 v, .bool true]) := hD
    simp (disch := first | assumption | omega) only [go_sem, Nat.reduceEqDiff, ↓reduceIte, c1, w3]
    refine hD'.use ?_
    rw [hpr s]
    simp (disch := first | assumption | omega) only [go_sem, reduceCtorEq, Nat.reduceEqDiff, Nat.reduceAdd, Nat.reduceLeDiff, ↓reduceIte, Bool.true_and, v1, k1]
    rw [hpn]
    simp (disch := first | assumption | omega) only [go_sem, Nat.reduceEqDiff, Nat.reduceAdd, Nat.reduceLeDiff, ↓reduceIte, Bool.true_and, w2, k2]
    rw [Nd.av_cs]
    exact retC_by (hDr _ _ _) (fzN 1 v [] .zero .zero _ _) ⟨rfl, rfl⟩
 rw [if_neg c1] at h
 by_cases c2 : tk.kind = 2
 ·rw [if_pos c2] at h
  injection h with h
  subst h
  rw [hpr s]
  simp (disch := first | assumption | omega) only [go_sem, reduceCtorEq, Nat.reduceEqDiff, Nat.reduceAdd, Nat.reduceLeDiff, Int.reduceEq, ↓reduceIte, Bool.true_and, c2, w3, v1, k1]
  rw [hpn]
  simp (disch := first | assumption | omega) only [go_sem, Nat.reduceEqDiff, Nat.reduceAdd, Nat.reduceLeDiff, ↓reduceIte, Bool.true_and, w2, k2]
  rw [Nd.av_cs]
  exact retC_by (hDr _ _ _) (fzN 2 0 tk.text .zero .zero _ _) ⟨rfl, rfl⟩
 rw [if_neg c2] at h
 by_cases c5 : tk.kind = 5
 ·rw [if_pos c5] at h
  injection h with h
  subst h
  rw [hidx] at hix ⊢
  generalize idxS tk.text errL 0 = q at *
  rw [hpr s]
  simp (disch := first | assumption | omega) only [go_sem, reduceCtorEq, Nat.reduceEqDiff, Nat.reduceAdd, Nat.reduceLeDiff, Int.reduceEq, ↓reduceIte, Bool.true_and, c5, w3, v1, k1]
  rw [hpn]
  refine hE.use ?_
  simp (disch := first | assumption | omega) only [go_sem, Nat.reduceEqDiff, ↓reduceIte, w3]
  refine hix.use ?_
  simp (disch := first | assumption | omega) only [go_sem, Nat.reduceEqDiff, Nat.reduceAdd, Nat.reduceLeDiff, ↓reduceIte, Bool.true_and, w2, k2]
  rw [Nd.av_cs]
  exact retC_by (hDr _ _ _) (fzN 4 ((q + 1) * 10000) [] .zero .zero _ _) ⟨rfl, rfl⟩
 rw [if_neg c5] at h
 by_cases c4 : tk.kind = 4
 ·rw [if_pos c4] at h
  injection h with h
  subst h
  have hA := fun Y Z => hAr c4 _ (w1 (pr T s) Y Z)
  clear hAr hNa
  generalize areaP T s = RA at *
  obtain ⟨n, s'⟩ := RA
  dsimp only at hA ⊢
  obtain ⟨o, m, t, x, y, ks⟩ := n
  simp only [Nd.av_cs] at hA ⊢
  generalize ks.map Nd.av = KL at *
  simp (disch := first | assumption | omega) only [go_sem, reduceCtorEq, Nat.reduceEqDiff, Int.reduceEq, ↓reduceIte, c4]
  refine (hA _ _).mono ?_
  rintro v σ1 ⟨rfl, rfl⟩
  rw [k1]
  simp (disch := first | assumption | omega) only [go_sem, Nat.reduceEqDiff, Nat.reduceAdd, Nat.reduceLeDiff, ↓reduceIte, w2, k2]
  exact retC_by (hDr _ _ _) (.refl _) ⟨rfl, rfl⟩
 rw [if_neg c4] at h
 by_cases c3 : tk.kind = 3
 ·rw [if_pos c3] at h
  have hA := fun Y Z => hNa c3 r h _ (V3 (pr T s) Y Z) (w1 _ _ _)
  obtain ⟨n, s'⟩ := r
  dsimp only at hA ⊢
  obtain ⟨o, m, t, x, y, ks⟩ := n
  simp only [Nd.av_cs] at hA ⊢
  generalize ks.map Nd.av = KL at *
  rw [c3] at hA
  simp (disch := first | assumption | omega) only [go_sem, reduceCtorEq, Nat.reduceEqDiff, Nat.reduceAdd, Nat.reduceLeDiff, Int.reduceEq, ↓reduceIte, c3, w3]
  refine (hA _ _).mono ?_
  rintro v σ1 ⟨rfl, rfl⟩
  rw [k1]
  simp (disch := first | assumption | omega) only [go_sem, Nat.reduceEqDiff, Nat.reduceAdd, Nat.reduceLeDiff, ↓reduceIte, w2, k2]
  exact retC_by (hDr _ _ _) (.refl _) ⟨rfl, rfl⟩
 rw [if_neg c3] at h
 simp (disch := first | assumption | omega) only [go_sem, Nat.reduceEqDiff, ↓reduceIte, c1, c2, c5, c4, c3]
 rw [hF]
 have hat := fun Y Z => pat_ok hf.i [40] (w1 (pr T s) Y Z)
 simp (disch := first | assumption | omega) only [go_sem, reduceCtorEq, ↓reduceIte]
 refine (hat _ _).mono ?_
 rintro v σ1 ⟨rfl, rfl⟩
 by_cases hop : isOp T s [40] = true
 ·rw [if_pos hop] at h
  rw [hop]
  cases h1 : betwP T f 0 (stepP1 (enterP T s)) with
  | none => rw [h1] at h; cases h
  | some r1 =>
    rw [h1] at h
    injection h with h
    subst h
    have hk := isOp_kind hop
    have he0 := cur_err hk
    obtain ⟨e1, e2, e3⟩ := enter_err hT.ends hf he0
    obtain ⟨g1, g2, g3⟩ := enter_fit hT.ends hf hk
    have hw := (hwent f).betw _ _ _ h1 g1
    have hwm := Went.must hT.ends hw.fit [41]
    have hen := fun Y Z => penter_ok (T := T) (s := s) hf.i ⟨hf.d0, by have := hf.d1; omega⟩ (w1 (pr T s) Y Z)
    have hbe' := fun Y Z => (ih f (by omega)).betw b 0 _ r1 (by omega) h1 g1 _ (V3 (pr T (stepP1 (enterP T s))) Y Z) (w1 _ _ _)
    rw [show ((0 : Nat) : Int) = 0 from rfl] at hbe'
    have hst : stepP1 (enterP T s) = if (enterP T s).err = 0 then (enterP T s).next else enterP T s := rfl
    generalize hS : stepP1 (enterP T s) = sS at *
    generalize hE2 : enterP T s = sE at *
    obtain ⟨n1, s1⟩ := r1
    dsimp only at hbe' hw hwm ⊢
    obtain ⟨o, m, t, x, y, ks⟩ := n1
    simp only [Nd.av_cs] at hbe' ⊢
    generalize ks.map Nd.av = KL at *
    simp (disch := first | assumption | omega) only [go_sem, reduceCtorEq, ↓reduceIte]
    refine (hen _ _).mono ?_
    rintro v σ1 ⟨rfl, rfl⟩
    rw [k1]
    have hpE : some (Role.obj [.sl .shr (T.map tokAV), .int .i64 ((sE.i : Int) + 1), .int .i64 sE.deep, .int .i64 sE.err, .int .i64 sE.bad]) = pr T sE.next := rfl
    have hmu := fun τ hh => pmust_ok hT.ends hw.fit hT.len [41] (σ := τ) (b := b) hh
    have hlv := fun τ hh => pleave_ok (T := T) (s := mustP T s1 [41]) ⟨hwm.fit.d0, by have := hwm.fit.d1; omega⟩ (σ := τ) (b := b) hh
    have tail : ∀ a1 : AFr, (a1 0 = .ptr b 0 ∧ a1 2 = .ptr d 0) → ACode.wp Tryz.prog c95_60 (DfrQ Tryz.prog 71 (.ptr b 0) (RetQ [.c 2 (some 12)] fun v σ' => v = .agg (Nd.cs o m t x y KL) ∧ σ' = σ.set b (pr T (leaveP (mustP T s1 [41]))))) a1 (T3 (pr T sS) (some (.obj zero12)) (some (.obj [.int .i64 tk.kind, .str tk.text, .int .i64 tk.at', .int .i64 tk.col]))) := by
     intro a1 hf1
     unfold zero12
     simp (disch := first | assumption | omega) only [go_sem, ↓reduceIte, hf1]
     refine (hbe' _ _).mono ?_
     rintro v σ1 ⟨rfl, rfl⟩
     rw [k1]
     simp (disch := first | assumption | omega) only [go_sem]
     refine allocC_by fun g hg => ?_
     obtain ⟨T4, S4⟩ := St4.of S3 (X0 := .obj _) hg
     have ab4 := S4.ab
     have m1 := S4.s1
     have m2 := S4.s2
     have m4 := S4.s4
     have p1 := S4.a1
     have p2 := S4.a2
     have p4 := S4.a4
     simp (disch := first | assumption | omega) only [go_sem, reduceCtorEq, Nat.reduceEqDiff, Nat.reduceAdd, Nat.reduceLeDiff, ↓reduceIte, hf1, ab4, m4, p4]
     refine (hmu _ (p1 _ _ _ _)).mono ?_
     rintro v σ1 ⟨rfl, rfl⟩
     rw [m1]
     simp (disch := first | assumption | omega) only [go_sem, Nat.reduceEqDiff, Nat.reduceAdd, Nat.reduceLeDiff, ↓reduceIte, hf1, p4, p2, m2]
     refine (hlv _ (p1 _ _ _ _)).mono ?_
     rintro v σ1 ⟨rfl, rfl⟩
     rw [m1]
     simp (disch := first | assumption | omega) only [go_sem, Nat.reduceLeDiff, ↓reduceIte, p2]
     exact retC_by (S4.drop _ _ _ _) (.refl _) ⟨rfl, rfl⟩
    obtain ⟨G, hG⟩ : ∃ G, G = ACode.wp Tryz.prog c95_60 := ⟨_, rfl⟩
    rw [← hG] at tail
    unfold zero12 at tail
    by_cases hee : sE.err = 0
    ·rw [if_pos hee] at hst
     subst hst
     have hEi : (sE.i : Int) ≤ 1000000 := by omega
     have x1 := fun Y Z => w1 (pr T sE) Y Z
     rw [hpr sE, hee] at x1
     rw [hee] at hpE
     rw [hpr sE, hee]
     simp (disch := first | assumption | omega) only [go_sem, reduceCtorEq, Nat.reduceEqDiff, Nat.reduceAdd, Nat.reduceLeDiff, ↓reduceIte, Bool.true_and, x1, k1, ←hG]
     rw [hpE]
     refine tail _ ?_
     simp (disch := first | assumption | omega) only [go_sem, reduceCtorEq, Nat.reduceEqDiff, ↓reduceIte]
    ·rw [if_neg hee] at hst
     subst hst
     have x1 : ∀ Y Z, T3 (pr T sS) Y Z b = some (.obj [.sl .shr (T.map tokAV), .int .i64 sS.i, .int .i64 sS.deep, .int .i64 sS.err, .int .i64 sS.bad]) := fun Y Z => w1 _ _ _
     simp (disch := first | assumption | omega) only [go_sem, reduceCtorEq, ↓reduceIte, x1, hee, ←hG]
     refine tail _ ?_
     simp (disch := first | assumption | omega) only [go_sem, reduceCtorEq, Nat.reduceEqDiff, ↓reduceIte]
 ·rw [if_neg hop] at h
  injection h with h
  subst h
  have hop' : isOp T s [40] = false := by simpa using hop
  rw [hop']
  simp (disch := first | assumption | omega) only [go_sem, reduceCtorEq, ↓reduceIte]
  refine (hfl _ (w1 _ _ _)).mono ?_
  rintro v σ1 ⟨rfl, rfl⟩
  rw [k1, zN_av, zN_cells]
  simp (disch := first | assumption | omega) only [go_sem, Nat.reduceEqDiff, Nat.reduceAdd, Nat.reduceLeDiff, ↓reduceIte, Bool.true_and, w2, k2]
  exact retC_by (hDr _ _ _) (.refl _) ⟨rfl, rfl⟩
theorem walkF {T : List Tok} (hT : TokOk T) : ∀ f, WalkF T f := by
 intro f
 induction f using Nat.strongRecOn with
 | _ f ih =>
 cases f with
 | zero =>
   constructor
   all_goals intros
   all_goals first
    | (rename_i h _ _ _ _; simp only [betwP, signedP, hundredP, primP, argsP, reduceCtorEq] at h)
    | (rename_i h _ _ _ _ _; simp only [nameP, reduceCtorEq] at h)
 | succ f =>
   exact ⟨fun b lvl s r hl h hf σ hV hb => betw_walk hT f ih b lvl s r hl h hf σ hV hb, fun b s r h hf σ hV hb => signed_walk hT f ih b s r h hf σ hV hb,
    fun b s r h hf σ hV hb => hundred_walk hT f ih b s r h hf σ hV hb, fun b s r h hf σ hV hb => prim_walk hT f ih b s r h hf σ hV hb,
    fun b s r h hf hk σ hV hb => name_walk hT f ih b s r h hf hk σ hV hb, fun b s r h hf σ hV hb => args_walk hT f ih b s r h hf σ hV hb⟩
end Go.A
namespace Go.A
open Go.Proofs Go.Lib
def Mz (T : List Tok) (s : PSt) : Nat := if s.err = 0 then T.length - s.i else 0
section
variable {T : List Tok}
theorem Mz_next {s : PSt} (hT : Ends T) (hf : Fit T s) (hk : (curT T s).kind ≠ 0) : Mz T s.next + 1 ≤ Mz T s := by
 have h0 := cur_err hk
 have hi := hf.i
 unfold Mz
 rw [if_pos h0, if_pos (show s.next.err = 0 from h0)]
 show T.length - (s.i + 1) + 1 ≤ _
 omega
theorem Mz_went {s s' : PSt} (h : Went T s s') : Mz T s' ≤ Mz T s := by
 have hl := h.le
 unfold Mz
 by_cases h0 : s.err = 0
 ·rw [if_pos h0]
  split <;> omega
 ·rw [if_neg h0, if_neg (by rw [(h.err h0).1]; exact h0)]
  exact Nat.le_refl _
theorem Mz_enter {s : PSt} (hT : Ends T) (hf : Fit T s) (hk : (curT T s).kind ≠ 0) : Mz T (stepP1 (enterP T s)) + 1 ≤ Mz T s := by
 have h0 := cur_err hk
 have hi := hf.i
 obtain ⟨e1, e2, e3⟩ := enter_err hT hf h0
 unfold stepP1
 unfold Mz
 rw [if_pos h0]
 by_cases he : (enterP T s).err = 0
 ·rw [if_pos he, if_pos (show (enterP T s).next.err = 0 from he)]
  show T.length - ((enterP T s).i + 1) + 1 ≤ _
  omega
 ·rw [if_neg he, if_neg he]
  omega
structure SuffF (T : List Tok) (f : Nat) : Prop where
 betw : ∀ lvl s, lvl ≤ 5 → Fit T s → 30 * Mz T s + 20 ≤ f + lvl → ∃ r, betwP T f lvl s = some r
 loop : ∀ lvl n s, lvl < 5 → Fit T s → 30 * Mz T s + 1 ≤ f → ∃ r, loopP T f lvl n s = some r
 signed : ∀ s, Fit T s → 30 * Mz T s + 14 ≤ f → ∃ r, signedP T f s = some r
 hundred : ∀ s, Fit T s → 30 * Mz T s + 13 ≤ f → ∃ r, hundredP T f s = some r
 hloop : ∀ n s, Fit T s → 30 * Mz T s + 1 ≤ f → ∃ r, hloopP T f n s = some r
 prim : ∀ s, Fit T s → 30 * Mz T s + 12 ≤ f → ∃ r, primP T f s = some r
 name : ∀ s, Fit T s → (curT T s).kind = 3 → 30 * Mz T s + 11 ≤ f → ∃ r, nameP T f s = some r
 args : ∀ s, Fit T s → 30 * Mz T s + 25 ≤ f → ∃ r, argsP T f s = some r
 aloop : ∀ l s, Fit T s → 30 * Mz T s + 24 ≤ f → ∃ r, aloopP T f l s = some r
theorem suffF (hT : Ends T) : ∀ f, SuffF T f
 | 0 => by
   constructor
   all_goals intros
   all_goals (exfalso; omega)
 | f + 1 => by
   have ih := suffF hT f
   have hwent := wentF hT f
   constructor
   ·intro lvl s hl hf hm
    rw [betwP]
    split
    ·exact ih.signed s hf (by omega)
    ·obtain ⟨r, hr⟩ := ih.betw (lvl + 1) s (by omega) hf (by omega)
     rw [hr]
     have hw := hwent.betw _ _ _ hr hf
     have hz := Mz_went hw
     exact ih.loop lvl _ _ (by omega) hw.fit (by omega)
   ·intro lvl n s hl hf hm
    rw [loopP]
    split
    ·rename_i hk
     have hz := Mz_next hT hf (sgn_kind hk)
     have hn := (hf.next hT (sgn_kind hk)).1
     obtain ⟨r, hr⟩ := ih.betw (lvl + 1) s.next (by omega) hn (by omega)
     rw [hr]
     have hw := hwent.betw _ _ _ hr hn
     have hz2 := Mz_went hw
     exact ih.loop lvl _ _ hl hw.fit (by omega)
    ·exact ⟨_, rfl⟩
   ·intro s hf hm
    rw [signedP]
    split
    ·rename_i hk
     have hz := Mz_enter hT hf (isOp_kind hk)
     obtain ⟨r, hr⟩ := ih.signed _ (enter_fit hT hf (isOp_kind hk)).1 (by omega)
     rw [hr]
     exact ⟨_, rfl⟩
    split
    ·rename_i hk
     have hz := Mz_enter hT hf (isOp_kind hk)
     obtain ⟨r, hr⟩ := ih.signed _ (enter_fit hT hf (isOp_kind hk)).1 (by omega)
     rw [hr]
     exact ⟨_, rfl⟩
    ·exact ih.hundred s hf (by omega)
   ·intro s hf hm
    rw [hundredP]
    obtain ⟨r, hr⟩ := ih.prim s hf (by omega)
    rw [hr]
    have hw := hwent.prim _ _ hr hf
    have hz := Mz_went hw
    exact ih.hloop _ _ hw.fit (by omega)
   ·intro n s hf hm
    rw [hloopP]
    split
    ·rename_i hk
     have hz := Mz_next hT hf (isOp_kind hk)
     exact ih.hloop _ _ (hf.next hT (isOp_kind hk)).1 (by omega)
    ·exact ⟨_, rfl⟩
   ·intro s hf hm
    rw [primP]
    split
    ·split <;> exact ⟨_, rfl⟩
    split
    ·exact ⟨_, rfl⟩
    split
    ·exact ⟨_, rfl⟩
    split
    ·exact ⟨_, rfl⟩
    split
    ·rename_i hk
     exact ih.name s hf hk (by omega)
    split
    ·rename_i hk
     have hz := Mz_enter hT hf (isOp_kind hk)
     obtain ⟨r, hr⟩ := ih.betw 0 _ (by omega) (enter_fit hT hf (isOp_kind hk)).1 (by omega)
     rw [hr]
     exact ⟨_, rfl⟩
    ·exact ⟨_, rfl⟩
   ·intro s hf hk hm
    have h0 : s.err = 0 := cur_err (T := T) (by omega)
    have hn := hf.next hT (by omega)
    rw [nameP]
    split
    ·rename_i hp
     split
     ·exact ⟨_, rfl⟩
     ·rename_i he
      obtain ⟨g1, g2, g3, g5⟩ := enter2 hT hf (by omega) (by simpa using he)
      have hl := hT.more (s.i + 1) hn.1.i (by omega)
      have g4 : Fit T (enterP T s).next.next := ⟨by show (enterP T s).i + 1 + 1 < _; omega, g1.d0, g1.d1, g1.d2⟩
      have hz : Mz T (enterP T s).next.next + 1 ≤ Mz T s := by
       have hi := hf.i
       have he' : (enterP T s).err = 0 := by simpa using he
       unfold Mz
       rw [if_pos h0, if_pos (show (enterP T s).next.next.err = 0 from he')]
       show T.length - ((enterP T s).i + 1 + 1) + 1 ≤ _
       omega
      obtain ⟨r, hr⟩ := ih.args _ g4 (by omega)
      rw [hr]
      exact ⟨_, rfl⟩
    split
    ·exact ⟨_, rfl⟩
    split <;> exact ⟨_, rfl⟩
   ·intro s hf hm
    rw [argsP]
    split
    ·exact ⟨_, rfl⟩
    ·exact ih.aloop _ s hf (by omega)
   ·intro l s hf hm
    rw [aloopP]
    split
    ·exact ⟨_, rfl⟩
    ·have h1 : ∃ r, (if isOp T s [44] = true ∨ isOp T s [41] = true then some (missN, s) else betwP T f 0 s) = some r ∧ Went T s r.2 := by
      split
      ·exact ⟨_, rfl, Went.refl hf⟩
      ·obtain ⟨r, hr⟩ := ih.betw 0 s (by omega) hf (by omega)
       exact ⟨r, hr, hwent.betw _ _ _ hr hf⟩
     obtain ⟨r, hr, hw⟩ := h1
     rw [hr]
     dsimp only
     split
     ·rename_i hk
      have hz := Mz_next hT hw.fit (isOp_kind hk)
      have hz2 := Mz_went hw
      exact ih.aloop _ _ (hw.fit.next hT (isOp_kind hk)).1 (by omega)
     ·exact ⟨_, rfl⟩
end
end Go.A
namespace Go.A
open Go.Proofs
/-! 8: tabular/parse.Parse -/
def c8_0 : ACode := .ops [
 ⟨some 2, none, .e (.alloc [(.int .i64 0), (.int .i64 0), (.str []), (.int .i64 0), (.int .i64 0), (.bool false), (.bool false), (.int .i64 0), (.int .i64 0), (.bool false), (.bool false), (.sl .full [])]), []⟩,
 ⟨some 3, none, .q (.mv (.v (.int .i64 0))), []⟩,
 ⟨some 4, none, .q (.mv (.v (.int .i64 0))), []⟩]
def c8_1 : ACode := .ops [
 ⟨some 11, none, .q (.mv (.t 0)), []⟩,
 ⟨some 12, none, .e (.call 27 [(.t 11)]), []⟩,
 ⟨some 10, none, .q (.mv (.t 12)), []⟩,
 ⟨some 13, none, .q (.ext 0 (.t 10)), []⟩,
 ⟨some 14, none, .q (.ext 1 (.t 10)), []⟩,
 ⟨some 15, none, .q (.ext 2 (.t 10)), []⟩,
 ⟨some 5, none, .q (.mv (.t 13)), []⟩,
 ⟨some 6, none, .q (.mv (.t 14)), []⟩,
 ⟨some 7, none, .q (.mv (.t 15)), []⟩]
def c8_2 : ACode := .ops [
 ⟨some 16, none, .q (.mv (.t 7)), []⟩,
 ⟨some 17, none, .q (.bin .neq (.t 16) (.v (.int .i64 0))), []⟩]
def c8_3 : ACode := .ops [
 ⟨some 18, none, .q (.build [(.int .i64 0), (.int .i64 0), (.str []), (.int .i64 0), (.int .i64 0), (.bool false), (.bool false), (.int .i64 0), (.int .i64 0), (.bool false), (.bool false), (.sl .full [])] []), []⟩,
 ⟨some 19, none, .q (.mv (.t 6)), []⟩,
 ⟨some 20, none, .q (.mv (.t 7)), []⟩,
 ⟨none, none, .e (.store 12 (.t 2) (.t 18)), []⟩,
 ⟨some 3, none, .q (.mv (.t 19)), []⟩,
 ⟨some 4, none, .q (.mv (.t 20)), []⟩]
def c8_4 : ACode := .seq c8_3 .ret
def c8_5 : ACode := .cond (.t 17) c8_4 .skip
def c8_6 : ACode := .seq c8_2 c8_5
def c8_7 : ACode := .ops [
 ⟨some 21, none, .q (.mv (.t 5)), []⟩,
 ⟨some 22, none, .q (.build [(.sl .full []), (.int .i64 0), (.int .i64 0), (.int .i64 0), (.int .i64 0)] [(0, 1, (.t 21))]), []⟩,
 ⟨some 23, none, .e (.box (.t 22)), []⟩,
 ⟨some 8, none, .q (.mv (.t 23)), []⟩]
def c8_8 : ACode := .ops [
 ⟨some 24, none, .q (.mv (.t 8)), []⟩,
 ⟨some 25, none, .e (.call 28 [(.t 24), (.v (.int .i64 0))]), []⟩,
 ⟨some 9, none, .e (.alloc [(.int .i64 0), (.int .i64 0), (.str []), (.int .i64 0), (.int .i64 0), (.bool false), (.bool false), (.int .i64 0), (.int .i64 0), (.bool false), (.bool false), (.sl .full [])]), []⟩,
 ⟨none, none, .e (.store 12 (.t 9) (.t 25)), []⟩]
def c8_9 : ACode := .ops [
 ⟨some 26, none, .q (.mv (.t 8)), []⟩,
 ⟨some 27, none, .e (.call 29 [(.t 26)]), []⟩,
 ⟨some 28, none, .q (.fld 0 none (.t 27)), []⟩,
 ⟨some 29, none, .q (.bin .neq (.t 28) (.v (.int .i64 0))), []⟩]
def c8_10 : ACode := .ops [
 ⟨some 30, none, .q (.mv (.t 8)), []⟩,
 ⟨some 31, none, .e (.call 30 [(.t 30), (.v (.int .i64 10))]), []⟩]
def c8_11 : ACode := .cond (.t 29) c8_10 .skip
def c8_12 : ACode := .seq c8_9 c8_11
def c8_13 : ACode := .ops [
 ⟨some 32, none, .q (.mv (.t 8)), []⟩,
 ⟨some 33, none, .q (.nc (.t 32)), []⟩,
 ⟨some 34, none, .q (.fa 3 (.t 33)), []⟩,
 ⟨some 35, none, .q (.ld none (.t 34)), []⟩,
 ⟨some 36, none, .q (.bin .neq (.t 35) (.v (.int .i64 0))), []⟩]
def c8_14 : ACode := .ops [
 ⟨some 37, none, .q (.build [(.int .i64 0), (.int .i64 0), (.str []), (.int .i64 0), (.int .i64 0), (.bool false), (.bool false), (.int .i64 0), (.int .i64 0), (.bool false), (.bool false), (.sl .full [])] []), []⟩,
 ⟨some 38, none, .q (.mv (.t 8)), []⟩,
 ⟨some 39, none, .q (.nc (.t 38)), []⟩,
 ⟨some 40, none, .q (.fa 4 (.t 39)), []⟩,
 ⟨some 41, none, .q (.ld none (.t 40)), []⟩,
 ⟨some 42, none, .q (.mv (.t 8)), []⟩,
 ⟨some 43, none, .q (.nc (.t 42)), []⟩,
 ⟨some 44, none, .q (.fa 3 (.t 43)), []⟩,
 ⟨some 45, none, .q (.ld none (.t 44)), []⟩,
 ⟨none, none, .e (.store 12 (.t 2) (.t 37)), [⟨none, .ld none (.t 40), 41⟩, ⟨none, .ld none (.t 44), 45⟩]⟩,
 ⟨some 3, none, .q (.mv (.t 41)), []⟩,
 ⟨some 4, none, .q (.mv (.t 45)), []⟩]
def c8_15 : ACode := .seq c8_14 .ret
def c8_16 : ACode := .cond (.t 36) c8_15 .skip
def c8_17 : ACode := .seq c8_13 c8_16
def c8_18 : ACode := .ops [
 ⟨some 46, none, .q (.ld (some 12) (.t 9)), []⟩,
 ⟨none, none, .e (.store 12 (.t 2) (.t 46)), []⟩,
 ⟨some 3, none, .q (.mv (.v (.int .i64 0))), []⟩,
 ⟨some 4, none, .q (.mv (.v (.int .i64 0))), []⟩]
def c8_19 : ACode := .seq c8_18 .ret
def c8_20 : ACode := .seq c8_17 c8_19
def c8_21 : ACode := .seq c8_12 c8_20
def c8_22 : ACode := .seq c8_8 c8_21
def c8_23 : ACode := .seq c8_7 c8_22
def c8_24 : ACode := .seq c8_6 c8_23
def c8_25 : ACode := .seq c8_1 c8_24
def c8_26 : ACode := .seq c8_0 c8_25
@[go_sem] def c8_0_wp := wp_of c8_0.eq_1
@[go_sem] def c8_1_wp := wp_of c8_1.eq_1
@[go_sem] def c8_2_wp := wp_of c8_2.eq_1
@[go_sem] def c8_3_wp := wp_of c8_3.eq_1
@[go_sem] def c8_4_wp := wp_of c8_4.eq_1
@[go_sem] def c8_5_wp := wp_of c8_5.eq_1
@[go_sem] def c8_6_wp := wp_of c8_6.eq_1
@[go_sem] def c8_7_wp := wp_of c8_7.eq_1
@[go_sem] def c8_8_wp := wp_of c8_8.eq_1
@[go_sem] def c8_9_wp := wp_of c8_9.eq_1
@[go_sem] def c8_10_wp := wp_of c8_10.eq_1
@[go_sem] def c8_11_wp := wp_of c8_11.eq_1
@[go_sem] def c8_12_wp := wp_of c8_12.eq_1
@[go_sem] def c8_13_wp := wp_of c8_13.eq_1
@[go_sem] def c8_14_wp := wp_of c8_14.eq_1
@[go_sem] def c8_15_wp := wp_of c8_15.eq_1
@[go_sem] def c8_16_wp := wp_of c8_16.eq_1
@[go_sem] def c8_17_wp := wp_of c8_17.eq_1
@[go_sem] def c8_18_wp := wp_of c8_18.eq_1
@[go_sem] def c8_19_wp := wp_of c8_19.eq_1
@[go_sem] def c8_20_wp := wp_of c8_20.eq_1
@[go_sem] def c8_21_wp := wp_of c8_21.eq_1
@[go_sem] def c8_22_wp := wp_of c8_22.eq_1
@[go_sem] def c8_23_wp := wp_of c8_23.eq_1
@[go_sem] def c8_24_wp := wp_of c8_24.eq_1
@[go_sem] def c8_25_wp := wp_of c8_25.eq_1
@[go_sem] def c8_26_wp := wp_of c8_26.eq_1
def c8 : AFn := ⟨47, [.c 2 (some 12), .t 3, .t 4], c8_26⟩
theorem c8_ok : compF Tryz.prog Tryz.f8 = some c8 := by kernel_rfl
theorem a8 {args : List AV} {σ : ASt} {R : AV → ASt → Prop} (hl : args.length ≤ 47) (h : c8_26.wp Tryz.prog (RetQ [.c 2 (some 12), .t 3, .t 4] R) (init args) σ) : ACalls Tryz.prog 8 args σ R := acalls_of Tryz.func8 c8_ok hl h
end Go.A
