/- Part 6 of what ExprTells leans on: Ec CodeEd Ed CodeEe Ee CodeEh Eh. -/
import Derived.Test.YtpkbdbjdiklepaaGreatDoorProg
import Derived.KernelRfl
import Derived.Test.YtpkbdbjdiklepaaGreatDoorZFExprTellse
set_option linter.defProp false
set_option linter.unusedSimpArgs false
set_option linter.unusedVariables false
set_option maxRecDepth 100000
namespace Go.A
open Go.Proofs Go.Lib
theorem failure_ok (op n : Int) (s : List UInt8) (a b : Ref) (kids : List Nd) (hn : n.natAbs ≤ 999999999999999999) : Pure Tryz.prog 23 [(Nd.mk op n s a b kids).av] (.str (failT op n)) := by
 intro σ
 have hW := whole_ok hn
 have hE := tenames_ok
 obtain ⟨q, hq⟩ : ∃ q, failT op n = q := ⟨_, rfl⟩
 rw [hq]
 unfold failT at hq
 rw [Nd.av_cs]
 generalize n.tdiv 10000 = i at *
 refine a23 (by simp) ?_
 simp (disch := first | assumption | omega) only [go_sem]
 refine boxC_by rfl fun c hc => ?_
 simp (disch := first | assumption | omega) only [go_sem, Nat.reduceEqDiff, ↓reduceIte]
 refine hW.use ?_
 by_cases h4 : op = 4
 ·by_cases h2 : i < 1
  ·rw [if_pos (.inr (.inl h2))] at hq
   subst hq
   simp (disch := first | assumption | omega) only [go_sem, Nat.reduceEqDiff, ↓reduceIte, h4, h2]
   exact retC_by (by repeat' (first | exact Drop.refl _ | with_reducible refine Drop.off ?_ (by assumption))) (.refl _) ⟨rfl, rfl⟩
  ·by_cases h3 : 7 < i
   ·rw [if_pos (.inr (.inr h3))] at hq
    subst hq
    simp (disch := first | assumption | omega) only [go_sem, Nat.reduceEqDiff, ↓reduceIte, h4, h2]
    refine hE.use ?_
    unfold errL
    simp (disch := first | assumption | omega) only [go_sem, Nat.reduceEqDiff, Nat.reduceAdd, ↓reduceIte, h3]
    exact retC_by (by repeat' (first | exact Drop.refl _ | with_reducible refine Drop.off ?_ (by assumption))) (.refl _) ⟨rfl, rfl⟩
   ·rw [if_neg (by omega)] at hq
    have hc : i = 1 ∨ i = 2 ∨ i = 3 ∨ i = 4 ∨ i = 5 ∨ i = 6 ∨ i = 7 := by omega
    subst hq
    rcases hc with rfl | rfl | rfl | rfl | rfl | rfl | rfl
    all_goals
     simp (disch := first | assumption | omega) only [go_sem, Nat.reduceEqDiff, Int.reduceLT, ↓reduceIte, Int.reduceSub, Int.reduceToNat, h4]
     refine hE.use ?_
     unfold errL
     simp (disch := first | assumption | omega) only [go_sem, Nat.reduceEqDiff, Nat.reduceAdd, Int.reduceLT, ↓reduceIte]
     refine hE.use ?_
     unfold errL
     simp (disch := first | assumption | omega) only [go_sem, Nat.reduceEqDiff, ↓reduceIte, Int.reduceSub, Int.reduceToNat]
     exact retC_by (by repeat' (first | exact Drop.refl _ | with_reducible refine Drop.off ?_ (by assumption))) (.refl _) ⟨rfl, rfl⟩
 ·rw [if_pos (.inl h4)] at hq
  subst hq
  simp (disch := first | assumption | omega) only [go_sem, Nat.reduceEqDiff, ↓reduceIte, h4]
  exact retC_by (by repeat' (first | exact Drop.refl _ | with_reducible refine Drop.off ?_ (by assumption))) (.refl _) ⟨rfl, rfl⟩
theorem sizes_take {x : Nd} : ∀ {l : List Nd} {i : Nat}, l[i]? = some x → Nd.sizes (l.take (i + 1)) = Nd.sizes (l.take i) + x.size
 | [], i, h => by simp at h
 | y :: l, 0, h => by simp at h; subst h; simp [Nd.sizes]
 | y :: l, i + 1, h => by
   simp only [List.getElem?_cons_succ] at h
   rw [List.take_succ_cons, List.take_succ_cons, Nd.sizes, Nd.sizes, sizes_take h]
   omega
theorem sizes_le : ∀ (l : List Nd) (i : Nat), Nd.sizes (l.take i) ≤ Nd.sizes l
 | [], i => by simp [Nd.sizes]
 | y :: l, 0 => by simp [Nd.sizes]
 | y :: l, i + 1 => by rw [List.take_succ_cons, Nd.sizes, Nd.sizes]; have := sizes_le l i; omega
theorem sizes_len : ∀ l : List Nd, l.length ≤ Nd.sizes l
 | [] => by simp
 | x :: l => by have := x.size_pos; have := sizes_len l; rw [Nd.sizes, List.length_cons]; omega
theorem depths_take {x : Nd} : ∀ {l : List Nd} {i : Nat}, l[i]? = some x → Nd.depths (l.take (i + 1)) = max (Nd.depths (l.take i)) x.depth
 | [], i, h => by simp at h
 | y :: l, 0, h => by simp at h; subst h; simp [Nd.depths]
 | y :: l, i + 1, h => by
   simp only [List.getElem?_cons_succ] at h
   rw [List.take_succ_cons, List.take_succ_cons, Nd.depths, Nd.depths, depths_take h]
   omega
theorem depths_le : ∀ (l : List Nd), Nd.depths l ≤ Nd.sizes l
 | [] => by simp [Nd.depths]
 | y :: l => by rw [Nd.depths, Nd.sizes]; have := depths_le l; have := y.depth_le_size; omega
theorem depths_take_le : ∀ (l : List Nd) (i : Nat), Nd.depths (l.take i) ≤ Nd.depths l
 | [], i => by simp [Nd.depths]
 | y :: l, 0 => by simp [Nd.depths]
 | y :: l, i + 1 => by rw [List.take_succ_cons, Nd.depths, Nd.depths]; have := depths_take_le l i; omega
theorem size_le_ok : ∀ (k : Nat) (n : Nd), n.size ≤ k → n.size ≤ 1000000000 → Pure Tryz.prog 11 [n.av] (.int .i64 n.size)
 | 0, n, hk, _ => by have := n.size_pos; omega
 | k + 1, n, hk, hbig => by
   intro σ
   have ih := size_le_ok k
   obtain ⟨op, m, s, a, b, kids⟩ := n
   rw [Nd.size] at hk hbig ⊢
   rw [Nd.av_cs]
   have hlen := sizes_len kids
   refine a11 (by simp) ?_
   simp (disch := first | assumption | omega) only [go_sem]
   refine boxC_by rfl fun c hc => ?_
   simp (disch := first | assumption | omega) only [go_sem, Nat.reduceEqDiff, ↓reduceIte]
   refine wp_loop_by (fun (i : Nat) a1 s2 => i ≤ kids.length ∧ (a1 3 = .int .i64 (1 + (Nd.sizes (kids.take i) : Nat)) ∧ a1 7 = .sl .shr (kids.map Nd.av) ∧ a1 8 = .int .i64 kids.length ∧ a1 9 = .int .i64 i) ∧ s2 = σ) (fun i => kids.length - i) 0 (Dr.drop (Drop.set hc) ⟨Nat.zero_le _, ?_, rfl⟩) ?_
   ·simp only [List.take_zero, Nd.sizes]
    simp (disch := first | assumption | omega) only [go_sem, Nat.reduceEqDiff, ↓reduceIte, Int.reduceAdd]
   rintro i a1 s2 ⟨hi, hf, rfl⟩
   have hle := sizes_le kids i
   by_cases hlt : i < kids.length
   ·have hlt' : (i : Int) < kids.length := by omega
    have hx : kids[i]? = some (kids[i]'hlt) := List.getElem?_eq_getElem hlt
    obtain ⟨x, hxe⟩ : ∃ x, kids[i]'hlt = x := ⟨_, rfl⟩
    rw [hxe] at hx
    have hmx := Nd.get hx
    have hst := sizes_take hx
    have hle2 := sizes_le kids (i + 1)
    have hxs := ih x (by omega) (by omega)
    obtain ⟨xo, xm, xs, xa, xb, xk⟩ := x
    rw [Nd.av_cs] at hmx hxs
    generalize (Nd.mk xo xm xs xa xb xk).size = z at *
    have e : (1 + ((Nd.sizes (kids.take i) : Nat) : Int)) + (z : Int) = 1 + ((Nd.sizes (kids.take (i + 1)) : Nat) : Int) := by omega
    generalize Nd.sizes (kids.take i) = u at *
    obtain ⟨v, hv⟩ : ∃ v, Nd.sizes (kids.take (i + 1)) = v := ⟨_, rfl⟩
    rw [hv] at e
    generalize kids.map Nd.av = L at *
    simp (disch := first | assumption | omega) only [go_sem, Nat.reduceEqDiff, Nat.reduceLeDiff, ↓reduceIte, hf, hlt', hmx]
    refine allocC_by fun d hd => ?_
    simp (disch := first | assumption | omega) only [go_sem, Nat.reduceEqDiff, Nat.reduceAdd, Nat.reduceLeDiff, ↓reduceIte, hf, ASt.set_set]
    refine hxs.use ?_
    simp (disch := first | assumption | omega) only [go_sem, Nat.reduceEqDiff, ↓reduceIte, hf, e]
    refine ⟨i + 1, by dsimp only; omega, Dr.drop (Drop.set hd) ⟨by omega, ?_, rfl⟩⟩
    rw [hv]
    simp (disch := first | assumption | omega) only [go_sem, Nat.reduceEqDiff, ↓reduceIte, hf]
   ·have hlt' : ¬ (i : Int) < kids.length := by omega
    rw [List.take_of_length_le (by omega)] at hf
    generalize Nd.sizes kids = u at *
    simp (disch := first | assumption | omega) only [go_sem, Nat.reduceEqDiff, ↓reduceIte, hf, hlt']
    exact retC_by (by repeat' (first | exact Drop.refl _ | with_reducible refine Drop.off ?_ (by assumption))) (.refl _) ⟨rfl, rfl⟩
theorem nsize_ok (n : Nd) (h : n.size ≤ 1000000000) : Pure Tryz.prog 11 [n.av] (.int .i64 n.size) := size_le_ok n.size n (Nat.le_refl _) h
theorem depth_le_ok : ∀ (k : Nat) (n : Nd), n.size ≤ k → n.size ≤ 1000000000 → Pure Tryz.prog 13 [n.av] (.int .i64 n.depth)
 | 0, n, hk, _ => by have := n.size_pos; omega
 | k + 1, n, hk, hbig => by
   intro σ
   have ih := depth_le_ok k
   have hdd := n.depth_le_size
   obtain ⟨op, m, s, a, b, kids⟩ := n
   rw [Nd.size] at hk hbig hdd
   rw [Nd.depth] at hdd ⊢
   rw [Nd.av_cs]
   have hlen := sizes_len kids
   have hdl := depths_le kids
   refine a13 (by simp) ?_
   simp (disch := first | assumption | omega) only [go_sem]
   refine boxC_by rfl fun c hc => ?_
   simp (disch := first | assumption | omega) only [go_sem, Nat.reduceEqDiff, ↓reduceIte]
   refine wp_loop_by (fun (i : Nat) a1 s2 => i ≤ kids.length ∧ (a1 3 = .int .i64 (Nd.depths (kids.take i) : Nat) ∧ a1 7 = .sl .shr (kids.map Nd.av) ∧ a1 8 = .int .i64 kids.length ∧ a1 9 = .int .i64 i) ∧ s2 = σ) (fun i => kids.length - i) 0 (Dr.drop (Drop.set hc) ⟨Nat.zero_le _, ?_, rfl⟩) ?_
   ·simp only [List.take_zero, Nd.depths]
    simp (disch := first | assumption | omega) only [go_sem, Nat.reduceEqDiff, ↓reduceIte]
   rintro i a1 s2 ⟨hi, hf, rfl⟩
   have hle := depths_take_le kids i
   by_cases hlt : i < kids.length
   ·have hlt' : (i : Int) < kids.length := by omega
    have hx : kids[i]? = some (kids[i]'hlt) := List.getElem?_eq_getElem hlt
    obtain ⟨x, hxe⟩ : ∃ x, kids[i]'hlt = x := ⟨_, rfl⟩
    rw [hxe] at hx
    have hmx := Nd.get hx
    have hst := depths_take hx
    have hsz := Nd.size_kid (List.mem_of_getElem? hx)
    have hxs := ih x (by omega) (by omega)
    obtain ⟨xo, xm, xs, xa, xb, xk⟩ := x
    rw [Nd.av_cs] at hmx hxs
    generalize (Nd.mk xo xm xs xa xb xk).depth = z at *
    have e : max ((Nd.depths (kids.take i) : Nat) : Int) (z : Int) = ((Nd.depths (kids.take (i + 1)) : Nat) : Int) := by omega
    generalize Nd.depths (kids.take i) = u at *
    obtain ⟨v, hv⟩ : ∃ v, Nd.depths (kids.take (i + 1)) = v := ⟨_, rfl⟩
    rw [hv] at e
    generalize kids.map Nd.av = L at *
    simp (disch := first | assumption | omega) only [go_sem, Nat.reduceEqDiff, Nat.reduceLeDiff, ↓reduceIte, hf, hlt', hmx]
    refine allocC_by fun d hd => ?_
    simp (disch := first | assumption | omega) only [go_sem, Nat.reduceEqDiff, Nat.reduceAdd, Nat.reduceLeDiff, ↓reduceIte, hf, ASt.set_set]
    refine hxs.use ?_
    simp (disch := first | assumption | omega) only [go_sem, Nat.reduceEqDiff, ↓reduceIte, hf, e]
    refine ⟨i + 1, by dsimp only; omega, Dr.drop (Drop.set hd) ⟨by omega, ?_, rfl⟩⟩
    rw [hv]
    simp (disch := first | assumption | omega) only [go_sem, Nat.reduceEqDiff, ↓reduceIte, hf]
   ·have hlt' : ¬ (i : Int) < kids.length := by omega
    rw [List.take_of_length_le (by omega)] at hf
    generalize Nd.depths kids = u at *
    simp (disch := first | assumption | omega) only [go_sem, Nat.reduceEqDiff, ↓reduceIte, hf, hlt']
    exact retC_by (by repeat' (first | exact Drop.refl _ | with_reducible refine Drop.off ?_ (by assumption))) (.refl _) ⟨rfl, rfl⟩
theorem ndepth_ok (n : Nd) (h : n.size ≤ 1000000000) : Pure Tryz.prog 13 [n.av] (.int .i64 n.depth) := depth_le_ok n.size n (Nat.le_refl _) h
end Go.A
namespace Go.A
open Go.Proofs
/-! 25: tabular/expr.spell -/
def c25_0 : ACode := .ops [
 ⟨some 3, none, .e (.box (.t 1)), []⟩]
def c25_1 : ACode := .ops [
 ⟨some 7, none, .q (.fa 0 (.t 3)), []⟩,
 ⟨some 8, none, .q (.ld none (.t 7)), []⟩]
def c25_2 : ACode := .ops [
 ⟨some 36, none, .q (.bin .eql (.t 8) (.v (.int .i64 1))), []⟩,
 ⟨some 35, none, .q (.mv (.t 36)), []⟩]
def c25_3 : ACode := .ops [
 ⟨some 37, none, .q (.mv (.t 0)), []⟩,
 ⟨some 38, none, .q (.fa 1 (.t 3)), []⟩,
 ⟨some 39, none, .q (.ld none (.t 38)), []⟩,
 ⟨some 40, none, .e (.call 49 [(.t 39)]), []⟩,
 ⟨some 41, none, .e (.call 48 [(.t 37), (.t 40)]), []⟩]
def c25_4 : ACode := .ops [
 ⟨some 43, none, .q (.bin .eql (.t 8) (.v (.int .i64 2))), []⟩,
 ⟨some 42, none, .q (.mv (.t 43)), []⟩]
def c25_5 : ACode := .ops [
 ⟨some 44, none, .q (.mv (.t 0)), []⟩,
 ⟨some 45, none, .q (.fa 2 (.t 3)), []⟩,
 ⟨some 46, none, .q (.ld none (.t 45)), []⟩,
 ⟨some 47, none, .e (.call 50 [(.t 46)]), []⟩,
 ⟨some 48, none, .e (.call 48 [(.t 44), (.t 47)]), []⟩]
def c25_6 : ACode := .ops [
 ⟨some 50, none, .q (.bin .eql (.t 8) (.v (.int .i64 3))), []⟩,
 ⟨some 49, none, .q (.mv (.t 50)), []⟩]
def c25_7 : ACode := .ops [
 ⟨some 51, none, .q (.mv (.t 0)), []⟩,
 ⟨some 52, none, .q (.fa 1 (.t 3)), []⟩,
 ⟨some 53, none, .q (.ld none (.t 52)), []⟩,
 ⟨some 54, none, .q (.bin .neq (.t 53) (.v (.int .i64 0))), []⟩,
 ⟨some 55, none, .e (.call 51 [(.t 54)]), []⟩,
 ⟨some 56, none, .e (.call 48 [(.t 51), (.t 55)]), []⟩]
def c25_8 : ACode := .ops [
 ⟨some 58, none, .q (.bin .eql (.t 8) (.v (.int .i64 4))), []⟩,
 ⟨some 57, none, .q (.mv (.t 58)), []⟩]
def c25_9 : ACode := .ops [
 ⟨some 59, none, .q (.mv (.t 0)), []⟩,
 ⟨some 60, none, .q (.ld (some 12) (.t 3)), []⟩,
 ⟨some 61, none, .e (.call 23 [(.t 60)]), []⟩,
 ⟨some 62, none, .e (.call 48 [(.t 59), (.t 61)]), []⟩]
def c25_10 : ACode := .ops [
 ⟨some 64, none, .q (.bin .eql (.t 8) (.v (.int .i64 5))), []⟩,
 ⟨some 63, none, .q (.mv (.t 64)), []⟩]
def c25_11 : ACode := .ops [
 ⟨some 65, none, .q (.mv (.t 0)), []⟩,
 ⟨some 66, none, .q (.fa 3 (.t 3)), []⟩,
 ⟨some 67, none, .q (.ld (some 4) (.t 66)), []⟩,
 ⟨some 68, none, .e (.call 52 [(.t 67)]), []⟩,
 ⟨some 69, none, .e (.call 48 [(.t 65), (.t 68)]), []⟩]
def c25_12 : ACode := .ops [
 ⟨some 71, none, .q (.bin .eql (.t 8) (.v (.int .i64 6))), []⟩,
 ⟨some 70, none, .q (.mv (.t 71)), []⟩]
def c25_13 : ACode := .ops [
 ⟨some 72, none, .q (.mv (.t 0)), []⟩,
 ⟨some 73, none, .q (.fa 3 (.t 3)), []⟩,
 ⟨some 74, none, .q (.ld (some 4) (.t 73)), []⟩,
 ⟨some 75, none, .q (.fa 7 (.t 3)), []⟩,
 ⟨some 76, none, .q (.ld (some 4) (.t 75)), []⟩,
 ⟨some 77, none, .q (.build [(.int .i64 0), (.int .i64 0), (.bool false), (.bool false), (.int .i64 0), (.int .i64 0), (.bool false), (.bool false)] [(0, 4, (.t 74)), (4, 4, (.t 76))]), []⟩,
 ⟨some 78, none, .e (.call 53 [(.t 77)]), []⟩,
 ⟨some 79, none, .e (.call 48 [(.t 72), (.t 78)]), []⟩]
def c25_14 : ACode := .ops [
 ⟨some 81, none, .q (.bin .eql (.t 8) (.v (.int .i64 7))), []⟩,
 ⟨some 80, none, .q (.mv (.t 81)), []⟩]
def c25_15 : ACode := .ops [
 ⟨some 82, none, .q (.bin .eql (.t 8) (.v (.int .i64 8))), []⟩,
 ⟨some 80, none, .q (.mv (.t 82)), []⟩]
def c25_16 : ACode := .cond (.t 80) .skip c25_15
def c25_17 : ACode := .seq c25_14 c25_16
def c25_18 : ACode := .ops [
 ⟨some 83, none, .q (.mv (.t 0)), []⟩,
 ⟨some 84, none, .q (.fa 0 (.t 3)), []⟩,
 ⟨some 85, none, .q (.ld none (.t 84)), []⟩,
 ⟨some 86, none, .q (.bin .sub (.t 85) (.v (.int .i64 7))), []⟩,
 ⟨some 87, none, .q (.idx (.v (.str [45, 43])) (.t 86)), []⟩,
 ⟨some 88, none, .e (.call 54 [(.t 83), (.t 87)]), []⟩]
def c25_19 : ACode := .ops [
 ⟨some 89, none, .q (.mv (.t 0)), []⟩,
 ⟨some 90, none, .q (.fa 11 (.t 3)), []⟩,
 ⟨some 91, none, .q (.ld none (.t 90)), []⟩,
 ⟨some 92, none, .q (.ia 12 (.t 91) (.v (.int .i64 0))), []⟩,
 ⟨some 93, none, .q (.ld (some 12) (.t 92)), []⟩,
 ⟨some 94, none, .e (.call 55 [(.t 89), (.t 93), (.v (.int .i64 6))]), []⟩]
def c25_20 : ACode := .seq c25_18 c25_19
def c25_21 : ACode := .ops [
 ⟨some 96, none, .q (.bin .eql (.t 8) (.v (.int .i64 9))), []⟩,
 ⟨some 95, none, .q (.mv (.t 96)), []⟩]
def c25_22 : ACode := .ops [
 ⟨some 97, none, .q (.mv (.t 0)), []⟩,
 ⟨some 98, none, .q (.fa 11 (.t 3)), []⟩,
 ⟨some 99, none, .q (.ld none (.t 98)), []⟩,
 ⟨some 100, none, .q (.ia 12 (.t 99) (.v (.int .i64 0))), []⟩,
 ⟨some 101, none, .q (.ld (some 12) (.t 100)), []⟩,
 ⟨some 102, none, .e (.call 55 [(.t 97), (.t 101), (.v (.int .i64 7))]), []⟩]
def c25_23 : ACode := .ops [
 ⟨some 103, none, .q (.mv (.t 0)), []⟩,
 ⟨some 104, none, .e (.call 54 [(.t 103), (.v (.int .u8 37))]), []⟩]
def c25_24 : ACode := .seq c25_22 c25_23
def c25_25 : ACode := .ops [
 ⟨some 106, none, .q (.bin .eql (.t 8) (.v (.int .i64 22))), []⟩,
 ⟨some 105, none, .q (.mv (.t 106)), []⟩]
def c25_26 : ACode := .ops [
 ⟨some 107, none, .q (.mv (.t 0)), []⟩,
 ⟨some 108, none, .q (.fa 2 (.t 3)), []⟩,
 ⟨some 109, none, .q (.ld none (.t 108)), []⟩,
 ⟨some 110, none, .e (.call 48 [(.t 107), (.t 109)]), []⟩]
def c25_27 : ACode := .ops [
 ⟨some 111, none, .q (.mv (.t 0)), []⟩,
 ⟨some 112, none, .e (.call 54 [(.t 111), (.v (.int .u8 40))]), []⟩]
def c25_28 : ACode := .ops [
 ⟨some 113, none, .q (.fa 11 (.t 3)), []⟩,
 ⟨some 114, none, .q (.ld none (.t 113)), []⟩,
 ⟨some 115, none, .q (.len (.t 114)), []⟩,
 ⟨some 116, none, .q (.mv (.v (.int .i64 0))), []⟩]
def c25_29 : ACode := .ops [
 ⟨some 117, none, .q (.bin .lss (.t 116) (.t 115)), []⟩]
def c25_30 : ACode := .cond (.t 117) .skip (.exit 1)
def c25_31 : ACode := .ops [
 ⟨some 118, none, .q (.mv (.t 116)), []⟩,
 ⟨some 119, none, .q (.ia 12 (.t 114) (.t 116)), []⟩,
 ⟨some 120, none, .q (.ld (some 12) (.t 119)), []⟩,
 ⟨some 5, none, .e (.alloc [(.int .i64 0), (.int .i64 0), (.str []), (.int .i64 0), (.int .i64 0), (.bool false), (.bool false), (.int .i64 0), (.int .i64 0), (.bool false), (.bool false), (.sl .full [])]), []⟩,
 ⟨some 4, none, .q (.mv (.t 118)), []⟩,
 ⟨none, none, .e (.store 12 (.t 5) (.t 120)), []⟩]
def c25_32 : ACode := .ops [
 ⟨some 121, none, .q (.mv (.t 4)), []⟩,
 ⟨some 122, none, .q (.bin .gtr (.t 121) (.v (.int .i64 0))), []⟩]
def c25_33 : ACode := .ops [
 ⟨some 123, none, .q (.mv (.t 0)), []⟩,
 ⟨some 124, none, .e (.call 54 [(.t 123), (.v (.int .u8 44))]), []⟩]
def c25_34 : ACode := .cond (.t 122) c25_33 .skip
def c25_35 : ACode := .seq c25_32 c25_34
def c25_36 : ACode := .ops [
 ⟨some 125, none, .q (.mv (.t 0)), []⟩,
 ⟨some 126, none, .q (.ld (some 12) (.t 5)), []⟩,
 ⟨some 127, none, .e (.call 25 [(.t 125), (.t 126)]), []⟩]
def c25_37 : ACode := .seq c25_35 c25_36
def c25_38 : ACode := .seq c25_31 c25_37
def c25_39 : ACode := .block 2 c25_38
def c25_40 : ACode := .ops [
 ⟨some 128, none, .q (.bin .add (.t 116) (.v (.int .i64 1))), []⟩,
 ⟨some 116, none, .q (.mv (.t 128)), []⟩]
def c25_41 : ACode := .seq c25_39 c25_40
def c25_42 : ACode := .seq c25_30 c25_41
def c25_43 : ACode := .seq c25_29 c25_42
def c25_44 : ACode := .loop c25_43
def c25_45 : ACode := .block 1 c25_44
def c25_46 : ACode := .seq c25_28 c25_45
def c25_47 : ACode := .ops [
 ⟨some 129, none, .q (.mv (.t 0)), []⟩,
 ⟨some 130, none, .e (.call 54 [(.t 129), (.v (.int .u8 41))]), []⟩]
def c25_48 : ACode := .seq c25_46 c25_47
def c25_49 : ACode := .seq c25_27 c25_48
def c25_50 : ACode := .seq c25_26 c25_49
def c25_51 : ACode := .ops [
 ⟨some 132, none, .q (.bin .eql (.t 8) (.v (.int .i64 23))), []⟩,
 ⟨some 131, none, .q (.mv (.t 132)), []⟩]
def c25_52 : ACode := .ops [
 ⟨some 9, none, .q (.fa 0 (.t 3)), []⟩,
 ⟨some 10, none, .q (.ld none (.t 9)), []⟩,
 ⟨some 11, none, .e (.call 56 [(.t 10)]), []⟩,
 ⟨some 6, none, .q (.mv (.t 11)), []⟩]
def c25_53 : ACode := .ops [
 ⟨some 12, none, .q (.mv (.t 0)), []⟩,
 ⟨some 13, none, .q (.fa 11 (.t 3)), []⟩,
 ⟨some 14, none, .q (.ld none (.t 13)), []⟩,
 ⟨some 15, none, .q (.ia 12 (.t 14) (.v (.int .i64 0))), []⟩,
 ⟨some 16, none, .q (.ld (some 12) (.t 15)), []⟩,
 ⟨some 17, none, .q (.mv (.t 6)), []⟩,
 ⟨some 18, none, .e (.call 55 [(.t 12), (.t 16), (.t 17)]), []⟩]
def c25_54 : ACode := .ops [
 ⟨some 19, none, .q (.mv (.t 0)), []⟩,
 ⟨some 21, none, .q (.fa 0 (.t 3)), []⟩,
 ⟨some 22, none, .q (.ld none (.t 21)), []⟩,
 ⟨some 23, none, .q (.bin .sub (.t 22) (.v (.int .i64 10))), []⟩,
 ⟨some 20, none, .e (.call 18 []), [⟨none, .ld none (.t 21), 22⟩]⟩,
 ⟨some 24, none, .q (.ia 1 (.t 20) (.t 23)), []⟩,
 ⟨some 25, none, .q (.ld none (.t 24)), []⟩,
 ⟨some 26, none, .e (.call 48 [(.t 19), (.t 25)]), []⟩]
def c25_55 : ACode := .ops [
 ⟨some 27, none, .q (.mv (.t 0)), []⟩,
 ⟨some 28, none, .q (.fa 11 (.t 3)), []⟩,
 ⟨some 29, none, .q (.ld none (.t 28)), []⟩,
 ⟨some 30, none, .q (.ia 12 (.t 29) (.v (.int .i64 1))), []⟩,
 ⟨some 31, none, .q (.ld (some 12) (.t 30)), []⟩,
 ⟨some 32, none, .q (.mv (.t 6)), []⟩,
 ⟨some 33, none, .q (.bin .add (.t 32) (.v (.int .i64 1))), []⟩,
 ⟨some 34, none, .e (.call 55 [(.t 27), (.t 31), (.t 33)]), []⟩]
def c25_56 : ACode := .seq c25_54 c25_55
def c25_57 : ACode := .seq c25_53 c25_56
def c25_58 : ACode := .seq c25_52 c25_57
def c25_59 : ACode := .cond (.t 131) .skip c25_58
def c25_60 : ACode := .seq c25_51 c25_59
def c25_61 : ACode := .cond (.t 105) c25_50 c25_60
def c25_62 : ACode := .seq c25_25 c25_61
def c25_63 : ACode := .cond (.t 95) c25_24 c25_62
def c25_64 : ACode := .seq c25_21 c25_63
def c25_65 : ACode := .cond (.t 80) c25_20 c25_64
def c25_66 : ACode := .seq c25_17 c25_65
def c25_67 : ACode := .cond (.t 70) c25_13 c25_66
def c25_68 : ACode := .seq c25_12 c25_67
def c25_69 : ACode := .cond (.t 63) c25_11 c25_68
def c25_70 : ACode := .seq c25_10 c25_69
def c25_71 : ACode := .cond (.t 57) c25_9 c25_70
def c25_72 : ACode := .seq c25_8 c25_71
def c25_73 : ACode := .cond (.t 49) c25_7 c25_72
def c25_74 : ACode := .seq c25_6 c25_73
def c25_75 : ACode := .cond (.t 42) c25_5 c25_74
def c25_76 : ACode := .seq c25_4 c25_75
def c25_77 : ACode := .cond (.t 35) c25_3 c25_76
def c25_78 : ACode := .seq c25_2 c25_77
def c25_79 : ACode := .block 0 c25_78
def c25_80 : ACode := .seq c25_1 c25_79
def c25_81 : ACode := .seq c25_0 c25_80
@[go_sem] def c25_0_wp := wp_of c25_0.eq_1
@[go_sem] def c25_1_wp := wp_of c25_1.eq_1
@[go_sem] def c25_2_wp := wp_of c25_2.eq_1
@[go_sem] def c25_3_wp := wp_of c25_3.eq_1
@[go_sem] def c25_4_wp := wp_of c25_4.eq_1
@[go_sem] def c25_5_wp := wp_of c25_5.eq_1
@[go_sem] def c25_6_wp := wp_of c25_6.eq_1
@[go_sem] def c25_7_wp := wp_of c25_7.eq_1
@[go_sem] def c25_8_wp := wp_of c25_8.eq_1
@[go_sem] def c25_9_wp := wp_of c25_9.eq_1
@[go_sem] def c25_10_wp := wp_of c25_10.eq_1
@[go_sem] def c25_11_wp := wp_of c25_11.eq_1
@[go_sem] def c25_12_wp := wp_of c25_12.eq_1
@[go_sem] def c25_13_wp := wp_of c25_13.eq_1
@[go_sem] def c25_14_wp := wp_of c25_14.eq_1
@[go_sem] def c25_15_wp := wp_of c25_15.eq_1
@[go_sem] def c25_16_wp := wp_of c25_16.eq_1
@[go_sem] def c25_17_wp := wp_of c25_17.eq_1
@[go_sem] def c25_18_wp := wp_of c25_18.eq_1
@[go_sem] def c25_19_wp := wp_of c25_19.eq_1
@[go_sem] def c25_20_wp := wp_of c25_20.eq_1
@[go_sem] def c25_21_wp := wp_of c25_21.eq_1
@[go_sem] def c25_22_wp := wp_of c25_22.eq_1
@[go_sem] def c25_23_wp := wp_of c25_23.eq_1
@[go_sem] def c25_24_wp := wp_of c25_24.eq_1
@[go_sem] def c25_25_wp := wp_of c25_25.eq_1
@[go_sem] def c25_26_wp := wp_of c25_26.eq_1
@[go_sem] def c25_27_wp := wp_of c25_27.eq_1
@[go_sem] def c25_28_wp := wp_of c25_28.eq_1
@[go_sem] def c25_29_wp := wp_of c25_29.eq_1
@[go_sem] def c25_30_wp := wp_of c25_30.eq_1
@[go_sem] def c25_31_wp := wp_of c25_31.eq_1
@[go_sem] def c25_32_wp := wp_of c25_32.eq_1
@[go_sem] def c25_33_wp := wp_of c25_33.eq_1
@[go_sem] def c25_34_wp := wp_of c25_34.eq_1
@[go_sem] def c25_35_wp := wp_of c25_35.eq_1
@[go_sem] def c25_36_wp := wp_of c25_36.eq_1
@[go_sem] def c25_37_wp := wp_of c25_37.eq_1
@[go_sem] def c25_38_wp := wp_of c25_38.eq_1
@[go_sem] def c25_39_wp := wp_of c25_39.eq_1
@[go_sem] def c25_40_wp := wp_of c25_40.eq_1
@[go_sem] def c25_41_wp := wp_of c25_41.eq_1
@[go_sem] def c25_42_wp := wp_of c25_42.eq_1
@[go_sem] def c25_43_wp := wp_of c25_43.eq_1
@[go_sem] def c25_44_wp := wp_of c25_44.eq_1
@[go_sem] def c25_45_wp := wp_of c25_45.eq_1
@[go_sem] def c25_46_wp := wp_of c25_46.eq_1
@[go_sem] def c25_47_wp := wp_of c25_47.eq_1
@[go_sem] def c25_48_wp := wp_of c25_48.eq_1
@[go_sem] def c25_49_wp := wp_of c25_49.eq_1
@[go_sem] def c25_50_wp := wp_of c25_50.eq_1
@[go_sem] def c25_51_wp := wp_of c25_51.eq_1
@[go_sem] def c25_52_wp := wp_of c25_52.eq_1
@[go_sem] def c25_53_wp := wp_of c25_53.eq_1
@[go_sem] def c25_54_wp := wp_of c25_54.eq_1
@[go_sem] def c25_55_wp := wp_of c25_55.eq_1
@[go_sem] def c25_56_wp := wp_of c25_56.eq_1
@[go_sem] def c25_57_wp := wp_of c25_57.eq_1
@[go_sem] def c25_58_wp := wp_of c25_58.eq_1
@[go_sem] def c25_59_wp := wp_of c25_59.eq_1
@[go_sem] def c25_60_wp := wp_of c25_60.eq_1
@[go_sem] def c25_61_wp := wp_of c25_61.eq_1
@[go_sem] def c25_62_wp := wp_of c25_62.eq_1
@[go_sem] def c25_63_wp := wp_of c25_63.eq_1
@[go_sem] def c25_64_wp := wp_of c25_64.eq_1
@[go_sem] def c25_65_wp := wp_of c25_65.eq_1
@[go_sem] def c25_66_wp := wp_of c25_66.eq_1
@[go_sem] def c25_67_wp := wp_of c25_67.eq_1
@[go_sem] def c25_68_wp := wp_of c25_68.eq_1
@[go_sem] def c25_69_wp := wp_of c25_69.eq_1
@[go_sem] def c25_70_wp := wp_of c25_70.eq_1
@[go_sem] def c25_71_wp := wp_of c25_71.eq_1
@[go_sem] def c25_72_wp := wp_of c25_72.eq_1
@[go_sem] def c25_73_wp := wp_of c25_73.eq_1
@[go_sem] def c25_74_wp := wp_of c25_74.eq_1
@[go_sem] def c25_75_wp := wp_of c25_75.eq_1
@[go_sem] def c25_76_wp := wp_of c25_76.eq_1
@[go_sem] def c25_77_wp := wp_of c25_77.eq_1
@[go_sem] def c25_78_wp := wp_of c25_78.eq_1
@[go_sem] def c25_79_wp := wp_of c25_79.eq_1
@[go_sem] def c25_80_wp := wp_of c25_80.eq_1
@[go_sem] def c25_81_wp := wp_of c25_81.eq_1
def c25 : AFn := ⟨133, [], c25_81⟩
theorem c25_ok : compF Tryz.prog Tryz.f25 = some c25 := by kernel_rfl
theorem a25 {args : List AV} {σ : ASt} {R : AV → ASt → Prop} (hl : args.length ≤ 133) (h : c25_81.wp Tryz.prog (RetQ [] R) (init args) σ) : ACalls Tryz.prog 25 args σ R := acalls_of Tryz.func25 c25_ok hl h
/-! 55: tabular/expr.inside -/
def c55_0 : ACode := .ops [
 ⟨some 4, none, .e (.box (.t 1)), []⟩]
def c55_1 : ACode := .ops [
 ⟨some 6, none, .q (.fa 0 (.t 4)), []⟩,
 ⟨some 7, none, .q (.ld none (.t 6)), []⟩,
 ⟨some 8, none, .e (.call 56 [(.t 7)]), []⟩,
 ⟨some 9, none, .q (.mv (.t 2)), []⟩,
 ⟨some 10, none, .q (.bin .geq (.t 8) (.t 9)), []⟩]
def c55_2 : ACode := .ops [
 ⟨some 11, none, .q (.mv (.t 0)), []⟩,
 ⟨some 12, none, .q (.ld (some 12) (.t 4)), []⟩,
 ⟨some 13, none, .e (.call 25 [(.t 11), (.t 12)]), []⟩]
def c55_3 : ACode := .seq c55_2 .ret
def c55_4 : ACode := .cond (.t 10) c55_3 .skip
def c55_5 : ACode := .seq c55_1 c55_4
def c55_6 : ACode := .ops [
 ⟨some 14, none, .q (.mv (.t 0)), []⟩,
 ⟨some 15, none, .e (.call 54 [(.t 14), (.v (.int .u8 40))]), []⟩]
def c55_7 : ACode := .ops [
 ⟨some 16, none, .q (.mv (.t 0)), []⟩,
 ⟨some 17, none, .q (.ld (some 12) (.t 4)), []⟩,
 ⟨some 18, none, .e (.call 25 [(.t 16), (.t 17)]), []⟩]
def c55_8 : ACode := .ops [
 ⟨some 19, none, .q (.mv (.t 0)), []⟩,
 ⟨some 20, none, .e (.call 54 [(.t 19), (.v (.int .u8 41))]), []⟩]
def c55_9 : ACode := .seq c55_7 c55_8
def c55_10 : ACode := .seq c55_6 c55_9
def c55_11 : ACode := .seq c55_5 c55_10
def c55_12 : ACode := .seq c55_0 c55_11
@[go_sem] def c55_0_wp := wp_of c55_0.eq_1
@[go_sem] def c55_1_wp := wp_of c55_1.eq_1
@[go_sem] def c55_2_wp := wp_of c55_2.eq_1
@[go_sem] def c55_3_wp := wp_of c55_3.eq_1
@[go_sem] def c55_4_wp := wp_of c55_4.eq_1
@[go_sem] def c55_5_wp := wp_of c55_5.eq_1
@[go_sem] def c55_6_wp := wp_of c55_6.eq_1
@[go_sem] def c55_7_wp := wp_of c55_7.eq_1
@[go_sem] def c55_8_wp := wp_of c55_8.eq_1
@[go_sem] def c55_9_wp := wp_of c55_9.eq_1
@[go_sem] def c55_10_wp := wp_of c55_10.eq_1
@[go_sem] def c55_11_wp := wp_of c55_11.eq_1
@[go_sem] def c55_12_wp := wp_of c55_12.eq_1
def c55 : AFn := ⟨21, [], c55_12⟩
theorem c55_ok : compF Tryz.prog Tryz.f55 = some c55 := by kernel_rfl
theorem a55 {args : List AV} {σ : ASt} {R : AV → ASt → Prop} (hl : args.length ≤ 21) (h : c55_12.wp Tryz.prog (RetQ [] R) (init args) σ) : ACalls Tryz.prog 55 args σ R := acalls_of Tryz.func55 c55_ok hl h
end Go.A
namespace Go.A
open Go.Proofs Go.Lib
theorem BD.tab {σ0 σ : ASt} {b : Nat} {l : List UInt8} (h : BD σ0 b l σ) (hb : σ0 b = none) (hT : Tab σ0) : Tab σ := h.at (by intro e; unfold Tab at hT; rw [e, hb] at hT; cases hT) hT
theorem BD.maxL {σ0 σ : ASt} {b : Nat} {l : List UInt8} (h : BD σ0 b l σ) (hb : σ0 b = none) (hM : MaxL σ0) : MaxL σ := by
 obtain ⟨m, hm⟩ := hM
 exact ⟨m, h.at (by intro e; rw [e, hb] at hm; cases hm) hm⟩
theorem MaxL.set {σ : ASt} {b : Nat} {r : Option Role} (h : MaxL σ) (hb : σ b = none) : MaxL (σ.set b r) := by
 obtain ⟨m, hm⟩ := h
 exact ⟨m, by rw [ASt.set_ne]; exact hm; intro e; rw [e, hb] at hm; cases hm⟩
def SpellOk (n : Nd) : Prop := ∀ (σ0 σ : ASt) (b : Nat) (l : List UInt8), BD σ0 b l σ → σ0 b = none → Tab σ0 → MaxL σ0 → l.length + n.spell.length ≤ 900000000 →
  ACalls Tryz.prog 25 [.ptr b 0, n.av] σ fun v σ' => v = .tuple [] ∧ BD σ0 b (l ++ n.spell) σ'
theorem inside_ok {n : Nd} (hs : SpellOk n) (ho : 1 ≤ n.op ∧ n.op ≤ 23) (least : Int) {σ0 σ : ASt} {b : Nat} {l : List UInt8} (h : BD σ0 b l σ) (hb : σ0 b = none) (hT : Tab σ0) (hM : MaxL σ0) (hl : l.length + (insT least n.op n.spell).length ≤ 900000000) :
  ACalls Tryz.prog 55 [.ptr b 0, n.av, .int .i64 least] σ fun v σ' => v = .tuple [] ∧ BD σ0 b (l ++ insT least n.op n.spell) σ' := by
 have hL := level_ok n.op (by omega) (by omega)
 have hS : ∀ {σ0 σ : ASt} {b : Nat} {l : List UInt8}, BD σ0 b l σ → σ0 b = none → Tab σ0 → MaxL σ0 → l.length + n.spell.length ≤ 900000000 →
  ACalls Tryz.prog 25 [.ptr b 0, n.av] σ fun v σ' => v = .tuple [] ∧ BD σ0 b (l ++ n.spell) σ' := fun {_ _ _ _} => hs _ _ _ _
 clear hs
 obtain ⟨op, m, s, a, d, kids⟩ := n
 rw [Nd.av_cs] at hS ⊢
 generalize (Nd.mk op m s a d kids).spell = t at *
 simp only [Nd.op] at hL hl ho ⊢
 generalize kids.map Nd.av = L at *
 refine a55 (by simp) ?_
 simp (disch := first | assumption | omega) only [go_sem]
 refine boxC_by rfl fun c hc => ?_
 obtain ⟨hB, hcb, hc0⟩ := h.add hc (r := .obj (Nd.cs op m s a d L))
 have hb1 : (σ0.set c (some (.obj (Nd.cs op m s a d L)))) b = none := by rw [ASt.set_ne (Ne.symm hcb)]; exact hb
 have hT1 := hT.set hc0 (r := some (.obj (Nd.cs op m s a d L)))
 have hM1 := hM.set hc0 (r := some (.obj (Nd.cs op m s a d L)))
 have hcell : ∀ {l' : List UInt8} {σ1 : ASt}, BD (σ0.set c (some (.obj (Nd.cs op m s a d L)))) b l' σ1 → σ1 c = some (.obj (Nd.cs op m s a d L)) := fun h => h.at hcb (ASt.set_same _ _ _)
 have hoff : ∀ {l' : List UInt8} {σ1 : ASt}, BD (σ0.set c (some (.obj (Nd.cs op m s a d L)))) b l' σ1 → ∃ σ', Drop σ1 σ' ∧ BD σ0 b l' σ' := fun h => h.off hcb hc0
 have hc1 := hcell hB
 rw [cells_agg]
 generalize σ0.set c (some (.obj (Nd.cs op m s a d L))) = τ at hB hb1 hT1 hM1 hcell hoff
 generalize σ.set c (some (.obj (Nd.cs op m s a d L))) = σ1 at hB hc1 ⊢
 unfold insT at hl ⊢
 by_cases hlv : least ≤ levelP op
 ·rw [if_pos hlv] at hl ⊢
  generalize levelP op = lv at *
  simp (disch := first | assumption | omega) only [go_sem, ↓reduceIte, hc1]
  refine hL.use ?_
  simp (disch := first | assumption | omega) only [go_sem, reduceCtorEq, Nat.reduceEqDiff, Nat.reduceLeDiff, ↓reduceIte, hc1, hlv]
  refine (hS hB hb1 hT1 hM1 hl).mono ?_
  rintro v σ2 ⟨rfl, hB2⟩
  simp (disch := first | assumption | omega) only [go_sem]
  obtain ⟨σ3, hd, hB3⟩ := hoff hB2
  exact retC_by hd (.refl _) ⟨rfl, hB3⟩
 ·rw [if_neg hlv] at hl ⊢
  generalize levelP op = lv at *
  simp only [List.length_append, List.length_cons, List.length_nil] at hl
  simp (disch := first | assumption | omega) only [go_sem, ↓reduceIte, hc1]
  refine hL.use ?_
  simp (disch := first | assumption | omega) only [go_sem, reduceCtorEq, Nat.reduceEqDiff, ↓reduceIte, hlv]
  refine (writeByte_ok hB 40 (by omega)).mono ?_
  rintro v σ2 ⟨rfl, hB2⟩
  have hc2 := hcell hB2
  simp (disch := first | assumption | omega) only [go_sem, reduceCtorEq, Nat.reduceEqDiff, Nat.reduceLeDiff, ↓reduceIte, hc2]
  refine (hS hB2 hb1 hT1 hM1 (by simp only [List.length_append, List.length_cons, List.length_nil]; omega)).mono ?_
  rintro v σ3 ⟨rfl, hB3⟩
  simp (disch := first | assumption | omega) only [go_sem, reduceCtorEq, ↓reduceIte]
  refine (writeByte_ok hB3 41 (by simp only [List.length_append, List.length_cons, List.length_nil]; omega)).mono ?_
  rintro v σ4 ⟨rfl, hB4⟩
  simp (disch := first | assumption | omega) only [go_sem]
  obtain ⟨σ5, hd, hB5⟩ := hoff hB4
  refine retC_by hd (.refl _) ⟨rfl, ?_⟩
  have e : l ++ 40 :: (t ++ [41]) = l ++ [40] ++ t ++ [41] := by simp
  rw [e]; exact hB5
theorem textD_ne (n : Int) : textD n ≠ [] := by
 unfold textD
 have := dd_len_pos (n.natAbs / 10000)
 intro h
 rw [List.append_eq_nil_iff, List.append_eq_nil_iff] at h
 exact this h.2.1
theorem failT_ne {n : Int} (h1 : 1 ≤ n.tdiv 10000) (h2 : n.tdiv 10000 ≤ 7) : failT 4 n ≠ [] := by
 unfold failT
 generalize n.tdiv 10000 = i at *
 rw [if_neg (by omega)]
 have hc : i = 1 ∨ i = 2 ∨ i = 3 ∨ i = 4 ∨ i = 5 ∨ i = 6 ∨ i = 7 := by omega
 rcases hc with rfl | rfl | rfl | rfl | rfl | rfl | rfl <;> decide
theorem truthP_ne (b : Bool) : truthP b ≠ [] := by cases b <;> decide
theorem joinC_snoc : ∀ (L : List (Int × List UInt8)) (p : Int × List UInt8), L ≠ [] → joinC (L ++ [p]) = joinC L ++ 44 :: p.2
 | [], p, h => absurd rfl h
 | q :: r, p, _ => by simp [joinC]
theorem joinC_take_le : ∀ (L : List (Int × List UInt8)) (i : Nat), (joinC (L.take i)).length ≤ (joinC L).length
 | [], i => by simp
 | q :: r, 0 => by simp [joinC]
 | q :: r, i + 1 => by
   rw [List.take_succ_cons]
   simp only [joinC, List.length_append]
   have : ∀ (r : List (Int × List UInt8)) (i : Nat), ((r.take i).flatMap fun q => 44 :: q.2).length ≤ (r.flatMap fun q => 44 :: q.2).length := by
    intro r
    induction r with
    | nil => intro i; simp
    | cons x r ih =>
      intro i
      cases i with
      | zero => simp
      | succ i => rw [List.take_succ_cons, List.flatMap_cons, List.flatMap_cons, List.length_append, List.length_append]; have := ih i; omega
   have := this r i
   omega
theorem textP_ne {r : Ref} (h : r.good = true) : textP r ≠ [] := by
 intro e
 have := (text_len h).1
 rw [e] at this
 simp at this
theorem sign_len (k : Nat) : (signL.getD k []).length ≤ 2 := by
 unfold signL
 rcases k with _|_|_|_|_|_|_|_|_|_|_|_|k <;> simp
set_option maxHeartbeats 2000000 in
theorem spell_ok : ∀ (k : Nat) (n : Nd), n.size ≤ k → n.ok → SpellOk n
 | 0, n, hk, _ => by have := n.size_pos; omega
 | k + 1, n, hk, hn => by
   have ih := spell_ok k
   intro σ0 σ b l h hb hT hM hl
   obtain ⟨op, m, s, a, d, kids⟩ := n
   rw [Nd.size] at hk
   rw [Nd.ok] at hn
   obtain ⟨⟨ho, g1, g2, g4, gc, g5, g6, g7, gb, gk⟩, hks⟩ := hn
   have hkid : ∀ x ∈ kids, SpellOk x ∧ 1 ≤ x.op ∧ x.op ≤ 23 := fun x hx => by
    have h1 := Nd.size_kid hx
    have h2 := Nd.oks_mem.1 hks x hx
    refine ⟨ih x (by omega) h2, ?_⟩
    obtain ⟨o', _, _, _, _, _⟩ := x
    rw [Nd.ok] at h2
    exact h2.1.1
   obtain ⟨w, hw⟩ : ∃ w, (Nd.mk op m s a d kids).spell = w := ⟨_, rfl⟩
   rw [hw] at hl ⊢
   rw [Nd.spell, Nd.spells_map] at hw
   unfold spellK at hw
   rw [Nd.av_cs]
   refine a25 (by simp) ?_
   simp (disch := first | assumption | omega) only [go_sem]
   refine boxC_by rfl fun c hc => ?_
   obtain ⟨hB, hcb, hc0⟩ := h.add hc (r := .obj (Nd.cs op m s a d (kids.map Nd.av)))
   have hb1 : (σ0.set c (some (.obj (Nd.cs op m s a d (kids.map Nd.av))))) b = none := by rw [ASt.set_ne (Ne.symm hcb)]; exact hb
   have hT1 := hT.set hc0 (r := some (.obj (Nd.cs op m s a d (kids.map Nd.av))))
   have hM1 := hM.set hc0 (r := some (.obj (Nd.cs op m s a d (kids.map Nd.av))))
   have hcell : ∀ {l' : List UInt8} {σ1 : ASt}, BD (σ0.set c (some (.obj (Nd.cs op m s a d (kids.map Nd.av))))) b l' σ1 → σ1 c = some (.obj (Nd.cs op m s a d (kids.map Nd.av))) := fun h => h.at hcb (ASt.set_same _ _ _)
   have hoff : ∀ {l' : List UInt8} {σ1 : ASt}, BD (σ0.set c (some (.obj (Nd.cs op m s a d (kids.map Nd.av))))) b l' σ1 → ∃ σ', Drop σ1 σ' ∧ BD σ0 b l' σ' := fun h => h.off hcb hc0
   have hc1 := hcell hB
   rw [cells_agg]
   generalize σ0.set c (some (.obj (Nd.cs op m s a d (kids.map Nd.av)))) = τ at hB hb1 hT1 hM1 hcell hoff
   generalize σ.set c (some (.obj (Nd.cs op m s a d (kids.map Nd.av)))) = σ1 at hB hc1 ⊢
   have hT2 := BD.tab hB hb1 hT1
   have hM2 := BD.maxL hB hb1 hM1
   by_cases h1 : op = 1
   ·subst h1
    rw [if_pos rfl] at hw
    subst hw
    simp (disch := first | assumption | omega) only [go_sem, reduceCtorEq, Nat.reduceEqDiff, ↓reduceIte, hc1]
    refine (dtext_ok hT2 (g1 rfl)).mono ?_
    rintro v σ' ⟨rfl, rfl⟩
    simp (disch := first | assumption | omega) only [go_sem, Nat.reduceEqDiff, ↓reduceIte]
    refine (writes1_ok hB _ (textD_ne m) (by omega)).mono ?_
    rintro v σ2 ⟨rfl, hB2⟩
    simp (disch := first | assumption | omega) only [go_sem]
    obtain ⟨σ3, hd, hB3⟩ := hoff hB2
    exact retC_by hd (.refl _) ⟨rfl, hB3⟩
   rw [if_neg h1] at hw
   by_cases h2 : op = 2
   ·subst h2
    rw [if_pos rfl] at hw
    have hQ2 := tquote_ok hM2 s (g2 rfl)
    have hQ : quotT s = 34 :: dbl s ++ [34] := rfl
    rw [hQ] at hw
    rw [hw] at hQ2
    have hwn : w ≠ [] := by rw [← hw]; simp
    simp (disch := first | assumption | omega) only [go_sem, reduceCtorEq, Nat.reduceEqDiff, Int.reduceEq, ↓reduceIte, hc1]
    refine hQ2.mono ?_
    rintro v σ' ⟨rfl, rfl⟩
    simp (disch := first | assumption | omega) only [go_sem, Nat.reduceEqDiff, ↓reduceIte]
    refine (writes1_ok hB _ hwn (by omega)).mono ?_
    rintro v σ2 ⟨rfl, hB2⟩
    simp (disch := first | assumption | omega) only [go_sem]
    obtain ⟨σ3, hd, hB3⟩ := hoff hB2
    exact retC_by hd (.refl _) ⟨rfl, hB3⟩
   rw [if_neg h2] at hw
   by_cases h3 : op = 3
   ·subst h3
    rw [if_pos rfl] at hw
    have hQ := truth_ok (!decide (m = 0))
    have hwn : w ≠ [] := by rw [← hw]; exact truthP_ne _
    rw [hw] at hQ
    simp (disch := first | assumption | omega) only [go_sem, reduceCtorEq, Nat.reduceEqDiff, Int.reduceEq, ↓reduceIte, hc1]
    refine hQ.use ?_
    simp (disch := first | assumption | omega) only [go_sem, Nat.reduceEqDiff, ↓reduceIte]
    refine (writes1_ok hB _ hwn (by omega)).mono ?_
    rintro v σ2 ⟨rfl, hB2⟩
    simp (disch := first | assumption | omega) only [go_sem]
    obtain ⟨σ3, hd, hB3⟩ := hoff hB2
    exact retC_by hd (.refl _) ⟨rfl, hB3⟩
   rw [if_neg h3] at hw
   by_cases h4 : op = 4
   ·subst h4
    rw [if_pos rfl] at hw
    obtain ⟨f1, f2⟩ := g4 rfl
    have hwn : w ≠ [] := by rw [← hw]; exact failT_ne f1 f2
    have hmb : m.natAbs ≤ 999999999999999999 := by have : (m.tdiv 10000).natAbs = m.natAbs / 10000 := Int.natAbs_tdiv m 10000; omega
    have hQ := failure_ok 4 m s a d kids hmb
    rw [Nd.av_cs, hw] at hQ
    simp (disch := first | assumption | omega) only [go_sem, reduceCtorEq, Nat.reduceEqDiff, Nat.reduceLeDiff, Int.reduceEq, ↓reduceIte, hc1]
    refine hQ.use ?_
    simp (disch := first | assumption | omega) only [go_sem, Nat.reduceEqDiff, ↓reduceIte]
    refine (writes1_ok hB _ hwn (by omega)).mono ?_
    rintro v σ2 ⟨rfl, hB2⟩
    simp (disch := first | assumption | omega) only [go_sem]
    obtain ⟨σ3, hd, hB3⟩ := hoff hB2
    exact retC_by hd (.refl _) ⟨rfl, hB3⟩
   rw [if_neg h4] at hw
   by_cases h5 : op = 5
   ·subst h5
    rw [if_pos rfl] at hw
    have hQ := text_ok hT2 (g5 (.inl rfl))
    have hwn : w ≠ [] := by rw [← hw]; exact textP_ne (g5 (.inl rfl))
    rw [hw] at hQ
    unfold refAV at hQ
    simp (disch := first | assumption | omega) only [go_sem, reduceCtorEq, Nat.reduceEqDiff, Nat.reduceAdd, Nat.reduceLeDiff, Int.reduceEq, ↓reduceIte, hc1]
    refine hQ.mono ?_
    rintro v σ' ⟨rfl, rfl⟩
    simp (disch := first | assumption | omega) only [go_sem, Nat.reduceEqDiff, ↓reduceIte]
    refine (writes1_ok hB _ hwn (by omega)).mono ?_
    rintro v σ2 ⟨rfl, hB2⟩
    simp (disch := first | assumption | omega) only [go_sem]
    obtain ⟨σ3, hd, hB3⟩ := hoff hB2
    exact retC_by hd (.refl _) ⟨rfl, hB3⟩
   rw [if_neg h5] at hw
   by_cases h6 : op = 6
   ·subst h6
    rw [if_pos rfl] at hw
    have hQ := atext_ok hT2 (g5 (.inr rfl)) (g6 rfl)
    have hwn : w ≠ [] := by rw [← hw]; simp
    rw [hw] at hQ
    unfold areaAV at hQ
    simp (disch := first | assumption | omega) only [go_sem, reduceCtorEq, Nat.reduceEqDiff, Nat.reduceAdd, Nat.reduceLeDiff, Int.reduceEq, ↓reduceIte, hc1]
    refine hQ.mono ?_
    rintro v σ' ⟨rfl, rfl⟩
    simp (disch := first | assumption | omega) only [go_sem, Nat.reduceEqDiff, ↓reduceIte]
    refine (writes1_ok hB _ hwn (by omega)).mono ?_
    rintro v σ2 ⟨rfl, hB2⟩
    simp (disch := first | assumption | omega) only [go_sem]
    obtain ⟨σ3, hd, hB3⟩ := hoff hB2
    exact retC_by hd (.refl _) ⟨rfl, hB3⟩
   rw [if_neg h6] at hw
   by_cases h7 : op = 7 ∨ op = 8
   ·rw [if_pos h7] at hw
    obtain ⟨x, ks, rfl⟩ : ∃ x ks, kids = x :: ks := by
     cases kids with
     | nil => have := g7 (by omega); simp at this
     | cons x ks => exact ⟨x, ks, rfl⟩
    obtain ⟨i1, i2⟩ := hkid x (by simp)
    have hI := fun l' σ' (hB : BD τ b l' σ') hl' => inside_ok i1 i2 6 hB hb1 hT1 hM1 hl'
    simp only [List.map_cons, List.getD_cons_zero] at hw
    generalize insT 6 x.op x.spell = t at *
    obtain ⟨xo, xm, xs, xa, xb, xk⟩ := x
    simp only [List.map_cons] at hcell hc1 ⊢
    rw [Nd.av_cs] at hI
    simp only [Nd.av_cs] at hcell hc1 ⊢
    generalize ks.map Nd.av = K at *
    rcases h7 with rfl | rfl
    ·simp only [if_true] at hw
     subst hw
     simp only [List.length_cons] at hl
     simp (disch := first | assumption | omega) only [go_sem, reduceCtorEq, Nat.reduceEqDiff, Int.reduceEq, ↓reduceIte, Int.reduceSub, hc1]
     refine (writeByte_ok hB 45 (by omega)).mono ?_
     rintro v σ2 ⟨rfl, hB2⟩
     have hc2 := hcell hB2
     simp (disch := first | assumption | omega) only [go_sem, reduceCtorEq, Nat.reduceEqDiff, Nat.reduceLeDiff, ↓reduceIte, hc2]
     refine (hI _ _ hB2 (by simp only [List.length_append, List.length_cons, List.length_nil]; omega)).mono ?_
     rintro v σ3 ⟨rfl, hB3⟩
     simp (disch := first | assumption | omega) only [go_sem]
     obtain ⟨σ4, hd, hB4⟩ := hoff hB3
     refine retC_by hd (.refl _) ⟨rfl, ?_⟩
     have e : l ++ 45 :: t = l ++ [45] ++ t := by simp
     rw [e]; exact hB4
    ·rw [if_neg (by decide)] at hw
     subst hw
     simp only [List.length_cons] at hl
     simp (disch := first | assumption | omega) only [go_sem, reduceCtorEq, Nat.reduceEqDiff, Int.reduceEq, ↓reduceIte, Int.reduceSub, Int.reduceToNat, hc1]
     refine (writeByte_ok hB 43 (by omega)).mono ?_
     rintro v σ2 ⟨rfl, hB2⟩
     have hc2 := hcell hB2
     simp (disch := first | assumption | omega) only [go_sem, reduceCtorEq, Nat.reduceEqDiff, Nat.reduceLeDiff, ↓reduceIte, hc2]
     refine (hI _ _ hB2 (by simp only [List.length_append, List.length_cons, List.length_nil]; omega)).mono ?_
     rintro v σ3 ⟨rfl, hB3⟩
     simp (disch := first | assumption | omega) only [go_sem]
     obtain ⟨σ4, hd, hB4⟩ := hoff hB3
     refine retC_by hd (.refl _) ⟨rfl, ?_⟩
     have e : l ++ 43 :: t = l ++ [43] ++ t := by simp
     rw [e]; exact hB4
   rw [if_neg h7] at hw
   have h7a : op ≠ 7 := by omega
   have h7b : op ≠ 8 := by omega
   by_cases h9 : op = 9
   ·subst h9
    rw [if_pos rfl] at hw
    obtain ⟨x, ks, rfl⟩ : ∃ x ks, kids = x :: ks := by
     cases kids with
     | nil => have := g7 (by omega); simp at this
     | cons x ks => exact ⟨x, ks, rfl⟩
    obtain ⟨i1, i2⟩ := hkid x (by simp)
    have hI := fun l' σ' (hB : BD τ b l' σ') hl' => inside_ok i1 i2 7 hB hb1 hT1 hM1 hl'
    simp only [List.map_cons, List.getD_cons_zero] at hw
    generalize insT 7 x.op x.spell = t at *
    obtain ⟨xo, xm, xs, xa, xb, xk⟩ := x
    rw [Nd.av_cs] at hI
    simp only [List.map_cons, Nd.av_cs] at hcell hc1 ⊢
    generalize ks.map Nd.av = K at *
    subst hw
    simp only [List.length_append, List.length_cons, List.length_nil] at hl
    simp (disch := first | assumption | omega) only [go_sem, reduceCtorEq, Nat.reduceEqDiff, Nat.reduceLeDiff, Int.reduceEq, ↓reduceIte, hc1]
    refine (hI _ _ hB (by omega)).mono ?_
    rintro v σ2 ⟨rfl, hB2⟩
    simp (disch := first | assumption | omega) only [go_sem, reduceCtorEq, ↓reduceIte]
    refine (writeByte_ok hB2 37 (by simp only [List.length_append]; omega)).mono ?_
    rintro v σ3 ⟨rfl, hB3⟩
    simp (disch := first | assumption | omega) only [go_sem]
    obtain ⟨σ4, hd, hB4⟩ := hoff hB3
    refine retC_by hd (.refl _) ⟨rfl, ?_⟩
    rw [← List.append_assoc]; exact hB4
   rw [if_neg h9] at hw
   by_cases h22 : op = 22
   ·subst h22
    rw [if_pos rfl] at hw
    have hsn := gc rfl
    have hjt := joinC_take_le (kids.map fun x => (x.op, x.spell))
    have hspl : ∀ (i : Nat) (x : Nd), kids[i]? = some x → (kids.map fun x => (x.op, x.spell)).take (i + 1) = (kids.map fun x => (x.op, x.spell)).take i ++ [(x.op, x.spell)] := by
     intro i x hx
     have hlt : i < kids.length := (List.getElem?_eq_some_iff.1 hx).1
     rw [List.take_add_one, List.getElem?_map, hx]
     rfl
    have hspn : ∀ i, 0 < i → i < kids.length → (kids.map fun x => (x.op, x.spell)).take i ≠ [] := by
     intro i h0 h1 e
     have := congrArg List.length e
     rw [List.length_take, List.length_map, List.length_nil] at this
     omega
    have hspa : (kids.map fun x => (x.op, x.spell)).take kids.length = kids.map fun x => (x.op, x.spell) := List.take_of_length_le (by simp)
    have hspz : joinC ((kids.map fun x => (x.op, x.spell)).take 0) = [] := rfl
    generalize (kids.map fun x => (x.op, x.spell)) = sp at *
    subst hw
    simp only [List.length_append, List.length_cons, List.length_nil] at hl
    simp (disch := first | assumption | omega) only [go_sem, reduceCtorEq, Nat.reduceEqDiff, Int.reduceEq, ↓reduceIte, hc1]
    refine (writes1_ok hB _ hsn (by omega)).mono ?_
    rintro v σ2 ⟨rfl, hB2⟩
    simp (disch := first | assumption | omega) only [go_sem, reduceCtorEq, ↓reduceIte]
    refine (writeByte_ok hB2 40 (by simp only [List.length_append]; omega)).mono ?_
    rintro v σ3 ⟨rfl, hB3⟩
    have hc3 := hcell hB3
    obtain ⟨G, hG⟩ : ∃ G, G = ACode.wp Tryz.prog c25_47 := ⟨_, rfl⟩
    simp (disch := first | assumption | omega) only [go_sem, Nat.reduceEqDiff, ↓reduceIte, hc3, ←hG]
    refine wp_loop_by (fun (i : Nat) a1 s2 => i ≤ kids.length ∧ (a1 0 = .ptr b 0 ∧ a1 114 = .sl .shr (kids.map Nd.av) ∧ a1 115 = .int .i64 kids.length ∧ a1 116 = .int .i64 i) ∧ BD τ b (l ++ s ++ [40] ++ joinC (sp.take i)) s2) (fun i => kids.length - i) 0 (Dr.now ⟨Nat.zero_le _, ?_, ?_⟩) ?_
    ·simp (disch := first | assumption | omega) only [go_sem, reduceCtorEq, Nat.reduceEqDiff, ↓reduceIte]
    ·rw [hspz, List.append_nil]; exact hB3
    rintro i a1 s2 ⟨hi, hf, hBi⟩
    have hji := hjt i
    by_cases hlt : i < kids.length
    ·have hlt' : (i : Int) < kids.length := by omega
     have hx : kids[i]? = some (kids[i]'hlt) := List.getElem?_eq_getElem hlt
     obtain ⟨x, hxe⟩ : ∃ x, kids[i]'hlt = x := ⟨_, rfl⟩
     rw [hxe] at hx
     have hmx := Nd.get hx
     have hspx := hspl i x hx
     have hjs := hjt (i + 1)
     obtain ⟨i1, i2⟩ := hkid x (List.mem_of_getElem? hx)
     obtain ⟨xo, xm, xs, xa, xb, xk⟩ := x
     rw [Nd.av_cs] at hmx
     have i1' : ∀ (σ0 σ : ASt) (b : Nat) (l : List UInt8), BD σ0 b l σ → σ0 b = none → Tab σ0 → MaxL σ0 → l.length + (Nd.mk xo xm xs xa xb xk).spell.length ≤ 900000000 →
       ACalls Tryz.prog 25 [.ptr b 0, .agg (Nd.cs xo xm xs xa xb (xk.map Nd.av))] σ fun v σ' => v = .tuple [] ∧ BD σ0 b (l ++ (Nd.mk xo xm xs xa xb xk).spell) σ' := by rw [← Nd.av_cs]; exact i1
     generalize hxw : (Nd.mk xo xm xs xa xb xk).spell = xw at *
     generalize xk.map Nd.av = K at *
     generalize kids.map Nd.av = L at *
     simp (disch := first | assumption | omega) only [go_sem, Nat.reduceEqDiff, Nat.reduceLeDiff, ↓reduceIte, hf, hlt', hmx]
     refine allocC_by fun e he => ?_
     obtain ⟨hBe, heb, he0⟩ := hBi.add he (r := .obj (Nd.cs xo xm xs xa xb K))
     have hbe : (τ.set e (some (.obj (Nd.cs xo xm xs xa xb K)))) b = none := by rw [ASt.set_ne (Ne.symm heb)]; exact hb1
     have hTe := hT1.set he0 (r := some (.obj (Nd.cs xo xm xs xa xb K)))
     have hMe := hM1.set he0 (r := some (.obj (Nd.cs xo xm xs xa xb K)))
     have hcelle : ∀ {l' : List UInt8} {σ1 : ASt}, BD (τ.set e (some (.obj (Nd.cs xo xm xs xa xb K)))) b l' σ1 → σ1 e = some (.obj (Nd.cs xo xm xs xa xb K)) := fun h => h.at heb (ASt.set_same _ _ _)
     have hoffe : ∀ {l' : List UInt8} {σ1 : ASt}, BD (τ.set e (some (.obj (Nd.cs xo xm xs xa xb K)))) b l' σ1 → ∃ σ', Drop σ1 σ' ∧ BD τ b l' σ' := fun h => h.off heb he0
     have hce := hcelle hBe
     by_cases h0 : i = 0
     ·subst h0
      have hz : ((0 : Nat) : Int) = 0 := rfl
      have hj1 : joinC (sp.take (0 + 1)) = xw := by rw [hspx]; simp [joinC]
      rw [hj1] at hjs
      rw [hspz, List.append_nil] at hBe
      simp (disch := first | assumption | omega) only [go_sem, reduceCtorEq, Nat.reduceEqDiff, Nat.reduceAdd, Nat.reduceLeDiff, Int.reduceLT, ↓reduceIte, hf, hz, ASt.set_set, hce]
      refine (i1' _ _ _ _ hBe hbe hTe hMe (by simp only [List.length_append, List.length_cons, List.length_nil]; omega)).mono ?_
      rintro v σ4 ⟨rfl, hB4⟩
      simp (disch := first | assumption | omega) only [go_sem, Nat.reduceEqDiff, ↓reduceIte, Int.reduceAdd, hf]
      obtain ⟨σ5, hd, hB5⟩ := hoffe hB4
      refine ⟨0 + 1, by dsimp only; omega, Dr.drop hd ⟨by omega, ?_, ?_⟩⟩
      ·simp (disch := first | assumption | omega) only [go_sem, reduceCtorEq, Nat.reduceEqDiff, ↓reduceIte, hf]
      ·rw [hj1]; exact hB5
     ·have h0' : (0 : Int) < i := by omega
      have hj1 : joinC (sp.take (i + 1)) = joinC (sp.take i) ++ 44 :: xw := by rw [hspx, joinC_snoc _ _ (hspn i (by omega) hlt)]
      rw [hj1] at hjs
      simp only [List.length_append, List.length_cons] at hjs
      simp (disch := first | assumption | omega) only [go_sem, reduceCtorEq, Nat.reduceEqDiff, Nat.reduceAdd, Nat.reduceLeDiff, ↓reduceIte, hf, h0', ASt.set_set]
      refine (writeByte_ok hBe 44 (by simp only [List.length_append, List.length_cons, List.length_nil]; omega)).mono ?_
      rintro v σ4 ⟨rfl, hB4⟩
      have hc4 := hcelle hB4
      simp (disch := first | assumption | omega) only [go_sem, reduceCtorEq, Nat.reduceEqDiff, Nat.reduceLeDiff, ↓reduceIte, hf, hc4]
      refine (i1' _ _ _ _ hB4 hbe hTe hMe (by simp only [List.length_append, List.length_cons, List.length_nil]; omega)).mono ?_
      rintro v σ5 ⟨rfl, hB5⟩
      simp (disch := first | assumption | omega) only [go_sem, Nat.reduceEqDiff, ↓reduceIte, hf]
      obtain ⟨σ6, hd, hB6⟩ := hoffe hB5
      refine ⟨i + 1, by dsimp only; omega, Dr.drop hd ⟨by omega, ?_, ?_⟩⟩
      ·simp (disch := first | assumption | omega) only [go_sem, reduceCtorEq, Nat.reduceEqDiff, ↓reduceIte, hf]
      ·have e2 : l ++ s ++ [40] ++ joinC (sp.take (i + 1)) = l ++ s ++ [40] ++ joinC (sp.take i) ++ [44] ++ xw := by rw [hj1]; simp
       rw [e2]; exact hB6
    ·have hlt' : ¬ (i : Int) < kids.length := by omega
     have hie : i = kids.length := by omega
     rw [hie, hspa] at hBi
     simp (disch := first | assumption | omega) only [go_sem, ↓reduceIte, hf, hlt']
     rw [hG]
     simp (disch := first | assumption | omega) only [go_sem, reduceCtorEq, ↓reduceIte, hf]
     refine (writeByte_ok hBi 41 (by simp only [List.length_append, List.length_cons, List.length_nil]; omega)).mono ?_
     rintro v σ4 ⟨rfl, hB4⟩
     simp (disch := first | assumption | omega) only [go_sem]
     obtain ⟨σ5, hd, hB5⟩ := hoff hB4
     refine retC_by hd (.refl _) ⟨rfl, ?_⟩
     have e2 : l ++ (s ++ 40 :: (joinC sp ++ [41])) = l ++ s ++ [40] ++ joinC sp ++ [41] := by simp
     first
      | (rw [e2]; exact hB5)
      | (have e3 : l ++ (s ++ 40 :: joinC sp ++ [41]) = l ++ s ++ [40] ++ joinC sp ++ [41] := by simp
         rw [e3]; exact hB5)
   rw [if_neg h22] at hw
   by_cases h23 : op = 23
   ·subst h23
    rw [if_pos rfl] at hw
    subst hw
    simp (disch := first | assumption | omega) only [go_sem, Nat.reduceEqDiff, Int.reduceEq, ↓reduceIte, hc1]
    obtain ⟨σ3, hd, hB3⟩ := hoff hB
    exact retC_by hd (.refl _) ⟨rfl, hB3⟩
   rw [if_neg h23] at hw
   obtain ⟨x, y, ks, rfl⟩ : ∃ x y ks, kids = x :: y :: ks := by
    have := gb (by omega)
    match kids, this with
    | x :: y :: ks, _ => exact ⟨x, y, ks, rfl⟩
   obtain ⟨i1, i2⟩ := hkid x (by simp)
   obtain ⟨j1, j2⟩ := hkid y (by simp)
   have hI := fun l' σ' (hB : BD τ b l' σ') hl' => inside_ok i1 i2 (levelP op) hB hb1 hT1 hM1 hl'
   have hJ := fun l' σ' (hB : BD τ b l' σ') hl' => inside_ok j1 j2 (levelP op + 1) hB hb1 hT1 hM1 hl'
   have hLv := level_ok op (by omega) (by omega)
   have hlb : 0 ≤ levelP op ∧ levelP op ≤ 8 := by unfold levelP; repeat' split
                                                  all_goals omega
   simp only [List.map_cons, List.getD_cons_zero, List.getD_cons_succ] at hw
   generalize insT (levelP op) x.op x.spell = t at *
   generalize insT (levelP op + 1) y.op y.spell = u at *
   generalize levelP op = lv at *
   obtain ⟨xo, xm, xs, xa, xb, xk⟩ := x
   obtain ⟨yo, ym, ys, ya, yb, yk⟩ := y
   rw [Nd.av_cs] at hI hJ
   simp only [List.map_cons, Nd.av_cs] at hcell hc1 ⊢
   generalize ks.map Nd.av = K at *
   obtain ⟨j, hj⟩ : ∃ j : Nat, op = j + 10 := ⟨(op - 10).toNat, by omega⟩
   have hj2 : (op - 10).toNat = j := by omega
   have hj3 : op - 10 = (j : Int) := by omega
   rw [hj2] at hw
   have hjl : j < 12 := by omega
   obtain ⟨sg, hsg⟩ : ∃ sg, signL[j]? = some sg := ⟨signL[j]'(by simp [signL]; omega), List.getElem?_eq_getElem _⟩
   have hsg2 : signL.getD j [] = sg := by rw [List.getD_eq_getElem?_getD, hsg]; rfl
   have hsl := sign_len j
   have hsn : sg ≠ [] := by
    have : ∀ j < 12, signL.getD j [] ≠ [] := by decide
    rw [← hsg2]; exact this j hjl
   rw [hsg2] at hw hsl
   have hmg : (signL.map AV.str)[j]? = some (.str sg) := by rw [List.getElem?_map, hsg]; rfl
   have hSg := esigns_ok
   generalize signL.map AV.str = SL at *
   subst hw
   simp only [List.length_append] at hl
   simp (disch := first | assumption | omega) only [go_sem, Nat.reduceEqDiff, ↓reduceIte, hc1, h1, h2, h3, h4, h5, h6, h7a, h7b, h9, h22, h23]
   refine hLv.use ?_
   simp (disch := first | assumption | omega) only [go_sem, reduceCtorEq, Nat.reduceEqDiff, Nat.reduceLeDiff, ↓reduceIte, hc1]
   refine (hI _ _ hB (by omega)).mono ?_
   rintro v σ2 ⟨rfl, hB2⟩
   have hc2 := hcell hB2
   simp (disch := first | assumption | omega) only [go_sem, reduceCtorEq, Nat.reduceEqDiff, ↓reduceIte, hc2]
   refine hSg.use ?_
   simp (disch := first | assumption | omega) only [go_sem, Nat.reduceEqDiff, ↓reduceIte, hc2, hj3, hmg]
   refine (writes1_ok hB2 _ hsn (by simp only [List.length_append]; omega)).mono ?_
   rintro v σ3 ⟨rfl, hB3⟩
   have hc3 := hcell hB3
   simp (disch := first | assumption | omega) only [go_sem, reduceCtorEq, Nat.reduceEqDiff, Nat.reduceLeDiff, ↓reduceIte, Int.reduceToNat, hc3]
   refine (hJ _ _ hB3 (by simp only [List.length_append]; omega)).mono ?_
   rintro v σ4 ⟨rfl, hB4⟩
   simp (disch := first | assumption | omega) only [go_sem]
   obtain ⟨σ5, hd, hB5⟩ := hoff hB4
   refine retC_by hd (.refl _) ⟨rfl, ?_⟩
   have e : l ++ (t ++ (sg ++ u)) = l ++ t ++ sg ++ u := by simp
   first
    | (rw [e]; exact hB5)
    | (rw [← List.append_assoc, ← List.append_assoc]; exact hB5)
end Go.A
namespace Go.A
open Go.Proofs
/-! 6: tabular/tabularlaw12.awake -/
def c6_0 : ACode := .ops [
 ⟨some 0, none, .q (.mv (.v (.bool false))), []⟩]
def c6_1 : ACode := .ops [
 ⟨some 6, none, .q (.build [(.int .i64 0), (.int .i64 0), (.str []), (.int .i64 0), (.int .i64 0), (.bool false), (.bool false), (.int .i64 0), (.int .i64 0), (.bool false), (.bool false), (.sl .full [])] [(0, 1, (.v (.int .i64 1))), (1, 1, (.v (.int .i64 10000)))]), []⟩,
 ⟨some 1, none, .e (.alloc [(.int .i64 0), (.int .i64 0), (.str []), (.int .i64 0), (.int .i64 0), (.bool false), (.bool false), (.int .i64 0), (.int .i64 0), (.bool false), (.bool false), (.sl .full [])]), []⟩,
 ⟨none, none, .e (.store 12 (.t 1) (.t 6)), []⟩]
def c6_2 : ACode := .ops [
 ⟨some 7, none, .q (.build [(.int .i64 0), (.int .i64 0), (.str []), (.int .i64 0), (.int .i64 0), (.bool false), (.bool false), (.int .i64 0), (.int .i64 0), (.bool false), (.bool false), (.sl .full [])] [(0, 1, (.v (.int .i64 1))), (1, 1, (.v (.int .i64 20000)))]), []⟩,
 ⟨some 2, none, .e (.alloc [(.int .i64 0), (.int .i64 0), (.str []), (.int .i64 0), (.int .i64 0), (.bool false), (.bool false), (.int .i64 0), (.int .i64 0), (.bool false), (.bool false), (.sl .full [])]), []⟩,
 ⟨none, none, .e (.store 12 (.t 2) (.t 7)), []⟩]
def c6_3 : ACode := .ops [
 ⟨some 8, none, .q (.ld (some 12) (.t 1)), []⟩,
 ⟨some 9, none, .q (.ld (some 12) (.t 2)), []⟩,
 ⟨some 10, none, .q (.bsl 12 [(.t 8), (.t 9)]), []⟩,
 ⟨some 11, none, .q (.build [(.int .i64 0), (.int .i64 0), (.str []), (.int .i64 0), (.int .i64 0), (.bool false), (.bool false), (.int .i64 0), (.int .i64 0), (.bool false), (.bool false), (.sl .full [])] [(0, 1, (.v (.int .i64 11))), (11, 1, (.t 10))]), []⟩,
 ⟨some 3, none, .e (.alloc [(.int .i64 0), (.int .i64 0), (.str []), (.int .i64 0), (.int .i64 0), (.bool false), (.bool false), (.int .i64 0), (.int .i64 0), (.bool false), (.bool false), (.sl .full [])]), []⟩,
 ⟨none, none, .e (.store 12 (.t 3) (.t 11)), []⟩]
def c6_4 : ACode := .ops [
 ⟨some 12, none, .q (.ld (some 12) (.t 3)), []⟩,
 ⟨some 13, none, .q (.ld (some 12) (.t 1)), []⟩,
 ⟨some 14, none, .q (.bsl 12 [(.t 12), (.t 13)]), []⟩,
 ⟨some 15, none, .q (.build [(.int .i64 0), (.int .i64 0), (.str []), (.int .i64 0), (.int .i64 0), (.bool false), (.bool false), (.int .i64 0), (.int .i64 0), (.bool false), (.bool false), (.sl .full [])] [(0, 1, (.v (.int .i64 11))), (11, 1, (.t 14))]), []⟩,
 ⟨some 4, none, .e (.alloc [(.int .i64 0), (.int .i64 0), (.str []), (.int .i64 0), (.int .i64 0), (.bool false), (.bool false), (.int .i64 0), (.int .i64 0), (.bool false), (.bool false), (.sl .full [])]), []⟩,
 ⟨none, none, .e (.store 12 (.t 4) (.t 15)), []⟩]
def c6_5 : ACode := .ops [
 ⟨some 16, none, .q (.ld (some 12) (.t 1)), []⟩,
 ⟨some 17, none, .q (.ld (some 12) (.t 3)), []⟩,
 ⟨some 18, none, .q (.bsl 12 [(.t 16), (.t 17)]), []⟩,
 ⟨some 19, none, .q (.build [(.int .i64 0), (.int .i64 0), (.str []), (.int .i64 0), (.int .i64 0), (.bool false), (.bool false), (.int .i64 0), (.int .i64 0), (.bool false), (.bool false), (.sl .full [])] [(0, 1, (.v (.int .i64 11))), (11, 1, (.t 18))]), []⟩,
 ⟨some 5, none, .e (.alloc [(.int .i64 0), (.int .i64 0), (.str []), (.int .i64 0), (.int .i64 0), (.bool false), (.bool false), (.int .i64 0), (.int .i64 0), (.bool false), (.bool false), (.sl .full [])]), []⟩,
 ⟨none, none, .e (.store 12 (.t 5) (.t 19)), []⟩]
def c6_6 : ACode := .ops [
 ⟨some 20, none, .q (.ld (some 12) (.t 4)), []⟩,
 ⟨some 21, none, .e (.call 7 [(.t 20)]), []⟩,
 ⟨some 22, none, .q (.bin .eql (.t 21) (.v (.str [49, 45, 50, 45, 49]))), []⟩,
 ⟨some 23, none, .q (.mv (.t 22)), []⟩,
 ⟨some 24, some (23, true), .q (.ld (some 12) (.t 5)), []⟩,
 ⟨some 25, some (23, true), .e (.call 7 [(.t 24)]), []⟩,
 ⟨some 26, some (23, true), .q (.bin .eql (.t 25) (.v (.str [49, 45, 40, 49, 45, 50, 41]))), []⟩,
 ⟨some 27, none, .q (.pick (.t 23) (.t 26) (.v (.bool false))), []⟩,
 ⟨some 28, none, .q (.mv (.t 27)), []⟩,
 ⟨some 29, some (28, true), .q (.ld (some 12) (.t 4)), []⟩,
 ⟨some 30, some (28, true), .e (.call 11 [(.t 29)]), []⟩,
 ⟨some 31, some (28, true), .q (.bin .eql (.t 30) (.v (.int .i64 5))), []⟩,
 ⟨some 32, none, .q (.pick (.t 28) (.t 31) (.v (.bool false))), []⟩,
 ⟨some 33, none, .q (.mv (.t 32)), []⟩,
 ⟨some 34, some (33, true), .q (.ld (some 12) (.t 4)), []⟩,
 ⟨some 35, some (33, true), .e (.call 13 [(.t 34)]), []⟩,
 ⟨some 36, some (33, true), .q (.bin .eql (.t 35) (.v (.int .i64 3))), []⟩,
 ⟨some 37, none, .q (.pick (.t 33) (.t 36) (.v (.bool false))), []⟩,
 ⟨some 0, none, .q (.mv (.t 37)), []⟩]
def c6_7 : ACode := .seq c6_6 .ret
def c6_8 : ACode := .seq c6_5 c6_7
def c6_9 : ACode := .seq c6_4 c6_8
def c6_10 : ACode := .seq c6_3 c6_9
def c6_11 : ACode := .seq c6_2 c6_10
def c6_12 : ACode := .seq c6_1 c6_11
def c6_13 : ACode := .seq c6_0 c6_12
@[go_sem] def c6_0_wp := wp_of c6_0.eq_1
@[go_sem] def c6_1_wp := wp_of c6_1.eq_1
@[go_sem] def c6_2_wp := wp_of c6_2.eq_1
@[go_sem] def c6_3_wp := wp_of c6_3.eq_1
@[go_sem] def c6_4_wp := wp_of c6_4.eq_1
@[go_sem] def c6_5_wp := wp_of c6_5.eq_1
@[go_sem] def c6_6_wp := wp_of c6_6.eq_1
@[go_sem] def c6_7_wp := wp_of c6_7.eq_1
@[go_sem] def c6_8_wp := wp_of c6_8.eq_1
@[go_sem] def c6_9_wp := wp_of c6_9.eq_1
@[go_sem] def c6_10_wp := wp_of c6_10.eq_1
@[go_sem] def c6_11_wp := wp_of c6_11.eq_1
@[go_sem] def c6_12_wp := wp_of c6_12.eq_1
@[go_sem] def c6_13_wp := wp_of c6_13.eq_1
def c6 : AFn := ⟨38, [.t 0], c6_13⟩
theorem c6_ok : compF Tryz.prog Tryz.f6 = some c6 := by kernel_rfl
theorem a6 {args : List AV} {σ : ASt} {R : AV → ASt → Prop} (hl : args.length ≤ 38) (h : c6_13.wp Tryz.prog (RetQ [.t 0] R) (init args) σ) : ACalls Tryz.prog 6 args σ R := acalls_of Tryz.func6 c6_ok hl h
/-! 7: tabular/expr.Print -/
def c7_0 : ACode := .ops [
 ⟨some 1, none, .e (.box (.t 0)), []⟩,
 ⟨some 2, none, .q (.mv (.v (.str []))), []⟩]
def c7_1 : ACode := .ops [
 ⟨some 3, none, .e (.allocT 62), []⟩]
def c7_2 : ACode := .ops [
 ⟨some 4, none, .q (.ld (some 12) (.t 1)), []⟩,
 ⟨some 5, none, .e (.call 25 [(.t 3), (.t 4)]), []⟩]
def c7_3 : ACode := .ops [
 ⟨some 6, none, .e (.call 26 [(.t 3)]), []⟩,
 ⟨some 2, none, .q (.mv (.t 6)), []⟩]
def c7_4 : ACode := .seq c7_3 .ret
def c7_5 : ACode := .seq c7_2 c7_4
def c7_6 : ACode := .seq c7_1 c7_5
def c7_7 : ACode := .seq c7_0 c7_6
@[go_sem] def c7_0_wp := wp_of c7_0.eq_1
@[go_sem] def c7_1_wp := wp_of c7_1.eq_1
@[go_sem] def c7_2_wp := wp_of c7_2.eq_1
@[go_sem] def c7_3_wp := wp_of c7_3.eq_1
@[go_sem] def c7_4_wp := wp_of c7_4.eq_1
@[go_sem] def c7_5_wp := wp_of c7_5.eq_1
@[go_sem] def c7_6_wp := wp_of c7_6.eq_1
@[go_sem] def c7_7_wp := wp_of c7_7.eq_1
def c7 : AFn := ⟨7, [.t 2], c7_7⟩
theorem c7_ok : compF Tryz.prog Tryz.f7 = some c7 := by kernel_rfl
theorem a7 {args : List AV} {σ : ASt} {R : AV → ASt → Prop} (hl : args.length ≤ 7) (h : c7_7.wp Tryz.prog (RetQ [.t 2] R) (init args) σ) : ACalls Tryz.prog 7 args σ R := acalls_of Tryz.func7 c7_ok hl h
/-! 17: tabular/tabularref12.Signs -/
def c17_0 : ACode := .ops [
 ⟨some 0, none, .q (.mv (.v (.sl .full []))), []⟩]
def c17_1 : ACode := .ops [
 ⟨some 1, none, .q (.bsl 1 [(.v (.str [43])), (.v (.str [45])), (.v (.str [42])), (.v (.str [47])), (.v (.str [94])), (.v (.str [38])), (.v (.str [61])), (.v (.str [60, 62])), (.v (.str [60])), (.v (.str [60, 61])), (.v (.str [62])), (.v (.str [62, 61]))]), []⟩,
 ⟨some 0, none, .q (.mv (.t 1)), []⟩]
def c17_2 : ACode := .seq c17_1 .ret
def c17_3 : ACode := .seq c17_0 c17_2
@[go_sem] def c17_0_wp := wp_of c17_0.eq_1
@[go_sem] def c17_1_wp := wp_of c17_1.eq_1
@[go_sem] def c17_2_wp := wp_of c17_2.eq_1
@[go_sem] def c17_3_wp := wp_of c17_3.eq_1
def c17 : AFn := ⟨2, [.t 0], c17_3⟩
theorem c17_ok : compF Tryz.prog Tryz.f17 = some c17 := by kernel_rfl
theorem a17 {args : List AV} {σ : ASt} {R : AV → ASt → Prop} (hl : args.length ≤ 2) (h : c17_3.wp Tryz.prog (RetQ [.t 0] R) (init args) σ) : ACalls Tryz.prog 17 args σ R := acalls_of Tryz.func17 c17_ok hl h
end Go.A
namespace Go.A
open Go.Proofs Go.Lib
theorem print_ok {σ : ASt} (hT : Tab σ) (hM : MaxL σ) (n : Nd) (hn : n.ok) (hl : n.spell.length ≤ 900000000) : ACalls Tryz.prog 7 [n.av] σ fun v σ' => v = .str n.spell ∧ σ' = σ := by
 have hS := spell_ok n.size n (Nat.le_refl _) hn
 obtain ⟨op, m, s, a, d, kids⟩ := n
 unfold SpellOk at hS
 rw [Nd.av_cs] at hS ⊢
 generalize (Nd.mk op m s a d kids).spell = w at *
 generalize kids.map Nd.av = L at *
 refine a7 (by simp) ?_
 simp (disch := first | assumption | omega) only [go_sem]
 refine boxC_by rfl fun c hc => ?_
 simp (disch := first | assumption | omega) only [go_sem]
 refine allocTC_by fun b hb => ?_
 have hbb := hb
 obtain ⟨n1, n2, n3⟩ := set_none hb
 have hB : BD (σ.set c (some (.obj (Nd.cs op m s a d L)))) b [] ((σ.set c (some (.obj (Nd.cs op m s a d L)))).set b (some (.typ 62 [.pointer none, .slice none 0 0]))) := .inl ⟨rfl, rfl⟩
 have hT1 := hT.set hc (r := some (.obj (Nd.cs op m s a d L)))
 have hM1 := hM.set hc (r := some (.obj (Nd.cs op m s a d L)))
 simp (disch := first | assumption | omega) only [go_sem, Nat.reduceEqDiff, Nat.reduceLeDiff, ↓reduceIte]
 refine (hS _ _ _ _ hB hbb hT1 hM1 (by simp only [List.length_nil]; omega)).mono ?_
 rintro v σ1 ⟨rfl, hB1⟩
 rw [List.nil_append] at hB1
 simp (disch := first | assumption | omega) only [go_sem, Nat.reduceEqDiff, ↓reduceIte]
 refine (bstring_ok hB1 (by omega)).mono ?_
 rintro v σ2 ⟨rfl, rfl⟩
 simp (disch := first | assumption | omega) only [go_sem, ↓reduceIte]
 exact retC_by ((hB1.over hbb).drop.trans (Drop.set hc)) (.refl _) ⟨rfl, rfl⟩
theorem textD_one : textD 10000 = [49] := by
 unfold textD
 rw [if_neg (by decide), show (10000 : Int).natAbs / 10000 = 1 from rfl, show (10000 : Int).natAbs % 10000 = 0 from rfl, dd_small (by decide)]
 decide
theorem textD_two : textD 20000 = [50] := by
 unfold textD
 rw [if_neg (by decide), show (20000 : Int).natAbs / 10000 = 2 from rfl, show (20000 : Int).natAbs % 10000 = 0 from rfl, dd_small (by decide)]
 decide
def numN (n : Int) : Nd := .mk 1 n [] .zero .zero []
def binN (op : Int) (x y : Nd) : Nd := .mk op 0 [] .zero .zero [x, y]
theorem numN_ok {n : Int} (h : n.natAbs ≤ 999999999999999999) : (numN n).ok := by
 unfold numN
 rw [Nd.ok]
 refine ⟨?_, trivial⟩
 unfold nodeOk
 simp
 omega
theorem binN_ok {op : Int} {x y : Nd} (h : 10 ≤ op ∧ op ≤ 21) (hx : x.ok) (hy : y.ok) : (binN op x y).ok := by
 unfold binN
 rw [Nd.ok, Nd.oks, Nd.oks, Nd.oks]
 refine ⟨?_, hx, hy, trivial⟩
 unfold nodeOk
 simp
 omega
theorem numN_spell (n : Int) : (numN n).spell = textD n := by unfold numN; rw [Nd.spell]; rfl
theorem binN_spell {op : Int} {x y : Nd} (h : 10 ≤ op ∧ op ≤ 21) : (binN op x y).spell = insT (levelP op) x.op x.spell ++ signL.getD (op - 10).toNat [] ++ insT (levelP op + 1) y.op y.spell := by
 unfold binN
 rw [Nd.spell, Nd.spells, Nd.spells, Nd.spells]
 unfold spellK
 rw [if_neg (by omega), if_neg (by omega), if_neg (by omega), if_neg (by omega), if_neg (by omega), if_neg (by omega), if_neg (by omega), if_neg (by omega), if_neg (by omega), if_neg (by omega)]
 rfl
def sumN : Nd := binN 11 (numN 10000) (numN 20000)
def awl : Nd := binN 11 sumN (numN 10000)
def awr : Nd := binN 11 (numN 10000) sumN
theorem sum_spell : sumN.spell = [49, 45, 50] := by
 unfold sumN
 rw [binN_spell (by decide), numN_spell, numN_spell, textD_one, textD_two]
 rfl
theorem awl_spell : awl.spell = [49, 45, 50, 45, 49] := by
 unfold awl
 rw [binN_spell (by decide), sum_spell, numN_spell, textD_one]
 rfl
theorem awr_spell : awr.spell = [49, 45, 40, 49, 45, 50, 41] := by
 unfold awr
 rw [binN_spell (by decide), sum_spell, numN_spell, textD_one]
 rfl
theorem sum_ok : sumN.ok := binN_ok (by decide) (numN_ok (by decide)) (numN_ok (by decide))
theorem awl_ok : awl.ok := binN_ok (by decide) sum_ok (numN_ok (by decide))
theorem awr_ok : awr.ok := binN_ok (by decide) (numN_ok (by decide)) sum_ok
set_option maxHeartbeats 1000000 in
theorem eawake_ok {σ : ASt} (hT : Tab σ) (hM : MaxL σ) : ACalls Tryz.prog 6 [] σ fun v σ' => v = .bool true ∧ σ' = σ := by
 refine a6 (by simp) ?_
 simp (disch := first | assumption | omega) only [go_sem, Nat.reduceAdd, Nat.reduceLeDiff, ↓reduceIte]
 refine allocC_by fun b1 h1 => ?_
 simp (disch := first | assumption | omega) only [go_sem, Nat.reduceEqDiff, Nat.reduceAdd, Nat.reduceLeDiff, ↓reduceIte, Bool.true_and, ASt.set_set]
 refine allocC_by fun b2 h2 => ?_
 have k2 := h2
 repeat (with_reducible replace h2 := set_none h2; obtain ⟨_, _, h2⟩ := h2)
 simp (disch := first | assumption | omega) only [go_sem, Nat.reduceEqDiff, Nat.reduceAdd, Nat.reduceLeDiff, ↓reduceIte, Bool.true_and, ASt.set_set]
 refine allocC_by fun b3 h3 => ?_
 have k3 := h3
 repeat (with_reducible replace h3 := set_none h3; obtain ⟨_, _, h3⟩ := h3)
 simp (disch := first | assumption | omega) only [go_sem, Nat.reduceEqDiff, Nat.reduceAdd, Nat.reduceLeDiff, ↓reduceIte, Bool.true_and, ASt.set_set]
 refine allocC_by fun b4 h4 => ?_
 have k4 := h4
 repeat (with_reducible replace h4 := set_none h4; obtain ⟨_, _, h4⟩ := h4)
 simp (disch := first | assumption | omega) only [go_sem, Nat.reduceEqDiff, Nat.reduceAdd, Nat.reduceLeDiff, ↓reduceIte, Bool.true_and, ASt.set_set]
 refine allocC_by fun b5 h5 => ?_
 have k5 := h5
 repeat (with_reducible replace h5 := set_none h5; obtain ⟨_, _, h5⟩ := h5)
 have p1 := fun τ h1 h2 => print_ok (σ := τ) h1 h2 awl awl_ok (by rw [awl_spell]; decide)
 have p2 := fun τ h1 h2 => print_ok (σ := τ) h1 h2 awr awr_ok (by rw [awr_spell]; decide)
 have p3 := nsize_ok awl (by decide)
 have p4 := ndepth_ok awl (by decide)
 rw [awl_spell] at p1
 rw [awr_spell] at p2
 rw [show awl.size = 5 from rfl] at p3
 rw [show awl.depth = 3 from rfl] at p4
 simp (disch := first | assumption | omega) only [go_sem, Nat.reduceEqDiff, Nat.reduceAdd, Nat.reduceLeDiff, ↓reduceIte, Bool.true_and, ASt.set_set]
 refine ACalls.deep (args' := [awl.av]) rfl ((p1 _ (((((hT.set h1).set k2).set k3).set k4).set k5) (((((hM.set h1).set k2).set k3).set k4).set k5)).mono ?_)
 rintro v σ' ⟨rfl, rfl⟩
 simp (disch := first | assumption | omega) only [go_sem, Nat.reduceEqDiff, Nat.reduceAdd, Nat.reduceLeDiff, ↓reduceIte]
 refine ACalls.deep (args' := [awr.av]) rfl ((p2 _ (((((hT.set h1).set k2).set k3).set k4).set k5) (((((hM.set h1).set k2).set k3).set k4).set k5)).mono ?_)
 rintro v σ' ⟨rfl, rfl⟩
 simp (disch := first | assumption | omega) only [go_sem, Nat.reduceEqDiff, Nat.reduceAdd, Nat.reduceLeDiff, ↓reduceIte]
 refine ACalls.deep (args' := [awl.av]) rfl (p3.use ?_)
 simp (disch := first | assumption | omega) only [go_sem, Nat.reduceEqDiff, Nat.reduceAdd, Nat.reduceLeDiff, ↓reduceIte]
 refine ACalls.deep (args' := [awl.av]) rfl (p4.use ?_)
 simp (disch := first | assumption | omega) only [go_sem, Nat.reduceEqDiff, ↓reduceIte]
 exact retC_by (by repeat' (first | exact Drop.refl _ | with_reducible refine Drop.off ?_ (by assumption))) (.refl _) ⟨rfl, rfl⟩
theorem set_mid {σ : ASt} {b c : Nat} {X Y Z : Option Role} (h : b ≠ c) : ((σ.set b X).set c Y).set b Z = (σ.set b Z).set c Y := by
 funext x
 simp only [ASt.set]
 by_cases h1 : x = b
 ·subst h1; simp [h]
 ·simp [h1]
theorem r12signs_ok : Pure Tryz.prog 17 [] (.sl .shr (signL.map AV.str)) := by
 intro σ
 refine a17 (by simp) ?_
 simp (disch := first | assumption | omega) only [go_sem, ↓reduceIte, Bool.true_and]
 exact retC_by (by repeat' (first | exact Drop.refl _ | with_reducible refine Drop.off ?_ (by assumption))) (.sl _ _) ⟨rfl, rfl⟩
end Go.A
namespace Go.A
open Go.Proofs
/-! 9: tabular/expr.Same -/
def c9_0 : ACode := .ops [
 ⟨some 2, none, .e (.box (.t 0)), []⟩,
 ⟨some 3, none, .e (.box (.t 1)), []⟩,
 ⟨some 4, none, .q (.mv (.v (.bool false))), []⟩]
def c9_1 : ACode := .ops [
 ⟨some 5, none, .q (.fa 0 (.t 2)), []⟩,
 ⟨some 6, none, .q (.ld none (.t 5)), []⟩,
 ⟨some 7, none, .q (.fa 0 (.t 3)), []⟩,
 ⟨some 8, none, .q (.ld none (.t 7)), []⟩,
 ⟨some 9, none, .q (.bin .eql (.t 6) (.t 8)), []⟩,
 ⟨some 10, none, .q (.mv (.t 9)), []⟩,
 ⟨some 11, some (10, true), .q (.fa 1 (.t 2)), []⟩,
 ⟨some 12, some (10, true), .q (.ld none (.t 11)), []⟩,
 ⟨some 13, some (10, true), .q (.fa 1 (.t 3)), []⟩,
 ⟨some 14, some (10, true), .q (.ld none (.t 13)), []⟩,
 ⟨some 15, some (10, true), .q (.bin .eql (.t 12) (.t 14)), []⟩,
 ⟨some 16, none, .q (.pick (.t 10) (.t 15) (.v (.bool false))), []⟩,
 ⟨some 17, none, .q (.mv (.t 16)), []⟩,
 ⟨some 18, some (17, true), .q (.fa 2 (.t 2)), []⟩,
 ⟨some 19, some (17, true), .q (.ld none (.t 18)), []⟩,
 ⟨some 20, some (17, true), .q (.fa 2 (.t 3)), []⟩,
 ⟨some 21, some (17, true), .q (.ld none (.t 20)), []⟩,
 ⟨some 22, some (17, true), .q (.bin .eql (.t 19) (.t 21)), []⟩,
 ⟨some 23, none, .q (.pick (.t 17) (.t 22) (.v (.bool false))), []⟩,
 ⟨some 24, none, .q (.mv (.t 23)), []⟩,
 ⟨some 25, some (24, true), .q (.fa 3 (.t 2)), []⟩,
 ⟨some 26, some (24, true), .q (.ld (some 4) (.t 25)), []⟩,
 ⟨some 27, some (24, true), .q (.fa 3 (.t 3)), []⟩,
 ⟨some 28, some (24, true), .q (.ld (some 4) (.t 27)), []⟩,
 ⟨some 29, some (24, true), .q (.eqs false [(0, 0), (1, 0), (2, 1), (3, 1)] (.t 26) (.t 28)), []⟩,
 ⟨some 30, none, .q (.pick (.t 24) (.t 29) (.v (.bool false))), []⟩,
 ⟨some 31, none, .q (.mv (.t 30)), []⟩,
 ⟨some 32, some (31, true), .q (.fa 7 (.t 2)), []⟩,
 ⟨some 33, some (31, true), .q (.ld (some 4) (.t 32)), []⟩,
 ⟨some 34, some (31, true), .q (.fa 7 (.t 3)), []⟩,
 ⟨some 35, some (31, true), .q (.ld (some 4) (.t 34)), []⟩,
 ⟨some 36, some (31, true), .q (.eqs false [(0, 0), (1, 0), (2, 1), (3, 1)] (.t 33) (.t 35)), []⟩,
 ⟨some 37, none, .q (.pick (.t 31) (.t 36) (.v (.bool false))), []⟩,
 ⟨some 38, none, .q (.mv (.t 37)), []⟩,
 ⟨some 39, some (38, true), .q (.fa 11 (.t 2)), []⟩,
 ⟨some 40, some (38, true), .q (.ld none (.t 39)), []⟩,
 ⟨some 41, some (38, true), .q (.fa 11 (.t 3)), []⟩,
 ⟨some 42, some (38, true), .q (.ld none (.t 41)), []⟩,
 ⟨some 43, some (38, true), .e (.call 32 [(.t 40), (.t 42), (.v (.func (.func 9) [] []))]), []⟩,
 ⟨some 44, none, .q (.pick (.t 38) (.t 43) (.v (.bool false))), []⟩,
 ⟨some 4, none, .q (.mv (.t 44)), []⟩]
def c9_2 : ACode := .seq c9_1 .ret
def c9_3 : ACode := .seq c9_0 c9_2
@[go_sem] def c9_0_wp := wp_of c9_0.eq_1
@[go_sem] def c9_1_wp := wp_of c9_1.eq_1
@[go_sem] def c9_2_wp := wp_of c9_2.eq_1
@[go_sem] def c9_3_wp := wp_of c9_3.eq_1
def c9 : AFn := ⟨45, [.t 4], c9_3⟩
theorem c9_ok : compF Tryz.prog Tryz.f9 = some c9 := by kernel_rfl
theorem a9 {args : List AV} {σ : ASt} {R : AV → ASt → Prop} (hl : args.length ≤ 45) (h : c9_3.wp Tryz.prog (RetQ [.t 4] R) (init args) σ) : ACalls Tryz.prog 9 args σ R := acalls_of Tryz.func9 c9_ok hl h
/-! 15: tabular/expr.Areas -/
def c15_0 : ACode := .ops [
 ⟨some 1, none, .e (.box (.t 0)), []⟩,
 ⟨some 2, none, .q (.mv (.v (.sl .full []))), []⟩]
def c15_1 : ACode := .ops [
 ⟨some 3, none, .e (.alloc [(.sl .full [])]), []⟩]
def c15_2 : ACode := .ops [
 ⟨some 4, none, .q (.ld (some 12) (.t 1)), []⟩,
 ⟨some 5, none, .e (.call 33 [(.t 4), (.t 3)]), []⟩]
def c15_3 : ACode := .ops [
 ⟨some 6, none, .q (.ld none (.t 3)), []⟩,
 ⟨some 2, none, .q (.mv (.t 6)), []⟩]
def c15_4 : ACode := .seq c15_3 .ret
def c15_5 : ACode := .seq c15_2 c15_4
def c15_6 : ACode := .seq c15_1 c15_5
def c15_7 : ACode := .seq c15_0 c15_6
@[go_sem] def c15_0_wp := wp_of c15_0.eq_1
@[go_sem] def c15_1_wp := wp_of c15_1.eq_1
@[go_sem] def c15_2_wp := wp_of c15_2.eq_1
@[go_sem] def c15_3_wp := wp_of c15_3.eq_1
@[go_sem] def c15_4_wp := wp_of c15_4.eq_1
@[go_sem] def c15_5_wp := wp_of c15_5.eq_1
@[go_sem] def c15_6_wp := wp_of c15_6.eq_1
@[go_sem] def c15_7_wp := wp_of c15_7.eq_1
def c15 : AFn := ⟨7, [.t 2], c15_7⟩
theorem c15_ok : compF Tryz.prog Tryz.f15 = some c15 := by kernel_rfl
theorem a15 {args : List AV} {σ : ASt} {R : AV → ASt → Prop} (hl : args.length ≤ 7) (h : c15_7.wp Tryz.prog (RetQ [.t 2] R) (init args) σ) : ACalls Tryz.prog 15 args σ R := acalls_of Tryz.func15 c15_ok hl h
/-! 32: slices.EqualFunc[[]tabular/expr.Node,[]tabular/expr.Node,tabular/expr.Node,tabular/expr.Node] -/
def c32_0 : ACode := .ops [
 ⟨some 6, none, .q (.mv (.v (.bool false))), []⟩]
def c32_1 : ACode := .ops [
 ⟨some 10, none, .q (.mv (.t 0)), []⟩,
 ⟨some 11, none, .q (.len (.t 10)), []⟩,
 ⟨some 12, none, .q (.mv (.t 1)), []⟩,
 ⟨some 13, none, .q (.len (.t 12)), []⟩,
 ⟨some 14, none, .q (.bin .neq (.t 11) (.t 13)), []⟩]
def c32_2 : ACode := .ops [
 ⟨some 6, none, .q (.mv (.v (.bool false))), []⟩]
def c32_3 : ACode := .seq c32_2 .ret
def c32_4 : ACode := .cond (.t 14) c32_3 .skip
def c32_5 : ACode := .seq c32_1 c32_4
def c32_6 : ACode := .ops [
 ⟨some 15, none, .q (.mv (.t 0)), []⟩,
 ⟨some 16, none, .q (.len (.t 15)), []⟩,
 ⟨some 17, none, .q (.mv (.v (.int .i64 0))), []⟩]
def c32_7 : ACode := .ops [
 ⟨some 18, none, .q (.bin .lss (.t 17) (.t 16)), []⟩]
def c32_8 : ACode := .cond (.t 18) .skip (.exit 0)
def c32_9 : ACode := .ops [
 ⟨some 19, none, .q (.mv (.t 17)), []⟩,
 ⟨some 20, none, .q (.ia 12 (.t 15) (.t 17)), []⟩,
 ⟨some 21, none, .q (.ld (some 12) (.t 20)), []⟩,
 ⟨some 8, none, .e (.alloc [(.int .i64 0), (.int .i64 0), (.str []), (.int .i64 0), (.int .i64 0), (.bool false), (.bool false), (.int .i64 0), (.int .i64 0), (.bool false), (.bool false), (.sl .full [])]), []⟩,
 ⟨some 7, none, .q (.mv (.t 19)), []⟩,
 ⟨none, none, .e (.store 12 (.t 8) (.t 21)), []⟩]
def c32_10 : ACode := .ops [
 ⟨some 22, none, .q (.mv (.t 1)), []⟩,
 ⟨some 23, none, .q (.mv (.t 7)), []⟩,
 ⟨some 24, none, .q (.ia 12 (.t 22) (.t 23)), []⟩,
 ⟨some 25, none, .q (.ld (some 12) (.t 24)), []⟩,
 ⟨some 9, none, .e (.alloc [(.int .i64 0), (.int .i64 0), (.str []), (.int .i64 0), (.int .i64 0), (.bool false), (.bool false), (.int .i64 0), (.int .i64 0), (.bool false), (.bool false), (.sl .full [])]), []⟩,
 ⟨none, none, .e (.store 12 (.t 9) (.t 25)), []⟩]
def c32_11 : ACode := .ops [
 ⟨some 26, none, .q (.mv (.t 2)), []⟩,
 ⟨some 27, none, .q (.ld (some 12) (.t 8)), []⟩,
 ⟨some 28, none, .q (.ld (some 12) (.t 9)), []⟩,
 ⟨some 29, none, .e (.callv (.t 26) [(.t 27), (.t 28)]), []⟩,
 ⟨some 30, none, .q (.un .not (.t 29)), []⟩]
def c32_12 : ACode := .ops [
 ⟨some 6, none, .q (.mv (.v (.bool false))), []⟩]
def c32_13 : ACode := .seq c32_12 .ret
def c32_14 : ACode := .cond (.t 30) c32_13 .skip
def c32_15 : ACode := .seq c32_11 c32_14
def c32_16 : ACode := .seq c32_10 c32_15
def c32_17 : ACode := .seq c32_9 c32_16
def c32_18 : ACode := .block 1 c32_17
def c32_19 : ACode := .ops [
 ⟨some 31, none, .q (.bin .add (.t 17) (.v (.int .i64 1))), []⟩,
 ⟨some 17, none, .q (.mv (.t 31)), []⟩]
def c32_20 : ACode := .seq c32_18 c32_19
def c32_21 : ACode := .seq c32_8 c32_20
def c32_22 : ACode := .seq c32_7 c32_21
def c32_23 : ACode := .loop c32_22
def c32_24 : ACode := .block 0 c32_23
def c32_25 : ACode := .seq c32_6 c32_24
def c32_26 : ACode := .ops [
 ⟨some 6, none, .q (.mv (.v (.bool true))), []⟩]
def c32_27 : ACode := .seq c32_26 .ret
def c32_28 : ACode := .seq c32_25 c32_27
def c32_29 : ACode := .seq c32_5 c32_28
def c32_30 : ACode := .seq c32_0 c32_29
@[go_sem] def c32_0_wp := wp_of c32_0.eq_1
@[go_sem] def c32_1_wp := wp_of c32_1.eq_1
@[go_sem] def c32_2_wp := wp_of c32_2.eq_1
@[go_sem] def c32_3_wp := wp_of c32_3.eq_1
@[go_sem] def c32_4_wp := wp_of c32_4.eq_1
@[go_sem] def c32_5_wp := wp_of c32_5.eq_1
@[go_sem] def c32_6_wp := wp_of c32_6.eq_1
@[go_sem] def c32_7_wp := wp_of c32_7.eq_1
@[go_sem] def c32_8_wp := wp_of c32_8.eq_1
@[go_sem] def c32_9_wp := wp_of c32_9.eq_1
@[go_sem] def c32_10_wp := wp_of c32_10.eq_1
@[go_sem] def c32_11_wp := wp_of c32_11.eq_1
@[go_sem] def c32_12_wp := wp_of c32_12.eq_1
@[go_sem] def c32_13_wp := wp_of c32_13.eq_1
@[go_sem] def c32_14_wp := wp_of c32_14.eq_1
@[go_sem] def c32_15_wp := wp_of c32_15.eq_1
@[go_sem] def c32_16_wp := wp_of c32_16.eq_1
@[go_sem] def c32_17_wp := wp_of c32_17.eq_1
@[go_sem] def c32_18_wp := wp_of c32_18.eq_1
@[go_sem] def c32_19_wp := wp_of c32_19.eq_1
@[go_sem] def c32_20_wp := wp_of c32_20.eq_1
@[go_sem] def c32_21_wp := wp_of c32_21.eq_1
@[go_sem] def c32_22_wp := wp_of c32_22.eq_1
@[go_sem] def c32_23_wp := wp_of c32_23.eq_1
@[go_sem] def c32_24_wp := wp_of c32_24.eq_1
@[go_sem] def c32_25_wp := wp_of c32_25.eq_1
@[go_sem] def c32_26_wp := wp_of c32_26.eq_1
@[go_sem] def c32_27_wp := wp_of c32_27.eq_1
@[go_sem] def c32_28_wp := wp_of c32_28.eq_1
@[go_sem] def c32_29_wp := wp_of c32_29.eq_1
@[go_sem] def c32_30_wp := wp_of c32_30.eq_1
def c32 : AFn := ⟨32, [.t 6], c32_30⟩
theorem c32_ok : compF Tryz.prog Tryz.f32 = some c32 := by kernel_rfl
theorem a32 {args : List AV} {σ : ASt} {R : AV → ASt → Prop} (hl : args.length ≤ 32) (h : c32_30.wp Tryz.prog (RetQ [.t 6] R) (init args) σ) : ACalls Tryz.prog 32 args σ R := acalls_of Tryz.func32 c32_ok hl h
/-! 33: tabular/expr.areas -/
def c33_0 : ACode := .ops [
 ⟨some 2, none, .e (.box (.t 0)), []⟩]
def c33_1 : ACode := .ops [
 ⟨some 8, none, .q (.build [(.int .i64 0), (.int .i64 0), (.int .i64 0), (.int .i64 0)] []), []⟩,
 ⟨some 4, none, .e (.alloc [(.int .i64 0), (.int .i64 0), (.int .i64 0), (.int .i64 0)]), []⟩,
 ⟨none, none, .e (.store 4 (.t 4) (.t 8)), []⟩,
 ⟨some 5, none, .q (.mv (.v (.bool true))), []⟩]
def c33_2 : ACode := .ops [
 ⟨some 9, none, .q (.fa 0 (.t 2)), []⟩,
 ⟨some 10, none, .q (.ld none (.t 9)), []⟩]
def c33_3 : ACode := .ops [
 ⟨some 12, none, .q (.bin .eql (.t 10) (.v (.int .i64 5))), []⟩,
 ⟨some 11, none, .q (.mv (.t 12)), []⟩]
def c33_4 : ACode := .ops [
 ⟨some 13, none, .q (.fa 3 (.t 2)), []⟩,
 ⟨some 14, none, .q (.ld (some 4) (.t 13)), []⟩,
 ⟨some 15, none, .e (.call 60 [(.t 14)]), []⟩,
 ⟨none, none, .e (.store 4 (.t 4) (.t 15)), []⟩]
def c33_5 : ACode := .ops [
 ⟨some 17, none, .q (.bin .eql (.t 10) (.v (.int .i64 6))), []⟩,
 ⟨some 16, none, .q (.mv (.t 17)), []⟩]
def c33_6 : ACode := .ops [
 ⟨some 18, none, .q (.fa 3 (.t 2)), []⟩,
 ⟨some 19, none, .q (.ld (some 4) (.t 18)), []⟩,
 ⟨some 20, none, .q (.fa 7 (.t 2)), []⟩,
 ⟨some 21, none, .q (.ld (some 4) (.t 20)), []⟩,
 ⟨some 22, none, .q (.build [(.int .i64 0), (.int .i64 0), (.bool false), (.bool false), (.int .i64 0), (.int .i64 0), (.bool false), (.bool false)] [(0, 4, (.t 19)), (4, 4, (.t 21))]), []⟩,
 ⟨some 23, none, .e (.call 61 [(.t 22)]), []⟩,
 ⟨none, none, .e (.store 4 (.t 4) (.t 23)), []⟩]
def c33_7 : ACode := .ops [
 ⟨some 5, none, .q (.mv (.v (.bool false))), []⟩]
def c33_8 : ACode := .cond (.t 16) c33_6 c33_7
def c33_9 : ACode := .seq c33_5 c33_8
def c33_10 : ACode := .cond (.t 11) c33_4 c33_9
def c33_11 : ACode := .seq c33_3 c33_10
def c33_12 : ACode := .block 0 c33_11
def c33_13 : ACode := .seq c33_2 c33_12
def c33_14 : ACode := .ops [
 ⟨some 24, none, .q (.mv (.t 5)), []⟩,
 ⟨some 25, none, .q (.mv (.t 24)), []⟩,
 ⟨some 26, some (25, true), .q (.mv (.t 1)), []⟩,
 ⟨some 27, some (25, true), .q (.nc (.t 26)), []⟩,
 ⟨some 28, some (25, true), .q (.ld none (.t 27)), []⟩,
 ⟨some 29, some (25, true), .q (.ld (some 4) (.t 4)), []⟩,
 ⟨some 30, some (25, true), .e (.call 62 [(.t 28), (.t 29)]), []⟩,
 ⟨some 31, some (25, true), .q (.un .not (.t 30)), []⟩,
 ⟨some 32, none, .q (.pick (.t 25) (.t 31) (.v (.bool false))), []⟩]
def c33_15 : ACode := .ops [
 ⟨some 33, none, .q (.mv (.t 1)), []⟩,
 ⟨some 34, none, .q (.mv (.t 1)), []⟩,
 ⟨some 35, none, .q (.nc (.t 34)), []⟩,
 ⟨some 36, none, .q (.ld none (.t 35)), []⟩,
 ⟨some 37, none, .q (.ld (some 4) (.t 4)), []⟩,
 ⟨some 38, none, .q (.bsl 4 [(.t 37)]), []⟩,
 ⟨some 39, none, .e (.app 48 4 32 [(.int .i64 0), (.int .i64 0), (.int .i64 0), (.int .i64 0)] (.t 36) (.t 38)), []⟩,
 ⟨some 40, none, .q (.nc (.t 33)), []⟩,
 ⟨none, none, .e (.store 1 (.t 40) (.t 39)), []⟩]
def c33_16 : ACode := .cond (.t 32) c33_15 .skip
def c33_17 : ACode := .seq c33_14 c33_16
def c33_18 : ACode := .ops [
 ⟨some 41, none, .q (.fa 11 (.t 2)), []⟩,
 ⟨some 42, none, .q (.ld none (.t 41)), []⟩,
 ⟨some 43, none, .q (.len (.t 42)), []⟩,
 ⟨some 44, none, .q (.mv (.v (.int .i64 0))), []⟩]
def c33_19 : ACode := .ops [
 ⟨some 45, none, .q (.bin .lss (.t 44) (.t 43)), []⟩]
def c33_20 : ACode := .cond (.t 45) .skip (.exit 1)
def c33_21 : ACode := .ops [
 ⟨some 46, none, .q (.ia 12 (.t 42) (.t 44)), []⟩,
 ⟨some 47, none, .q (.ld (some 12) (.t 46)), []⟩,
 ⟨some 7, none, .e (.alloc [(.int .i64 0), (.int .i64 0), (.str []), (.int .i64 0), (.int .i64 0), (.bool false), (.bool false), (.int .i64 0), (.int .i64 0), (.bool false), (.bool false), (.sl .full [])]), []⟩,
 ⟨none, none, .e (.store 12 (.t 7) (.t 47)), []⟩]
def c33_22 : ACode := .ops [
 ⟨some 48, none, .q (.ld (some 12) (.t 7)), []⟩,
 ⟨some 49, none, .q (.mv (.t 1)), []⟩,
 ⟨some 50, none, .e (.call 33 [(.t 48), (.t 49)]), []⟩]
def c33_23 : ACode := .seq c33_21 c33_22
def c33_24 : ACode := .block 2 c33_23
def c33_25 : ACode := .ops [
 ⟨some 51, none, .q (.bin .add (.t 44) (.v (.int .i64 1))), []⟩,
 ⟨some 44, none, .q (.mv (.t 51)), []⟩]
def c33_26 : ACode := .seq c33_24 c33_25
def c33_27 : ACode := .seq c33_20 c33_26
def c33_28 : ACode := .seq c33_19 c33_27
def c33_29 : ACode := .loop c33_28
def c33_30 : ACode := .block 1 c33_29
def c33_31 : ACode := .seq c33_18 c33_30
def c33_32 : ACode := .seq c33_17 c33_31
def c33_33 : ACode := .seq c33_13 c33_32
def c33_34 : ACode := .seq c33_1 c33_33
def c33_35 : ACode := .seq c33_0 c33_34
@[go_sem] def c33_0_wp := wp_of c33_0.eq_1
@[go_sem] def c33_1_wp := wp_of c33_1.eq_1
@[go_sem] def c33_2_wp := wp_of c33_2.eq_1
@[go_sem] def c33_3_wp := wp_of c33_3.eq_1
@[go_sem] def c33_4_wp := wp_of c33_4.eq_1
@[go_sem] def c33_5_wp := wp_of c33_5.eq_1
@[go_sem] def c33_6_wp := wp_of c33_6.eq_1
@[go_sem] def c33_7_wp := wp_of c33_7.eq_1
@[go_sem] def c33_8_wp := wp_of c33_8.eq_1
@[go_sem] def c33_9_wp := wp_of c33_9.eq_1
@[go_sem] def c33_10_wp := wp_of c33_10.eq_1
@[go_sem] def c33_11_wp := wp_of c33_11.eq_1
@[go_sem] def c33_12_wp := wp_of c33_12.eq_1
@[go_sem] def c33_13_wp := wp_of c33_13.eq_1
@[go_sem] def c33_14_wp := wp_of c33_14.eq_1
@[go_sem] def c33_15_wp := wp_of c33_15.eq_1
@[go_sem] def c33_16_wp := wp_of c33_16.eq_1
@[go_sem] def c33_17_wp := wp_of c33_17.eq_1
@[go_sem] def c33_18_wp := wp_of c33_18.eq_1
@[go_sem] def c33_19_wp := wp_of c33_19.eq_1
@[go_sem] def c33_20_wp := wp_of c33_20.eq_1
@[go_sem] def c33_21_wp := wp_of c33_21.eq_1
@[go_sem] def c33_22_wp := wp_of c33_22.eq_1
@[go_sem] def c33_23_wp := wp_of c33_23.eq_1
@[go_sem] def c33_24_wp := wp_of c33_24.eq_1
@[go_sem] def c33_25_wp := wp_of c33_25.eq_1
@[go_sem] def c33_26_wp := wp_of c33_26.eq_1
@[go_sem] def c33_27_wp := wp_of c33_27.eq_1
@[go_sem] def c33_28_wp := wp_of c33_28.eq_1
@[go_sem] def c33_29_wp := wp_of c33_29.eq_1
@[go_sem] def c33_30_wp := wp_of c33_30.eq_1
@[go_sem] def c33_31_wp := wp_of c33_31.eq_1
@[go_sem] def c33_32_wp := wp_of c33_32.eq_1
@[go_sem] def c33_33_wp := wp_of c33_33.eq_1
@[go_sem] def c33_34_wp := wp_of c33_34.eq_1
@[go_sem] def c33_35_wp := wp_of c33_35.eq_1
def c33 : AFn := ⟨52, [], c33_35⟩
theorem c33_ok : compF Tryz.prog Tryz.f33 = some c33 := by kernel_rfl
theorem a33 {args : List AV} {σ : ASt} {R : AV → ASt → Prop} (hl : args.length ≤ 52) (h : c33_35.wp Tryz.prog (RetQ [] R) (init args) σ) : ACalls Tryz.prog 33 args σ R := acalls_of Tryz.func33 c33_ok hl h
/-! 60: (tabular/addr.Ref).Rect -/
def c60_0 : ACode := .ops [
 ⟨some 1, none, .e (.box (.t 0)), []⟩,
 ⟨some 2, none, .e (.alloc [(.int .i64 0), (.int .i64 0), (.int .i64 0), (.int .i64 0)]), []⟩]
def c60_1 : ACode := .ops [
 ⟨some 3, none, .q (.fa 0 (.t 1)), []⟩,
 ⟨some 4, none, .q (.ld none (.t 3)), []⟩,
 ⟨some 5, none, .q (.fa 1 (.t 1)), []⟩,
 ⟨some 6, none, .q (.ld none (.t 5)), []⟩,
 ⟨some 7, none, .q (.build [(.int .i64 0), (.int .i64 0), (.int .i64 0), (.int .i64 0)] [(0, 1, (.t 4)), (1, 1, (.t 6)), (2, 1, (.v (.int .i64 1))), (3, 1, (.v (.int .i64 1)))]), []⟩,
 ⟨none, none, .e (.store 4 (.t 2) (.t 7)), []⟩]
def c60_2 : ACode := .seq c60_1 .ret
def c60_3 : ACode := .seq c60_0 c60_2
@[go_sem] def c60_0_wp := wp_of c60_0.eq_1
@[go_sem] def c60_1_wp := wp_of c60_1.eq_1
@[go_sem] def c60_2_wp := wp_of c60_2.eq_1
@[go_sem] def c60_3_wp := wp_of c60_3.eq_1
def c60 : AFn := ⟨8, [.c 2 (some 4)], c60_3⟩
theorem c60_ok : compF Tryz.prog Tryz.f60 = some c60 := by kernel_rfl
theorem a60 {args : List AV} {σ : ASt} {R : AV → ASt → Prop} (hl : args.length ≤ 8) (h : c60_3.wp Tryz.prog (RetQ [.c 2 (some 4)] R) (init args) σ) : ACalls Tryz.prog 60 args σ R := acalls_of Tryz.func60 c60_ok hl h
/-! 62: slices.Contains[[]tabular/addr.Rect,tabular/addr.Rect] -/
def c62_0 : ACode := .ops [
 ⟨some 3, none, .e (.box (.t 1)), []⟩,
 ⟨some 4, none, .q (.mv (.v (.bool false))), []⟩]
def c62_1 : ACode := .ops [
 ⟨some 5, none, .q (.mv (.t 0)), []⟩,
 ⟨some 6, none, .q (.ld (some 4) (.t 3)), []⟩,
 ⟨some 7, none, .e (.call 74 [(.t 5), (.t 6)]), []⟩,
 ⟨some 8, none, .q (.bin .geq (.t 7) (.v (.int .i64 0))), []⟩,
 ⟨some 4, none, .q (.mv (.t 8)), []⟩]
def c62_2 : ACode := .seq c62_1 .ret
def c62_3 : ACode := .seq c62_0 c62_2
@[go_sem] def c62_0_wp := wp_of c62_0.eq_1
@[go_sem] def c62_1_wp := wp_of c62_1.eq_1
@[go_sem] def c62_2_wp := wp_of c62_2.eq_1
@[go_sem] def c62_3_wp := wp_of c62_3.eq_1
def c62 : AFn := ⟨9, [.t 4], c62_3⟩
theorem c62_ok : compF Tryz.prog Tryz.f62 = some c62 := by kernel_rfl
theorem a62 {args : List AV} {σ : ASt} {R : AV → ASt → Prop} (hl : args.length ≤ 9) (h : c62_3.wp Tryz.prog (RetQ [.t 4] R) (init args) σ) : ACalls Tryz.prog 62 args σ R := acalls_of Tryz.func62 c62_ok hl h
/-! 74: slices.Index[[]tabular/addr.Rect,tabular/addr.Rect] -/
def c74_0 : ACode := .ops [
 ⟨some 3, none, .e (.box (.t 1)), []⟩,
 ⟨some 4, none, .q (.mv (.v (.int .i64 0))), []⟩]
def c74_1 : ACode := .ops [
 ⟨some 6, none, .q (.mv (.t 0)), []⟩,
 ⟨some 7, none, .q (.len (.t 6)), []⟩,
 ⟨some 8, none, .q (.mv (.v (.int .i64 0))), []⟩]
def c74_2 : ACode := .ops [
 ⟨some 9, none, .q (.bin .lss (.t 8) (.t 7)), []⟩]
def c74_3 : ACode := .cond (.t 9) .skip (.exit 0)
def c74_4 : ACode := .ops [
 ⟨some 10, none, .q (.mv (.t 8)), []⟩,
 ⟨some 5, none, .q (.mv (.t 10)), []⟩]
def c74_5 : ACode := .ops [
 ⟨some 11, none, .q (.ld (some 4) (.t 3)), []⟩,
 ⟨some 12, none, .q (.mv (.t 0)), []⟩,
 ⟨some 13, none, .q (.mv (.t 5)), []⟩,
 ⟨some 14, none, .q (.ia 4 (.t 12) (.t 13)), []⟩,
 ⟨some 15, none, .q (.ld (some 4) (.t 14)), []⟩,
 ⟨some 16, none, .q (.eqs false [(0, 0), (1, 0), (2, 0), (3, 0)] (.t 11) (.t 15)), []⟩]
def c74_6 : ACode := .ops [
 ⟨some 17, none, .q (.mv (.t 5)), []⟩,
 ⟨some 4, none, .q (.mv (.t 17)), []⟩]
def c74_7 : ACode := .seq c74_6 .ret
def c74_8 : ACode := .cond (.t 16) c74_7 .skip
def c74_9 : ACode := .seq c74_5 c74_8
def c74_10 : ACode := .seq c74_4 c74_9
def c74_11 : ACode := .block 1 c74_10
def c74_12 : ACode := .ops [
 ⟨some 18, none, .q (.bin .add (.t 8) (.v (.int .i64 1))), []⟩,
 ⟨some 8, none, .q (.mv (.t 18)), []⟩]
def c74_13 : ACode := .seq c74_11 c74_12
def c74_14 : ACode := .seq c74_3 c74_13
def c74_15 : ACode := .seq c74_2 c74_14
def c74_16 : ACode := .loop c74_15
def c74_17 : ACode := .block 0 c74_16
def c74_18 : ACode := .seq c74_1 c74_17
def c74_19 : ACode := .ops [
 ⟨some 4, none, .q (.mv (.v (.int .i64 (-1)))), []⟩]
def c74_20 : ACode := .seq c74_19 .ret
def c74_21 : ACode := .seq c74_18 c74_20
def c74_22 : ACode := .seq c74_0 c74_21
@[go_sem] def c74_0_wp := wp_of c74_0.eq_1
@[go_sem] def c74_1_wp := wp_of c74_1.eq_1
@[go_sem] def c74_2_wp := wp_of c74_2.eq_1
@[go_sem] def c74_3_wp := wp_of c74_3.eq_1
@[go_sem] def c74_4_wp := wp_of c74_4.eq_1
@[go_sem] def c74_5_wp := wp_of c74_5.eq_1
@[go_sem] def c74_6_wp := wp_of c74_6.eq_1
@[go_sem] def c74_7_wp := wp_of c74_7.eq_1
@[go_sem] def c74_8_wp := wp_of c74_8.eq_1
@[go_sem] def c74_9_wp := wp_of c74_9.eq_1
@[go_sem] def c74_10_wp := wp_of c74_10.eq_1
@[go_sem] def c74_11_wp := wp_of c74_11.eq_1
@[go_sem] def c74_12_wp := wp_of c74_12.eq_1
@[go_sem] def c74_13_wp := wp_of c74_13.eq_1
@[go_sem] def c74_14_wp := wp_of c74_14.eq_1
@[go_sem] def c74_15_wp := wp_of c74_15.eq_1
@[go_sem] def c74_16_wp := wp_of c74_16.eq_1
@[go_sem] def c74_17_wp := wp_of c74_17.eq_1
@[go_sem] def c74_18_wp := wp_of c74_18.eq_1
@[go_sem] def c74_19_wp := wp_of c74_19.eq_1
@[go_sem] def c74_20_wp := wp_of c74_20.eq_1
@[go_sem] def c74_21_wp := wp_of c74_21.eq_1
@[go_sem] def c74_22_wp := wp_of c74_22.eq_1
def c74 : AFn := ⟨19, [.t 4], c74_22⟩
theorem c74_ok : compF Tryz.prog Tryz.f74 = some c74 := by kernel_rfl
theorem a74 {args : List AV} {σ : ASt} {R : AV → ASt → Prop} (hl : args.length ≤ 19) (h : c74_22.wp Tryz.prog (RetQ [.t 4] R) (init args) σ) : ACalls Tryz.prog 74 args σ R := acalls_of Tryz.func74 c74_ok hl h
end Go.A
namespace Go.A
def OwnSl (σ0 σ : ASt) (v : AV) (xs : List AV) (s : Nat) : Prop :=
 (xs = [] ∧ v = .sl .full [] ∧ σ = σ0) ∨ ∃ b c rest, v = .msl b 0 xs.length c ∧ xs.length ≤ c ∧ rest.length = (c - xs.length) * s ∧ σ0 b = none ∧ σ = σ0.set b (some (.obj (xs.flatMap AV.cells ++ rest)))
theorem OwnSl.drop {σ0 σ : ASt} {v : AV} {xs : List AV} {s : Nat} (h : OwnSl σ0 σ v xs s) : Drop σ σ0 := by
 rcases h with ⟨_, _, rfl⟩ | ⟨b, c, rest, _, _, _, hb, rfl⟩
 ·exact Drop.refl _
 ·exact Drop.set hb
def zrow (s : Nat) (z : List AV) (n c : Nat) : List AV := (List.range ((c - n) * s)).map fun i => z.getD (i % s) .any
theorem zrow_len (s : Nat) (z : List AV) (n c : Nat) : (zrow s z n c).length = (c - n) * s := by simp [zrow]
theorem ownRow_z {s n c : Nat} {z cs : List AV} : ownRow s z cs n c = cs ++ zrow s z n c := rfl
theorem OwnSl.app {e : TypeId} {σ0 σ : ASt} {v : AV} {xs ys z : List AV} {s bytes : Nat} {k2 : SK} {K : AV → ASt → Prop} (h : OwnSl σ0 σ v xs s) (hx : ∀ x ∈ xs, x.cells.length = s) (h2 : wellSz s ys = true) (h3 : leaves (ys.flatMap AV.cells) = true)
  (h4 : (xs.length + ys.length) * bytes ≤ 140737488355328) (h5 : xs.length + ys.length ≤ 4611686018427387904) (h6 : 0 < ys.length)
  (hK : ∀ v' σ', (∃ σ2, Drop σ' σ2 ∧ OwnSl σ0 σ2 v' (xs ++ ys) s) → K v' σ') : appC e s bytes z v (.sl k2 ys) σ K := by
 have hyl : (ys.flatMap AV.cells).length = ys.length * s := lens_flat (wellSz_lens h2)
 have hxl : (xs.flatMap AV.cells).length = xs.length * s := lens_flat hx
 rcases h with ⟨rfl, rfl, rfl⟩ | ⟨b, c, rest, rfl, hc, hr, hb, rfl⟩
 ·refine appO_by rfl h2 h3 h4 h5 h6 fun b c hb hc => hK _ _ ⟨_, Drop.refl _, .inr ⟨b, c, zrow s z (([] : List AV).length + ys.length) c, ?_, ?_, ?_, hb, ?_⟩⟩
  ·simp
  ·simpa using hc
  ·rw [zrow_len]; simp
  ·rw [ownRow_z]; simp only [List.nil_append, List.flatMap_nil]
 ·rw [appC_msl, ASt.set_same]
  refine appM_by h2 h3 h4 h5 (by rw [List.length_append, hxl, hr]; omega) (fun hroom => ⟨?_, ?_⟩) (fun hgrow b' c' hb' hc' => ?_)
  ·rw [List.length_append, hxl, hr, Nat.zero_add, ← Nat.add_mul]
   exact Nat.mul_le_mul_right _ (by omega)
  ·rw [ASt.set_set]
   refine hK _ _ ⟨_, Drop.refl _, .inr ⟨b, c, rest.drop (ys.length * s), by simp, by simpa using hroom, ?_, hb, ?_⟩⟩
   ·rw [List.length_drop, hr, ← Nat.sub_mul, List.length_append]
    congr 1
    omega
   ·congr 3
    unfold splice
    rw [Nat.zero_add, List.flatMap_append]
    have e1 : (xs.flatMap AV.cells ++ rest).take (xs.length * s) = xs.flatMap AV.cells := by rw [← hxl]; simp
    have e2 : (xs.flatMap AV.cells ++ rest).drop (xs.length * s + ys.length * s) = rest.drop (ys.length * s) := by rw [← hxl, ← List.drop_drop]; simp
    rw [e1, e2]
  ·obtain ⟨m1, m2, hb0⟩ := set_none hb'
   have e1 : ((xs.flatMap AV.cells ++ rest).drop 0).take (xs.length * s) = xs.flatMap AV.cells := by rw [← hxl]; simp
   rw [e1]
   refine hK _ _ ⟨σ0.set b' (some (.obj (ownRow s z (xs.flatMap AV.cells ++ ys.flatMap AV.cells) (xs.length + ys.length) c'))), ?_, .inr ⟨b', c', zrow s z (xs.length + ys.length) c', by simp, by simpa using hc', by rw [zrow_len, List.length_append], hb0, ?_⟩⟩
   ·rw [set_swap m2]
    exact Drop.set (by rw [ASt.set_ne m2]; exact hb)
   ·rw [ownRow_z, List.flatMap_append]
theorem OwnSl.at {σ0 σ : ASt} {x : Nat} {r : Role} {v : AV} {xs : List AV} {s : Nat} (h : OwnSl σ0 σ v xs s) (hx : σ0 x = some r) : σ x = some r := by
 rcases h with ⟨_, _, rfl⟩ | ⟨b, c, rest, _, _, _, hb, rfl⟩
 ·exact hx
 ·rw [ASt.set_ne]
  ·exact hx
  ·rintro rfl; rw [hb] at hx; cases hx
theorem OwnSl.fresh {σ0 σ : ASt} {x : Nat} {v : AV} {xs : List AV} {s : Nat} (h : OwnSl σ0 σ v xs s) (hx : σ x = none) : σ0 x = none := by
 cases hr : σ0 x with
 | none => rfl
 | some r => rw [h.at hr] at hx; cases hx
theorem OwnSl.add {σ0 σ : ASt} {d : Nat} {r : Option Role} {v : AV} {xs : List AV} {s : Nat} (h : OwnSl σ0 σ v xs s) (hd : σ d = none) : OwnSl (σ0.set d r) (σ.set d r) v xs s := by
 rcases h with ⟨h1, h2, rfl⟩ | ⟨b, c, rest, h1, h2, h3, h4, rfl⟩
 ·exact .inl ⟨h1, h2, rfl⟩
 ·obtain ⟨h5, h6, h7⟩ := set_none hd
  exact .inr ⟨b, c, rest, h1, h2, h3, by rw [ASt.set_ne h6]; exact h4, set_swap h6⟩
theorem OwnSl.less {σ0 σ : ASt} {e : Nat} {E : Role} {v : AV} {xs : List AV} {s : Nat} (h : OwnSl (σ0.set e (some E)) σ v xs s) (he : σ0 e = none) : ∃ σ', Drop σ σ' ∧ OwnSl σ0 σ' v xs s := by
 rcases h with ⟨h1, h2, rfl⟩ | ⟨b, c, rest, h1, h2, h3, h4, rfl⟩
 ·exact ⟨σ0, Drop.set he, .inl ⟨h1, h2, rfl⟩⟩
 ·obtain ⟨h5, h6, h7⟩ := set_none h4
  refine ⟨σ0.set b (some (.obj (xs.flatMap AV.cells ++ rest))), ?_, .inr ⟨b, c, rest, h1, h2, h3, h7, rfl⟩⟩
  rw [set_swap h6]
  exact Drop.set (by rw [ASt.set_ne h6]; exact he)
theorem OwnSl.fz {σ0 σ σ' : ASt} {v : AV} {xs : List AV} {s : Nat} (h : OwnSl σ0 σ v xs s) (hx : ∀ x ∈ xs, x.cells.length = s) (hn : ∀ b, σ0 b = none → σ' b = none) : Fz σ σ' v (.sl .shr xs) := by
 rcases h with ⟨rfl, rfl, rfl⟩ | ⟨b, c, rest, rfl, h2, h3, h4, rfl⟩
 ·exact .sl _ _
 ·have hxl : (xs.flatMap AV.cells).length = xs.length * s := lens_flat hx
  refine .msl 0 _ c s xs (ASt.set_same _ _ _) (hn _ h4) rfl h2 hx ?_
  rw [List.drop_zero, ← hxl, List.take_left]
end Go.A
namespace Go.A
open Go.Proofs Go.Lib
mutual
def Nd.same : Nd → Nd → Bool
 | .mk o n s a b ks, .mk o' n' s' a' b' ks' => decide (o = o') && decide (n = n') && decide (s = s') && decide (a = a') && decide (b = b') && Nd.sames ks ks'
def Nd.sames : List Nd → List Nd → Bool
 | [], [] => true
 | [], _ :: _ => false
 | _ :: _, [] => false
 | x :: xs, y :: ys => Nd.same x y && Nd.sames xs ys
end
mutual
theorem Nd.same_eq : ∀ (x y : Nd), Nd.same x y = true → x = y
 | .mk o n s a b ks, .mk o' n' s' a' b' ks', h => by
   rw [Nd.same] at h
   simp only [Bool.and_eq_true, decide_eq_true_eq] at h
   obtain ⟨⟨⟨⟨⟨rfl, rfl⟩, rfl⟩, rfl⟩, rfl⟩, h⟩ := h
   rw [Nd.sames_eq ks ks' h]
theorem Nd.sames_eq : ∀ (xs ys : List Nd), Nd.sames xs ys = true → xs = ys
 | [], [], _ => rfl
 | [], _ :: _, h => by cases h
 | _ :: _, [], h => by cases h
 | x :: xs, y :: ys, h => by
   rw [Nd.sames, Bool.and_eq_true] at h
   rw [Nd.same_eq x y h.1, Nd.sames_eq xs ys h.2]
end
mutual
theorem Nd.same_refl : ∀ x : Nd, Nd.same x x = true
 | .mk o n s a b ks => by rw [Nd.same, Nd.sames_refl ks]; simp
theorem Nd.sames_refl : ∀ xs : List Nd, Nd.sames xs xs = true
 | [] => rfl
 | x :: xs => by rw [Nd.sames, Nd.same_refl x, Nd.sames_refl xs]; rfl
end
theorem Nd.sames_len : ∀ {xs ys : List Nd}, Nd.sames xs ys = true → xs.length = ys.length := fun h => by rw [Nd.sames_eq _ _ h]
theorem Nd.sames_get {xs ys : List Nd} {i : Nat} {x y : Nd} (hx : xs[i]? = some x) (hy : ys[i]? = some y) (h : Nd.sames xs ys = true) : Nd.same x y = true := by
 rw [Nd.sames_eq _ _ h, hy] at hx
 injection hx with hx
 rw [hx]; exact Nd.same_refl _
theorem Nd.sames_all : ∀ {xs ys : List Nd}, xs.length = ys.length → (∀ (i : Nat) x y, xs[i]? = some x → ys[i]? = some y → Nd.same x y = true) → Nd.sames xs ys = true
 | [], [], _, _ => rfl
 | [], _ :: _, h, _ => by simp at h
 | _ :: _, [], h, _ => by simp at h
 | x :: xs, y :: ys, h, hs => by
   rw [Nd.sames, hs 0 x y rfl rfl, Nd.sames_all (by simpa using h) fun i u v hu hv => hs (i + 1) u v (by simpa using hu) (by simpa using hv)]
   rfl
theorem equal_ok (xs ys : List Nd) (hl : xs.length ≤ 1000000000 ∧ ys.length ≤ 1000000000) (ih : ∀ x ∈ xs, ∀ y ∈ ys, Pure Tryz.prog 9 [x.av, y.av] (.bool (Nd.same x y))) :
  Pure Tryz.prog 32 [.sl .shr (xs.map Nd.av), .sl .shr (ys.map Nd.av), .func (.func 9) [] []] (.bool (Nd.sames xs ys)) := by
 intro σ
 refine a32 (by simp) ?_
 by_cases hne : xs.length = ys.length
 ·have hne' : ¬ ((xs.length : Int) ≠ ys.length) := by omega
  have hne2 : (xs.length : Int) = ys.length := by omega
  simp (disch := first | assumption | omega) only [go_sem, reduceCtorEq, Nat.reduceEqDiff, ↓reduceIte, hne2]
  refine wp_loop_by (fun (i : Nat) a1 s2 => (i ≤ xs.length ∧ ∀ k x y, k < i → xs[k]? = some x → ys[k]? = some y → Nd.same x y = true) ∧ (a1 1 = .sl .shr (ys.map Nd.av) ∧ a1 2 = .func (.func 9) [] [] ∧ a1 15 = .sl .shr (xs.map Nd.av) ∧ a1 16 = .int .i64 xs.length ∧ a1 17 = .int .i64 i) ∧ s2 = σ) (fun i => xs.length - i) 0 (Dr.now ⟨⟨Nat.zero_le _, fun k x y h => by omega⟩, ?_, rfl⟩) ?_
  ·simp (disch := first | assumption | omega) only [go_sem, Nat.reduceEqDiff, ↓reduceIte, hne2]
  rintro i a1 s2 ⟨⟨hi, hall⟩, hf, rfl⟩
  by_cases hlt : i < xs.length
  ·have hlt' : (i : Int) < xs.length := by omega
   have hx : xs[i]? = some (xs[i]'hlt) := List.getElem?_eq_getElem hlt
   have hy : ys[i]? = some (ys[i]'(by omega)) := List.getElem?_eq_getElem (by omega)
   have hih := ih _ (List.getElem_mem hlt) _ (List.getElem_mem (h := by omega) : ys[i]'(by omega) ∈ ys)
   obtain ⟨x, hxe⟩ : ∃ x, xs[i]'hlt = x := ⟨_, rfl⟩
   obtain ⟨y, hye⟩ : ∃ y, ys[i]'(by omega) = y := ⟨_, rfl⟩
   rw [hxe] at hx hih
   rw [hye] at hy hih
   have hmx := Nd.get hx
   have hmy := Nd.get hy
   obtain ⟨r, hr⟩ : ∃ r, Nd.same x y = r := ⟨_, rfl⟩
   rw [hr] at hih
   obtain ⟨xo, xm, xs', xa, xb, xk⟩ := x
   obtain ⟨yo, ym, ys', ya, yb, yk⟩ := y
   rw [Nd.av_cs] at hmx
   rw [Nd.av_cs] at hmy
   rw [Nd.av_cs, Nd.av_cs] at hih
   generalize xk.map Nd.av = XK at *
   generalize yk.map Nd.av = YK at *
   generalize hXL : xs.map Nd.av = XL at *
   generalize hYL : ys.map Nd.av = YL at *
   have hok : okFn Tryz.prog 9 = true := by kernel_rfl
   simp (disch := first | assumption | omega) only [go_sem, Nat.reduceEqDiff, Nat.reduceLeDiff, ↓reduceIte, hf, hlt', hmx]
   refine allocC_by fun d hd => ?_
   have hd0 := hd
   simp (disch := first | assumption | omega) only [go_sem, Nat.reduceEqDiff, Nat.reduceAdd, Nat.reduceLeDiff, ↓reduceIte, hf, hmy, ASt.set_set]
   refine allocC_by fun e he => ?_
   have he0 := he
   repeat (with_reducible replace he := set_none he; obtain ⟨_, _, he⟩ := he)
   simp (disch := first | assumption | omega) only [go_sem, Nat.reduceEqDiff, Nat.reduceAdd, Nat.reduceLeDiff, ↓reduceIte, hf, ASt.set_set]
   refine ⟨hok, hih.use ?_⟩
   cases r with
   | true =>
     simp (disch := first | assumption | omega) only [go_sem, Nat.reduceEqDiff, ↓reduceIte, hf]
     refine ⟨i + 1, by dsimp only; omega, Dr.drop ((Drop.set hd).off (by assumption)) ⟨⟨by omega, fun k u v hk hu hv => ?_⟩, ?_, rfl⟩⟩
     ·by_cases hki : k = i
      ·subst hki
       rw [hx] at hu; rw [hy] at hv
       injection hu with hu; injection hv with hv
       subst hu hv; exact hr
      ·exact hall k u v (by omega) hu hv
     ·simp (disch := first | assumption | omega) only [go_sem, Nat.reduceEqDiff, ↓reduceIte, hf]
   | false =>
     have hfin : Nd.sames xs ys = false := by
      cases h : Nd.sames xs ys with
      | false => rfl
      | true => rw [Nd.sames_get hx hy h] at hr; cases hr
     simp (disch := first | assumption | omega) only [go_sem, ↓reduceIte]
     exact retC_by ((Drop.set hd).off (by assumption)) (.refl _) ⟨by rw [hfin]; rfl, rfl⟩
  ·have hlt' : ¬ (i : Int) < xs.length := by omega
   have hfin : Nd.sames xs ys = true := Nd.sames_all hne fun k u v hu hv => hall k u v (by have := (List.getElem?_eq_some_iff.1 hu).1; omega) hu hv
   simp (disch := first | assumption | omega) only [go_sem, ↓reduceIte, hf, hlt']
   exact retC_by (Drop.refl _) (.refl _) ⟨by rw [hfin]; rfl, rfl⟩
 ·have hne2 : ¬ (xs.length : Int) = ys.length := by omega
  have hfin : Nd.sames xs ys = false := by
   cases h : Nd.sames xs ys with
   | false => rfl
   | true => exact absurd (Nd.sames_len h) hne
  simp (disch := first | assumption | omega) only [go_sem, reduceCtorEq, Nat.reduceEqDiff, ↓reduceIte, hne2]
  exact retC_by (Drop.refl _) (.refl _) ⟨by rw [hfin]; rfl, rfl⟩
theorem ref_ne {a b : Ref} (h : a ≠ b) : (decide (a.row = b.row) && (decide (a.col = b.col) && (decide (a.absRow = b.absRow) && decide (a.absCol = b.absCol)))) = false := by
 obtain ⟨a1, a2, a3, a4⟩ := a
 obtain ⟨b1, b2, b3, b4⟩ := b
 cases hd : (decide (a1 = b1) && (decide (a2 = b2) && (decide (a3 = b3) && decide (a4 = b4)))) with
 | false => rfl
 | true =>
   simp only [Bool.and_eq_true, decide_eq_true_eq] at hd
   obtain ⟨rfl, rfl, rfl, rfl⟩ := hd
   exact absurd rfl h
theorem esame_le : ∀ (k : Nat) (x y : Nd), x.size ≤ k → x.size ≤ 1000000000 → y.size ≤ 1000000000 → Pure Tryz.prog 9 [x.av, y.av] (.bool (Nd.same x y))
 | 0, x, y, hk, _, _ => by have := x.size_pos; omega
 | k + 1, x, y, hk, hx, hy => by
   intro σ
   obtain ⟨o, n, s, a, b, ks⟩ := x
   obtain ⟨o', n', s', a', b', ks'⟩ := y
   rw [Nd.size] at hk hx hy
   have l1 := sizes_len ks
   have l2 := sizes_len ks'
   have hE := equal_ok ks ks' ⟨by omega, by omega⟩ fun u hu v hv => by
    have h1 := Nd.size_kid hu
    have h2 := Nd.size_kid hv
    exact esame_le k u v (by omega) (by omega) (by omega)
   rw [Nd.av_cs, Nd.av_cs, Nd.same]
   generalize Nd.sames ks ks' = r at *
   generalize ks.map Nd.av = L at *
   generalize ks'.map Nd.av = L' at *
   refine a9 (by simp) ?_
   simp (disch := first | assumption | omega) only [go_sem]
   refine boxC_by rfl fun c hc => ?_
   simp (disch := first | assumption | omega) only [go_sem, Nat.reduceEqDiff, ↓reduceIte]
   refine boxC_by rfl fun d hd => ?_
   have hd0 := hd
   repeat (with_reducible replace hd := set_none hd; obtain ⟨_, _, hd⟩ := hd)
   have hD : ∀ r r' : Option Role, Drop ((σ.set c r).set d r') σ := fun r r' => (Drop.set hc).off (by assumption)
   by_cases h1 : o = o'
   ·by_cases h2 : n = n'
    ·by_cases h3 : s = s'
     ·by_cases h4 : a = a'
      ·by_cases h5 : b = b'
       ·subst h1 h2 h3 h4 h5
        simp (disch := first | assumption | omega) only [go_sem, Nat.reduceEqDiff, Nat.reduceAdd, Nat.reduceLeDiff, ↓reduceIte, Bool.true_and, eq_self]
        refine hE.use ?_
        simp (disch := first | assumption | omega) only [go_sem, Nat.reduceEqDiff, ↓reduceIte, eq_self]
        refine retC_by (hD _ _) (.refl _) ⟨?_, rfl⟩
        first | rfl | (show AV.bool _ = AV.bool _; simp)
       ·have h5' := ref_ne h5
        subst h1 h2 h3 h4
        simp (disch := first | assumption | omega) only [go_sem, Nat.reduceEqDiff, Nat.reduceAdd, Nat.reduceLeDiff, ↓reduceIte, Bool.true_and, Bool.false_and, Bool.and_false, eq_self, h5']
        refine retC_by (hD _ _) (.refl _) ⟨?_, rfl⟩
        first | rfl | (show AV.bool _ = AV.bool _; simp [h5])
      ·have h4' := ref_ne h4
       subst h1 h2 h3
       simp (disch := first | assumption | omega) only [go_sem, Nat.reduceEqDiff, Nat.reduceAdd, Nat.reduceLeDiff, ↓reduceIte, Bool.true_and, Bool.false_and, Bool.and_false, eq_self, h4']
       refine retC_by (hD _ _) (.refl _) ⟨?_, rfl⟩
       first | rfl | (show AV.bool _ = AV.bool _; simp [h4])
     ·subst h1 h2
      simp (disch := first | assumption | omega) only [go_sem, Nat.reduceEqDiff, ↓reduceIte, Bool.true_and, Bool.false_and, Bool.and_false, eq_self, h3]
      refine retC_by (hD _ _) (.refl _) ⟨?_, rfl⟩
      first | rfl | (show AV.bool _ = AV.bool _; simp [h3])
    ·subst h1
     simp (disch := first | assumption | omega) only [go_sem, Nat.reduceEqDiff, ↓reduceIte, Bool.false_and, Bool.and_false, eq_self, h2]
     refine retC_by (hD _ _) (.refl _) ⟨?_, rfl⟩
     first | rfl | (show AV.bool _ = AV.bool _; simp [h2])
   ·simp (disch := first | assumption | omega) only [go_sem, Nat.reduceEqDiff, ↓reduceIte, Bool.false_and, h1]
    refine retC_by (hD _ _) (.refl _) ⟨?_, rfl⟩
    first | rfl | (show AV.bool _ = AV.bool _; simp [h1])
theorem esame_ok (x y : Nd) (hx : x.size ≤ 1000000000) (hy : y.size ≤ 1000000000) : Pure Tryz.prog 9 [x.av, y.av] (.bool (Nd.same x y)) := esame_le x.size x y (Nat.le_refl _) hx hy
end Go.A
namespace Go.A
open Go.Proofs Go.Lib
mutual
def Nd.map (f : Nd → Nd) : Nd → Nd
 | .mk op n s a b ks => if op = 5 ∨ op = 6 then f (.mk op n s a b ks) else .mk op n s a b (Nd.maps f ks)
def Nd.maps (f : Nd → Nd) : List Nd → List Nd
 | [] => []
 | x :: xs => Nd.map f x :: Nd.maps f xs
end
end Go.A
namespace Go.A
open Go.Proofs Go.Lib
structure Rc where
 row : Int
 col : Int
 rows : Int
 cols : Int
 deriving DecidableEq, Inhabited
def Rc.av (r : Rc) : AV := .agg [.int .i64 r.row, .int .i64 r.col, .int .i64 r.rows, .int .i64 r.cols]
theorem Rc.get {l : List Rc} {i : Nat} {x : Rc} (h : l[i]? = some x) : (l.map Rc.av)[i]? = some x.av := by rw [List.getElem?_map, h]; rfl
theorem Rc.well (l : List Rc) : wellSz 4 (l.map Rc.av) = true := wellSz_map (f := Rc.av) (fun x => ⟨rfl, rfl⟩) l
theorem Rc.leafs (l : List Rc) : leaves ((l.map Rc.av).flatMap AV.cells) = true := leaves_map (f := Rc.av) (fun x => rfl) l
def rectN (op : Int) (a b : Ref) : Rc := if op = 5 then ⟨a.row, a.col, 1, 1⟩ else ⟨(normP a b).1.row, (normP a b).1.col, (normP a b).2.row - (normP a b).1.row + 1, (normP a b).2.col - (normP a b).1.col + 1⟩
def addR (out : List Rc) (r : Rc) : List Rc := if r ∈ out then out else out ++ [r]
mutual
def Nd.areas (out : List Rc) : Nd → List Rc
 | .mk op n s a b ks => Nd.areass (if op = 5 ∨ op = 6 then addR out (rectN op a b) else out) ks
def Nd.areass (out : List Rc) : List Nd → List Rc
 | [] => out
 | x :: xs => Nd.areass (Nd.areas out x) xs
end
theorem addR_len (out : List Rc) (r : Rc) : (addR out r).length ≤ out.length + 1 := by unfold addR; split <;> simp
mutual
theorem Nd.areas_len : ∀ (n : Nd) (out : List Rc), (Nd.areas out n).length ≤ out.length + n.size
 | .mk op m s a b ks, out => by
   rw [Nd.areas, Nd.size]
   have h1 := Nd.areass_len ks (if op = 5 ∨ op = 6 then addR out (rectN op a b) else out)
   have h2 : (if op = 5 ∨ op = 6 then addR out (rectN op a b) else out).length ≤ out.length + 1 := by
    split
    ·exact addR_len _ _
    ·omega
   omega
theorem Nd.areass_len : ∀ (l : List Nd) (out : List Rc), (Nd.areass out l).length ≤ out.length + Nd.sizes l
 | [], out => by rw [Nd.areass, Nd.sizes]; omega
 | x :: xs, out => by
   rw [Nd.areass, Nd.sizes]
   have h1 := Nd.areass_len xs (Nd.areas out x)
   have h2 := Nd.areas_len x out
   omega
end
def idxF (r : Rc) : List Rc → Nat → Int
 | [], _ => -1
 | x :: xs, k => if r = x then k else idxF r xs (k + 1)
theorem idxF_mem (r : Rc) : ∀ (l : List Rc) (k : Nat), decide (0 ≤ idxF r l k) = decide (r ∈ l)
 | [], k => by simp [idxF]
 | x :: xs, k => by
   rw [idxF]
   by_cases h : r = x
   ·subst h; simp
   ·rw [if_neg h, idxF_mem r xs (k + 1)]; simp [h]
theorem rc_ne {a b : Rc} (h : a ≠ b) : (decide (a.row = b.row) && (decide (a.col = b.col) && (decide (a.rows = b.rows) && decide (a.cols = b.cols)))) = false := by
 obtain ⟨a1, a2, a3, a4⟩ := a
 obtain ⟨b1, b2, b3, b4⟩ := b
 cases hd : (decide (a1 = b1) && (decide (a2 = b2) && (decide (a3 = b3) && decide (a4 = b4)))) with
 | false => rfl
 | true =>
   simp only [Bool.and_eq_true, decide_eq_true_eq] at hd
   obtain ⟨rfl, rfl, rfl, rfl⟩ := hd
   exact absurd rfl h
theorem rcindex_ok (l : List Rc) (r : Rc) (hl : l.length ≤ 1000000000) : Pure Tryz.prog 74 [.sl .shr (l.map Rc.av), r.av] (.int .i64 (idxF r l 0)) := by
 intro σ
 obtain ⟨q, hq⟩ : ∃ q, idxF r l 0 = q := ⟨_, rfl⟩
 rw [hq]
 have hra : r.av = .agg [.int .i64 r.row, .int .i64 r.col, .int .i64 r.rows, .int .i64 r.cols] := rfl
 rw [hra]
 refine a74 (by simp) ?_
 simp (disch := first | assumption | omega) only [go_sem]
 refine boxC_by rfl fun c hc => ?_
 simp (disch := first | assumption | omega) only [go_sem, reduceCtorEq, ↓reduceIte]
 refine wp_loop_on (fun (i : Nat) a1 s2 => (i ≤ l.length ∧ idxF r (l.drop i) i = q) ∧ (a1 0 = .sl .shr (l.map Rc.av) ∧ a1 3 = .ptr c 0 ∧ a1 7 = .int .i64 l.length ∧ a1 8 = .int .i64 i) ∧ s2 = σ.set c (some (.obj [.int .i64 r.row, .int .i64 r.col, .int .i64 r.rows, .int .i64 r.cols]))) (fun i => l.length - i) 0 ⟨⟨Nat.zero_le _, by rw [List.drop_zero]; exact hq⟩, ?_, rfl⟩ ?_
 ·simp (disch := first | assumption | omega) only [go_sem, reduceCtorEq, Nat.reduceEqDiff, ↓reduceIte]
 rintro i a1 s2 ⟨⟨hi, hqi⟩, hf, rfl⟩
 by_cases hlt : i < l.length
 ·have hlt' : (i : Int) < l.length := by omega
  have hx : l[i]? = some (l[i]'hlt) := List.getElem?_eq_getElem hlt
  rw [List.drop_eq_getElem_cons hlt, idxF] at hqi
  obtain ⟨x, hxe⟩ : ∃ x, l[i]'hlt = x := ⟨_, rfl⟩
  rw [hxe] at hx hqi
  have hmx := Rc.get hx
  rw [show x.av = .agg [.int .i64 x.row, .int .i64 x.col, .int .i64 x.rows, .int .i64 x.cols] from rfl] at hmx
  generalize l.map Rc.av = XL at *
  by_cases he : r = x
  ·rw [if_pos he] at hqi
   subst he
   simp (disch := first | assumption | omega) only [go_sem, reduceCtorEq, Nat.reduceEqDiff, Nat.reduceAdd, Nat.reduceLeDiff, ↓reduceIte, Bool.true_and, hf, hlt', hmx, eq_self]
   exact retC_by (Drop.set hc) (.refl _) ⟨by rw [← hqi]; rfl, rfl⟩
  ·rw [if_neg he] at hqi
   have he' := rc_ne he
   simp (disch := first | assumption | omega) only [go_sem, reduceCtorEq, Nat.reduceEqDiff, Nat.reduceAdd, Nat.reduceLeDiff, ↓reduceIte, hf, hlt', hmx, he']
   exact ⟨i + 1, by omega, ⟨by omega, hqi⟩, rfl⟩
 ·have hlt' : ¬ (i : Int) < l.length := by omega
  rw [List.drop_eq_nil_of_le (by omega), idxF] at hqi
  subst hqi
  simp (disch := first | assumption | omega) only [go_sem, ↓reduceIte, Int.reduceNeg, hf, hlt']
  exact retC_by (Drop.set hc) (.refl _) ⟨rfl, rfl⟩
theorem rccontains_ok (l : List Rc) (r : Rc) (hl : l.length ≤ 1000000000) : Pure Tryz.prog 62 [.sl .shr (l.map Rc.av), r.av] (.bool (decide (r ∈ l))) := by
 intro σ
 have hI := rcindex_ok l r hl
 rw [← idxF_mem r l 0]
 have hra : r.av = .agg [.int .i64 r.row, .int .i64 r.col, .int .i64 r.rows, .int .i64 r.cols] := rfl
 rw [hra] at hI ⊢
 generalize idxF r l 0 = q at *
 generalize l.map Rc.av = XL at *
 refine a62 (by simp) ?_
 simp (disch := first | assumption | omega) only [go_sem]
 refine boxC_by rfl fun c hc => ?_
 simp (disch := first | assumption | omega) only [go_sem, reduceCtorEq, Nat.reduceEqDiff, Nat.reduceAdd, Nat.reduceLeDiff, ↓reduceIte]
 refine hI.use ?_
 simp (disch := first | assumption | omega) only [go_sem, ↓reduceIte]
 exact retC_by (Drop.set hc) (.refl _) ⟨rfl, rfl⟩
theorem refrect_ok (a : Ref) : Pure Tryz.prog 60 [refAV a] (Rc.av ⟨a.row, a.col, 1, 1⟩) := by
 intro σ
 unfold refAV Rc.av
 refine a60 (by simp) ?_
 simp (disch := first | assumption | omega) only [go_sem]
 refine boxC_by rfl fun c hc => ?_
 simp (disch := first | assumption | omega) only [go_sem]
 refine allocC_by fun d hd => ?_
 repeat (with_reducible replace hd := set_none hd; obtain ⟨_, _, hd⟩ := hd)
 simp (disch := first | assumption | omega) only [go_sem, Nat.reduceEqDiff, Nat.reduceAdd, Nat.reduceLeDiff, ↓reduceIte, Bool.true_and, ASt.set_set]
 exact retC_by ((Drop.set hc).off (by assumption)) (.refl _) ⟨rfl, rfl⟩
theorem good_near {r : Ref} (h : r.good = true) : r.near := by
 simp only [Ref.good, decide_eq_true_eq] at h
 unfold Ref.near
 omega
def RO (σ0 : ASt) (b : Nat) (l : List Rc) (σ : ASt) : Prop := GO σ0 b (fun k => [.sl k (l.map Rc.av)]) l.length 4 σ
theorem RO.add {σ0 σ : ASt} {b c : Nat} {l : List Rc} {r : Role} (h : RO σ0 b l σ) (hc : σ c = none) : RO (σ0.set c (some r)) b l (σ.set c (some r)) ∧ c ≠ b ∧ σ0 c = none := GO.add h hc
theorem RO.off {σ0 σ : ASt} {b c : Nat} {l : List Rc} {r : Role} (h : RO (σ0.set c (some r)) b l σ) (hcb : c ≠ b) (hc : σ0 c = none) : ∃ σ', Drop σ σ' ∧ RO σ0 b l σ' := GO.off h hcb hc
theorem RO.at {σ0 σ : ASt} {b x : Nat} {l : List Rc} {r : Role} (h : RO σ0 b l σ) (hx : x ≠ b) (h0 : σ0 x = some r) : σ x = some r := GO.at h hx h0
theorem areass_take {x : Nd} : ∀ {l : List Nd} {i : Nat} {out : List Rc}, l[i]? = some x → Nd.areass out (l.take (i + 1)) = Nd.areas (Nd.areass out (l.take i)) x
 | [], i, out, h => by simp at h
 | y :: l, 0, out, h => by simp at h; subst h; simp [Nd.areass]
 | y :: l, i + 1, out, h => by
   simp only [List.getElem?_cons_succ] at h
   rw [List.take_succ_cons, List.take_succ_cons, Nd.areass, Nd.areass, areass_take h]
theorem areas_le : ∀ (k : Nat) (n : Nd), n.size ≤ k → n.ok → ∀ (σ0 σ : ASt) (b : Nat) (rs : List Rc), RO σ0 b rs σ → rs.length + n.size ≤ 1000000 →
  ACalls Tryz.prog 33 [n.av, .ptr b 0] σ fun v σ' => v = .tuple [] ∧ RO σ0 b (Nd.areas rs n) σ'
 | 0, n, hk, _ => by have := n.size_pos; omega
 | k + 1, n, hk, hn => by
   intro σ0 σ b rs h hb
   have ih := areas_le k
   obtain ⟨op, m, s, a, a2, ks⟩ := n
   rw [Nd.size] at hk hb
   rw [Nd.ok] at hn
   obtain ⟨⟨ho, _, _, _, _, g5, g6, _⟩, hoks⟩ := hn
   have hlen := sizes_len ks
   rw [Nd.areas, Nd.av_cs]
   have hks : ∀ x ∈ ks, ∀ (σ0 σ : ASt) (b : Nat) (rs : List Rc), RO σ0 b rs σ → rs.length + x.size ≤ 1000000 →
     ACalls Tryz.prog 33 [x.av, .ptr b 0] σ fun v σ' => v = .tuple [] ∧ RO σ0 b (Nd.areas rs x) σ' := fun x hx => by
    have := Nd.size_kid hx
    exact ih x (by omega) (Nd.oks_mem.1 hoks x hx)
   refine a33 (by simp) ?_
   obtain ⟨F, hF⟩ : ∃ F, F = ACode.wp Tryz.prog c33_31 := ⟨_, rfl⟩
   simp (disch := first | assumption | omega) only [go_sem]
   refine boxC_by rfl fun c hc => ?_
   obtain ⟨hR1, hcb, hc0⟩ := h.add hc (r := .obj (Nd.cs op m s a a2 (ks.map Nd.av)))
   have hgo : ∀ (R : Role) (d : Nat), (σ.set c (some (.obj (Nd.cs op m s a a2 (ks.map Nd.av))))) d = none → ∀ (a1 : AFr) (σ1 : ASt) (rs' : List Rc), RO ((σ0.set c (some (.obj (Nd.cs op m s a a2 (ks.map Nd.av))))).set d (some R)) b rs' σ1 → rs'.length ≤ rs.length + 1 →
     (a1 1 = .ptr b 0 ∧ a1 2 = .ptr c 0) → F (RetQ [] fun v σ' => v = .tuple [] ∧ RO σ0 b (Nd.areass rs' ks) σ') a1 σ1 := by
    intro R d hd a1 σ1 rs' hR hl1 hf
    obtain ⟨hR2, hdb, hd0⟩ := hR1.add hd (r := R)
    have hcd : c ≠ d := by rintro rfl; rw [ASt.set_same] at hd; cases hd
    have hcell : ∀ {l' : List Rc} {σ1 : ASt}, RO ((σ0.set c (some (.obj (Nd.cs op m s a a2 (ks.map Nd.av))))).set d (some R)) b l' σ1 → σ1 c = some (.obj (Nd.cs op m s a a2 (ks.map Nd.av))) := fun h => h.at hcb (by rw [ASt.set_ne hcd, ASt.set_same])
    have hoff : ∀ {l' : List Rc} {σ1 : ASt}, RO ((σ0.set c (some (.obj (Nd.cs op m s a a2 (ks.map Nd.av))))).set d (some R)) b l' σ1 → ∃ σ', Drop σ1 σ' ∧ RO σ0 b l' σ' := fun h => by
     obtain ⟨σ2, h1, h2⟩ := h.off hdb hd0
     obtain ⟨σ3, h3, h4⟩ := h2.off hcb hc0
     exact ⟨σ3, h1.trans h3, h4⟩
    have hc1 := hcell hR
    generalize (σ0.set c (some (.obj (Nd.cs op m s a a2 (ks.map Nd.av))))).set d (some R) = τ at hR hcell hoff
    rw [hF]
    simp (disch := first | assumption | omega) only [go_sem, ↓reduceIte, hf, hc1]
    refine wp_loop_by (fun (i : Nat) a1 s2 => i ≤ ks.length ∧ (a1 1 = .ptr b 0 ∧ a1 42 = .sl .shr (ks.map Nd.av) ∧ a1 43 = .int .i64 ks.length ∧ a1 44 = .int .i64 i) ∧ RO τ b (Nd.areass rs' (ks.take i)) s2) (fun i => ks.length - i) 0 (Dr.now ⟨Nat.zero_le _, ?_, hR⟩) ?_
    ·simp (disch := first | assumption | omega) only [go_sem, Nat.reduceEqDiff, ↓reduceIte, hf]
    rintro i a2 s2 ⟨hi, hf, hRi⟩
    have hli := Nd.areass_len (ks.take i) rs'
    by_cases hlt : i < ks.length
    ·have hlt' : (i : Int) < ks.length := by omega
     have hx : ks[i]? = some (ks[i]'hlt) := List.getElem?_eq_getElem hlt
     have hkx := hks _ (List.getElem_mem hlt)
     obtain ⟨x, hxe⟩ : ∃ x, ks[i]'hlt = x := ⟨_, rfl⟩
     rw [hxe] at hx hkx
     have hmx := Nd.get hx
     have hst := sizes_take hx
     have hle2 := sizes_le ks (i + 1)
     have hat := areass_take (out := rs') hx
     obtain ⟨xo, xm, xs, xa, xb, xk⟩ := x
     generalize hxn : Nd.mk xo xm xs xa xb xk = xn at *
     have hav : xn.av = .agg (Nd.cs xo xm xs xa xb (xk.map Nd.av)) := by rw [← hxn, Nd.av_cs]
     rw [hav] at hmx hkx
     generalize xk.map Nd.av = XK at *
     generalize hKL : ks.map Nd.av = KL at *
     simp (disch := first | assumption | omega) only [go_sem, Nat.reduceEqDiff, Nat.reduceLeDiff, ↓reduceIte, hf, hlt', hmx]
     refine allocC_by fun e he => ?_
     obtain ⟨hRe, heb, he0⟩ := hRi.add he (r := .obj (Nd.cs xo xm xs xa xb XK))
     simp (disch := first | assumption | omega) only [go_sem, Nat.reduceEqDiff, Nat.reduceAdd, Nat.reduceLeDiff, ↓reduceIte, hf, ASt.set_set]
     refine (hkx _ _ _ _ hRe (by omega)).mono ?_
     rintro v σ' ⟨rfl, hR4⟩
     simp (disch := first | assumption | omega) only [go_sem, Nat.reduceEqDiff, ↓reduceIte, hf]
     obtain ⟨σ5, hd5, hR5⟩ := hR4.off heb he0
     refine ⟨i + 1, by dsimp only; omega, Dr.drop hd5 ⟨by omega, ?_, by rw [hat]; exact hR5⟩⟩
     simp (disch := first | assumption | omega) only [go_sem, Nat.reduceEqDiff, ↓reduceIte, hf]
    ·have hlt' : ¬ (i : Int) < ks.length := by omega
     rw [List.take_of_length_le (by omega)] at hRi
     simp (disch := first | assumption | omega) only [go_sem, ↓reduceIte, hf, hlt']
     obtain ⟨σ5, hd5, hR5⟩ := hoff hRi
     exact retC_by hd5 (.refl _) ⟨rfl, hR5⟩
   have hap : ∀ (q : Rc) (d : Nat), (σ.set c (some (.obj (Nd.cs op m s a a2 (ks.map Nd.av))))) d = none → d ≠ b ∧ ∃ k, Grown ((((σ0.set c (some (.obj (Nd.cs op m s a a2 (ks.map Nd.av))))).set d (some (.obj [.int .i64 q.row, .int .i64 q.col, .int .i64 q.rows, .int .i64 q.cols])))).set b (some (.obj [.sl k (rs.map Rc.av)]))) ((σ.set c (some (.obj (Nd.cs op m s a a2 (ks.map Nd.av))))).set d (some (.obj [.int .i64 q.row, .int .i64 q.col, .int .i64 q.rows, .int .i64 q.cols]))) k rs.length 4 := fun q d hd => by
    obtain ⟨⟨k, hg⟩, hdb, _⟩ := hR1.add hd (r := .obj [.int .i64 q.row, .int .i64 q.col, .int .i64 q.rows, .int .i64 q.cols])
    exact ⟨hdb, k, hg⟩
   have hno : ∀ (d : Nat), (σ.set c (some (.obj (Nd.cs op m s a a2 (ks.map Nd.av))))) d = none → RO ((σ0.set c (some (.obj (Nd.cs op m s a a2 (ks.map Nd.av))))).set d (some (.obj [.int .i64 0, .int .i64 0, .int .i64 0, .int .i64 0]))) b rs ((σ.set c (some (.obj (Nd.cs op m s a a2 (ks.map Nd.av))))).set d (some (.obj [.int .i64 0, .int .i64 0, .int .i64 0, .int .i64 0]))) := fun d hd => (hR1.add hd).1
   by_cases h56 : op = 5 ∨ op = 6
   ·rw [if_pos h56]
    have hq : ∃ q : Rc, rectN op a a2 = q := ⟨_, rfl⟩
    obtain ⟨q, hq⟩ := hq
    rw [hq]
    have hrr := refrect_ok a
    have harr : op = 6 → Pure Tryz.prog 61 [areaAV a a2] q.av := fun h6 => by
     have := rect_ok a a2 (good_near (g5 h56)) (good_near (g6 h6))
     rw [← hq]
     unfold rectN
     rw [if_neg (by omega)]
     exact this
    have hrr5 : op = 5 → Pure Tryz.prog 60 [refAV a] q.av := fun h5 => by
     rw [← hq]
     unfold rectN
     rw [if_pos h5]
     exact hrr
    have hC := rccontains_ok rs q (by omega)
    have hqa : q.av = .agg [.int .i64 q.row, .int .i64 q.col, .int .i64 q.rows, .int .i64 q.cols] := rfl
    rw [hqa] at harr hrr5 hC
    unfold areaAV at harr
    unfold refAV at hrr5
    have mid : ∀ (a1 : AFr) (d : Nat), (σ.set c (some (.obj (Nd.cs op m s a a2 (ks.map Nd.av))))) d = none → (a1 1 = .ptr b 0 ∧ a1 2 = .ptr c 0 ∧ a1 4 = .ptr d 0 ∧ a1 5 = .bool true) →
      ACode.wp Tryz.prog c33_17 (SeqQ F (RetQ [] fun v σ' => v = .tuple [] ∧ RO σ0 b (Nd.areass (addR rs q) ks) σ')) a1 ((σ.set c (some (.obj (Nd.cs op m s a a2 (ks.map Nd.av))))).set d (some (.obj [.int .i64 q.row, .int .i64 q.col, .int .i64 q.rows, .int .i64 q.cols]))) := by
     intro a1 d hd hf
     obtain ⟨hdb, k, hg⟩ := hap q d hd
     have hgo2 := hgo (.obj [.int .i64 q.row, .int .i64 q.col, .int .i64 q.rows, .int .i64 q.cols]) d hd
     have hbc := GO.cell (cs := fun k => [.sl k (rs.map Rc.av)]) hg
     have hdc : ((σ.set c (some (.obj (Nd.cs op m s a a2 (ks.map Nd.av))))).set d (some (.obj [.int .i64 q.row, .int .i64 q.col, .int .i64 q.rows, .int .i64 q.cols]))) d = some (.obj [.int .i64 q.row, .int .i64 q.col, .int .i64 q.rows, .int .i64 q.cols]) := ASt.set_same _ _ _
     generalize (σ.set c (some (.obj (Nd.cs op m s a a2 (ks.map Nd.av))))).set d (some (.obj [.int .i64 q.row, .int .i64 q.col, .int .i64 q.rows, .int .i64 q.cols])) = σ1 at *
     generalize (σ0.set c (some (.obj (Nd.cs op m s a a2 (ks.map Nd.av))))).set d (some (.obj [.int .i64 q.row, .int .i64 q.col, .int .i64 q.rows, .int .i64 q.cols])) = τ at *
     have hml : (rs.map Rc.av).length = rs.length := List.length_map ..
     by_cases hm : q ∈ rs
     ·rw [decide_eq_true hm] at hC
      have hadd : addR rs q = rs := if_pos hm
      rw [hadd]
      simp (disch := first | assumption | omega) only [go_sem, Nat.reduceEqDiff, Nat.reduceAdd, Nat.reduceLeDiff, ↓reduceIte, hf, hbc, hdc]
      refine ACalls.shr (by simp (disch := first | assumption | omega) only [go_sem]) (hC.use ?_)
      simp (disch := first | assumption | omega) only [go_sem, Nat.reduceEqDiff, ↓reduceIte]
      refine hgo2 _ _ rs ⟨k, hg⟩ (by omega) ?_
      simp (disch := first | assumption | omega) only [go_sem, Nat.reduceEqDiff, ↓reduceIte, hf]
     ·rw [decide_eq_false hm] at hC
      have hadd : addR rs q = rs ++ [q] := if_neg hm
      rw [hadd]
      simp (disch := first | assumption | omega) only [go_sem, Nat.reduceEqDiff, Nat.reduceAdd, Nat.reduceLeDiff, ↓reduceIte, hf, hbc, hdc]
      refine ACalls.shr (by simp (disch := first | assumption | omega) only [go_sem]) (hC.use ?_)
      simp (disch := first | assumption | omega) only [go_sem, Nat.reduceEqDiff, Nat.reduceAdd, Nat.reduceLeDiff, ↓reduceIte, Bool.true_and, hf, hbc, hdc]
      refine appC_by (bytes := 32) (xs := rs.map Rc.av) (ys := [.agg [.int .i64 q.row, .int .i64 q.col, .int .i64 q.rows, .int .i64 q.cols]]) (by rw [hml]; exact hg) rfl rfl (by rw [hml]; simp only [List.length_cons, List.length_nil]; omega) (by rw [hml]; simp only [List.length_cons, List.length_nil]; omega) fun k' σ' hg' => ?_
      have hbc' := hg'.at (ASt.set_same _ _ _)
      have hR' : RO τ b (rs ++ [q]) (σ'.set b (some (.obj [.sl k' (rs.map Rc.av ++ [.agg [.int .i64 q.row, .int .i64 q.col, .int .i64 q.rows, .int .i64 q.cols]])]))) := by
       have h3 := hg'.obj (r' := .obj [.sl k' (rs.map Rc.av ++ [.agg [.int .i64 q.row, .int .i64 q.col, .int .i64 q.rows, .int .i64 q.cols]])])
       refine ⟨k', ?_⟩
       have e1 : (rs ++ [q]).map Rc.av = rs.map Rc.av ++ [AV.agg [.int .i64 q.row, .int .i64 q.col, .int .i64 q.rows, .int .i64 q.cols]] := by simp [Rc.av]
       have e2 : (rs ++ [q]).length = (rs.map Rc.av ++ [AV.agg [.int .i64 q.row, .int .i64 q.col, .int .i64 q.rows, .int .i64 q.cols]]).length := by simp
       rw [e2]
       dsimp only
       rw [e1]
       exact h3
      simp (disch := first | assumption | omega) only [go_sem, Nat.reduceEqDiff, Nat.reduceLeDiff, ↓reduceIte, Bool.true_and, hbc']
      refine hgo2 _ _ (rs ++ [q]) hR' (by simp) ?_
      simp (disch := first | assumption | omega) only [go_sem, Nat.reduceEqDiff, ↓reduceIte, hf]
    obtain ⟨M, hM⟩ : ∃ M, M = ACode.wp Tryz.prog c33_17 := ⟨_, rfl⟩
    rw [← hM] at mid
    by_cases h5 : op = 5
    ·have hrr5' := hrr5 h5
     subst h5
     simp (disch := first | assumption | omega) only [go_sem]
     refine allocC_by fun d hd => ?_
     have hcd : c ≠ d := by rintro rfl; rw [ASt.set_same] at hd; cases hd
     simp (disch := first | assumption | omega) only [go_sem, Nat.reduceEqDiff, Nat.reduceAdd, Nat.reduceLeDiff, ↓reduceIte, Bool.true_and, ASt.set_set]
     refine hrr5'.use ?_
     simp (disch := first | assumption | omega) only [go_sem, Nat.reduceEqDiff, Nat.reduceAdd, Nat.reduceLeDiff, ↓reduceIte, Bool.true_and, ASt.set_set, ←hF, ←hM]
     refine mid _ d hd ?_
     simp (disch := first | assumption | omega) only [go_sem, Nat.reduceEqDiff, ↓reduceIte]
    ·have h6 : op = 6 := by omega
     have harr' := harr h6
     subst h6
     simp (disch := first | assumption | omega) only [go_sem]
     refine allocC_by fun d hd => ?_
     have hcd : c ≠ d := by rintro rfl; rw [ASt.set_same] at hd; cases hd
     simp (disch := first | assumption | omega) only [go_sem, Nat.reduceEqDiff, Nat.reduceAdd, Nat.reduceLeDiff, Int.reduceEq, ↓reduceIte, Bool.true_and, ASt.set_set]
     refine harr'.use ?_
     simp (disch := first | assumption | omega) only [go_sem, Nat.reduceEqDiff, Nat.reduceAdd, Nat.reduceLeDiff, ↓reduceIte, Bool.true_and, ASt.set_set, ←hF, ←hM]
     refine mid _ d hd ?_
     simp (disch := first | assumption | omega) only [go_sem, Nat.reduceEqDiff, ↓reduceIte]
   ·rw [if_neg h56]
    have o5 : op ≠ 5 := by omega
    have o6 : op ≠ 6 := by omega
    simp (disch := first | assumption | omega) only [go_sem]
    refine allocC_by fun d hd => ?_
    have hcd : c ≠ d := by rintro rfl; rw [ASt.set_same] at hd; cases hd
    simp (disch := first | assumption | omega) only [go_sem, Nat.reduceEqDiff, Nat.reduceAdd, Nat.reduceLeDiff, ↓reduceIte, Bool.true_and, o5, o6, ASt.set_set, ←hF]
    refine hgo _ d hd _ _ rs (hno d hd) (by omega) ?_
    simp (disch := first | assumption | omega) only [go_sem, Nat.reduceEqDiff, ↓reduceIte]
theorem Areas_ok (n : Nd) (hn : n.ok) (hb : n.size ≤ 1000000) : Pure Tryz.prog 15 [n.av] (.sl .shr ((Nd.areas [] n).map Rc.av)) := by
 intro σ
 have hA := areas_le n.size n (Nat.le_refl _) hn
 obtain ⟨op, m, s, a, a2, ks⟩ := n
 have hav := Nd.av_cs op m s a a2 ks
 generalize hnn : Nd.mk op m s a a2 ks = nn at *
 rw [hav] at hA ⊢
 generalize ks.map Nd.av = L at *
 refine a15 (by simp) ?_
 simp (disch := first | assumption | omega) only [go_sem]
 refine boxC_by rfl fun c hc => ?_
 simp (disch := first | assumption | omega) only [go_sem]
 refine allocC_by fun d hd => ?_
 have hd0 := hd
 repeat (with_reducible replace hd := set_none hd; obtain ⟨_, _, hd⟩ := hd)
 have hR : RO (σ.set c (some (.obj (Nd.cs op m s a a2 L)))) d [] ((σ.set c (some (.obj (Nd.cs op m s a a2 L)))).set d (some (.obj [.sl .full []]))) := ⟨.full, .inl ⟨rfl, rfl, rfl⟩⟩
 simp (disch := first | assumption | omega) only [go_sem, Nat.reduceEqDiff, Nat.reduceLeDiff, ↓reduceIte]
 refine (hA _ _ _ _ hR (by simpa using hb)).mono ?_
 rintro v σ' ⟨rfl, k, hg⟩
 have hdc := GO.cell (cs := fun k => [.sl k ((Nd.areas [] nn).map Rc.av)]) hg
 simp (disch := first | assumption | omega) only [go_sem, Nat.reduceEqDiff, ↓reduceIte, hdc]
 refine retC_by ?_ (.sl _ _) ⟨rfl, rfl⟩
 exact (hg.drop.trans (Drop.set hd0)).trans (Drop.set hc)
end Go.A
