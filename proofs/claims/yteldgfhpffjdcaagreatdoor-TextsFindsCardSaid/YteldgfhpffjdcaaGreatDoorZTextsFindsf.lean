/- Part 6 of what TextsFinds leans on: Jg CodeJl Jl CodeJm Jm CodeJn Jn CodeJo CodeJp Jp CodeUc Uc CodeUd Ud CodeUe Ue Zd Zg CodeZw Zw CodeUf Uf Jq. -/
import Derived.Test.YteldgfhpffjdcaaGreatDoorProg
import Derived.KernelRfl
import Derived.Lib.LaidU8
import Derived.Test.YteldgfhpffjdcaaGreatDoorZTextsFindse
set_option linter.defProp false
set_option linter.unusedSimpArgs false
set_option linter.unusedVariables false
set_option maxRecDepth 100000
namespace Go.A
open Go.Proofs Go.Lib
theorem sgF_step {k : Nat} {r : List UInt8} (h0 : r ≠ []) (hv : decodeL r ≠ (65533, 1)) : sgF (k + 1) r = (sgF k (r.drop (decodeL r).2)).map (· + 1) := by
 rw [sgF, if_neg h0, if_neg hv]
theorem sgT_fuel : ∀ (k m : Nat) (r : List UInt8), r.length < k → r.length < m → sgF k r = sgF m r
 | 0, _, r, h, _ => absurd h (Nat.not_lt_zero _)
 | _, 0, r, _, h => absurd h (Nat.not_lt_zero _)
 | k + 1, m + 1, r, h1, h2 => by
   rw [sgF, sgF]
   by_cases h0 : r = []
   ·rw [if_pos h0, if_pos h0]
   ·rw [if_neg h0, if_neg h0]
    split
    ·rfl
    ·have hw := decodeL_width r
     have hl := List.length_pos_iff.2 h0
     rw [sgT_fuel k m _ (by rw [List.length_drop]; omega) (by rw [List.length_drop]; omega)]
def sgT (r : List UInt8) : Option Nat := sgF (r.length + 1) r
theorem sgT_nil : sgT [] = some 0 := rfl
theorem sgT_bad {r : List UInt8} (h0 : r ≠ []) (hv : decodeL r = (65533, 1)) : sgT r = none := by
 unfold sgT
 rw [sgF, if_neg h0, if_pos hv]
theorem sgT_step {r : List UInt8} (h0 : r ≠ []) (hv : decodeL r ≠ (65533, 1)) : sgT r = (sgT (r.drop (decodeL r).2)).map (· + 1) := by
 unfold sgT
 rw [sgF_step h0 hv]
 have hw := decodeL_width r
 have hl := List.length_pos_iff.2 h0
 rw [sgT_fuel r.length ((r.drop (decodeL r).2).length + 1) _ (by rw [List.length_drop]; omega) (by omega)]
def sgAV (s : List UInt8) : AV := match sgT s with
 | some n => .tuple [.int .i64 n, .bool true]
 | none => .tuple [.int .i64 0, .bool false]
set_option maxHeartbeats 1000000 in
theorem signs_ok {σ : ASt} (h : U8 σ) (s : List UInt8) (hs : s.length ≤ 4611686018427387904) : ACalls Tryz.prog 50 [.str s] σ fun v σ' => v = sgAV s ∧ σ' = σ := by
 refine a50 (by simp) ?_
 obtain ⟨R, hR⟩ : ∃ R, sgT s = R := ⟨_, rfl⟩
 unfold sgAV
 rw [hR]
 obtain ⟨F, hF⟩ : ∃ F, F = ACode.wp Tryz.prog c50_26 := ⟨_, rfl⟩
 simp (disch := first | assumption | omega) only [go_sem, reduceCtorEq, ↓reduceIte, ←hF]
 refine fun b hb => ?_
 simp (disch := first | assumption | omega) only [go_sem]
 refine wp_loop_by (fun (p : Nat) a σ' => p ≤ s.length ∧ (∃ n : Nat, R = (sgT (s.drop p)).map (· + n) ∧ n ≤ p ∧ a 4 = .int .i64 n) ∧ (a 0 = .str s ∧ a 10 = .ptr b 0) ∧ σ' = σ.set b (some (.iter s p))) (fun p => s.length - p) 0 (Dr.now ⟨Nat.zero_le _, ⟨0, ?_, Nat.le_refl _, ?_⟩, ?_, rfl⟩) ?_
 ·rw [← hR, List.drop_zero]; cases sgT s <;> rfl
 ·simp (disch := first | assumption | omega) only [go_sem, Nat.reduceEqDiff, ↓reduceIte]
 ·simp (disch := first | assumption | omega) only [go_sem, reduceCtorEq, ↓reduceIte]
 rintro p a σ1 ⟨hp, ⟨n, hm, hn, h4⟩, hf, rfl⟩
 by_cases hlt : p < s.length
 ·have hlt' : (p : Int) < s.length := by omega
  have hne : s.drop p ≠ [] := by
   intro e
   have := congrArg List.length e
   rw [List.length_drop] at this
   simp at this
   omega
  obtain ⟨⟨r, w⟩, hD⟩ : ∃ D, decodeL (s.drop p) = D := ⟨_, rfl⟩
  have hD2 : Utf8.decode ⟨⟨s⟩⟩ p = (r, w) := by rw [← hD]; exact (decodeL_drop ⟨⟨s⟩⟩ p).symm
  have hw := decodeL_width (s.drop p)
  have hwle := decodeL_le (s.drop p) hne
  have hrb := decodeL_rune (s.drop p)
  rw [List.length_drop] at hwle
  rw [hD] at hw hwle hrb
  dsimp only at hw hwle hrb
  by_cases hr : r = 65533
  ·have hr' : (r : Int) = 65533 := by omega
   have hdc := dec_ok (h.set hb (r := some (.iter s (p + w)))) hne
   rw [hD] at hdc
   by_cases hw1 : w = 1
   ·have hbad := sgT_bad hne (by rw [hD, hr, hw1])
    rw [hbad] at hm
    simp only [Option.map_none] at hm
    subst hm
    subst hw1
    have e1 : ((1 : Nat) : Int) = 1 := rfl
    rw [e1] at hdc
    simp (disch := first | assumption | omega) only [go_sem, hf]
    refine nxt_more hlt ?_
    rw [hD2]
    simp (disch := first | assumption | omega) only [go_sem, reduceCtorEq, Nat.reduceEqDiff, ↓reduceIte, hf, hr', List.take_length]
    refine hdc.mono ?_
    rintro v σ' ⟨rfl, rfl⟩
    simp (disch := first | assumption | omega) only [go_sem, Nat.reduceEqDiff, ↓reduceIte]
    exact retC_by (by repeat' (first | exact Drop.refl _ | with_reducible refine Drop.off ?_ (by assumption))) (.refl _) ⟨rfl, rfl⟩
   ·have hw1' : ¬ (w : Int) = 1 := by omega
    have hgo := sgT_step hne (by rw [hD]; intro h; injection h with _ h; exact hw1 h)
    rw [hD] at hgo
    dsimp only at hgo
    rw [hgo, List.drop_drop, Option.map_map] at hm
    simp (disch := first | assumption | omega) only [go_sem, hf]
    refine nxt_more hlt ?_
    rw [hD2]
    simp (disch := first | assumption | omega) only [go_sem, reduceCtorEq, Nat.reduceEqDiff, ↓reduceIte, hf, hr', List.take_length]
    refine hdc.mono ?_
    rintro v σ' ⟨rfl, rfl⟩
    simp (disch := first | assumption | omega) only [go_sem, Nat.reduceEqDiff, ↓reduceIte, h4, hw1']
    refine ⟨p + w, by dsimp only; omega, Dr.now ⟨by omega, ⟨n + 1, ?_, by omega, ?_⟩, ?_, rfl⟩⟩
    ·rw [hm]
     congr 1
     funext x
     simp only [Function.comp]
     omega
    ·simp (disch := first | assumption | omega) only [go_sem, ↓reduceIte]
    ·simp (disch := first | assumption | omega) only [go_sem, reduceCtorEq, Nat.reduceEqDiff, ↓reduceIte, hf]
  ·have hr' : ¬ (r : Int) = 65533 := by omega
   have hgo := sgT_step hne (by rw [hD]; intro h; injection h with h _; exact hr h)
   rw [hD] at hgo
   dsimp only at hgo
   rw [hgo, List.drop_drop, Option.map_map] at hm
   simp (disch := first | assumption | omega) only [go_sem, hf]
   refine nxt_more hlt ?_
   rw [hD2]
   simp (disch := first | assumption | omega) only [go_sem, Nat.reduceEqDiff, ↓reduceIte, h4, hr', ASt.set_set]
   refine ⟨p + w, by dsimp only; omega, Dr.now ⟨by omega, ⟨n + 1, ?_, by omega, ?_⟩, ?_, rfl⟩⟩
   ·rw [hm]
    congr 1
    funext x
    simp only [Function.comp]
    omega
   ·simp (disch := first | assumption | omega) only [go_sem, ↓reduceIte]
   ·simp (disch := first | assumption | omega) only [go_sem, reduceCtorEq, Nat.reduceEqDiff, ↓reduceIte, hf]
 ·have hlt' : ¬ (p : Int) < s.length := by omega
  rw [List.drop_eq_nil_of_le (by omega), sgT_nil] at hm
  simp only [Option.map_some, Nat.zero_add] at hm
  subst hm
  simp (disch := first | assumption | omega) only [go_sem, hf]
  refine nxt_over (by omega) ?_
  simp (disch := first | assumption | omega) only [go_sem, ↓reduceIte]
  rw [hF]
  simp (disch := first | assumption | omega) only [go_sem, Nat.reduceEqDiff, ↓reduceIte, h4]
  exact retC_by (by repeat' (first | exact Drop.refl _ | with_reducible refine Drop.off ?_ (by assumption))) (.refl _) ⟨rfl, rfl⟩
theorem errors_ok : Pure Tryz.prog 21 [] (.sl .shr [.str [35, 68, 73, 86, 47, 48, 33], .str [35, 78, 85, 77, 33], .str [35, 86, 65, 76, 85, 69, 33], .str [35, 82, 69, 70, 33], .str [35, 78, 47, 65], .str [35, 78, 65, 77, 69, 63], .str [35, 67, 89, 67, 76, 69, 33]]) := by
 intro σ
 refine a21 (by simp) ?_
 simp (disch := first | assumption | omega) only [go_sem, ↓reduceIte, Bool.true_and]
 exact retC_by (by repeat' (first | exact Drop.refl _ | with_reducible refine Drop.off ?_ (by assumption))) (.sl _ _) ⟨rfl, rfl⟩
structure Pl where
 kind : Int
 n : Int
 s : List UInt8
def plAV (p : Pl) : AV := .agg [.int .i64 p.kind, .int .i64 p.n, .str p.s]
def ofP (p : Pl) : PV :=
 if p.kind = 1 then (if p.n.natAbs ≤ 999999999999999999 then .num p.n else .blank)
 else if p.kind = 2 then (if (sgT p.s).isSome = true ∧ p.s.length ≤ 2000 then .text p.s else .blank)
 else if p.kind = 3 then .bool (decide (p.n = 1))
 else if p.kind = 4 then (if 1 ≤ p.n ∧ p.n ≤ 7 then .fail p.n else .blank)
 else .blank
set_option maxHeartbeats 1000000 in
theorem of_ok {σ : ASt} (h : U8 σ) (p : Pl) (hs : p.s.length ≤ 4611686018427387904) : ACalls Tryz.prog 26 [plAV p] σ fun v σ' => v = (ofP p).av ∧ σ' = σ := by
 obtain ⟨k, n, s⟩ := p
 dsimp only at hs
 unfold plAV ofP
 dsimp only
 refine a26 (by simp) ?_
 simp (disch := first | assumption | omega) only [go_sem]
 refine boxC_by rfl fun b hb => ?_
 have hE := errors_ok
 by_cases k1 : k = 1
 ·rw [if_pos k1]
  simp (disch := first | assumption | omega) only [go_sem, Nat.reduceEqDiff, ↓reduceIte, k1]
  refine (dgood_ok n).use ?_
  by_cases hg : n.natAbs ≤ 999999999999999999
  ·rw [if_pos hg]
   simp only [PV.av]
   simp (disch := first | assumption | omega) only [go_sem, Nat.reduceEqDiff, ↓reduceIte, hg]
   exact retC_by (Drop.set hb) (.refl _) ⟨rfl, rfl⟩
  ·rw [if_neg hg]
   simp only [PV.av]
   simp (disch := first | assumption | omega) only [go_sem, ↓reduceIte, hg]
   exact retC_by (Drop.set hb) (.refl _) ⟨rfl, rfl⟩
 rw [if_neg k1]
 by_cases k2 : k = 2
 ·rw [if_pos k2]
  have hS2 := signs_ok (h.set hb (r := some (.obj [.int .i64 2, .int .i64 n, .str s]))) s hs
  simp (disch := first | assumption | omega) only [go_sem, Nat.reduceEqDiff, Int.reduceEq, ↓reduceIte, k2]
  refine hS2.mono ?_
  rintro v σ' ⟨rfl, rfl⟩
  unfold sgAV
  cases sgT s with
  | none =>
    rw [if_neg (by simp)]
    simp only [PV.av]
    simp (disch := first | assumption | omega) only [go_sem, Nat.reduceEqDiff, ↓reduceIte]
    exact retC_by (Drop.set hb) (.refl _) ⟨rfl, rfl⟩
  | some m =>
    by_cases hl : s.length ≤ 2000
    ·have hl' : (s.length : Int) ≤ 2000 := by omega
     rw [if_pos ⟨rfl, hl⟩]
     simp only [PV.av]
     simp (disch := first | assumption | omega) only [go_sem, Nat.reduceEqDiff, ↓reduceIte, hl']
     exact retC_by (Drop.set hb) (.refl _) ⟨rfl, rfl⟩
    ·have hl' : ¬ (s.length : Int) ≤ 2000 := by omega
     rw [if_neg (fun h => hl h.2)]
     simp only [PV.av]
     simp (disch := first | assumption | omega) only [go_sem, Nat.reduceEqDiff, ↓reduceIte, hl']
     exact retC_by (Drop.set hb) (.refl _) ⟨rfl, rfl⟩
 rw [if_neg k2]
 by_cases k3 : k = 3
 ·rw [if_pos k3]
  simp only [PV.av]
  simp (disch := first | assumption | omega) only [go_sem, Nat.reduceEqDiff, Int.reduceEq, ↓reduceIte, k3]
  exact retC_by (Drop.set hb) (.refl _) ⟨rfl, rfl⟩
 rw [if_neg k3]
 by_cases k4 : k = 4
 ·rw [if_pos k4]
  by_cases g1 : 1 ≤ n
  ·simp (disch := first | assumption | omega) only [go_sem, Nat.reduceEqDiff, Int.reduceEq, ↓reduceIte, k4, g1]
   refine hE.use ?_
   by_cases g2 : n ≤ 7
   ·rw [if_pos g2]
    simp only [PV.av]
    simp (disch := first | assumption | omega) only [go_sem, Nat.reduceEqDiff, Nat.reduceAdd, ↓reduceIte, forall_const, g2]
    exact retC_by (Drop.set hb) (.refl _) ⟨rfl, rfl⟩
   ·rw [if_neg g2]
    simp only [PV.av]
    simp (disch := first | assumption | omega) only [go_sem, Nat.reduceEqDiff, Nat.reduceAdd, ↓reduceIte, forall_const, g2]
    exact retC_by (Drop.set hb) (.refl _) ⟨rfl, rfl⟩
  ·rw [if_neg (fun h => g1 h.1)]
   simp only [PV.av]
   simp (disch := first | assumption | omega) only [go_sem, Nat.reduceEqDiff, Int.reduceEq, ↓reduceIte, k4, g1]
   exact retC_by (Drop.set hb) (.refl _) ⟨rfl, rfl⟩
 ·rw [if_neg k4]
  simp only [PV.av]
  simp (disch := first | assumption | omega) only [go_sem, Nat.reduceEqDiff, ↓reduceIte, k1, k2, k3, k4]
  exact retC_by (Drop.set hb) (.refl _) ⟨rfl, rfl⟩
end Go.A
namespace Go.A
open Go.Proofs
/-! 41: tabular/value.Great -/
def c41_0 : ACode := .ops [
 ⟨some 2, none, .q (.mv (.v (.str []))), []⟩]
def c41_1 : ACode := .ops [
 ⟨some 6, none, .q (.mv (.t 0)), []⟩,
 ⟨some 7, none, .e (.s2b (.t 6)), []⟩,
 ⟨some 3, none, .q (.mv (.t 7)), []⟩]
def c41_2 : ACode := .ops [
 ⟨some 8, none, .q (.mv (.t 3)), []⟩,
 ⟨some 9, none, .q (.len (.t 8)), []⟩,
 ⟨some 10, none, .q (.mv (.v (.int .i64 0))), []⟩]
def c41_3 : ACode := .ops [
 ⟨some 11, none, .q (.bin .lss (.t 10) (.t 9)), []⟩]
def c41_4 : ACode := .cond (.t 11) .skip (.exit 0)
def c41_5 : ACode := .ops [
 ⟨some 12, none, .q (.mv (.t 10)), []⟩,
 ⟨some 13, none, .q (.ia 1 (.t 8) (.t 10)), []⟩,
 ⟨some 14, none, .q (.ld none (.t 13)), []⟩,
 ⟨some 4, none, .q (.mv (.t 12)), []⟩,
 ⟨some 5, none, .q (.mv (.t 14)), []⟩]
def c41_6 : ACode := .ops [
 ⟨some 15, none, .q (.mv (.t 5)), []⟩,
 ⟨some 16, none, .q (.bin .geq (.t 15) (.v (.int .u8 97))), []⟩,
 ⟨some 17, none, .q (.mv (.t 16)), []⟩,
 ⟨some 18, some (17, true), .q (.mv (.t 5)), []⟩,
 ⟨some 19, some (17, true), .q (.bin .leq (.t 18) (.v (.int .u8 122))), []⟩,
 ⟨some 20, none, .q (.pick (.t 17) (.t 19) (.v (.bool false))), []⟩]
def c41_7 : ACode := .ops [
 ⟨some 21, none, .q (.mv (.t 3)), []⟩,
 ⟨some 22, none, .q (.mv (.t 4)), []⟩,
 ⟨some 23, none, .q (.mv (.t 5)), []⟩,
 ⟨some 24, none, .q (.bin .sub (.t 23) (.v (.int .u8 32))), []⟩,
 ⟨some 25, none, .q (.ia 1 (.t 21) (.t 22)), []⟩,
 ⟨none, none, .e (.store 1 (.t 25) (.t 24)), []⟩]
def c41_8 : ACode := .cond (.t 20) c41_7 .skip
def c41_9 : ACode := .seq c41_6 c41_8
def c41_10 : ACode := .seq c41_5 c41_9
def c41_11 : ACode := .block 1 c41_10
def c41_12 : ACode := .ops [
 ⟨some 26, none, .q (.bin .add (.t 10) (.v (.int .i64 1))), []⟩,
 ⟨some 10, none, .q (.mv (.t 26)), []⟩]
def c41_13 : ACode := .seq c41_11 c41_12
def c41_14 : ACode := .seq c41_4 c41_13
def c41_15 : ACode := .seq c41_3 c41_14
def c41_16 : ACode := .loop c41_15
def c41_17 : ACode := .block 0 c41_16
def c41_18 : ACode := .seq c41_2 c41_17
def c41_19 : ACode := .ops [
 ⟨some 27, none, .q (.mv (.t 3)), []⟩,
 ⟨some 28, none, .q (.b2s (.t 27)), []⟩,
 ⟨some 2, none, .q (.mv (.t 28)), []⟩]
def c41_20 : ACode := .seq c41_19 .ret
def c41_21 : ACode := .seq c41_18 c41_20
def c41_22 : ACode := .seq c41_1 c41_21
def c41_23 : ACode := .seq c41_0 c41_22
@[go_sem] def c41_0_wp := wp_of c41_0.eq_1
@[go_sem] def c41_1_wp := wp_of c41_1.eq_1
@[go_sem] def c41_2_wp := wp_of c41_2.eq_1
@[go_sem] def c41_3_wp := wp_of c41_3.eq_1
@[go_sem] def c41_4_wp := wp_of c41_4.eq_1
@[go_sem] def c41_5_wp := wp_of c41_5.eq_1
@[go_sem] def c41_6_wp := wp_of c41_6.eq_1
@[go_sem] def c41_7_wp := wp_of c41_7.eq_1
@[go_sem] def c41_8_wp := wp_of c41_8.eq_1
@[go_sem] def c41_9_wp := wp_of c41_9.eq_1
@[go_sem] def c41_10_wp := wp_of c41_10.eq_1
@[go_sem] def c41_11_wp := wp_of c41_11.eq_1
@[go_sem] def c41_12_wp := wp_of c41_12.eq_1
@[go_sem] def c41_13_wp := wp_of c41_13.eq_1
@[go_sem] def c41_14_wp := wp_of c41_14.eq_1
@[go_sem] def c41_15_wp := wp_of c41_15.eq_1
@[go_sem] def c41_16_wp := wp_of c41_16.eq_1
@[go_sem] def c41_17_wp := wp_of c41_17.eq_1
@[go_sem] def c41_18_wp := wp_of c41_18.eq_1
@[go_sem] def c41_19_wp := wp_of c41_19.eq_1
@[go_sem] def c41_20_wp := wp_of c41_20.eq_1
@[go_sem] def c41_21_wp := wp_of c41_21.eq_1
@[go_sem] def c41_22_wp := wp_of c41_22.eq_1
@[go_sem] def c41_23_wp := wp_of c41_23.eq_1
def c41 : AFn := ⟨29, [.t 2], c41_23⟩
theorem c41_ok : compF Tryz.prog Tryz.f41 = some c41 := by kernel_rfl
theorem a41 {args : List AV} {σ : ASt} {R : AV → ASt → Prop} (hl : args.length ≤ 29) (h : c41_23.wp Tryz.prog (RetQ [.t 2] R) (init args) σ) : ACalls Tryz.prog 41 args σ R := acalls_of Tryz.func41 c41_ok hl h
end Go.A
namespace Go.A
open Go.Proofs Go.Lib
theorem vgreat_ok (l : List UInt8) (hl : l.length < 4611686018427387904) : Pure Tryz.prog 41 [.str l] (.str (greatP l)) := by
 intro σ
 refine a41 (by simp) ?_
 simp (disch := first | assumption | omega) only [go_sem, reduceCtorEq, ↓reduceIte]
 refine s2b_own fun b cp hb hcp => ?_
 simp (disch := first | assumption | omega) only [go_sem, ↓reduceIte]
 refine wp_loop_on (fun (i : Nat) a σ' => i ≤ l.length ∧ (a 3 = .msl b 0 l.length cp ∧ a 8 = .msl b 0 l.length cp ∧ a 9 = .int .i64 l.length ∧ a 10 = .int .i64 i) ∧ σ' = σ.set b (some (.obj (bytesAV (greatP (l.take i) ++ l.drop i)))))
  (fun i => l.length - i) 0 ⟨Nat.zero_le _, ?_, by simp [greatP]⟩ ?_
 ·simp (disch := first | assumption | omega) only [go_sem, Nat.reduceEqDiff, ↓reduceIte]
 rintro i a σ1 ⟨hi, hf, rfl⟩
 obtain ⟨m, hm⟩ : ∃ m, greatP (l.take i) ++ l.drop i = m := ⟨_, rfl⟩
 have hml : m.length = l.length := by rw [← hm]; simp [greatP]; omega
 have hgl : (greatP (l.take i)).length = i := by simp [greatP]; omega
 rw [hm]
 by_cases hlt : i < l.length
 ·have hidx : m[i]? = some (l[i]'hlt) := by rw [← hm, List.getElem?_append_right (by omega), hgl]; simp
  obtain ⟨c, hc⟩ : ∃ c, l[i]'hlt = c := ⟨_, rfl⟩
  rw [hc] at hidx
  have hcb := u8_lt c
  have hi2 : (i : Int) < l.length := by omega
  have hle : i + 1 ≤ m.length := by omega
  have hnext : greatP (l.take (i + 1)) ++ l.drop (i + 1) = m.set i (greatC c) := by
   rw [← hm, List.take_succ_eq_append_getElem hlt, hc, List.set_append_right _ _ (by omega), hgl, Nat.sub_self]
   simp only [greatP, List.map_append, List.map_cons, List.map_nil, List.append_assoc, List.singleton_append]
   rw [List.drop_eq_getElem_cons hlt]
   rfl
  by_cases hg : 97 ≤ c.toNat ∧ c.toNat ≤ 122
  ·have g1 : (97 : Int) ≤ c.toNat := by omega
   have g2 : (c.toNat : Int) ≤ 122 := by omega
   have hgc : greatC c = UInt8.ofNat (c.toNat - 32) := by unfold greatC; rw [if_pos hg]
   have hw := set_bytes (l := m) (i := i) (m := (c.toNat : Int) - 32) (by omega)
   have hw0 : (c.toNat : Int) - 32 = ((UInt8.ofNat (c.toNat - 32)).toNat : Int) := by rw [u8_nat (by omega)]; omega
   rw [hw0, bytes_set] at hw
   simp (disch := first | assumption | omega) only [go_sem, Nat.reduceEqDiff, ↓reduceIte, Nat.mul_one, Bool.true_and, hf, hi2, hidx, g1, g2, hle, hw0, hw]
   refine ⟨i + 1, by omega, by omega, ?_, by rw [hnext, hgc]⟩
   simp (disch := first | assumption | omega) only [go_sem]
  ·have hgc : greatC c = c := by unfold greatC; rw [if_neg hg]
   have hms : m.set i c = m := by
    apply List.ext_getElem?
    intro j
    rw [List.getElem?_set]
    split
    ·rename_i h; subst h; rw [hidx]; split <;> first | rfl | omega
    ·rfl
   by_cases g1 : (97 : Int) ≤ c.toNat
   ·have g2 : ¬ (c.toNat : Int) ≤ 122 := by omega
    simp (disch := first | assumption | omega) only [go_sem, Nat.reduceEqDiff, ↓reduceIte, Nat.mul_one, hf, hi2, hidx, g1, g2]
    refine ⟨i + 1, by omega, by omega, ?_, by rw [hnext, hgc, hms]⟩
    simp (disch := first | assumption | omega) only [go_sem]
   ·simp (disch := first | assumption | omega) only [go_sem, Nat.reduceEqDiff, ↓reduceIte, Nat.mul_one, hf, hi2, hidx, g1]
    refine ⟨i + 1, by omega, by omega, ?_, by rw [hnext, hgc, hms]⟩
    simp (disch := first | assumption | omega) only [go_sem]
 ·have e : greatP (l.take i) ++ l.drop i = greatP l := by rw [List.take_of_length_le (by omega), List.drop_of_length_le (by omega), List.append_nil]
  have hi2 : ¬ (i : Int) < l.length := by omega
  rw [e] at hm
  subst hm
  have hb2 : bytesOf ((bytesAV (greatP l)).take l.length) = some (greatP l) := by
   rw [List.take_of_length_le (by simp [bytesAV, greatP])]
   exact bytesOf_bytesAV _
  simp (disch := first | assumption | omega) only [go_sem, Nat.reduceEqDiff, ↓reduceIte, hf, hi2, hml, hb2, Nat.le_refl]
  exact retC_by (Drop.set hb) (.refl _) ⟨rfl, rfl⟩
end Go.A
namespace Go.A
open Go.Proofs
/-! 18: tabular/tabularref11.Sign -/
def c18_0 : ACode := .ops [
 ⟨some 4, none, .q (.mv (.v (.int .i64 0))), []⟩]
def c18_1 : ACode := .ops [
 ⟨some 8, none, .q (.mv (.t 1)), []⟩,
 ⟨some 9, none, .q (.mv (.t 0)), []⟩,
 ⟨some 10, none, .q (.lenS (.t 9)), []⟩,
 ⟨some 11, none, .q (.bin .geq (.t 8) (.t 10)), []⟩]
def c18_2 : ACode := .ops [
 ⟨some 4, none, .q (.mv (.v (.int .i64 0))), []⟩]
def c18_3 : ACode := .seq c18_2 .ret
def c18_4 : ACode := .cond (.t 11) c18_3 .skip
def c18_5 : ACode := .seq c18_1 c18_4
def c18_6 : ACode := .ops [
 ⟨some 12, none, .q (.mv (.t 0)), []⟩,
 ⟨some 13, none, .q (.mv (.t 1)), []⟩,
 ⟨some 14, none, .q (.idx (.t 12) (.t 13)), []⟩,
 ⟨some 15, none, .q (.conv .i64 (.t 14)), []⟩,
 ⟨some 5, none, .q (.mv (.t 15)), []⟩]
def c18_7 : ACode := .ops [
 ⟨some 16, none, .q (.mv (.t 5)), []⟩,
 ⟨some 17, none, .q (.bin .lss (.t 16) (.v (.int .i64 128))), []⟩]
def c18_8 : ACode := .ops [
 ⟨some 4, none, .q (.mv (.v (.int .i64 1))), []⟩]
def c18_9 : ACode := .seq c18_8 .ret
def c18_10 : ACode := .cond (.t 17) c18_9 .skip
def c18_11 : ACode := .seq c18_7 c18_10
def c18_12 : ACode := .ops [
 ⟨some 18, none, .q (.mv (.t 5)), []⟩,
 ⟨some 19, none, .q (.bin .geq (.t 18) (.v (.int .i64 194))), []⟩,
 ⟨some 20, none, .q (.mv (.t 19)), []⟩,
 ⟨some 21, some (20, true), .q (.mv (.t 5)), []⟩,
 ⟨some 22, some (20, true), .q (.bin .leq (.t 21) (.v (.int .i64 223))), []⟩,
 ⟨some 23, none, .q (.pick (.t 20) (.t 22) (.v (.bool false))), []⟩,
 ⟨some 24, none, .q (.mv (.t 23)), []⟩,
 ⟨some 25, some (24, true), .q (.mv (.t 0)), []⟩,
 ⟨some 26, some (24, true), .q (.mv (.t 1)), []⟩,
 ⟨some 27, some (24, true), .q (.bin .add (.t 26) (.v (.int .i64 1))), []⟩,
 ⟨some 28, some (24, true), .e (.call 25 [(.t 25), (.t 27), (.v (.int .i64 128)), (.v (.int .i64 191))]), []⟩,
 ⟨some 29, none, .q (.pick (.t 24) (.t 28) (.v (.bool false))), []⟩]
def c18_13 : ACode := .ops [
 ⟨some 4, none, .q (.mv (.v (.int .i64 2))), []⟩]
def c18_14 : ACode := .seq c18_13 .ret
def c18_15 : ACode := .cond (.t 29) c18_14 .skip
def c18_16 : ACode := .seq c18_12 c18_15
def c18_17 : ACode := .ops [
 ⟨some 6, none, .q (.mv (.v (.int .i64 128))), []⟩,
 ⟨some 7, none, .q (.mv (.v (.int .i64 191))), []⟩]
def c18_18 : ACode := .ops [
 ⟨some 30, none, .q (.mv (.t 5)), []⟩,
 ⟨some 31, none, .q (.bin .eql (.t 30) (.v (.int .i64 224))), []⟩,
 ⟨some 32, none, .q (.mv (.t 31)), []⟩,
 ⟨some 33, some (32, false), .q (.mv (.t 5)), []⟩,
 ⟨some 34, some (32, false), .q (.bin .eql (.t 33) (.v (.int .i64 240))), []⟩,
 ⟨some 35, none, .q (.pick (.t 32) (.v (.bool true)) (.t 34)), []⟩]
def c18_19 : ACode := .ops [
 ⟨some 6, none, .q (.mv (.v (.int .i64 160))), []⟩]
def c18_20 : ACode := .cond (.t 35) c18_19 .skip
def c18_21 : ACode := .seq c18_18 c18_20
def c18_22 : ACode := .ops [
 ⟨some 36, none, .q (.mv (.t 5)), []⟩,
 ⟨some 37, none, .q (.bin .eql (.t 36) (.v (.int .i64 240))), []⟩]
def c18_23 : ACode := .ops [
 ⟨some 6, none, .q (.mv (.v (.int .i64 144))), []⟩]
def c18_24 : ACode := .cond (.t 37) c18_23 .skip
def c18_25 : ACode := .seq c18_22 c18_24
def c18_26 : ACode := .ops [
 ⟨some 38, none, .q (.mv (.t 5)), []⟩,
 ⟨some 39, none, .q (.bin .eql (.t 38) (.v (.int .i64 237))), []⟩]
def c18_27 : ACode := .ops [
 ⟨some 7, none, .q (.mv (.v (.int .i64 159))), []⟩]
def c18_28 : ACode := .cond (.t 39) c18_27 .skip
def c18_29 : ACode := .seq c18_26 c18_28
def c18_30 : ACode := .ops [
 ⟨some 40, none, .q (.mv (.t 5)), []⟩,
 ⟨some 41, none, .q (.bin .eql (.t 40) (.v (.int .i64 244))), []⟩]
def c18_31 : ACode := .ops [
 ⟨some 7, none, .q (.mv (.v (.int .i64 143))), []⟩]
def c18_32 : ACode := .cond (.t 41) c18_31 .skip
def c18_33 : ACode := .seq c18_30 c18_32
def c18_34 : ACode := .ops [
 ⟨some 42, none, .q (.mv (.t 5)), []⟩,
 ⟨some 43, none, .q (.bin .geq (.t 42) (.v (.int .i64 224))), []⟩,
 ⟨some 44, none, .q (.mv (.t 43)), []⟩,
 ⟨some 45, some (44, true), .q (.mv (.t 5)), []⟩,
 ⟨some 46, some (44, true), .q (.bin .leq (.t 45) (.v (.int .i64 239))), []⟩,
 ⟨some 47, none, .q (.pick (.t 44) (.t 46) (.v (.bool false))), []⟩,
 ⟨some 48, none, .q (.mv (.t 47)), []⟩,
 ⟨some 49, some (48, true), .q (.mv (.t 0)), []⟩,
 ⟨some 50, some (48, true), .q (.mv (.t 1)), []⟩,
 ⟨some 51, some (48, true), .q (.bin .add (.t 50) (.v (.int .i64 1))), []⟩,
 ⟨some 52, some (48, true), .q (.mv (.t 6)), []⟩,
 ⟨some 53, some (48, true), .q (.mv (.t 7)), []⟩,
 ⟨some 54, some (48, true), .e (.call 25 [(.t 49), (.t 51), (.t 52), (.t 53)]), []⟩,
 ⟨some 55, none, .q (.pick (.t 48) (.t 54) (.v (.bool false))), []⟩,
 ⟨some 56, none, .q (.mv (.t 55)), []⟩,
 ⟨some 57, some (56, true), .q (.mv (.t 0)), []⟩,
 ⟨some 58, some (56, true), .q (.mv (.t 1)), []⟩,
 ⟨some 59, some (56, true), .q (.bin .add (.t 58) (.v (.int .i64 2))), []⟩,
 ⟨some 60, some (56, true), .e (.call 25 [(.t 57), (.t 59), (.v (.int .i64 128)), (.v (.int .i64 191))]), []⟩,
 ⟨some 61, none, .q (.pick (.t 56) (.t 60) (.v (.bool false))), []⟩]
def c18_35 : ACode := .ops [
 ⟨some 4, none, .q (.mv (.v (.int .i64 3))), []⟩]
def c18_36 : ACode := .seq c18_35 .ret
def c18_37 : ACode := .cond (.t 61) c18_36 .skip
def c18_38 : ACode := .seq c18_34 c18_37
def c18_39 : ACode := .ops [
 ⟨some 62, none, .q (.mv (.t 5)), []⟩,
 ⟨some 63, none, .q (.bin .geq (.t 62) (.v (.int .i64 240))), []⟩,
 ⟨some 64, none, .q (.mv (.t 63)), []⟩,
 ⟨some 65, some (64, true), .q (.mv (.t 5)), []⟩,
 ⟨some 66, some (64, true), .q (.bin .leq (.t 65) (.v (.int .i64 244))), []⟩,
 ⟨some 67, none, .q (.pick (.t 64) (.t 66) (.v (.bool false))), []⟩,
 ⟨some 68, none, .q (.mv (.t 67)), []⟩,
 ⟨some 69, some (68, true), .q (.mv (.t 0)), []⟩,
 ⟨some 70, some (68, true), .q (.mv (.t 1)), []⟩,
 ⟨some 71, some (68, true), .q (.bin .add (.t 70) (.v (.int .i64 1))), []⟩,
 ⟨some 72, some (68, true), .q (.mv (.t 6)), []⟩,
 ⟨some 73, some (68, true), .q (.mv (.t 7)), []⟩,
 ⟨some 74, some (68, true), .e (.call 25 [(.t 69), (.t 71), (.t 72), (.t 73)]), []⟩,
 ⟨some 75, none, .q (.pick (.t 68) (.t 74) (.v (.bool false))), []⟩,
 ⟨some 76, none, .q (.mv (.t 75)), []⟩,
 ⟨some 77, some (76, true), .q (.mv (.t 0)), []⟩,
 ⟨some 78, some (76, true), .q (.mv (.t 1)), []⟩,
 ⟨some 79, some (76, true), .q (.bin .add (.t 78) (.v (.int .i64 2))), []⟩,
 ⟨some 80, some (76, true), .e (.call 25 [(.t 77), (.t 79), (.v (.int .i64 128)), (.v (.int .i64 191))]), []⟩,
 ⟨some 81, none, .q (.pick (.t 76) (.t 80) (.v (.bool false))), []⟩,
 ⟨some 82, none, .q (.mv (.t 81)), []⟩,
 ⟨some 83, some (82, true), .q (.mv (.t 0)), []⟩,
 ⟨some 84, some (82, true), .q (.mv (.t 1)), []⟩,
 ⟨some 85, some (82, true), .q (.bin .add (.t 84) (.v (.int .i64 3))), []⟩,
 ⟨some 86, some (82, true), .e (.call 25 [(.t 83), (.t 85), (.v (.int .i64 128)), (.v (.int .i64 191))]), []⟩,
 ⟨some 87, none, .q (.pick (.t 82) (.t 86) (.v (.bool false))), []⟩]
def c18_40 : ACode := .ops [
 ⟨some 4, none, .q (.mv (.v (.int .i64 4))), []⟩]
def c18_41 : ACode := .seq c18_40 .ret
def c18_42 : ACode := .cond (.t 87) c18_41 .skip
def c18_43 : ACode := .seq c18_39 c18_42
def c18_44 : ACode := .ops [
 ⟨some 4, none, .q (.mv (.v (.int .i64 0))), []⟩]
def c18_45 : ACode := .seq c18_44 .ret
def c18_46 : ACode := .seq c18_43 c18_45
def c18_47 : ACode := .seq c18_38 c18_46
def c18_48 : ACode := .seq c18_33 c18_47
def c18_49 : ACode := .seq c18_29 c18_48
def c18_50 : ACode := .seq c18_25 c18_49
def c18_51 : ACode := .seq c18_21 c18_50
def c18_52 : ACode := .seq c18_17 c18_51
def c18_53 : ACode := .seq c18_16 c18_52
def c18_54 : ACode := .seq c18_11 c18_53
def c18_55 : ACode := .seq c18_6 c18_54
def c18_56 : ACode := .seq c18_5 c18_55
def c18_57 : ACode := .seq c18_0 c18_56
@[go_sem] def c18_0_wp := wp_of c18_0.eq_1
@[go_sem] def c18_1_wp := wp_of c18_1.eq_1
@[go_sem] def c18_2_wp := wp_of c18_2.eq_1
@[go_sem] def c18_3_wp := wp_of c18_3.eq_1
@[go_sem] def c18_4_wp := wp_of c18_4.eq_1
@[go_sem] def c18_5_wp := wp_of c18_5.eq_1
@[go_sem] def c18_6_wp := wp_of c18_6.eq_1
@[go_sem] def c18_7_wp := wp_of c18_7.eq_1
@[go_sem] def c18_8_wp := wp_of c18_8.eq_1
@[go_sem] def c18_9_wp := wp_of c18_9.eq_1
@[go_sem] def c18_10_wp := wp_of c18_10.eq_1
@[go_sem] def c18_11_wp := wp_of c18_11.eq_1
@[go_sem] def c18_12_wp := wp_of c18_12.eq_1
@[go_sem] def c18_13_wp := wp_of c18_13.eq_1
@[go_sem] def c18_14_wp := wp_of c18_14.eq_1
@[go_sem] def c18_15_wp := wp_of c18_15.eq_1
@[go_sem] def c18_16_wp := wp_of c18_16.eq_1
@[go_sem] def c18_17_wp := wp_of c18_17.eq_1
@[go_sem] def c18_18_wp := wp_of c18_18.eq_1
@[go_sem] def c18_19_wp := wp_of c18_19.eq_1
@[go_sem] def c18_20_wp := wp_of c18_20.eq_1
@[go_sem] def c18_21_wp := wp_of c18_21.eq_1
@[go_sem] def c18_22_wp := wp_of c18_22.eq_1
@[go_sem] def c18_23_wp := wp_of c18_23.eq_1
@[go_sem] def c18_24_wp := wp_of c18_24.eq_1
@[go_sem] def c18_25_wp := wp_of c18_25.eq_1
@[go_sem] def c18_26_wp := wp_of c18_26.eq_1
@[go_sem] def c18_27_wp := wp_of c18_27.eq_1
@[go_sem] def c18_28_wp := wp_of c18_28.eq_1
@[go_sem] def c18_29_wp := wp_of c18_29.eq_1
@[go_sem] def c18_30_wp := wp_of c18_30.eq_1
@[go_sem] def c18_31_wp := wp_of c18_31.eq_1
@[go_sem] def c18_32_wp := wp_of c18_32.eq_1
@[go_sem] def c18_33_wp := wp_of c18_33.eq_1
@[go_sem] def c18_34_wp := wp_of c18_34.eq_1
@[go_sem] def c18_35_wp := wp_of c18_35.eq_1
@[go_sem] def c18_36_wp := wp_of c18_36.eq_1
@[go_sem] def c18_37_wp := wp_of c18_37.eq_1
@[go_sem] def c18_38_wp := wp_of c18_38.eq_1
@[go_sem] def c18_39_wp := wp_of c18_39.eq_1
@[go_sem] def c18_40_wp := wp_of c18_40.eq_1
@[go_sem] def c18_41_wp := wp_of c18_41.eq_1
@[go_sem] def c18_42_wp := wp_of c18_42.eq_1
@[go_sem] def c18_43_wp := wp_of c18_43.eq_1
@[go_sem] def c18_44_wp := wp_of c18_44.eq_1
@[go_sem] def c18_45_wp := wp_of c18_45.eq_1
@[go_sem] def c18_46_wp := wp_of c18_46.eq_1
@[go_sem] def c18_47_wp := wp_of c18_47.eq_1
@[go_sem] def c18_48_wp := wp_of c18_48.eq_1
@[go_sem] def c18_49_wp := wp_of c18_49.eq_1
@[go_sem] def c18_50_wp := wp_of c18_50.eq_1
@[go_sem] def c18_51_wp := wp_of c18_51.eq_1
@[go_sem] def c18_52_wp := wp_of c18_52.eq_1
@[go_sem] def c18_53_wp := wp_of c18_53.eq_1
@[go_sem] def c18_54_wp := wp_of c18_54.eq_1
@[go_sem] def c18_55_wp := wp_of c18_55.eq_1
@[go_sem] def c18_56_wp := wp_of c18_56.eq_1
@[go_sem] def c18_57_wp := wp_of c18_57.eq_1
def c18 : AFn := ⟨88, [.t 4], c18_57⟩
theorem c18_ok : compF Tryz.prog Tryz.f18 = some c18 := by kernel_rfl
theorem a18 {args : List AV} {σ : ASt} {R : AV → ASt → Prop} (hl : args.length ≤ 88) (h : c18_57.wp Tryz.prog (RetQ [.t 4] R) (init args) σ) : ACalls Tryz.prog 18 args σ R := acalls_of Tryz.func18 c18_ok hl h
/-! 25: tabular/tabularref11.more -/
def c25_0 : ACode := .ops [
 ⟨some 8, none, .q (.mv (.v (.bool false))), []⟩]
def c25_1 : ACode := .ops [
 ⟨some 9, none, .q (.mv (.t 1)), []⟩,
 ⟨some 10, none, .q (.mv (.t 0)), []⟩,
 ⟨some 11, none, .q (.lenS (.t 10)), []⟩,
 ⟨some 12, none, .q (.bin .lss (.t 9) (.t 11)), []⟩,
 ⟨some 13, none, .q (.mv (.t 12)), []⟩,
 ⟨some 14, some (13, true), .q (.mv (.t 0)), []⟩,
 ⟨some 15, some (13, true), .q (.mv (.t 1)), []⟩,
 ⟨some 16, some (13, true), .q (.idx (.t 14) (.t 15)), []⟩,
 ⟨some 17, some (13, true), .q (.conv .i64 (.t 16)), []⟩,
 ⟨some 18, some (13, true), .q (.mv (.t 2)), []⟩,
 ⟨some 19, some (13, true), .q (.bin .geq (.t 17) (.t 18)), []⟩,
 ⟨some 20, none, .q (.pick (.t 13) (.t 19) (.v (.bool false))), []⟩,
 ⟨some 21, none, .q (.mv (.t 20)), []⟩,
 ⟨some 22, some (21, true), .q (.mv (.t 0)), []⟩,
 ⟨some 23, some (21, true), .q (.mv (.t 1)), []⟩,
 ⟨some 24, some (21, true), .q (.idx (.t 22) (.t 23)), []⟩,
 ⟨some 25, some (21, true), .q (.conv .i64 (.t 24)), []⟩,
 ⟨some 26, some (21, true), .q (.mv (.t 3)), []⟩,
 ⟨some 27, some (21, true), .q (.bin .leq (.t 25) (.t 26)), []⟩,
 ⟨some 28, none, .q (.pick (.t 21) (.t 27) (.v (.bool false))), []⟩,
 ⟨some 8, none, .q (.mv (.t 28)), []⟩]
def c25_2 : ACode := .seq c25_1 .ret
def c25_3 : ACode := .seq c25_0 c25_2
@[go_sem] def c25_0_wp := wp_of c25_0.eq_1
@[go_sem] def c25_1_wp := wp_of c25_1.eq_1
@[go_sem] def c25_2_wp := wp_of c25_2.eq_1
@[go_sem] def c25_3_wp := wp_of c25_3.eq_1
def c25 : AFn := ⟨29, [.t 8], c25_3⟩
theorem c25_ok : compF Tryz.prog Tryz.f25 = some c25 := by kernel_rfl
theorem a25 {args : List AV} {σ : ASt} {R : AV → ASt → Prop} (hl : args.length ≤ 29) (h : c25_3.wp Tryz.prog (RetQ [.t 8] R) (init args) σ) : ACalls Tryz.prog 25 args σ R := acalls_of Tryz.func25 c25_ok hl h
end Go.A
namespace Go.A
open Go.Proofs Go.Lib
def moreP (s : List UInt8) (at' lo hi : Nat) : Bool := decide (at' < s.length ∧ lo ≤ (s.getD at' 0).toNat ∧ (s.getD at' 0).toNat ≤ hi)
theorem more_ok (s : List UInt8) (at' lo hi : Nat) (ha : at' ≤ 9000000000000000000) : Pure Tryz.prog 25 [.str s, .int .i64 at', .int .i64 lo, .int .i64 hi] (.bool (moreP s at' lo hi)) := by
 intro σ
 refine a25 (by simp) ?_
 unfold moreP
 by_cases h : at' < s.length
 ·have h' : (at' : Int) < s.length := by omega
  have hx : s[at']? = some (s[at']'h) := List.getElem?_eq_getElem h
  obtain ⟨c, hc⟩ : ∃ c, s[at']'h = c := ⟨_, rfl⟩
  rw [hc] at hx
  have hg : s.getD at' 0 = c := by rw [List.getD_eq_getElem?_getD, hx]; rfl
  rw [hg]
  have hcb := u8_lt c
  by_cases h1 : lo ≤ c.toNat
  ·have h1' : (lo : Int) ≤ c.toNat := by omega
   by_cases h2 : c.toNat ≤ hi
   ·have h2' : (c.toNat : Int) ≤ hi := by omega
    rw [decide_eq_true ⟨h, h1, h2⟩]
    simp (disch := first | assumption | omega) only [go_sem, reduceCtorEq, Nat.reduceEqDiff, ↓reduceIte, h', hx, h1', h2']
    exact retC_by (by repeat' (first | exact Drop.refl _ | with_reducible refine Drop.off ?_ (by assumption))) (.refl _) ⟨rfl, rfl⟩
   ·have h2' : ¬ (c.toNat : Int) ≤ hi := by omega
    rw [decide_eq_false (fun h => h2 h.2.2)]
    simp (disch := first | assumption | omega) only [go_sem, reduceCtorEq, Nat.reduceEqDiff, ↓reduceIte, h', hx, h1', h2']
    exact retC_by (by repeat' (first | exact Drop.refl _ | with_reducible refine Drop.off ?_ (by assumption))) (.refl _) ⟨rfl, rfl⟩
  ·have h1' : ¬ (lo : Int) ≤ c.toNat := by omega
   rw [decide_eq_false (fun h => h1 h.2.1)]
   simp (disch := first | assumption | omega) only [go_sem, reduceCtorEq, Nat.reduceEqDiff, ↓reduceIte, h', hx, h1']
   exact retC_by (by repeat' (first | exact Drop.refl _ | with_reducible refine Drop.off ?_ (by assumption))) (.refl _) ⟨rfl, rfl⟩
 ·have h' : ¬ (at' : Int) < s.length := by omega
  rw [decide_eq_false (fun h2 => h h2.1)]
  simp (disch := first | assumption | omega) only [go_sem, reduceCtorEq, Nat.reduceEqDiff, ↓reduceIte, h']
  exact retC_by (by repeat' (first | exact Drop.refl _ | with_reducible refine Drop.off ?_ (by assumption))) (.refl _) ⟨rfl, rfl⟩
def sigL (r : List UInt8) : Nat := if r = [] then 0 else if decodeL r = (65533, 1) then 0 else (decodeL r).2
def sigN (n b0 b1 b2 b3 : Nat) : Nat :=
 let lo := if b0 = 224 then 160 else if b0 = 240 then 144 else 128
 let hi := if b0 = 237 then 159 else if b0 = 244 then 143 else 191
 if b0 < 128 then 1
 else if 194 ≤ b0 ∧ b0 ≤ 223 ∧ (1 < n ∧ 128 ≤ b1 ∧ b1 ≤ 191) then 2
 else if 224 ≤ b0 ∧ b0 ≤ 239 ∧ (1 < n ∧ lo ≤ b1 ∧ b1 ≤ hi) ∧ (2 < n ∧ 128 ≤ b2 ∧ b2 ≤ 191) then 3
 else if 240 ≤ b0 ∧ b0 ≤ 244 ∧ (1 < n ∧ lo ≤ b1 ∧ b1 ≤ hi) ∧ (2 < n ∧ 128 ≤ b2 ∧ b2 ≤ 191) ∧ (3 < n ∧ 128 ≤ b3 ∧ b3 ≤ 191) then 4
 else 0
set_option maxHeartbeats 2000000 in
theorem sigN_eq {n b0 b1 b2 b3 : Nat} (h0 : b0 < 256) (h1 : b1 < 256) (h2 : b2 < 256) (h3 : b3 < 256) : sigN n b0 b1 b2 b3 = if decodeN n b0 b1 b2 b3 = (65533, 1) then 0 else (decodeN n b0 b1 b2 b3).2 := by
 have key : ∀ (x : Nat × Nat) (v : Nat), v = (if x = (65533, 1) then 0 else x.2) ↔ (x.1 = 65533 ∧ x.2 = 1 → v = 0) ∧ (¬ (x.1 = 65533 ∧ x.2 = 1) → v = x.2) := by
  intro x v
  obtain ⟨x1, x2⟩ := x
  simp only [Prod.mk.injEq]
  split
  ·rename_i h; exact ⟨fun e => ⟨fun _ => e, fun hn => absurd h hn⟩, fun hh => hh.1 h⟩
  ·rename_i h; exact ⟨fun e => ⟨fun hh => absurd hh h, fun _ => e⟩, fun hh => hh.2 h⟩
 rw [key]
 unfold sigN decodeN
 dsimp only
 by_cases c1 : b0 < 128
 ·simp only [if_pos c1]; exact ⟨fun h => by omega, fun _ => trivial⟩
 simp only [if_neg c1]
 by_cases c2 : b0 / 32 = 6
 ·rw [if_neg (show ¬ (224 ≤ b0 ∧ b0 ≤ 239 ∧ _) from fun h => by omega), if_neg (show ¬ (240 ≤ b0 ∧ b0 ≤ 244 ∧ _) from fun h => by omega)]
  rw [if_neg (show ¬ (b0 / 16 = 14 ∧ _) from fun h => by omega), if_neg (show ¬ (b0 / 8 = 30 ∧ _) from fun h => by omega)]
  repeat' split
  all_goals (dsimp only; omega)
 rw [if_neg (show ¬ (194 ≤ b0 ∧ b0 ≤ 223 ∧ _) from fun h => by omega), if_neg (show ¬ (b0 / 32 = 6 ∧ _) from fun h => by omega)]
 by_cases c3 : b0 / 16 = 14
 ·rw [if_neg (show ¬ (240 ≤ b0 ∧ b0 ≤ 244 ∧ _) from fun h => by omega), if_neg (show ¬ (b0 / 8 = 30 ∧ _) from fun h => by omega)]
  rw [if_neg (show ¬ b0 = 240 by omega), if_neg (show ¬ b0 = 244 by omega)]
  repeat' split
  all_goals (dsimp only; omega)
 rw [if_neg (show ¬ (224 ≤ b0 ∧ b0 ≤ 239 ∧ _) from fun h => by omega), if_neg (show ¬ (b0 / 16 = 14 ∧ _) from fun h => by omega)]
 rw [if_neg (show ¬ b0 = 224 by omega), if_neg (show ¬ b0 = 237 by omega)]
 repeat' split
 all_goals (dsimp only; omega)
theorem sigL_N {r : List UInt8} (h : r ≠ []) : sigL r = sigN r.length (r.getD 0 0).toNat (r.getD 1 0).toNat (r.getD 2 0).toNat (r.getD 3 0).toNat := by
 unfold sigL
 rw [if_neg h, decodeL_N, sigN_eq (UInt8.toNat_lt _) (UInt8.toNat_lt _) (UInt8.toNat_lt _) (UInt8.toNat_lt _)]
theorem more_at (s : List UInt8) (p k lo hi : Nat) (hp : p + k ≤ 9000000000000000000) : Pure Tryz.prog 25 [.str s, .int .i64 ((p : Int) + k), .int .i64 lo, .int .i64 hi] (.bool (moreP s (p + k) lo hi)) := by
 have := more_ok s (p + k) lo hi hp
 rw [Int.natCast_add] at this
 exact this
theorem more_iff (s : List UInt8) (p k lo hi : Nat) (hp : p ≤ s.length) : moreP s (p + k) lo hi = true ↔ (k < (s.drop p).length ∧ lo ≤ ((s.drop p).getD k 0).toNat ∧ ((s.drop p).getD k 0).toNat ≤ hi) := by
 unfold moreP
 rw [decide_eq_true_eq, getD_dropU, List.length_drop]
 constructor
 ·rintro ⟨h1, h2, h3⟩; exact ⟨by omega, h2, h3⟩
 ·rintro ⟨h1, h2, h3⟩; exact ⟨by omega, h2, h3⟩
set_option maxHeartbeats 2000000 in
theorem rsign_ok (s : List UInt8) (p : Nat) (hp : p ≤ s.length) (hl : s.length ≤ 4611686018427387904) : Pure Tryz.prog 18 [.str s, .int .i64 p] (.int .i64 (sigL (s.drop p) : Nat)) := by
 intro σ
 refine a18 (by simp) ?_
 by_cases hlt : p < s.length
 ·have hlt' : ¬ (s.length : Int) ≤ p := by omega
  have hne : s.drop p ≠ [] := by
   intro e
   have := congrArg List.length e
   rw [List.length_drop] at this
   simp at this
   omega
  have hx : s[p]? = some (s[p]'hlt) := List.getElem?_eq_getElem hlt
  obtain ⟨c, hc⟩ : ∃ c, s[p]'hlt = c := ⟨_, rfl⟩
  rw [hc] at hx
  have hb0 : ((s.drop p).getD 0 0).toNat = c.toNat := by rw [getD_dropU, List.getD_eq_getElem?_getD, Nat.add_zero, hx]; rfl
  rw [sigL_N hne, hb0]
  have hcb := u8_lt c
  have m1 := more_iff s p 1 128 191 hp
  have m2 := more_iff s p 2 128 191 hp
  have m3 := more_iff s p 3 128 191 hp
  have q1 := more_at s p 1 128 191 (by omega)
  have q2 := more_at s p 2 128 191 (by omega)
  have q3 := more_at s p 3 128 191 (by omega)
  have mm := fun lo hi => more_iff s p 1 lo hi hp
  have qq := fun lo hi => more_at s p 1 lo hi (by omega)
  generalize ((s.drop p).getD 1 0).toNat = b1 at *
  generalize ((s.drop p).getD 2 0).toNat = b2 at *
  generalize ((s.drop p).getD 3 0).toNat = b3 at *
  generalize (s.drop p).length = n at *
  obtain ⟨C, hC⟩ : ∃ C, c.toNat = C := ⟨_, rfl⟩
  rw [hC] at hcb ⊢
  have e1 : ((1 : Nat) : Int) = 1 := rfl
  have e2 : ((2 : Nat) : Int) = 2 := rfl
  have e3 : ((3 : Nat) : Int) = 3 := rfl
  have e128 : ((128 : Nat) : Int) = 128 := rfl
  have e191 : ((191 : Nat) : Int) = 191 := rfl
  rw [e1, e128, e191] at q1
  rw [e2, e128, e191] at q2
  rw [e3, e128, e191] at q3
  simp only [e1] at qq
  generalize hM1 : moreP s (p + 1) 128 191 = M1 at *
  generalize moreP s (p + 2) 128 191 = M2 at *
  generalize moreP s (p + 3) 128 191 = M3 at *
  obtain ⟨F, hF⟩ : ∃ F, F = ACode.wp Tryz.prog c18_47 := ⟨_, rfl⟩
  have tail : ∀ (a1 : AFr) (lo hi : Nat) (T : Nat), (a1 0 = .str s ∧ a1 1 = .int .i64 p ∧ a1 5 = .int .i64 C ∧ a1 6 = .int .i64 lo ∧ a1 7 = .int .i64 hi) →
    T = (if 224 ≤ C ∧ C ≤ 239 ∧ moreP s (p + 1) lo hi = true ∧ M2 = true then 3 else if 240 ≤ C ∧ C ≤ 244 ∧ moreP s (p + 1) lo hi = true ∧ M2 = true ∧ M3 = true then 4 else 0) → F (RetQ [.t 4] fun v σ' => v = .int .i64 T ∧ σ' = σ) a1 σ := by
   intro a1 lo hi T hf hT
   rw [hF]
   have q := qq lo hi
   generalize moreP s (p + 1) lo hi = M at *
   by_cases g1 : 224 ≤ C
   ·have g1' : (224 : Int) ≤ C := by omega
    by_cases g2 : C ≤ 239
    ·have g2' : (C : Int) ≤ 239 := by omega
     have g3' : ¬ (240 : Int) ≤ C := by omega
     simp (disch := first | assumption | omega) only [go_sem, reduceCtorEq, Nat.reduceEqDiff, ↓reduceIte, hf, g1', g2']
     refine q.use ?_
     cases M with
     | false =>
       rw [if_neg (by simp), if_neg (by simp)] at hT
       subst hT
       simp (disch := first | assumption | omega) only [go_sem, Nat.reduceEqDiff, ↓reduceIte, hf, g3']
       exact retC_by (by repeat' (first | exact Drop.refl _ | with_reducible refine Drop.off ?_ (by assumption))) (.refl _) ⟨rfl, rfl⟩
     | true =>
       simp (disch := first | assumption | omega) only [go_sem, reduceCtorEq, Nat.reduceEqDiff, ↓reduceIte, hf]
       refine q2.use ?_
       cases M2 with
       | false =>
         rw [if_neg (by simp), if_neg (by simp)] at hT
         subst hT
         simp (disch := first | assumption | omega) only [go_sem, Nat.reduceEqDiff, ↓reduceIte, hf, g3']
         exact retC_by (by repeat' (first | exact Drop.refl _ | with_reducible refine Drop.off ?_ (by assumption))) (.refl _) ⟨rfl, rfl⟩
       | true =>
         rw [if_pos ⟨g1, g2, rfl, rfl⟩] at hT
         subst hT
         simp (disch := first | assumption | omega) only [go_sem, Nat.reduceEqDiff, ↓reduceIte]
         exact retC_by (by repeat' (first | exact Drop.refl _ | with_reducible refine Drop.off ?_ (by assumption))) (.refl _) ⟨rfl, rfl⟩
    ·have g2' : ¬ (C : Int) ≤ 239 := by omega
     have g3' : (240 : Int) ≤ C := by omega
     rw [if_neg (fun h => g2 h.2.1)] at hT
     by_cases g4 : C ≤ 244
     ·have g4' : (C : Int) ≤ 244 := by omega
      simp (disch := first | assumption | omega) only [go_sem, reduceCtorEq, Nat.reduceEqDiff, ↓reduceIte, hf, g1', g2', g3', g4']
      refine q.use ?_
      cases M with
      | false =>
        rw [if_neg (by simp)] at hT
        subst hT
        simp (disch := first | assumption | omega) only [go_sem, Nat.reduceEqDiff, ↓reduceIte]
        exact retC_by (by repeat' (first | exact Drop.refl _ | with_reducible refine Drop.off ?_ (by assumption))) (.refl _) ⟨rfl, rfl⟩
      | true =>
        simp (disch := first | assumption | omega) only [go_sem, reduceCtorEq, Nat.reduceEqDiff, ↓reduceIte, hf]
        refine q2.use ?_
        cases M2 with
        | false =>
          rw [if_neg (by simp)] at hT
          subst hT
          simp (disch := first | assumption | omega) only [go_sem, Nat.reduceEqDiff, ↓reduceIte]
          exact retC_by (by repeat' (first | exact Drop.refl _ | with_reducible refine Drop.off ?_ (by assumption))) (.refl _) ⟨rfl, rfl⟩
        | true =>
          simp (disch := first | assumption | omega) only [go_sem, reduceCtorEq, Nat.reduceEqDiff, ↓reduceIte, hf]
          refine q3.use ?_
          cases M3 with
          | false =>
            rw [if_neg (by simp)] at hT
            subst hT
            simp (disch := first | assumption | omega) only [go_sem, Nat.reduceEqDiff, ↓reduceIte]
            exact retC_by (by repeat' (first | exact Drop.refl _ | with_reducible refine Drop.off ?_ (by assumption))) (.refl _) ⟨rfl, rfl⟩
          | true =>
            rw [if_pos ⟨by omega, g4, rfl, rfl, rfl⟩] at hT
            subst hT
            simp (disch := first | assumption | omega) only [go_sem, Nat.reduceEqDiff, ↓reduceIte]
            exact retC_by (by repeat' (first | exact Drop.refl _ | with_reducible refine Drop.off ?_ (by assumption))) (.refl _) ⟨rfl, rfl⟩
     ·have g4' : ¬ (C : Int) ≤ 244 := by omega
      rw [if_neg (fun h => g4 h.2.1)] at hT
      subst hT
      simp (disch := first | assumption | omega) only [go_sem, Nat.reduceEqDiff, ↓reduceIte, hf, g1', g2', g3', g4']
      exact retC_by (by repeat' (first | exact Drop.refl _ | with_reducible refine Drop.off ?_ (by assumption))) (.refl _) ⟨rfl, rfl⟩
   ·have g1' : ¬ (224 : Int) ≤ C := by omega
    have g3' : ¬ (240 : Int) ≤ C := by omega
    rw [if_neg (fun h => g1 h.1), if_neg (fun h => by omega)] at hT
    subst hT
    simp (disch := first | assumption | omega) only [go_sem, Nat.reduceEqDiff, ↓reduceIte, hf, g1', g3']
    exact retC_by (by repeat' (first | exact Drop.refl _ | with_reducible refine Drop.off ?_ (by assumption))) (.refl _) ⟨rfl, rfl⟩
  have hCw : IntKind.i64.wrap (C : Int) = C := by rw [IntKind.wrap_i64]; omega
  by_cases c1 : C < 128
  ·have c1' : (C : Int) < 128 := by omega
   unfold sigN
   rw [if_pos c1]
   simp (disch := first | assumption | omega) only [go_sem, reduceCtorEq, Nat.reduceEqDiff, ↓reduceIte, hlt', hx, hC, hCw, c1']
   exact retC_by (by repeat' (first | exact Drop.refl _ | with_reducible refine Drop.off ?_ (by assumption))) (.refl _) ⟨rfl, rfl⟩
  have c1' : ¬ (C : Int) < 128 := by omega
  have step2 : ∀ (a1 : AFr), ¬ (194 ≤ C ∧ C ≤ 223 ∧ M1 = true) → (a1 0 = .str s ∧ a1 1 = .int .i64 p ∧ a1 5 = .int .i64 C) → ACode.wp Tryz.prog c18_52 (RetQ [.t 4] fun v σ' => v = .int .i64 (sigN n C b1 b2 b3 : Nat) ∧ σ' = σ) a1 σ := by
   intro a1 hno hf
   have fold : ∀ lo hi : Nat, lo = (if C = 224 then 160 else if C = 240 then 144 else 128) → hi = (if C = 237 then 159 else if C = 244 then 143 else 191) → sigN n C b1 b2 b3 = (if 224 ≤ C ∧ C ≤ 239 ∧ moreP s (p + 1) lo hi = true ∧ M2 = true then 3 else if 240 ≤ C ∧ C ≤ 244 ∧ moreP s (p + 1) lo hi = true ∧ M2 = true ∧ M3 = true then 4 else 0) := by
    intro lo hi hlo hhi
    unfold sigN
    dsimp only
    rw [← hlo, ← hhi, if_neg c1, if_neg (fun h => hno ⟨h.1, h.2.1, m1.2 h.2.2⟩)]
    simp only [mm lo hi, m2, m3]
   by_cases k1 : C = 224
   ·have k1' : (C : Int) = 224 := by omega
    simp (disch := first | assumption | omega) only [go_sem, Nat.reduceEqDiff, Int.reduceEq, ↓reduceIte, hf, k1', ←hF]
    subst k1
    refine tail _ 160 191 _ ?_ (fold 160 191 (by simp) (by simp))
    simp (disch := first | assumption | omega) only [go_sem, reduceCtorEq, Nat.reduceEqDiff, ↓reduceIte, hf]
   have k1' : ¬ (C : Int) = 224 := by omega
   by_cases k2 : C = 240
   ·have k2' : (C : Int) = 240 := by omega
    simp (disch := first | assumption | omega) only [go_sem, Nat.reduceEqDiff, Int.reduceEq, ↓reduceIte, hf, k2', ←hF]
    subst k2
    refine tail _ 144 191 _ ?_ (fold 144 191 (by simp) (by simp))
    simp (disch := first | assumption | omega) only [go_sem, reduceCtorEq, Nat.reduceEqDiff, ↓reduceIte, hf]
   have k2' : ¬ (C : Int) = 240 := by omega
   by_cases k3 : C = 237
   ·have k3' : (C : Int) = 237 := by omega
    simp (disch := first | assumption | omega) only [go_sem, Nat.reduceEqDiff, Int.reduceEq, ↓reduceIte, hf, k3', ←hF]
    subst k3
    refine tail _ 128 159 _ ?_ (fold 128 159 (by simp) (by simp))
    simp (disch := first | assumption | omega) only [go_sem, reduceCtorEq, Nat.reduceEqDiff, ↓reduceIte, hf]
   have k3' : ¬ (C : Int) = 237 := by omega
   by_cases k4 : C = 244
   ·have k4' : (C : Int) = 244 := by omega
    simp (disch := first | assumption | omega) only [go_sem, Nat.reduceEqDiff, Int.reduceEq, ↓reduceIte, hf, k4', ←hF]
    subst k4
    refine tail _ 128 143 _ ?_ (fold 128 143 (by simp) (by simp))
    simp (disch := first | assumption | omega) only [go_sem, reduceCtorEq, Nat.reduceEqDiff, ↓reduceIte, hf]
   have k4' : ¬ (C : Int) = 244 := by omega
   simp (disch := first | assumption | omega) only [go_sem, Nat.reduceEqDiff, ↓reduceIte, hf, k1', k2', k3', k4', ←hF]
   refine tail _ 128 191 _ ?_ (fold 128 191 (by rw [if_neg k1, if_neg k2]) (by rw [if_neg k3, if_neg k4]))
   simp (disch := first | assumption | omega) only [go_sem, reduceCtorEq, Nat.reduceEqDiff, ↓reduceIte, hf]
  obtain ⟨G, hG⟩ : ∃ G, G = ACode.wp Tryz.prog c18_52 := ⟨_, rfl⟩
  rw [← hG] at step2
  by_cases c2 : 194 ≤ C
  ·have c2' : (194 : Int) ≤ C := by omega
   by_cases c3 : C ≤ 223
   ·have c3' : (C : Int) ≤ 223 := by omega
    simp (disch := first | assumption | omega) only [go_sem, reduceCtorEq, Nat.reduceEqDiff, ↓reduceIte, hlt', hx, hC, hCw, c1', c2', c3', ←hG]
    refine q1.use ?_
    cases M1 with
    | true =>
      unfold sigN
      dsimp only
      rw [if_neg c1, if_pos ⟨c2, c3, m1.1 rfl⟩]
      simp (disch := first | assumption | omega) only [go_sem, Nat.reduceEqDiff, ↓reduceIte]
      exact retC_by (by repeat' (first | exact Drop.refl _ | with_reducible refine Drop.off ?_ (by assumption))) (.refl _) ⟨rfl, rfl⟩
    | false =>
      simp (disch := first | assumption | omega) only [go_sem, Nat.reduceEqDiff, ↓reduceIte]
      refine step2 _ (fun h => by cases h.2.2) ?_
      simp (disch := first | assumption | omega) only [go_sem, reduceCtorEq, Nat.reduceEqDiff, ↓reduceIte]
   ·have c3' : ¬ (C : Int) ≤ 223 := by omega
    simp (disch := first | assumption | omega) only [go_sem, reduceCtorEq, Nat.reduceEqDiff, ↓reduceIte, hlt', hx, hC, hCw, c1', c2', c3', ←hG]
    refine step2 _ (fun h => c3 h.2.1) ?_
    simp (disch := first | assumption | omega) only [go_sem, reduceCtorEq, Nat.reduceEqDiff, ↓reduceIte]
  ·have c2' : ¬ (194 : Int) ≤ C := by omega
   simp (disch := first | assumption | omega) only [go_sem, reduceCtorEq, Nat.reduceEqDiff, ↓reduceIte, hlt', hx, hC, hCw, c1', c2', ←hG]
   refine step2 _ (fun h => c2 h.1) ?_
   simp (disch := first | assumption | omega) only [go_sem, reduceCtorEq, Nat.reduceEqDiff, ↓reduceIte]
 ·have hlt' : (s.length : Int) ≤ p := by omega
  rw [List.drop_eq_nil_of_le (by omega)]
  simp (disch := first | assumption | omega) only [go_sem, reduceCtorEq, Nat.reduceEqDiff, ↓reduceIte, hlt']
  exact retC_by (by repeat' (first | exact Drop.refl _ | with_reducible refine Drop.off ?_ (by assumption))) (.refl _) ⟨rfl, rfl⟩
end Go.A
namespace Go.A
open Go.Proofs
/-! 7: tabular/tabularref11.Signs -/
def c7_0 : ACode := .ops [
 ⟨some 2, none, .q (.mv (.v (.int .i64 0))), []⟩,
 ⟨some 3, none, .q (.mv (.v (.bool false))), []⟩]
def c7_1 : ACode := .ops [
 ⟨some 4, none, .q (.mv (.v (.int .i64 0))), []⟩]
def c7_2 : ACode := .ops [
 ⟨some 5, none, .q (.mv (.v (.int .i64 0))), []⟩]
def c7_3 : ACode := .ops [
 ⟨some 7, none, .q (.mv (.t 5)), []⟩,
 ⟨some 8, none, .q (.mv (.t 0)), []⟩,
 ⟨some 9, none, .q (.lenS (.t 8)), []⟩,
 ⟨some 10, none, .q (.bin .lss (.t 7) (.t 9)), []⟩]
def c7_4 : ACode := .cond (.t 10) .skip (.exit 0)
def c7_5 : ACode := .seq c7_3 c7_4
def c7_6 : ACode := .ops [
 ⟨some 11, none, .q (.mv (.t 0)), []⟩,
 ⟨some 12, none, .q (.mv (.t 5)), []⟩,
 ⟨some 13, none, .e (.call 18 [(.t 11), (.t 12)]), []⟩,
 ⟨some 6, none, .q (.mv (.t 13)), []⟩]
def c7_7 : ACode := .ops [
 ⟨some 14, none, .q (.mv (.t 6)), []⟩,
 ⟨some 15, none, .q (.bin .eql (.t 14) (.v (.int .i64 0))), []⟩]
def c7_8 : ACode := .ops [
 ⟨some 2, none, .q (.mv (.v (.int .i64 0))), []⟩,
 ⟨some 3, none, .q (.mv (.v (.bool false))), []⟩]
def c7_9 : ACode := .seq c7_8 .ret
def c7_10 : ACode := .cond (.t 15) c7_9 .skip
def c7_11 : ACode := .seq c7_7 c7_10
def c7_12 : ACode := .ops [
 ⟨some 16, none, .q (.mv (.t 5)), []⟩,
 ⟨some 17, none, .q (.mv (.t 6)), []⟩,
 ⟨some 18, none, .q (.bin .add (.t 16) (.t 17)), []⟩,
 ⟨some 5, none, .q (.mv (.t 18)), []⟩]
def c7_13 : ACode := .ops [
 ⟨some 19, none, .q (.mv (.t 4)), []⟩,
 ⟨some 20, none, .q (.bin .add (.t 19) (.v (.int .i64 1))), []⟩,
 ⟨some 4, none, .q (.mv (.t 20)), []⟩]
def c7_14 : ACode := .seq c7_12 c7_13
def c7_15 : ACode := .seq c7_11 c7_14
def c7_16 : ACode := .seq c7_6 c7_15
def c7_17 : ACode := .block 1 c7_16
def c7_18 : ACode := .seq c7_5 c7_17
def c7_19 : ACode := .loop c7_18
def c7_20 : ACode := .block 0 c7_19
def c7_21 : ACode := .seq c7_2 c7_20
def c7_22 : ACode := .ops [
 ⟨some 21, none, .q (.mv (.t 4)), []⟩,
 ⟨some 2, none, .q (.mv (.t 21)), []⟩,
 ⟨some 3, none, .q (.mv (.v (.bool true))), []⟩]
def c7_23 : ACode := .seq c7_22 .ret
def c7_24 : ACode := .seq c7_21 c7_23
def c7_25 : ACode := .seq c7_1 c7_24
def c7_26 : ACode := .seq c7_0 c7_25
@[go_sem] def c7_0_wp := wp_of c7_0.eq_1
@[go_sem] def c7_1_wp := wp_of c7_1.eq_1
@[go_sem] def c7_2_wp := wp_of c7_2.eq_1
@[go_sem] def c7_3_wp := wp_of c7_3.eq_1
@[go_sem] def c7_4_wp := wp_of c7_4.eq_1
@[go_sem] def c7_5_wp := wp_of c7_5.eq_1
@[go_sem] def c7_6_wp := wp_of c7_6.eq_1
@[go_sem] def c7_7_wp := wp_of c7_7.eq_1
@[go_sem] def c7_8_wp := wp_of c7_8.eq_1
@[go_sem] def c7_9_wp := wp_of c7_9.eq_1
@[go_sem] def c7_10_wp := wp_of c7_10.eq_1
@[go_sem] def c7_11_wp := wp_of c7_11.eq_1
@[go_sem] def c7_12_wp := wp_of c7_12.eq_1
@[go_sem] def c7_13_wp := wp_of c7_13.eq_1
@[go_sem] def c7_14_wp := wp_of c7_14.eq_1
@[go_sem] def c7_15_wp := wp_of c7_15.eq_1
@[go_sem] def c7_16_wp := wp_of c7_16.eq_1
@[go_sem] def c7_17_wp := wp_of c7_17.eq_1
@[go_sem] def c7_18_wp := wp_of c7_18.eq_1
@[go_sem] def c7_19_wp := wp_of c7_19.eq_1
@[go_sem] def c7_20_wp := wp_of c7_20.eq_1
@[go_sem] def c7_21_wp := wp_of c7_21.eq_1
@[go_sem] def c7_22_wp := wp_of c7_22.eq_1
@[go_sem] def c7_23_wp := wp_of c7_23.eq_1
@[go_sem] def c7_24_wp := wp_of c7_24.eq_1
@[go_sem] def c7_25_wp := wp_of c7_25.eq_1
@[go_sem] def c7_26_wp := wp_of c7_26.eq_1
def c7 : AFn := ⟨22, [.t 2, .t 3], c7_26⟩
theorem c7_ok : compF Tryz.prog Tryz.f7 = some c7 := by kernel_rfl
theorem a7 {args : List AV} {σ : ASt} {R : AV → ASt → Prop} (hl : args.length ≤ 22) (h : c7_26.wp Tryz.prog (RetQ [.t 2, .t 3] R) (init args) σ) : ACalls Tryz.prog 7 args σ R := acalls_of Tryz.func7 c7_ok hl h
end Go.A
namespace Go.A
open Go.Proofs Go.Lib
theorem sigL_bad {r : List UInt8} (h0 : r ≠ []) (h : sigL r = 0) : sgT r = none := by
 unfold sigL at h
 rw [if_neg h0] at h
 by_cases hb : decodeL r = (65533, 1)
 ·exact sgT_bad h0 hb
 ·rw [if_neg hb] at h
  have := decodeL_width r
  omega
theorem sigL_step {r : List UInt8} (h0 : r ≠ []) (h : sigL r ≠ 0) : sgT r = (sgT (r.drop (sigL r))).map (· + 1) ∧ sigL r ≤ r.length := by
 unfold sigL at h ⊢
 rw [if_neg h0] at h ⊢
 by_cases hb : decodeL r = (65533, 1)
 ·rw [if_pos hb] at h; exact absurd rfl h
 ·rw [if_neg hb]
  exact ⟨sgT_step h0 hb, decodeL_le r h0⟩
set_option maxHeartbeats 1000000 in
theorem rsigns_ok (s : List UInt8) (hl : s.length ≤ 4611686018427387904) : Pure Tryz.prog 7 [.str s] (sgAV s) := by
 intro σ
 refine a7 (by simp) ?_
 obtain ⟨R, hR⟩ : ∃ R, sgT s = R := ⟨_, rfl⟩
 unfold sgAV
 rw [hR]
 simp (disch := first | assumption | omega) only [go_sem]
 refine wp_loop_on (fun (p : Nat) a s2 => p ≤ s.length ∧ (∃ n : Nat, R = (sgT (s.drop p)).map (· + n) ∧ n ≤ p ∧ a 4 = .int .i64 n) ∧ (a 0 = .str s ∧ a 5 = .int .i64 p) ∧ s2 = σ) (fun p => s.length - p) 0 ⟨Nat.zero_le _, ⟨0, ?_, Nat.le_refl _, ?_⟩, ?_, rfl⟩ ?_
 ·rw [← hR, List.drop_zero]; cases sgT s <;> rfl
 ·simp (disch := first | assumption | omega) only [go_sem, Nat.reduceEqDiff, ↓reduceIte]
 ·simp (disch := first | assumption | omega) only [go_sem, reduceCtorEq, ↓reduceIte]
 rintro p a s2 ⟨hp, ⟨n, hm, hn, h4⟩, hf, rfl⟩
 by_cases hlt : p < s.length
 ·have hlt' : (p : Int) < s.length := by omega
  have hne : s.drop p ≠ [] := by
   intro e
   have := congrArg List.length e
   rw [List.length_drop] at this
   simp at this
   omega
  have hS := rsign_ok s p hp hl
  have hbad := sigL_bad hne
  have hstep := sigL_step hne
  rw [List.length_drop] at hstep
  generalize sigL (s.drop p) = w at *
  by_cases hw : w = 0
  ·have hw' : (w : Int) = 0 := by omega
   rw [hbad hw] at hm
   simp only [Option.map_none] at hm
   subst hm
   simp (disch := first | assumption | omega) only [go_sem, reduceCtorEq, Nat.reduceEqDiff, ↓reduceIte, hf, hlt']
   refine hS.use ?_
   simp (disch := first | assumption | omega) only [go_sem, Nat.reduceEqDiff, ↓reduceIte, hw']
   exact retC_by (by repeat' (first | exact Drop.refl _ | with_reducible refine Drop.off ?_ (by assumption))) (.refl _) ⟨rfl, rfl⟩
  ·have hw' : ¬ (w : Int) = 0 := by omega
   obtain ⟨h1, h2⟩ := hstep hw
   rw [h1, List.drop_drop, Option.map_map] at hm
   simp (disch := first | assumption | omega) only [go_sem, reduceCtorEq, Nat.reduceEqDiff, ↓reduceIte, hf, hlt']
   refine hS.use ?_
   simp (disch := first | assumption | omega) only [go_sem, reduceCtorEq, Nat.reduceEqDiff, ↓reduceIte, hf, h4, hw']
   refine ⟨p + w, by omega, by omega, ⟨n + 1, ?_, by omega, rfl⟩, rfl⟩
   rw [hm]
   congr 1
   funext x
   simp only [Function.comp]
   omega
 ·have hlt' : ¬ (p : Int) < s.length := by omega
  rw [List.drop_eq_nil_of_le (by omega), sgT_nil] at hm
  simp only [Option.map_some, Nat.zero_add] at hm
  subst hm
  simp (disch := first | assumption | omega) only [go_sem, reduceCtorEq, Nat.reduceEqDiff, ↓reduceIte, hf, h4, hlt']
  exact retC_by (by repeat' (first | exact Drop.refl _ | with_reducible refine Drop.off ?_ (by assumption))) (.refl _) ⟨rfl, rfl⟩
end Go.A
namespace Go.A
open Go.Proofs
/-! 11: tabular/value.Show -/
def c11_0 : ACode := .ops [
 ⟨some 2, none, .q (.mv (.v (.str []))), []⟩]
def c11_1 : ACode := .ops [
 ⟨some 8, none, .q (.mv (.t 0)), []⟩,
 ⟨some 9, none, .e (.call 14 [(.t 8)]), []⟩,
 ⟨some 7, none, .q (.mv (.t 9)), []⟩,
 ⟨some 10, none, .q (.ext 0 (.t 7)), []⟩,
 ⟨some 11, none, .q (.ext 1 (.t 7)), []⟩,
 ⟨some 3, none, .q (.mv (.t 10)), []⟩,
 ⟨some 4, none, .q (.mv (.t 11)), []⟩]
def c11_2 : ACode := .ops [
 ⟨some 12, none, .q (.mv (.t 4)), []⟩]
def c11_3 : ACode := .ops [
 ⟨some 13, none, .e (.call 21 []), []⟩,
 ⟨some 14, none, .q (.mv (.t 3)), []⟩,
 ⟨some 15, none, .q (.bin .sub (.t 14) (.v (.int .i64 1))), []⟩,
 ⟨some 16, none, .q (.ia 1 (.t 13) (.t 15)), []⟩,
 ⟨some 17, none, .q (.ld none (.t 16)), []⟩,
 ⟨some 2, none, .q (.mv (.t 17)), []⟩]
def c11_4 : ACode := .seq c11_3 .ret
def c11_5 : ACode := .cond (.t 12) c11_4 .skip
def c11_6 : ACode := .seq c11_2 c11_5
def c11_7 : ACode := .seq c11_1 c11_6
def c11_8 : ACode := .ops [
 ⟨some 19, none, .q (.mv (.t 0)), []⟩,
 ⟨some 20, none, .e (.call 15 [(.t 19)]), []⟩,
 ⟨some 18, none, .q (.mv (.t 20)), []⟩,
 ⟨some 21, none, .q (.ext 0 (.t 18)), []⟩,
 ⟨some 22, none, .q (.ext 1 (.t 18)), []⟩,
 ⟨some 5, none, .q (.mv (.t 21)), []⟩,
 ⟨some 6, none, .q (.mv (.t 22)), []⟩]
def c11_9 : ACode := .ops [
 ⟨some 23, none, .q (.mv (.t 5)), []⟩,
 ⟨some 2, none, .q (.mv (.t 23)), []⟩]
def c11_10 : ACode := .seq c11_9 .ret
def c11_11 : ACode := .seq c11_8 c11_10
def c11_12 : ACode := .seq c11_7 c11_11
def c11_13 : ACode := .seq c11_0 c11_12
@[go_sem] def c11_0_wp := wp_of c11_0.eq_1
@[go_sem] def c11_1_wp := wp_of c11_1.eq_1
@[go_sem] def c11_2_wp := wp_of c11_2.eq_1
@[go_sem] def c11_3_wp := wp_of c11_3.eq_1
@[go_sem] def c11_4_wp := wp_of c11_4.eq_1
@[go_sem] def c11_5_wp := wp_of c11_5.eq_1
@[go_sem] def c11_6_wp := wp_of c11_6.eq_1
@[go_sem] def c11_7_wp := wp_of c11_7.eq_1
@[go_sem] def c11_8_wp := wp_of c11_8.eq_1
@[go_sem] def c11_9_wp := wp_of c11_9.eq_1
@[go_sem] def c11_10_wp := wp_of c11_10.eq_1
@[go_sem] def c11_11_wp := wp_of c11_11.eq_1
@[go_sem] def c11_12_wp := wp_of c11_12.eq_1
@[go_sem] def c11_13_wp := wp_of c11_13.eq_1
def c11 : AFn := ⟨24, [.t 2], c11_13⟩
theorem c11_ok : compF Tryz.prog Tryz.f11 = some c11 := by kernel_rfl
theorem a11 {args : List AV} {σ : ASt} {R : AV → ASt → Prop} (hl : args.length ≤ 24) (h : c11_13.wp Tryz.prog (RetQ [.t 2] R) (init args) σ) : ACalls Tryz.prog 11 args σ R := acalls_of Tryz.func11 c11_ok hl h
end Go.A
namespace Go.A
open Go.Proofs
/-! 15: tabular/value.AsText -/
def c15_0 : ACode := .ops [
 ⟨some 2, none, .q (.mv (.v (.str []))), []⟩,
 ⟨some 3, none, .q (.mv (.v (.int .i64 0))), []⟩]
def c15_1 : ACode := .ops [
 ⟨some 8, none, .q (.mv (.t 0)), []⟩]
def c15_2 : ACode := .ops [
 ⟨some 9, none, .q (.ta 56 (.int .i64 0) true (.t 8)), []⟩,
 ⟨some 10, none, .q (.ext 1 (.t 9)), []⟩,
 ⟨some 11, none, .q (.ext 0 (.t 9)), []⟩]
def c15_3 : ACode := .ops [
 ⟨some 4, none, .q (.mv (.t 11)), []⟩]
def c15_4 : ACode := .ops [
 ⟨some 12, none, .q (.mv (.t 4)), []⟩,
 ⟨some 13, none, .e (.call 24 [(.t 12)]), []⟩,
 ⟨some 2, none, .q (.mv (.t 13)), []⟩,
 ⟨some 3, none, .q (.mv (.v (.int .i64 0))), []⟩]
def c15_5 : ACode := .seq c15_4 .ret
def c15_6 : ACode := .seq c15_3 c15_5
def c15_7 : ACode := .ops [
 ⟨some 14, none, .q (.ta 66 (.bool false) true (.t 8)), []⟩,
 ⟨some 15, none, .q (.ext 1 (.t 14)), []⟩,
 ⟨some 16, none, .q (.ext 0 (.t 14)), []⟩]
def c15_8 : ACode := .ops [
 ⟨some 5, none, .q (.mv (.t 16)), []⟩]
def c15_9 : ACode := .ops [
 ⟨some 17, none, .q (.mv (.t 5)), []⟩]
def c15_10 : ACode := .ops [
 ⟨some 2, none, .q (.mv (.v (.str [84, 82, 85, 69]))), []⟩,
 ⟨some 3, none, .q (.mv (.v (.int .i64 0))), []⟩]
def c15_11 : ACode := .seq c15_10 .ret
def c15_12 : ACode := .cond (.t 17) c15_11 .skip
def c15_13 : ACode := .seq c15_9 c15_12
def c15_14 : ACode := .ops [
 ⟨some 2, none, .q (.mv (.v (.str [70, 65, 76, 83, 69]))), []⟩,
 ⟨some 3, none, .q (.mv (.v (.int .i64 0))), []⟩]
def c15_15 : ACode := .seq c15_14 .ret
def c15_16 : ACode := .seq c15_13 c15_15
def c15_17 : ACode := .seq c15_8 c15_16
def c15_18 : ACode := .ops [
 ⟨some 18, none, .q (.ta 30 (.str []) true (.t 8)), []⟩,
 ⟨some 19, none, .q (.ext 1 (.t 18)), []⟩,
 ⟨some 20, none, .q (.ext 0 (.t 18)), []⟩]
def c15_19 : ACode := .ops [
 ⟨some 6, none, .q (.mv (.t 20)), []⟩]
def c15_20 : ACode := .ops [
 ⟨some 21, none, .q (.mv (.t 6)), []⟩,
 ⟨some 2, none, .q (.mv (.t 21)), []⟩,
 ⟨some 3, none, .q (.mv (.v (.int .i64 0))), []⟩]
def c15_21 : ACode := .seq c15_20 .ret
def c15_22 : ACode := .seq c15_19 c15_21
def c15_23 : ACode := .ops [
 ⟨some 22, none, .q (.ta 39 (.int .i64 0) true (.t 8)), []⟩,
 ⟨some 23, none, .q (.ext 1 (.t 22)), []⟩,
 ⟨some 24, none, .q (.ext 0 (.t 22)), []⟩]
def c15_24 : ACode := .ops [
 ⟨some 7, none, .q (.mv (.t 24)), []⟩]
def c15_25 : ACode := .ops [
 ⟨some 25, none, .q (.mv (.t 7)), []⟩,
 ⟨some 2, none, .q (.mv (.v (.str []))), []⟩,
 ⟨some 3, none, .q (.mv (.t 25)), []⟩]
def c15_26 : ACode := .seq c15_25 .ret
def c15_27 : ACode := .seq c15_24 c15_26
def c15_28 : ACode := .cond (.t 23) c15_27 .skip
def c15_29 : ACode := .seq c15_23 c15_28
def c15_30 : ACode := .cond (.t 19) c15_22 c15_29
def c15_31 : ACode := .seq c15_18 c15_30
def c15_32 : ACode := .cond (.t 15) c15_17 c15_31
def c15_33 : ACode := .seq c15_7 c15_32
def c15_34 : ACode := .cond (.t 10) c15_6 c15_33
def c15_35 : ACode := .seq c15_2 c15_34
def c15_36 : ACode := .block 0 c15_35
def c15_37 : ACode := .seq c15_1 c15_36
def c15_38 : ACode := .ops [
 ⟨some 2, none, .q (.mv (.v (.str []))), []⟩,
 ⟨some 3, none, .q (.mv (.v (.int .i64 0))), []⟩]
def c15_39 : ACode := .seq c15_38 .ret
def c15_40 : ACode := .seq c15_37 c15_39
def c15_41 : ACode := .seq c15_0 c15_40
@[go_sem] def c15_0_wp := wp_of c15_0.eq_1
@[go_sem] def c15_1_wp := wp_of c15_1.eq_1
@[go_sem] def c15_2_wp := wp_of c15_2.eq_1
@[go_sem] def c15_3_wp := wp_of c15_3.eq_1
@[go_sem] def c15_4_wp := wp_of c15_4.eq_1
@[go_sem] def c15_5_wp := wp_of c15_5.eq_1
@[go_sem] def c15_6_wp := wp_of c15_6.eq_1
@[go_sem] def c15_7_wp := wp_of c15_7.eq_1
@[go_sem] def c15_8_wp := wp_of c15_8.eq_1
@[go_sem] def c15_9_wp := wp_of c15_9.eq_1
@[go_sem] def c15_10_wp := wp_of c15_10.eq_1
@[go_sem] def c15_11_wp := wp_of c15_11.eq_1
@[go_sem] def c15_12_wp := wp_of c15_12.eq_1
@[go_sem] def c15_13_wp := wp_of c15_13.eq_1
@[go_sem] def c15_14_wp := wp_of c15_14.eq_1
@[go_sem] def c15_15_wp := wp_of c15_15.eq_1
@[go_sem] def c15_16_wp := wp_of c15_16.eq_1
@[go_sem] def c15_17_wp := wp_of c15_17.eq_1
@[go_sem] def c15_18_wp := wp_of c15_18.eq_1
@[go_sem] def c15_19_wp := wp_of c15_19.eq_1
@[go_sem] def c15_20_wp := wp_of c15_20.eq_1
@[go_sem] def c15_21_wp := wp_of c15_21.eq_1
@[go_sem] def c15_22_wp := wp_of c15_22.eq_1
@[go_sem] def c15_23_wp := wp_of c15_23.eq_1
@[go_sem] def c15_24_wp := wp_of c15_24.eq_1
@[go_sem] def c15_25_wp := wp_of c15_25.eq_1
@[go_sem] def c15_26_wp := wp_of c15_26.eq_1
@[go_sem] def c15_27_wp := wp_of c15_27.eq_1
@[go_sem] def c15_28_wp := wp_of c15_28.eq_1
@[go_sem] def c15_29_wp := wp_of c15_29.eq_1
@[go_sem] def c15_30_wp := wp_of c15_30.eq_1
@[go_sem] def c15_31_wp := wp_of c15_31.eq_1
@[go_sem] def c15_32_wp := wp_of c15_32.eq_1
@[go_sem] def c15_33_wp := wp_of c15_33.eq_1
@[go_sem] def c15_34_wp := wp_of c15_34.eq_1
@[go_sem] def c15_35_wp := wp_of c15_35.eq_1
@[go_sem] def c15_36_wp := wp_of c15_36.eq_1
@[go_sem] def c15_37_wp := wp_of c15_37.eq_1
@[go_sem] def c15_38_wp := wp_of c15_38.eq_1
@[go_sem] def c15_39_wp := wp_of c15_39.eq_1
@[go_sem] def c15_40_wp := wp_of c15_40.eq_1
@[go_sem] def c15_41_wp := wp_of c15_41.eq_1
def c15 : AFn := ⟨26, [.t 2, .t 3], c15_41⟩
theorem c15_ok : compF Tryz.prog Tryz.f15 = some c15 := by kernel_rfl
theorem a15 {args : List AV} {σ : ASt} {R : AV → ASt → Prop} (hl : args.length ≤ 26) (h : c15_41.wp Tryz.prog (RetQ [.t 2, .t 3] R) (init args) σ) : ACalls Tryz.prog 15 args σ R := acalls_of Tryz.func15 c15_ok hl h
/-! 54: tabular/value.Join -/
end Go.A
namespace Go.A
open Go.Proofs Go.Lib
def PV.good : PV → Prop
 | .num n => n.natAbs ≤ 999999999999999999
 | .fail n => 1 ≤ n ∧ n ≤ 7
 | _ => True
def asTextP : PV → List UInt8 × Int
 | .blank => ([], 0)
 | .num n => (textD n, 0)
 | .text s => (s, 0)
 | .bool b => (if b = true then [84, 82, 85, 69] else [70, 65, 76, 83, 69], 0)
 | .fail f => ([], f)
theorem asText_ok {σ : ASt} (hT : Tab σ) (v : PV) (hv : v.good) : ACalls Tryz.prog 15 [v.av] σ fun r σ' => r = .tuple [.str (asTextP v).1, .int .i64 (asTextP v).2] ∧ σ' = σ := by
 refine a15 (by simp) ?_
 cases v with
 | num n =>
   have hD := dtext_ok hT hv
   simp only [PV.av, asTextP]
   simp (disch := first | assumption | omega) only [go_sem, reduceCtorEq, Nat.reduceEqDiff, ↓reduceIte]
   refine hD.mono ?_
   rintro v σ' ⟨rfl, rfl⟩
   simp (disch := first | assumption | omega) only [go_sem, Nat.reduceEqDiff, ↓reduceIte]
   exact retC_by (by repeat' (first | exact Drop.refl _ | with_reducible refine Drop.off ?_ (by assumption))) (.refl _) ⟨rfl, rfl⟩
 | bool b =>
   cases b <;> simp only [PV.av, asTextP] <;> simp (disch := first | assumption | omega) only [go_sem, reduceCtorEq, Nat.reduceEqDiff, ↓reduceIte]
   all_goals exact retC_by (by repeat' (first | exact Drop.refl _ | with_reducible refine Drop.off ?_ (by assumption))) (.refl _) ⟨rfl, rfl⟩
 | blank =>
   simp only [PV.av, asTextP]
   simp (disch := first | assumption | omega) only [go_sem, reduceCtorEq, Nat.reduceEqDiff, ↓reduceIte]
   exact retC_by (by repeat' (first | exact Drop.refl _ | with_reducible refine Drop.off ?_ (by assumption))) (.refl _) ⟨rfl, rfl⟩
 | text s =>
   simp only [PV.av, asTextP]
   simp (disch := first | assumption | omega) only [go_sem, reduceCtorEq, Nat.reduceEqDiff, ↓reduceIte]
   exact retC_by (by repeat' (first | exact Drop.refl _ | with_reducible refine Drop.off ?_ (by assumption))) (.refl _) ⟨rfl, rfl⟩
 | fail s =>
   simp only [PV.av, asTextP]
   simp (disch := first | assumption | omega) only [go_sem, reduceCtorEq, Nat.reduceEqDiff, ↓reduceIte]
   exact retC_by (by repeat' (first | exact Drop.refl _ | with_reducible refine Drop.off ?_ (by assumption))) (.refl _) ⟨rfl, rfl⟩
end Go.A
namespace Go.A
open Go.Proofs
/-! 37: tabular/texts.sides -/
def c37_0 : ACode := .ops [
 ⟨some 6, none, .q (.mv (.v .nili)), []⟩]
def c37_1 : ACode := .ops [
 ⟨some 7, none, .q (.mv (.t 2)), []⟩,
 ⟨some 8, none, .q (.bin .lss (.t 7) (.v (.int .i64 0))), []⟩]
def c37_2 : ACode := .ops [
 ⟨some 9, none, .q (.mki 39 (.v (.int .i64 3))), []⟩,
 ⟨some 6, none, .q (.mv (.t 9)), []⟩]
def c37_3 : ACode := .seq c37_2 .ret
def c37_4 : ACode := .cond (.t 8) c37_3 .skip
def c37_5 : ACode := .seq c37_1 c37_4
def c37_6 : ACode := .ops [
 ⟨some 10, none, .q (.mv (.t 0)), []⟩,
 ⟨some 11, none, .q (.bin .eql (.t 10) (.v (.str [76, 69, 70, 84]))), []⟩]
def c37_7 : ACode := .ops [
 ⟨some 12, none, .q (.mv (.t 1)), []⟩,
 ⟨some 13, none, .q (.mv (.t 2)), []⟩,
 ⟨some 14, none, .e (.call 38 [(.t 12), (.v (.int .i64 0)), (.t 13)]), []⟩,
 ⟨some 15, none, .q (.mki 30 (.t 14)), []⟩,
 ⟨some 6, none, .q (.mv (.t 15)), []⟩]
def c37_8 : ACode := .seq c37_7 .ret
def c37_9 : ACode := .cond (.t 11) c37_8 .skip
def c37_10 : ACode := .seq c37_6 c37_9
def c37_11 : ACode := .ops [
 ⟨some 16, none, .q (.mv (.t 1)), []⟩,
 ⟨some 17, none, .q (.mv (.t 1)), []⟩,
 ⟨some 18, none, .q (.mv (.t 1)), []⟩,
 ⟨some 19, none, .e (.call 59 [(.t 18)]), []⟩,
 ⟨some 20, none, .q (.mv (.t 2)), []⟩,
 ⟨some 21, none, .q (.bin .sub (.t 19) (.t 20)), []⟩,
 ⟨some 22, none, .q (.mnx true (.t 21) (.v (.int .i64 0))), []⟩,
 ⟨some 23, none, .e (.call 58 [(.t 17), (.t 22)]), []⟩,
 ⟨some 24, none, .q (.slfrom (true, 0) (.t 16) (.t 23)), []⟩,
 ⟨some 25, none, .q (.mki 30 (.t 24)), []⟩,
 ⟨some 6, none, .q (.mv (.t 25)), []⟩]
def c37_12 : ACode := .seq c37_11 .ret
def c37_13 : ACode := .seq c37_10 c37_12
def c37_14 : ACode := .seq c37_5 c37_13
def c37_15 : ACode := .seq c37_0 c37_14
@[go_sem] def c37_0_wp := wp_of c37_0.eq_1
@[go_sem] def c37_1_wp := wp_of c37_1.eq_1
@[go_sem] def c37_2_wp := wp_of c37_2.eq_1
@[go_sem] def c37_3_wp := wp_of c37_3.eq_1
@[go_sem] def c37_4_wp := wp_of c37_4.eq_1
@[go_sem] def c37_5_wp := wp_of c37_5.eq_1
@[go_sem] def c37_6_wp := wp_of c37_6.eq_1
@[go_sem] def c37_7_wp := wp_of c37_7.eq_1
@[go_sem] def c37_8_wp := wp_of c37_8.eq_1
@[go_sem] def c37_9_wp := wp_of c37_9.eq_1
@[go_sem] def c37_10_wp := wp_of c37_10.eq_1
@[go_sem] def c37_11_wp := wp_of c37_11.eq_1
@[go_sem] def c37_12_wp := wp_of c37_12.eq_1
@[go_sem] def c37_13_wp := wp_of c37_13.eq_1
@[go_sem] def c37_14_wp := wp_of c37_14.eq_1
@[go_sem] def c37_15_wp := wp_of c37_15.eq_1
def c37 : AFn := ⟨26, [.t 6], c37_15⟩
theorem c37_ok : compF Tryz.prog Tryz.f37 = some c37 := by kernel_rfl
theorem a37 {args : List AV} {σ : ASt} {R : AV → ASt → Prop} (hl : args.length ≤ 26) (h : c37_15.wp Tryz.prog (RetQ [.t 6] R) (init args) σ) : ACalls Tryz.prog 37 args σ R := acalls_of Tryz.func37 c37_ok hl h
/-! 38: tabular/texts.part -/
def c38_0 : ACode := .ops [
 ⟨some 6, none, .q (.mv (.v (.str []))), []⟩]
def c38_1 : ACode := .ops [
 ⟨some 7, none, .q (.mv (.t 0)), []⟩,
 ⟨some 8, none, .q (.mv (.t 0)), []⟩,
 ⟨some 9, none, .q (.mv (.t 1)), []⟩,
 ⟨some 10, none, .e (.call 58 [(.t 8), (.t 9)]), []⟩,
 ⟨some 11, none, .q (.slfrom (true, 0) (.t 7) (.t 10)), []⟩,
 ⟨some 0, none, .q (.mv (.t 11)), []⟩]
def c38_2 : ACode := .ops [
 ⟨some 12, none, .q (.mv (.t 0)), []⟩,
 ⟨some 13, none, .q (.mv (.t 0)), []⟩,
 ⟨some 14, none, .q (.mv (.t 2)), []⟩,
 ⟨some 15, none, .e (.call 58 [(.t 13), (.t 14)]), []⟩,
 ⟨some 16, none, .q (.slto (true, 0) (.t 12) (.t 15)), []⟩,
 ⟨some 6, none, .q (.mv (.t 16)), []⟩]
def c38_3 : ACode := .seq c38_2 .ret
def c38_4 : ACode := .seq c38_1 c38_3
def c38_5 : ACode := .seq c38_0 c38_4
@[go_sem] def c38_0_wp := wp_of c38_0.eq_1
@[go_sem] def c38_1_wp := wp_of c38_1.eq_1
@[go_sem] def c38_2_wp := wp_of c38_2.eq_1
@[go_sem] def c38_3_wp := wp_of c38_3.eq_1
@[go_sem] def c38_4_wp := wp_of c38_4.eq_1
@[go_sem] def c38_5_wp := wp_of c38_5.eq_1
def c38 : AFn := ⟨17, [.t 6], c38_5⟩
theorem c38_ok : compF Tryz.prog Tryz.f38 = some c38 := by kernel_rfl
theorem a38 {args : List AV} {σ : ASt} {R : AV → ASt → Prop} (hl : args.length ≤ 17) (h : c38_5.wp Tryz.prog (RetQ [.t 6] R) (init args) σ) : ACalls Tryz.prog 38 args σ R := acalls_of Tryz.func38 c38_ok hl h
/-! 67: tabular/texts.lower -/
def c67_0 : ACode := .ops [
 ⟨some 2, none, .q (.mv (.v (.str []))), []⟩]
def c67_1 : ACode := .ops [
 ⟨some 6, none, .q (.mv (.t 0)), []⟩,
 ⟨some 7, none, .e (.s2b (.t 6)), []⟩,
 ⟨some 3, none, .q (.mv (.t 7)), []⟩]
def c67_2 : ACode := .ops [
 ⟨some 8, none, .q (.mv (.t 3)), []⟩,
 ⟨some 9, none, .q (.len (.t 8)), []⟩,
 ⟨some 10, none, .q (.mv (.v (.int .i64 0))), []⟩]
def c67_3 : ACode := .ops [
 ⟨some 11, none, .q (.bin .lss (.t 10) (.t 9)), []⟩]
def c67_4 : ACode := .cond (.t 11) .skip (.exit 0)
def c67_5 : ACode := .ops [
 ⟨some 12, none, .q (.mv (.t 10)), []⟩,
 ⟨some 13, none, .q (.ia 1 (.t 8) (.t 10)), []⟩,
 ⟨some 14, none, .q (.ld none (.t 13)), []⟩,
 ⟨some 4, none, .q (.mv (.t 12)), []⟩,
 ⟨some 5, none, .q (.mv (.t 14)), []⟩]
def c67_6 : ACode := .ops [
 ⟨some 15, none, .q (.mv (.t 5)), []⟩,
 ⟨some 16, none, .q (.bin .geq (.t 15) (.v (.int .u8 65))), []⟩,
 ⟨some 17, none, .q (.mv (.t 16)), []⟩,
 ⟨some 18, some (17, true), .q (.mv (.t 5)), []⟩,
 ⟨some 19, some (17, true), .q (.bin .leq (.t 18) (.v (.int .u8 90))), []⟩,
 ⟨some 20, none, .q (.pick (.t 17) (.t 19) (.v (.bool false))), []⟩]
def c67_7 : ACode := .ops [
 ⟨some 21, none, .q (.mv (.t 3)), []⟩,
 ⟨some 22, none, .q (.mv (.t 4)), []⟩,
 ⟨some 23, none, .q (.mv (.t 5)), []⟩,
 ⟨some 24, none, .q (.bin .add (.t 23) (.v (.int .u8 32))), []⟩,
 ⟨some 25, none, .q (.ia 1 (.t 21) (.t 22)), []⟩,
 ⟨none, none, .e (.store 1 (.t 25) (.t 24)), []⟩]
def c67_8 : ACode := .cond (.t 20) c67_7 .skip
def c67_9 : ACode := .seq c67_6 c67_8
def c67_10 : ACode := .seq c67_5 c67_9
def c67_11 : ACode := .block 1 c67_10
def c67_12 : ACode := .ops [
 ⟨some 26, none, .q (.bin .add (.t 10) (.v (.int .i64 1))), []⟩,
 ⟨some 10, none, .q (.mv (.t 26)), []⟩]
def c67_13 : ACode := .seq c67_11 c67_12
def c67_14 : ACode := .seq c67_4 c67_13
def c67_15 : ACode := .seq c67_3 c67_14
def c67_16 : ACode := .loop c67_15
def c67_17 : ACode := .block 0 c67_16
def c67_18 : ACode := .seq c67_2 c67_17
def c67_19 : ACode := .ops [
 ⟨some 27, none, .q (.mv (.t 3)), []⟩,
 ⟨some 28, none, .q (.b2s (.t 27)), []⟩,
 ⟨some 2, none, .q (.mv (.t 28)), []⟩]
def c67_20 : ACode := .seq c67_19 .ret
def c67_21 : ACode := .seq c67_18 c67_20
def c67_22 : ACode := .seq c67_1 c67_21
def c67_23 : ACode := .seq c67_0 c67_22
@[go_sem] def c67_0_wp := wp_of c67_0.eq_1
@[go_sem] def c67_1_wp := wp_of c67_1.eq_1
@[go_sem] def c67_2_wp := wp_of c67_2.eq_1
@[go_sem] def c67_3_wp := wp_of c67_3.eq_1
@[go_sem] def c67_4_wp := wp_of c67_4.eq_1
@[go_sem] def c67_5_wp := wp_of c67_5.eq_1
@[go_sem] def c67_6_wp := wp_of c67_6.eq_1
@[go_sem] def c67_7_wp := wp_of c67_7.eq_1
@[go_sem] def c67_8_wp := wp_of c67_8.eq_1
@[go_sem] def c67_9_wp := wp_of c67_9.eq_1
@[go_sem] def c67_10_wp := wp_of c67_10.eq_1
@[go_sem] def c67_11_wp := wp_of c67_11.eq_1
@[go_sem] def c67_12_wp := wp_of c67_12.eq_1
@[go_sem] def c67_13_wp := wp_of c67_13.eq_1
@[go_sem] def c67_14_wp := wp_of c67_14.eq_1
@[go_sem] def c67_15_wp := wp_of c67_15.eq_1
@[go_sem] def c67_16_wp := wp_of c67_16.eq_1
@[go_sem] def c67_17_wp := wp_of c67_17.eq_1
@[go_sem] def c67_18_wp := wp_of c67_18.eq_1
@[go_sem] def c67_19_wp := wp_of c67_19.eq_1
@[go_sem] def c67_20_wp := wp_of c67_20.eq_1
@[go_sem] def c67_21_wp := wp_of c67_21.eq_1
@[go_sem] def c67_22_wp := wp_of c67_22.eq_1
@[go_sem] def c67_23_wp := wp_of c67_23.eq_1
def c67 : AFn := ⟨29, [.t 2], c67_23⟩
theorem c67_ok : compF Tryz.prog Tryz.f67 = some c67 := by kernel_rfl
theorem a67 {args : List AV} {σ : ASt} {R : AV → ASt → Prop} (hl : args.length ≤ 29) (h : c67_23.wp Tryz.prog (RetQ [.t 2] R) (init args) σ) : ACalls Tryz.prog 67 args σ R := acalls_of Tryz.func67 c67_ok hl h
/-! 88: tabular/texts.letter -/
def c88_0 : ACode := .ops [
 ⟨some 2, none, .q (.mv (.v (.bool false))), []⟩]
def c88_1 : ACode := .ops [
 ⟨some 3, none, .q (.mv (.t 0)), []⟩,
 ⟨some 4, none, .q (.bin .geq (.t 3) (.v (.int .i32 65))), []⟩,
 ⟨some 5, none, .q (.mv (.t 4)), []⟩,
 ⟨some 6, some (5, true), .q (.mv (.t 0)), []⟩,
 ⟨some 7, some (5, true), .q (.bin .leq (.t 6) (.v (.int .i32 90))), []⟩,
 ⟨some 8, none, .q (.pick (.t 5) (.t 7) (.v (.bool false))), []⟩,
 ⟨some 9, none, .q (.mv (.t 8)), []⟩,
 ⟨some 10, some (9, false), .q (.mv (.t 0)), []⟩,
 ⟨some 11, some (9, false), .q (.bin .geq (.t 10) (.v (.int .i32 97))), []⟩,
 ⟨some 12, some (9, false), .q (.mv (.t 11)), []⟩,
 ⟨some 13, some (12, true), .q (.mv (.t 0)), []⟩,
 ⟨some 14, some (12, true), .q (.bin .leq (.t 13) (.v (.int .i32 122))), []⟩,
 ⟨some 15, some (9, false), .q (.pick (.t 12) (.t 14) (.v (.bool false))), []⟩,
 ⟨some 16, none, .q (.pick (.t 9) (.v (.bool true)) (.t 15)), []⟩,
 ⟨some 2, none, .q (.mv (.t 16)), []⟩]
def c88_2 : ACode := .seq c88_1 .ret
def c88_3 : ACode := .seq c88_0 c88_2
@[go_sem] def c88_0_wp := wp_of c88_0.eq_1
@[go_sem] def c88_1_wp := wp_of c88_1.eq_1
@[go_sem] def c88_2_wp := wp_of c88_2.eq_1
@[go_sem] def c88_3_wp := wp_of c88_3.eq_1
def c88 : AFn := ⟨17, [.t 2], c88_3⟩
theorem c88_ok : compF Tryz.prog Tryz.f88 = some c88 := by kernel_rfl
theorem a88 {args : List AV} {σ : ASt} {R : AV → ASt → Prop} (hl : args.length ≤ 17) (h : c88_3.wp Tryz.prog (RetQ [.t 2] R) (init args) σ) : ACalls Tryz.prog 88 args σ R := acalls_of Tryz.func88 c88_ok hl h
end Go.A
namespace Go.A
open Go.Proofs Go.Lib
def smallC (c : UInt8) : UInt8 := if 65 ≤ c.toNat ∧ c.toNat ≤ 90 then UInt8.ofNat (c.toNat + 32) else c
def smallP (l : List UInt8) : List UInt8 := l.map smallC
theorem smallP_len (l : List UInt8) : (smallP l).length = l.length := by simp [smallP]
theorem xlower_ok (l : List UInt8) (hl : l.length < 4611686018427387904) : Pure Tryz.prog 67 [.str l] (.str (smallP l)) := by
 intro σ
 refine a67 (by simp) ?_
 simp (disch := first | assumption | omega) only [go_sem, reduceCtorEq, ↓reduceIte]
 refine s2b_own fun b cp hb hcp => ?_
 simp (disch := first | assumption | omega) only [go_sem, ↓reduceIte]
 refine wp_loop_on (fun (i : Nat) a σ' => i ≤ l.length ∧ (a 3 = .msl b 0 l.length cp ∧ a 8 = .msl b 0 l.length cp ∧ a 9 = .int .i64 l.length ∧ a 10 = .int .i64 i) ∧ σ' = σ.set b (some (.obj (bytesAV (smallP (l.take i) ++ l.drop i)))))
  (fun i => l.length - i) 0 ⟨Nat.zero_le _, ?_, by simp [smallP]⟩ ?_
 ·simp (disch := first | assumption | omega) only [go_sem, Nat.reduceEqDiff, ↓reduceIte]
 rintro i a σ1 ⟨hi, hf, rfl⟩
 obtain ⟨m, hm⟩ : ∃ m, smallP (l.take i) ++ l.drop i = m := ⟨_, rfl⟩
 have hml : m.length = l.length := by rw [← hm]; simp [smallP]; omega
 have hgl : (smallP (l.take i)).length = i := by simp [smallP]; omega
 rw [hm]
 by_cases hlt : i < l.length
 ·have hidx : m[i]? = some (l[i]'hlt) := by rw [← hm, List.getElem?_append_right (by omega), hgl]; simp
  obtain ⟨c, hc⟩ : ∃ c, l[i]'hlt = c := ⟨_, rfl⟩
  rw [hc] at hidx
  have hcb := u8_lt c
  have hi2 : (i : Int) < l.length := by omega
  have hle : i + 1 ≤ m.length := by omega
  have hnext : smallP (l.take (i + 1)) ++ l.drop (i + 1) = m.set i (smallC c) := by
   rw [← hm, List.take_succ_eq_append_getElem hlt, hc, List.set_append_right _ _ (by omega), hgl, Nat.sub_self]
   simp only [smallP, List.map_append, List.map_cons, List.map_nil, List.append_assoc, List.singleton_append]
   rw [List.drop_eq_getElem_cons hlt]
   rfl
  by_cases hg : 65 ≤ c.toNat ∧ c.toNat ≤ 90
  ·have g1 : (65 : Int) ≤ c.toNat := by omega
   have g2 : (c.toNat : Int) ≤ 90 := by omega
   have hgc : smallC c = UInt8.ofNat (c.toNat + 32) := by unfold smallC; rw [if_pos hg]
   have hw := set_bytes (l := m) (i := i) (m := (c.toNat : Int) + 32) (by omega)
   have hw0 : (c.toNat : Int) + 32 = ((UInt8.ofNat (c.toNat + 32)).toNat : Int) := by rw [u8_nat (by omega)]; omega
   rw [hw0, bytes_set] at hw
   simp (disch := first | assumption | omega) only [go_sem, Nat.reduceEqDiff, ↓reduceIte, Nat.mul_one, Bool.true_and, hf, hi2, hidx, g1, g2, hle, hw0, hw]
   refine ⟨i + 1, by omega, by omega, ?_, by rw [hnext, hgc]⟩
   simp (disch := first | assumption | omega) only [go_sem]
  ·have hgc : smallC c = c := by unfold smallC; rw [if_neg hg]
   have hms : m.set i c = m := by
    apply List.ext_getElem?
    intro j
    rw [List.getElem?_set]
    split
    ·rename_i h; subst h; rw [hidx]; split <;> first | rfl | omega
    ·rfl
   by_cases g1 : (65 : Int) ≤ c.toNat
   ·have g2 : ¬ (c.toNat : Int) ≤ 90 := by omega
    simp (disch := first | assumption | omega) only [go_sem, Nat.reduceEqDiff, ↓reduceIte, Nat.mul_one, hf, hi2, hidx, g1, g2]
    refine ⟨i + 1, by omega, by omega, ?_, by rw [hnext, hgc, hms]⟩
    simp (disch := first | assumption | omega) only [go_sem]
   ·simp (disch := first | assumption | omega) only [go_sem, Nat.reduceEqDiff, ↓reduceIte, Nat.mul_one, hf, hi2, hidx, g1]
    refine ⟨i + 1, by omega, by omega, ?_, by rw [hnext, hgc, hms]⟩
    simp (disch := first | assumption | omega) only [go_sem]
 ·have e : smallP (l.take i) ++ l.drop i = smallP l := by rw [List.take_of_length_le (by omega), List.drop_of_length_le (by omega), List.append_nil]
  have hi2 : ¬ (i : Int) < l.length := by omega
  rw [e] at hm
  subst hm
  have hb2 : bytesOf ((bytesAV (smallP l)).take l.length) = some (smallP l) := by
   rw [List.take_of_length_le (by simp [bytesAV, smallP])]
   exact bytesOf_bytesAV _
  simp (disch := first | assumption | omega) only [go_sem, Nat.reduceEqDiff, ↓reduceIte, hf, hi2, hml, hb2, Nat.le_refl]
  exact retC_by (Drop.set hb) (.refl _) ⟨rfl, rfl⟩
def letterB (c : Int) : Bool := decide ((65 ≤ c ∧ c ≤ 90) ∨ (97 ≤ c ∧ c ≤ 122))
theorem xletter_ok (c : Int) : Pure Tryz.prog 88 [.int .i32 c] (.bool (letterB c)) := by
 intro σ
 obtain ⟨R, hR⟩ : ∃ R, letterB c = R := ⟨_, rfl⟩
 rw [hR]
 unfold letterB at hR
 refine a88 (by simp) ?_
 by_cases h1 : 65 ≤ c
 ·by_cases h2 : c ≤ 90
  ·rw [decide_eq_true (by omega)] at hR
   subst hR
   simp (disch := first | assumption | omega) only [go_sem, reduceCtorEq, Nat.reduceEqDiff, ↓reduceIte, h1, h2]
   exact retC_by (.refl _) (.refl _) ⟨rfl, rfl⟩
  ·by_cases h3 : 97 ≤ c
   ·by_cases h4 : c ≤ 122
    ·rw [decide_eq_true (by omega)] at hR
     subst hR
     simp (disch := first | assumption | omega) only [go_sem, reduceCtorEq, Nat.reduceEqDiff, ↓reduceIte, h1, h2, h3, h4]
     exact retC_by (.refl _) (.refl _) ⟨rfl, rfl⟩
    ·rw [decide_eq_false (by omega)] at hR
     subst hR
     simp (disch := first | assumption | omega) only [go_sem, reduceCtorEq, Nat.reduceEqDiff, ↓reduceIte, h1, h2, h3, h4]
     exact retC_by (.refl _) (.refl _) ⟨rfl, rfl⟩
   ·rw [decide_eq_false (by omega)] at hR
    subst hR
    simp (disch := first | assumption | omega) only [go_sem, reduceCtorEq, Nat.reduceEqDiff, ↓reduceIte, h1, h2, h3]
    exact retC_by (.refl _) (.refl _) ⟨rfl, rfl⟩
 ·have h3 : ¬ 97 ≤ c := by omega
  rw [decide_eq_false (by omega)] at hR
  subst hR
  simp (disch := first | assumption | omega) only [go_sem, reduceCtorEq, Nat.reduceEqDiff, ↓reduceIte, h1, h3]
  exact retC_by (.refl _) (.refl _) ⟨rfl, rfl⟩
def partP (s : List UInt8) (f n : Int) : List UInt8 := ((s.drop (skipP s f)).take (skipP (s.drop (skipP s f)) n))
theorem xpart_ok (s : List UInt8) (f n : Int) (hs : s.length < 4611686018427387904) : Pure Tryz.prog 38 [.str s, .int .i64 f, .int .i64 n] (.str (partP s f n)) := by
 intro σ
 have h1 := xskip_ok s f hs
 have h2 := xskip_ok (s.drop (skipP s f)) n (by rw [List.length_drop]; omega)
 have k1 := skipP_le s f
 have k2 := skipP_le (s.drop (skipP s f)) n
 unfold partP
 generalize skipP (s.drop (skipP s f)) n = B at *
 generalize skipP s f = A at *
 have k3 : (B : Int) ≤ ((List.drop A s).length : Int) := by omega
 refine a38 (by simp) ?_
 simp (disch := first | assumption | omega) only [go_sem, reduceCtorEq, Nat.reduceEqDiff, ↓reduceIte]
 refine h1.use ?_
 simp (disch := first | assumption | omega) only [go_sem, reduceCtorEq, Nat.reduceEqDiff, ↓reduceIte, List.take_length]
 refine h2.use ?_
 simp (disch := first | assumption | omega) only [go_sem, Nat.reduceEqDiff, ↓reduceIte]
 exact retC_by (.refl _) (.refl _) ⟨rfl, rfl⟩
def sidesP (name s : List UInt8) (n : Int) : PV :=
 if n < 0 then .fail 3 else if name = [76, 69, 70, 84] then .text (partP s 0 n) else .text (s.drop (skipP s (max ((pcs s).length - n) 0)))
theorem xsides_ok (name s : List UInt8) (n : Int) (hn : n ≤ 9000000000000000000) (hs : s.length < 4611686018427387904) : Pure Tryz.prog 37 [.str name, .str s, .int .i64 n] (sidesP name s n).av := by
 intro σ
 have h1 := xpart_ok s 0 n hs
 have h2 := xcount_ok s (by omega)
 have hl := pcs_len s
 have h3 := xskip_ok s (max ((pcs s).length - n) 0) hs
 have k3 := skipP_le s (max ((pcs s).length - n) 0)
 obtain ⟨R, hR⟩ : ∃ R, sidesP name s n = R := ⟨_, rfl⟩
 rw [hR]
 unfold sidesP at hR
 generalize skipP s (max ((pcs s).length - n) 0) = B at *
 generalize partP s 0 n = W at *
 generalize (pcs s).length = M at *
 refine a37 (by simp) ?_
 by_cases c1 : n < 0
 ·rw [if_pos c1] at hR
  subst hR
  simp only [PV.av]
  simp (disch := first | assumption | omega) only [go_sem, Nat.reduceEqDiff, ↓reduceIte, c1]
  exact retC_by (.refl _) (.refl _) ⟨rfl, rfl⟩
 ·rw [if_neg c1] at hR
  by_cases c2 : name = [76, 69, 70, 84]
  ·rw [if_pos c2] at hR
   subst hR c2
   simp only [PV.av]
   simp (disch := first | assumption | omega) only [go_sem, reduceCtorEq, Nat.reduceEqDiff, ↓reduceIte, c1]
   refine h1.use ?_
   simp (disch := first | assumption | omega) only [go_sem, ↓reduceIte]
   exact retC_by (.refl _) (.refl _) ⟨rfl, rfl⟩
  ·rw [if_neg c2] at hR
   subst hR
   simp only [PV.av]
   simp (disch := first | assumption | omega) only [go_sem, reduceCtorEq, Nat.reduceEqDiff, ↓reduceIte, c1, c2]
   refine h2.use ?_
   simp (disch := first | assumption | omega) only [go_sem, Nat.reduceEqDiff, ↓reduceIte]
   refine h3.use ?_
   simp (disch := first | assumption | omega) only [go_sem, Nat.reduceEqDiff, ↓reduceIte, List.take_length]
   exact retC_by (.refl _) (.refl _) ⟨rfl, rfl⟩
end Go.A
namespace Go.A
open Go.Proofs
/-! 10: tabular/tabularlaw17.num -/
def c10_0 : ACode := .ops [
 ⟨some 2, none, .q (.mv (.v .nili)), []⟩]
def c10_1 : ACode := .ops [
 ⟨some 6, none, .q (.mv (.t 0)), []⟩,
 ⟨some 7, none, .e (.call 20 [(.t 6)]), []⟩,
 ⟨some 5, none, .q (.mv (.t 7)), []⟩,
 ⟨some 8, none, .q (.ext 0 (.t 5)), []⟩,
 ⟨some 9, none, .q (.ext 1 (.t 5)), []⟩,
 ⟨some 3, none, .q (.mv (.t 8)), []⟩,
 ⟨some 4, none, .q (.mv (.t 9)), []⟩]
def c10_2 : ACode := .ops [
 ⟨some 10, none, .q (.mv (.t 3)), []⟩,
 ⟨some 11, none, .q (.mki 56 (.t 10)), []⟩,
 ⟨some 2, none, .q (.mv (.t 11)), []⟩]
def c10_3 : ACode := .seq c10_2 .ret
def c10_4 : ACode := .seq c10_1 c10_3
def c10_5 : ACode := .seq c10_0 c10_4
@[go_sem] def c10_0_wp := wp_of c10_0.eq_1
@[go_sem] def c10_1_wp := wp_of c10_1.eq_1
@[go_sem] def c10_2_wp := wp_of c10_2.eq_1
@[go_sem] def c10_3_wp := wp_of c10_3.eq_1
@[go_sem] def c10_4_wp := wp_of c10_4.eq_1
@[go_sem] def c10_5_wp := wp_of c10_5.eq_1
def c10 : AFn := ⟨12, [.t 2], c10_5⟩
theorem c10_ok : compF Tryz.prog Tryz.f10 = some c10 := by kernel_rfl
theorem a10 {args : List AV} {σ : ASt} {R : AV → ASt → Prop} (hl : args.length ≤ 12) (h : c10_5.wp Tryz.prog (RetQ [.t 2] R) (init args) σ) : ACalls Tryz.prog 10 args σ R := acalls_of Tryz.func10 c10_ok hl h
/-! 20: tabular/deci.Int -/
def c20_0 : ACode := .ops [
 ⟨some 2, none, .q (.mv (.v (.int .i64 0))), []⟩,
 ⟨some 3, none, .q (.mv (.v (.bool false))), []⟩]
def c20_1 : ACode := .ops [
 ⟨some 7, none, .q (.mv (.t 0)), []⟩,
 ⟨some 8, none, .q (.conv .u64 (.t 7)), []⟩,
 ⟨some 4, none, .q (.mv (.t 8)), []⟩]
def c20_2 : ACode := .ops [
 ⟨some 9, none, .q (.mv (.t 0)), []⟩,
 ⟨some 10, none, .q (.bin .lss (.t 9) (.v (.int .i64 0))), []⟩]
def c20_3 : ACode := .ops [
 ⟨some 11, none, .q (.mv (.t 4)), []⟩,
 ⟨some 12, none, .q (.un .neg (.t 11)), []⟩,
 ⟨some 4, none, .q (.mv (.t 12)), []⟩]
def c20_4 : ACode := .cond (.t 10) c20_3 .skip
def c20_5 : ACode := .seq c20_2 c20_4
def c20_6 : ACode := .ops [
 ⟨some 14, none, .q (.mv (.t 4)), []⟩,
 ⟨some 15, none, .e (.call 27 [(.t 14), (.v (.int .u64 10000))]), []⟩,
 ⟨some 13, none, .q (.mv (.t 15)), []⟩,
 ⟨some 16, none, .q (.ext 0 (.t 13)), []⟩,
 ⟨some 17, none, .q (.ext 1 (.t 13)), []⟩,
 ⟨some 5, none, .q (.mv (.t 16)), []⟩,
 ⟨some 6, none, .q (.mv (.t 17)), []⟩]
def c20_7 : ACode := .ops [
 ⟨some 18, none, .q (.mv (.t 0)), []⟩,
 ⟨some 19, none, .q (.bin .lss (.t 18) (.v (.int .i64 0))), []⟩,
 ⟨some 20, none, .q (.mv (.t 5)), []⟩,
 ⟨some 21, none, .q (.mv (.t 6)), []⟩,
 ⟨some 22, none, .e (.call 28 [(.t 19), (.t 20), (.t 21)]), []⟩,
 ⟨some 23, none, .q (.ext 0 (.t 22)), []⟩,
 ⟨some 24, none, .q (.ext 1 (.t 22)), []⟩,
 ⟨some 2, none, .q (.mv (.t 23)), []⟩,
 ⟨some 3, none, .q (.mv (.t 24)), []⟩]
def c20_8 : ACode := .seq c20_7 .ret
def c20_9 : ACode := .seq c20_6 c20_8
def c20_10 : ACode := .seq c20_5 c20_9
def c20_11 : ACode := .seq c20_1 c20_10
def c20_12 : ACode := .seq c20_0 c20_11
@[go_sem] def c20_0_wp := wp_of c20_0.eq_1
@[go_sem] def c20_1_wp := wp_of c20_1.eq_1
@[go_sem] def c20_2_wp := wp_of c20_2.eq_1
@[go_sem] def c20_3_wp := wp_of c20_3.eq_1
@[go_sem] def c20_4_wp := wp_of c20_4.eq_1
@[go_sem] def c20_5_wp := wp_of c20_5.eq_1
@[go_sem] def c20_6_wp := wp_of c20_6.eq_1
@[go_sem] def c20_7_wp := wp_of c20_7.eq_1
@[go_sem] def c20_8_wp := wp_of c20_8.eq_1
@[go_sem] def c20_9_wp := wp_of c20_9.eq_1
@[go_sem] def c20_10_wp := wp_of c20_10.eq_1
@[go_sem] def c20_11_wp := wp_of c20_11.eq_1
@[go_sem] def c20_12_wp := wp_of c20_12.eq_1
def c20 : AFn := ⟨25, [.t 2, .t 3], c20_12⟩
theorem c20_ok : compF Tryz.prog Tryz.f20 = some c20 := by kernel_rfl
theorem a20 {args : List AV} {σ : ASt} {R : AV → ASt → Prop} (hl : args.length ≤ 25) (h : c20_12.wp Tryz.prog (RetQ [.t 2, .t 3] R) (init args) σ) : ACalls Tryz.prog 20 args σ R := acalls_of Tryz.func20 c20_ok hl h
/-! 44: tabular/texts.replace -/
/-! 52: tabular/value.AsInt -/
def c52_0 : ACode := .ops [
 ⟨some 2, none, .q (.mv (.v (.int .i64 0))), []⟩,
 ⟨some 3, none, .q (.mv (.v (.int .i64 0))), []⟩]
def c52_1 : ACode := .ops [
 ⟨some 7, none, .q (.mv (.t 0)), []⟩,
 ⟨some 8, none, .e (.call 32 [(.t 7)]), []⟩,
 ⟨some 6, none, .q (.mv (.t 8)), []⟩,
 ⟨some 9, none, .q (.ext 0 (.t 6)), []⟩,
 ⟨some 10, none, .q (.ext 1 (.t 6)), []⟩,
 ⟨some 4, none, .q (.mv (.t 9)), []⟩,
 ⟨some 5, none, .q (.mv (.t 10)), []⟩]
def c52_2 : ACode := .ops [
 ⟨some 11, none, .q (.mv (.t 4)), []⟩,
 ⟨some 12, none, .e (.call 17 [(.t 11)]), []⟩,
 ⟨some 13, none, .q (.mv (.t 5)), []⟩,
 ⟨some 2, none, .q (.mv (.t 12)), []⟩,
 ⟨some 3, none, .q (.mv (.t 13)), []⟩]
def c52_3 : ACode := .seq c52_2 .ret
def c52_4 : ACode := .seq c52_1 c52_3
def c52_5 : ACode := .seq c52_0 c52_4
@[go_sem] def c52_0_wp := wp_of c52_0.eq_1
@[go_sem] def c52_1_wp := wp_of c52_1.eq_1
@[go_sem] def c52_2_wp := wp_of c52_2.eq_1
@[go_sem] def c52_3_wp := wp_of c52_3.eq_1
@[go_sem] def c52_4_wp := wp_of c52_4.eq_1
@[go_sem] def c52_5_wp := wp_of c52_5.eq_1
def c52 : AFn := ⟨14, [.t 2, .t 3], c52_5⟩
theorem c52_ok : compF Tryz.prog Tryz.f52 = some c52 := by kernel_rfl
theorem a52 {args : List AV} {σ : ASt} {R : AV → ASt → Prop} (hl : args.length ≤ 14) (h : c52_5.wp Tryz.prog (RetQ [.t 2, .t 3] R) (init args) σ) : ACalls Tryz.prog 52 args σ R := acalls_of Tryz.func52 c52_ok hl h
/-! 53: tabular/value.Made -/
end Go.A
namespace Go.A
open Go.Proofs Go.Lib
def intP (n : Int) : Option Int := if n.natAbs ≤ 99999999999999 then some (n * 10000) else none
theorem made_hi (m : Bool) {hi lo : Int} (h : 0 < hi) : Pure Tryz.prog 28 [.bool m, .int .u64 hi, .int .u64 lo] (resAV none) := by
 intro σ
 refine a28 (by simp) ?_
 simp (disch := first | assumption | omega) only [go_sem, Nat.reduceEqDiff, ↓reduceIte, h]
 exact retC_by (by repeat' (first | exact Drop.refl _ | with_reducible refine Drop.off ?_ (by assumption))) (.refl _) ⟨rfl, rfl⟩
theorem int_ok (n : Int) (h0 : -9223372036854775808 ≤ n) (h1 : n ≤ 9223372036854775807) : Pure Tryz.prog 20 [.int .i64 n] (resAV (intP n)) := by
 intro σ
 have hM := mul64_ok n.natAbs 10000 (by omega) (by omega)
 have hD : Pure Tryz.prog 28 [.bool (decide (n < 0)), .int .u64 ((n.natAbs * 10000 / 18446744073709551616 : Nat) : Int), .int .u64 ((n.natAbs * 10000 % 18446744073709551616 : Nat) : Int)] (resAV (intP n)) := by
  unfold intP
  by_cases hb : n.natAbs * 10000 / 18446744073709551616 = 0
  ·rw [hb]
   have := made_ok (decide (n < 0)) (n.natAbs * 10000 % 18446744073709551616) (by omega)
   have he : madeP (decide (n < 0)) (n.natAbs * 10000 % 18446744073709551616) = if n.natAbs ≤ 99999999999999 then some (n * 10000) else none := by
    unfold madeP
    by_cases hs : n.natAbs ≤ 99999999999999
    ·rw [if_pos hs, if_pos (by omega)]
     congr 1
     simp only [decide_eq_true_eq]
     split <;> omega
    ·rw [if_neg hs, if_neg (by omega)]
   rw [he] at this
   exact this
  ·rw [if_neg (by omega)]
   exact made_hi _ (by omega)
 generalize intP n = o at *
 simp only [resAV] at hD ⊢
 obtain ⟨H, hH⟩ : ∃ H : Int, ((n.natAbs * 10000 / 18446744073709551616 : Nat) : Int) = H := ⟨_, rfl⟩
 obtain ⟨L, hL⟩ : ∃ L : Int, ((n.natAbs * 10000 % 18446744073709551616 : Nat) : Int) = L := ⟨_, rfl⟩
 rw [hH, hL] at hM hD
 refine a20 (by simp) ?_
 by_cases hn : n < 0
 ·have e1 : IntKind.u64.wrap (0 - IntKind.u64.wrap n) = ((n.natAbs : Nat) : Int) := by rw [IntKind.wrap_u64, IntKind.wrap_u64]; omega
  simp (disch := first | assumption | omega) only [go_sem, reduceCtorEq, Nat.reduceEqDiff, ↓reduceIte, hn, e1]
  refine hM.use ?_
  rw [decide_eq_true hn] at hD
  simp (disch := first | assumption | omega) only [go_sem, reduceCtorEq, Nat.reduceEqDiff, ↓reduceIte, hn]
  refine hD.use ?_
  simp (disch := first | assumption | omega) only [go_sem, Nat.reduceEqDiff, ↓reduceIte]
  exact retC_by (by repeat' (first | exact Drop.refl _ | with_reducible refine Drop.off ?_ (by assumption))) (.refl _) ⟨rfl, rfl⟩
 ·have e1 : IntKind.u64.wrap n = ((n.natAbs : Nat) : Int) := by rw [IntKind.wrap_u64]; omega
  simp (disch := first | assumption | omega) only [go_sem, reduceCtorEq, Nat.reduceEqDiff, ↓reduceIte, hn, e1]
  refine hM.use ?_
  rw [decide_eq_false hn] at hD
  simp (disch := first | assumption | omega) only [go_sem, reduceCtorEq, Nat.reduceEqDiff, ↓reduceIte, hn]
  refine hD.use ?_
  simp (disch := first | assumption | omega) only [go_sem, Nat.reduceEqDiff, ↓reduceIte]
  exact retC_by (by repeat' (first | exact Drop.refl _ | with_reducible refine Drop.off ?_ (by assumption))) (.refl _) ⟨rfl, rfl⟩
theorem xnum_ok (n : Int) (h0 : -9223372036854775808 ≤ n) (h1 : n ≤ 9223372036854775807) : Pure Tryz.prog 10 [.int .i64 n] (PV.num ((intP n).getD 0)).av := by
 intro σ
 have h := int_ok n h0 h1
 generalize intP n = o at *
 simp only [resAV] at h
 simp only [PV.av]
 refine a10 (by simp) ?_
 simp (disch := first | assumption | omega) only [go_sem, reduceCtorEq, ↓reduceIte]
 refine h.use ?_
 simp (disch := first | assumption | omega) only [go_sem, Nat.reduceEqDiff, ↓reduceIte]
 exact retC_by (.refl _) (.refl _) ⟨rfl, rfl⟩
def asIntV (v : PV) : Int × Int := ((asNum v).1.tdiv 10000, (asNum v).2)
theorem xparseQ_rng {m d : Bool} {w p : List UInt8} {v : Int} (h : parseQ m w p d = some v) : v.natAbs ≤ 999999999999999999 := by
 unfold parseQ at h
 split at h
 ·cases h
 ·obtain ⟨n, _, hn⟩ := Option.bind_eq_some_iff.1 h
  unfold madeP at hn
  split at hn
  ·injection hn with hn
   split at hn <;> omega
  ·cases hn
theorem xparseD_rng {s : List UInt8} {v : Int} (h : parseD s = some v) : v.natAbs ≤ 999999999999999999 := xparseQ_rng h
theorem asNum_rng (v : PV) (hv : v.good) : (asNum v).1.natAbs ≤ 999999999999999999 := by
 cases v with
 | num n => exact hv
 | text s =>
   simp only [asNum]
   cases h : parseD (Lib.trimB s 32) with
   | none => decide
   | some n => exact xparseD_rng h
 | blank => decide
 | bool b => cases b <;> decide
 | fail n => show (0 : Int).natAbs ≤ _; decide
theorem asint_ok (v : PV) (hv : v.small) (hg : v.good) : Pure Tryz.prog 52 [v.av] (.tuple [.int .i64 (asIntV v).1, .int .i64 (asIntV v).2]) := by
 intro σ
 have h := asNumber_ok v hv
 unfold asIntV
 have hr := asNum_rng v hg
 have hw : ∀ n : Int, n.natAbs ≤ 999999999999999999 → Pure Tryz.prog 17 [.int .i64 n] (.int .i64 (n.tdiv 10000)) := fun n hn σ => by
  have hd : (n.tdiv 10000).natAbs ≤ n.natAbs := by rw [Int.natAbs_tdiv]; exact Nat.div_le_self _ _
  have hd3 : -9223372036854775808 ≤ n.tdiv 10000 ∧ n.tdiv 10000 ≤ 9223372036854775807 := by omega
  obtain ⟨hd4, hd5⟩ := hd3
  refine a17 (by simp) ?_
  simp (disch := first | assumption | omega) only [go_sem, reduceCtorEq, ↓reduceIte]
  exact retC_by (.refl _) (.refl _) ⟨rfl, rfl⟩
 generalize asNum v = w at *
 generalize v.av = x at *
 refine a52 (by simp) ?_
 simp (disch := first | assumption | omega) only [go_sem, reduceCtorEq, ↓reduceIte]
 refine h.use ?_
 simp (disch := first | assumption | omega) only [go_sem, Nat.reduceEqDiff, ↓reduceIte]
 refine (hw _ hr).use ?_
 simp (disch := first | assumption | omega) only [go_sem, Nat.reduceEqDiff, ↓reduceIte]
 exact retC_by (.refl _) (.refl _) ⟨rfl, rfl⟩
end Go.A
namespace Go.A
open Go.Proofs
/-! 29: tabular/texts.sign -/
/-! 30: (*tabular/texts.reader).int -/
def c30_0 : ACode := .ops [
 ⟨some 6, none, .q (.mv (.v (.int .i64 0))), []⟩]
def c30_1 : ACode := .ops [
 ⟨some 9, none, .q (.mv (.t 0)), []⟩,
 ⟨some 10, none, .q (.mv (.t 1)), []⟩,
 ⟨some 11, none, .e (.call 42 [(.t 9), (.t 10)]), []⟩,
 ⟨some 12, none, .q (.un .not (.t 11)), []⟩]
def c30_2 : ACode := .ops [
 ⟨some 13, none, .q (.mv (.t 2)), []⟩,
 ⟨some 6, none, .q (.mv (.t 13)), []⟩]
def c30_3 : ACode := .seq c30_2 .ret
def c30_4 : ACode := .cond (.t 12) c30_3 .skip
def c30_5 : ACode := .seq c30_1 c30_4
def c30_6 : ACode := .ops [
 ⟨some 15, none, .q (.mv (.t 0)), []⟩,
 ⟨some 16, none, .q (.nc (.t 15)), []⟩,
 ⟨some 17, none, .q (.fa 0 (.t 16)), []⟩,
 ⟨some 18, none, .q (.ld none (.t 17)), []⟩,
 ⟨some 19, none, .q (.mv (.t 1)), []⟩,
 ⟨some 20, none, .q (.ia 4 (.t 18) (.t 19)), []⟩,
 ⟨some 21, none, .q (.ld (some 4) (.t 20)), []⟩,
 ⟨some 22, none, .e (.call 33 [(.t 21)]), []⟩,
 ⟨some 23, none, .e (.call 52 [(.t 22)]), []⟩,
 ⟨some 14, none, .q (.mv (.t 23)), []⟩,
 ⟨some 24, none, .q (.ext 0 (.t 14)), []⟩,
 ⟨some 25, none, .q (.ext 1 (.t 14)), []⟩,
 ⟨some 7, none, .q (.mv (.t 24)), []⟩,
 ⟨some 8, none, .q (.mv (.t 25)), []⟩]
def c30_7 : ACode := .ops [
 ⟨some 26, none, .q (.mv (.t 0)), []⟩,
 ⟨some 27, none, .q (.nc (.t 26)), []⟩,
 ⟨some 28, none, .q (.fa 1 (.t 27)), []⟩,
 ⟨some 29, none, .q (.ld none (.t 28)), []⟩,
 ⟨some 30, none, .q (.bin .eql (.t 29) (.v (.int .i64 0))), []⟩]
def c30_8 : ACode := .ops [
 ⟨some 31, none, .q (.mv (.t 0)), []⟩,
 ⟨some 32, none, .q (.mv (.t 8)), []⟩,
 ⟨some 33, none, .q (.nc (.t 31)), []⟩,
 ⟨some 34, none, .q (.fa 1 (.t 33)), []⟩,
 ⟨none, none, .e (.store 1 (.t 34) (.t 32)), []⟩]
def c30_9 : ACode := .cond (.t 30) c30_8 .skip
def c30_10 : ACode := .seq c30_7 c30_9
def c30_11 : ACode := .ops [
 ⟨some 35, none, .q (.mv (.t 7)), []⟩,
 ⟨some 36, none, .q (.mnx false (.t 35) (.v (.int .i64 2000000))), []⟩,
 ⟨some 37, none, .q (.mnx true (.t 36) (.v (.int .i64 (-2000000)))), []⟩,
 ⟨some 6, none, .q (.mv (.t 37)), []⟩]
def c30_12 : ACode := .seq c30_11 .ret
def c30_13 : ACode := .seq c30_10 c30_12
def c30_14 : ACode := .seq c30_6 c30_13
def c30_15 : ACode := .seq c30_5 c30_14
def c30_16 : ACode := .seq c30_0 c30_15
@[go_sem] def c30_0_wp := wp_of c30_0.eq_1
@[go_sem] def c30_1_wp := wp_of c30_1.eq_1
@[go_sem] def c30_2_wp := wp_of c30_2.eq_1
@[go_sem] def c30_3_wp := wp_of c30_3.eq_1
@[go_sem] def c30_4_wp := wp_of c30_4.eq_1
@[go_sem] def c30_5_wp := wp_of c30_5.eq_1
@[go_sem] def c30_6_wp := wp_of c30_6.eq_1
@[go_sem] def c30_7_wp := wp_of c30_7.eq_1
@[go_sem] def c30_8_wp := wp_of c30_8.eq_1
@[go_sem] def c30_9_wp := wp_of c30_9.eq_1
@[go_sem] def c30_10_wp := wp_of c30_10.eq_1
@[go_sem] def c30_11_wp := wp_of c30_11.eq_1
@[go_sem] def c30_12_wp := wp_of c30_12.eq_1
@[go_sem] def c30_13_wp := wp_of c30_13.eq_1
@[go_sem] def c30_14_wp := wp_of c30_14.eq_1
@[go_sem] def c30_15_wp := wp_of c30_15.eq_1
@[go_sem] def c30_16_wp := wp_of c30_16.eq_1
def c30 : AFn := ⟨38, [.t 6], c30_16⟩
theorem c30_ok : compF Tryz.prog Tryz.f30 = some c30 := by kernel_rfl
theorem a30 {args : List AV} {σ : ASt} {R : AV → ASt → Prop} (hl : args.length ≤ 38) (h : c30_16.wp Tryz.prog (RetQ [.t 6] R) (init args) σ) : ACalls Tryz.prog 30 args σ R := acalls_of Tryz.func30 c30_ok hl h
/-! 36: (*tabular/texts.reader).text -/
def c36_0 : ACode := .ops [
 ⟨some 4, none, .q (.mv (.v (.str []))), []⟩]
def c36_1 : ACode := .ops [
 ⟨some 8, none, .q (.mv (.t 0)), []⟩,
 ⟨some 9, none, .q (.nc (.t 8)), []⟩,
 ⟨some 10, none, .q (.fa 0 (.t 9)), []⟩,
 ⟨some 11, none, .q (.ld none (.t 10)), []⟩,
 ⟨some 12, none, .q (.mv (.t 1)), []⟩,
 ⟨some 13, none, .q (.ia 4 (.t 11) (.t 12)), []⟩,
 ⟨some 14, none, .q (.ld (some 4) (.t 13)), []⟩,
 ⟨some 15, none, .e (.call 33 [(.t 14)]), []⟩,
 ⟨some 16, none, .e (.call 15 [(.t 15)]), []⟩,
 ⟨some 7, none, .q (.mv (.t 16)), []⟩,
 ⟨some 17, none, .q (.ext 0 (.t 7)), []⟩,
 ⟨some 18, none, .q (.ext 1 (.t 7)), []⟩,
 ⟨some 5, none, .q (.mv (.t 17)), []⟩,
 ⟨some 6, none, .q (.mv (.t 18)), []⟩]
def c36_2 : ACode := .ops [
 ⟨some 19, none, .q (.mv (.t 0)), []⟩,
 ⟨some 20, none, .q (.nc (.t 19)), []⟩,
 ⟨some 21, none, .q (.fa 1 (.t 20)), []⟩,
 ⟨some 22, none, .q (.ld none (.t 21)), []⟩,
 ⟨some 23, none, .q (.bin .eql (.t 22) (.v (.int .i64 0))), []⟩]
def c36_3 : ACode := .ops [
 ⟨some 24, none, .q (.mv (.t 0)), []⟩,
 ⟨some 25, none, .q (.mv (.t 6)), []⟩,
 ⟨some 26, none, .q (.nc (.t 24)), []⟩,
 ⟨some 27, none, .q (.fa 1 (.t 26)), []⟩,
 ⟨none, none, .e (.store 1 (.t 27) (.t 25)), []⟩]
def c36_4 : ACode := .cond (.t 23) c36_3 .skip
def c36_5 : ACode := .seq c36_2 c36_4
def c36_6 : ACode := .ops [
 ⟨some 28, none, .q (.mv (.t 5)), []⟩,
 ⟨some 4, none, .q (.mv (.t 28)), []⟩]
def c36_7 : ACode := .seq c36_6 .ret
def c36_8 : ACode := .seq c36_5 c36_7
def c36_9 : ACode := .seq c36_1 c36_8
def c36_10 : ACode := .seq c36_0 c36_9
@[go_sem] def c36_0_wp := wp_of c36_0.eq_1
@[go_sem] def c36_1_wp := wp_of c36_1.eq_1
@[go_sem] def c36_2_wp := wp_of c36_2.eq_1
@[go_sem] def c36_3_wp := wp_of c36_3.eq_1
@[go_sem] def c36_4_wp := wp_of c36_4.eq_1
@[go_sem] def c36_5_wp := wp_of c36_5.eq_1
@[go_sem] def c36_6_wp := wp_of c36_6.eq_1
@[go_sem] def c36_7_wp := wp_of c36_7.eq_1
@[go_sem] def c36_8_wp := wp_of c36_8.eq_1
@[go_sem] def c36_9_wp := wp_of c36_9.eq_1
@[go_sem] def c36_10_wp := wp_of c36_10.eq_1
def c36 : AFn := ⟨29, [.t 4], c36_10⟩
theorem c36_ok : compF Tryz.prog Tryz.f36 = some c36 := by kernel_rfl
theorem a36 {args : List AV} {σ : ASt} {R : AV → ASt → Prop} (hl : args.length ≤ 29) (h : c36_10.wp Tryz.prog (RetQ [.t 4] R) (init args) σ) : ACalls Tryz.prog 36 args σ R := acalls_of Tryz.func36 c36_ok hl h
/-! 42: (*tabular/texts.reader).has -/
def c42_0 : ACode := .ops [
 ⟨some 4, none, .q (.mv (.v (.bool false))), []⟩]
def c42_1 : ACode := .ops [
 ⟨some 5, none, .q (.mv (.t 1)), []⟩,
 ⟨some 6, none, .q (.mv (.t 0)), []⟩,
 ⟨some 7, none, .q (.nc (.t 6)), []⟩,
 ⟨some 8, none, .q (.fa 0 (.t 7)), []⟩,
 ⟨some 9, none, .q (.ld none (.t 8)), []⟩,
 ⟨some 10, none, .q (.len (.t 9)), []⟩,
 ⟨some 11, none, .q (.bin .lss (.t 5) (.t 10)), []⟩,
 ⟨some 4, none, .q (.mv (.t 11)), []⟩]
def c42_2 : ACode := .seq c42_1 .ret
def c42_3 : ACode := .seq c42_0 c42_2
@[go_sem] def c42_0_wp := wp_of c42_0.eq_1
@[go_sem] def c42_1_wp := wp_of c42_1.eq_1
@[go_sem] def c42_2_wp := wp_of c42_2.eq_1
@[go_sem] def c42_3_wp := wp_of c42_3.eq_1
def c42 : AFn := ⟨12, [.t 4], c42_3⟩
theorem c42_ok : compF Tryz.prog Tryz.f42 = some c42 := by kernel_rfl
theorem a42 {args : List AV} {σ : ASt} {R : AV → ASt → Prop} (hl : args.length ≤ 12) (h : c42_3.wp Tryz.prog (RetQ [.t 4] R) (init args) σ) : ACalls Tryz.prog 42 args σ R := acalls_of Tryz.func42 c42_ok hl h
/-! 70: tabular/texts.code -/
def c70_0 : ACode := .ops [
 ⟨some 2, none, .q (.mv (.v .nili)), []⟩]
def c70_1 : ACode := .ops [
 ⟨some 5, none, .q (.mv (.t 0)), []⟩,
 ⟨some 6, none, .e (.rng (.t 5)), []⟩]
def c70_2 : ACode := .ops [
 ⟨some 7, none, .e (.nxt (.t 6)), []⟩,
 ⟨some 8, none, .q (.ext 0 (.t 7)), []⟩]
def c70_3 : ACode := .cond (.t 8) .skip (.exit 0)
def c70_4 : ACode := .ops [
 ⟨some 9, none, .q (.ext 2 (.t 7)), []⟩,
 ⟨some 4, none, .q (.mv (.t 9)), []⟩]
def c70_5 : ACode := .ops [
 ⟨some 10, none, .q (.mv (.t 4)), []⟩,
 ⟨some 11, none, .q (.conv .i64 (.t 10)), []⟩,
 ⟨some 12, none, .e (.call 20 [(.t 11)]), []⟩,
 ⟨some 13, none, .q (.ext 0 (.t 12)), []⟩,
 ⟨some 14, none, .q (.ext 1 (.t 12)), []⟩,
 ⟨some 15, none, .e (.call 62 [(.t 13), (.t 14)]), []⟩,
 ⟨some 2, none, .q (.mv (.t 15)), []⟩]
def c70_6 : ACode := .seq c70_5 .ret
def c70_7 : ACode := .seq c70_4 c70_6
def c70_8 : ACode := .block 1 c70_7
def c70_9 : ACode := .seq c70_3 c70_8
def c70_10 : ACode := .seq c70_2 c70_9
def c70_11 : ACode := .loop c70_10
def c70_12 : ACode := .block 0 c70_11
def c70_13 : ACode := .seq c70_1 c70_12
def c70_14 : ACode := .ops [
 ⟨some 16, none, .q (.mki 39 (.v (.int .i64 3))), []⟩,
 ⟨some 2, none, .q (.mv (.t 16)), []⟩]
def c70_15 : ACode := .seq c70_14 .ret
def c70_16 : ACode := .seq c70_13 c70_15
def c70_17 : ACode := .seq c70_0 c70_16
def c70 : AFn := ⟨17, [.t 2], c70_17⟩
theorem c70_ok : compF Tryz.prog Tryz.f70 = some c70 := by kernel_rfl
theorem a70 {args : List AV} {σ : ASt} {R : AV → ASt → Prop} (hl : args.length ≤ 17) (h : c70_17.wp Tryz.prog (RetQ [.t 2] R) (init args) σ) : ACalls Tryz.prog 70 args σ R := acalls_of Tryz.func70 c70_ok hl h
end Go.A
namespace Go.A
open Go.Proofs Go.Lib
theorem xarg_get {L : List PV} {i : Nat} {v : PV} (h : L[i]? = some v) : (L.map argAV)[i]? = some (.agg [.int .i64 1, .int .i64 1, .bool false, .sl .full [v.av]]) := by rw [List.getElem?_map, h]; rfl
theorem xset_self {σ : ASt} {b : Nat} {r : Option Role} (h : σ b = r) : σ.set b r = σ := by
 funext x
 simp only [ASt.set]
 split
 ·rename_i e; rw [e, h]
 ·rfl
def rdO (L : List PV) (f : Int) : Option Role := some (.obj [.sl .shr (L.map argAV), .int .i64 f])
def seen (f g : Int) : Int := if f = 0 then g else f
theorem xrtext_ok {σ : ASt} {b : Nat} {L : List PV} {f : Int} (hT : Tab σ) (hb : σ b = rdO L f) (i : Nat) {v : PV} (hi : L[i]? = some v) (hg : v.good) :
  ACalls Tryz.prog 36 [.ptr b 0, .int .i64 i] σ fun r σ' => r = .str (asTextP v).1 ∧ σ' = σ.set b (rdO L (seen f (asTextP v).2)) := by
 have h1 := argval_ok v
 have h2 := asText_ok hT v hg
 have h3 := xarg_get hi
 unfold argAV at h1
 unfold rdO at hb ⊢
 generalize hLA : L.map argAV = LA at *
 generalize asTextP v = w at *
 have hav := PV.av_cells v
 have han := PV.av_any v
 generalize v.av = x at *
 refine a36 (by simp) ?_
 simp (disch := first | assumption | omega) only [go_sem, reduceCtorEq, Nat.reduceEqDiff, Nat.reduceAdd, Nat.reduceLeDiff, ↓reduceIte, hb, h3]
 refine h1.use ?_
 simp (disch := first | assumption | omega) only [go_sem, ↓reduceIte]
 refine h2.mono ?_
 rintro r σ' ⟨rfl, rfl⟩
 unfold seen
 by_cases hf : f = 0
 ·rw [if_pos hf]
  simp (disch := first | assumption | omega) only [go_sem, reduceCtorEq, Nat.reduceEqDiff, Nat.reduceAdd, Nat.reduceLeDiff, ↓reduceIte, Bool.true_and, hb, hf]
  exact retC_by (.refl _) (.refl _) ⟨rfl, rfl⟩
 ·rw [if_neg hf]
  simp (disch := first | assumption | omega) only [go_sem, reduceCtorEq, Nat.reduceEqDiff, ↓reduceIte, hb, hf]
  exact retC_by (.refl _) (.refl _) ⟨rfl, (xset_self hb).symm⟩
def clampP (n : Int) : Int := max (min n 2000000) (-2000000)
theorem xrhas_ok {σ : ASt} {b : Nat} {L : List PV} {f : Int} (hb : σ b = rdO L f) (i : Nat) :
  ACalls Tryz.prog 42 [.ptr b 0, .int .i64 i] σ fun r σ' => r = .bool (decide (i < L.length)) ∧ σ' = σ := by
 unfold rdO at hb
 have hl : (L.map argAV).length = L.length := List.length_map _
 generalize L.map argAV = LA at *
 refine a42 (by simp) ?_
 by_cases h : i < L.length
 ·have h' : (i : Int) < L.length := by omega
  rw [decide_eq_true h]
  simp (disch := first | assumption | omega) only [go_sem, reduceCtorEq, Nat.reduceEqDiff, ↓reduceIte, hb, hl, h']
  exact retC_by (.refl _) (.refl _) ⟨rfl, rfl⟩
 ·have h' : ¬ (i : Int) < L.length := by omega
  rw [decide_eq_false h]
  simp (disch := first | assumption | omega) only [go_sem, reduceCtorEq, Nat.reduceEqDiff, ↓reduceIte, hb, hl, h']
  exact retC_by (.refl _) (.refl _) ⟨rfl, rfl⟩
theorem xrint_none {σ : ASt} {b : Nat} {L : List PV} {f : Int} (hb : σ b = rdO L f) (i : Nat) (o : Int) (hi : L.length ≤ i) :
  ACalls Tryz.prog 30 [.ptr b 0, .int .i64 i, .int .i64 o] σ fun r σ' => r = .int .i64 o ∧ σ' = σ := by
 have h1 := xrhas_ok hb i
 rw [decide_eq_false (by omega)] at h1
 refine a30 (by simp) ?_
 simp (disch := first | assumption | omega) only [go_sem, reduceCtorEq, Nat.reduceEqDiff, ↓reduceIte]
 refine h1.mono ?_
 rintro r σ' ⟨rfl, rfl⟩
 simp (disch := first | assumption | omega) only [go_sem, Nat.reduceEqDiff, ↓reduceIte]
 exact retC_by (.refl _) (.refl _) ⟨rfl, rfl⟩
theorem xrint_ok {σ : ASt} {b : Nat} {L : List PV} {f : Int} (hb : σ b = rdO L f) (i : Nat) (o : Int) {v : PV} (hi : L[i]? = some v) (hg : v.good) (hs : v.small) :
  ACalls Tryz.prog 30 [.ptr b 0, .int .i64 i, .int .i64 o] σ fun r σ' => r = .int .i64 (clampP (asIntV v).1) ∧ σ' = σ.set b (rdO L (seen f (asIntV v).2)) := by
 have h0 := xrhas_ok hb i
 rw [decide_eq_true (List.getElem?_eq_some_iff.1 hi).1] at h0
 have h1 := argval_ok v
 have h2 := asint_ok v hs hg
 have h3 := xarg_get hi
 unfold argAV at h1
 unfold rdO at hb ⊢
 generalize hLA : L.map argAV = LA at *
 generalize asIntV v = w at *
 have hav := PV.av_cells v
 have han := PV.av_any v
 generalize v.av = x at *
 refine a30 (by simp) ?_
 simp (disch := first | assumption | omega) only [go_sem, reduceCtorEq, Nat.reduceEqDiff, ↓reduceIte]
 refine h0.mono ?_
 rintro r σ' ⟨rfl, rfl⟩
 simp (disch := first | assumption | omega) only [go_sem, reduceCtorEq, Nat.reduceEqDiff, Nat.reduceAdd, Nat.reduceLeDiff, ↓reduceIte, hb, h3]
 refine h1.use ?_
 simp (disch := first | assumption | omega) only [go_sem, ↓reduceIte]
 refine h2.use ?_
 unfold seen clampP
 by_cases hf : f = 0
 ·rw [if_pos hf]
  simp (disch := first | assumption | omega) only [go_sem, reduceCtorEq, Nat.reduceEqDiff, Nat.reduceAdd, Nat.reduceLeDiff, ↓reduceIte, Int.reduceNeg, Bool.true_and, hb, hf]
  exact retC_by (.refl _) (.refl _) ⟨rfl, rfl⟩
 ·rw [if_neg hf]
  simp (disch := first | assumption | omega) only [go_sem, reduceCtorEq, Nat.reduceEqDiff, ↓reduceIte, Int.reduceNeg, hb, hf]
  exact retC_by (.refl _) (.refl _) ⟨rfl, (xset_self hb).symm⟩
end Go.A
namespace Go.A
open Go.Proofs Go.Shelf Go.RowKit
section
variable {P : Program} {ρ : Ren}
set_option maxHeartbeats 2000000 in
theorem bstr_used (L : Lays.n169 P ρ) (X : Builder.Extra P ρ) (b g cap size : Nat) (l : List UInt8) (w : World) (h0 : l ≠ []) (hc1 : w.cell? ⟨b, 1, none⟩ = some (.slice (some ⟨g, 0, none⟩) l.length cap)) (hcap : cap ≠ 0)
  (hsh : w.shape? g = some (ρ.t 5, size)) (hle : l.length ≤ size) (h63 : l.length ≤ 9223372036854775807) (hcell : ∀ j x, l[j]? = some x → w.cell? ⟨g, j, none⟩ = some (.int .u8 x.toNat)) :
  Calls P (ρ.f 169) #[.pointer (some ⟨b, 0, none⟩)] w fun e w' => e = .returned (.string ⟨l.toArray⟩) ∧ w' = w.drew.freeze ⟨g, 0, none⟩ l.length := by
 have c1 : w.drew.cell? ⟨b, 1, none⟩ = some (.slice (some ⟨g, 0, none⟩) l.length cap) := hc1
 have hSD : (Builtin.unsafeSliceData_ #[(ρ.t 37)] (ρ.t 127) #[.slice (some ⟨g, 0, none⟩) l.length cap]).run P w.drew = .ok (.pointer (some ⟨g, 0, none⟩)) w.drew :=
  Lib.run_unsafeSliceData_row _ _ _ _ _ _ hcap
 have hUS : (Builtin.unsafeString_ #[(ρ.t 127), (ρ.t 3)] (ρ.t 9) #[.pointer (some ⟨g, 0, none⟩), .int .i64 l.length]).run P w.drew = .ok (.string ⟨l.toArray⟩) (w.drew.freeze ⟨g, 0, none⟩ l.length) := by
  refine Lib.run_unsafeString_row w.drew (ρ.t 127) (ρ.t 3) (ρ.t 9) (ρ.t 5) L.t127 X.cellsByte g size hsh l h0 hle h63 ?_
  intro j x hx
  rw [addr_add', Nat.zero_add]
  exact hcell j x hx
 have mixed := L.mixed
 have t72 := L.t72; have a72 := L.a72; have z72 := L.z72; have v72 := L.v72; have u72 := run_underlying L.t72
 have t70 := L.t70; have a70 := L.a70; have z70 := L.z70; have v70 := L.v70; have u70 := run_underlying L.t70
 have t37 := L.t37; have a37 := L.a37; have z37 := L.z37; have v37 := L.v37; have u37 := run_underlying L.t37
 have t127 := L.t127; have a127 := L.a127; have z127 := L.z127; have v127 := L.v127; have u127 := run_underlying L.t127
 have t3 := L.t3; have a3 := L.a3; have z3 := L.z3; have v3 := L.v3; have u3 := run_underlying L.t3
 have t9 := L.t9; have a9 := L.a9; have z9 := L.z9; have v9 := L.v9; have u9 := run_underlying L.t9
 have t5 := X.t5; have a5 := X.a5; have z5 := X.z5; have v5 := X.v5; have u5 := run_underlying X.t5
 go_enter L.f169, Body.n169_ntmps ρ
 go_wp2
 go_region_o
 all_goals (go_wp2; go_ret; exact ⟨rfl, rfl⟩)
set_option maxHeartbeats 2000000 in
theorem bstr_nil (L : Lays.n169 P ρ) (X : Builder.Extra P ρ) (b : Nat) (w : World) (hc1 : w.cell? ⟨b, 1, none⟩ = some (.slice none 0 0)) :
  Calls P (ρ.f 169) #[.pointer (some ⟨b, 0, none⟩)] w fun e w' => e = .returned (.string ⟨#[]⟩) ∧ w' = w.drew := by
 have hUS := Any.unsafeString_none L X
 have c1 : w.drew.cell? ⟨b, 1, none⟩ = some (.slice none 0 0) := hc1
 have hSD : (Builtin.unsafeSliceData_ #[(ρ.t 37)] (ρ.t 127) #[.slice none 0 0]).run P w.drew = .ok (.pointer none) w.drew := rfl
 have mixed := L.mixed
 have t72 := L.t72; have a72 := L.a72; have z72 := L.z72; have v72 := L.v72; have u72 := run_underlying L.t72
 have t70 := L.t70; have a70 := L.a70; have z70 := L.z70; have v70 := L.v70; have u70 := run_underlying L.t70
 have t37 := L.t37; have a37 := L.a37; have z37 := L.z37; have v37 := L.v37; have u37 := run_underlying L.t37
 have t127 := L.t127; have a127 := L.a127; have z127 := L.z127; have v127 := L.v127; have u127 := run_underlying L.t127
 have t3 := L.t3; have a3 := L.a3; have z3 := L.z3; have v3 := L.v3; have u3 := run_underlying L.t3
 have t9 := L.t9; have a9 := L.a9; have z9 := L.z9; have v9 := L.v9; have u9 := run_underlying L.t9
 have t5 := X.t5; have a5 := X.a5; have z5 := X.z5; have v5 := X.v5; have u5 := run_underlying X.t5
 go_enter L.f169, Body.n169_ntmps ρ
 go_wp2
 go_region_o
 all_goals (go_wp2; go_ret; exact ⟨rfl, rfl⟩)
end
theorem size_bld : (Tryz.prog.info? 109).map (·.size) = some 2 := by kernel_rfl
theorem lies_bld : liesAt Tryz.prog Tryz.prog.depth 109 (2 / Tryz.prog.cellsOf 109) 0 109 1 = true := by kernel_rfl
set_option maxHeartbeats 1000000 in
set_option maxRecDepth 1000000 in
theorem cc_used (b : Nat) (w : World) (h0 : w.cell? ⟨b, 0, none⟩ = some (.pointer (some ⟨b, 0, none⟩))) :
  Calls Tryz.prog 87 #[.pointer (some ⟨b, 0, none⟩)] w fun e w' => e = .returned (.tuple #[]) ∧ w' = w := by
 obtain ⟨j, hj, _⟩ := Option.map_eq_some_iff.1 size_bld
 go_enter Tryz.func87, Tryz.ntmps87
 go_wp2
 rw [Lib.run_neq_ptr_same w _ Tryz.underlying107 hj]
 go_wp2
 go_end0
 exact ⟨rfl, rfl⟩
set_option maxHeartbeats 1000000 in
set_option maxRecDepth 1000000 in
theorem cc_fresh (b : Nat) (w : World) (h0 : w.cell? ⟨b, 0, none⟩ = some (.pointer none)) (hsh : w.shape? b = some (109, 2)) (hfz : w.frozen? ⟨b, 0, none⟩ = false) :
  Calls Tryz.prog 87 #[.pointer (some ⟨b, 0, none⟩)] w fun e w' => e = .returned (.tuple #[]) ∧ w' = w.setCell ⟨b, 0, none⟩ (.pointer (some ⟨b, 0, none⟩)) := by
 obtain ⟨j, hj, hjs⟩ := Option.map_eq_some_iff.1 size_bld
 go_enter Tryz.func87, Tryz.ntmps87
 go_wp2
 rw [Lib.run_to_unsafe w ⟨b, 0, none⟩ Tryz.underlying107 Tryz.underlying150 hj (by rw [hjs]; decide) hsh (Nat.zero_lt_succ 1)]
 simp only [Result.andThen]
 rw [Oper.upon_value]
 go_wp2
 rw [run_callFunc_extern Tryz.func111 (by kernel_rfl) (by kernel_rfl) (by kernel_rfl) (e := Extern.AbiNoEscape.same) (by kernel_rfl)]
 rw [Lib.run_noEscape]
 simp only [Result.andThen]
 rw [Oper.upon_value]
 go_wp2
 rw [Lib.run_from_unsafe w ⟨b, 0, none⟩ Tryz.underlying150 Tryz.underlying107 hj hsh lies_bld]
 simp only [Result.andThen]
 rw [Oper.upon_value]
 go_wp2
 go_end0
 exact ⟨rfl, rfl⟩
end Go.A
namespace Go.A
open Go.Proofs
theorem copyCheck_typ {σ : ASt} {b : Nat} (h : σ b = some (.typ 109 [.pointer none, .slice none 0 0])) :
  ACalls Tryz.prog 87 [.ptr b 0] σ fun v σ' => v = .tuple [] ∧ σ' = σ.set b (some (.obj [.ptr b 0, .sl .full []])) := by
 intro w vs hs ha
 cases ha with
 | cons h1 h2 =>
 cases h1; cases h2
 have hb : w.heap[b]? = some (.cells ⟨[.pointer none, .slice none 0 0]⟩ 109 (0, 0)) := hs b _ h
 refine (cc_fresh b w (by simp [World.cell?, hb]) (by simp [World.shape?, hb]) (by simp [World.frozen?, hb])).mono ?_
 rintro e w' ⟨rfl, rfl⟩
 have hw := Wrote.setCell (o := 0) hb (.pointer (some ⟨b, 0, none⟩))
 have hle : Le σ w (σ.set b (some (.obj [.ptr b 0, .sl .full []]))) (w.setCell ⟨b, 0, none⟩ (.pointer (some ⟨b, 0, none⟩))) := by
  refine ⟨hw.os, hw.tape, hw.output, by rw [hw.size]; exact Nat.le_refl _, fun x hx hn => ?_, fun x cs hx hn => ?_, fun x f hx hn => ?_⟩
  all_goals have hne : x ≠ b := by rintro rfl; rw [h] at hn; cases hn
  ·rw [ASt.set_ne hne]; exact ⟨hn, hw.other x hne⟩
  ·rw [ASt.set_ne hne]; exact ⟨.inr hn, hw.other x hne⟩
  ·rw [ASt.set_ne hne]; exact ⟨.inr ⟨f, Nat.le_refl _, hn⟩, shape_of_heap_eq (hw.other x hne), fun o _ => cell_of_heap_eq (hw.other x hne) o⟩
 have hro : RoleOk (σ.set b (some (.obj [.ptr b 0, .sl .full []]))) (w.setCell ⟨b, 0, none⟩ (.pointer (some ⟨b, 0, none⟩))) b (.obj [.ptr b 0, .sl .full []]) := by
  refine ⟨_, _, _, hw.new, ?_, fun o ho => ?_⟩
  ·exact .cons (.ptr _ _) (.cons .slN .nil)
  ·rw [hw.frozen]
   simp only [World.frozen?, hb]
   simp
 exact ⟨_, _, _, rfl, ⟨rfl, rfl⟩, hle, hw.sim hs hle hro, .tuple .nil⟩
theorem copyCheck_used {σ : ASt} {b : Nat} {x : AV} (h : σ b = some (.obj [.ptr b 0, x])) : ACalls Tryz.prog 87 [.ptr b 0] σ fun v σ' => v = .tuple [] ∧ σ' = σ := by
 intro w vs hs ha
 cases ha with
 | cons h1 h2 =>
 cases h1; cases h2
 obtain ⟨us, h3, h4, _⟩ := hs.objCell h
 cases h3 with
 | cons h5 h6 =>
 cases h5
 refine (cc_used b w (h4 0 _ rfl)).mono ?_
 rintro e w' ⟨rfl, rfl⟩
 exact ⟨_, _, _, rfl, ⟨rfl, rfl⟩, Le.refl _ _, hs, .tuple .nil⟩
theorem bstring_typ {σ : ASt} {b : Nat} (h : σ b = some (.typ 109 [.pointer none, .slice none 0 0])) : ACalls Tryz.prog 66 [.ptr b 0] σ fun v σ' => v = .str [] ∧ σ' = σ := by
 intro w vs hs ha
 cases ha with
 | cons h1 h2 =>
 cases h1; cases h2
 have hb : w.heap[b]? = some (.cells ⟨[.pointer none, .slice none 0 0]⟩ 109 (0, 0)) := hs b _ h
 refine (bstr_nil Tryz.lays169 Tryz.Builder_Extra_169 b w (by simp [World.cell?, hb])).mono ?_
 rintro e w' ⟨rfl, rfl⟩
 have hx : Ext w w.drew := Ext.drew (Ext.refl w)
 exact ⟨_, _, _, rfl, ⟨rfl, rfl⟩, ext_le hx, hs.ext hx, .str []⟩
theorem row_bytes {σ : ASt} {w : World} {b : Nat} : ∀ {l : List UInt8} {o : Nat}, Row σ w b o 1 (bytesAV l) → ∀ j x, l[j]? = some x → w.cell? ⟨b, o + j, none⟩ = some (.int .u8 x.toNat)
 | [], o, h, j, x, hj => by simp at hj
 | c :: l, o, h, j, x, hj => by
   cases h with
   | cons h1 h2 h3 =>
   cases j with
   | zero =>
     simp only [List.getElem?_cons_zero, Option.some.injEq] at hj
     subst hj
     cases h2 with
     | cons g1 g2 g3 g4 =>
     cases g3
     exact g2
   | succ j =>
     have := row_bytes (l := l) h3 j x (by simpa using hj)
     rw [show o + (j + 1) = o + 1 + j by omega]
     exact this
theorem bstring_used {σ : ASt} {b g : Nat} {p : AV} {l : List UInt8} (h0 : l ≠ []) (hl : l.length ≤ 9223372036854775807) (h : σ b = some (.obj [p, .sl (.tok g 1 5) (bytesAV l)])) (hg : σ g = some (.tok l.length)) :
  ACalls Tryz.prog 66 [.ptr b 0] σ fun v σ' => v = .str l ∧ σ' = σ := by
 intro w vs hs ha
 cases ha with
 | cons h1 h2 =>
 cases h1; cases h2
 obtain ⟨us, h3, h4, h9⟩ := hs.objCell h
 cases h3 with
 | cons h5 h6 =>
 cases h6 with
 | cons h7 h8 =>
 cases h8
 obtain ⟨c, T, fr, k1, k2, k3⟩ := hs g _ hg
 have hlen : (bytesAV l).length = l.length := by simp [bytesAV]
 generalize hbl : bytesAV l = bl at h7
 cases h7 with
 | sl r1 r2 r3 r4 r5 =>
 subst hbl
 obtain ⟨rfl, rfl, rfl, r6, r7⟩ := r4
 have hpos : 0 < l.length := List.length_pos_iff.2 h0
 subst r2
 rw [hlen] at r3
 have hc1 := h4 1 _ rfl
 rw [hlen] at hc1
 refine (bstr_used Tryz.lays169 Tryz.Builder_Extra_169 b g _ _ l w h0 hc1 (by omega) r6 (by omega) hl ?_).mono ?_
 ·intro j x hj
  have := row_bytes r1 j x hj
  simpa using this
 rintro e w' ⟨rfl, rfl⟩
 have hother : ∀ x, x ≠ g → (w.drew.freeze ⟨g, 0, none⟩ l.length).heap[x]? = w.heap[x]? := by
  intro x hx
  simp only [World.freeze]
  rw [if_neg (by omega)]
  simp only [Array.getElem?_modify]
  rw [if_neg (Ne.symm hx)]
  rfl
 obtain ⟨lo, hi⟩ := fr
 have hk1 : w.drew.heap[g]? = some (.cells c T (lo, hi)) := k1
 obtain ⟨fr', hfr, hnew⟩ : ∃ fr' : Nat × Nat, fr'.2 ≤ l.length ∧ (w.drew.freeze ⟨g, 0, none⟩ l.length).heap[g]? = some (.cells c T fr') := by
  refine ⟨if lo == hi then (0, 0 + l.length) else (min lo 0, max hi (0 + l.length)), ?_, ?_⟩
  ·dsimp only at k3
   split <;> dsimp only <;> omega
  ·simp only [World.freeze]
   rw [if_neg (by omega)]
   simp only [Array.getElem?_modify, if_true, hk1, Option.map_some]
 have hshape : (w.drew.freeze ⟨g, 0, none⟩ l.length).shape? g = w.shape? g := by simp only [World.shape?, hnew, k1]
 have hcells : ∀ o, (w.drew.freeze ⟨g, 0, none⟩ l.length).cell? ⟨g, o, none⟩ = w.cell? ⟨g, o, none⟩ := fun o => by simp only [World.cell?, hnew, k1]
 have hle : Le σ w σ (w.drew.freeze ⟨g, 0, none⟩ l.length) := by
  refine ⟨?_, ?_, ?_, ?_, fun x hx hn => ?_, fun x cs hx hn => ?_, fun x f hx hn => ?_⟩
  ·simp only [World.freeze]; split <;> rfl
  ·simp only [World.freeze]; split <;> rfl
  ·simp only [World.freeze]; split <;> rfl
  ·simp only [World.freeze]; split
   ·exact Nat.le_refl _
   ·rw [Array.size_modify]; exact Nat.le_refl _
  ·have hne : x ≠ g := by rintro rfl; rw [hg] at hn; cases hn
   exact ⟨hn, hother x hne⟩
  ·have hne : x ≠ g := by rintro rfl; rw [hg] at hn; cases hn
   exact ⟨.inr hn, hother x hne⟩
  ·by_cases hne : x = g
   ·subst hne
    exact ⟨.inr ⟨f, Nat.le_refl _, hn⟩, hshape, fun o _ => hcells o⟩
   ·exact ⟨.inr ⟨f, Nat.le_refl _, hn⟩, shape_of_heap_eq (hother x hne), fun o _ => cell_of_heap_eq (hother x hne) o⟩
 have hsim : Sim σ (w.drew.freeze ⟨g, 0, none⟩ l.length) := by
  intro x q hx
  by_cases hne : x = g
  ·subst hne
   rw [hg] at hx
   injection hx with hx
   subst hx
   exact ⟨c, T, fr', hnew, k2, hfr⟩
  ·exact (hs x q hx).keep hle (hother x hne)
 exact ⟨_, _, _, rfl, ⟨rfl, rfl⟩, hle, hsim, .str l⟩
end Go.A
namespace Go.A
inductive Over (τ : ASt) : ASt → Prop
 | refl : Over τ τ
 | set {σ : ASt} (c : Nat) (r : Role) : Over τ σ → σ c = none → Over τ (σ.set c (some r))
theorem Over.drop {τ σ : ASt} (h : Over τ σ) : Drop σ τ := by
 induction h with
 | refl => exact Drop.refl _
 | set c q h hc ih =>
   intro x
   by_cases hx : x = c
   ·subst hx
    rcases ih x with h1 | h1
    ·exact .inr (h1.trans hc)
    ·exact .inr h1
   ·rcases ih x with h1 | h1
    ·exact .inl (by rw [ASt.set_ne hx]; exact h1)
    ·exact .inr h1
def BW (T U : TypeId) (σ0 : ASt) (b : Nat) (l : List UInt8) (σ : ASt) : Prop :=
 (l = [] ∧ σ = σ0.set b (some (.typ T [.pointer none, .slice none 0 0]))) ∨ (l ≠ [] ∧ ∃ k, GrownT U (σ0.set b (some (.obj [.ptr b 0, .sl k (bytesAV l)]))) σ k l.length 1)
theorem BW.over {T U : TypeId} {σ0 σ : ASt} {b : Nat} {l : List UInt8} (h : BW T U σ0 b l σ) (hb : σ0 b = none) : Over σ0 σ := by
 rcases h with ⟨_, rfl⟩ | ⟨_, k, h1 | ⟨g, _, hg, rfl⟩⟩
 ·exact .set b _ .refl hb
 ·obtain ⟨_, _, rfl⟩ := h1
  exact .set b _ .refl hb
 ·exact .set g _ (.set b _ .refl hb) hg
theorem BW.iter {T U : TypeId} {σ0 σ : ASt} {b it : Nat} {l : List UInt8} {r r' : Role} (h : BW T U (σ0.set it (some r)) b l σ) (hb : it ≠ b) : BW T U (σ0.set it (some r')) b l (σ.set it (some r')) ∧ σ it = some r := by
 rcases h with ⟨h0, rfl⟩ | ⟨h0, k, h1 | ⟨g, h1, hg, rfl⟩⟩
 ·refine ⟨.inl ⟨h0, ?_⟩, by rw [ASt.set_ne hb, ASt.set_same]⟩
  rw [← set_swap hb, ASt.set_set]
 ·obtain ⟨h1, h2, rfl⟩ := h1
  refine ⟨.inr ⟨h0, k, .inl ⟨h1, h2, ?_⟩⟩, by rw [ASt.set_ne hb, ASt.set_same]⟩
  rw [← set_swap hb, ASt.set_set]
 ·obtain ⟨h3, h4, h5⟩ := set_none hg
  obtain ⟨h6, h7, h8⟩ := set_none h5
  refine ⟨.inr ⟨h0, k, .inr ⟨g, h1, ?_, ?_⟩⟩, by rw [ASt.set_ne h7, ASt.set_ne hb, ASt.set_same]⟩
  ·rw [ASt.set_ne h3, ASt.set_ne h6]; exact h8
  ·rw [← set_swap h7, ← set_swap hb, ASt.set_set]
end Go.A
namespace Go.A
open Go.Proofs Go.Lib
abbrev BD := BW 109 5
abbrev GT := GrownT 5
theorem cc_ok {σ0 σ : ASt} {b : Nat} {l : List UInt8} (h : BD σ0 b l σ) : ACalls Tryz.prog 87 [.ptr b 0] σ fun v σ' => v = .tuple [] ∧ ∃ k, GT (σ0.set b (some (.obj [.ptr b 0, .sl k (bytesAV l)]))) σ' k l.length 1 := by
 rcases h with ⟨rfl, rfl⟩ | ⟨h0, k, hg⟩
 ·refine (copyCheck_typ (ASt.set_same _ _ _)).mono ?_
  rintro v σ' ⟨rfl, rfl⟩
  exact ⟨rfl, .full, .inl ⟨rfl, rfl, by rw [ASt.set_set]; rfl⟩⟩
 ·refine (copyCheck_used (hg.at (ASt.set_same _ _ _))).mono ?_
  rintro v σ' ⟨rfl, rfl⟩
  exact ⟨rfl, k, hg⟩
theorem bytesAV_app (l m : List UInt8) : bytesAV l ++ bytesAV m = bytesAV (l ++ m) := by simp [bytesAV]
theorem bytesAV_len (l : List UInt8) : (bytesAV l).length = l.length := by simp [bytesAV]
theorem bstring_ok {σ0 σ : ASt} {b : Nat} {l : List UInt8} (h : BD σ0 b l σ) (hl : l.length ≤ 1000000000) : ACalls Tryz.prog 66 [.ptr b 0] σ fun v σ' => v = .str l ∧ σ' = σ := by
 rcases h with ⟨rfl, rfl⟩ | ⟨h0, k, hg⟩
 ·exact bstring_typ (ASt.set_same _ _ _)
 ·have hb := hg.at (ASt.set_same _ _ _)
  rcases hg with ⟨_, h1, _⟩ | ⟨g, rfl, hg, rfl⟩
  ·exact absurd (List.eq_nil_of_length_eq_zero h1) h0
  ·refine bstring_used h0 (by omega) hb (by rw [ASt.set_same, Nat.mul_one])
end Go.A
namespace Go.A
open Go.Proofs
/-! 64: (*strings.Builder).WriteString -/
def c64_0 : ACode := .ops [
 ⟨some 4, none, .q (.mv (.v (.int .i64 0))), []⟩,
 ⟨some 5, none, .q (.mv (.v .nili)), []⟩]
def c64_1 : ACode := .ops [
 ⟨some 6, none, .q (.mv (.t 0)), []⟩,
 ⟨some 7, none, .e (.call 87 [(.t 6)]), []⟩]
def c64_2 : ACode := .ops [
 ⟨some 8, none, .q (.mv (.t 0)), []⟩,
 ⟨some 9, none, .q (.mv (.t 0)), []⟩,
 ⟨some 10, none, .q (.nc (.t 9)), []⟩,
 ⟨some 11, none, .q (.fa 1 (.t 10)), []⟩,
 ⟨some 12, none, .q (.ld none (.t 11)), []⟩,
 ⟨some 13, none, .q (.mv (.t 1)), []⟩,
 ⟨some 14, none, .e (.apps 5 (.t 12) (.t 13)), []⟩,
 ⟨some 15, none, .q (.nc (.t 8)), []⟩,
 ⟨some 16, none, .q (.fa 1 (.t 15)), []⟩,
 ⟨none, none, .e (.store 1 (.t 16) (.t 14)), []⟩]
def c64_3 : ACode := .ops [
 ⟨some 17, none, .q (.mv (.t 1)), []⟩,
 ⟨some 18, none, .q (.lenS (.t 17)), []⟩,
 ⟨some 4, none, .q (.mv (.t 18)), []⟩,
 ⟨some 5, none, .q (.mv (.v .nili)), []⟩]
def c64_4 : ACode := .seq c64_3 .ret
def c64_5 : ACode := .seq c64_2 c64_4
def c64_6 : ACode := .seq c64_1 c64_5
def c64_7 : ACode := .seq c64_0 c64_6
@[go_sem] def c64_0_wp := wp_of c64_0.eq_1
@[go_sem] def c64_1_wp := wp_of c64_1.eq_1
@[go_sem] def c64_2_wp := wp_of c64_2.eq_1
@[go_sem] def c64_3_wp := wp_of c64_3.eq_1
@[go_sem] def c64_4_wp := wp_of c64_4.eq_1
@[go_sem] def c64_5_wp := wp_of c64_5.eq_1
@[go_sem] def c64_6_wp := wp_of c64_6.eq_1
@[go_sem] def c64_7_wp := wp_of c64_7.eq_1
def c64 : AFn := ⟨19, [.t 4, .t 5], c64_7⟩
theorem c64_ok : compF Tryz.prog Tryz.f64 = some c64 := by kernel_rfl
theorem a64 {args : List AV} {σ : ASt} {R : AV → ASt → Prop} (hl : args.length ≤ 19) (h : c64_7.wp Tryz.prog (RetQ [.t 4, .t 5] R) (init args) σ) : ACalls Tryz.prog 64 args σ R := acalls_of Tryz.func64 c64_ok hl h
end Go.A
namespace Go.A
open Go.Proofs Go.Lib
theorem appsB_by {σ σ0 : ASt} {k : SK} {l m : List UInt8} {K : AV → ASt → Prop} (h : GT σ0 σ k l.length 1) (hl : l.length + m.length ≤ 4611686018427)
  (hK : ∀ k' σ', GT σ0 σ' k' (l ++ m).length 1 → K (.sl k' (bytesAV (l ++ m))) σ') : appsC 5 (.sl k (bytesAV l)) (.str m) σ K := by
 refine appsCT_by (by rw [bytesAV_len]; exact h) (by rw [bytesAV_len]; omega) fun k' σ' hg => ?_
 rw [bytesAV_app]
 rw [bytesAV_len] at hg
 exact hK k' σ' (by rw [List.length_append]; exact hg)
theorem writes_ok {σ0 σ : ASt} {b : Nat} {l : List UInt8} (h : BD σ0 b l σ) (m : List UInt8) (hl : l.length + m.length ≤ 1000000000) :
  ACalls Tryz.prog 64 [.ptr b 0, .str m] σ fun v σ' => v = .tuple [.int .i64 m.length, .nili] ∧ ((l ++ m = [] ∧ ∃ k, GT (σ0.set b (some (.obj [.ptr b 0, .sl k []]))) σ' k 0 1) ∨ BD σ0 b (l ++ m) σ') := by
 refine a64 (by simp) ?_
 simp (disch := first | assumption | omega) only [go_sem, reduceCtorEq, ↓reduceIte]
 refine (cc_ok h).mono ?_
 rintro v σ1 ⟨rfl, k, hg⟩
 have hb := hg.at (ASt.set_same _ _ _)
 simp (disch := first | assumption | omega) only [go_sem, reduceCtorEq, Nat.reduceEqDiff, ↓reduceIte, hb]
 refine appsB_by hg (by omega) fun k' σ' hg' => ?_
 have hb' := hg'.at (ASt.set_same _ _ _)
 simp (disch := first | assumption | omega) only [go_sem, Nat.reduceEqDiff, Nat.reduceAdd, Nat.reduceLeDiff, ↓reduceIte, Bool.true_and, hb']
 refine retC_by (Drop.refl _) (.refl _) ⟨rfl, ?_⟩
 by_cases he : l ++ m = []
 ·refine .inl ⟨he, k', ?_⟩
  have := hg'.obj (r' := .obj [.ptr b 0, .sl k' (bytesAV (l ++ m))])
  rw [he] at this
  rw [he]
  exact this
 ·exact .inr (.inr ⟨he, k', hg'.obj⟩)
theorem writes1_ok {σ0 σ : ASt} {b : Nat} {l : List UInt8} (h : BD σ0 b l σ) (m : List UInt8) (hm : m ≠ []) (hl : l.length + m.length ≤ 1000000000) :
  ACalls Tryz.prog 64 [.ptr b 0, .str m] σ fun v σ' => v = .tuple [.int .i64 m.length, .nili] ∧ BD σ0 b (l ++ m) σ' :=
 (writes_ok h m hl).mono fun _ _ ⟨h1, h2⟩ => ⟨h1, h2.resolve_left fun h => hm (List.append_eq_nil_iff.1 h.1).2⟩
end Go.A
namespace Go.A
open Go.Proofs
/-! 68: tabular/texts.proper -/
def c68_0 : ACode := .ops [
 ⟨some 2, none, .q (.mv (.v (.str []))), []⟩]
def c68_1 : ACode := .ops [
 ⟨some 3, none, .e (.allocT 109), []⟩]
def c68_2 : ACode := .ops [
 ⟨some 4, none, .q (.mv (.v (.bool false))), []⟩]
def c68_3 : ACode := .ops [
 ⟨some 8, none, .q (.mv (.t 0)), []⟩,
 ⟨some 9, none, .e (.rng (.t 8)), []⟩]
def c68_4 : ACode := .ops [
 ⟨some 10, none, .e (.nxt (.t 9)), []⟩,
 ⟨some 11, none, .q (.ext 0 (.t 10)), []⟩]
def c68_5 : ACode := .cond (.t 11) .skip (.exit 0)
def c68_6 : ACode := .ops [
 ⟨some 12, none, .q (.ext 2 (.t 10)), []⟩,
 ⟨some 6, none, .q (.mv (.t 12)), []⟩]
def c68_7 : ACode := .ops [
 ⟨some 13, none, .q (.mv (.t 6)), []⟩,
 ⟨some 14, none, .q (.i2s (.t 13)), []⟩,
 ⟨some 7, none, .q (.mv (.t 14)), []⟩]
def c68_8 : ACode := .ops [
 ⟨some 15, none, .q (.mv (.t 4)), []⟩]
def c68_9 : ACode := .ops [
 ⟨some 16, none, .q (.mv (.t 7)), []⟩,
 ⟨some 17, none, .e (.call 67 [(.t 16)]), []⟩,
 ⟨some 18, none, .e (.call 64 [(.t 3), (.t 17)]), []⟩]
def c68_10 : ACode := .ops [
 ⟨some 19, none, .q (.mv (.t 7)), []⟩,
 ⟨some 20, none, .e (.call 41 [(.t 19)]), []⟩,
 ⟨some 21, none, .e (.call 64 [(.t 3), (.t 20)]), []⟩]
def c68_11 : ACode := .cond (.t 15) c68_9 c68_10
def c68_12 : ACode := .seq c68_8 c68_11
def c68_13 : ACode := .ops [
 ⟨some 22, none, .q (.mv (.t 6)), []⟩,
 ⟨some 23, none, .e (.call 88 [(.t 22)]), []⟩,
 ⟨some 4, none, .q (.mv (.t 23)), []⟩]
def c68_14 : ACode := .seq c68_12 c68_13
def c68_15 : ACode := .seq c68_7 c68_14
def c68_16 : ACode := .seq c68_6 c68_15
def c68_17 : ACode := .block 1 c68_16
def c68_18 : ACode := .seq c68_5 c68_17
def c68_19 : ACode := .seq c68_4 c68_18
def c68_20 : ACode := .loop c68_19
def c68_21 : ACode := .block 0 c68_20
def c68_22 : ACode := .seq c68_3 c68_21
def c68_23 : ACode := .ops [
 ⟨some 24, none, .e (.call 66 [(.t 3)]), []⟩,
 ⟨some 2, none, .q (.mv (.t 24)), []⟩]
def c68_24 : ACode := .seq c68_23 .ret
def c68_25 : ACode := .seq c68_22 c68_24
def c68_26 : ACode := .seq c68_2 c68_25
def c68_27 : ACode := .seq c68_1 c68_26
def c68_28 : ACode := .seq c68_0 c68_27
@[go_sem] def c68_0_wp := wp_of c68_0.eq_1
@[go_sem] def c68_1_wp := wp_of c68_1.eq_1
@[go_sem] def c68_2_wp := wp_of c68_2.eq_1
@[go_sem] def c68_3_wp := wp_of c68_3.eq_1
@[go_sem] def c68_4_wp := wp_of c68_4.eq_1
@[go_sem] def c68_5_wp := wp_of c68_5.eq_1
@[go_sem] def c68_6_wp := wp_of c68_6.eq_1
@[go_sem] def c68_7_wp := wp_of c68_7.eq_1
@[go_sem] def c68_8_wp := wp_of c68_8.eq_1
@[go_sem] def c68_9_wp := wp_of c68_9.eq_1
@[go_sem] def c68_10_wp := wp_of c68_10.eq_1
@[go_sem] def c68_11_wp := wp_of c68_11.eq_1
@[go_sem] def c68_12_wp := wp_of c68_12.eq_1
@[go_sem] def c68_13_wp := wp_of c68_13.eq_1
@[go_sem] def c68_14_wp := wp_of c68_14.eq_1
@[go_sem] def c68_15_wp := wp_of c68_15.eq_1
@[go_sem] def c68_16_wp := wp_of c68_16.eq_1
@[go_sem] def c68_17_wp := wp_of c68_17.eq_1
@[go_sem] def c68_18_wp := wp_of c68_18.eq_1
@[go_sem] def c68_19_wp := wp_of c68_19.eq_1
@[go_sem] def c68_20_wp := wp_of c68_20.eq_1
@[go_sem] def c68_21_wp := wp_of c68_21.eq_1
@[go_sem] def c68_22_wp := wp_of c68_22.eq_1
@[go_sem] def c68_23_wp := wp_of c68_23.eq_1
@[go_sem] def c68_24_wp := wp_of c68_24.eq_1
@[go_sem] def c68_25_wp := wp_of c68_25.eq_1
@[go_sem] def c68_26_wp := wp_of c68_26.eq_1
@[go_sem] def c68_27_wp := wp_of c68_27.eq_1
@[go_sem] def c68_28_wp := wp_of c68_28.eq_1
def c68 : AFn := ⟨25, [.t 2], c68_28⟩
theorem c68_ok : compF Tryz.prog Tryz.f68 = some c68 := by kernel_rfl
theorem a68 {args : List AV} {σ : ASt} {R : AV → ASt → Prop} (hl : args.length ≤ 25) (h : c68_28.wp Tryz.prog (RetQ [.t 2] R) (init args) σ) : ACalls Tryz.prog 68 args σ R := acalls_of Tryz.func68 c68_ok hl h
end Go.A
namespace Go.A
open Go.Proofs Go.Lib
def encU (r : Int) : List UInt8 := (Utf8.encode r).data.toList
theorem encU_len (r : Int) : 1 ≤ (encU r).length ∧ (encU r).length ≤ 4 := by
 have h := encode_size_le r
 have e : (encU r).length = (Utf8.encode r).size := rfl
 refine ⟨?_, by omega⟩
 rw [e]
 unfold Utf8.encode
 simp only
 repeat' split
 all_goals simp [ByteArray.size]
def propF : Nat → Bool → List UInt8 → List UInt8
 | 0, _, _ => []
 | k + 1, ins, r => if r = [] then [] else (if ins = true then smallP (encU (decodeL r).1) else greatP (encU (decodeL r).1)) ++ propF k (letterB (decodeL r).1) (r.drop (decodeL r).2)
def propP (s : List UInt8) : List UInt8 := propF s.length false s
theorem propF_fuel : ∀ (k m : Nat) (ins : Bool) (r : List UInt8), r.length ≤ k → r.length ≤ m → propF k ins r = propF m ins r
 | 0, m, ins, r, h, _ => by
   have : r = [] := List.eq_nil_of_length_eq_zero (by omega)
   subst this
   cases m <;> simp [propF]
 | k + 1, 0, ins, r, _, h => by
   have : r = [] := List.eq_nil_of_length_eq_zero (by omega)
   subst this
   simp [propF]
 | k + 1, m + 1, ins, r, h, h' => by
   unfold propF
   by_cases hr : r = []
   ·rw [if_pos hr, if_pos hr]
   have hpos := List.length_pos_iff.2 hr
   have hw := decodeL_width r
   rw [if_neg hr, if_neg hr, propF_fuel k m _ _ (by rw [List.length_drop]; omega) (by rw [List.length_drop]; omega)]
def propQ (ins : Bool) (r : List UInt8) : List UInt8 := propF r.length ins r
theorem propQ_nil (ins : Bool) : propQ ins [] = [] := rfl
theorem propQ_step (ins : Bool) {r : List UInt8} (hr : r ≠ []) : propQ ins r = (if ins = true then smallP (encU (decodeL r).1) else greatP (encU (decodeL r).1)) ++ propQ (letterB (decodeL r).1) (r.drop (decodeL r).2) := by
 have hpos := List.length_pos_iff.2 hr
 have hw := decodeL_width r
 obtain ⟨k, hk⟩ : ∃ k, r.length = k + 1 := ⟨r.length - 1, by omega⟩
 conv => lhs; unfold propQ; rw [hk, propF]
 rw [if_neg hr]
 unfold propQ
 rw [propF_fuel k _ _ _ (by rw [List.length_drop]; omega) (Nat.le_refl _)]
theorem greatP_len (l : List UInt8) : (greatP l).length = l.length := by simp [greatP]
theorem xproper_ok (s : List UInt8) (hs : s.length ≤ 200000) : Pure Tryz.prog 68 [.str s] (.str (propP s)) := by
 intro σ
 obtain ⟨R, hR⟩ : ∃ R, propP s = R := ⟨_, rfl⟩
 rw [hR]
 have hlow := fun c => xlower_ok (encU c) (by have := encU_len c; omega)
 have hgre := fun c => vgreat_ok (encU c) (by have := encU_len c; omega)
 have hlet := xletter_ok
 refine a68 (by simp) ?_
 obtain ⟨F, hF⟩ : ∃ F, F = ACode.wp Tryz.prog c68_24 := ⟨_, rfl⟩
 simp (disch := first | assumption | omega) only [go_sem]
 refine allocTC_by fun b hb => ?_
 simp (disch := first | assumption | omega) only [go_sem, reduceCtorEq, ↓reduceIte, ←hF]
 refine rngC_by fun it hit => ?_
 have hbi : it ≠ b := by rintro rfl; rw [ASt.set_same] at hit; cases hit
 have hit0 : σ it = none := by rwa [ASt.set_ne hbi] at hit
 rw [set_swap (Ne.symm hbi)]
 simp (disch := first | assumption | omega) only [go_sem]
 refine wp_loop_by (fun (q : Nat × Bool × List UInt8) a σ' => q.1 ≤ s.length ∧ q.2.2.length ≤ 4 * q.1 ∧ q.2.2 ++ propQ q.2.1 (s.drop q.1) = R ∧ (a 3 = .ptr b 0 ∧ a 4 = .bool q.2.1 ∧ a 9 = .ptr it 0) ∧ BD (σ.set it (some (.iter s q.1))) b q.2.2 σ') (fun q => s.length - q.1) (0, false, []) (Dr.now ⟨Nat.zero_le _, Nat.zero_le _, ?_, ?_, .inl ⟨rfl, rfl⟩⟩) ?_
 ·rw [← hR, List.drop_zero]; rfl
 ·simp [AFr.upd]
 rintro ⟨p, ins, out⟩ a σ1 ⟨hp, hol, hout, hf, hw⟩
 dsimp only at hp hol hout hf hw ⊢
 have hbi0 : (σ.set it (some (.iter s p))) b = none := by
  rw [ASt.set_ne (Ne.symm hbi)]; exact hb
 by_cases hlt : p < s.length
 ·obtain ⟨h1, h2, h3, h4⟩ := range_at hlt
  obtain ⟨hw', hσit⟩ := hw.iter (r' := .iter s (p + (decodeL (s.drop p)).2)) hbi
  rw [propQ_step ins h1, List.drop_drop] at hout
  generalize decodeL (s.drop p) = D at *
  obtain ⟨r, w⟩ := D
  dsimp only at h3 h4 hout hw'
  have hel := encU_len r
  have hlow := hlow r
  have hgre := hgre r
  have hlet := hlet r
  have hen : (Utf8.encode (r : Int)).data.toList = encU r := rfl
  generalize encU (r : Int) = E at *
  simp (disch := first | assumption | omega) only [go_sem, hf, hσit]
  refine nxt_more hlt ?_
  rw [h2]
  cases ins with
  | true =>
    rw [if_pos rfl] at hout
    simp (disch := first | assumption | omega) only [go_sem, Nat.reduceEqDiff, ↓reduceIte, hf, hen]
    refine hlow.use ?_
    simp (disch := first | assumption | omega) only [go_sem, Nat.reduceEqDiff, ↓reduceIte, hf]
    refine (writes1_ok hw' (smallP E) (fun e => by have := congrArg List.length e; rw [smallP_len, List.length_nil] at this; omega) (by rw [smallP_len]; omega)).mono ?_
    rintro v σ2 ⟨rfl, hw2⟩
    simp (disch := first | assumption | omega) only [go_sem, Nat.reduceEqDiff, ↓reduceIte]
    refine hlet.use ?_
    simp (disch := first | assumption | omega) only [go_sem, ↓reduceIte]
    refine ⟨(p + w, letterB r, out ++ smallP E), by dsimp only; omega, Dr.now ⟨h4, by show (out ++ smallP E).length ≤ 4 * (p + w); rw [List.length_append, smallP_len]; omega, by rw [List.append_assoc]; exact hout, ?_, hw2⟩⟩
    simp [AFr.upd, hf]
  | false =>
    rw [if_neg (by decide)] at hout
    simp (disch := first | assumption | omega) only [go_sem, Nat.reduceEqDiff, ↓reduceIte, hf, hen]
    refine hgre.use ?_
    simp (disch := first | assumption | omega) only [go_sem, Nat.reduceEqDiff, ↓reduceIte, hf]
    refine (writes1_ok hw' (greatP E) (fun e => by have := congrArg List.length e; rw [greatP_len, List.length_nil] at this; omega) (by rw [greatP_len]; omega)).mono ?_
    rintro v σ2 ⟨rfl, hw2⟩
    simp (disch := first | assumption | omega) only [go_sem, Nat.reduceEqDiff, ↓reduceIte]
    refine hlet.use ?_
    simp (disch := first | assumption | omega) only [go_sem, ↓reduceIte]
    refine ⟨(p + w, letterB r, out ++ greatP E), by dsimp only; omega, Dr.now ⟨h4, by show (out ++ greatP E).length ≤ 4 * (p + w); rw [List.length_append, greatP_len]; omega, by rw [List.append_assoc]; exact hout, ?_, hw2⟩⟩
    simp [AFr.upd, hf]
 ·rw [List.drop_eq_nil_of_le (by omega), propQ_nil, List.append_nil] at hout
  subst hout
  have hσit := (hw.iter (r' := .iter s p) hbi).2
  have hov := (hw.over hbi0).drop
  simp (disch := first | assumption | omega) only [go_sem, hf, hσit]
  refine nxt_over (by omega) ?_
  simp (disch := first | assumption | omega) only [go_sem, ↓reduceIte]
  rw [hF]
  simp (disch := first | assumption | omega) only [go_sem, Nat.reduceEqDiff, ↓reduceIte, hf]
  refine (bstring_ok hw (by omega)).mono ?_
  rintro v σ2 ⟨rfl, rfl⟩
  simp (disch := first | assumption | omega) only [go_sem, ↓reduceIte]
  exact retC_by (hov.trans (Drop.set hit0)) (.refl _) ⟨rfl, rfl⟩
end Go.A
namespace Go.A
open Go.Proofs Go.Lib
def errV : List (List UInt8) := [[35, 68, 73, 86, 47, 48, 33], [35, 78, 85, 77, 33], [35, 86, 65, 76, 85, 69, 33], [35, 82, 69, 70, 33], [35, 78, 47, 65], [35, 78, 65, 77, 69, 63], [35, 67, 89, 67, 76, 69, 33]]
def showP : PV → List UInt8
 | .fail n => errV.getD (n - 1).toNat []
 | v => (asTextP v).1
theorem show_ok {σ : ASt} (hT : Tab σ) (v : PV) (hv : v.good) : ACalls Tryz.prog 11 [v.av] σ fun r σ' => r = .str (showP v) ∧ σ' = σ := by
 have h1 := failed_ok v
 have h2 := asText_ok hT v hv
 have h3 := errors_ok
 have hc : (∃ m, v = .fail m) ∨ (failedP v = (0, false) ∧ showP v = (asTextP v).1) := by
  cases v <;> first | exact .inl ⟨_, rfl⟩ | exact .inr ⟨rfl, rfl⟩
 rcases hc with ⟨m, rfl⟩ | ⟨hc, hs⟩
 ·have hm : 1 ≤ m ∧ m ≤ 7 := hv
  have hcs : m = 1 ∨ m = 2 ∨ m = 3 ∨ m = 4 ∨ m = 5 ∨ m = 6 ∨ m = 7 := by omega
  simp only [failedP, PV.av] at h1 ⊢
  refine a11 (by simp) ?_
  simp (disch := first | assumption | omega) only [go_sem, reduceCtorEq, ↓reduceIte]
  refine h1.use ?_
  simp (disch := first | assumption | omega) only [go_sem, Nat.reduceEqDiff, ↓reduceIte]
  refine h3.use ?_
  rcases hcs with rfl | rfl | rfl | rfl | rfl | rfl | rfl
  all_goals
   simp (disch := first | assumption | omega) only [go_sem, Nat.reduceEqDiff, ↓reduceIte, Int.reduceSub, Int.reduceToNat]
   exact retC_by (Drop.refl _) (.refl _) ⟨rfl, rfl⟩
 ·rw [hc] at h1
  rw [hs]
  generalize (asTextP v).1 = t at *
  generalize (asTextP v).2 = f at *
  generalize v.av = a at *
  refine a11 (by simp) ?_
  simp (disch := first | assumption | omega) only [go_sem, reduceCtorEq, ↓reduceIte]
  refine h1.use ?_
  simp (disch := first | assumption | omega) only [go_sem, reduceCtorEq, Nat.reduceEqDiff, ↓reduceIte]
  refine h2.mono ?_
  rintro r σ' ⟨rfl, rfl⟩
  simp (disch := first | assumption | omega) only [go_sem, Nat.reduceEqDiff, ↓reduceIte]
  exact retC_by (Drop.refl _) (.refl _) ⟨rfl, rfl⟩
end Go.A
