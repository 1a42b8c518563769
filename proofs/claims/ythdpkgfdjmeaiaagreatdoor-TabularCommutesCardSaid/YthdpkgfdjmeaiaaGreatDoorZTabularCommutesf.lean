/- Part 6 of what TabularCommutes leans on: CodeGc Gc CodeGd Gd Tg Za Zu Wc Ea Zd CodeEq CodeWb CodeZe Ze CodeZg Zg CodeZw CodeEb Eb CodeEc Ec CodeEd CodeEe Ee CodeEh Eh Ej. -/
import Derived.Test.YthdpkgfdjmeaiaaGreatDoorProg
import Derived.KernelRfl
import Derived.Lib.MapLaws
import Derived.Lib.RuneCount
import Derived.Lib.LaidU8
import Derived.Lib.ItoaNum
import Derived.Test.YthdpkgfdjmeaiaaGreatDoorZTabularCommutese
set_option linter.defProp false
set_option linter.unusedSimpArgs false
set_option linter.unusedVariables false
set_option maxRecDepth 100000
namespace Go.A
open Go.Proofs
/-! 173: tabular/addr.Read -/
def c173_15 : ACode := .seq (.seq (.ops [ oq 25 (.mv (.t 5)), oq 26 (.mv (.t 0)), oq 27 (.lenS (.t 26)), oq 28 (.bin .lss (.t 25) (.t 27)), oq 29 (.mv (.t 28)), ⟨some 30, some (29, true), .q (.mv (.t 0)), []⟩, ⟨some 31, some (29, true), .q (.mv (.t 5)), []⟩, ⟨some 32, some (29, true), .q (.idx (.t 30) (.t 31)), []⟩, ⟨some 33, some (29, true), .e (.call 186 [(.t 32)]), []⟩, ⟨some 34, some (29, true), .q (.bin .gtr (.t 33) (.v (.int .i64 0))), []⟩, oq 35 (.pick (.t 29) (.t 34) (.v (.bool false)))]) (.cond (.t 35) .skip (.exit 0))) (.block 1 (.ops [ oq 36 (.mv (.t 5)), oq 37 (.bin .add (.t 36) (.v (.int .i64 1))), oq 5 (.mv (.t 37))]))
def c173_38 : ACode := .seq (.seq (.ops [ oq 63 (.mv (.t 5)), oq 64 (.mv (.t 0)), oq 65 (.lenS (.t 64)), oq 66 (.bin .lss (.t 63) (.t 65)), oq 67 (.mv (.t 66)), ⟨some 68, some (67, true), .q (.mv (.t 0)), []⟩, ⟨some 69, some (67, true), .q (.mv (.t 5)), []⟩, ⟨some 70, some (67, true), .q (.idx (.t 68) (.t 69)), []⟩, ⟨some 71, some (67, true), .q (.bin .geq (.t 70) (.v (.int .u8 48))), []⟩, oq 72 (.pick (.t 67) (.t 71) (.v (.bool false))), oq 73 (.mv (.t 72)), ⟨some 74, some (73, true), .q (.mv (.t 0)), []⟩, ⟨some 75, some (73, true), .q (.mv (.t 5)), []⟩, ⟨some 76, some (73, true), .q (.idx (.t 74) (.t 75)), []⟩, ⟨some 77, some (73, true), .q (.bin .leq (.t 76) (.v (.int .u8 57))), []⟩, oq 78 (.pick (.t 73) (.t 77) (.v (.bool false)))]) (.cond (.t 78) .skip (.exit 2))) (.block 3 (.seq (.ops [ oq 79 (.mv (.t 9)), oq 80 (.bin .mul (.v (.int .i64 10)) (.t 79)), oq 81 (.mv (.t 0)), oq 82 (.mv (.t 5)), oq 83 (.idx (.t 81) (.t 82)), oq 84 (.bin .sub (.t 83) (.v (.int .u8 48))), oq 85 (.conv .i64 (.t 84)), oq 86 (.bin .add (.t 80) (.t 85)), oq 87 (.mnx false (.t 86) (.v (.int .i64 3001))), oq 9 (.mv (.t 87))]) (.ops [ oq 88 (.mv (.t 5)), oq 89 (.bin .add (.t 88) (.v (.int .i64 1))), oq 5 (.mv (.t 89))])))
def c173_50 : ACode := .seq (.seq (.ops [ oq 90 (.mv (.t 9)), oq 91 (.bin .lss (.t 90) (.v (.int .i64 1))), oq 92 (.mv (.t 91)), ⟨some 93, some (92, false), .q (.mv (.t 9)), []⟩, ⟨some 94, some (92, false), .q (.bin .gtr (.t 93) (.v (.int .i64 3000))), []⟩, oq 95 (.pick (.t 92) (.v (.bool true)) (.t 94)), oq 96 (.mv (.t 95)), ⟨some 97, some (96, false), .q (.mv (.t 0)), []⟩, ⟨some 98, some (96, false), .q (.mv (.t 10)), []⟩, ⟨some 99, some (96, false), .q (.idx (.t 97) (.t 98)), []⟩, ⟨some 100, some (96, false), .q (.bin .eql (.t 99) (.v (.int .u8 48))), []⟩, oq 101 (.pick (.t 96) (.v (.bool true)) (.t 100)), oq 102 (.mv (.t 101)), ⟨some 103, some (102, false), .q (.mv (.t 0)), []⟩, ⟨some 104, some (102, false), .q (.mv (.t 5)), []⟩, ⟨some 105, some (102, false), .e (.call 188 [(.t 103), (.t 104)]), []⟩, ⟨some 106, some (102, false), .e (.call 186 [(.t 105)]), []⟩, ⟨some 107, some (102, false), .q (.bin .gtr (.t 106) (.v (.int .i64 0))), []⟩, oq 108 (.pick (.t 102) (.v (.bool true)) (.t 107)), oq 109 (.mv (.t 108)), ⟨some 110, some (109, false), .q (.mv (.t 0)), []⟩, ⟨some 111, some (109, false), .q (.mv (.t 5)), []⟩, ⟨some 112, some (109, false), .e (.call 188 [(.t 110), (.t 111)]), []⟩, ⟨some 113, some (109, false), .q (.bin .eql (.t 112) (.v (.int .u8 95))), []⟩, oq 114 (.pick (.t 109) (.v (.bool true)) (.t 113))]) (.cond (.t 114) (.seq (.ops [ oq 115 (.build [(.int .i64 0), (.int .i64 0), (.bool false), (.bool false)] []), oz (.store 4 (.t 2) (.t 115)), oq 3 (.mv (.v (.int .i64 0)))]) .ret) .skip)) (.seq (.ops [ oq 116 (.mv (.t 9)), oq 117 (.bin .sub (.t 116) (.v (.int .i64 1))), oq 118 (.mv (.t 7)), oq 119 (.fa 0 (.t 4)), oz (.store 1 (.t 119) (.t 117)), oq 120 (.fa 1 (.t 4)), oz (.store 1 (.t 120) (.t 118))]) (.seq (.ops [ oq 121 (.ld (some 4) (.t 4)), oq 122 (.mv (.t 5)), oz (.store 4 (.t 2) (.t 121)), oq 3 (.mv (.t 122))]) .ret))
def c173_52 : ACode := .seq (.ops [ oq 62 (.mv (.t 5)), oq 9 (.mv (.v (.int .i64 0))), oq 10 (.mv (.t 62))]) (.seq (.block 2 (.loop c173_38)) c173_50)
def c173_53 : ACode := .seq (.seq (.ops [ oq 49 (.mv (.t 5)), oq 50 (.mv (.t 0)), oq 51 (.lenS (.t 50)), oq 52 (.bin .lss (.t 49) (.t 51)), oq 53 (.mv (.t 52)), ⟨some 54, some (53, true), .q (.mv (.t 0)), []⟩, ⟨some 55, some (53, true), .q (.mv (.t 5)), []⟩, ⟨some 56, some (53, true), .q (.idx (.t 54) (.t 55)), []⟩, ⟨some 57, some (53, true), .q (.bin .eql (.t 56) (.v (.int .u8 36))), []⟩, oq 58 (.pick (.t 53) (.t 57) (.v (.bool false)))]) (.cond (.t 58) (.seq (.ops [ oq 59 (.fa 2 (.t 4)), oz (.store 1 (.t 59) (.v (.bool true)))]) (.ops [ oq 60 (.mv (.t 5)), oq 61 (.bin .add (.t 60) (.v (.int .i64 1))), oq 5 (.mv (.t 61))])) .skip)) c173_52
def c173_54 : ACode := .seq (.seq (.ops [ oq 46 (.mv (.t 8)), oq 47 (.un .not (.t 46))]) (.cond (.t 47) (.seq (.ops [ oq 48 (.build [(.int .i64 0), (.int .i64 0), (.bool false), (.bool false)] []), oz (.store 4 (.t 2) (.t 48)), oq 3 (.mv (.v (.int .i64 0)))]) .ret) .skip)) c173_53
def c173_55 : ACode := .seq (.ops [ oq 39 (.mv (.t 0)), oq 40 (.mv (.t 6)), oq 41 (.mv (.t 5)), oq 42 (.sls (true, 0) (.t 39) (.t 40) (.t 41)), oe 43 (.call 187 [(.t 42)]), oq 38 (.mv (.t 43)), oq 44 (.ext 0 (.t 38)), oq 45 (.ext 1 (.t 38)), oq 7 (.mv (.t 44)), oq 8 (.mv (.t 45))]) c173_54
def c173_57 : ACode := .seq (.ops [ oq 24 (.mv (.t 5)), oq 6 (.mv (.t 24))]) (.seq (.block 0 (.loop c173_15)) c173_55)
def c173_58 : ACode := .seq (.seq (.ops [ oq 11 (.mv (.t 5)), oq 12 (.mv (.t 0)), oq 13 (.lenS (.t 12)), oq 14 (.bin .lss (.t 11) (.t 13)), oq 15 (.mv (.t 14)), ⟨some 16, some (15, true), .q (.mv (.t 0)), []⟩, ⟨some 17, some (15, true), .q (.mv (.t 5)), []⟩, ⟨some 18, some (15, true), .q (.idx (.t 16) (.t 17)), []⟩, ⟨some 19, some (15, true), .q (.bin .eql (.t 18) (.v (.int .u8 36))), []⟩, oq 20 (.pick (.t 15) (.t 19) (.v (.bool false)))]) (.cond (.t 20) (.seq (.ops [ oq 21 (.fa 3 (.t 4)), oz (.store 1 (.t 21) (.v (.bool true)))]) (.ops [ oq 22 (.mv (.t 5)), oq 23 (.bin .add (.t 22) (.v (.int .i64 1))), oq 5 (.mv (.t 23))])) .skip)) c173_57
def c173_59 : ACode := .seq (.ops [ oq 5 (.mv (.v (.int .i64 0)))]) c173_58
def c173_60 : ACode := .seq (.ops [ oe 4 (.alloc [(.int .i64 0), (.int .i64 0), (.bool false), (.bool false)])]) c173_59
def c173_61 : ACode := .seq (.ops [ oe 2 (.alloc [(.int .i64 0), (.int .i64 0), (.bool false), (.bool false)]), oq 3 (.mv (.v (.int .i64 0)))]) c173_60
@[go_sem] def c173_15_wp := wp_of c173_15.eq_1
@[go_sem] def c173_38_wp := wp_of c173_38.eq_1
@[go_sem] def c173_50_wp := wp_of c173_50.eq_1
@[go_sem] def c173_52_wp := wp_of c173_52.eq_1
@[go_sem] def c173_53_wp := wp_of c173_53.eq_1
@[go_sem] def c173_54_wp := wp_of c173_54.eq_1
@[go_sem] def c173_55_wp := wp_of c173_55.eq_1
@[go_sem] def c173_57_wp := wp_of c173_57.eq_1
@[go_sem] def c173_58_wp := wp_of c173_58.eq_1
@[go_sem] def c173_59_wp := wp_of c173_59.eq_1
@[go_sem] def c173_60_wp := wp_of c173_60.eq_1
@[go_sem] def c173_61_wp := wp_of c173_61.eq_1
def c173 : AFn := ⟨123, [.c 2 (some 4), .t 3], c173_61⟩
theorem c173_ok : compF Tryz.prog Tryz.f173 = some c173 := by kernel_rfl
theorem a173 {args : List AV} {σ : ASt} {R : AV → ASt → Prop} (hl : args.length ≤ 123) (h : c173_61.wp Tryz.prog (RetQ [.c 2 (some 4), .t 3] R) (init args) σ) : ACalls Tryz.prog 173 args σ R := acalls_of Tryz.func173 c173_ok hl h
/-! 188: tabular/addr.at -/
def c188_9 : ACode := .seq (.ops [ oq 4 (.mv (.v (.int .u8 0)))]) (.seq (.seq (.ops [ oq 5 (.mv (.t 1)), oq 6 (.mv (.t 0)), oq 7 (.lenS (.t 6)), oq 8 (.bin .lss (.t 5) (.t 7))]) (.cond (.t 8) (.seq (.ops [ oq 9 (.mv (.t 0)), oq 10 (.mv (.t 1)), oq 11 (.idx (.t 9) (.t 10)), oq 4 (.mv (.t 11))]) .ret) .skip)) (.seq (.ops [ oq 4 (.mv (.v (.int .u8 0)))]) .ret))
@[go_sem] def c188_9_wp := wp_of c188_9.eq_1
def c188 : AFn := ⟨12, [.t 4], c188_9⟩
theorem c188_ok : compF Tryz.prog Tryz.f188 = some c188 := by kernel_rfl
theorem a188 {args : List AV} {σ : ASt} {R : AV → ASt → Prop} (hl : args.length ≤ 12) (h : c188_9.wp Tryz.prog (RetQ [.t 4] R) (init args) σ) : ACalls Tryz.prog 188 args σ R := acalls_of Tryz.func188 c188_ok hl h
end Go.A
namespace Go.A
open Go.Proofs
def atP (l : List UInt8) (i : Nat) : Int := match l[i]? with
 | some c => c.toNat
 | none => 0
theorem atP_bd (l : List UInt8) (i : Nat) : 0 ≤ atP l i ∧ atP l i ≤ 255 := by
 unfold atP
 split
 ·rename_i c _; have := c.toNat_lt; omega
 ·omega
theorem at_ok (l : List UInt8) (i : Nat) (hl : l.length ≤ 9223372036854775807) (hi : i ≤ l.length) : Pure Tryz.prog 188 [.str l, .int .i64 i] (.int .u8 (atP l i)) := by
 intro σ
 refine a188 (by simp) ?_
 unfold atP
 by_cases hlt : i < l.length
 ·have hidx : l[i]? = some (l[i]'hlt) := List.getElem?_eq_getElem hlt
  rw [hidx]
  simp (disch := first | assumption | omega) only [go_sem, reduceCtorEq, Nat.reduceEqDiff, ↓reduceIte, hidx]
  exact retC_by (Drop.refl _) (.refl _) ⟨rfl, rfl⟩
 ·rw [List.getElem?_eq_none (by omega)]
  simp (disch := first | assumption | omega) only [go_sem, reduceCtorEq, Nat.reduceEqDiff, ↓reduceIte]
  exact retC_by (Drop.refl _) (.refl _) ⟨rfl, rfl⟩
def runL (p : UInt8 → Bool) : List UInt8 → Nat
 | [] => 0
 | c :: cs => if p c then runL p cs + 1 else 0
theorem runL_le (p : UInt8 → Bool) : ∀ l, runL p l ≤ l.length
 | [] => Nat.le_refl _
 | c :: cs => by
   have := runL_le p cs
   unfold runL
   split <;> simp <;> omega
def isL (c : UInt8) : Bool := decide (0 < letterP c.toNat)
def isD (c : UInt8) : Bool := decide (48 ≤ c.toNat ∧ c.toNat ≤ 57)
def numF : Int → List UInt8 → Int
 | n, [] => n
 | n, c :: cs => if isD c then numF (min (10 * n + (c.toNat - 48)) 3001) cs else n
def readQ (l : List UInt8) (i : Nat) (col : Int) (ar ac : Bool) : Ref × Int :=
 if numF 0 (l.drop i) < 1 ∨ 3000 < numF 0 (l.drop i) ∨ atP l i = 48 ∨ 0 < letterP (atP l (i + runL isD (l.drop i))) ∨ atP l (i + runL isD (l.drop i)) = 95 then (.zero, 0)
 else (⟨numF 0 (l.drop i) - 1, col, ar, ac⟩, (i + runL isD (l.drop i) : Nat))
set_option maxHeartbeats 1000000 in
theorem read2 (l : List UInt8) (hl : l.length ≤ 9223372036854775000) (σ : ASt) (b0 b1 : Nat) (hb0 : σ b0 = none) (hb1 : σ b1 = none) (n1 : b0 ≠ b1) (i2 : Nat) (hi2 : i2 ≤ l.length) (col : Int) (ar ac : Bool) (q : Ref × Int) (hq : readQ l i2 col ar ac = q)
  (a : AFr) (h0 : a 0 = .str l) (h2 : a 2 = .ptr b0 0) (h4 : a 4 = .ptr b1 0) (h5 : a 5 = .int .i64 i2) (h7 : a 7 = .int .i64 col) :
  ACode.wp Tryz.prog c173_52 (RetQ [.c 2 (some 4), .t 3] fun v σ' => v = .tuple [refAV q.1, .int .i64 q.2] ∧ σ' = σ) a
   ((σ.set b0 (some (.obj [.int .i64 0, .int .i64 0, .bool false, .bool false]))).set b1 (some (.obj [.int .i64 0, .int .i64 0, .bool ar, .bool ac]))) := by
 have n2 : b1 ≠ b0 := Ne.symm n1
 obtain ⟨F, hF⟩ : ∃ F, F = ACode.wp Tryz.prog c173_50 := ⟨_, rfl⟩
 have fin : ∀ (i : Nat) (n : Int) (a : AFr), i2 ≤ i → i ≤ l.length → 0 ≤ n → n ≤ 3001 → (n = 0 ∨ i2 < i) → i2 + runL isD (l.drop i2) = i → numF 0 (l.drop i2) = n →
   a 0 = .str l → a 2 = .ptr b0 0 → a 4 = .ptr b1 0 → a 5 = .int .i64 i → a 7 = .int .i64 col → a 9 = .int .i64 n → a 10 = .int .i64 i2 →
   F (RetQ [.c 2 (some 4), .t 3] fun v σ' => v = .tuple [refAV q.1, .int .i64 q.2] ∧ σ' = σ) a
    ((σ.set b0 (some (.obj [.int .i64 0, .int .i64 0, .bool false, .bool false]))).set b1 (some (.obj [.int .i64 0, .int .i64 0, .bool ar, .bool ac]))) := by
  rw [hF]
  intro i n a hi hil hn0 hn1 hni hrun hnum h0 h2 h4 h5 h7 h9 h10
  unfold readQ at hq
  rw [hrun, hnum] at hq
  by_cases hn : n < 1
  ·rw [if_pos (.inl hn)] at hq
   subst hq
   repeat' (first | (simp (disch := first | assumption | omega) only [go_sem, Nat.reduceEqDiff, Nat.reduceAdd, Nat.reduceLeDiff, ↓reduceIte, Bool.true_and, h2, h9, hn, refAV]) | with_reducible refine gC_d (fun h => ?_) (fun h => ?_) | with_reducible refine gC_dn (fun h => ?_) (fun h => ?_) | with_reducible refine condC_d (fun h => ?_) (fun h => ?_) | with_reducible refine condC_n (fun h => ?_) (fun h => ?_) | with_reducible refine condC_b (fun h => ?_) (fun h => ?_) | with_reducible refine boxC_by ?_ fun b hb => ?_)
   all_goals exact retC_by (by repeat' (first | exact Drop.refl _ | with_reducible refine Drop.off ?_ (by assumption))) (.refl _) ⟨rfl, rfl⟩
  ·have hidx : l[i2]? = some (l[i2]'(by omega)) := List.getElem?_eq_getElem (by omega)
   obtain ⟨c, hc⟩ : ∃ c, l[i2]'(by omega) = c := ⟨_, rfl⟩
   rw [hc] at hidx
   have hat : atP l i2 = c.toNat := by unfold atP; rw [hidx]
   rw [hat] at hq
   have hb := atP_bd l i
   repeat' (first | (simp (disch := first | assumption | omega) only [go_sem, reduceCtorEq, Nat.reduceEqDiff, Nat.reduceAdd, Nat.reduceLeDiff, ↓reduceIte, Bool.true_and, h0, h2, h4, h5, h7, h9, h10, hn, hidx, refAV]) | refine (at_ok l i (by omega) hil).use ?_ | refine (letter_ok _ hb.1 hb.2).use ?_ | with_reducible refine gC_d (fun h => ?_) (fun h => ?_) | with_reducible refine gC_dn (fun h => ?_) (fun h => ?_) | with_reducible refine condC_d (fun h => ?_) (fun h => ?_) | with_reducible refine condC_n (fun h => ?_) (fun h => ?_) | with_reducible refine condC_b (fun h => ?_) (fun h => ?_) | with_reducible refine boxC_by ?_ fun b hb => ?_)
   all_goals first
    | (rw [if_pos (by omega)] at hq
       subst hq
       exact retC_by (by repeat' (first | exact Drop.refl _ | with_reducible refine Drop.off ?_ (by assumption))) (.refl _) ⟨rfl, rfl⟩)
    | (rw [if_neg (by omega)] at hq
       subst hq
       exact retC_by (by repeat' (first | exact Drop.refl _ | with_reducible refine Drop.off ?_ (by assumption))) (.refl _) ⟨rfl, rfl⟩)
 simp (disch := first | assumption | omega) only [go_sem, Nat.reduceEqDiff, ↓reduceIte, h5]
 rw [← hF]
 refine wp_loop_by (fun (i : Nat × Int) a σ' => i2 ≤ i.1 ∧ i.1 ≤ l.length ∧ 0 ≤ i.2 ∧ i.2 ≤ 3001 ∧ (i.2 = 0 ∨ i2 < i.1) ∧ i2 + runL isD (l.drop i2) = i.1 + runL isD (l.drop i.1) ∧ numF 0 (l.drop i2) = numF i.2 (l.drop i.1) ∧
  a 0 = .str l ∧ a 2 = .ptr b0 0 ∧ a 4 = .ptr b1 0 ∧ a 5 = .int .i64 i.1 ∧ a 7 = .int .i64 col ∧ a 9 = .int .i64 i.2 ∧ a 10 = .int .i64 i2 ∧
  σ' = (σ.set b0 (some (.obj [.int .i64 0, .int .i64 0, .bool false, .bool false]))).set b1 (some (.obj [.int .i64 0, .int .i64 0, .bool ar, .bool ac]))) (fun i => l.length - i.1) (i2, 0)
  (Dr.now ⟨Nat.le_refl _, hi2, by simp, by simp, .inl rfl, rfl, rfl, ?_, ?_, ?_, ?_, ?_, ?_, ?_, rfl⟩) ?_
 ·simp (disch := first | assumption | omega) only [go_sem, reduceCtorEq, ↓reduceIte, h0]
 ·simp (disch := first | assumption | omega) only [go_sem, Nat.reduceEqDiff, ↓reduceIte, h2]
 ·simp (disch := first | assumption | omega) only [go_sem, Nat.reduceEqDiff, ↓reduceIte, h4]
 ·simp (disch := first | assumption | omega) only [go_sem, Nat.reduceEqDiff, ↓reduceIte, h5]
 ·simp (disch := first | assumption | omega) only [go_sem, Nat.reduceEqDiff, ↓reduceIte, h7]
 ·simp (disch := first | assumption | omega) only [go_sem, Nat.reduceEqDiff, ↓reduceIte]
 ·simp (disch := first | assumption | omega) only [go_sem, ↓reduceIte]
 clear h0 h2 h4 h5 h7
 rintro ⟨i, n⟩ a σ1 ⟨hi, hil, hn0, hn1, hni, hrun, hnum, h0, h2, h4, h5, h7, h9, h10, rfl⟩
 dsimp only at hi hil hn0 hn1 hni hrun hnum h5 h9
 by_cases hlt : i < l.length
 ·have hidx : l[i]? = some (l[i]'hlt) := List.getElem?_eq_getElem hlt
  obtain ⟨c, hc⟩ : ∃ c, l[i]'hlt = c := ⟨_, rfl⟩
  rw [hc] at hidx
  have hcb : (c.toNat : Int) ≤ 255 := by have := c.toNat_lt; omega
  rw [List.drop_eq_getElem_cons hlt, hc, runL] at hrun
  rw [List.drop_eq_getElem_cons hlt, hc, numF] at hnum
  have hat : atP l i = c.toNat := by unfold atP; rw [hidx]
  by_cases hd : 48 ≤ (c.toNat : Int) ∧ (c.toNat : Int) ≤ 57
  ·have hD : isD c = true := by unfold isD; simp; omega
   rw [if_pos hD] at hrun hnum
   have hd1 := hd.1
   have hd2 := hd.2
   simp (disch := first | assumption | omega) only [go_sem, reduceCtorEq, Nat.reduceEqDiff, ↓reduceIte, h0, h5, h9, hidx, hd1, hd2]
   refine ⟨(i + 1, min (10 * n + (c.toNat - 48)) 3001), by dsimp only; omega, Dr.now ⟨by dsimp only; omega, by dsimp only; omega, by dsimp only; omega, by dsimp only; omega, by dsimp only; omega, by dsimp only; omega, hnum, ?_, ?_, ?_, ?_, ?_, ?_, ?_, rfl⟩⟩
   ·simp (disch := first | assumption | omega) only [go_sem, reduceCtorEq, ↓reduceIte, h0]
   ·simp (disch := first | assumption | omega) only [go_sem, Nat.reduceEqDiff, ↓reduceIte, h2]
   ·simp (disch := first | assumption | omega) only [go_sem, Nat.reduceEqDiff, ↓reduceIte, h4]
   ·simp (disch := first | assumption | omega) only [go_sem, ↓reduceIte]
   ·simp (disch := first | assumption | omega) only [go_sem, Nat.reduceEqDiff, ↓reduceIte, h7]
   ·simp (disch := first | assumption | omega) only [go_sem, Nat.reduceEqDiff, ↓reduceIte]
   ·simp (disch := first | assumption | omega) only [go_sem, Nat.reduceEqDiff, ↓reduceIte, h10]
  ·have hD : ¬ isD c = true := by unfold isD; simp; omega
   rw [if_neg hD] at hrun hnum
   repeat' (first | (simp (disch := first | assumption | omega) only [go_sem, reduceCtorEq, Nat.reduceEqDiff, ↓reduceIte, h0, h5, hidx]) | with_reducible refine gC_d (fun h => ?_) (fun h => ?_) | with_reducible refine gC_dn (fun h => ?_) (fun h => ?_) | with_reducible refine condC_d (fun h => ?_) (fun h => ?_) | with_reducible refine condC_n (fun h => ?_) (fun h => ?_) | with_reducible refine condC_b (fun h => ?_) (fun h => ?_) | with_reducible refine boxC_by ?_ fun b hb => ?_)
   all_goals first | (exfalso; omega) | skip
   all_goals refine fin i n _ hi hil hn0 hn1 hni (by omega) hnum ?_ ?_ ?_ ?_ ?_ ?_ ?_ <;> simp (disch := first | assumption | omega) only [go_sem, reduceCtorEq, Nat.reduceEqDiff, ↓reduceIte, h0, h2, h4, h5, h7, h9, h10]
 ·have e : l.drop i = [] := List.drop_eq_nil_of_le (by omega)
  rw [e, runL] at hrun
  rw [e, numF] at hnum
  simp (disch := first | assumption | omega) only [go_sem, reduceCtorEq, Nat.reduceEqDiff, ↓reduceIte, h0, h5]
  refine fin i n _ hi hil hn0 hn1 hni (by omega) hnum ?_ ?_ ?_ ?_ ?_ ?_ ?_ <;> simp (disch := first | assumption | omega) only [go_sem, reduceCtorEq, Nat.reduceEqDiff, ↓reduceIte, h0, h2, h4, h5, h7, h9, h10]
def readR (l : List UInt8) (i : Nat) (ac : Bool) : Ref × Int :=
 if (columnP ((l.take (i + runL isL (l.drop i))).drop i)).2 = false then (.zero, 0)
 else if atP l (i + runL isL (l.drop i)) = 36 then readQ l (i + runL isL (l.drop i) + 1) (columnP ((l.take (i + runL isL (l.drop i))).drop i)).1 true ac
 else readQ l (i + runL isL (l.drop i)) (columnP ((l.take (i + runL isL (l.drop i))).drop i)).1 false ac
set_option maxHeartbeats 1000000 in
theorem read1 (l : List UInt8) (hl : l.length ≤ 9223372036854775000) (σ : ASt) (b0 b1 : Nat) (hb0 : σ b0 = none) (hb1 : σ b1 = none) (n1 : b0 ≠ b1) (i0 : Nat) (hi0 : i0 ≤ l.length) (ac : Bool) (q : Ref × Int) (hq : readR l i0 ac = q)
  (a : AFr) (h0 : a 0 = .str l) (h2 : a 2 = .ptr b0 0) (h4 : a 4 = .ptr b1 0) (h5 : a 5 = .int .i64 i0) :
  ACode.wp Tryz.prog c173_57 (RetQ [.c 2 (some 4), .t 3] fun v σ' => v = .tuple [refAV q.1, .int .i64 q.2] ∧ σ' = σ) a
   ((σ.set b0 (some (.obj [.int .i64 0, .int .i64 0, .bool false, .bool false]))).set b1 (some (.obj [.int .i64 0, .int .i64 0, .bool false, .bool ac]))) := by
 have n2 : b1 ≠ b0 := Ne.symm n1
 obtain ⟨F2, hF2⟩ : ∃ F, F = ACode.wp Tryz.prog c173_52 := ⟨_, rfl⟩
 obtain ⟨F3, hF3⟩ : ∃ F, F = ACode.wp Tryz.prog c173_53 := ⟨_, rfl⟩
 obtain ⟨F4, hF4⟩ : ∃ F, F = ACode.wp Tryz.prog c173_54 := ⟨_, rfl⟩
 obtain ⟨F5, hF5⟩ : ∃ F, F = ACode.wp Tryz.prog c173_55 := ⟨_, rfl⟩
 have fin : ∀ (i : Nat) (a : AFr), i0 ≤ i → i ≤ l.length → i0 + runL isL (l.drop i0) = i → a 0 = .str l → a 2 = .ptr b0 0 → a 4 = .ptr b1 0 → a 5 = .int .i64 i → a 6 = .int .i64 i0 →
   F5 (RetQ [.c 2 (some 4), .t 3] fun v σ' => v = .tuple [refAV q.1, .int .i64 q.2] ∧ σ' = σ) a
    ((σ.set b0 (some (.obj [.int .i64 0, .int .i64 0, .bool false, .bool false]))).set b1 (some (.obj [.int .i64 0, .int .i64 0, .bool false, .bool ac]))) := by
  intro i a hi hil hrun h0 h2 h4 h5 h6
  unfold readR at hq
  rw [hrun] at hq
  obtain ⟨C, hC⟩ : ∃ C, columnP ((l.take i).drop i0) = C := ⟨_, rfl⟩
  rw [hC] at hq
  obtain ⟨col, ok⟩ := C
  rw [hF5, c173_55_wp, wp_seq', ← hF4]
  simp (disch := first | assumption | omega) only [go_sem, Nat.reduceEqDiff, ↓reduceIte, h0, h5, h6]
  refine (column_ok ((l.take i).drop i0) (by simp; omega)).use ?_
  rw [hC]
  simp (disch := first | assumption | omega) only [go_sem, Nat.reduceEqDiff, ↓reduceIte]
  rw [hF4, c173_54_wp, wp_seq', ← hF3]
  cases ok
  ·rw [if_pos rfl] at hq
   subst hq
   simp (disch := first | assumption | omega) only [go_sem, Nat.reduceEqDiff, Nat.reduceAdd, Nat.reduceLeDiff, ↓reduceIte, Bool.true_and, h2, refAV]
   exact retC_by (by repeat' (first | exact Drop.refl _ | with_reducible refine Drop.off ?_ (by assumption))) (.refl _) ⟨rfl, rfl⟩
  ·rw [if_neg (by simp)] at hq
   simp (disch := first | assumption | omega) only [go_sem, ↓reduceIte]
   rw [hF3, c173_53_wp, wp_seq', ← hF2]
   by_cases hlt : i < l.length
   ·have hidx : l[i]? = some (l[i]'hlt) := List.getElem?_eq_getElem hlt
    obtain ⟨c, hc⟩ : ∃ c, l[i]'hlt = c := ⟨_, rfl⟩
    rw [hc] at hidx
    have hat : atP l i = c.toNat := by unfold atP; rw [hidx]
    rw [hat] at hq
    by_cases h36 : (c.toNat : Int) = 36
    ·rw [if_pos h36] at hq
     simp (disch := first | assumption | omega) only [go_sem, reduceCtorEq, Nat.reduceEqDiff, Nat.reduceAdd, Nat.reduceLeDiff, ↓reduceIte, Bool.true_and, h0, h4, h5, hidx, h36, ASt.set_set]
     rw [hF2]
     refine read2 l hl σ b0 b1 hb0 hb1 n1 (i + 1) (by omega) col true ac q hq _ ?_ ?_ ?_ ?_ ?_ <;> simp (disch := first | assumption | omega) only [go_sem, reduceCtorEq, Nat.reduceEqDiff, ↓reduceIte, h0, h2, h4]
    ·rw [if_neg h36] at hq
     simp (disch := first | assumption | omega) only [go_sem, reduceCtorEq, Nat.reduceEqDiff, ↓reduceIte, h0, h5, hidx, h36]
     rw [hF2]
     refine read2 l hl σ b0 b1 hb0 hb1 n1 i (by omega) col false ac q hq _ ?_ ?_ ?_ ?_ ?_ <;> simp (disch := first | assumption | omega) only [go_sem, reduceCtorEq, Nat.reduceEqDiff, ↓reduceIte, h0, h2, h4, h5]
   ·have hat : atP l i = 0 := by unfold atP; rw [List.getElem?_eq_none (by omega)]
    rw [hat, if_neg (by omega)] at hq
    simp (disch := first | assumption | omega) only [go_sem, reduceCtorEq, Nat.reduceEqDiff, ↓reduceIte, h0, h5]
    rw [hF2]
    refine read2 l hl σ b0 b1 hb0 hb1 n1 i (by omega) col false ac q hq _ ?_ ?_ ?_ ?_ ?_ <;> simp (disch := first | assumption | omega) only [go_sem, reduceCtorEq, Nat.reduceEqDiff, ↓reduceIte, h0, h2, h4, h5]
 rw [c173_57_wp, wp_seq']
 simp (disch := first | assumption | omega) only [go_sem, ↓reduceIte, h5]
 rw [← hF5]
 refine wp_loop_by (fun (i : Nat) a σ' => i0 ≤ i ∧ i ≤ l.length ∧ i0 + runL isL (l.drop i0) = i + runL isL (l.drop i) ∧ a 0 = .str l ∧ a 2 = .ptr b0 0 ∧ a 4 = .ptr b1 0 ∧ a 5 = .int .i64 i ∧ a 6 = .int .i64 i0 ∧
  σ' = (σ.set b0 (some (.obj [.int .i64 0, .int .i64 0, .bool false, .bool false]))).set b1 (some (.obj [.int .i64 0, .int .i64 0, .bool false, .bool ac]))) (fun i => l.length - i) i0
  (Dr.now ⟨Nat.le_refl _, hi0, rfl, ?_, ?_, ?_, ?_, ?_, rfl⟩) ?_
 ·simp (disch := first | assumption | omega) only [go_sem, reduceCtorEq, ↓reduceIte, h0]
 ·simp (disch := first | assumption | omega) only [go_sem, Nat.reduceEqDiff, ↓reduceIte, h2]
 ·simp (disch := first | assumption | omega) only [go_sem, Nat.reduceEqDiff, ↓reduceIte, h4]
 ·simp (disch := first | assumption | omega) only [go_sem, Nat.reduceEqDiff, ↓reduceIte, h5]
 ·simp (disch := first | assumption | omega) only [go_sem, ↓reduceIte]
 clear h0 h2 h4 h5
 rintro i a σ1 ⟨hi, hil, hrun, h0, h2, h4, h5, h6, rfl⟩
 by_cases hlt : i < l.length
 ·have hidx : l[i]? = some (l[i]'hlt) := List.getElem?_eq_getElem hlt
  obtain ⟨c, hc⟩ : ∃ c, l[i]'hlt = c := ⟨_, rfl⟩
  rw [hc] at hidx
  have hcb : (c.toNat : Int) ≤ 255 := by have := c.toNat_lt; omega
  rw [List.drop_eq_getElem_cons hlt, hc, runL] at hrun
  simp (disch := first | assumption | omega) only [go_sem, reduceCtorEq, Nat.reduceEqDiff, ↓reduceIte, h0, h5, hidx]
  refine (letter_ok c.toNat (by omega) hcb).use ?_
  by_cases hL : 0 < letterP c.toNat
  ·rw [if_pos (by unfold isL; simpa using hL)] at hrun
   simp (disch := first | assumption | omega) only [go_sem, Nat.reduceEqDiff, ↓reduceIte, h5, hL]
   refine ⟨i + 1, by dsimp only; omega, Dr.now ⟨by omega, by omega, by omega, ?_, ?_, ?_, ?_, ?_, rfl⟩⟩
   ·simp (disch := first | assumption | omega) only [go_sem, reduceCtorEq, ↓reduceIte, h0]
   ·simp (disch := first | assumption | omega) only [go_sem, Nat.reduceEqDiff, ↓reduceIte, h2]
   ·simp (disch := first | assumption | omega) only [go_sem, Nat.reduceEqDiff, ↓reduceIte, h4]
   ·simp (disch := first | assumption | omega) only [go_sem, ↓reduceIte]
   ·simp (disch := first | assumption | omega) only [go_sem, Nat.reduceEqDiff, ↓reduceIte, h6]
  ·rw [if_neg (by unfold isL; simpa using hL)] at hrun
   simp (disch := first | assumption | omega) only [go_sem, Nat.reduceEqDiff, ↓reduceIte, hL]
   refine fin i _ hi hil (by omega) ?_ ?_ ?_ ?_ ?_ <;> simp (disch := first | assumption | omega) only [go_sem, reduceCtorEq, Nat.reduceEqDiff, ↓reduceIte, h0, h2, h4, h5, h6]
 ·have e : l.drop i = [] := List.drop_eq_nil_of_le (by omega)
  rw [e, runL] at hrun
  simp (disch := first | assumption | omega) only [go_sem, reduceCtorEq, Nat.reduceEqDiff, ↓reduceIte, h0, h5]
  refine fin i _ hi hil (by omega) ?_ ?_ ?_ ?_ ?_ <;> simp (disch := first | assumption | omega) only [go_sem, reduceCtorEq, Nat.reduceEqDiff, ↓reduceIte, h0, h2, h4, h5, h6]
def readP (l : List UInt8) : Ref × Int := if atP l 0 = 36 then readR l 1 true else readR l 0 false
theorem read_ok (l : List UInt8) (hl : l.length ≤ 9223372036854775000) : Pure Tryz.prog 173 [.str l] (.tuple [refAV (readP l).1, .int .i64 (readP l).2]) := by
 intro σ
 obtain ⟨q, hq⟩ : ∃ q, readP l = q := ⟨_, rfl⟩
 rw [hq]
 unfold readP at hq
 refine a173 (by simp) ?_
 obtain ⟨F, hF⟩ : ∃ F, F = ACode.wp Tryz.prog c173_57 := ⟨_, rfl⟩
 obtain ⟨F8, hF8⟩ : ∃ F, F = ACode.wp Tryz.prog c173_58 := ⟨_, rfl⟩
 obtain ⟨F9, hF9⟩ : ∃ F, F = ACode.wp Tryz.prog c173_59 := ⟨_, rfl⟩
 obtain ⟨F0, hF0⟩ : ∃ F, F = ACode.wp Tryz.prog c173_60 := ⟨_, rfl⟩
 rw [c173_61_wp, wp_seq', ← hF0]
 simp (disch := first | assumption | omega) only [go_sem]
 refine allocC_by fun b0 hb0 => ?_
 simp (disch := first | assumption | omega) only [go_sem]
 rw [hF0, c173_60_wp, wp_seq', ← hF9]
 simp (disch := first | assumption | omega) only [go_sem]
 refine allocC_by fun b1 hb1 => ?_
 obtain ⟨n1, n2, hb3⟩ := set_none hb1
 simp (disch := first | assumption | omega) only [go_sem]
 rw [hF9, c173_59_wp, wp_seq', ← hF8]
 simp (disch := first | assumption | omega) only [go_sem]
 rw [hF8, c173_58_wp, wp_seq', ← hF]
 by_cases hlt : 0 < l.length
 ·have hidx : l[0]? = some (l[0]'hlt) := List.getElem?_eq_getElem hlt
  obtain ⟨c, hc⟩ : ∃ c, l[0]'hlt = c := ⟨_, rfl⟩
  rw [hc] at hidx
  have hat : atP l 0 = c.toNat := by unfold atP; rw [hidx]
  have hlt' : (0 : Int) < l.length := by omega
  rw [hat] at hq
  by_cases h36 : (c.toNat : Int) = 36
  ·rw [if_pos h36] at hq
   simp (disch := first | assumption | omega) only [go_sem, reduceCtorEq, Nat.reduceEqDiff, Nat.reduceAdd, Nat.reduceLeDiff, ↓reduceIte, Int.reduceAdd, Bool.true_and, hlt', hidx, h36, ASt.set_set]
   rw [hF]
   refine read1 l hl σ b0 b1 hb0 hb3 n2 1 (by omega) true q hq _ ?_ ?_ ?_ ?_ <;> simp (disch := first | assumption | omega) only [go_sem, reduceCtorEq, Nat.reduceEqDiff, ↓reduceIte]
  ·rw [if_neg h36] at hq
   simp (disch := first | assumption | omega) only [go_sem, reduceCtorEq, Nat.reduceEqDiff, ↓reduceIte, hlt', hidx, h36]
   rw [hF]
   refine read1 l hl σ b0 b1 hb0 hb3 n2 0 (by omega) false q hq _ ?_ ?_ ?_ ?_ <;> simp (disch := first | assumption | omega) only [go_sem, reduceCtorEq, Nat.reduceEqDiff, ↓reduceIte]
 ·have hat : atP l 0 = 0 := by unfold atP; rw [List.getElem?_eq_none (by omega)]
  have hlt' : ¬ (0 : Int) < l.length := by omega
  rw [hat, if_neg (by omega)] at hq
  simp (disch := first | assumption | omega) only [go_sem, reduceCtorEq, Nat.reduceEqDiff, ↓reduceIte, hlt']
  rw [hF]
  refine read1 l hl σ b0 b1 hb0 hb3 n2 0 (by omega) false q hq _ ?_ ?_ ?_ ?_ <;> simp (disch := first | assumption | omega) only [go_sem, reduceCtorEq, Nat.reduceEqDiff, ↓reduceIte]
end Go.A
namespace Go.A
open Go.Proofs
/-! 155: tabular/addr.Parse -/
def c155_11 : ACode := .seq (.ops [ oe 2 (.alloc [(.int .i64 0), (.int .i64 0), (.bool false), (.bool false)]), oq 3 (.mv (.v (.bool false)))]) (.seq (.ops [ oq 7 (.mv (.t 0)), oe 8 (.call 173 [(.t 7)]), oq 6 (.mv (.t 8)), oq 9 (.ext 0 (.t 6)), oq 10 (.ext 1 (.t 6)), oe 4 (.alloc [(.int .i64 0), (.int .i64 0), (.bool false), (.bool false)]), oz (.store 4 (.t 4) (.t 9)), oq 5 (.mv (.t 10))]) (.seq (.seq (.ops [ oq 11 (.mv (.t 5)), oq 12 (.bin .eql (.t 11) (.v (.int .i64 0))), oq 13 (.mv (.t 12)), ⟨some 14, some (13, false), .q (.mv (.t 5)), []⟩, ⟨some 15, some (13, false), .q (.mv (.t 0)), []⟩, ⟨some 16, some (13, false), .q (.lenS (.t 15)), []⟩, ⟨some 17, some (13, false), .q (.bin .lss (.t 14) (.t 16)), []⟩, oq 18 (.pick (.t 13) (.v (.bool true)) (.t 17))]) (.cond (.t 18) (.seq (.ops [ oq 19 (.build [(.int .i64 0), (.int .i64 0), (.bool false), (.bool false)] []), oz (.store 4 (.t 2) (.t 19)), oq 3 (.mv (.v (.bool false)))]) .ret) .skip)) (.seq (.ops [ oq 20 (.ld (some 4) (.t 4)), oz (.store 4 (.t 2) (.t 20)), oq 3 (.mv (.v (.bool true)))]) .ret)))
@[go_sem] def c155_11_wp := wp_of c155_11.eq_1
def c155 : AFn := ⟨21, [.c 2 (some 4), .t 3], c155_11⟩
theorem c155_ok : compF Tryz.prog Tryz.f155 = some c155 := by kernel_rfl
theorem a155 {args : List AV} {σ : ASt} {R : AV → ASt → Prop} (hl : args.length ≤ 21) (h : c155_11.wp Tryz.prog (RetQ [.c 2 (some 4), .t 3] R) (init args) σ) : ACalls Tryz.prog 155 args σ R := acalls_of Tryz.func155 c155_ok hl h
end Go.A
namespace Go.A
open Go.Proofs
def parseP (l : List UInt8) : Ref × Bool := if (readP l).2 = 0 ∨ (readP l).2 < l.length then (.zero, false) else ((readP l).1, true)
theorem parse_ok (l : List UInt8) (hl : l.length ≤ 9223372036854775000) : Pure Tryz.prog 155 [.str l] (.tuple [refAV (parseP l).1, .bool (parseP l).2]) := by
 intro σ
 obtain ⟨q, hq⟩ : ∃ q, parseP l = q := ⟨_, rfl⟩
 rw [hq]
 unfold parseP at hq
 obtain ⟨R, hR⟩ : ∃ R, readP l = R := ⟨_, rfl⟩
 rw [hR] at hq
 obtain ⟨⟨row, col, ar, ac⟩, n⟩ := R
 dsimp only at hq
 refine a155 (by simp) ?_
 simp (disch := first | assumption | omega) only [go_sem]
 refine allocC_by fun b0 hb0 => ?_
 simp (disch := first | assumption | omega) only [go_sem, reduceCtorEq, ↓reduceIte]
 refine (read_ok l hl).use ?_
 rw [hR]
 simp (disch := first | assumption | omega) only [go_sem, Nat.reduceEqDiff, ↓reduceIte, refAV]
 refine allocC_by fun b1 hb1 => ?_
 obtain ⟨n1, n2, hb3⟩ := set_none hb1
 repeat' (first | (simp (disch := first | assumption | omega) only [go_sem, reduceCtorEq, Nat.reduceEqDiff, Nat.reduceAdd, Nat.reduceLeDiff, ↓reduceIte, Bool.true_and]) | with_reducible refine gC_d (fun h => ?_) (fun h => ?_) | with_reducible refine gC_dn (fun h => ?_) (fun h => ?_) | with_reducible refine condC_d (fun h => ?_) (fun h => ?_) | with_reducible refine condC_n (fun h => ?_) (fun h => ?_) | with_reducible refine condC_b (fun h => ?_) (fun h => ?_) | with_reducible refine boxC_by ?_ fun b hb => ?_)
 all_goals first
  | (rw [if_pos (by omega)] at hq
     subst hq
     exact retC_by (by repeat' (first | exact Drop.refl _ | with_reducible refine Drop.off ?_ (by assumption))) (.refl _) ⟨rfl, rfl⟩)
  | (rw [if_neg (by omega)] at hq
     subst hq
     exact retC_by (by repeat' (first | exact Drop.refl _ | with_reducible refine Drop.off ?_ (by assumption))) (.refl _) ⟨rfl, rfl⟩)
end Go.A
namespace Go.A
open Go.Proofs
theorem cut_ok (l : List UInt8) (n : Nat) : Pure Tryz.prog 8 [.str l, .int .i64 n] (.str (l.take n)) := by
 intro σ
 refine a8 (by simp) ?_
 by_cases h : n < l.length
 ·have h' : (n : Int) < l.length := by omega
  simp (disch := first | assumption | omega) only [go_sem, reduceCtorEq, Nat.reduceEqDiff, ↓reduceIte, h']
  exact retC_by (by repeat' (first | exact Drop.refl _ | with_reducible refine Drop.off ?_ (by assumption))) (.refl _) ⟨rfl, rfl⟩
 ·have h' : ¬ (n : Int) < l.length := by omega
  simp (disch := first | assumption | omega) only [go_sem, reduceCtorEq, Nat.reduceEqDiff, ↓reduceIte, h']
  exact retC_by (by repeat' (first | exact Drop.refl _ | with_reducible refine Drop.off ?_ (by assumption))) (.refl _) ⟨by rw [List.take_of_length_le (by omega)]; rfl, rfl⟩
def greatC (c : UInt8) : UInt8 := if 97 ≤ c.toNat ∧ c.toNat ≤ 122 then UInt8.ofNat (c.toNat - 32) else c
def greatP (l : List UInt8) : List UInt8 := l.map greatC
end Go.A
namespace Go.A
open Go.Proofs Go.Lib
def signsN (l : List UInt8) : Nat := runeCount ⟨⟨l⟩⟩
theorem signsN_le (l : List UInt8) : signsN l ≤ l.length := runeCount_le ⟨⟨l⟩⟩
def wordB (c : UInt8) : Bool := decide ((48 ≤ c.toNat ∧ c.toNat ≤ 57) ∨ (97 ≤ c.toNat ∧ c.toNat ≤ 122) ∨ (65 ≤ c.toNat ∧ c.toNat ≤ 90) ∨ c.toNat = 95 ∨ c.toNat = 36 ∨ c.toNat = 46)
def digB (c : UInt8) : Bool := decide (48 ≤ c.toNat ∧ c.toNat ≤ 57)
def nameB (s : List UInt8) : Bool := decide (s ≠ []) && s.all (fun c => wordB c && decide (c.toNat ≠ 36)) && !((s.head?.map fun c => digB c || decide (c.toNat = 46)).getD false)
def cutDot : List UInt8 → List UInt8 × Option (List UInt8)
 | [] => ([], none)
 | c :: r => if c.toNat = 46 then ([], some r) else (c :: (cutDot r).1, (cutDot r).2)
def numB (s : List UInt8) : Bool :=
 match cutDot s with
 | (w, none) => decide (w ≠ []) && w.all digB
 | (w, some p) => decide (w ≠ []) && decide (p ≠ []) && decide (p.length ≤ 4) && (w ++ p).all digB
def refB (s : List UInt8) : Bool := (parseP s).2
inductive Step where
 | bad (k : Nat)
 | blank
 | tok (kind : Int) (text : List UInt8) (n : Nat)
 deriving DecidableEq
def wordsS (r : List UInt8) : Step :=
 let n := runL wordB r
 let w := r.take n
 if numB w then .tok 1 w n else if refB w then .tok 4 (greatP w) n else if nameB w then .tok 3 (greatP w) n else .bad 0
def quotedF : Nat → List UInt8 → Nat → List UInt8 → Step
 | 0, _, _, _ => .bad 0
 | k + 1, r, p, acc =>
   if r = [] then .bad 0
   else if decodeL r = (65533, 1) then .bad (1 + p)
   else if (decodeL r).1 ≠ 34 then quotedF k (r.drop (decodeL r).2) (p + (decodeL r).2) (acc ++ encodeRune ((decodeL r).1 : Int))
   else if r[1]? = some 34 then quotedF k (r.drop 2) (p + 2) (acc ++ [34])
   else .tok 2 acc (p + 2)
def errTexts : List (List UInt8) := [[35, 68, 73, 86, 47, 48, 33], [35, 78, 85, 77, 33], [35, 86, 65, 76, 85, 69, 33], [35, 82, 69, 70, 33], [35, 78, 47, 65], [35, 78, 65, 77, 69, 63], [35, 67, 89, 67, 76, 69, 33]]
def failS (r : List UInt8) : List (List UInt8) → Step
 | [] => .bad 0
 | e :: es => if e.length ≤ r.length ∧ greatP (r.take e.length) = e then .tok 5 e e.length else failS r es
def alikeP (c : Int) : List UInt8 :=
 if c = 8804 then [60, 61] else if c = 8805 then [62, 61] else if c = 8800 then [60, 62] else if c = 215 then [42] else if c = 247 then [47] else if c = 8722 then [45] else []
def twos : List (List UInt8) := [[60, 61], [62, 61], [60, 62]]
def twoS (r : List UInt8) : List (List UInt8) → Option (List UInt8)
 | [] => none
 | e :: es => if e.isPrefixOf r then some e else twoS r es
def opChars : List UInt8 := [43, 45, 42, 47, 94, 38, 61, 60, 62, 37, 40, 41, 58, 44]
def opS (c : Int) (n : Nat) (r : List UInt8) : Step :=
 if alikeP c ≠ [] then .tok 6 (alikeP c) n
 else match twoS r twos with
  | some e => .tok 6 e 2
  | none => if (r.headD 0) ∈ opChars then .tok 6 (r.take 1) 1 else .bad 0
def stepP (r : List UInt8) : Step :=
 let c := (decodeL r).1
 if decodeL r = (65533, 1) then .bad 0
 else if c = 32 ∨ c = 9 ∨ c = 10 then .blank
 else if c < 128 ∧ wordB (UInt8.ofNat c) = true then wordsS r
 else if c = 34 then quotedF (r.length) (r.drop 1) 0 []
 else if c = 35 then failS r errTexts
 else opS c (decodeL r).2 r
structure Tok where
 kind : Int
 text : List UInt8
 at' : Nat
 col : Nat
 deriving DecidableEq
def lexF : Nat → List UInt8 → Nat → Nat → List Tok → List Tok × Nat × Int
 | 0, _, a, _, acc => ([], a, 10)
 | k + 1, r, a, c, acc =>
   if r = [] then (acc ++ [⟨0, [], a, c⟩], 0, 0)
   else match stepP r with
    | .bad j => ([], a + j, 10)
    | .blank => lexF k (r.drop 1) (a + 1) (c + 1) acc
    | .tok kind t n => lexF k (r.drop n) (a + n) (c + signsN (r.take n)) (acc ++ [⟨kind, t, a, c⟩])
def lexP (s : List UInt8) : List Tok × Nat × Int := if 2000 < s.length then ([], 0, 11) else lexF (s.length + 1) s 0 0 []
def sgF : Nat → List UInt8 → Option Nat
 | 0, _ => none
 | k + 1, r => if r = [] then some 0 else if decodeL r = (65533, 1) then none else (sgF k (r.drop (decodeL r).2)).map (· + 1)
def tokAV (t : Tok) : AV := .agg [.int .i64 t.kind, .str t.text, .int .i64 t.at', .int .i64 t.col]
end Go.A
namespace Go.A
open Go.Proofs Go.Lib
def accTab : List Int := (List.range 16).flatMap fun i => [(accLo i : Int), (accHi i : Int)]
def U8 (σ : ASt) : Prop := σ 3 = some (.fix (firstTab.map (AV.int .u8))) ∧ σ 4 = some (.fix (accTab.map (AV.int .u8)))
theorem U8.of_eq {σ σ' : ASt} (h : U8 σ) (h1 : σ' 3 = σ 3) (h2 : σ' 4 = σ 4) : U8 σ' := ⟨h1.trans h.1, h2.trans h.2⟩
theorem U8.set {σ : ASt} {b : Nat} {r : Option Role} (h : U8 σ) (hb : σ b = none) : U8 (σ.set b r) := by
 refine h.of_eq (ASt.set_ne ?_) (ASt.set_ne ?_) <;> rintro rfl
 ·rw [h.1] at hb; cases hb
 ·rw [h.2] at hb; cases hb
theorem fix_ints {σ : ASt} {w : World} (hs : Sim σ w) {b : Nat} {k : IntKind} {zs : List Int} (h : σ b = some (.fix (zs.map (AV.int k)))) : ∀ j z, zs[j]? = some z → w.cell? ⟨b, j, none⟩ = some (.int k z) := by
 intro j z hj
 obtain ⟨vs, h4, h5⟩ := (hs b _ h).1.vals
 have h6 := reps_ints h4
 subst h6
 have := h5 j (Value.int k z) (by simp [hj])
 simpa using this
theorem u8_tabs {σ : ASt} {w : World} (hs : Sim σ w) (h : U8 σ) : Utf8Tabs 3 4 w := by
 refine ⟨fun c hc => fix_ints hs h.1 c _ (by simp [firstTab, hc]), fun i hi => ?_⟩
 have key : ∀ i, i < 16 → accTab[2 * i]? = some (accLo i : Int) ∧ accTab[2 * i + 1]? = some (accHi i : Int) := by decide
 exact ⟨fix_ints hs h.2 _ _ (key i hi).1, fix_ints hs h.2 _ _ (key i hi).2⟩
theorem ACalls.of_below {P : Program} {σ : ASt} {f : FuncId} {args : List AV} {r : AV} {u : Value} (h : ∀ w vs, Sim σ w → Reps σ w args vs → Calls P f ⟨vs⟩ w fun e w' => e = .returned u ∧ RowKit.Below w.heap.size w w') (hr : ∀ w, Rep σ w r u) : ACalls P f args σ fun v σ' => v = r ∧ σ' = σ :=
 ACalls.of_ext (fun w vs hs ha => (h w vs hs ha).mono fun e w' ⟨he, hb⟩ => ⟨he, Ext.of_below hb⟩) hr
theorem dec_ok {σ : ASt} (h : U8 σ) {l : List UInt8} (h0 : l ≠ []) : ACalls Tryz.prog 126 [.str l] σ fun v σ' => v = .tuple [.int .i32 (decodeL l).1, .int .i64 (decodeL l).2] ∧ σ' = σ := by
 refine ACalls.of_below (u := .tuple #[.int .i32 (decodeL l).1, .int .i64 (decodeL l).2]) (fun w vs hs ha => ?_) fun w => .tuple (.cons (.int _ _) (.cons (.int _ _) .nil))
 cases ha with
 | cons h1 h2 =>
 cases h1; cases h2
 have := Tryz.utf8_DecodeRuneInString ⟨⟨l⟩⟩ w (u8_tabs hs h)
 have e : decodeGo ⟨⟨l⟩⟩ = decodeL l := by
  unfold decodeGo decodeL
  rw [if_neg (by cases l; exact absurd rfl h0; simp [ByteArray.size])]
 rw [e] at this
 exact this
theorem count_ok (l : List UInt8) (hl : l.length < 9223372036854775807) : Pure Tryz.prog 108 [.str l] (.int .i64 (signsN l)) := by
 intro σ
 refine ACalls.of_ext (u := .int .i64 (signsN l)) (fun w vs hs ha => ?_) fun w => .int _ _
 cases ha with
 | cons h1 h2 =>
 cases h1; cases h2
 refine (Tryz.utf8_RuneCountInString ⟨⟨l⟩⟩ w (by simpa [ByteArray.size] using hl)).mono ?_
 rintro e w' ⟨rfl, pos, rfl⟩
 exact ⟨rfl, Ext.alloc (Ext.refl w) _⟩
theorem runeLen_ok (r : Int) : Pure Tryz.prog 135 [.int .i32 r] (.int .i64 (runeLen r)) := by
 intro σ
 refine ACalls.of_ext (u := .int .i64 (runeLen r)) (fun w vs hs ha => ?_) fun w => .int _ _
 cases ha with
 | cons h1 h2 =>
 cases h1; cases h2
 exact (Tryz.utf8_RuneLen r w).mono fun e w' ⟨he, hw⟩ => ⟨he, Ext.of_eq hw⟩
theorem prefix_ok (s p : List UInt8) (hs : s.length ≤ 1000000000) (hp : p.length ≤ 1000000000) : Pure Tryz.prog 137 [.str s, .str p] (.bool (p.isPrefixOf s)) := by
 intro σ
 refine ACalls.of_ext (u := .bool (p.isPrefixOf s)) (fun w vs hs ha => ?_) fun w => .bool _
 cases ha with
 | cons h1 h2 =>
 cases h2 with
 | cons h2 h3 =>
 cases h1; cases h2; cases h3
 refine (Tryz.strings_HasPrefix ⟨⟨s⟩⟩ ⟨⟨p⟩⟩ w).mono fun e w' ⟨he, hw⟩ => ⟨?_, Ext.of_eq hw⟩
 rw [he]
 rfl
theorem contains_ok (s : List UInt8) (c : UInt8) : Pure Tryz.prog 138 [.str s, .str [c]] (.bool (decide (0 ≤ indexByte s c))) := by
 intro σ
 refine ACalls.of_ext (u := .bool (decide (0 ≤ indexByte s c))) (fun w vs hs ha => ?_) fun w => .bool _
 cases ha with
 | cons h1 h2 =>
 cases h2 with
 | cons h2 h3 =>
 cases h1; cases h2; cases h3
 exact (Tryz.strings_Contains_one ⟨⟨s⟩⟩ c w).mono fun e w' ⟨he, hw⟩ => ⟨he, Ext.of_eq hw⟩
theorem index_ok (s : List UInt8) (c : UInt8) : Pure Tryz.prog 129 [.str s, .str [c]] (.int .i64 (indexByte s c)) := by
 intro σ
 refine ACalls.of_ext (u := .int .i64 (indexByte s c)) (fun w vs hs ha => ?_) fun w => .int _ _
 cases ha with
 | cons h1 h2 =>
 cases h2 with
 | cons h2 h3 =>
 cases h1; cases h2; cases h3
 exact (Tryz.stringslite_Index_one ⟨⟨s⟩⟩ c w).mono fun e w' ⟨he, hw⟩ => ⟨he, Ext.of_eq hw⟩
end Go.A
namespace Go.A
open Go.Proofs
def digF : Nat → Nat → List UInt8
 | 0, _ => []
 | k + 1, n => if n < 10 then [UInt8.ofNat (48 + n)] else digF k (n / 10) ++ [UInt8.ofNat (48 + n % 10)]
def numT (row : Int) : List UInt8 := digF 4 (row + 1).toNat
def dolP (b : Bool) : List UInt8 := if b then [36] else []
def textP (r : Ref) : List UInt8 := dolP r.absCol ++ lettersP r.col ++ dolP r.absRow ++ numT r.row
end Go.A
namespace Go.A
inductive Nd where
 | mk (op n : Int) (s : List UInt8) (a b : Ref) (kids : List Nd)
instance : Inhabited Nd := ⟨.mk 0 0 [] .zero .zero []⟩
def Nd.op : Nd → Int | .mk op _ _ _ _ _ => op
mutual
def Nd.av : Nd → AV
 | .mk op n s a b kids => .agg [.int .i64 op, .int .i64 n, .str s, .int .i64 a.row, .int .i64 a.col, .bool a.absRow, .bool a.absCol, .int .i64 b.row, .int .i64 b.col, .bool b.absRow, .bool b.absCol, .sl .shr (Nd.avs kids)]
def Nd.avs : List Nd → List AV
 | [] => []
 | x :: xs => x.av :: Nd.avs xs
end
theorem Nd.avs_map : ∀ l : List Nd, Nd.avs l = l.map Nd.av
 | [] => rfl
 | x :: xs => by rw [Nd.avs, Nd.avs_map xs]; rfl
theorem Nd.av_eq (op n : Int) (s : List UInt8) (a b : Ref) (kids : List Nd) : (Nd.mk op n s a b kids).av = .agg [.int .i64 op, .int .i64 n, .str s, .int .i64 a.row, .int .i64 a.col, .bool a.absRow, .bool a.absCol, .int .i64 b.row, .int .i64 b.col, .bool b.absRow, .bool b.absCol, .sl .shr (kids.map Nd.av)] := by
 rw [Nd.av, Nd.avs_map]
def Nd.cs (op n : Int) (s : List UInt8) (a b : Ref) (L : List AV) : List AV := [.int .i64 op, .int .i64 n, .str s, .int .i64 a.row, .int .i64 a.col, .bool a.absRow, .bool a.absCol, .int .i64 b.row, .int .i64 b.col, .bool b.absRow, .bool b.absCol, .sl .shr L]
theorem Nd.av_cs (op n : Int) (s : List UInt8) (a b : Ref) (kids : List Nd) : (Nd.mk op n s a b kids).av = .agg (Nd.cs op n s a b (kids.map Nd.av)) := Nd.av_eq ..
section
variable {op n : Int} {s : List UInt8} {a b : Ref} {L : List AV}
@[go_sem] theorem cs_0 : (Nd.cs op n s a b L)[0]? = some (.int .i64 op) := id rfl
@[go_sem] theorem cs_1 : (Nd.cs op n s a b L)[1]? = some (.int .i64 n) := id rfl
@[go_sem] theorem cs_2 : (Nd.cs op n s a b L)[2]? = some (.str s) := id rfl
@[go_sem] theorem cs_11 : (Nd.cs op n s a b L)[11]? = some (.sl .shr L) := id rfl
@[go_sem] theorem cs_len : (Nd.cs op n s a b L).length = 12 := id rfl
@[go_sem] theorem cs_leaves : leaves (Nd.cs op n s a b L) = true := id rfl
@[go_sem] theorem cs_take : (Nd.cs op n s a b L).take 12 = Nd.cs op n s a b L := id rfl
@[go_sem] theorem cs_ta : ((Nd.cs op n s a b L).drop 3).take 4 = [.int .i64 a.row, .int .i64 a.col, .bool a.absRow, .bool a.absCol] := id rfl
@[go_sem] theorem cs_tb : ((Nd.cs op n s a b L).drop 7).take 4 = [.int .i64 b.row, .int .i64 b.col, .bool b.absRow, .bool b.absCol] := id rfl
end
theorem Nd.av_len (n : Nd) : n.av.cells.length = 12 := by cases n; rfl
theorem Nd.av_leaves (n : Nd) : leaves n.av.cells = true := by cases n; rfl
theorem Nd.get {l : List Nd} {i : Nat} {x : Nd} (h : l[i]? = some x) : (l.map Nd.av)[i]? = some x.av := by rw [List.getElem?_map, h]; rfl
mutual
theorem Nd.deep : ∀ n : Nd, Go.A.deep n.av = n.av
 | .mk op n s a b kids => by
   rw [Nd.av, Go.A.deep]
   simp only [Go.A.deeps, Go.A.deep, Nd.deeps kids]
theorem Nd.deeps : ∀ l : List Nd, Go.A.deeps (Nd.avs l) = Nd.avs l
 | [] => rfl
 | x :: xs => by rw [Nd.avs, Go.A.deeps, Nd.deep x, Nd.deeps xs]
end
mutual
def Nd.size : Nd → Nat
 | .mk _ _ _ _ _ kids => 1 + Nd.sizes kids
def Nd.sizes : List Nd → Nat
 | [] => 0
 | x :: xs => x.size + Nd.sizes xs
end
theorem Nd.size_kid : ∀ {l : List Nd} {x : Nd}, x ∈ l → x.size ≤ Nd.sizes l
 | [], _, h => by cases h
 | y :: l, x, h => by
   rw [Nd.sizes]
   rcases List.mem_cons.1 h with rfl | h
   ·omega
   ·have := Nd.size_kid h; omega
theorem Nd.size_pos (n : Nd) : 0 < n.size := by cases n; rw [Nd.size]; omega
def levelP (op : Int) : Int :=
 if op = 7 ∨ op = 8 then 6 else if op = 9 then 7 else if op < 10 ∨ 22 ≤ op then 8
 else if op ≤ 11 then 3 else if op ≤ 13 then 4 else if op = 14 then 5 else if op = 15 then 2 else 1
def signL : List (List UInt8) := [[43], [45], [42], [47], [94], [38], [61], [60, 62], [60], [60, 61], [62], [62, 61]]
def errL : List (List UInt8) := [[35, 68, 73, 86, 47, 48, 33], [35, 78, 85, 77, 33], [35, 86, 65, 76, 85, 69, 33], [35, 82, 69, 70, 33], [35, 78, 47, 65], [35, 78, 65, 77, 69, 63], [35, 67, 89, 67, 76, 69, 33]]
def failT (op n : Int) : List UInt8 := if op ≠ 4 ∨ n.tdiv 10000 < 1 ∨ 7 < n.tdiv 10000 then [] else errL.getD (n.tdiv 10000 - 1).toNat []
def truthP (b : Bool) : List UInt8 := if b = true then [84, 82, 85, 69] else [70, 65, 76, 83, 69]
def quotT (s : List UInt8) : List UInt8 := 34 :: (s.flatMap fun c => if c = 34 then [34, 34] else [c]) ++ [34]
def insT (least : Int) (op : Int) (t : List UInt8) : List UInt8 := if least ≤ levelP op then t else 40 :: t ++ [41]
def joinC : List (Int × List UInt8) → List UInt8
 | [] => []
 | p :: r => p.2 ++ r.flatMap fun q => 44 :: q.2
def spellK (op n : Int) (s : List UInt8) (a b : Ref) (ks : List (Int × List UInt8)) : List UInt8 :=
 if op = 1 then textD n else if op = 2 then quotT s else if op = 3 then truthP (!decide (n = 0)) else if op = 4 then failT op n else if op = 5 then textP a else if op = 6 then textP a ++ [58] ++ textP b
 else if op = 7 ∨ op = 8 then (if op = 7 then 45 else 43) :: insT 6 (ks.getD 0 (0, [])).1 (ks.getD 0 (0, [])).2
 else if op = 9 then insT 7 (ks.getD 0 (0, [])).1 (ks.getD 0 (0, [])).2 ++ [37]
 else if op = 22 then s ++ 40 :: joinC ks ++ [41]
 else if op = 23 then []
 else insT (levelP op) (ks.getD 0 (0, [])).1 (ks.getD 0 (0, [])).2 ++ signL.getD (op - 10).toNat [] ++ insT (levelP op + 1) (ks.getD 1 (0, [])).1 (ks.getD 1 (0, [])).2
mutual
def Nd.spell : Nd → List UInt8
 | .mk op n s a b kids => spellK op n s a b (Nd.spells kids)
def Nd.spells : List Nd → List (Int × List UInt8)
 | [] => []
 | x :: xs => (x.op, x.spell) :: Nd.spells xs
end
def nodeOk (op n : Int) (s : List UInt8) (a b : Ref) (k : Nat) : Prop :=
 (1 ≤ op ∧ op ≤ 23) ∧ (op = 1 → n.natAbs ≤ 999999999999999999) ∧ (op = 2 → s.length ≤ 100000) ∧ (op = 4 → 1 ≤ n.tdiv 10000 ∧ n.tdiv 10000 ≤ 7) ∧ (op = 22 → s ≠ []) ∧ (op = 5 ∨ op = 6 → a.good = true) ∧ (op = 6 → b.good = true) ∧ (op = 7 ∨ op = 8 ∨ op = 9 → 1 ≤ k) ∧ (10 ≤ op ∧ op ≤ 21 → 2 ≤ k) ∧ k ≤ 1000000
mutual
def Nd.ok : Nd → Prop
 | .mk op n s a b kids => nodeOk op n s a b kids.length ∧ Nd.oks kids
def Nd.oks : List Nd → Prop
 | [] => True
 | x :: xs => x.ok ∧ Nd.oks xs
end
theorem Nd.oks_mem : ∀ {l : List Nd}, Nd.oks l ↔ ∀ x ∈ l, x.ok
 | [] => by simp [Nd.oks]
 | y :: l => by rw [Nd.oks, Nd.oks_mem (l := l)]; simp
end Go.A
namespace Go.A
open Go.Proofs Go.Shelf Go.RowKit
section
variable {P : Program} {ρ : Ren}
set_option maxHeartbeats 2000000 in
theorem bstr_used (L : Lays.n169 P ρ) (X : Builder.Extra P ρ) (b g cap size : Nat) (l : List UInt8) (w : World) (h0 : l ≠ []) (hc1 : w.cell? ⟨b, 1, none⟩ = some (.slice (some ⟨g, 0, none⟩) l.length cap)) (hcap : cap ≠ 0)
  (hsh : w.shape? g = some (ρ.t 5, size)) (hle : l.length ≤ size) (h63 : l.length ≤ 9223372036854775807) (hcell : ∀ j x, l[j]? = some x → w.cell? ⟨g, j, none⟩ = some (.int .u8 x.toNat)) :
  Calls P (ρ.f 169) #[.pointer (some ⟨b, 0, none⟩)] w fun e w' => e = .returned (.string ⟨l.toArray⟩) ∧ w' = w.drew.freeze ⟨g, 0, none⟩ l.length := by
 have c1 : w.drew.cell? ⟨b, 1, none⟩ = some (.slice (some ⟨g, 0, none⟩) l.length cap) := hc1
 have hSD : (Builtin.unsafeSliceData_ #[(ρ.t 37)] (ρ.t 127) #[.slice (some ⟨g, 0, none⟩) l.length cap]).run P w.drew = .ok (.pointer (some ⟨g, 0, none⟩)) w.drew :=
  Lib.run_unsafeSliceData_row _ _ _ _ _ _ hcap
 have hUS : (Builtin.unsafeString_ #[(ρ.t 127), (ρ.t 3)] (ρ.t 9) #[.pointer (some ⟨g, 0, none⟩), .int .i64 l.length]).run P w.drew = .ok (.string ⟨l.toArray⟩) (w.drew.freeze ⟨g, 0, none⟩ l.length) := by
  refine Lib.run_unsafeString_row w.drew (ρ.t 127) (ρ.t 3) (ρ.t 9) (ρ.t 5) L.t127 X.cellsByte g size hsh l h0 hle h63 ?_
  intro j x hx
  rw [addr_add', Nat.zero_add]
  exact hcell j x hx
 have mixed := L.mixed
 have t72 := L.t72; have a72 := L.a72; have z72 := L.z72; have v72 := L.v72; have u72 := run_underlying L.t72
 have t70 := L.t70; have a70 := L.a70; have z70 := L.z70; have v70 := L.v70; have u70 := run_underlying L.t70
 have t37 := L.t37; have a37 := L.a37; have z37 := L.z37; have v37 := L.v37; have u37 := run_underlying L.t37
 have t127 := L.t127; have a127 := L.a127; have z127 := L.z127; have v127 := L.v127; have u127 := run_underlying L.t127
 have t3 := L.t3; have a3 := L.a3; have z3 := L.z3; have v3 := L.v3; have u3 := run_underlying L.t3
 have t9 := L.t9; have a9 := L.a9; have z9 := L.z9; have v9 := L.v9; have u9 := run_underlying L.t9
 have t5 := X.t5; have a5 := X.a5; have z5 := X.z5; have v5 := X.v5; have u5 := run_underlying X.t5
 go_enter L.f169, Body.n169_ntmps ρ
 go_wp2
 go_region_o
 all_goals (go_wp2; go_ret; exact ⟨rfl, rfl⟩)
set_option maxHeartbeats 2000000 in
theorem bstr_nil (L : Lays.n169 P ρ) (X : Builder.Extra P ρ) (b : Nat) (w : World) (hc1 : w.cell? ⟨b, 1, none⟩ = some (.slice none 0 0)) :
  Calls P (ρ.f 169) #[.pointer (some ⟨b, 0, none⟩)] w fun e w' => e = .returned (.string ⟨#[]⟩) ∧ w' = w.drew := by
 have hUS := Any.unsafeString_none L X
 have c1 : w.drew.cell? ⟨b, 1, none⟩ = some (.slice none 0 0) := hc1
 have hSD : (Builtin.unsafeSliceData_ #[(ρ.t 37)] (ρ.t 127) #[.slice none 0 0]).run P w.drew = .ok (.pointer none) w.drew := rfl
 have mixed := L.mixed
 have t72 := L.t72; have a72 := L.a72; have z72 := L.z72; have v72 := L.v72; have u72 := run_underlying L.t72
 have t70 := L.t70; have a70 := L.a70; have z70 := L.z70; have v70 := L.v70; have u70 := run_underlying L.t70
 have t37 := L.t37; have a37 := L.a37; have z37 := L.z37; have v37 := L.v37; have u37 := run_underlying L.t37
 have t127 := L.t127; have a127 := L.a127; have z127 := L.z127; have v127 := L.v127; have u127 := run_underlying L.t127
 have t3 := L.t3; have a3 := L.a3; have z3 := L.z3; have v3 := L.v3; have u3 := run_underlying L.t3
 have t9 := L.t9; have a9 := L.a9; have z9 := L.z9; have v9 := L.v9; have u9 := run_underlying L.t9
 have t5 := X.t5; have a5 := X.a5; have z5 := X.z5; have v5 := X.v5; have u5 := run_underlying X.t5
 go_enter L.f169, Body.n169_ntmps ρ
 go_wp2
 go_region_o
 all_goals (go_wp2; go_ret; exact ⟨rfl, rfl⟩)
end
theorem size_bld : (Tryz.prog.info? 100).map (·.size) = some 2 := by kernel_rfl
theorem lies_bld : liesAt Tryz.prog Tryz.prog.depth 100 (2 / Tryz.prog.cellsOf 100) 0 100 1 = true := by kernel_rfl
set_option maxHeartbeats 1000000 in
set_option maxRecDepth 1000000 in
theorem cc_used (b : Nat) (w : World) (h0 : w.cell? ⟨b, 0, none⟩ = some (.pointer (some ⟨b, 0, none⟩))) :
  Calls Tryz.prog 113 #[.pointer (some ⟨b, 0, none⟩)] w fun e w' => e = .returned (.tuple #[]) ∧ w' = w := by
 obtain ⟨j, hj, _⟩ := Option.map_eq_some_iff.1 size_bld
 go_enter Tryz.func113, Tryz.ntmps113
 go_wp2
 rw [Lib.run_neq_ptr_same w _ Tryz.underlying98 hj]
 go_wp2
 go_end0
 exact ⟨rfl, rfl⟩
set_option maxHeartbeats 1000000 in
set_option maxRecDepth 1000000 in
theorem cc_fresh (b : Nat) (w : World) (h0 : w.cell? ⟨b, 0, none⟩ = some (.pointer none)) (hsh : w.shape? b = some (100, 2)) (hfz : w.frozen? ⟨b, 0, none⟩ = false) :
  Calls Tryz.prog 113 #[.pointer (some ⟨b, 0, none⟩)] w fun e w' => e = .returned (.tuple #[]) ∧ w' = w.setCell ⟨b, 0, none⟩ (.pointer (some ⟨b, 0, none⟩)) := by
 obtain ⟨j, hj, hjs⟩ := Option.map_eq_some_iff.1 size_bld
 go_enter Tryz.func113, Tryz.ntmps113
 go_wp2
 rw [Lib.run_to_unsafe w ⟨b, 0, none⟩ Tryz.underlying98 Tryz.underlying178 hj (by rw [hjs]; decide) hsh (Nat.zero_lt_succ 1)]
 simp only [Result.andThen]
 rw [Oper.upon_value]
 go_wp2
 rw [run_callFunc_extern Tryz.func141 (by kernel_rfl) (by kernel_rfl) (by kernel_rfl) (e := Extern.AbiNoEscape.same) (by kernel_rfl)]
 rw [Lib.run_noEscape]
 simp only [Result.andThen]
 rw [Oper.upon_value]
 go_wp2
 rw [Lib.run_from_unsafe w ⟨b, 0, none⟩ Tryz.underlying178 Tryz.underlying98 hj hsh lies_bld]
 simp only [Result.andThen]
 rw [Oper.upon_value]
 go_wp2
 go_end0
 exact ⟨rfl, rfl⟩
end Go.A
namespace Go.A
open Go.Proofs
theorem copyCheck_typ {σ : ASt} {b : Nat} (h : σ b = some (.typ 100 [.pointer none, .slice none 0 0])) :
  ACalls Tryz.prog 113 [.ptr b 0] σ fun v σ' => v = .tuple [] ∧ σ' = σ.set b (some (.obj [.ptr b 0, .sl .full []])) := by
 intro w vs hs ha
 cases ha with
 | cons h1 h2 =>
 cases h1; cases h2
 have hb : w.heap[b]? = some (.cells ⟨[.pointer none, .slice none 0 0]⟩ 100 (0, 0)) := hs b _ h
 refine (cc_fresh b w (by simp [World.cell?, hb]) (by simp [World.shape?, hb]) (by simp [World.frozen?, hb])).mono ?_
 rintro e w' ⟨rfl, rfl⟩
 have hw := Wrote.setCell (o := 0) hb (.pointer (some ⟨b, 0, none⟩))
 have hle : Le σ w (σ.set b (some (.obj [.ptr b 0, .sl .full []]))) (w.setCell ⟨b, 0, none⟩ (.pointer (some ⟨b, 0, none⟩))) := by
  refine ⟨hw.os, hw.tape, hw.output, by rw [hw.size]; exact Nat.le_refl _, fun x hx hn => ?_, fun x cs hx hn => ?_, fun x f hx hn => ?_⟩
  all_goals have hne : x ≠ b := by rintro rfl; rw [h] at hn; cases hn
  ·rw [ASt.set_ne hne]; exact ⟨hn, hw.other x hne⟩
  ·rw [ASt.set_ne hne]; exact ⟨.inr hn, hw.other x hne⟩
  ·rw [ASt.set_ne hne]; exact ⟨.inr ⟨f, Nat.le_refl _, hn⟩, shape_of_heap_eq (hw.other x hne), fun o _ => cell_of_heap_eq (hw.other x hne) o⟩
 have hro : RoleOk (σ.set b (some (.obj [.ptr b 0, .sl .full []]))) (w.setCell ⟨b, 0, none⟩ (.pointer (some ⟨b, 0, none⟩))) b (.obj [.ptr b 0, .sl .full []]) := by
  refine ⟨_, _, _, hw.new, ?_, fun o ho => ?_⟩
  ·exact .cons (.ptr _ _) (.cons .slN .nil)
  ·rw [hw.frozen]
   simp only [World.frozen?, hb]
   simp
 exact ⟨_, _, _, rfl, ⟨rfl, rfl⟩, hle, hw.sim hs hle hro, .tuple .nil⟩
theorem copyCheck_used {σ : ASt} {b : Nat} {x : AV} (h : σ b = some (.obj [.ptr b 0, x])) : ACalls Tryz.prog 113 [.ptr b 0] σ fun v σ' => v = .tuple [] ∧ σ' = σ := by
 intro w vs hs ha
 cases ha with
 | cons h1 h2 =>
 cases h1; cases h2
 obtain ⟨us, h3, h4, _⟩ := hs.objCell h
 cases h3 with
 | cons h5 h6 =>
 cases h5
 refine (cc_used b w (h4 0 _ rfl)).mono ?_
 rintro e w' ⟨rfl, rfl⟩
 exact ⟨_, _, _, rfl, ⟨rfl, rfl⟩, Le.refl _ _, hs, .tuple .nil⟩
theorem bstring_typ {σ : ASt} {b : Nat} (h : σ b = some (.typ 100 [.pointer none, .slice none 0 0])) : ACalls Tryz.prog 49 [.ptr b 0] σ fun v σ' => v = .str [] ∧ σ' = σ := by
 intro w vs hs ha
 cases ha with
 | cons h1 h2 =>
 cases h1; cases h2
 have hb : w.heap[b]? = some (.cells ⟨[.pointer none, .slice none 0 0]⟩ 100 (0, 0)) := hs b _ h
 refine (bstr_nil Tryz.lays169 Tryz.Builder_Extra_169 b w (by simp [World.cell?, hb])).mono ?_
 rintro e w' ⟨rfl, rfl⟩
 have hx : Ext w w.drew := Ext.drew (Ext.refl w)
 exact ⟨_, _, _, rfl, ⟨rfl, rfl⟩, ext_le hx, hs.ext hx, .str []⟩
theorem row_bytes {σ : ASt} {w : World} {b : Nat} : ∀ {l : List UInt8} {o : Nat}, Row σ w b o 1 (bytesAV l) → ∀ j x, l[j]? = some x → w.cell? ⟨b, o + j, none⟩ = some (.int .u8 x.toNat)
 | [], o, h, j, x, hj => by simp at hj
 | c :: l, o, h, j, x, hj => by
   cases h with
   | cons h1 h2 h3 =>
   cases j with
   | zero =>
     simp only [List.getElem?_cons_zero, Option.some.injEq] at hj
     subst hj
     cases h2 with
     | cons g1 g2 g3 g4 =>
     cases g3
     exact g2
   | succ j =>
     have := row_bytes (l := l) h3 j x (by simpa using hj)
     rw [show o + (j + 1) = o + 1 + j by omega]
     exact this
theorem bstring_used {σ : ASt} {b g : Nat} {p : AV} {l : List UInt8} (h0 : l ≠ []) (hl : l.length ≤ 9223372036854775807) (h : σ b = some (.obj [p, .sl (.tok g 1 5) (bytesAV l)])) (hg : σ g = some (.tok l.length)) :
  ACalls Tryz.prog 49 [.ptr b 0] σ fun v σ' => v = .str l ∧ σ' = σ := by
 intro w vs hs ha
 cases ha with
 | cons h1 h2 =>
 cases h1; cases h2
 obtain ⟨us, h3, h4, h9⟩ := hs.objCell h
 cases h3 with
 | cons h5 h6 =>
 cases h6 with
 | cons h7 h8 =>
 cases h8
 obtain ⟨c, T, fr, k1, k2, k3⟩ := hs g _ hg
 have hlen : (bytesAV l).length = l.length := by simp [bytesAV]
 generalize hbl : bytesAV l = bl at h7
 cases h7 with
 | sl r1 r2 r3 r4 r5 =>
 subst hbl
 obtain ⟨rfl, rfl, rfl, r6, r7⟩ := r4
 have hpos : 0 < l.length := List.length_pos_iff.2 h0
 subst r2
 rw [hlen] at r3
 have hc1 := h4 1 _ rfl
 rw [hlen] at hc1
 refine (bstr_used Tryz.lays169 Tryz.Builder_Extra_169 b g _ _ l w h0 hc1 (by omega) r6 (by omega) hl ?_).mono ?_
 ·intro j x hj
  have := row_bytes r1 j x hj
  simpa using this
 rintro e w' ⟨rfl, rfl⟩
 have hother : ∀ x, x ≠ g → (w.drew.freeze ⟨g, 0, none⟩ l.length).heap[x]? = w.heap[x]? := by
  intro x hx
  simp only [World.freeze]
  rw [if_neg (by omega)]
  simp only [Array.getElem?_modify]
  rw [if_neg (Ne.symm hx)]
  rfl
 obtain ⟨lo, hi⟩ := fr
 have hk1 : w.drew.heap[g]? = some (.cells c T (lo, hi)) := k1
 obtain ⟨fr', hfr, hnew⟩ : ∃ fr' : Nat × Nat, fr'.2 ≤ l.length ∧ (w.drew.freeze ⟨g, 0, none⟩ l.length).heap[g]? = some (.cells c T fr') := by
  refine ⟨if lo == hi then (0, 0 + l.length) else (min lo 0, max hi (0 + l.length)), ?_, ?_⟩
  ·dsimp only at k3
   split <;> dsimp only <;> omega
  ·simp only [World.freeze]
   rw [if_neg (by omega)]
   simp only [Array.getElem?_modify, if_true, hk1, Option.map_some]
 have hshape : (w.drew.freeze ⟨g, 0, none⟩ l.length).shape? g = w.shape? g := by simp only [World.shape?, hnew, k1]
 have hcells : ∀ o, (w.drew.freeze ⟨g, 0, none⟩ l.length).cell? ⟨g, o, none⟩ = w.cell? ⟨g, o, none⟩ := fun o => by simp only [World.cell?, hnew, k1]
 have hle : Le σ w σ (w.drew.freeze ⟨g, 0, none⟩ l.length) := by
  refine ⟨?_, ?_, ?_, ?_, fun x hx hn => ?_, fun x cs hx hn => ?_, fun x f hx hn => ?_⟩
  ·simp only [World.freeze]; split <;> rfl
  ·simp only [World.freeze]; split <;> rfl
  ·simp only [World.freeze]; split <;> rfl
  ·simp only [World.freeze]; split
   ·exact Nat.le_refl _
   ·rw [Array.size_modify]; exact Nat.le_refl _
  ·have hne : x ≠ g := by rintro rfl; rw [hg] at hn; cases hn
   exact ⟨hn, hother x hne⟩
  ·have hne : x ≠ g := by rintro rfl; rw [hg] at hn; cases hn
   exact ⟨.inr hn, hother x hne⟩
  ·by_cases hne : x = g
   ·subst hne
    exact ⟨.inr ⟨f, Nat.le_refl _, hn⟩, hshape, fun o _ => hcells o⟩
   ·exact ⟨.inr ⟨f, Nat.le_refl _, hn⟩, shape_of_heap_eq (hother x hne), fun o _ => cell_of_heap_eq (hother x hne) o⟩
 have hsim : Sim σ (w.drew.freeze ⟨g, 0, none⟩ l.length) := by
  intro x q hx
  by_cases hne : x = g
  ·subst hne
   rw [hg] at hx
   injection hx with hx
   subst hx
   exact ⟨c, T, fr', hnew, k2, hfr⟩
  ·exact (hs x q hx).keep hle (hother x hne)
 exact ⟨_, _, _, rfl, ⟨rfl, rfl⟩, hle, hsim, .str l⟩
end Go.A
namespace Go.A
open Go.Proofs
/-! 78: tabular/token.Quote -/
end Go.A
namespace Go.A
open Go.Proofs
/-! 81: (tabular/addr.Ref).Text -/
/-! 82: (tabular/addr.Area).Text -/
/-! 120: tabular/addr.dollar -/
end Go.A
namespace Go.A
open Go.Proofs
/-! 103: tabular/token.word -/
def c103_3 : ACode := .seq (.ops [ oq 2 (.mv (.v (.bool false)))]) (.seq (.ops [ oq 3 (.mv (.t 0)), oq 4 (.bin .geq (.t 3) (.v (.int .u8 48))), oq 5 (.mv (.t 4)), ⟨some 6, some (5, true), .q (.mv (.t 0)), []⟩, ⟨some 7, some (5, true), .q (.bin .leq (.t 6) (.v (.int .u8 57))), []⟩, oq 8 (.pick (.t 5) (.t 7) (.v (.bool false))), oq 9 (.mv (.t 8)), ⟨some 10, some (9, false), .q (.mv (.t 0)), []⟩, ⟨some 11, some (9, false), .q (.bin .geq (.t 10) (.v (.int .u8 97))), []⟩, ⟨some 12, some (9, false), .q (.mv (.t 11)), []⟩, ⟨some 13, some (12, true), .q (.mv (.t 0)), []⟩, ⟨some 14, some (12, true), .q (.bin .leq (.t 13) (.v (.int .u8 122))), []⟩, ⟨some 15, some (9, false), .q (.pick (.t 12) (.t 14) (.v (.bool false))), []⟩, oq 16 (.pick (.t 9) (.v (.bool true)) (.t 15)), oq 17 (.mv (.t 16)), ⟨some 18, some (17, false), .q (.mv (.t 0)), []⟩, ⟨some 19, some (17, false), .q (.bin .geq (.t 18) (.v (.int .u8 65))), []⟩, ⟨some 20, some (17, false), .q (.mv (.t 19)), []⟩, ⟨some 21, some (20, true), .q (.mv (.t 0)), []⟩, ⟨some 22, some (20, true), .q (.bin .leq (.t 21) (.v (.int .u8 90))), []⟩, ⟨some 23, some (17, false), .q (.pick (.t 20) (.t 22) (.v (.bool false))), []⟩, oq 24 (.pick (.t 17) (.v (.bool true)) (.t 23)), oq 25 (.mv (.t 24)), ⟨some 26, some (25, false), .q (.mv (.t 0)), []⟩, ⟨some 27, some (25, false), .q (.bin .eql (.t 26) (.v (.int .u8 95))), []⟩, oq 28 (.pick (.t 25) (.v (.bool true)) (.t 27)), oq 29 (.mv (.t 28)), ⟨some 30, some (29, false), .q (.mv (.t 0)), []⟩, ⟨some 31, some (29, false), .q (.bin .eql (.t 30) (.v (.int .u8 36))), []⟩, oq 32 (.pick (.t 29) (.v (.bool true)) (.t 31)), oq 33 (.mv (.t 32)), ⟨some 34, some (33, false), .q (.mv (.t 0)), []⟩, ⟨some 35, some (33, false), .q (.bin .eql (.t 34) (.v (.int .u8 46))), []⟩, oq 36 (.pick (.t 33) (.v (.bool true)) (.t 35)), oq 2 (.mv (.t 36))]) .ret)
@[go_sem] def c103_3_wp := wp_of c103_3.eq_1
def c103 : AFn := ⟨37, [.t 2], c103_3⟩
theorem c103_ok : compF Tryz.prog Tryz.f103 = some c103 := by kernel_rfl
theorem a103 {args : List AV} {σ : ASt} {R : AV → ASt → Prop} (hl : args.length ≤ 37) (h : c103_3.wp Tryz.prog (RetQ [.t 2] R) (init args) σ) : ACalls Tryz.prog 103 args σ R := acalls_of Tryz.func103 c103_ok hl h
/-! 119: tabular/token.Errors -/
def c119_3 : ACode := .seq (.ops [ oq 0 (.mv (.v (.sl .full [])))]) (.seq (.ops [ oq 1 (.bsl 1 [(.v (.str [35, 68, 73, 86, 47, 48, 33])), (.v (.str [35, 78, 85, 77, 33])), (.v (.str [35, 86, 65, 76, 85, 69, 33])), (.v (.str [35, 82, 69, 70, 33])), (.v (.str [35, 78, 47, 65])), (.v (.str [35, 78, 65, 77, 69, 63])), (.v (.str [35, 67, 89, 67, 76, 69, 33]))]), oq 0 (.mv (.t 1))]) .ret)
@[go_sem] def c119_3_wp := wp_of c119_3.eq_1
def c119 : AFn := ⟨2, [.t 0], c119_3⟩
theorem c119_ok : compF Tryz.prog Tryz.f119 = some c119 := by kernel_rfl
theorem a119 {args : List AV} {σ : ASt} {R : AV → ASt → Prop} (hl : args.length ≤ 2) (h : c119_3.wp Tryz.prog (RetQ [.t 0] R) (init args) σ) : ACalls Tryz.prog 119 args σ R := acalls_of Tryz.func119 c119_ok hl h
/-! 130: tabular/token.isNum -/
def c130_21 : ACode := .seq (.ops [ oq 34 (.bin .lss (.t 33) (.t 32))]) (.seq (.cond (.t 34) .skip (.exit 0)) (.seq (.block 1 (.seq (.ops [ oq 35 (.ia 1 (.t 31) (.t 33)), oq 36 (.ld none (.t 35)), oq 7 (.mv (.t 36))]) (.seq (.ops [ oq 37 (.mv (.t 7)), oe 38 (.call 154 [(.t 37)]), oq 39 (.un .not (.t 38))]) (.cond (.t 39) (.seq (.ops [ oq 2 (.mv (.v (.bool false)))]) .ret) .skip)))) (.ops [ oq 40 (.bin .add (.t 33) (.v (.int .i64 1))), oq 33 (.mv (.t 40))])))
def c130_27 : ACode := .seq (.seq (.ops [ oq 28 (.mv (.t 3)), oq 29 (.mv (.t 4)), oq 30 (.bin .add (.t 28) (.t 29)), oe 31 (.s2b (.t 30)), oq 32 (.len (.t 31)), oq 33 (.mv (.v (.int .i64 0)))]) (.block 0 (.loop c130_21))) (.seq (.ops [ oq 2 (.mv (.v (.bool true)))]) .ret)
def c130_30 : ACode := .seq (.ops [ oq 2 (.mv (.v (.bool false)))]) (.seq (.ops [ oq 9 (.mv (.t 0)), oe 10 (.call 64 [(.t 9), (.v (.str [46]))]), oq 8 (.mv (.t 10)), oq 11 (.ext 0 (.t 8)), oq 12 (.ext 1 (.t 8)), oq 13 (.ext 2 (.t 8)), oq 3 (.mv (.t 11)), oq 4 (.mv (.t 12)), oq 5 (.mv (.t 13))]) (.seq (.seq (.ops [ oq 14 (.mv (.t 3)), oq 15 (.bin .eql (.t 14) (.v (.str []))), oq 16 (.mv (.t 15)), ⟨some 17, some (16, false), .q (.mv (.t 5)), []⟩, ⟨some 18, some (16, false), .q (.mv (.t 17)), []⟩, ⟨some 19, some (18, true), .q (.mv (.t 4)), []⟩, ⟨some 20, some (18, true), .q (.bin .eql (.t 19) (.v (.str []))), []⟩, ⟨some 21, some (18, true), .q (.mv (.t 20)), []⟩, ⟨some 22, some (21, false), .q (.mv (.t 4)), []⟩, ⟨some 23, some (21, false), .q (.lenS (.t 22)), []⟩, ⟨some 24, some (21, false), .q (.bin .gtr (.t 23) (.v (.int .i64 4))), []⟩, ⟨some 25, some (18, true), .q (.pick (.t 21) (.v (.bool true)) (.t 24)), []⟩, ⟨some 26, some (16, false), .q (.pick (.t 18) (.t 25) (.v (.bool false))), []⟩, oq 27 (.pick (.t 16) (.v (.bool true)) (.t 26))]) (.cond (.t 27) (.seq (.ops [ oq 2 (.mv (.v (.bool false)))]) .ret) .skip)) c130_27))
@[go_sem] def c130_21_wp := wp_of c130_21.eq_1
@[go_sem] def c130_27_wp := wp_of c130_27.eq_1
@[go_sem] def c130_30_wp := wp_of c130_30.eq_1
def c130 : AFn := ⟨41, [.t 2], c130_30⟩
theorem c130_ok : compF Tryz.prog Tryz.f130 = some c130 := by kernel_rfl
theorem a130 {args : List AV} {σ : ASt} {R : AV → ASt → Prop} (hl : args.length ≤ 41) (h : c130_30.wp Tryz.prog (RetQ [.t 2] R) (init args) σ) : ACalls Tryz.prog 130 args σ R := acalls_of Tryz.func130 c130_ok hl h
/-! 131: tabular/token.isRef -/
def c131_5 : ACode := .seq (.ops [ oq 2 (.mv (.v (.bool false)))]) (.seq (.ops [ oq 6 (.mv (.t 0)), oe 7 (.call 155 [(.t 6)]), oq 5 (.mv (.t 7)), oq 8 (.ext 0 (.t 5)), oq 9 (.ext 1 (.t 5)), oe 3 (.alloc [(.int .i64 0), (.int .i64 0), (.bool false), (.bool false)]), oz (.store 4 (.t 3) (.t 8)), oq 4 (.mv (.t 9))]) (.seq (.ops [ oq 10 (.mv (.t 4)), oq 2 (.mv (.t 10))]) .ret))
@[go_sem] def c131_5_wp := wp_of c131_5.eq_1
def c131 : AFn := ⟨11, [.t 2], c131_5⟩
theorem c131_ok : compF Tryz.prog Tryz.f131 = some c131 := by kernel_rfl
theorem a131 {args : List AV} {σ : ASt} {R : AV → ASt → Prop} (hl : args.length ≤ 11) (h : c131_5.wp Tryz.prog (RetQ [.t 2] R) (init args) σ) : ACalls Tryz.prog 131 args σ R := acalls_of Tryz.func131 c131_ok hl h
/-! 132: tabular/token.great -/
def c132_15 : ACode := .seq (.ops [ oq 11 (.bin .lss (.t 10) (.t 9))]) (.seq (.cond (.t 11) .skip (.exit 0)) (.seq (.block 1 (.seq (.ops [ oq 12 (.mv (.t 10)), oq 13 (.ia 1 (.t 8) (.t 10)), oq 14 (.ld none (.t 13)), oq 4 (.mv (.t 12)), oq 5 (.mv (.t 14))]) (.seq (.ops [ oq 15 (.mv (.t 5)), oq 16 (.bin .geq (.t 15) (.v (.int .u8 97))), oq 17 (.mv (.t 16)), ⟨some 18, some (17, true), .q (.mv (.t 5)), []⟩, ⟨some 19, some (17, true), .q (.bin .leq (.t 18) (.v (.int .u8 122))), []⟩, oq 20 (.pick (.t 17) (.t 19) (.v (.bool false)))]) (.cond (.t 20) (.ops [ oq 21 (.mv (.t 3)), oq 22 (.mv (.t 4)), oq 23 (.mv (.t 5)), oq 24 (.bin .sub (.t 23) (.v (.int .u8 32))), oq 25 (.ia 1 (.t 21) (.t 22)), oz (.store 1 (.t 25) (.t 24))]) .skip)))) (.ops [ oq 26 (.bin .add (.t 10) (.v (.int .i64 1))), oq 10 (.mv (.t 26))])))
def c132_23 : ACode := .seq (.ops [ oq 2 (.mv (.v (.str [])))]) (.seq (.ops [ oq 6 (.mv (.t 0)), oe 7 (.s2b (.t 6)), oq 3 (.mv (.t 7))]) (.seq (.seq (.ops [ oq 8 (.mv (.t 3)), oq 9 (.len (.t 8)), oq 10 (.mv (.v (.int .i64 0)))]) (.block 0 (.loop c132_15))) (.seq (.ops [ oq 27 (.mv (.t 3)), oq 28 (.b2s (.t 27)), oq 2 (.mv (.t 28))]) .ret)))
@[go_sem] def c132_15_wp := wp_of c132_15.eq_1
@[go_sem] def c132_23_wp := wp_of c132_23.eq_1
def c132 : AFn := ⟨29, [.t 2], c132_23⟩
theorem c132_ok : compF Tryz.prog Tryz.f132 = some c132 := by kernel_rfl
theorem a132 {args : List AV} {σ : ASt} {R : AV → ASt → Prop} (hl : args.length ≤ 29) (h : c132_23.wp Tryz.prog (RetQ [.t 2] R) (init args) σ) : ACalls Tryz.prog 132 args σ R := acalls_of Tryz.func132 c132_ok hl h
/-! 133: tabular/token.isName -/
def c133_15 : ACode := .seq (.ops [ oq 7 (.bin .lss (.t 6) (.t 5))]) (.seq (.cond (.t 7) .skip (.exit 0)) (.seq (.block 1 (.seq (.ops [ oq 8 (.mv (.t 6)), oq 3 (.mv (.t 8))]) (.seq (.ops [ oq 9 (.mv (.t 0)), oq 10 (.mv (.t 3)), oq 11 (.idx (.t 9) (.t 10)), oe 12 (.call 103 [(.t 11)]), oq 13 (.un .not (.t 12)), oq 14 (.mv (.t 13)), ⟨some 15, some (14, false), .q (.mv (.t 0)), []⟩, ⟨some 16, some (14, false), .q (.mv (.t 3)), []⟩, ⟨some 17, some (14, false), .q (.idx (.t 15) (.t 16)), []⟩, ⟨some 18, some (14, false), .q (.bin .eql (.t 17) (.v (.int .u8 36))), []⟩, oq 19 (.pick (.t 14) (.v (.bool true)) (.t 18)), oq 20 (.mv (.t 19)), ⟨some 21, some (20, false), .q (.mv (.t 3)), []⟩, ⟨some 22, some (20, false), .q (.bin .eql (.t 21) (.v (.int .i64 0))), []⟩, ⟨some 23, some (20, false), .q (.mv (.t 22)), []⟩, ⟨some 24, some (23, true), .q (.mv (.t 0)), []⟩, ⟨some 25, some (23, true), .q (.mv (.t 3)), []⟩, ⟨some 26, some (23, true), .q (.idx (.t 24) (.t 25)), []⟩, ⟨some 27, some (23, true), .e (.call 154 [(.t 26)]), []⟩, ⟨some 28, some (23, true), .q (.mv (.t 27)), []⟩, ⟨some 29, some (28, false), .q (.mv (.t 0)), []⟩, ⟨some 30, some (28, false), .q (.mv (.t 3)), []⟩, ⟨some 31, some (28, false), .q (.idx (.t 29) (.t 30)), []⟩, ⟨some 32, some (28, false), .q (.bin .eql (.t 31) (.v (.int .u8 46))), []⟩, ⟨some 33, some (23, true), .q (.pick (.t 28) (.v (.bool true)) (.t 32)), []⟩, ⟨some 34, some (20, false), .q (.pick (.t 23) (.t 33) (.v (.bool false))), []⟩, oq 35 (.pick (.t 20) (.v (.bool true)) (.t 34))]) (.cond (.t 35) (.seq (.ops [ oq 2 (.mv (.v (.bool false)))]) .ret) .skip)))) (.ops [ oq 36 (.bin .add (.t 6) (.v (.int .i64 1))), oq 6 (.mv (.t 36))])))
def c133_22 : ACode := .seq (.ops [ oq 2 (.mv (.v (.bool false)))]) (.seq (.seq (.ops [ oq 4 (.mv (.t 0)), oq 5 (.lenS (.t 4)), oq 6 (.mv (.v (.int .i64 0)))]) (.block 0 (.loop c133_15))) (.seq (.ops [ oq 37 (.mv (.t 0)), oq 38 (.bin .neq (.t 37) (.v (.str []))), oq 2 (.mv (.t 38))]) .ret))
@[go_sem] def c133_15_wp := wp_of c133_15.eq_1
@[go_sem] def c133_22_wp := wp_of c133_22.eq_1
def c133 : AFn := ⟨39, [.t 2], c133_22⟩
theorem c133_ok : compF Tryz.prog Tryz.f133 = some c133 := by kernel_rfl
theorem a133 {args : List AV} {σ : ASt} {R : AV → ASt → Prop} (hl : args.length ≤ 39) (h : c133_22.wp Tryz.prog (RetQ [.t 2] R) (init args) σ) : ACalls Tryz.prog 133 args σ R := acalls_of Tryz.func133 c133_ok hl h
/-! 136: tabular/token.alike -/
def c136_37 : ACode := .seq (.ops [ oq 2 (.mv (.v (.str [])))]) (.seq (.seq (.ops [ oq 3 (.mv (.t 0))]) (.block 0 (.seq (.ops [ oq 5 (.bin .eql (.t 3) (.v (.int .i32 8804))), oq 4 (.mv (.t 5))]) (.cond (.t 4) (.seq (.ops [ oq 2 (.mv (.v (.str [60, 61])))]) .ret) (.seq (.ops [ oq 7 (.bin .eql (.t 3) (.v (.int .i32 8805))), oq 6 (.mv (.t 7))]) (.cond (.t 6) (.seq (.ops [ oq 2 (.mv (.v (.str [62, 61])))]) .ret) (.seq (.ops [ oq 9 (.bin .eql (.t 3) (.v (.int .i32 8800))), oq 8 (.mv (.t 9))]) (.cond (.t 8) (.seq (.ops [ oq 2 (.mv (.v (.str [60, 62])))]) .ret) (.seq (.ops [ oq 11 (.bin .eql (.t 3) (.v (.int .i32 215))), oq 10 (.mv (.t 11))]) (.cond (.t 10) (.seq (.ops [ oq 2 (.mv (.v (.str [42])))]) .ret) (.seq (.ops [ oq 13 (.bin .eql (.t 3) (.v (.int .i32 247))), oq 12 (.mv (.t 13))]) (.cond (.t 12) (.seq (.ops [ oq 2 (.mv (.v (.str [47])))]) .ret) (.seq (.ops [ oq 15 (.bin .eql (.t 3) (.v (.int .i32 8722))), oq 14 (.mv (.t 15))]) (.cond (.t 14) (.seq (.ops [ oq 2 (.mv (.v (.str [45])))]) .ret) .skip)))))))))))))) (.seq (.ops [ oq 2 (.mv (.v (.str [])))]) .ret))
@[go_sem] def c136_37_wp := wp_of c136_37.eq_1
def c136 : AFn := ⟨16, [.t 2], c136_37⟩
theorem c136_ok : compF Tryz.prog Tryz.f136 = some c136 := by kernel_rfl
theorem a136 {args : List AV} {σ : ASt} {R : AV → ASt → Prop} (hl : args.length ≤ 16) (h : c136_37.wp Tryz.prog (RetQ [.t 2] R) (init args) σ) : ACalls Tryz.prog 136 args σ R := acalls_of Tryz.func136 c136_ok hl h
/-! 154: tabular/token.digit -/
def c154_3 : ACode := .seq (.ops [ oq 2 (.mv (.v (.bool false)))]) (.seq (.ops [ oq 3 (.mv (.t 0)), oq 4 (.bin .geq (.t 3) (.v (.int .u8 48))), oq 5 (.mv (.t 4)), ⟨some 6, some (5, true), .q (.mv (.t 0)), []⟩, ⟨some 7, some (5, true), .q (.bin .leq (.t 6) (.v (.int .u8 57))), []⟩, oq 8 (.pick (.t 5) (.t 7) (.v (.bool false))), oq 2 (.mv (.t 8))]) .ret)
@[go_sem] def c154_3_wp := wp_of c154_3.eq_1
def c154 : AFn := ⟨9, [.t 2], c154_3⟩
theorem c154_ok : compF Tryz.prog Tryz.f154 = some c154 := by kernel_rfl
theorem a154 {args : List AV} {σ : ASt} {R : AV → ASt → Prop} (hl : args.length ≤ 9) (h : c154_3.wp Tryz.prog (RetQ [.t 2] R) (init args) σ) : ACalls Tryz.prog 154 args σ R := acalls_of Tryz.func154 c154_ok hl h
end Go.A
namespace Go.A
open Go.Proofs Go.Lib
theorem word_ok (c : UInt8) : Pure Tryz.prog 103 [.int .u8 c.toNat] (.bool (wordB c)) := by
 intro σ
 refine a103 (by simp) ?_
 have hc := c.toNat_lt
 unfold wordB
 repeat' (first | (simp (disch := first | assumption | omega) only [go_sem, reduceCtorEq, Nat.reduceEqDiff, ↓reduceIte]) | with_reducible refine gC_d (fun h => ?_) (fun h => ?_) | with_reducible refine gC_dn (fun h => ?_) (fun h => ?_) | with_reducible refine condC_d (fun h => ?_) (fun h => ?_) | with_reducible refine condC_n (fun h => ?_) (fun h => ?_) | with_reducible refine condC_b (fun h => ?_) (fun h => ?_) | with_reducible refine boxC_by ?_ fun b hb => ?_)
 all_goals refine retC_by (Drop.refl _) (.refl _) ⟨?_, rfl⟩
 all_goals (simp only [resV_one]) <;> (congr 1) <;> (rw [Bool.eq_iff_iff]; simp only [decide_eq_true_eq]; omega)
theorem digit_ok (c : UInt8) : Pure Tryz.prog 154 [.int .u8 c.toNat] (.bool (digB c)) := by
 intro σ
 refine a154 (by simp) ?_
 have hc := c.toNat_lt
 unfold digB
 repeat' (first | (simp (disch := first | assumption | omega) only [go_sem, reduceCtorEq, Nat.reduceEqDiff, ↓reduceIte]) | with_reducible refine gC_d (fun h => ?_) (fun h => ?_) | with_reducible refine gC_dn (fun h => ?_) (fun h => ?_) | with_reducible refine condC_d (fun h => ?_) (fun h => ?_) | with_reducible refine condC_n (fun h => ?_) (fun h => ?_) | with_reducible refine condC_b (fun h => ?_) (fun h => ?_) | with_reducible refine boxC_by ?_ fun b hb => ?_)
 all_goals refine retC_by (Drop.refl _) (.refl _) ⟨?_, rfl⟩
 all_goals (simp only [resV_one]) <;> (congr 1) <;> (rw [Bool.eq_iff_iff]; simp only [decide_eq_true_eq]; omega)
theorem alike_ok (c : Int) : Pure Tryz.prog 136 [.int .i32 c] (.str (alikeP c)) := by
 intro σ
 refine a136 (by simp) ?_
 unfold alikeP
 by_cases h1 : c = 8804
 ·simp (disch := first | assumption | omega) only [go_sem, reduceCtorEq, ↓reduceIte, h1]; exact retC_by (Drop.refl _) (.refl _) ⟨by simp [resV_one], rfl⟩
 by_cases h2 : c = 8805
 ·simp (disch := first | assumption | omega) only [go_sem, reduceCtorEq, Nat.reduceEqDiff, Int.reduceEq, ↓reduceIte, h2]; exact retC_by (Drop.refl _) (.refl _) ⟨by simp [resV_one], rfl⟩
 by_cases h3 : c = 8800
 ·simp (disch := first | assumption | omega) only [go_sem, reduceCtorEq, Nat.reduceEqDiff, Int.reduceEq, ↓reduceIte, h3]; exact retC_by (Drop.refl _) (.refl _) ⟨by simp [resV_one], rfl⟩
 by_cases h4 : c = 215
 ·simp (disch := first | assumption | omega) only [go_sem, reduceCtorEq, Nat.reduceEqDiff, Int.reduceEq, ↓reduceIte, h4]; exact retC_by (Drop.refl _) (.refl _) ⟨by simp [resV_one], rfl⟩
 by_cases h5 : c = 247
 ·simp (disch := first | assumption | omega) only [go_sem, reduceCtorEq, Nat.reduceEqDiff, Int.reduceEq, ↓reduceIte, h5]; exact retC_by (Drop.refl _) (.refl _) ⟨by simp [resV_one], rfl⟩
 by_cases h6 : c = 8722
 ·simp (disch := first | assumption | omega) only [go_sem, reduceCtorEq, Nat.reduceEqDiff, Int.reduceEq, ↓reduceIte, h6]; exact retC_by (Drop.refl _) (.refl _) ⟨by simp [resV_one], rfl⟩
 simp (disch := first | assumption | omega) only [go_sem, reduceCtorEq, Nat.reduceEqDiff, ↓reduceIte, h1, h2, h3, h4, h5, h6]
 exact retC_by (Drop.refl _) (.refl _) ⟨by simp [resV_one], rfl⟩
theorem isRef_ok (l : List UInt8) (hl : l.length ≤ 9223372036854775000) : Pure Tryz.prog 131 [.str l] (.bool (refB l)) := by
 intro σ
 refine a131 (by simp) ?_
 simp (disch := first | assumption | omega) only [go_sem, reduceCtorEq, ↓reduceIte]
 refine (parse_ok l hl).use ?_
 unfold refB
 obtain ⟨⟨⟨row, col, ar, ac⟩, ok⟩, hq⟩ : ∃ q, parseP l = q := ⟨_, rfl⟩
 rw [hq]
 simp (disch := first | assumption | omega) only [go_sem, Nat.reduceEqDiff, ↓reduceIte, refAV]
 refine allocC_by fun b hb => ?_
 simp (disch := first | assumption | omega) only [go_sem, Nat.reduceEqDiff, Nat.reduceAdd, Nat.reduceLeDiff, ↓reduceIte, Bool.true_and]
 exact retC_by (by repeat' (first | exact Drop.refl _ | with_reducible refine Drop.off ?_ (by assumption))) (.refl _) ⟨rfl, rfl⟩
theorem tgreat_ok (l : List UInt8) (hl : l.length < 4611686018427387904) : Pure Tryz.prog 132 [.str l] (.str (greatP l)) := by
 intro σ
 refine a132 (by simp) ?_
 simp (disch := first | assumption | omega) only [go_sem, reduceCtorEq, ↓reduceIte]
 refine s2b_own fun b cp hb hcp => ?_
 simp (disch := first | assumption | omega) only [go_sem, ↓reduceIte]
 refine wp_loop_on (fun (i : Nat) a σ' => i ≤ l.length ∧ (a 3 = .msl b 0 l.length cp ∧ a 8 = .msl b 0 l.length cp ∧ a 9 = .int .i64 l.length ∧ a 10 = .int .i64 i) ∧ σ' = σ.set b (some (.obj (bytesAV (greatP (l.take i) ++ l.drop i)))))
  (fun i => l.length - i) 0 ⟨Nat.zero_le _, ?_, by simp [greatP]⟩ ?_
 ·simp (disch := first | assumption | omega) only [go_sem, Nat.reduceEqDiff, ↓reduceIte]
 rintro i a σ1 ⟨hi, hf, rfl⟩
 obtain ⟨m, hm⟩ : ∃ m, greatP (l.take i) ++ l.drop i = m := ⟨_, rfl⟩
 have hml : m.length = l.length := by rw [← hm]; simp [greatP]; omega
 have hgl : (greatP (l.take i)).length = i := by simp [greatP]; omega
 rw [hm]
 by_cases hlt : i < l.length
 ·have hidx : m[i]? = some (l[i]'hlt) := by rw [← hm, List.getElem?_append_right (by omega), hgl]; simp
  obtain ⟨c, hc⟩ : ∃ c, l[i]'hlt = c := ⟨_, rfl⟩
  rw [hc] at hidx
  have hcb := u8_lt c
  have hi2 : (i : Int) < l.length := by omega
  have hle : i + 1 ≤ m.length := by omega
  have hnext : greatP (l.take (i + 1)) ++ l.drop (i + 1) = m.set i (greatC c) := by
   rw [← hm, List.take_succ_eq_append_getElem hlt, hc, List.set_append_right _ _ (by omega), hgl, Nat.sub_self]
   simp only [greatP, List.map_append, List.map_cons, List.map_nil, List.append_assoc, List.singleton_append]
   rw [List.drop_eq_getElem_cons hlt]
   rfl
  by_cases hg : 97 ≤ c.toNat ∧ c.toNat ≤ 122
  ·have g1 : (97 : Int) ≤ c.toNat := by omega
   have g2 : (c.toNat : Int) ≤ 122 := by omega
   have hgc : greatC c = UInt8.ofNat (c.toNat - 32) := by unfold greatC; rw [if_pos hg]
   have hw := set_bytes (l := m) (i := i) (m := (c.toNat : Int) - 32) (by omega)
   have hw0 : (c.toNat : Int) - 32 = ((UInt8.ofNat (c.toNat - 32)).toNat : Int) := by rw [u8_nat (by omega)]; omega
   rw [hw0, bytes_set] at hw
   simp (disch := first | assumption | omega) only [go_sem, Nat.reduceEqDiff, ↓reduceIte, Nat.mul_one, Bool.true_and, hf, hi2, hidx, g1, g2, hle, hw0, hw]
   refine ⟨i + 1, by omega, by omega, ?_, by rw [hnext, hgc]⟩
   simp (disch := first | assumption | omega) only [go_sem]
  ·have hgc : greatC c = c := by unfold greatC; rw [if_neg hg]
   have hms : m.set i c = m := by
    apply List.ext_getElem?
    intro j
    rw [List.getElem?_set]
    split
    ·rename_i h; subst h; rw [hidx]; split <;> first | rfl | omega
    ·rfl
   by_cases g1 : (97 : Int) ≤ c.toNat
   ·have g2 : ¬ (c.toNat : Int) ≤ 122 := by omega
    simp (disch := first | assumption | omega) only [go_sem, Nat.reduceEqDiff, ↓reduceIte, Nat.mul_one, hf, hi2, hidx, g1, g2]
    refine ⟨i + 1, by omega, by omega, ?_, by rw [hnext, hgc, hms]⟩
    simp (disch := first | assumption | omega) only [go_sem]
   ·simp (disch := first | assumption | omega) only [go_sem, Nat.reduceEqDiff, ↓reduceIte, Nat.mul_one, hf, hi2, hidx, g1]
    refine ⟨i + 1, by omega, by omega, ?_, by rw [hnext, hgc, hms]⟩
    simp (disch := first | assumption | omega) only [go_sem]
 ·have hi2 : ¬ (i : Int) < l.length := by omega
  have hle2 : l.length ≤ m.length := by omega
  have htk := bytes_all hml
  simp (disch := first | assumption | omega) only [go_sem, Nat.reduceEqDiff, ↓reduceIte, hf, hi2, hle2, htk]
  refine retC_by (by repeat' (first | exact Drop.refl _ | with_reducible refine Drop.off ?_ (by assumption))) (.refl _) ⟨?_, rfl⟩
  rw [← hm, List.take_of_length_le (by omega), List.drop_eq_nil_of_le (by omega), List.append_nil]
  rfl
theorem errs_ok : Pure Tryz.prog 119 [] (.sl .full (errTexts.map AV.str)) := by
 intro σ
 refine a119 (by simp) ?_
 simp (disch := first | assumption | omega) only [go_sem, ↓reduceIte, Bool.true_and]
 exact retC_by (by repeat' (first | exact Drop.refl _ | with_reducible refine Drop.off ?_ (by assumption))) (.refl _) ⟨rfl, rfl⟩
theorem index_dot : ∀ l : List UInt8, (cutDot l).2 = none ∧ indexByte l 46 = -1 ∧ (cutDot l).1 = l ∨ ∃ (i : Nat) (p : List UInt8), indexByte l 46 = i ∧ i < l.length ∧ cutDot l = (l.take i, some p) ∧ p = l.drop (i + 1)
 | [] => .inl ⟨rfl, rfl, rfl⟩
 | c :: l => by
   unfold indexByte cutDot
   by_cases hc : c.toNat = 46
   ·have : c = 46 := by apply UInt8.toNat_inj.1; simpa using hc
    subst this
    exact .inr ⟨0, l, by simp, by simp, by simp, by simp⟩
   ·have hne : ¬ (c == 46) = true := by
     intro h
     rw [beq_iff_eq] at h
     subst h
     exact hc rfl
    rw [if_neg hc, if_neg hne]
    rcases index_dot l with ⟨h1, h2, h3⟩ | ⟨i, p, h1, h2, h3, h4⟩
    ·exact .inl ⟨h1, by rw [h2]; rfl, by rw [h3]⟩
    ·refine .inr ⟨i + 1, p, ?_, by simpa using h2, ?_, by simpa using h4⟩
     ·rw [h1, if_neg (by rw [beq_iff_eq]; omega)]; rfl
     ·rw [h3]; rfl
theorem cutdot_ok (l : List UInt8) (hl : l.length ≤ 1000000000) : Pure Tryz.prog 64 [.str l, .str [46]] (.tuple [.str (cutDot l).1, .str ((cutDot l).2.getD []), .bool (cutDot l).2.isSome]) := by
 have h1 : Pure Tryz.prog 100 [.str l, .str [46]] (.tuple [.str (cutDot l).1, .str ((cutDot l).2.getD []), .bool (cutDot l).2.isSome]) := by
  intro σ
  refine a100 (by simp) ?_
  rcases index_dot l with ⟨h1, h2, h3⟩ | ⟨i, p, h1, h2, h3, h4⟩
  ·rw [h1, h3]
   simp (disch := first | assumption | omega) only [go_sem, reduceCtorEq, Nat.reduceEqDiff, ↓reduceIte]
   refine (index_ok l 46).use ?_
   rw [h2]
   simp (disch := first | assumption | omega) only [go_sem, reduceCtorEq, Nat.reduceEqDiff, Int.reduceLE, ↓reduceIte, Int.reduceNeg]
   exact retC_by (by repeat' (first | exact Drop.refl _ | with_reducible refine Drop.off ?_ (by assumption))) (.refl _) ⟨rfl, rfl⟩
  ·rw [h3]
   subst h4
   have e1 : (0 : Int) ≤ i := by omega
   have e2 : ((i : Int) + 1).toNat = i + 1 := by omega
   simp (disch := first | assumption | omega) only [go_sem, reduceCtorEq, Nat.reduceEqDiff, ↓reduceIte]
   refine (index_ok l 46).use ?_
   rw [h1]
   simp (disch := first | assumption | omega) only [go_sem, reduceCtorEq, Nat.reduceEqDiff, ↓reduceIte, e1, e2, List.take_length]
   exact retC_by (by repeat' (first | exact Drop.refl _ | with_reducible refine Drop.off ?_ (by assumption))) (.refl _) ⟨rfl, rfl⟩
 intro σ
 refine a64 (by simp) ?_
 simp (disch := first | assumption | omega) only [go_sem, reduceCtorEq, Nat.reduceEqDiff, ↓reduceIte]
 refine h1.use ?_
 simp (disch := first | assumption | omega) only [go_sem, Nat.reduceEqDiff, ↓reduceIte]
 exact retC_by (by repeat' (first | exact Drop.refl _ | with_reducible refine Drop.off ?_ (by assumption))) (.refl _) ⟨rfl, rfl⟩
theorem cutDot_len (l : List UInt8) : (cutDot l).1.length + ((cutDot l).2.getD []).length ≤ l.length := by
 rcases index_dot l with ⟨h1, h2, h3⟩ | ⟨i, p, h1, h2, h3, h4⟩
 ·rw [h1, h3]; simp
 ·rw [h3, h4]; simp; omega
theorem isNum_ok (l : List UInt8) (hl : l.length ≤ 1000000000) : Pure Tryz.prog 130 [.str l] (.bool (numB l)) := by
 intro σ
 have hcd := cutdot_ok l hl
 have hlen := cutDot_len l
 obtain ⟨R, hR⟩ : ∃ R, numB l = R := ⟨_, rfl⟩
 rw [hR]
 refine a130 (by simp) ?_
 unfold numB at hR
 obtain ⟨⟨w, q⟩, hC⟩ : ∃ C, cutDot l = C := ⟨_, rfl⟩
 rw [hC] at hcd hlen hR
 dsimp only at hcd hlen
 obtain ⟨F, hF⟩ : ∃ F, F = ACode.wp Tryz.prog c130_27 := ⟨_, rfl⟩
 have fin : ∀ (p : List UInt8) (a : AFr), w.length + p.length ≤ l.length → (w ++ p).all digB = R → (a 3 = .str w ∧ a 4 = .str p) → F (RetQ [.t 2] fun v σ' => v = .bool R ∧ σ' = σ) a σ := by
  intro p a hlp hwp hf
  rw [hF]
  have hl2 : w.length + p.length ≤ 9223372036854775807 := by omega
  simp (disch := first | assumption | omega) only [go_sem, Nat.reduceEqDiff, ↓reduceIte, hf]
  refine s2b_shr ?_
  obtain ⟨m, hm⟩ : ∃ m, w ++ p = m := ⟨_, rfl⟩
  rw [hm] at hwp ⊢
  have hml : m.length ≤ 1000000000 := by rw [← hm]; simp; omega
  simp (disch := first | assumption | omega) only [go_sem, ↓reduceIte]
  refine wp_loop_on (fun (i : Nat) a σ' => i ≤ m.length ∧ (m.take i).all digB = true ∧ (a 31 = .sl .shr (bytesAV m) ∧ a 32 = .int .i64 m.length ∧ a 33 = .int .i64 i) ∧ σ' = σ) (fun i => m.length - i) 0 ⟨Nat.zero_le _, rfl, ?_, rfl⟩ ?_
  ·simp (disch := first | assumption | omega) only [go_sem, Nat.reduceEqDiff, ↓reduceIte]
  rintro i a σ1 ⟨hi, hall, hf, rfl⟩
  by_cases hlt : i < m.length
  ·have hidx : m[i]? = some (m[i]'hlt) := List.getElem?_eq_getElem hlt
   obtain ⟨c, hc⟩ : ∃ c, m[i]'hlt = c := ⟨_, rfl⟩
   rw [hc] at hidx
   have hlt' : (i : Int) < m.length := by omega
   simp (disch := first | assumption | omega) only [go_sem, Nat.reduceEqDiff, ↓reduceIte, hf, hlt', hidx]
   refine (digit_ok c).use ?_
   obtain ⟨d, hd⟩ : ∃ d, digB c = d := ⟨_, rfl⟩
   rw [hd]
   have hnx : (m.take (i + 1)).all digB = d := by
    rw [List.take_succ_eq_append_getElem hlt, hc, List.all_append, hall]
    simp [hd]
   cases d
   ·simp (disch := first | assumption | omega) only [go_sem, ↓reduceIte]
    have : m.all digB = false := by
     have h1 := congrArg (fun x => x && (m.drop (i + 1)).all digB) hnx
     simp only [← List.all_append, List.take_append_drop, Bool.false_and] at h1
     exact h1
    rw [this] at hwp
    subst hwp
    exact retC_by (by repeat' (first | exact Drop.refl _ | with_reducible refine Drop.off ?_ (by assumption))) (.refl _) ⟨rfl, rfl⟩
   ·simp (disch := first | assumption | omega) only [go_sem, Nat.reduceEqDiff, ↓reduceIte, hf]
    exact ⟨i + 1, by omega, by omega, hnx, rfl⟩
  ·have hlt' : ¬ (i : Int) < m.length := by omega
   rw [List.take_of_length_le (by omega), hwp] at hall
   subst hall
   simp (disch := first | assumption | omega) only [go_sem, ↓reduceIte, hf, hlt']
   exact retC_by (by repeat' (first | exact Drop.refl _ | with_reducible refine Drop.off ?_ (by assumption))) (.refl _) ⟨rfl, rfl⟩
 simp (disch := first | assumption | omega) only [go_sem, reduceCtorEq, ↓reduceIte]
 refine hcd.use ?_
 by_cases hw : w = []
 ·have : R = false := by
   rw [← hR]
   cases q <;> simp [hw]
  subst hw this
  simp (disch := first | assumption | omega) only [go_sem, Nat.reduceEqDiff, ↓reduceIte, ←hF]
  exact retC_by (by repeat' (first | exact Drop.refl _ | with_reducible refine Drop.off ?_ (by assumption))) (.refl _) ⟨rfl, rfl⟩
 cases q with
 | none =>
   simp (disch := first | assumption | omega) only [go_sem, Nat.reduceEqDiff, ↓reduceIte, hw, Option.isSome_none, Option.getD_none, ←hF]
   refine fin [] _ (by simpa using hlen) (by rw [← hR]; simp [hw]) ?_
   simp (disch := first | assumption | omega) only [go_sem, Nat.reduceEqDiff, ↓reduceIte]
 | some p =>
   dsimp only [Option.getD_some] at hlen
   by_cases hp : p = []
   ·have : R = false := by rw [← hR]; simp [hp]
    subst hp this
    simp (disch := first | assumption | omega) only [go_sem, Nat.reduceEqDiff, ↓reduceIte, hw, Option.getD_some, Option.isSome_some, ←hF]
    exact retC_by (by repeat' (first | exact Drop.refl _ | with_reducible refine Drop.off ?_ (by assumption))) (.refl _) ⟨rfl, rfl⟩
   by_cases h4 : 4 < p.length
   ·have : R = false := by rw [← hR]; simp [hp, show ¬ p.length ≤ 4 by omega]
    subst this
    have h4' : (4 : Int) < p.length := by omega
    simp (disch := first | assumption | omega) only [go_sem, Nat.reduceEqDiff, ↓reduceIte, hw, hp, h4', Option.getD_some, Option.isSome_some, ←hF]
    exact retC_by (by repeat' (first | exact Drop.refl _ | with_reducible refine Drop.off ?_ (by assumption))) (.refl _) ⟨rfl, rfl⟩
   ·have h4' : ¬ (4 : Int) < p.length := by omega
    simp (disch := first | assumption | omega) only [go_sem, Nat.reduceEqDiff, ↓reduceIte, hw, hp, h4', Option.getD_some, Option.isSome_some, ←hF]
    refine fin p _ hlen (by rw [← hR]; simp [hw, hp, show p.length ≤ 4 by omega]) ?_
    simp (disch := first | assumption | omega) only [go_sem, Nat.reduceEqDiff, ↓reduceIte]
theorem isName_ok (l : List UInt8) (hl : l.length ≤ 1000000000) : Pure Tryz.prog 133 [.str l] (.bool (nameB l)) := by
 intro σ
 refine a133 (by simp) ?_
 obtain ⟨R, hR⟩ : ∃ R, nameB l = R := ⟨_, rfl⟩
 rw [hR]
 unfold nameB at hR
 simp (disch := first | assumption | omega) only [go_sem, reduceCtorEq, ↓reduceIte]
 refine wp_loop_on (fun (i : Nat) a σ' => i ≤ l.length ∧ (l.take i).all (fun c => wordB c && decide (c.toNat ≠ 36)) = true ∧ (0 < i → ((l.head?.map fun c => digB c || decide (c.toNat = 46)).getD false) = false) ∧ (a 0 = .str l ∧ a 5 = .int .i64 l.length ∧ a 6 = .int .i64 i) ∧ σ' = σ) (fun i => l.length - i) 0 ⟨Nat.zero_le _, rfl, by omega, ?_, rfl⟩ ?_
 ·simp (disch := first | assumption | omega) only [go_sem, reduceCtorEq, Nat.reduceEqDiff, ↓reduceIte]
 rintro i a σ1 ⟨hi, hall, hfst, hf, rfl⟩
 by_cases hlt : i < l.length
 ·have hidx : l[i]? = some (l[i]'hlt) := List.getElem?_eq_getElem hlt
  obtain ⟨c, hc⟩ : ∃ c, l[i]'hlt = c := ⟨_, rfl⟩
  rw [hc] at hidx
  have hlt' : (i : Int) < l.length := by omega
  have hstep : (l.take (i + 1)).all (fun c => wordB c && decide (c.toNat ≠ 36)) = (wordB c && decide (c.toNat ≠ 36)) := by
   rw [List.take_succ_eq_append_getElem hlt, hc, List.all_append, hall]
   simp
  have hno : (wordB c && decide (c.toNat ≠ 36)) = false → R = false := by
   intro h
   rw [h] at hstep
   have h1 := congrArg (fun x => x && (l.drop (i + 1)).all (fun c => wordB c && decide (c.toNat ≠ 36))) hstep
   simp only [← List.all_append, List.take_append_drop, Bool.false_and] at h1
   rw [← hR, h1]
   simp
  simp (disch := first | assumption | omega) only [go_sem, reduceCtorEq, Nat.reduceEqDiff, ↓reduceIte, hf, hlt', hidx]
  refine (word_ok c).use ?_
  cases hwd : wordB c with
  | false =>
    obtain rfl := hno (by rw [hwd]; rfl)
    simp (disch := first | assumption | omega) only [go_sem, Nat.reduceEqDiff, ↓reduceIte]
    exact retC_by (by repeat' (first | exact Drop.refl _ | with_reducible refine Drop.off ?_ (by assumption))) (.refl _) ⟨rfl, rfl⟩
  | true =>
  by_cases h36 : (c.toNat : Int) = 36
  ·obtain rfl := hno (by rw [hwd]; simp; omega)
   simp (disch := first | assumption | omega) only [go_sem, reduceCtorEq, Nat.reduceEqDiff, ↓reduceIte, hf, hidx, h36]
   exact retC_by (by repeat' (first | exact Drop.refl _ | with_reducible refine Drop.off ?_ (by assumption))) (.refl _) ⟨rfl, rfl⟩
  have hok : (l.take (i + 1)).all (fun c => wordB c && decide (c.toNat ≠ 36)) = true := by rw [hstep, hwd]; simp; omega
  by_cases h0 : i = 0
  ·subst h0
   have hhd : l.head? = some c := by
    rw [List.head?_eq_getElem?]; exact hidx
   simp (disch := first | assumption | omega) only [go_sem, reduceCtorEq, Nat.reduceEqDiff, ↓reduceIte, hf, hidx, h36]
   refine (digit_ok c).use ?_
   cases hdg : digB c with
   | true =>
     have : R = false := by rw [← hR, hhd]; simp [hdg]
     subst this
     simp (disch := first | assumption | omega) only [go_sem, Nat.reduceEqDiff, ↓reduceIte]
     exact retC_by (by repeat' (first | exact Drop.refl _ | with_reducible refine Drop.off ?_ (by assumption))) (.refl _) ⟨rfl, rfl⟩
   | false =>
     by_cases h46 : (c.toNat : Int) = 46
     ·have : R = false := by rw [← hR, hhd]; simp; intro _ _ _; omega
      subst this
      simp (disch := first | assumption | omega) only [go_sem, reduceCtorEq, Nat.reduceEqDiff, ↓reduceIte, hf, hidx, h46]
      exact retC_by (by repeat' (first | exact Drop.refl _ | with_reducible refine Drop.off ?_ (by assumption))) (.refl _) ⟨rfl, rfl⟩
     ·simp (disch := first | assumption | omega) only [go_sem, reduceCtorEq, Nat.reduceEqDiff, ↓reduceIte, Int.reduceAdd, hf, hidx, h46]
      refine ⟨0 + 1, by omega, by omega, hok, ?_, rfl⟩
      intro _
      rw [hhd]
      simp [hdg]
      omega
  ·have h0' : ¬ (i : Int) = 0 := by omega
   simp (disch := first | assumption | omega) only [go_sem, reduceCtorEq, Nat.reduceEqDiff, ↓reduceIte, hf, hidx, h36, h0']
   exact ⟨i + 1, by omega, by omega, hok, fun _ => hfst (by omega), rfl⟩
 ·have hlt' : ¬ (i : Int) < l.length := by omega
  rw [List.take_of_length_le (by omega)] at hall
  have : R = decide (l ≠ []) := by
   rw [← hR, hall]
   by_cases hne : l = []
   ·subst hne; rfl
   ·have hpos := List.length_pos_iff.2 hne
    rw [hfst (by omega)]
    simp
  subst this
  simp (disch := first | assumption | omega) only [go_sem, reduceCtorEq, ↓reduceIte, hf, hlt']
  exact retC_by (by repeat' (first | exact Drop.refl _ | with_reducible refine Drop.off ?_ (by assumption))) (.refl _) ⟨by simp [resV_one], rfl⟩
end Go.A
namespace Go.A
open Go.Proofs
/-! 83: (*strings.Builder).WriteByte -/
def c83_7 : ACode := .seq (.ops [ oq 4 (.mv (.v .nili))]) (.seq (.ops [ oq 5 (.mv (.t 0)), oe 6 (.call 113 [(.t 5)])]) (.seq (.ops [ oq 7 (.mv (.t 0)), oq 8 (.mv (.t 0)), oq 9 (.nc (.t 8)), oq 10 (.fa 1 (.t 9)), oq 11 (.ld none (.t 10)), oq 12 (.mv (.t 1)), oq 13 (.bsl 1 [(.t 12)]), oe 14 (.app 5 1 1 [(.int .u8 0)] (.t 11) (.t 13)), oq 15 (.nc (.t 7)), oq 16 (.fa 1 (.t 15)), oz (.store 1 (.t 16) (.t 14))]) (.seq (.ops [ oq 4 (.mv (.v .nili))]) .ret)))
@[go_sem] def c83_7_wp := wp_of c83_7.eq_1
def c83 : AFn := ⟨17, [.t 4], c83_7⟩
theorem c83_ok : compF Tryz.prog Tryz.f83 = some c83 := by kernel_rfl
theorem a83 {args : List AV} {σ : ASt} {R : AV → ASt → Prop} (hl : args.length ≤ 17) (h : c83_7.wp Tryz.prog (RetQ [.t 4] R) (init args) σ) : ACalls Tryz.prog 83 args σ R := acalls_of Tryz.func83 c83_ok hl h
/-! 134: (*strings.Builder).WriteRune -/
def c134_9 : ACode := .seq (.ops [ oq 4 (.mv (.v (.int .i64 0))), oq 5 (.mv (.v .nili))]) (.seq (.ops [ oq 7 (.mv (.t 0)), oe 8 (.call 113 [(.t 7)])]) (.seq (.ops [ oq 9 (.mv (.t 0)), oq 10 (.nc (.t 9)), oq 11 (.fa 1 (.t 10)), oq 12 (.ld none (.t 11)), oq 13 (.len (.t 12)), oq 6 (.mv (.t 13))]) (.seq (.ops [ oq 14 (.mv (.t 0)), oq 15 (.mv (.t 0)), oq 16 (.nc (.t 15)), oq 17 (.fa 1 (.t 16)), oq 18 (.ld none (.t 17)), oq 19 (.mv (.t 1)), oe 20 (.call 156 [(.t 18), (.t 19)]), oq 21 (.nc (.t 14)), oq 22 (.fa 1 (.t 21)), oz (.store 1 (.t 22) (.t 20))]) (.seq (.ops [ oq 23 (.mv (.t 0)), oq 24 (.nc (.t 23)), oq 25 (.fa 1 (.t 24)), oq 26 (.ld none (.t 25)), oq 27 (.len (.t 26)), oq 28 (.mv (.t 6)), oq 29 (.bin .sub (.t 27) (.t 28)), oq 4 (.mv (.t 29)), oq 5 (.mv (.v .nili))]) .ret))))
@[go_sem] def c134_9_wp := wp_of c134_9.eq_1
def c134 : AFn := ⟨30, [.t 4, .t 5], c134_9⟩
theorem c134_ok : compF Tryz.prog Tryz.f134 = some c134 := by kernel_rfl
theorem a134 {args : List AV} {σ : ASt} {R : AV → ASt → Prop} (hl : args.length ≤ 30) (h : c134_9.wp Tryz.prog (RetQ [.t 4, .t 5] R) (init args) σ) : ACalls Tryz.prog 134 args σ R := acalls_of Tryz.func134 c134_ok hl h
/-! 156: unicode/utf8.AppendRune -/
def c156_9 : ACode := .seq (.ops [ oq 4 (.mv (.v (.sl .full [])))]) (.seq (.seq (.ops [ oq 5 (.mv (.t 1)), oq 6 (.conv .u32 (.t 5)), oq 7 (.bin .leq (.t 6) (.v (.int .u32 127)))]) (.cond (.t 7) (.seq (.ops [ oq 8 (.mv (.t 0)), oq 9 (.mv (.t 1)), oq 10 (.conv .u8 (.t 9)), oq 11 (.bsl 1 [(.t 10)]), oe 12 (.app 5 1 1 [(.int .u8 0)] (.t 8) (.t 11)), oq 4 (.mv (.t 12))]) .ret) .skip)) (.seq (.ops [ oq 13 (.mv (.t 0)), oq 14 (.mv (.t 1)), oe 15 (.call 174 [(.t 13), (.t 14)]), oq 4 (.mv (.t 15))]) .ret))
@[go_sem] def c156_9_wp := wp_of c156_9.eq_1
def c156 : AFn := ⟨16, [.t 4], c156_9⟩
theorem c156_ok : compF Tryz.prog Tryz.f156 = some c156 := by kernel_rfl
theorem a156 {args : List AV} {σ : ASt} {R : AV → ASt → Prop} (hl : args.length ≤ 16) (h : c156_9.wp Tryz.prog (RetQ [.t 4] R) (init args) σ) : ACalls Tryz.prog 156 args σ R := acalls_of Tryz.func156 c156_ok hl h
/-! 174: unicode/utf8.appendRuneNonASCII -/
def c174_20 : ACode := .cond (.t 11) (.seq (.ops [ oq 14 (.mv (.t 0)), oq 15 (.mv (.t 1)), oq 16 (.bin .shr (.t 15) (.v (.int .u64 6))), oq 17 (.conv .u8 (.t 16)), oq 18 (.bin .or (.v (.int .u8 192)) (.t 17)), oq 19 (.mv (.t 1)), oq 20 (.conv .u8 (.t 19)), oq 21 (.bin .and (.t 20) (.v (.int .u8 63))), oq 22 (.bin .or (.v (.int .u8 128)) (.t 21)), oq 23 (.bsl 1 [(.t 18), (.t 22)]), oe 24 (.app 5 1 1 [(.int .u8 0)] (.t 14) (.t 23)), oq 4 (.mv (.t 24))]) .ret) (.seq (.seq (.ops [ oq 26 (.mv (.t 5)), oq 27 (.bin .lss (.t 26) (.v (.int .u32 55296))), oq 25 (.mv (.t 27))]) (.cond (.t 25) .skip (.ops [ oq 28 (.mv (.t 5)), oq 29 (.bin .lss (.v (.int .u32 57343)) (.t 28)), oq 30 (.mv (.t 29)), ⟨some 31, some (30, true), .q (.mv (.t 5)), []⟩, ⟨some 32, some (30, true), .q (.bin .leq (.t 31) (.v (.int .u32 65535))), []⟩, oq 33 (.pick (.t 30) (.t 32) (.v (.bool false))), oq 25 (.mv (.t 33))]))) (.cond (.t 25) (.seq (.ops [ oq 34 (.mv (.t 0)), oq 35 (.mv (.t 1)), oq 36 (.bin .shr (.t 35) (.v (.int .u64 12))), oq 37 (.conv .u8 (.t 36)), oq 38 (.bin .or (.v (.int .u8 224)) (.t 37)), oq 39 (.mv (.t 1)), oq 40 (.bin .shr (.t 39) (.v (.int .u64 6))), oq 41 (.conv .u8 (.t 40)), oq 42 (.bin .and (.t 41) (.v (.int .u8 63))), oq 43 (.bin .or (.v (.int .u8 128)) (.t 42)), oq 44 (.mv (.t 1)), oq 45 (.conv .u8 (.t 44)), oq 46 (.bin .and (.t 45) (.v (.int .u8 63))), oq 47 (.bin .or (.v (.int .u8 128)) (.t 46)), oq 48 (.bsl 1 [(.t 38), (.t 43), (.t 47)]), oe 49 (.app 5 1 1 [(.int .u8 0)] (.t 34) (.t 48)), oq 4 (.mv (.t 49))]) .ret) (.seq (.ops [ oq 51 (.mv (.t 5)), oq 52 (.bin .gtr (.t 51) (.v (.int .u32 65535))), oq 53 (.mv (.t 52)), ⟨some 54, some (53, true), .q (.mv (.t 5)), []⟩, ⟨some 55, some (53, true), .q (.bin .leq (.t 54) (.v (.int .u32 1114111))), []⟩, oq 56 (.pick (.t 53) (.t 55) (.v (.bool false))), oq 50 (.mv (.t 56))]) (.cond (.t 50) (.seq (.ops [ oq 57 (.mv (.t 0)), oq 58 (.mv (.t 1)), oq 59 (.bin .shr (.t 58) (.v (.int .u64 18))), oq 60 (.conv .u8 (.t 59)), oq 61 (.bin .or (.v (.int .u8 240)) (.t 60)), oq 62 (.mv (.t 1)), oq 63 (.bin .shr (.t 62) (.v (.int .u64 12))), oq 64 (.conv .u8 (.t 63)), oq 65 (.bin .and (.t 64) (.v (.int .u8 63))), oq 66 (.bin .or (.v (.int .u8 128)) (.t 65)), oq 67 (.mv (.t 1)), oq 68 (.bin .shr (.t 67) (.v (.int .u64 6))), oq 69 (.conv .u8 (.t 68)), oq 70 (.bin .and (.t 69) (.v (.int .u8 63))), oq 71 (.bin .or (.v (.int .u8 128)) (.t 70)), oq 72 (.mv (.t 1)), oq 73 (.conv .u8 (.t 72)), oq 74 (.bin .and (.t 73) (.v (.int .u8 63))), oq 75 (.bin .or (.v (.int .u8 128)) (.t 74)), oq 76 (.bsl 1 [(.t 61), (.t 66), (.t 71), (.t 75)]), oe 77 (.app 5 1 1 [(.int .u8 0)] (.t 57) (.t 76)), oq 4 (.mv (.t 77))]) .ret) (.seq (.ops [ oq 8 (.mv (.t 0)), oq 9 (.bsl 1 [(.v (.int .u8 239)), (.v (.int .u8 191)), (.v (.int .u8 189))]), oe 10 (.app 5 1 1 [(.int .u8 0)] (.t 8) (.t 9)), oq 4 (.mv (.t 10))]) .ret)))))
def c174_24 : ACode := .seq (.ops [ oq 4 (.mv (.v (.sl .full [])))]) (.seq (.ops [ oq 6 (.mv (.t 1)), oq 7 (.conv .u32 (.t 6)), oq 5 (.mv (.t 7))]) (.block 0 (.seq (.ops [ oq 12 (.mv (.t 5)), oq 13 (.bin .leq (.t 12) (.v (.int .u32 2047))), oq 11 (.mv (.t 13))]) c174_20)))
@[go_sem] def c174_20_wp := wp_of c174_20.eq_1
@[go_sem] def c174_24_wp := wp_of c174_24.eq_1
def c174 : AFn := ⟨78, [.t 4], c174_24⟩
theorem c174_ok : compF Tryz.prog Tryz.f174 = some c174 := by kernel_rfl
theorem a174 {args : List AV} {σ : ASt} {R : AV → ASt → Prop} (hl : args.length ≤ 78) (h : c174_24.wp Tryz.prog (RetQ [.t 4] R) (init args) σ) : ACalls Tryz.prog 174 args σ R := acalls_of Tryz.func174 c174_ok hl h
end Go.A
namespace Go.A
theorem ne_of_role {σ : ASt} {b c : Nat} {r : Role} (h : σ b = some r) (k : σ c = none) : b ≠ c ∧ c ≠ b := by
 constructor <;> rintro rfl <;> rw [h] at k <;> cases k
def GO (σ0 : ASt) (b : Nat) (cs : SK → List AV) (n s : Nat) (σ : ASt) : Prop := ∃ k, Grown (σ0.set b (some (.obj (cs k)))) σ k n s
theorem GO.cell {σ0 σ : ASt} {b n s : Nat} {k : SK} {cs : SK → List AV} (h : Grown (σ0.set b (some (.obj (cs k)))) σ k n s) : σ b = some (.obj (cs k)) := h.at (ASt.set_same _ _ _)
theorem GO.add {σ0 σ : ASt} {b c n s : Nat} {cs : SK → List AV} {r : Role} (h : GO σ0 b cs n s σ) (hc : σ c = none) : GO (σ0.set c (some r)) b cs n s (σ.set c (some r)) ∧ c ≠ b ∧ σ0 c = none := by
 obtain ⟨k, hg⟩ := h
 have hb := GO.cell hg
 have hcb : c ≠ b := by rintro rfl; rw [hb] at hc; cases hc
 have h0 : σ0 c = none := by
  rcases hg with ⟨_, _, rfl⟩ | ⟨t, T, _, _, rfl⟩
  ·rwa [ASt.set_ne hcb] at hc
  ·obtain ⟨_, _, hc⟩ := set_none hc
   rwa [ASt.set_ne hcb] at hc
 refine ⟨⟨k, ?_⟩, hcb, h0⟩
 rcases hg with ⟨h1, h2, rfl⟩ | ⟨t, T, h1, h2, rfl⟩
 ·exact .inl ⟨h1, h2, set_swap (Ne.symm hcb)⟩
 ·obtain ⟨h3, h4, _⟩ := set_none hc
  obtain ⟨h5, h6, h7⟩ := set_none h2
  refine .inr ⟨t, T, h1, ?_, ?_⟩
  ·rw [ASt.set_ne h5, ASt.set_ne (Ne.symm h3)]; exact h7
  ·rw [set_swap h4, set_swap (Ne.symm hcb)]
theorem GO.off {σ0 σ : ASt} {b c n s : Nat} {cs : SK → List AV} {r : Role} (h : GO (σ0.set c (some r)) b cs n s σ) (hcb : c ≠ b) (hc : σ0 c = none) : ∃ σ', Drop σ σ' ∧ GO σ0 b cs n s σ' := by
 obtain ⟨k, hg⟩ := h
 rcases hg with ⟨h1, h2, rfl⟩ | ⟨t, T, h1, h2, rfl⟩
 ·refine ⟨σ0.set b (some (.obj (cs k))), ?_, ⟨k, .inl ⟨h1, h2, rfl⟩⟩⟩
  rw [set_swap hcb]
  exact Drop.set (by rw [ASt.set_ne hcb]; exact hc)
 ·obtain ⟨h3, h4, h5⟩ := set_none h2
  obtain ⟨h6, h7, h8⟩ := set_none h5
  have e : ((σ0.set c (some r)).set b (some (.obj (cs k)))).set t (some (.tok (n * s))) = ((σ0.set b (some (.obj (cs k)))).set t (some (.tok (n * s)))).set c (some r) := by
   rw [set_swap hcb, set_swap h7]
  refine ⟨(σ0.set b (some (.obj (cs k)))).set t (some (.tok (n * s))), ?_, ⟨k, .inr ⟨t, T, h1, ?_, rfl⟩⟩⟩
  ·rw [e]
   exact Drop.set (by rw [ASt.set_ne h7, ASt.set_ne hcb]; exact hc)
  ·rw [ASt.set_ne h3]; exact h8
theorem GO.at {σ0 σ : ASt} {b n s x : Nat} {cs : SK → List AV} {r : Role} (h : GO σ0 b cs n s σ) (hx : x ≠ b) (h0 : σ0 x = some r) : σ x = some r := by
 obtain ⟨k, hg⟩ := h
 exact hg.at (by rw [ASt.set_ne hx]; exact h0)
inductive Over (τ : ASt) : ASt → Prop
 | refl : Over τ τ
 | set {σ : ASt} (c : Nat) (r : Role) : Over τ σ → σ c = none → Over τ (σ.set c (some r))
theorem Over.at {τ σ : ASt} (h : Over τ σ) {x : Nat} {r : Role} (hx : τ x = some r) : σ x = some r := by
 induction h with
 | refl => exact hx
 | set c q h hc ih =>
   have : x ≠ c := by rintro rfl; rw [ih] at hc; cases hc
   rw [ASt.set_ne this]; exact ih
theorem Over.drop {τ σ : ASt} (h : Over τ σ) : Drop σ τ := by
 induction h with
 | refl => exact Drop.refl _
 | set c q h hc ih =>
   intro x
   by_cases hx : x = c
   ·subst hx
    rcases ih x with h1 | h1
    ·exact .inr (h1.trans hc)
    ·exact .inr h1
   ·rcases ih x with h1 | h1
    ·exact .inl (by rw [ASt.set_ne hx]; exact h1)
    ·exact .inr h1
theorem Over.trans {τ σ ρ : ASt} (h : Over τ σ) (k : Over σ ρ) : Over τ ρ := by
 induction k with
 | refl => exact h
 | set c r _ hc ih => exact .set c r ih hc
theorem GO.over {σ0 τ σ : ASt} {b n s : Nat} {cs : SK → List AV} (h : GO σ0 b cs n s τ) (ho : Over τ σ) :
  ∃ σ0', GO σ0' b cs n s σ ∧ Over σ0 σ0' ∧ ∀ cs' n' σ', GO σ0' b cs' n' s σ' → ∃ σ'', Drop σ' σ'' ∧ GO σ0 b cs' n' s σ'' := by
 induction ho with
 | refl => exact ⟨σ0, h, .refl, fun cs' n' σ' h' => ⟨σ', Drop.refl _, h'⟩⟩
 | set c r ho hc ih =>
   obtain ⟨σ0', h1, h2, h3⟩ := ih
   obtain ⟨h4, h5, h6⟩ := h1.add (r := r) hc
   refine ⟨σ0'.set c (some r), h4, .set c r h2 h6, fun cs' n' σ' h' => ?_⟩
   obtain ⟨σ1, h7, h8⟩ := h'.off h5 h6
   obtain ⟨σ2, h9, h10⟩ := h3 _ _ _ h8
   exact ⟨σ2, h7.trans h9, h10⟩
def BW (T U : TypeId) (σ0 : ASt) (b : Nat) (l : List UInt8) (σ : ASt) : Prop :=
 (l = [] ∧ σ = σ0.set b (some (.typ T [.pointer none, .slice none 0 0]))) ∨ (l ≠ [] ∧ ∃ k, GrownT U (σ0.set b (some (.obj [.ptr b 0, .sl k (bytesAV l)]))) σ k l.length 1)
theorem BW.over {T U : TypeId} {σ0 σ : ASt} {b : Nat} {l : List UInt8} (h : BW T U σ0 b l σ) (hb : σ0 b = none) : Over σ0 σ := by
 rcases h with ⟨_, rfl⟩ | ⟨_, k, h1 | ⟨g, _, hg, rfl⟩⟩
 ·exact .set b _ .refl hb
 ·obtain ⟨_, _, rfl⟩ := h1
  exact .set b _ .refl hb
 ·exact .set g _ (.set b _ .refl hb) hg
theorem BW.iter {T U : TypeId} {σ0 σ : ASt} {b it : Nat} {l : List UInt8} {r r' : Role} (h : BW T U (σ0.set it (some r)) b l σ) (hb : it ≠ b) : BW T U (σ0.set it (some r')) b l (σ.set it (some r')) ∧ σ it = some r := by
 rcases h with ⟨h0, rfl⟩ | ⟨h0, k, h1 | ⟨g, h1, hg, rfl⟩⟩
 ·refine ⟨.inl ⟨h0, ?_⟩, by rw [ASt.set_ne hb, ASt.set_same]⟩
  rw [← set_swap hb, ASt.set_set]
 ·obtain ⟨h1, h2, rfl⟩ := h1
  refine ⟨.inr ⟨h0, k, .inl ⟨h1, h2, ?_⟩⟩, by rw [ASt.set_ne hb, ASt.set_same]⟩
  rw [← set_swap hb, ASt.set_set]
 ·obtain ⟨h3, h4, h5⟩ := set_none hg
  obtain ⟨h6, h7, h8⟩ := set_none h5
  refine ⟨.inr ⟨h0, k, .inr ⟨g, h1, ?_, ?_⟩⟩, by rw [ASt.set_ne h7, ASt.set_ne hb, ASt.set_same]⟩
  ·rw [ASt.set_ne h3, ASt.set_ne h6]; exact h8
  ·rw [← set_swap h7, ← set_swap hb, ASt.set_set]
end Go.A
namespace Go.A
open Go.Proofs Go.Lib
abbrev BD := BW 100 5
abbrev GT := GrownT 5
theorem cc_ok {σ0 σ : ASt} {b : Nat} {l : List UInt8} (h : BD σ0 b l σ) : ACalls Tryz.prog 113 [.ptr b 0] σ fun v σ' => v = .tuple [] ∧ ∃ k, GT (σ0.set b (some (.obj [.ptr b 0, .sl k (bytesAV l)]))) σ' k l.length 1 := by
 rcases h with ⟨rfl, rfl⟩ | ⟨h0, k, hg⟩
 ·refine (copyCheck_typ (ASt.set_same _ _ _)).mono ?_
  rintro v σ' ⟨rfl, rfl⟩
  exact ⟨rfl, .full, .inl ⟨rfl, rfl, by rw [ASt.set_set]; rfl⟩⟩
 ·refine (copyCheck_used (hg.at (ASt.set_same _ _ _))).mono ?_
  rintro v σ' ⟨rfl, rfl⟩
  exact ⟨rfl, k, hg⟩
theorem bytesAV_app (l m : List UInt8) : bytesAV l ++ bytesAV m = bytesAV (l ++ m) := by simp [bytesAV]
theorem bytesAV_len (l : List UInt8) : (bytesAV l).length = l.length := by simp [bytesAV]
theorem bytes_leaves (l : List UInt8) : leaves ((bytesAV l).flatMap AV.cells) = true := by unfold bytesAV; exact leaves_map (fun _ => rfl) l
theorem bytes_well (l : List UInt8) : wellSz 1 (bytesAV l) = true := by unfold bytesAV; exact wellSz_map (f := fun c : UInt8 => AV.int .u8 c.toNat) (fun _ => ⟨rfl, rfl⟩) l
theorem appB_by {σ σ0 : ASt} {k k2 : SK} {l m : List UInt8} {ys z : List AV} {K : AV → ASt → Prop} (h : GT σ0 σ k l.length 1) (hy : ys = bytesAV m) (hl : l.length + m.length ≤ 4611686018427)
  (hK : ∀ k' σ', GT σ0 σ' k' (l ++ m).length 1 → K (.sl k' (bytesAV (l ++ m))) σ') : appC 5 1 1 z (.sl k (bytesAV l)) (.sl k2 ys) σ K := by
 subst hy
 refine appCT_by (by rw [bytesAV_len]; exact h) (bytes_well m) (bytes_leaves m) (by simp only [bytesAV_len]; omega) (by simp only [bytesAV_len]; omega) fun k' σ' hg => ?_
 rw [bytesAV_app] at hg ⊢
 rw [bytesAV_len] at hg
 exact hK k' σ' hg
theorem writeByte_ok {σ0 σ : ASt} {b : Nat} {l : List UInt8} (h : BD σ0 b l σ) (c : UInt8) (hl : l.length ≤ 1000000000) :
  ACalls Tryz.prog 83 [.ptr b 0, .int .u8 c.toNat] σ fun v σ' => v = .nili ∧ BD σ0 b (l ++ [c]) σ' := by
 refine a83 (by simp) ?_
 simp (disch := first | assumption | omega) only [go_sem, reduceCtorEq, ↓reduceIte]
 refine (cc_ok h).mono ?_
 rintro v σ1 ⟨rfl, k, hg⟩
 have hb := hg.at (ASt.set_same _ _ _)
 simp (disch := first | assumption | omega) only [go_sem, reduceCtorEq, Nat.reduceEqDiff, ↓reduceIte, Bool.true_and, hb]
 refine appB_by (m := [c]) hg rfl (by simp; omega) fun k' σ' hg' => ?_
 have hb' := hg'.at (ASt.set_same _ _ _)
 simp (disch := first | assumption | omega) only [go_sem, Nat.reduceEqDiff, Nat.reduceAdd, Nat.reduceLeDiff, ↓reduceIte, Bool.true_and, hb']
 exact retC_by (Drop.refl _) (.refl _) ⟨rfl, .inr ⟨by simp, k', hg'.obj⟩⟩
theorem or_a : ∀ y : Int, 0 ≤ y → y < 64 → ((BitVec.ofInt 8 128 ||| BitVec.ofInt 8 y).toNat : Int) = 128 + y := by
 have key : ∀ n : Fin 64, ((BitVec.ofInt 8 128 ||| BitVec.ofInt 8 ((n.val : Nat) : Int)).toNat : Int) = 128 + ((n.val : Nat) : Int) := by decide
 intro y h0 h1
 have := key ⟨y.toNat, by omega⟩
 rwa [Int.toNat_of_nonneg h0] at this
theorem or_b : ∀ y : Int, 0 ≤ y → y < 32 → ((BitVec.ofInt 8 192 ||| BitVec.ofInt 8 y).toNat : Int) = 192 + y := by
 have key : ∀ n : Fin 32, ((BitVec.ofInt 8 192 ||| BitVec.ofInt 8 ((n.val : Nat) : Int)).toNat : Int) = 192 + ((n.val : Nat) : Int) := by decide
 intro y h0 h1
 have := key ⟨y.toNat, by omega⟩
 rwa [Int.toNat_of_nonneg h0] at this
theorem or_c : ∀ y : Int, 0 ≤ y → y < 16 → ((BitVec.ofInt 8 224 ||| BitVec.ofInt 8 y).toNat : Int) = 224 + y := by
 have key : ∀ n : Fin 16, ((BitVec.ofInt 8 224 ||| BitVec.ofInt 8 ((n.val : Nat) : Int)).toNat : Int) = 224 + ((n.val : Nat) : Int) := by decide
 intro y h0 h1
 have := key ⟨y.toNat, by omega⟩
 rwa [Int.toNat_of_nonneg h0] at this
theorem or_d : ∀ y : Int, 0 ≤ y → y < 8 → ((BitVec.ofInt 8 240 ||| BitVec.ofInt 8 y).toNat : Int) = 240 + y := by
 have key : ∀ n : Fin 8, ((BitVec.ofInt 8 240 ||| BitVec.ofInt 8 ((n.val : Nat) : Int)).toNat : Int) = 240 + ((n.val : Nat) : Int) := by decide
 intro y h0 h1
 have := key ⟨y.toNat, by omega⟩
 rwa [Int.toNat_of_nonneg h0] at this
theorem and_63 (y : Int) : ((BitVec.ofInt 8 (y % 256) &&& BitVec.ofInt 8 63).toNat : Int) = y % 64 := by
 have key : ∀ n : Fin 256, ((BitVec.ofInt 8 ((n.val : Nat) : Int) &&& BitVec.ofInt 8 63).toNat : Int) = ((n.val : Nat) : Int) % 64 := by decide
 have := key ⟨(y % 256).toNat, by omega⟩
 rw [Int.toNat_of_nonneg (by omega)] at this
 rw [this]
 omega
theorem wrap_8 (y : Int) : IntKind.wrap .u8 y = y % 256 := IntKind.wrap_u8 y
theorem encAV (r : Int) : (encodeRuneZ r).map (AV.int .u8) = bytesAV (encodeRune r) := by
 unfold bytesAV encodeRune
 rw [List.map_map]
 apply List.map_congr_left
 intro x hx
 obtain ⟨h0, h1⟩ := encodeRuneZ_byte r x hx
 simp [Function.comp]
 omega
theorem enc_len (r : Int) : (encodeRune r).length ≤ 4 := by
 have := encodeRuneZ_length r
 simp [encodeRune]
 omega
def RuneOk (r : Int) : Prop := 0 ≤ r ∧ r ≤ 1114111 ∧ ¬ (55296 ≤ r ∧ r ≤ 57343)
set_option maxHeartbeats 1000000 in
theorem appendRuneN_ok {σ0 σ : ASt} {k : SK} {l : List UInt8} (h : GT σ0 σ k l.length 1) {r : Int} (hr : RuneOk r) (h128 : 127 < r) (hl : l.length ≤ 1000000000) :
  ACalls Tryz.prog 174 [.sl k (bytesAV l), .int .i32 r] σ fun v σ' => ∃ k', v = .sl k' (bytesAV (l ++ encodeRune r)) ∧ GT σ0 σ' k' (l ++ encodeRune r).length 1 := by
 obtain ⟨r0, r1, r2⟩ := hr
 have hel := enc_len r
 have hea := encAV r
 have w1 := wrap_8 r
 have w2 := wrap_8 (r / 64)
 have w3 := wrap_8 (r / 4096)
 have a1 := and_63 r
 have a2 := and_63 (r / 64)
 have a3 := and_63 (r / 4096)
 have o1 := or_a (r % 64) (by omega) (by omega)
 have o2 := or_a (r / 64 % 64) (by omega) (by omega)
 have o3 := or_a (r / 4096 % 64) (by omega) (by omega)
 refine a174 (by simp) ?_
 by_cases c1 : r ≤ 2047
 ·have o4 := or_b (r / 64) (by omega) (by omega)
  have e : [AV.int .u8 ((BitVec.ofInt 8 192 ||| BitVec.ofInt 8 (r / 64)).toNat : Int), AV.int .u8 ((BitVec.ofInt 8 128 ||| BitVec.ofInt 8 ((BitVec.ofInt 8 (r % 256) &&& BitVec.ofInt 8 63).toNat : Int)).toNat : Int)] = [192 + r / 64, 128 + r % 64].map (AV.int .u8) := by
   rw [a1, o1, o4]; rfl
  rw [encodeRuneZ_two (by omega) c1] at hea
  simp (disch := first | assumption | omega) only [go_sem, reduceCtorEq, Nat.reduceEqDiff, ↓reduceIte, Int.reduceToNat, Int.reducePow, Bool.true_and, c1, w1]
  refine appB_by (m := encodeRune r) h (e.trans hea) (by omega) fun k' σ' hg' => ?_
  rw [List.length_append] at hg'
  simp (disch := first | assumption | omega) only [go_sem, ↓reduceIte]
  exact retC_by (Drop.refl _) (.refl _) ⟨k', rfl, hg'⟩
 by_cases c2 : r < 55296
 ·have o4 := or_c (r / 4096) (by omega) (by omega)
  have e : [AV.int .u8 ((BitVec.ofInt 8 224 ||| BitVec.ofInt 8 (r / 4096)).toNat : Int), AV.int .u8 ((BitVec.ofInt 8 128 ||| BitVec.ofInt 8 ((BitVec.ofInt 8 (r / 64 % 256) &&& BitVec.ofInt 8 63).toNat : Int)).toNat : Int),
   AV.int .u8 ((BitVec.ofInt 8 128 ||| BitVec.ofInt 8 ((BitVec.ofInt 8 (r % 256) &&& BitVec.ofInt 8 63).toNat : Int)).toNat : Int)] = [224 + r / 4096, 128 + r / 64 % 64, 128 + r % 64].map (AV.int .u8) := by
   rw [a1, a2, o1, o2, o4]; rfl
  rw [encodeRuneZ_three (by omega)] at hea
  simp (disch := first | assumption | omega) only [go_sem, reduceCtorEq, Nat.reduceEqDiff, ↓reduceIte, Int.reduceToNat, Int.reducePow, Bool.true_and, c1, c2, w1, w2]
  refine appB_by (m := encodeRune r) h (e.trans hea) (by omega) fun k' σ' hg' => ?_
  rw [List.length_append] at hg'
  simp (disch := first | assumption | omega) only [go_sem, ↓reduceIte]
  exact retC_by (Drop.refl _) (.refl _) ⟨k', rfl, hg'⟩
 have c3 : 57343 < r := by omega
 by_cases c4 : r ≤ 65535
 ·have o4 := or_c (r / 4096) (by omega) (by omega)
  have e : [AV.int .u8 ((BitVec.ofInt 8 224 ||| BitVec.ofInt 8 (r / 4096)).toNat : Int), AV.int .u8 ((BitVec.ofInt 8 128 ||| BitVec.ofInt 8 ((BitVec.ofInt 8 (r / 64 % 256) &&& BitVec.ofInt 8 63).toNat : Int)).toNat : Int),
   AV.int .u8 ((BitVec.ofInt 8 128 ||| BitVec.ofInt 8 ((BitVec.ofInt 8 (r % 256) &&& BitVec.ofInt 8 63).toNat : Int)).toNat : Int)] = [224 + r / 4096, 128 + r / 64 % 64, 128 + r % 64].map (AV.int .u8) := by
   rw [a1, a2, o1, o2, o4]; rfl
  rw [encodeRuneZ_three (by omega)] at hea
  simp (disch := first | assumption | omega) only [go_sem, reduceCtorEq, Nat.reduceEqDiff, ↓reduceIte, Int.reduceToNat, Int.reducePow, Bool.true_and, c1, c2, c3, c4, w1, w2]
  refine appB_by (m := encodeRune r) h (e.trans hea) (by omega) fun k' σ' hg' => ?_
  rw [List.length_append] at hg'
  simp (disch := first | assumption | omega) only [go_sem, ↓reduceIte]
  exact retC_by (Drop.refl _) (.refl _) ⟨k', rfl, hg'⟩
 ·have c5 : 65535 < r := by omega
  have o4 := or_d (r / 262144) (by omega) (by omega)
  have e : [AV.int .u8 ((BitVec.ofInt 8 240 ||| BitVec.ofInt 8 (r / 262144)).toNat : Int), AV.int .u8 ((BitVec.ofInt 8 128 ||| BitVec.ofInt 8 ((BitVec.ofInt 8 (r / 4096 % 256) &&& BitVec.ofInt 8 63).toNat : Int)).toNat : Int),
   AV.int .u8 ((BitVec.ofInt 8 128 ||| BitVec.ofInt 8 ((BitVec.ofInt 8 (r / 64 % 256) &&& BitVec.ofInt 8 63).toNat : Int)).toNat : Int), AV.int .u8 ((BitVec.ofInt 8 128 ||| BitVec.ofInt 8 ((BitVec.ofInt 8 (r % 256) &&& BitVec.ofInt 8 63).toNat : Int)).toNat : Int)] = [240 + r / 262144, 128 + r / 4096 % 64, 128 + r / 64 % 64, 128 + r % 64].map (AV.int .u8) := by
   rw [a1, a2, a3, o1, o2, o3, o4]; rfl
  rw [encodeRuneZ_four (by omega) (by omega)] at hea
  simp (disch := first | assumption | omega) only [go_sem, reduceCtorEq, Nat.reduceEqDiff, ↓reduceIte, Int.reduceToNat, Int.reducePow, Bool.true_and, c1, c2, c3, c4, c5, w1, w2, w3]
  refine appB_by (m := encodeRune r) h (e.trans hea) (by omega) fun k' σ' hg' => ?_
  rw [List.length_append] at hg'
  simp (disch := first | assumption | omega) only [go_sem, ↓reduceIte]
  exact retC_by (Drop.refl _) (.refl _) ⟨k', rfl, hg'⟩
theorem appendRune_ok {σ0 σ : ASt} {k : SK} {l : List UInt8} (h : GT σ0 σ k l.length 1) {r : Int} (hr : RuneOk r) (hl : l.length ≤ 1000000000) :
  ACalls Tryz.prog 156 [.sl k (bytesAV l), .int .i32 r] σ fun v σ' => ∃ k', v = .sl k' (bytesAV (l ++ encodeRune r)) ∧ GT σ0 σ' k' (l ++ encodeRune r).length 1 := by
 obtain ⟨r0, r1, r2⟩ := hr
 have hel := enc_len r
 have hea := encAV r
 refine a156 (by simp) ?_
 by_cases c1 : r ≤ 127
 ·rw [encodeRuneZ_one r0 c1] at hea
  simp (disch := first | assumption | omega) only [go_sem, reduceCtorEq, Nat.reduceEqDiff, ↓reduceIte, Bool.true_and, c1]
  refine appB_by (m := encodeRune r) h hea (by omega) fun k' σ' hg' => ?_
  rw [List.length_append] at hg'
  simp (disch := first | assumption | omega) only [go_sem, ↓reduceIte]
  exact retC_by (Drop.refl _) (.refl _) ⟨k', rfl, hg'⟩
 ·simp (disch := first | assumption | omega) only [go_sem, reduceCtorEq, Nat.reduceEqDiff, ↓reduceIte, c1]
  refine (appendRuneN_ok h ⟨r0, r1, r2⟩ (by omega) hl).mono ?_
  rintro v σ' ⟨k', rfl, hg'⟩
  rw [List.length_append] at hg'
  simp (disch := first | assumption | omega) only [go_sem, ↓reduceIte]
  exact retC_by (Drop.refl _) (.refl _) ⟨k', rfl, hg'⟩
theorem writeRune_ok {σ0 σ : ASt} {b : Nat} {l : List UInt8} (h : BD σ0 b l σ) {r : Int} (hr : RuneOk r) (hl : l.length ≤ 1000000000) :
  ACalls Tryz.prog 134 [.ptr b 0, .int .i32 r] σ fun v σ' => BD σ0 b (l ++ encodeRune r) σ' := by
 refine a134 (by simp) ?_
 have hel := enc_len r
 have hne : encodeRune r ≠ [] := by
  intro h
  have := encodeRuneZ_length r
  have h2 := congrArg List.length h
  simp [encodeRune] at h2
  rw [h2] at this
  simp at this
 simp (disch := first | assumption | omega) only [go_sem, reduceCtorEq, ↓reduceIte]
 refine (cc_ok h).mono ?_
 rintro v σ1 ⟨rfl, k, hg⟩
 have hb := hg.at (ASt.set_same _ _ _)
 have hbl := bytesAV_len l
 simp (disch := first | assumption | omega) only [go_sem, reduceCtorEq, Nat.reduceEqDiff, ↓reduceIte, hb, hbl]
 refine (appendRune_ok hg hr hl).mono ?_
 rintro v σ' ⟨k', rfl, hg'⟩
 have hb' := hg'.at (ASt.set_same _ _ _)
 have hbl' := bytesAV_len (l ++ encodeRune r)
 have hll : (l ++ encodeRune r).length ≤ 1000000004 := by simp; omega
 simp (disch := first | assumption | omega) only [go_sem, reduceCtorEq, Nat.reduceEqDiff, Nat.reduceAdd, Nat.reduceLeDiff, ↓reduceIte, Bool.true_and, hb', hbl']
 exact retC_by (Drop.refl _) (.refl _) (.inr ⟨by simp [hne], k', hg'.obj⟩)
theorem bstring_ok {σ0 σ : ASt} {b : Nat} {l : List UInt8} (h : BD σ0 b l σ) (hl : l.length ≤ 1000000000) : ACalls Tryz.prog 49 [.ptr b 0] σ fun v σ' => v = .str l ∧ σ' = σ := by
 rcases h with ⟨rfl, rfl⟩ | ⟨h0, k, hg⟩
 ·exact bstring_typ (ASt.set_same _ _ _)
 ·have hb := hg.at (ASt.set_same _ _ _)
  rcases hg with ⟨_, h1, _⟩ | ⟨g, rfl, hg, rfl⟩
  ·exact absurd (List.eq_nil_of_length_eq_zero h1) h0
  ·refine bstring_used h0 (by omega) hb (by rw [ASt.set_same, Nat.mul_one])
end Go.A
namespace Go.A
open Go.Proofs
/-! 76: (*strings.Builder).WriteString -/
end Go.A
namespace Go.A
open Go.Proofs
/-! 71: tabular/expr.Signs -/
def c71_3 : ACode := .seq (.ops [ oq 0 (.mv (.v (.sl .full [])))]) (.seq (.ops [ oq 1 (.bsl 1 [(.v (.str [43])), (.v (.str [45])), (.v (.str [42])), (.v (.str [47])), (.v (.str [94])), (.v (.str [38])), (.v (.str [61])), (.v (.str [60, 62])), (.v (.str [60])), (.v (.str [60, 61])), (.v (.str [62])), (.v (.str [62, 61]))]), oq 0 (.mv (.t 1))]) .ret)
@[go_sem] def c71_3_wp := wp_of c71_3.eq_1
def c71 : AFn := ⟨2, [.t 0], c71_3⟩
theorem c71_ok : compF Tryz.prog Tryz.f71 = some c71 := by kernel_rfl
theorem a71 {args : List AV} {σ : ASt} {R : AV → ASt → Prop} (hl : args.length ≤ 2) (h : c71_3.wp Tryz.prog (RetQ [.t 0] R) (init args) σ) : ACalls Tryz.prog 71 args σ R := acalls_of Tryz.func71 c71_ok hl h
/-! 79: tabular/expr.truth -/
/-! 85: tabular/expr.level -/
end Go.A
namespace Go.A
open Go.Proofs Go.Lib
theorem esigns_ok : Pure Tryz.prog 71 [] (.sl .shr (signL.map AV.str)) := by
 intro σ
 refine a71 (by simp) ?_
 simp (disch := first | assumption | omega) only [go_sem, ↓reduceIte, Bool.true_and]
 exact retC_by (by repeat' (first | exact Drop.refl _ | with_reducible refine Drop.off ?_ (by assumption))) (.sl _ _) ⟨rfl, rfl⟩
theorem tenames_ok : Pure Tryz.prog 119 [] (.sl .shr (errL.map AV.str)) := by
 intro σ
 refine a119 (by simp) ?_
 simp (disch := first | assumption | omega) only [go_sem, ↓reduceIte, Bool.true_and]
 exact retC_by (by repeat' (first | exact Drop.refl _ | with_reducible refine Drop.off ?_ (by assumption))) (.sl _ _) ⟨rfl, rfl⟩
end Go.A
namespace Go.A
open Go.Proofs
/-! 80: tabular/expr.Failure -/
end Go.A
namespace Go.A
open Go.Proofs Go.Lib
theorem sizes_len : ∀ l : List Nd, l.length ≤ Nd.sizes l
 | [] => by simp
 | x :: l => by have := x.size_pos; have := sizes_len l; rw [Nd.sizes, List.length_cons]; omega
end Go.A
namespace Go.A
open Go.Proofs
/-! 48: tabular/expr.spell -/
/-! 84: tabular/expr.inside -/
end Go.A
namespace Go.A
open Go.Proofs
/-! 21: tabular/expr.Print -/
end Go.A
namespace Go.A
open Go.Proofs Go.Lib
theorem SDrop.cong {σ σ' : ASt} {b : Nat} {c d : List AV} (h : SDrop σ σ') (he : Go.A.deeps c = d) : SDrop (σ.set b (some (.obj c))) (σ'.set b (some (.obj d))) := fun x => by
 by_cases hx : x = b
 ·subst hx
  exact .inr (.inr ⟨c, by rw [ASt.set_same], by rw [ASt.set_same, he]⟩)
 ·rw [ASt.set_ne hx, ASt.set_ne hx]
  exact h x
theorem set_mid {σ : ASt} {b c : Nat} {X Y Z : Option Role} (h : b ≠ c) : ((σ.set b X).set c Y).set b Z = (σ.set b Z).set c Y := by
 funext x
 simp only [ASt.set]
 by_cases h1 : x = b
 ·subst h1; simp [h]
 ·simp [h1]
end Go.A
namespace Go.A
open Go.Proofs
/-! 10: tabular/expr.Same -/
def c10_3 : ACode := .seq (.ops [ oe 2 (.box (.t 0)), oe 3 (.box (.t 1)), oq 4 (.mv (.v (.bool false)))]) (.seq (.ops [ oq 5 (.fa 0 (.t 2)), oq 6 (.ld none (.t 5)), oq 7 (.fa 0 (.t 3)), oq 8 (.ld none (.t 7)), oq 9 (.bin .eql (.t 6) (.t 8)), oq 10 (.mv (.t 9)), ⟨some 11, some (10, true), .q (.fa 1 (.t 2)), []⟩, ⟨some 12, some (10, true), .q (.ld none (.t 11)), []⟩, ⟨some 13, some (10, true), .q (.fa 1 (.t 3)), []⟩, ⟨some 14, some (10, true), .q (.ld none (.t 13)), []⟩, ⟨some 15, some (10, true), .q (.bin .eql (.t 12) (.t 14)), []⟩, oq 16 (.pick (.t 10) (.t 15) (.v (.bool false))), oq 17 (.mv (.t 16)), ⟨some 18, some (17, true), .q (.fa 2 (.t 2)), []⟩, ⟨some 19, some (17, true), .q (.ld none (.t 18)), []⟩, ⟨some 20, some (17, true), .q (.fa 2 (.t 3)), []⟩, ⟨some 21, some (17, true), .q (.ld none (.t 20)), []⟩, ⟨some 22, some (17, true), .q (.bin .eql (.t 19) (.t 21)), []⟩, oq 23 (.pick (.t 17) (.t 22) (.v (.bool false))), oq 24 (.mv (.t 23)), ⟨some 25, some (24, true), .q (.fa 3 (.t 2)), []⟩, ⟨some 26, some (24, true), .q (.ld (some 4) (.t 25)), []⟩, ⟨some 27, some (24, true), .q (.fa 3 (.t 3)), []⟩, ⟨some 28, some (24, true), .q (.ld (some 4) (.t 27)), []⟩, ⟨some 29, some (24, true), .q (.eqs false [(0, 0), (1, 0), (2, 1), (3, 1)] (.t 26) (.t 28)), []⟩, oq 30 (.pick (.t 24) (.t 29) (.v (.bool false))), oq 31 (.mv (.t 30)), ⟨some 32, some (31, true), .q (.fa 7 (.t 2)), []⟩, ⟨some 33, some (31, true), .q (.ld (some 4) (.t 32)), []⟩, ⟨some 34, some (31, true), .q (.fa 7 (.t 3)), []⟩, ⟨some 35, some (31, true), .q (.ld (some 4) (.t 34)), []⟩, ⟨some 36, some (31, true), .q (.eqs false [(0, 0), (1, 0), (2, 1), (3, 1)] (.t 33) (.t 35)), []⟩, oq 37 (.pick (.t 31) (.t 36) (.v (.bool false))), oq 38 (.mv (.t 37)), ⟨some 39, some (38, true), .q (.fa 11 (.t 2)), []⟩, ⟨some 40, some (38, true), .q (.ld none (.t 39)), []⟩, ⟨some 41, some (38, true), .q (.fa 11 (.t 3)), []⟩, ⟨some 42, some (38, true), .q (.ld none (.t 41)), []⟩, ⟨some 43, some (38, true), .e (.call 36 [(.t 40), (.t 42), (.v (.func (.func 10) [] []))]), []⟩, oq 44 (.pick (.t 38) (.t 43) (.v (.bool false))), oq 4 (.mv (.t 44))]) .ret)
@[go_sem] def c10_3_wp := wp_of c10_3.eq_1
def c10 : AFn := ⟨45, [.t 4], c10_3⟩
theorem c10_ok : compF Tryz.prog Tryz.f10 = some c10 := by kernel_rfl
theorem a10 {args : List AV} {σ : ASt} {R : AV → ASt → Prop} (hl : args.length ≤ 45) (h : c10_3.wp Tryz.prog (RetQ [.t 4] R) (init args) σ) : ACalls Tryz.prog 10 args σ R := acalls_of Tryz.func10 c10_ok hl h
/-! 36: slices.EqualFunc[[]tabular/expr.Node,[]tabular/expr.Node,tabular/expr.Node,tabular/expr.Node] -/
def c36_22 : ACode := .seq (.ops [ oq 18 (.bin .lss (.t 17) (.t 16))]) (.seq (.cond (.t 18) .skip (.exit 0)) (.seq (.block 1 (.seq (.ops [ oq 19 (.mv (.t 17)), oq 20 (.ia 12 (.t 15) (.t 17)), oq 21 (.ld (some 12) (.t 20)), oe 8 (.alloc [(.int .i64 0), (.int .i64 0), (.str []), (.int .i64 0), (.int .i64 0), (.bool false), (.bool false), (.int .i64 0), (.int .i64 0), (.bool false), (.bool false), (.sl .full [])]), oq 7 (.mv (.t 19)), oz (.store 12 (.t 8) (.t 21))]) (.seq (.ops [ oq 22 (.mv (.t 1)), oq 23 (.mv (.t 7)), oq 24 (.ia 12 (.t 22) (.t 23)), oq 25 (.ld (some 12) (.t 24)), oe 9 (.alloc [(.int .i64 0), (.int .i64 0), (.str []), (.int .i64 0), (.int .i64 0), (.bool false), (.bool false), (.int .i64 0), (.int .i64 0), (.bool false), (.bool false), (.sl .full [])]), oz (.store 12 (.t 9) (.t 25))]) (.seq (.ops [ oq 26 (.mv (.t 2)), oq 27 (.ld (some 12) (.t 8)), oq 28 (.ld (some 12) (.t 9)), oe 29 (.callv (.t 26) [(.t 27), (.t 28)]), oq 30 (.un .not (.t 29))]) (.cond (.t 30) (.seq (.ops [ oq 6 (.mv (.v (.bool false)))]) .ret) .skip))))) (.ops [ oq 31 (.bin .add (.t 17) (.v (.int .i64 1))), oq 17 (.mv (.t 31))])))
def c36_30 : ACode := .seq (.ops [ oq 6 (.mv (.v (.bool false)))]) (.seq (.seq (.ops [ oq 10 (.mv (.t 0)), oq 11 (.len (.t 10)), oq 12 (.mv (.t 1)), oq 13 (.len (.t 12)), oq 14 (.bin .neq (.t 11) (.t 13))]) (.cond (.t 14) (.seq (.ops [ oq 6 (.mv (.v (.bool false)))]) .ret) .skip)) (.seq (.seq (.ops [ oq 15 (.mv (.t 0)), oq 16 (.len (.t 15)), oq 17 (.mv (.v (.int .i64 0)))]) (.block 0 (.loop c36_22))) (.seq (.ops [ oq 6 (.mv (.v (.bool true)))]) .ret)))
@[go_sem] def c36_22_wp := wp_of c36_22.eq_1
@[go_sem] def c36_30_wp := wp_of c36_30.eq_1
def c36 : AFn := ⟨32, [.t 6], c36_30⟩
theorem c36_ok : compF Tryz.prog Tryz.f36 = some c36 := by kernel_rfl
theorem a36 {args : List AV} {σ : ASt} {R : AV → ASt → Prop} (hl : args.length ≤ 32) (h : c36_30.wp Tryz.prog (RetQ [.t 6] R) (init args) σ) : ACalls Tryz.prog 36 args σ R := acalls_of Tryz.func36 c36_ok hl h
/-! 37: tabular/expr.Map -/
def c37_18 : ACode := .seq (.ops [ oq 31 (.bin .lss (.t 30) (.t 29))]) (.seq (.cond (.t 31) .skip (.exit 0)) (.seq (.block 1 (.seq (.ops [ oq 32 (.mv (.t 30)), oq 33 (.ia 12 (.t 28) (.t 30)), oq 34 (.ld (some 12) (.t 33)), oe 7 (.alloc [(.int .i64 0), (.int .i64 0), (.str []), (.int .i64 0), (.int .i64 0), (.bool false), (.bool false), (.int .i64 0), (.int .i64 0), (.bool false), (.bool false), (.sl .full [])]), oq 6 (.mv (.t 32)), oz (.store 12 (.t 7) (.t 34))]) (.ops [ oq 35 (.mv (.t 5)), oq 36 (.mv (.t 6)), oq 37 (.ld (some 12) (.t 7)), oq 38 (.mv (.t 1)), oe 39 (.call 37 [(.t 37), (.t 38)]), oq 40 (.ia 12 (.t 35) (.t 36)), oz (.store 12 (.t 40) (.t 39))]))) (.ops [ oq 41 (.bin .add (.t 30) (.v (.int .i64 1))), oq 30 (.mv (.t 41))])))
def c37_22 : ACode := .ops [ oq 42 (.mv (.t 5)), oq 43 (.fa 11 (.t 2)), oz (.store 1 (.t 43) (.t 42))]
def c37_31 : ACode := .seq (.ops [ oe 2 (.box (.t 0)), oe 4 (.alloc [(.int .i64 0), (.int .i64 0), (.str []), (.int .i64 0), (.int .i64 0), (.bool false), (.bool false), (.int .i64 0), (.int .i64 0), (.bool false), (.bool false), (.sl .full [])])]) (.seq (.seq (.ops [ oq 8 (.fa 0 (.t 2)), oq 9 (.ld none (.t 8)), oq 10 (.bin .eql (.t 9) (.v (.int .i64 5))), oq 11 (.mv (.t 10)), ⟨some 12, some (11, false), .q (.fa 0 (.t 2)), []⟩, ⟨some 13, some (11, false), .q (.ld none (.t 12)), []⟩, ⟨some 14, some (11, false), .q (.bin .eql (.t 13) (.v (.int .i64 6))), []⟩, oq 15 (.pick (.t 11) (.v (.bool true)) (.t 14))]) (.cond (.t 15) (.seq (.ops [ oq 16 (.mv (.t 1)), oq 17 (.ld (some 12) (.t 2)), oe 18 (.callv (.t 16) [(.t 17)]), oz (.store 12 (.t 4) (.t 18))]) .ret) .skip)) (.seq (.seq (.ops [ oq 19 (.fa 11 (.t 2)), oq 20 (.ld none (.t 19)), oq 21 (.len (.t 20)), oq 22 (.bin .gtr (.t 21) (.v (.int .i64 0)))]) (.cond (.t 22) (.seq (.ops [ oq 23 (.fa 11 (.t 2)), oq 24 (.ld none (.t 23)), oq 25 (.len (.t 24)), oe 26 (.mkb 30 104 [(.int .i64 0), (.int .i64 0), (.str []), (.int .i64 0), (.int .i64 0), (.bool false), (.bool false), (.int .i64 0), (.int .i64 0), (.bool false), (.bool false), (.sl .full [])] (.t 25) (.t 25)), oq 5 (.mv (.t 26))]) (.seq (.seq (.ops [ oq 27 (.fa 11 (.t 2)), oq 28 (.ld none (.t 27)), oq 29 (.len (.t 28)), oq 30 (.mv (.v (.int .i64 0)))]) (.block 0 (.loop c37_18))) c37_22)) .skip)) (.seq (.ops [ oq 44 (.ld (some 12) (.t 2)), oz (.store 12 (.t 4) (.t 44))]) .ret)))
@[go_sem] def c37_18_wp := wp_of c37_18.eq_1
@[go_sem] def c37_22_wp := wp_of c37_22.eq_1
@[go_sem] def c37_31_wp := wp_of c37_31.eq_1
def c37 : AFn := ⟨45, [.c 4 (some 12)], c37_31⟩
theorem c37_ok : compF Tryz.prog Tryz.f37 = some c37 := by kernel_rfl
theorem a37 {args : List AV} {σ : ASt} {R : AV → ASt → Prop} (hl : args.length ≤ 45) (h : c37_31.wp Tryz.prog (RetQ [.c 4 (some 12)] R) (init args) σ) : ACalls Tryz.prog 37 args σ R := acalls_of Tryz.func37 c37_ok hl h
end Go.A
namespace Go.A
def OwnSl (σ0 σ : ASt) (v : AV) (xs : List AV) (s : Nat) : Prop :=
 (xs = [] ∧ v = .sl .full [] ∧ σ = σ0) ∨ ∃ b c rest, v = .msl b 0 xs.length c ∧ xs.length ≤ c ∧ rest.length = (c - xs.length) * s ∧ σ0 b = none ∧ σ = σ0.set b (some (.obj (xs.flatMap AV.cells ++ rest)))
theorem OwnSl.drop {σ0 σ : ASt} {v : AV} {xs : List AV} {s : Nat} (h : OwnSl σ0 σ v xs s) : Drop σ σ0 := by
 rcases h with ⟨_, _, rfl⟩ | ⟨b, c, rest, _, _, _, hb, rfl⟩
 ·exact Drop.refl _
 ·exact Drop.set hb
def zrow (s : Nat) (z : List AV) (n c : Nat) : List AV := (List.range ((c - n) * s)).map fun i => z.getD (i % s) .any
theorem zrow_len (s : Nat) (z : List AV) (n c : Nat) : (zrow s z n c).length = (c - n) * s := by simp [zrow]
theorem ownRow_z {s n c : Nat} {z cs : List AV} : ownRow s z cs n c = cs ++ zrow s z n c := rfl
theorem OwnSl.app {e : TypeId} {σ0 σ : ASt} {v : AV} {xs ys z : List AV} {s bytes : Nat} {k2 : SK} {K : AV → ASt → Prop} (h : OwnSl σ0 σ v xs s) (hx : ∀ x ∈ xs, x.cells.length = s) (h2 : wellSz s ys = true) (h3 : leaves (ys.flatMap AV.cells) = true)
  (h4 : (xs.length + ys.length) * bytes ≤ 140737488355328) (h5 : xs.length + ys.length ≤ 4611686018427387904) (h6 : 0 < ys.length)
  (hK : ∀ v' σ', (∃ σ2, Drop σ' σ2 ∧ OwnSl σ0 σ2 v' (xs ++ ys) s) → K v' σ') : appC e s bytes z v (.sl k2 ys) σ K := by
 have hyl : (ys.flatMap AV.cells).length = ys.length * s := lens_flat (wellSz_lens h2)
 have hxl : (xs.flatMap AV.cells).length = xs.length * s := lens_flat hx
 rcases h with ⟨rfl, rfl, rfl⟩ | ⟨b, c, rest, rfl, hc, hr, hb, rfl⟩
 ·refine appO_by rfl h2 h3 h4 h5 h6 fun b c hb hc => hK _ _ ⟨_, Drop.refl _, .inr ⟨b, c, zrow s z (([] : List AV).length + ys.length) c, ?_, ?_, ?_, hb, ?_⟩⟩
  ·simp
  ·simpa using hc
  ·rw [zrow_len]; simp
  ·rw [ownRow_z]; simp only [List.nil_append, List.flatMap_nil]
 ·rw [appC_msl, ASt.set_same]
  refine appM_by h2 h3 h4 h5 (by rw [List.length_append, hxl, hr]; omega) (fun hroom => ⟨?_, ?_⟩) (fun hgrow b' c' hb' hc' => ?_)
  ·rw [List.length_append, hxl, hr, Nat.zero_add, ← Nat.add_mul]
   exact Nat.mul_le_mul_right _ (by omega)
  ·rw [ASt.set_set]
   refine hK _ _ ⟨_, Drop.refl _, .inr ⟨b, c, rest.drop (ys.length * s), by simp, by simpa using hroom, ?_, hb, ?_⟩⟩
   ·rw [List.length_drop, hr, ← Nat.sub_mul, List.length_append]
    congr 1
    omega
   ·congr 3
    unfold splice
    rw [Nat.zero_add, List.flatMap_append]
    have e1 : (xs.flatMap AV.cells ++ rest).take (xs.length * s) = xs.flatMap AV.cells := by rw [← hxl]; simp
    have e2 : (xs.flatMap AV.cells ++ rest).drop (xs.length * s + ys.length * s) = rest.drop (ys.length * s) := by rw [← hxl, ← List.drop_drop]; simp
    rw [e1, e2]
  ·obtain ⟨m1, m2, hb0⟩ := set_none hb'
   have e1 : ((xs.flatMap AV.cells ++ rest).drop 0).take (xs.length * s) = xs.flatMap AV.cells := by rw [← hxl]; simp
   rw [e1]
   refine hK _ _ ⟨σ0.set b' (some (.obj (ownRow s z (xs.flatMap AV.cells ++ ys.flatMap AV.cells) (xs.length + ys.length) c'))), ?_, .inr ⟨b', c', zrow s z (xs.length + ys.length) c', by simp, by simpa using hc', by rw [zrow_len, List.length_append], hb0, ?_⟩⟩
   ·rw [set_swap m2]
    exact Drop.set (by rw [ASt.set_ne m2]; exact hb)
   ·rw [ownRow_z, List.flatMap_append]
theorem OwnSl.at {σ0 σ : ASt} {x : Nat} {r : Role} {v : AV} {xs : List AV} {s : Nat} (h : OwnSl σ0 σ v xs s) (hx : σ0 x = some r) : σ x = some r := by
 rcases h with ⟨_, _, rfl⟩ | ⟨b, c, rest, _, _, _, hb, rfl⟩
 ·exact hx
 ·rw [ASt.set_ne]
  ·exact hx
  ·rintro rfl; rw [hb] at hx; cases hx
end Go.A
namespace Go.A
open Go.Proofs Go.Lib
mutual
def Nd.same : Nd → Nd → Bool
 | .mk o n s a b ks, .mk o' n' s' a' b' ks' => decide (o = o') && decide (n = n') && decide (s = s') && decide (a = a') && decide (b = b') && Nd.sames ks ks'
def Nd.sames : List Nd → List Nd → Bool
 | [], [] => true
 | [], _ :: _ => false
 | _ :: _, [] => false
 | x :: xs, y :: ys => Nd.same x y && Nd.sames xs ys
end
mutual
theorem Nd.same_eq : ∀ (x y : Nd), Nd.same x y = true → x = y
 | .mk o n s a b ks, .mk o' n' s' a' b' ks', h => by
   rw [Nd.same] at h
   simp only [Bool.and_eq_true, decide_eq_true_eq] at h
   obtain ⟨⟨⟨⟨⟨rfl, rfl⟩, rfl⟩, rfl⟩, rfl⟩, h⟩ := h
   rw [Nd.sames_eq ks ks' h]
theorem Nd.sames_eq : ∀ (xs ys : List Nd), Nd.sames xs ys = true → xs = ys
 | [], [], _ => rfl
 | [], _ :: _, h => by cases h
 | _ :: _, [], h => by cases h
 | x :: xs, y :: ys, h => by
   rw [Nd.sames, Bool.and_eq_true] at h
   rw [Nd.same_eq x y h.1, Nd.sames_eq xs ys h.2]
end
mutual
theorem Nd.same_refl : ∀ x : Nd, Nd.same x x = true
 | .mk o n s a b ks => by rw [Nd.same, Nd.sames_refl ks]; simp
theorem Nd.sames_refl : ∀ xs : List Nd, Nd.sames xs xs = true
 | [] => rfl
 | x :: xs => by rw [Nd.sames, Nd.same_refl x, Nd.sames_refl xs]; rfl
end
theorem Nd.sames_len : ∀ {xs ys : List Nd}, Nd.sames xs ys = true → xs.length = ys.length := fun h => by rw [Nd.sames_eq _ _ h]
theorem Nd.sames_get {xs ys : List Nd} {i : Nat} {x y : Nd} (hx : xs[i]? = some x) (hy : ys[i]? = some y) (h : Nd.sames xs ys = true) : Nd.same x y = true := by
 rw [Nd.sames_eq _ _ h, hy] at hx
 injection hx with hx
 rw [hx]; exact Nd.same_refl _
theorem Nd.sames_all : ∀ {xs ys : List Nd}, xs.length = ys.length → (∀ (i : Nat) x y, xs[i]? = some x → ys[i]? = some y → Nd.same x y = true) → Nd.sames xs ys = true
 | [], [], _, _ => rfl
 | [], _ :: _, h, _ => by simp at h
 | _ :: _, [], h, _ => by simp at h
 | x :: xs, y :: ys, h, hs => by
   rw [Nd.sames, hs 0 x y rfl rfl, Nd.sames_all (by simpa using h) fun i u v hu hv => hs (i + 1) u v (by simpa using hu) (by simpa using hv)]
   rfl
theorem equal_ok (xs ys : List Nd) (hl : xs.length ≤ 1000000000 ∧ ys.length ≤ 1000000000) (ih : ∀ x ∈ xs, ∀ y ∈ ys, Pure Tryz.prog 10 [x.av, y.av] (.bool (Nd.same x y))) :
  Pure Tryz.prog 36 [.sl .shr (xs.map Nd.av), .sl .shr (ys.map Nd.av), .func (.func 10) [] []] (.bool (Nd.sames xs ys)) := by
 intro σ
 refine a36 (by simp) ?_
 by_cases hne : xs.length = ys.length
 ·have hne' : ¬ ((xs.length : Int) ≠ ys.length) := by omega
  have hne2 : (xs.length : Int) = ys.length := by omega
  simp (disch := first | assumption | omega) only [go_sem, reduceCtorEq, Nat.reduceEqDiff, ↓reduceIte, hne2]
  refine wp_loop_by (fun (i : Nat) a1 s2 => (i ≤ xs.length ∧ ∀ k x y, k < i → xs[k]? = some x → ys[k]? = some y → Nd.same x y = true) ∧ (a1 1 = .sl .shr (ys.map Nd.av) ∧ a1 2 = .func (.func 10) [] [] ∧ a1 15 = .sl .shr (xs.map Nd.av) ∧ a1 16 = .int .i64 xs.length ∧ a1 17 = .int .i64 i) ∧ s2 = σ) (fun i => xs.length - i) 0 (Dr.now ⟨⟨Nat.zero_le _, fun k x y h => by omega⟩, ?_, rfl⟩) ?_
  ·simp (disch := first | assumption | omega) only [go_sem, Nat.reduceEqDiff, ↓reduceIte, hne2]
  rintro i a1 s2 ⟨⟨hi, hall⟩, hf, rfl⟩
  by_cases hlt : i < xs.length
  ·have hlt' : (i : Int) < xs.length := by omega
   have hx : xs[i]? = some (xs[i]'hlt) := List.getElem?_eq_getElem hlt
   have hy : ys[i]? = some (ys[i]'(by omega)) := List.getElem?_eq_getElem (by omega)
   have hih := ih _ (List.getElem_mem hlt) _ (List.getElem_mem (h := by omega) : ys[i]'(by omega) ∈ ys)
   obtain ⟨x, hxe⟩ : ∃ x, xs[i]'hlt = x := ⟨_, rfl⟩
   obtain ⟨y, hye⟩ : ∃ y, ys[i]'(by omega) = y := ⟨_, rfl⟩
   rw [hxe] at hx hih
   rw [hye] at hy hih
   have hmx := Nd.get hx
   have hmy := Nd.get hy
   obtain ⟨r, hr⟩ : ∃ r, Nd.same x y = r := ⟨_, rfl⟩
   rw [hr] at hih
   obtain ⟨xo, xm, xs', xa, xb, xk⟩ := x
   obtain ⟨yo, ym, ys', ya, yb, yk⟩ := y
   rw [Nd.av_cs] at hmx
   rw [Nd.av_cs] at hmy
   rw [Nd.av_cs, Nd.av_cs] at hih
   generalize xk.map Nd.av = XK at *
   generalize yk.map Nd.av = YK at *
   generalize hXL : xs.map Nd.av = XL at *
   generalize hYL : ys.map Nd.av = YL at *
   have hok : okFn Tryz.prog 10 = true := by kernel_rfl
   simp (disch := first | assumption | omega) only [go_sem, Nat.reduceEqDiff, Nat.reduceLeDiff, ↓reduceIte, hf, hlt', hmx]
   refine allocC_by fun d hd => ?_
   have hd0 := hd
   simp (disch := first | assumption | omega) only [go_sem, Nat.reduceEqDiff, Nat.reduceAdd, Nat.reduceLeDiff, ↓reduceIte, hf, hmy, ASt.set_set]
   refine allocC_by fun e he => ?_
   have he0 := he
   repeat (with_reducible replace he := set_none he; obtain ⟨_, _, he⟩ := he)
   simp (disch := first | assumption | omega) only [go_sem, Nat.reduceEqDiff, Nat.reduceAdd, Nat.reduceLeDiff, ↓reduceIte, hf, ASt.set_set]
   refine ⟨hok, hih.use ?_⟩
   cases r with
   | true =>
     simp (disch := first | assumption | omega) only [go_sem, Nat.reduceEqDiff, ↓reduceIte, hf]
     refine ⟨i + 1, by dsimp only; omega, Dr.drop ((Drop.set hd).off (by assumption)) ⟨⟨by omega, fun k u v hk hu hv => ?_⟩, ?_, rfl⟩⟩
     ·by_cases hki : k = i
      ·subst hki
       rw [hx] at hu; rw [hy] at hv
       injection hu with hu; injection hv with hv
       subst hu hv; exact hr
      ·exact hall k u v (by omega) hu hv
     ·simp (disch := first | assumption | omega) only [go_sem, Nat.reduceEqDiff, ↓reduceIte, hf]
   | false =>
     have hfin : Nd.sames xs ys = false := by
      cases h : Nd.sames xs ys with
      | false => rfl
      | true => rw [Nd.sames_get hx hy h] at hr; cases hr
     simp (disch := first | assumption | omega) only [go_sem, ↓reduceIte]
     exact retC_by ((Drop.set hd).off (by assumption)) (.refl _) ⟨by rw [hfin]; rfl, rfl⟩
  ·have hlt' : ¬ (i : Int) < xs.length := by omega
   have hfin : Nd.sames xs ys = true := Nd.sames_all hne fun k u v hu hv => hall k u v (by have := (List.getElem?_eq_some_iff.1 hu).1; omega) hu hv
   simp (disch := first | assumption | omega) only [go_sem, ↓reduceIte, hf, hlt']
   exact retC_by (Drop.refl _) (.refl _) ⟨by rw [hfin]; rfl, rfl⟩
 ·have hne2 : ¬ (xs.length : Int) = ys.length := by omega
  have hfin : Nd.sames xs ys = false := by
   cases h : Nd.sames xs ys with
   | false => rfl
   | true => exact absurd (Nd.sames_len h) hne
  simp (disch := first | assumption | omega) only [go_sem, reduceCtorEq, Nat.reduceEqDiff, ↓reduceIte, hne2]
  exact retC_by (Drop.refl _) (.refl _) ⟨by rw [hfin]; rfl, rfl⟩
theorem ref_ne {a b : Ref} (h : a ≠ b) : (decide (a.row = b.row) && (decide (a.col = b.col) && (decide (a.absRow = b.absRow) && decide (a.absCol = b.absCol)))) = false := by
 obtain ⟨a1, a2, a3, a4⟩ := a
 obtain ⟨b1, b2, b3, b4⟩ := b
 cases hd : (decide (a1 = b1) && (decide (a2 = b2) && (decide (a3 = b3) && decide (a4 = b4)))) with
 | false => rfl
 | true =>
   simp only [Bool.and_eq_true, decide_eq_true_eq] at hd
   obtain ⟨rfl, rfl, rfl, rfl⟩ := hd
   exact absurd rfl h
theorem esame_le : ∀ (k : Nat) (x y : Nd), x.size ≤ k → x.size ≤ 1000000000 → y.size ≤ 1000000000 → Pure Tryz.prog 10 [x.av, y.av] (.bool (Nd.same x y))
 | 0, x, y, hk, _, _ => by have := x.size_pos; omega
 | k + 1, x, y, hk, hx, hy => by
   intro σ
   obtain ⟨o, n, s, a, b, ks⟩ := x
   obtain ⟨o', n', s', a', b', ks'⟩ := y
   rw [Nd.size] at hk hx hy
   have l1 := sizes_len ks
   have l2 := sizes_len ks'
   have hE := equal_ok ks ks' ⟨by omega, by omega⟩ fun u hu v hv => by
    have h1 := Nd.size_kid hu
    have h2 := Nd.size_kid hv
    exact esame_le k u v (by omega) (by omega) (by omega)
   rw [Nd.av_cs, Nd.av_cs, Nd.same]
   generalize Nd.sames ks ks' = r at *
   generalize ks.map Nd.av = L at *
   generalize ks'.map Nd.av = L' at *
   refine a10 (by simp) ?_
   simp (disch := first | assumption | omega) only [go_sem]
   refine boxC_by rfl fun c hc => ?_
   simp (disch := first | assumption | omega) only [go_sem, Nat.reduceEqDiff, ↓reduceIte]
   refine boxC_by rfl fun d hd => ?_
   have hd0 := hd
   repeat (with_reducible replace hd := set_none hd; obtain ⟨_, _, hd⟩ := hd)
   have hD : ∀ r r' : Option Role, Drop ((σ.set c r).set d r') σ := fun r r' => (Drop.set hc).off (by assumption)
   by_cases h1 : o = o'
   ·by_cases h2 : n = n'
    ·by_cases h3 : s = s'
     ·by_cases h4 : a = a'
      ·by_cases h5 : b = b'
       ·subst h1 h2 h3 h4 h5
        simp (disch := first | assumption | omega) only [go_sem, Nat.reduceEqDiff, Nat.reduceAdd, Nat.reduceLeDiff, ↓reduceIte, Bool.true_and, eq_self]
        refine hE.use ?_
        simp (disch := first | assumption | omega) only [go_sem, Nat.reduceEqDiff, ↓reduceIte, eq_self]
        refine retC_by (hD _ _) (.refl _) ⟨?_, rfl⟩
        first | rfl | (show AV.bool _ = AV.bool _; simp)
       ·have h5' := ref_ne h5
        subst h1 h2 h3 h4
        simp (disch := first | assumption | omega) only [go_sem, Nat.reduceEqDiff, Nat.reduceAdd, Nat.reduceLeDiff, ↓reduceIte, Bool.true_and, Bool.false_and, Bool.and_false, eq_self, h5']
        refine retC_by (hD _ _) (.refl _) ⟨?_, rfl⟩
        first | rfl | (show AV.bool _ = AV.bool _; simp [h5])
      ·have h4' := ref_ne h4
       subst h1 h2 h3
       simp (disch := first | assumption | omega) only [go_sem, Nat.reduceEqDiff, Nat.reduceAdd, Nat.reduceLeDiff, ↓reduceIte, Bool.true_and, Bool.false_and, Bool.and_false, eq_self, h4']
       refine retC_by (hD _ _) (.refl _) ⟨?_, rfl⟩
       first | rfl | (show AV.bool _ = AV.bool _; simp [h4])
     ·subst h1 h2
      simp (disch := first | assumption | omega) only [go_sem, Nat.reduceEqDiff, ↓reduceIte, Bool.true_and, Bool.false_and, Bool.and_false, eq_self, h3]
      refine retC_by (hD _ _) (.refl _) ⟨?_, rfl⟩
      first | rfl | (show AV.bool _ = AV.bool _; simp [h3])
    ·subst h1
     simp (disch := first | assumption | omega) only [go_sem, Nat.reduceEqDiff, ↓reduceIte, Bool.false_and, Bool.and_false, eq_self, h2]
     refine retC_by (hD _ _) (.refl _) ⟨?_, rfl⟩
     first | rfl | (show AV.bool _ = AV.bool _; simp [h2])
   ·simp (disch := first | assumption | omega) only [go_sem, Nat.reduceEqDiff, ↓reduceIte, Bool.false_and, h1]
    refine retC_by (hD _ _) (.refl _) ⟨?_, rfl⟩
    first | rfl | (show AV.bool _ = AV.bool _; simp [h1])
theorem esame_ok (x y : Nd) (hx : x.size ≤ 1000000000) (hy : y.size ≤ 1000000000) : Pure Tryz.prog 10 [x.av, y.av] (.bool (Nd.same x y)) := esame_le x.size x y (Nat.le_refl _) hx hy
end Go.A
namespace Go.A
open Go.Proofs Go.Lib
mutual
def Nd.map (f : Nd → Nd) : Nd → Nd
 | .mk op n s a b ks => if op = 5 ∨ op = 6 then f (.mk op n s a b ks) else .mk op n s a b (Nd.maps f ks)
def Nd.maps (f : Nd → Nd) : List Nd → List Nd
 | [] => []
 | x :: xs => Nd.map f x :: Nd.maps f xs
end
theorem Nd.maps_map (f : Nd → Nd) : ∀ l : List Nd, Nd.maps f l = l.map (Nd.map f)
 | [] => rfl
 | x :: xs => by rw [Nd.maps, Nd.maps_map f xs]; rfl
def zeroC : List AV := [.int .i64 0, .int .i64 0, .str [], .int .i64 0, .int .i64 0, .bool false, .bool false, .int .i64 0, .int .i64 0, .bool false, .bool false, .sl .full []]
def rowAt (f : Nd → Nd) (ks : List Nd) (z : List AV) (i : Nat) : List AV := (((ks.take i).map fun x => (Nd.map f x).av).flatMap AV.cells) ++ (List.replicate (ks.length - i) z).flatten
theorem rowAt_pre (f : Nd → Nd) (ks : List Nd) (i : Nat) : (((ks.take i).map fun x => (Nd.map f x).av).flatMap AV.cells).length = (ks.take i).length * 12 := by
 rw [lens_flat (s := 12)]
 ·simp
 ·intro x hx
  obtain ⟨y, _, rfl⟩ := List.mem_map.1 hx
  exact Nd.av_len _
theorem rowAt_len (f : Nd → Nd) (ks : List Nd) {z : List AV} (hz : z.length = 12) {i : Nat} (hi : i ≤ ks.length) : (rowAt f ks z i).length = ks.length * 12 := by
 unfold rowAt
 rw [List.length_append, rowAt_pre, flatten_len, hz, List.length_take, ← Nat.add_mul]
 congr 1
 omega
theorem rowAt_step (f : Nd → Nd) (ks : List Nd) {z : List AV} (hz : z.length = 12) {i : Nat} {x : Nd} (hx : ks[i]? = some x) :
  ((rowAt f ks z i).take (i * 12) ++ (Nd.map f x).av.cells) ++ (rowAt f ks z i).drop (i * 12 + 12) = rowAt f ks z (i + 1) := by
 rw [List.append_assoc]
 have hlt : i < ks.length := (List.getElem?_eq_some_iff.1 hx).1
 have hp := rowAt_pre f ks i
 rw [List.length_take, Nat.min_eq_left (by omega)] at hp
 have ht : ks.take (i + 1) = ks.take i ++ [x] := by rw [List.take_add_one, hx]; rfl
 have hr : ks.length - i = (ks.length - (i + 1)) + 1 := by omega
 unfold rowAt
 rw [ht, hr, List.replicate_succ, List.flatten_cons, List.map_append, List.flatMap_append]
 generalize (((ks.take i).map fun x => (Nd.map f x).av).flatMap AV.cells) = P at *
 generalize (List.replicate (ks.length - (i + 1)) z).flatten = R
 have e1 : (P ++ (z ++ R)).take (i * 12) = P := by rw [← hp]; simp
 have e2 : (P ++ (z ++ R)).drop (i * 12 + 12) = R := by
  rw [← List.drop_drop, ← hp, List.drop_left, ← hz, List.drop_left]
 rw [e1, e2]
 simp
theorem rowAt_end (f : Nd → Nd) (ks : List Nd) (z : List AV) : rowAt f ks z ks.length = (ks.map fun x => (Nd.map f x).av).flatMap AV.cells := by
 unfold rowAt
 rw [List.take_length, Nat.sub_self]
 simp
theorem rowAt_zero (f : Nd → Nd) (ks : List Nd) (z : List AV) : rowAt f ks z 0 = (List.replicate ks.length z).flatten := by
 unfold rowAt
 simp
end Go.A
namespace Go.A
open Go.Proofs Go.Lib
structure Pt where
 op : Int
 n : Int
 s : List UInt8
 a : Ref
 b : Ref
 deriving Inhabited
def missN : Nd := .mk 23 0 [] .zero .zero []
end Go.A
namespace Go.A
open Go.Proofs Go.Lib
def zero12 : List AV := [.int .i64 0, .int .i64 0, .str [], .int .i64 0, .int .i64 0, .bool false, .bool false, .int .i64 0, .int .i64 0, .bool false, .bool false, .sl .full []]
theorem OwnSl.put {σ0 σ : ASt} {d : Nat} {r : Role} {v : AV} {xs : List AV} {s : Nat} (h : OwnSl σ0 σ v xs s) (hd : σ0 d = some r) (r' : Option Role) : OwnSl (σ0.set d r') (σ.set d r') v xs s := by
 rcases h with ⟨h1, h2, rfl⟩ | ⟨b, c, rest, h1, h2, h3, h4, rfl⟩
 ·exact .inl ⟨h1, h2, rfl⟩
 ·have hbd : b ≠ d := by rintro rfl; rw [hd] at h4; cases h4
  exact .inr ⟨b, c, rest, h1, h2, h3, by rw [ASt.set_ne hbd]; exact h4, set_swap hbd⟩
theorem Drop.had {σ σ' : ASt} {b : Nat} {r : Role} (h : Drop σ σ') (hb : σ' b = some r) : σ b = some r := by
 rcases h b with h1 | h1
 ·rw [← h1]; exact hb
 ·rw [h1] at hb; cases hb
theorem Drop.nil {σ σ' : ASt} {b : Nat} (h : Drop σ σ') (hb : σ b = none) : σ' b = none := by
 rcases h b with h1 | h1
 ·rw [h1]; exact hb
 ·exact h1
end Go.A
