/- Part 5 of what ShiftTrees leans on: CodeGa Ga CodeGb Gb CodeGc Gc CodeGd Gd Gp Wc CodeTg Tg Za Ea Shelf Wz Wa Zu Zd CodeEq Eq CodeWb Wb CodeH. -/
import Derived.Test.YthdpkgfdjmeaiaaGreatDoorProg
import Derived.KernelRfl
import Derived.Lib.ItoaNum
import Derived.Lib.MapLaws
import Derived.Lib.RuneCount
import Derived.Shelf.Strings.Builder1
import Derived.Shelf.Strings.Builder2
import Derived.Shelf.Strings.Trim
import Derived.Shelf.Small.Utf8
import Derived.Shelf.Small.Strs
import Derived.Shelf.Small.Wraps
import Derived.Shelf.Strings.BuilderF
import Derived.Shelf.Strings.BuilderK
import Derived.Shelf.Strings.BuilderRune
import Derived.Shelf.Utf8.AppendRunePlain
import Derived.Shelf.Utf8.RuneCount
import Derived.Shelf.Strings.Builder2Cap
import Derived.Shelf.Strconv.Itoa0
import Derived.Shelf.Strconv.Itoa1
import Derived.Shelf.LaysM
import Derived.Shelf.Strconv.Itoa2
import Derived.Shelf.Strconv.Itoa3
import Derived.Shelf.Strings.Search1
import Derived.Shelf.Strings.Search2
import Derived.Shelf.Strings.Search3
import Derived.Shelf.Strings.Cut
import Derived.Shelf.Strings.Count
import Derived.Shelf.Strings.Shaped
import Derived.Shelf.Strings.Prefix
import Derived.Shelf.Strings.Split
import Derived.Shelf.Strings.Replace
import Derived.Shelf.Strings.SplitShaped
import Derived.Shelf.Strings.Runes
import Derived.Shelf.Strings.RuneCount
import Derived.Shelf.Strings.AsciiSet
import Derived.Shelf.Unicode.DecodeSlow
import Derived.Shelf.Unicode.DecodeAny
import Derived.Shelf.Strings.BuilderCap
import Derived.Lib.ItoaMem
import Derived.Lib.LaidU8
import Derived.Lib.Replace
import Derived.Test.YthdpkgfdjmeaiaaGreatDoorZShiftTreesd
set_option linter.defProp false
set_option linter.unusedSimpArgs false
set_option linter.unusedVariables false
set_option maxRecDepth 100000
namespace Go.A
abbrev oq (d : Nat) (x : QOp) : AItem := ⟨some d, none, .q x, []⟩
abbrev oe (d : Nat) (x : EOp) : AItem := ⟨some d, none, .e x, []⟩
abbrev oz (x : EOp) : AItem := ⟨none, none, .e x, []⟩
@[go_sem] theorem run_oq {P : Program} {K : AFr → ASt → Prop} {a : AFr} {σ : ASt} {d : Nat} {q : QOp} {r : List AItem} : runI P (oq d q :: r) K a σ = qC P (q.ev a σ) (some d) r K a σ := run_q
@[go_sem] theorem run_oe {P : Program} {K : AFr → ASt → Prop} {a : AFr} {σ : ASt} {d : Nat} {e : EOp} {r : List AItem} : runI P (oe d e :: r) K a σ = e.step P a σ (eK P (some d) [] r K a) := run_e
@[go_sem] theorem run_oz {P : Program} {K : AFr → ASt → Prop} {a : AFr} {σ : ASt} {e : EOp} {r : List AItem} : runI P (oz e :: r) K a σ = e.step P a σ (eK P none [] r K a) := run_e
open Go.Proofs
/-! 42: (tabular/addr.Ref).Moved -/
def c42_28 : ACode := .seq (.ops [ oe 3 (.box (.t 0)), oe 6 (.alloc [(.int .i64 0), (.int .i64 0), (.bool false), (.bool false)]), oq 7 (.mv (.v (.bool false)))]) (.seq (.seq (.ops [ oq 8 (.mv (.t 1)), oq 9 (.bin .leq (.t 8) (.v (.int .i64 (-3000)))), oq 10 (.mv (.t 9)), ⟨some 11, some (10, false), .q (.mv (.t 1)), []⟩, ⟨some 12, some (10, false), .q (.bin .geq (.t 11) (.v (.int .i64 3000))), []⟩, oq 13 (.pick (.t 10) (.v (.bool true)) (.t 12)), oq 14 (.mv (.t 13)), ⟨some 15, some (14, false), .q (.mv (.t 2)), []⟩, ⟨some 16, some (14, false), .q (.bin .leq (.t 15) (.v (.int .i64 (-700)))), []⟩, oq 17 (.pick (.t 14) (.v (.bool true)) (.t 16)), oq 18 (.mv (.t 17)), ⟨some 19, some (18, false), .q (.mv (.t 2)), []⟩, ⟨some 20, some (18, false), .q (.bin .geq (.t 19) (.v (.int .i64 700))), []⟩, oq 21 (.pick (.t 18) (.v (.bool true)) (.t 20))]) (.cond (.t 21) (.seq (.ops [ oq 22 (.fa 2 (.t 3)), oq 23 (.ld none (.t 22)), oq 24 (.un .not (.t 23)), oq 25 (.mv (.t 24)), ⟨some 26, some (25, true), .q (.mv (.t 1)), []⟩, ⟨some 27, some (25, true), .q (.bin .leq (.t 26) (.v (.int .i64 (-3000)))), []⟩, ⟨some 28, some (25, true), .q (.mv (.t 27)), []⟩, ⟨some 29, some (28, false), .q (.mv (.t 1)), []⟩, ⟨some 30, some (28, false), .q (.bin .geq (.t 29) (.v (.int .i64 3000))), []⟩, ⟨some 31, some (25, true), .q (.pick (.t 28) (.v (.bool true)) (.t 30)), []⟩, oq 32 (.pick (.t 25) (.t 31) (.v (.bool false))), oq 33 (.mv (.t 32)), ⟨some 34, some (33, false), .q (.fa 3 (.t 3)), []⟩, ⟨some 35, some (33, false), .q (.ld none (.t 34)), []⟩, ⟨some 36, some (33, false), .q (.un .not (.t 35)), []⟩, ⟨some 37, some (33, false), .q (.mv (.t 36)), []⟩, ⟨some 38, some (37, true), .q (.mv (.t 2)), []⟩, ⟨some 39, some (37, true), .q (.bin .leq (.t 38) (.v (.int .i64 (-700)))), []⟩, ⟨some 40, some (37, true), .q (.mv (.t 39)), []⟩, ⟨some 41, some (40, false), .q (.mv (.t 2)), []⟩, ⟨some 42, some (40, false), .q (.bin .geq (.t 41) (.v (.int .i64 700))), []⟩, ⟨some 43, some (37, true), .q (.pick (.t 40) (.v (.bool true)) (.t 42)), []⟩, ⟨some 44, some (33, false), .q (.pick (.t 37) (.t 43) (.v (.bool false))), []⟩, oq 45 (.pick (.t 33) (.v (.bool true)) (.t 44))]) (.cond (.t 45) (.seq (.ops [ oq 46 (.build [(.int .i64 0), (.int .i64 0), (.bool false), (.bool false)] []), oz (.store 4 (.t 6) (.t 46)), oq 7 (.mv (.v (.bool false)))]) .ret) .skip)) .skip)) (.seq (.seq (.ops [ oq 47 (.fa 2 (.t 3)), oq 48 (.ld none (.t 47)), oq 49 (.un .not (.t 48))]) (.cond (.t 49) (.ops [ oq 50 (.fa 0 (.t 3)), oq 51 (.ld none (.t 50)), oq 52 (.mv (.t 1)), oq 53 (.bin .add (.t 51) (.t 52)), oq 54 (.fa 0 (.t 3)), oz (.store 1 (.t 54) (.t 53))]) .skip)) (.seq (.seq (.ops [ oq 55 (.fa 3 (.t 3)), oq 56 (.ld none (.t 55)), oq 57 (.un .not (.t 56))]) (.cond (.t 57) (.ops [ oq 58 (.fa 1 (.t 3)), oq 59 (.ld none (.t 58)), oq 60 (.mv (.t 2)), oq 61 (.bin .add (.t 59) (.t 60)), oq 62 (.fa 1 (.t 3)), oz (.store 1 (.t 62) (.t 61))]) .skip)) (.seq (.seq (.ops [ oq 63 (.ld (some 4) (.t 3)), oe 64 (.call 74 [(.t 63)]), oq 65 (.un .not (.t 64))]) (.cond (.t 65) (.seq (.ops [ oq 66 (.build [(.int .i64 0), (.int .i64 0), (.bool false), (.bool false)] []), oz (.store 4 (.t 6) (.t 66)), oq 7 (.mv (.v (.bool false)))]) .ret) .skip)) (.seq (.ops [ oq 67 (.ld (some 4) (.t 3)), oz (.store 4 (.t 6) (.t 67)), oq 7 (.mv (.v (.bool true)))]) .ret)))))
@[go_sem] def c42_28_wp := wp_of c42_28.eq_1
def c42 : AFn := ⟨68, [.c 6 (some 4), .t 7], c42_28⟩
theorem c42_ok : compF Tryz.prog Tryz.f42 = some c42 := by kernel_rfl
theorem a42 {args : List AV} {σ : ASt} {R : AV → ASt → Prop} (hl : args.length ≤ 68) (h : c42_28.wp Tryz.prog (RetQ [.c 6 (some 4), .t 7] R) (init args) σ) : ACalls Tryz.prog 42 args σ R := acalls_of Tryz.func42 c42_ok hl h
/-! 74: (tabular/addr.Ref).Good -/
def c74_3 : ACode := .seq (.ops [ oe 1 (.box (.t 0)), oq 2 (.mv (.v (.bool false)))]) (.seq (.ops [ oq 3 (.fa 0 (.t 1)), oq 4 (.ld none (.t 3)), oq 5 (.bin .geq (.t 4) (.v (.int .i64 0))), oq 6 (.mv (.t 5)), ⟨some 7, some (6, true), .q (.fa 0 (.t 1)), []⟩, ⟨some 8, some (6, true), .q (.ld none (.t 7)), []⟩, ⟨some 9, some (6, true), .q (.bin .lss (.t 8) (.v (.int .i64 3000))), []⟩, oq 10 (.pick (.t 6) (.t 9) (.v (.bool false))), oq 11 (.mv (.t 10)), ⟨some 12, some (11, true), .q (.fa 1 (.t 1)), []⟩, ⟨some 13, some (11, true), .q (.ld none (.t 12)), []⟩, ⟨some 14, some (11, true), .q (.bin .geq (.t 13) (.v (.int .i64 0))), []⟩, oq 15 (.pick (.t 11) (.t 14) (.v (.bool false))), oq 16 (.mv (.t 15)), ⟨some 17, some (16, true), .q (.fa 1 (.t 1)), []⟩, ⟨some 18, some (16, true), .q (.ld none (.t 17)), []⟩, ⟨some 19, some (16, true), .q (.bin .lss (.t 18) (.v (.int .i64 700))), []⟩, oq 20 (.pick (.t 16) (.t 19) (.v (.bool false))), oq 2 (.mv (.t 20))]) .ret)
@[go_sem] def c74_3_wp := wp_of c74_3.eq_1
def c74 : AFn := ⟨21, [.t 2], c74_3⟩
theorem c74_ok : compF Tryz.prog Tryz.f74 = some c74 := by kernel_rfl
theorem a74 {args : List AV} {σ : ASt} {R : AV → ASt → Prop} (hl : args.length ≤ 21) (h : c74_3.wp Tryz.prog (RetQ [.t 2] R) (init args) σ) : ACalls Tryz.prog 74 args σ R := acalls_of Tryz.func74 c74_ok hl h
/-! 186: tabular/addr.letter -/
def c186_15 : ACode := .seq (.ops [ oq 2 (.mv (.v (.int .i64 0)))]) (.seq (.block 0 (.seq (.ops [ oq 4 (.mv (.t 0)), oq 5 (.bin .geq (.t 4) (.v (.int .u8 65))), oq 6 (.mv (.t 5)), ⟨some 7, some (6, true), .q (.mv (.t 0)), []⟩, ⟨some 8, some (6, true), .q (.bin .leq (.t 7) (.v (.int .u8 90))), []⟩, oq 9 (.pick (.t 6) (.t 8) (.v (.bool false))), oq 3 (.mv (.t 9))]) (.cond (.t 3) (.seq (.ops [ oq 10 (.mv (.t 0)), oq 11 (.bin .sub (.t 10) (.v (.int .u8 65))), oq 12 (.conv .i64 (.t 11)), oq 13 (.bin .add (.t 12) (.v (.int .i64 1))), oq 2 (.mv (.t 13))]) .ret) (.seq (.ops [ oq 15 (.mv (.t 0)), oq 16 (.bin .geq (.t 15) (.v (.int .u8 97))), oq 17 (.mv (.t 16)), ⟨some 18, some (17, true), .q (.mv (.t 0)), []⟩, ⟨some 19, some (17, true), .q (.bin .leq (.t 18) (.v (.int .u8 122))), []⟩, oq 20 (.pick (.t 17) (.t 19) (.v (.bool false))), oq 14 (.mv (.t 20))]) (.cond (.t 14) (.seq (.ops [ oq 21 (.mv (.t 0)), oq 22 (.bin .sub (.t 21) (.v (.int .u8 97))), oq 23 (.conv .i64 (.t 22)), oq 24 (.bin .add (.t 23) (.v (.int .i64 1))), oq 2 (.mv (.t 24))]) .ret) .skip))))) (.seq (.ops [ oq 2 (.mv (.v (.int .i64 0)))]) .ret))
@[go_sem] def c186_15_wp := wp_of c186_15.eq_1
def c186 : AFn := ⟨25, [.t 2], c186_15⟩
theorem c186_ok : compF Tryz.prog Tryz.f186 = some c186 := by kernel_rfl
theorem a186 {args : List AV} {σ : ASt} {R : AV → ASt → Prop} (hl : args.length ≤ 25) (h : c186_15.wp Tryz.prog (RetQ [.t 2] R) (init args) σ) : ACalls Tryz.prog 186 args σ R := acalls_of Tryz.func186 c186_ok hl h
end Go.A
namespace Go.A
open Go.Proofs
def letterP (c : Int) : Int := if 65 ≤ c ∧ c ≤ 90 then c - 64 else if 97 ≤ c ∧ c ≤ 122 then c - 96 else 0
theorem letter_ok (c : Int) (h0 : 0 ≤ c) (h1 : c ≤ 255) : Pure Tryz.prog 186 [.int .u8 c] (.int .i64 (letterP c)) := by
 intro σ
 refine a186 (by simp) ?_
 repeat' (first | (simp (disch := first | assumption | omega) only [go_sem, reduceCtorEq, Nat.reduceEqDiff, ↓reduceIte]) | with_reducible refine gC_d (fun h => ?_) (fun h => ?_) | with_reducible refine gC_dn (fun h => ?_) (fun h => ?_) | with_reducible refine condC_d (fun h => ?_) (fun h => ?_) | with_reducible refine condC_n (fun h => ?_) (fun h => ?_) | with_reducible refine condC_b (fun h => ?_) (fun h => ?_) | with_reducible refine boxC_by ?_ fun b hb => ?_)
 all_goals refine retC_by (Drop.refl _) (.refl _) ⟨?_, rfl⟩
 all_goals (simp only [letterP, resV_one]; congr 1; repeat' split) <;> omega
structure Ref where
 row : Int
 col : Int
 absRow : Bool
 absCol : Bool
 deriving DecidableEq, Inhabited
def refAV (r : Ref) : AV := .agg [.int .i64 r.row, .int .i64 r.col, .bool r.absRow, .bool r.absCol]
def Ref.good (r : Ref) : Bool := decide (0 ≤ r.row ∧ r.row < 3000 ∧ 0 ≤ r.col ∧ r.col < 700)
def Ref.zero : Ref := ⟨0, 0, false, false⟩
theorem good_ok (r : Ref) : Pure Tryz.prog 74 [refAV r] (.bool r.good) := by
 intro σ
 obtain ⟨row, col, ar, ac⟩ := r
 refine a74 (by simp) ?_
 repeat' (first | (simp (disch := first | assumption | omega) only [go_sem, Nat.reduceEqDiff, ↓reduceIte, refAV]) | with_reducible refine gC_d (fun h => ?_) (fun h => ?_) | with_reducible refine gC_dn (fun h => ?_) (fun h => ?_) | with_reducible refine condC_d (fun h => ?_) (fun h => ?_) | with_reducible refine condC_n (fun h => ?_) (fun h => ?_) | with_reducible refine condC_b (fun h => ?_) (fun h => ?_) | with_reducible refine boxC_by ?_ fun b hb => ?_)
 all_goals refine retC_by (Drop.set (by assumption)) (.refl _) ⟨?_, rfl⟩
 all_goals (simp only [Ref.good, resV_one]; congr 1; rw [Bool.eq_iff_iff]; simp; try omega)
def movedP (r : Ref) (rows cols : Int) : Ref × Bool :=
 if (r.absRow = false ∧ (rows ≤ -3000 ∨ 3000 ≤ rows)) ∨ (r.absCol = false ∧ (cols ≤ -700 ∨ 700 ≤ cols)) then (.zero, false)
 else
  let q : Ref := ⟨if r.absRow then r.row else r.row + rows, if r.absCol then r.col else r.col + cols, r.absRow, r.absCol⟩
  if q.good then (q, true) else (.zero, false)
theorem moved_ok (r : Ref) (rows cols : Int) (h1 : -4000000 ≤ r.row ∧ r.row ≤ 4000000) (h2 : -4000000 ≤ r.col ∧ r.col ≤ 4000000) :
  Pure Tryz.prog 42 [refAV r, .int .i64 rows, .int .i64 cols] (.tuple [refAV (movedP r rows cols).1, .bool (movedP r rows cols).2]) := by
 intro σ
 obtain ⟨row, col, ar, ac⟩ := r
 simp only at h1 h2
 obtain ⟨q, hq⟩ : ∃ q, movedP ⟨row, col, ar, ac⟩ rows cols = q := ⟨_, rfl⟩
 rw [hq]
 refine a42 (by simp) ?_
 simp (disch := first | assumption | omega) only [go_sem, refAV]
 refine boxC_by rfl fun b hb => ?_
 simp (disch := first | assumption | omega) only [go_sem]
 refine allocC_by fun b2 hb2 => ?_
 obtain ⟨n1, n2, hb3⟩ := set_none hb2
 cases ar <;> cases ac
 repeat' (first | (simp (disch := first | assumption | omega) only [go_sem, Nat.reduceEqDiff, Nat.reduceAdd, Nat.reduceLeDiff, ↓reduceIte, Int.reduceNeg, Bool.true_and]) | refine (good_ok ⟨_, _, _, _⟩).use ?_ | with_reducible refine gC_d (fun h => ?_) (fun h => ?_) | with_reducible refine gC_dn (fun h => ?_) (fun h => ?_) | with_reducible refine condC_d (fun h => ?_) (fun h => ?_) | with_reducible refine condC_n (fun h => ?_) (fun h => ?_) | with_reducible refine condC_b (fun h => ?_) (fun h => ?_) | with_reducible refine boxC_by ?_ fun b hb => ?_)
 all_goals refine retC_by ?_ (.refl _) ⟨?_, rfl⟩
 all_goals first
  | (repeat' (first | exact Drop.refl _ | with_reducible refine Drop.off ?_ (by assumption))
     done)
  | skip
 all_goals try simp only [resV_two, movedP, Ref.zero, Ref.good, Bool.false_eq_true, if_true, if_false, true_and, false_and, or_false, false_or, decide_eq_true_eq, decide_eq_false_iff_not, reduceCtorEq, Bool.not_eq_true', Bool.not_eq_false'] at *
 all_goals (repeat' (split at hq)) <;> first | (subst hq; rfl) | (exfalso; omega) | skip
end Go.A
namespace Go.A
open Go.Proofs
/-! 121: tabular/addr.Letters -/
def c121_15 : ACode := .seq (.seq (.ops [ oq 12 (.mv (.t 0)), oq 13 (.bin .gtr (.t 12) (.v (.int .i64 0)))]) (.cond (.t 13) .skip (.exit 0))) (.seq (.block 1 (.ops [ oq 17 (.mv (.t 0)), oq 18 (.bin .sub (.t 17) (.v (.int .i64 1))), oq 19 (.bin .rem (.t 18) (.v (.int .i64 26))), oq 20 (.bin .add (.v (.int .i64 65)) (.t 19)), oq 21 (.conv .u8 (.t 20)), oq 22 (.bsl 1 [(.t 21)]), oq 23 (.b2s (.t 22)), oq 24 (.mv (.t 3)), oq 25 (.bin .add (.t 23) (.t 24)), oq 3 (.mv (.t 25))])) (.ops [ oq 14 (.mv (.t 0)), oq 15 (.bin .sub (.t 14) (.v (.int .i64 1))), oq 16 (.bin .quo (.t 15) (.v (.int .i64 26))), oq 0 (.mv (.t 16))]))
def c121_24 : ACode := .seq (.ops [ oq 2 (.mv (.v (.str [])))]) (.seq (.seq (.ops [ oq 4 (.mv (.t 0)), oq 5 (.bin .lss (.t 4) (.v (.int .i64 0))), oq 6 (.mv (.t 5)), ⟨some 7, some (6, false), .q (.mv (.t 0)), []⟩, ⟨some 8, some (6, false), .q (.bin .geq (.t 7) (.v (.int .i64 700))), []⟩, oq 9 (.pick (.t 6) (.v (.bool true)) (.t 8))]) (.cond (.t 9) (.seq (.ops [ oq 2 (.mv (.v (.str [])))]) .ret) .skip)) (.seq (.ops [ oq 3 (.mv (.v (.str [])))]) (.seq (.seq (.ops [ oq 10 (.mv (.t 0)), oq 11 (.bin .add (.t 10) (.v (.int .i64 1))), oq 0 (.mv (.t 11))]) (.block 0 (.loop c121_15))) (.seq (.ops [ oq 26 (.mv (.t 3)), oq 2 (.mv (.t 26))]) .ret))))
@[go_sem] def c121_15_wp := wp_of c121_15.eq_1
@[go_sem] def c121_24_wp := wp_of c121_24.eq_1
def c121 : AFn := ⟨27, [.t 2], c121_24⟩
theorem c121_ok : compF Tryz.prog Tryz.f121 = some c121 := by kernel_rfl
theorem a121 {args : List AV} {σ : ASt} {R : AV → ASt → Prop} (hl : args.length ≤ 27) (h : c121_24.wp Tryz.prog (RetQ [.t 2] R) (init args) σ) : ACalls Tryz.prog 121 args σ R := acalls_of Tryz.func121 c121_ok hl h
/-! 187: tabular/addr.Column -/
def c187_18 : ACode := .seq (.ops [ oq 11 (.bin .lss (.t 10) (.t 9))]) (.seq (.cond (.t 11) .skip (.exit 0)) (.seq (.block 1 (.seq (.ops [ oq 12 (.ia 1 (.t 8) (.t 10)), oq 13 (.ld none (.t 12)), oq 6 (.mv (.t 13))]) (.seq (.seq (.ops [ oq 14 (.mv (.t 6)), oe 15 (.call 186 [(.t 14)]), oq 16 (.bin .eql (.t 15) (.v (.int .i64 0))), oq 17 (.mv (.t 16)), ⟨some 18, some (17, false), .q (.mv (.t 4)), []⟩, ⟨some 19, some (17, false), .q (.bin .gtr (.t 18) (.v (.int .i64 700))), []⟩, oq 20 (.pick (.t 17) (.v (.bool true)) (.t 19))]) (.cond (.t 20) (.seq (.ops [ oq 2 (.mv (.v (.int .i64 0))), oq 3 (.mv (.v (.bool false)))]) .ret) .skip)) (.ops [ oq 21 (.mv (.t 4)), oq 22 (.bin .mul (.v (.int .i64 26)) (.t 21)), oq 23 (.mv (.t 6)), oe 24 (.call 186 [(.t 23)]), oq 25 (.bin .add (.t 22) (.t 24)), oq 4 (.mv (.t 25))])))) (.ops [ oq 26 (.bin .add (.t 10) (.v (.int .i64 1))), oq 10 (.mv (.t 26))])))
def c187_32 : ACode := .seq (.ops [ oq 2 (.mv (.v (.int .i64 0))), oq 3 (.mv (.v (.bool false)))]) (.seq (.ops [ oq 4 (.mv (.v (.int .i64 0)))]) (.seq (.seq (.ops [ oq 7 (.mv (.t 0)), oe 8 (.s2b (.t 7)), oq 9 (.len (.t 8)), oq 10 (.mv (.v (.int .i64 0)))]) (.block 0 (.loop c187_18))) (.seq (.seq (.ops [ oq 27 (.mv (.t 4)), oq 28 (.bin .lss (.t 27) (.v (.int .i64 1))), oq 29 (.mv (.t 28)), ⟨some 30, some (29, false), .q (.mv (.t 4)), []⟩, ⟨some 31, some (29, false), .q (.bin .gtr (.t 30) (.v (.int .i64 700))), []⟩, oq 32 (.pick (.t 29) (.v (.bool true)) (.t 31))]) (.cond (.t 32) (.seq (.ops [ oq 2 (.mv (.v (.int .i64 0))), oq 3 (.mv (.v (.bool false)))]) .ret) .skip)) (.seq (.ops [ oq 33 (.mv (.t 4)), oq 34 (.bin .sub (.t 33) (.v (.int .i64 1))), oq 2 (.mv (.t 34)), oq 3 (.mv (.v (.bool true)))]) .ret))))
@[go_sem] def c187_18_wp := wp_of c187_18.eq_1
@[go_sem] def c187_32_wp := wp_of c187_32.eq_1
def c187 : AFn := ⟨35, [.t 2, .t 3], c187_32⟩
theorem c187_ok : compF Tryz.prog Tryz.f187 = some c187 := by kernel_rfl
theorem a187 {args : List AV} {σ : ASt} {R : AV → ASt → Prop} (hl : args.length ≤ 35) (h : c187_32.wp Tryz.prog (RetQ [.t 2, .t 3] R) (init args) σ) : ACalls Tryz.prog 187 args σ R := acalls_of Tryz.func187 c187_ok hl h
end Go.A
namespace Go.A
open Go.Proofs
def lettersF : Nat → Nat → List UInt8
 | 0, _ => []
 | k + 1, n => if n = 0 then [] else lettersF k ((n - 1) / 26) ++ [UInt8.ofNat (65 + (n - 1) % 26)]
def lettersP (col : Int) : List UInt8 := if col < 0 ∨ 700 ≤ col then [] else lettersF 4 (col + 1).toNat
theorem letters_ok (col : Int) : Pure Tryz.prog 121 [.int .i64 col] (.str (lettersP col)) := by
 intro σ
 obtain ⟨q, hq⟩ : ∃ q, lettersP col = q := ⟨_, rfl⟩
 rw [hq]
 unfold lettersP at hq
 refine a121 (by simp) ?_
 by_cases hc : col < 0 ∨ 700 ≤ col
 ·rw [if_pos hc] at hq
  subst hq
  repeat' (first | (simp (disch := first | assumption | omega) only [go_sem, reduceCtorEq, Nat.reduceEqDiff, ↓reduceIte]) | with_reducible refine gC_d (fun h => ?_) (fun h => ?_) | with_reducible refine gC_dn (fun h => ?_) (fun h => ?_) | with_reducible refine condC_d (fun h => ?_) (fun h => ?_) | with_reducible refine condC_n (fun h => ?_) (fun h => ?_) | with_reducible refine condC_b (fun h => ?_) (fun h => ?_) | with_reducible refine boxC_by ?_ fun b hb => ?_)
  all_goals first | (exfalso; omega) | exact retC_by (Drop.refl _) (.refl _) ⟨rfl, rfl⟩
 ·rw [if_neg hc] at hq
  obtain ⟨N, hN⟩ : ∃ N, (col + 1).toNat = N := ⟨_, rfl⟩
  rw [hN] at hq
  have h0 : ¬ col < 0 := by omega
  have h1 : ¬ 700 ≤ col := by omega
  have hc1 : col + 1 = (N : Int) := by omega
  simp (disch := first | assumption | omega) only [go_sem, reduceCtorEq, Nat.reduceEqDiff, ↓reduceIte, h0, h1, hc1]
  refine wp_loop_by (fun (i : Nat × Nat × List UInt8) a σ' => i.2.1 < 26 ^ i.1 ∧ i.1 ≤ 4 ∧ i.2.2.length + i.1 = 4 ∧ q = lettersF i.1 i.2.1 ++ i.2.2 ∧ a 0 = .int .i64 i.2.1 ∧ a 3 = .str i.2.2 ∧ σ' = σ) (fun i => i.1) (4, N, []) (Dr.now ⟨by dsimp only; omega, by simp, by simp, by simp [hq], ?_, ?_, rfl⟩) ?_
  ·simp (disch := first | assumption | omega) only [go_sem, ↓reduceIte]
  ·simp (disch := first | assumption | omega) only [go_sem, reduceCtorEq, Nat.reduceEqDiff, ↓reduceIte]
  rintro ⟨k, n, s⟩ a σ1 ⟨hn, hk, hs, hqe, h0, h3, rfl⟩
  dsimp only at hn hk hs hqe h0 h3
  by_cases hz : n = 0
  ·subst hz
   simp (disch := first | assumption | omega) only [go_sem, Nat.reduceEqDiff, Int.reduceLT, ↓reduceIte, h0, h3]
   refine retC_by (Drop.refl _) (.refl _) ⟨?_, rfl⟩
   have e : lettersF k 0 = [] := by cases k <;> rfl
   rw [hqe, e]; rfl
  ·obtain ⟨m, rfl⟩ : ∃ m, n = m + 1 := ⟨n - 1, by omega⟩
   have hb : (m : Int) < 456976 := by
    have := Nat.pow_le_pow_right (n := 26) (by omega) hk
    omega
   have hp : 0 < (m : Int) + 1 := by omega
   have e1 : (m : Int) + 1 - 1 = m := by omega
   have e2 : (m : Int).tmod 26 = ((m % 26 : Nat) : Int) := rfl
   have e3 : (m : Int).tdiv 26 = ((m / 26 : Nat) : Int) := rfl
   have e4 : (65 + ((m % 26 : Nat) : Int)).toNat = 65 + m % 26 := by omega
   have hk0 : k ≠ 0 := by rintro rfl; simp at hn
   obtain ⟨k, rfl⟩ : ∃ k', k = k' + 1 := ⟨k - 1, by omega⟩
   have hs1 : 1 + s.length ≤ 9223372036854775807 := by omega
   simp (disch := first | assumption | omega) only [go_sem, reduceCtorEq, Nat.reduceEqDiff, ↓reduceIte, Bool.true_and, h0, h3, hp, e1, e2, e3, e4]
   refine ⟨(k, m / 26, UInt8.ofNat (65 + m % 26) :: s), by dsimp only; omega, Dr.now ⟨?_, by dsimp only; omega, by simp; omega, ?_, ?_, ?_, rfl⟩⟩
   ·dsimp only
    rw [Nat.pow_succ] at hn
    omega
   ·dsimp only
    rw [hqe, lettersF, if_neg (by omega)]
    simp
   ·simp (disch := first | assumption | omega) only [go_sem, ↓reduceIte]
   ·simp (disch := first | assumption | omega) only [go_sem, reduceCtorEq, Nat.reduceEqDiff, ↓reduceIte]
def colF : Int → List UInt8 → Option Int
 | n, [] => some n
 | n, c :: cs => if letterP c.toNat = 0 ∨ 700 < n then none else colF (26 * n + letterP c.toNat) cs
def columnP (l : List UInt8) : Int × Bool :=
 match colF 0 l with
 | some n => if n < 1 ∨ 700 < n then (0, false) else (n - 1, true)
 | none => (0, false)
theorem letterP_bd (c : Int) : 0 ≤ letterP c ∧ letterP c ≤ 26 := by
 unfold letterP
 split
 ·omega
 ·split <;> omega
theorem column_ok (l : List UInt8) (hl : l.length ≤ 9223372036854775807) : Pure Tryz.prog 187 [.str l] (.tuple [.int .i64 (columnP l).1, .bool (columnP l).2]) := by
 intro σ
 obtain ⟨q, hq⟩ : ∃ q, columnP l = q := ⟨_, rfl⟩
 rw [hq]
 refine a187 (by simp) ?_
 simp (disch := first | assumption | omega) only [go_sem, reduceCtorEq, ↓reduceIte]
 refine s2b_shr ?_
 simp (disch := first | assumption | omega) only [go_sem, ↓reduceIte]
 refine wp_loop_by (fun (i : Nat × Int) a σ' => i.1 ≤ l.length ∧ 0 ≤ i.2 ∧ i.2 ≤ 18226 ∧ colF 0 l = colF i.2 (l.drop i.1) ∧ a 4 = .int .i64 i.2 ∧ a 8 = .sl .shr (bytesAV l) ∧ a 9 = .int .i64 l.length ∧ a 10 = .int .i64 i.1 ∧ a 2 = .int .i64 0 ∧ a 3 = .bool false ∧ σ' = σ) (fun i => l.length - i.1) (0, 0) (Dr.now ⟨by simp, by simp, by simp, rfl, ?_, ?_, ?_, ?_, ?_, ?_, rfl⟩) ?_
 ·simp (disch := first | assumption | omega) only [go_sem, Nat.reduceEqDiff, ↓reduceIte]
 ·simp (disch := first | assumption | omega) only [go_sem, Nat.reduceEqDiff, ↓reduceIte]
 ·simp (disch := first | assumption | omega) only [go_sem, Nat.reduceEqDiff, ↓reduceIte]
 ·simp (disch := first | assumption | omega) only [go_sem, ↓reduceIte]
 ·simp (disch := first | assumption | omega) only [go_sem, Nat.reduceEqDiff, ↓reduceIte]
 ·simp (disch := first | assumption | omega) only [go_sem, Nat.reduceEqDiff, ↓reduceIte]
 rintro ⟨i, n⟩ a σ1 ⟨hi, hn0, hn1, hcol, h4, h8, h9, h10, h2, h3, rfl⟩
 dsimp only at hi hn0 hn1 hcol h4 h10
 by_cases hlt : i < l.length
 ·have hidx : l[i]? = some (l[i]'hlt) := List.getElem?_eq_getElem hlt
  obtain ⟨c, hc⟩ : ∃ c, l[i]'hlt = c := ⟨_, rfl⟩
  rw [hc] at hidx
  have hcb : (c.toNat : Int) ≤ 255 := by have := c.toNat_lt; omega
  have hbd := letterP_bd c.toNat
  rw [List.drop_eq_getElem_cons hlt, hc, colF] at hcol
  repeat' (first | (simp (disch := first | assumption | omega) only [go_sem, Nat.reduceEqDiff, ↓reduceIte, h4, h8, h9, h10, hidx]) | refine (letter_ok c.toNat (by omega) hcb).use ?_ | with_reducible refine gC_d (fun h => ?_) (fun h => ?_) | with_reducible refine gC_dn (fun h => ?_) (fun h => ?_) | with_reducible refine condC_d (fun h => ?_) (fun h => ?_) | with_reducible refine condC_n (fun h => ?_) (fun h => ?_) | with_reducible refine condC_b (fun h => ?_) (fun h => ?_) | with_reducible refine boxC_by ?_ fun b hb => ?_)
  ·rw [if_pos (by omega)] at hcol
   unfold columnP at hq
   rw [hcol] at hq
   subst hq
   exact retC_by (Drop.refl _) (.refl _) ⟨rfl, rfl⟩
  ·rename_i hz
   rw [if_neg (by omega)] at hcol
   refine ⟨(i + 1, 26 * n + letterP c.toNat), by dsimp only; omega, Dr.now ⟨by dsimp only; omega, by dsimp only; omega, by dsimp only; omega, hcol, ?_, ?_, ?_, ?_, ?_, ?_, rfl⟩⟩
   ·simp (disch := first | assumption | omega) only [go_sem, Nat.reduceEqDiff, ↓reduceIte]
   ·simp (disch := first | assumption | omega) only [go_sem, Nat.reduceEqDiff, ↓reduceIte, h8]
   ·simp (disch := first | assumption | omega) only [go_sem, Nat.reduceEqDiff, ↓reduceIte, h9]
   ·simp (disch := first | assumption | omega) only [go_sem, ↓reduceIte]
   ·simp (disch := first | assumption | omega) only [go_sem, Nat.reduceEqDiff, ↓reduceIte, h2]
   ·simp (disch := first | assumption | omega) only [go_sem, Nat.reduceEqDiff, ↓reduceIte, h3]
  ·rw [if_pos (by omega)] at hcol
   unfold columnP at hq
   rw [hcol] at hq
   subst hq
   exact retC_by (Drop.refl _) (.refl _) ⟨rfl, rfl⟩
 ·have e : l.drop i = [] := List.drop_eq_nil_of_le (by omega)
  rw [e, colF] at hcol
  unfold columnP at hq
  rw [hcol] at hq
  repeat' (first | (simp (disch := first | assumption | omega) only [go_sem, Nat.reduceEqDiff, ↓reduceIte, h4, h9, h10]) | with_reducible refine gC_d (fun h => ?_) (fun h => ?_) | with_reducible refine gC_dn (fun h => ?_) (fun h => ?_) | with_reducible refine condC_d (fun h => ?_) (fun h => ?_) | with_reducible refine condC_n (fun h => ?_) (fun h => ?_) | with_reducible refine condC_b (fun h => ?_) (fun h => ?_) | with_reducible refine boxC_by ?_ fun b hb => ?_)
  all_goals refine retC_by (Drop.refl _) (.refl _) ⟨?_, rfl⟩
  all_goals (simp only [resV_two] at *; split at hq) <;> first | (subst hq; rfl) | (exfalso; omega)
end Go.A
namespace Go.A
open Go.Proofs
/-! 173: tabular/addr.Read -/
def c173_15 : ACode := .seq (.seq (.ops [ oq 25 (.mv (.t 5)), oq 26 (.mv (.t 0)), oq 27 (.lenS (.t 26)), oq 28 (.bin .lss (.t 25) (.t 27)), oq 29 (.mv (.t 28)), ⟨some 30, some (29, true), .q (.mv (.t 0)), []⟩, ⟨some 31, some (29, true), .q (.mv (.t 5)), []⟩, ⟨some 32, some (29, true), .q (.idx (.t 30) (.t 31)), []⟩, ⟨some 33, some (29, true), .e (.call 186 [(.t 32)]), []⟩, ⟨some 34, some (29, true), .q (.bin .gtr (.t 33) (.v (.int .i64 0))), []⟩, oq 35 (.pick (.t 29) (.t 34) (.v (.bool false)))]) (.cond (.t 35) .skip (.exit 0))) (.block 1 (.ops [ oq 36 (.mv (.t 5)), oq 37 (.bin .add (.t 36) (.v (.int .i64 1))), oq 5 (.mv (.t 37))]))
def c173_38 : ACode := .seq (.seq (.ops [ oq 63 (.mv (.t 5)), oq 64 (.mv (.t 0)), oq 65 (.lenS (.t 64)), oq 66 (.bin .lss (.t 63) (.t 65)), oq 67 (.mv (.t 66)), ⟨some 68, some (67, true), .q (.mv (.t 0)), []⟩, ⟨some 69, some (67, true), .q (.mv (.t 5)), []⟩, ⟨some 70, some (67, true), .q (.idx (.t 68) (.t 69)), []⟩, ⟨some 71, some (67, true), .q (.bin .geq (.t 70) (.v (.int .u8 48))), []⟩, oq 72 (.pick (.t 67) (.t 71) (.v (.bool false))), oq 73 (.mv (.t 72)), ⟨some 74, some (73, true), .q (.mv (.t 0)), []⟩, ⟨some 75, some (73, true), .q (.mv (.t 5)), []⟩, ⟨some 76, some (73, true), .q (.idx (.t 74) (.t 75)), []⟩, ⟨some 77, some (73, true), .q (.bin .leq (.t 76) (.v (.int .u8 57))), []⟩, oq 78 (.pick (.t 73) (.t 77) (.v (.bool false)))]) (.cond (.t 78) .skip (.exit 2))) (.block 3 (.seq (.ops [ oq 79 (.mv (.t 9)), oq 80 (.bin .mul (.v (.int .i64 10)) (.t 79)), oq 81 (.mv (.t 0)), oq 82 (.mv (.t 5)), oq 83 (.idx (.t 81) (.t 82)), oq 84 (.bin .sub (.t 83) (.v (.int .u8 48))), oq 85 (.conv .i64 (.t 84)), oq 86 (.bin .add (.t 80) (.t 85)), oq 87 (.mnx false (.t 86) (.v (.int .i64 3001))), oq 9 (.mv (.t 87))]) (.ops [ oq 88 (.mv (.t 5)), oq 89 (.bin .add (.t 88) (.v (.int .i64 1))), oq 5 (.mv (.t 89))])))
def c173_50 : ACode := .seq (.seq (.ops [ oq 90 (.mv (.t 9)), oq 91 (.bin .lss (.t 90) (.v (.int .i64 1))), oq 92 (.mv (.t 91)), ⟨some 93, some (92, false), .q (.mv (.t 9)), []⟩, ⟨some 94, some (92, false), .q (.bin .gtr (.t 93) (.v (.int .i64 3000))), []⟩, oq 95 (.pick (.t 92) (.v (.bool true)) (.t 94)), oq 96 (.mv (.t 95)), ⟨some 97, some (96, false), .q (.mv (.t 0)), []⟩, ⟨some 98, some (96, false), .q (.mv (.t 10)), []⟩, ⟨some 99, some (96, false), .q (.idx (.t 97) (.t 98)), []⟩, ⟨some 100, some (96, false), .q (.bin .eql (.t 99) (.v (.int .u8 48))), []⟩, oq 101 (.pick (.t 96) (.v (.bool true)) (.t 100)), oq 102 (.mv (.t 101)), ⟨some 103, some (102, false), .q (.mv (.t 0)), []⟩, ⟨some 104, some (102, false), .q (.mv (.t 5)), []⟩, ⟨some 105, some (102, false), .e (.call 188 [(.t 103), (.t 104)]), []⟩, ⟨some 106, some (102, false), .e (.call 186 [(.t 105)]), []⟩, ⟨some 107, some (102, false), .q (.bin .gtr (.t 106) (.v (.int .i64 0))), []⟩, oq 108 (.pick (.t 102) (.v (.bool true)) (.t 107)), oq 109 (.mv (.t 108)), ⟨some 110, some (109, false), .q (.mv (.t 0)), []⟩, ⟨some 111, some (109, false), .q (.mv (.t 5)), []⟩, ⟨some 112, some (109, false), .e (.call 188 [(.t 110), (.t 111)]), []⟩, ⟨some 113, some (109, false), .q (.bin .eql (.t 112) (.v (.int .u8 95))), []⟩, oq 114 (.pick (.t 109) (.v (.bool true)) (.t 113))]) (.cond (.t 114) (.seq (.ops [ oq 115 (.build [(.int .i64 0), (.int .i64 0), (.bool false), (.bool false)] []), oz (.store 4 (.t 2) (.t 115)), oq 3 (.mv (.v (.int .i64 0)))]) .ret) .skip)) (.seq (.ops [ oq 116 (.mv (.t 9)), oq 117 (.bin .sub (.t 116) (.v (.int .i64 1))), oq 118 (.mv (.t 7)), oq 119 (.fa 0 (.t 4)), oz (.store 1 (.t 119) (.t 117)), oq 120 (.fa 1 (.t 4)), oz (.store 1 (.t 120) (.t 118))]) (.seq (.ops [ oq 121 (.ld (some 4) (.t 4)), oq 122 (.mv (.t 5)), oz (.store 4 (.t 2) (.t 121)), oq 3 (.mv (.t 122))]) .ret))
def c173_52 : ACode := .seq (.ops [ oq 62 (.mv (.t 5)), oq 9 (.mv (.v (.int .i64 0))), oq 10 (.mv (.t 62))]) (.seq (.block 2 (.loop c173_38)) c173_50)
def c173_53 : ACode := .seq (.seq (.ops [ oq 49 (.mv (.t 5)), oq 50 (.mv (.t 0)), oq 51 (.lenS (.t 50)), oq 52 (.bin .lss (.t 49) (.t 51)), oq 53 (.mv (.t 52)), ⟨some 54, some (53, true), .q (.mv (.t 0)), []⟩, ⟨some 55, some (53, true), .q (.mv (.t 5)), []⟩, ⟨some 56, some (53, true), .q (.idx (.t 54) (.t 55)), []⟩, ⟨some 57, some (53, true), .q (.bin .eql (.t 56) (.v (.int .u8 36))), []⟩, oq 58 (.pick (.t 53) (.t 57) (.v (.bool false)))]) (.cond (.t 58) (.seq (.ops [ oq 59 (.fa 2 (.t 4)), oz (.store 1 (.t 59) (.v (.bool true)))]) (.ops [ oq 60 (.mv (.t 5)), oq 61 (.bin .add (.t 60) (.v (.int .i64 1))), oq 5 (.mv (.t 61))])) .skip)) c173_52
def c173_54 : ACode := .seq (.seq (.ops [ oq 46 (.mv (.t 8)), oq 47 (.un .not (.t 46))]) (.cond (.t 47) (.seq (.ops [ oq 48 (.build [(.int .i64 0), (.int .i64 0), (.bool false), (.bool false)] []), oz (.store 4 (.t 2) (.t 48)), oq 3 (.mv (.v (.int .i64 0)))]) .ret) .skip)) c173_53
def c173_55 : ACode := .seq (.ops [ oq 39 (.mv (.t 0)), oq 40 (.mv (.t 6)), oq 41 (.mv (.t 5)), oq 42 (.sls (true, 0) (.t 39) (.t 40) (.t 41)), oe 43 (.call 187 [(.t 42)]), oq 38 (.mv (.t 43)), oq 44 (.ext 0 (.t 38)), oq 45 (.ext 1 (.t 38)), oq 7 (.mv (.t 44)), oq 8 (.mv (.t 45))]) c173_54
def c173_57 : ACode := .seq (.ops [ oq 24 (.mv (.t 5)), oq 6 (.mv (.t 24))]) (.seq (.block 0 (.loop c173_15)) c173_55)
def c173_58 : ACode := .seq (.seq (.ops [ oq 11 (.mv (.t 5)), oq 12 (.mv (.t 0)), oq 13 (.lenS (.t 12)), oq 14 (.bin .lss (.t 11) (.t 13)), oq 15 (.mv (.t 14)), ⟨some 16, some (15, true), .q (.mv (.t 0)), []⟩, ⟨some 17, some (15, true), .q (.mv (.t 5)), []⟩, ⟨some 18, some (15, true), .q (.idx (.t 16) (.t 17)), []⟩, ⟨some 19, some (15, true), .q (.bin .eql (.t 18) (.v (.int .u8 36))), []⟩, oq 20 (.pick (.t 15) (.t 19) (.v (.bool false)))]) (.cond (.t 20) (.seq (.ops [ oq 21 (.fa 3 (.t 4)), oz (.store 1 (.t 21) (.v (.bool true)))]) (.ops [ oq 22 (.mv (.t 5)), oq 23 (.bin .add (.t 22) (.v (.int .i64 1))), oq 5 (.mv (.t 23))])) .skip)) c173_57
def c173_59 : ACode := .seq (.ops [ oq 5 (.mv (.v (.int .i64 0)))]) c173_58
def c173_60 : ACode := .seq (.ops [ oe 4 (.alloc [(.int .i64 0), (.int .i64 0), (.bool false), (.bool false)])]) c173_59
def c173_61 : ACode := .seq (.ops [ oe 2 (.alloc [(.int .i64 0), (.int .i64 0), (.bool false), (.bool false)]), oq 3 (.mv (.v (.int .i64 0)))]) c173_60
@[go_sem] def c173_15_wp := wp_of c173_15.eq_1
@[go_sem] def c173_38_wp := wp_of c173_38.eq_1
@[go_sem] def c173_50_wp := wp_of c173_50.eq_1
@[go_sem] def c173_52_wp := wp_of c173_52.eq_1
@[go_sem] def c173_53_wp := wp_of c173_53.eq_1
@[go_sem] def c173_54_wp := wp_of c173_54.eq_1
@[go_sem] def c173_55_wp := wp_of c173_55.eq_1
@[go_sem] def c173_57_wp := wp_of c173_57.eq_1
@[go_sem] def c173_58_wp := wp_of c173_58.eq_1
@[go_sem] def c173_59_wp := wp_of c173_59.eq_1
@[go_sem] def c173_60_wp := wp_of c173_60.eq_1
@[go_sem] def c173_61_wp := wp_of c173_61.eq_1
def c173 : AFn := ⟨123, [.c 2 (some 4), .t 3], c173_61⟩
theorem c173_ok : compF Tryz.prog Tryz.f173 = some c173 := by kernel_rfl
theorem a173 {args : List AV} {σ : ASt} {R : AV → ASt → Prop} (hl : args.length ≤ 123) (h : c173_61.wp Tryz.prog (RetQ [.c 2 (some 4), .t 3] R) (init args) σ) : ACalls Tryz.prog 173 args σ R := acalls_of Tryz.func173 c173_ok hl h
/-! 188: tabular/addr.at -/
def c188_9 : ACode := .seq (.ops [ oq 4 (.mv (.v (.int .u8 0)))]) (.seq (.seq (.ops [ oq 5 (.mv (.t 1)), oq 6 (.mv (.t 0)), oq 7 (.lenS (.t 6)), oq 8 (.bin .lss (.t 5) (.t 7))]) (.cond (.t 8) (.seq (.ops [ oq 9 (.mv (.t 0)), oq 10 (.mv (.t 1)), oq 11 (.idx (.t 9) (.t 10)), oq 4 (.mv (.t 11))]) .ret) .skip)) (.seq (.ops [ oq 4 (.mv (.v (.int .u8 0)))]) .ret))
@[go_sem] def c188_9_wp := wp_of c188_9.eq_1
def c188 : AFn := ⟨12, [.t 4], c188_9⟩
theorem c188_ok : compF Tryz.prog Tryz.f188 = some c188 := by kernel_rfl
theorem a188 {args : List AV} {σ : ASt} {R : AV → ASt → Prop} (hl : args.length ≤ 12) (h : c188_9.wp Tryz.prog (RetQ [.t 4] R) (init args) σ) : ACalls Tryz.prog 188 args σ R := acalls_of Tryz.func188 c188_ok hl h
end Go.A
namespace Go.A
open Go.Proofs
def atP (l : List UInt8) (i : Nat) : Int := match l[i]? with
 | some c => c.toNat
 | none => 0
theorem atP_bd (l : List UInt8) (i : Nat) : 0 ≤ atP l i ∧ atP l i ≤ 255 := by
 unfold atP
 split
 ·rename_i c _; have := c.toNat_lt; omega
 ·omega
theorem at_ok (l : List UInt8) (i : Nat) (hl : l.length ≤ 9223372036854775807) (hi : i ≤ l.length) : Pure Tryz.prog 188 [.str l, .int .i64 i] (.int .u8 (atP l i)) := by
 intro σ
 refine a188 (by simp) ?_
 unfold atP
 by_cases hlt : i < l.length
 ·have hidx : l[i]? = some (l[i]'hlt) := List.getElem?_eq_getElem hlt
  rw [hidx]
  simp (disch := first | assumption | omega) only [go_sem, reduceCtorEq, Nat.reduceEqDiff, ↓reduceIte, hidx]
  exact retC_by (Drop.refl _) (.refl _) ⟨rfl, rfl⟩
 ·rw [List.getElem?_eq_none (by omega)]
  simp (disch := first | assumption | omega) only [go_sem, reduceCtorEq, Nat.reduceEqDiff, ↓reduceIte]
  exact retC_by (Drop.refl _) (.refl _) ⟨rfl, rfl⟩
def runL (p : UInt8 → Bool) : List UInt8 → Nat
 | [] => 0
 | c :: cs => if p c then runL p cs + 1 else 0
theorem runL_le (p : UInt8 → Bool) : ∀ l, runL p l ≤ l.length
 | [] => Nat.le_refl _
 | c :: cs => by
   have := runL_le p cs
   unfold runL
   split <;> simp <;> omega
def isL (c : UInt8) : Bool := decide (0 < letterP c.toNat)
def isD (c : UInt8) : Bool := decide (48 ≤ c.toNat ∧ c.toNat ≤ 57)
def numF : Int → List UInt8 → Int
 | n, [] => n
 | n, c :: cs => if isD c then numF (min (10 * n + (c.toNat - 48)) 3001) cs else n
def readQ (l : List UInt8) (i : Nat) (col : Int) (ar ac : Bool) : Ref × Int :=
 if numF 0 (l.drop i) < 1 ∨ 3000 < numF 0 (l.drop i) ∨ atP l i = 48 ∨ 0 < letterP (atP l (i + runL isD (l.drop i))) ∨ atP l (i + runL isD (l.drop i)) = 95 then (.zero, 0)
 else (⟨numF 0 (l.drop i) - 1, col, ar, ac⟩, (i + runL isD (l.drop i) : Nat))
set_option maxHeartbeats 1000000 in
theorem read2 (l : List UInt8) (hl : l.length ≤ 9223372036854775000) (σ : ASt) (b0 b1 : Nat) (hb0 : σ b0 = none) (hb1 : σ b1 = none) (n1 : b0 ≠ b1) (i2 : Nat) (hi2 : i2 ≤ l.length) (col : Int) (ar ac : Bool) (q : Ref × Int) (hq : readQ l i2 col ar ac = q)
  (a : AFr) (h0 : a 0 = .str l) (h2 : a 2 = .ptr b0 0) (h4 : a 4 = .ptr b1 0) (h5 : a 5 = .int .i64 i2) (h7 : a 7 = .int .i64 col) :
  ACode.wp Tryz.prog c173_52 (RetQ [.c 2 (some 4), .t 3] fun v σ' => v = .tuple [refAV q.1, .int .i64 q.2] ∧ σ' = σ) a
   ((σ.set b0 (some (.obj [.int .i64 0, .int .i64 0, .bool false, .bool false]))).set b1 (some (.obj [.int .i64 0, .int .i64 0, .bool ar, .bool ac]))) := by
 have n2 : b1 ≠ b0 := Ne.symm n1
 obtain ⟨F, hF⟩ : ∃ F, F = ACode.wp Tryz.prog c173_50 := ⟨_, rfl⟩
 have fin : ∀ (i : Nat) (n : Int) (a : AFr), i2 ≤ i → i ≤ l.length → 0 ≤ n → n ≤ 3001 → (n = 0 ∨ i2 < i) → i2 + runL isD (l.drop i2) = i → numF 0 (l.drop i2) = n →
   a 0 = .str l → a 2 = .ptr b0 0 → a 4 = .ptr b1 0 → a 5 = .int .i64 i → a 7 = .int .i64 col → a 9 = .int .i64 n → a 10 = .int .i64 i2 →
   F (RetQ [.c 2 (some 4), .t 3] fun v σ' => v = .tuple [refAV q.1, .int .i64 q.2] ∧ σ' = σ) a
    ((σ.set b0 (some (.obj [.int .i64 0, .int .i64 0, .bool false, .bool false]))).set b1 (some (.obj [.int .i64 0, .int .i64 0, .bool ar, .bool ac]))) := by
  rw [hF]
  intro i n a hi hil hn0 hn1 hni hrun hnum h0 h2 h4 h5 h7 h9 h10
  unfold readQ at hq
  rw [hrun, hnum] at hq
  by_cases hn : n < 1
  ·rw [if_pos (.inl hn)] at hq
   subst hq
   repeat' (first | (simp (disch := first | assumption | omega) only [go_sem, Nat.reduceEqDiff, Nat.reduceAdd, Nat.reduceLeDiff, ↓reduceIte, Bool.true_and, h2, h9, hn, refAV]) | with_reducible refine gC_d (fun h => ?_) (fun h => ?_) | with_reducible refine gC_dn (fun h => ?_) (fun h => ?_) | with_reducible refine condC_d (fun h => ?_) (fun h => ?_) | with_reducible refine condC_n (fun h => ?_) (fun h => ?_) | with_reducible refine condC_b (fun h => ?_) (fun h => ?_) | with_reducible refine boxC_by ?_ fun b hb => ?_)
   all_goals exact retC_by (by repeat' (first | exact Drop.refl _ | with_reducible refine Drop.off ?_ (by assumption))) (.refl _) ⟨rfl, rfl⟩
  ·have hidx : l[i2]? = some (l[i2]'(by omega)) := List.getElem?_eq_getElem (by omega)
   obtain ⟨c, hc⟩ : ∃ c, l[i2]'(by omega) = c := ⟨_, rfl⟩
   rw [hc] at hidx
   have hat : atP l i2 = c.toNat := by unfold atP; rw [hidx]
   rw [hat] at hq
   have hb := atP_bd l i
   repeat' (first | (simp (disch := first | assumption | omega) only [go_sem, reduceCtorEq, Nat.reduceEqDiff, Nat.reduceAdd, Nat.reduceLeDiff, ↓reduceIte, Bool.true_and, h0, h2, h4, h5, h7, h9, h10, hn, hidx, refAV]) | refine (at_ok l i (by omega) hil).use ?_ | refine (letter_ok _ hb.1 hb.2).use ?_ | with_reducible refine gC_d (fun h => ?_) (fun h => ?_) | with_reducible refine gC_dn (fun h => ?_) (fun h => ?_) | with_reducible refine condC_d (fun h => ?_) (fun h => ?_) | with_reducible refine condC_n (fun h => ?_) (fun h => ?_) | with_reducible refine condC_b (fun h => ?_) (fun h => ?_) | with_reducible refine boxC_by ?_ fun b hb => ?_)
   all_goals first
    | (rw [if_pos (by omega)] at hq
       subst hq
       exact retC_by (by repeat' (first | exact Drop.refl _ | with_reducible refine Drop.off ?_ (by assumption))) (.refl _) ⟨rfl, rfl⟩)
    | (rw [if_neg (by omega)] at hq
       subst hq
       exact retC_by (by repeat' (first | exact Drop.refl _ | with_reducible refine Drop.off ?_ (by assumption))) (.refl _) ⟨rfl, rfl⟩)
 simp (disch := first | assumption | omega) only [go_sem, Nat.reduceEqDiff, ↓reduceIte, h5]
 rw [← hF]
 refine wp_loop_by (fun (i : Nat × Int) a σ' => i2 ≤ i.1 ∧ i.1 ≤ l.length ∧ 0 ≤ i.2 ∧ i.2 ≤ 3001 ∧ (i.2 = 0 ∨ i2 < i.1) ∧ i2 + runL isD (l.drop i2) = i.1 + runL isD (l.drop i.1) ∧ numF 0 (l.drop i2) = numF i.2 (l.drop i.1) ∧
  a 0 = .str l ∧ a 2 = .ptr b0 0 ∧ a 4 = .ptr b1 0 ∧ a 5 = .int .i64 i.1 ∧ a 7 = .int .i64 col ∧ a 9 = .int .i64 i.2 ∧ a 10 = .int .i64 i2 ∧
  σ' = (σ.set b0 (some (.obj [.int .i64 0, .int .i64 0, .bool false, .bool false]))).set b1 (some (.obj [.int .i64 0, .int .i64 0, .bool ar, .bool ac]))) (fun i => l.length - i.1) (i2, 0)
  (Dr.now ⟨Nat.le_refl _, hi2, by simp, by simp, .inl rfl, rfl, rfl, ?_, ?_, ?_, ?_, ?_, ?_, ?_, rfl⟩) ?_
 ·simp (disch := first | assumption | omega) only [go_sem, reduceCtorEq, ↓reduceIte, h0]
 ·simp (disch := first | assumption | omega) only [go_sem, Nat.reduceEqDiff, ↓reduceIte, h2]
 ·simp (disch := first | assumption | omega) only [go_sem, Nat.reduceEqDiff, ↓reduceIte, h4]
 ·simp (disch := first | assumption | omega) only [go_sem, Nat.reduceEqDiff, ↓reduceIte, h5]
 ·simp (disch := first | assumption | omega) only [go_sem, Nat.reduceEqDiff, ↓reduceIte, h7]
 ·simp (disch := first | assumption | omega) only [go_sem, Nat.reduceEqDiff, ↓reduceIte]
 ·simp (disch := first | assumption | omega) only [go_sem, ↓reduceIte]
 clear h0 h2 h4 h5 h7
 rintro ⟨i, n⟩ a σ1 ⟨hi, hil, hn0, hn1, hni, hrun, hnum, h0, h2, h4, h5, h7, h9, h10, rfl⟩
 dsimp only at hi hil hn0 hn1 hni hrun hnum h5 h9
 by_cases hlt : i < l.length
 ·have hidx : l[i]? = some (l[i]'hlt) := List.getElem?_eq_getElem hlt
  obtain ⟨c, hc⟩ : ∃ c, l[i]'hlt = c := ⟨_, rfl⟩
  rw [hc] at hidx
  have hcb : (c.toNat : Int) ≤ 255 := by have := c.toNat_lt; omega
  rw [List.drop_eq_getElem_cons hlt, hc, runL] at hrun
  rw [List.drop_eq_getElem_cons hlt, hc, numF] at hnum
  have hat : atP l i = c.toNat := by unfold atP; rw [hidx]
  by_cases hd : 48 ≤ (c.toNat : Int) ∧ (c.toNat : Int) ≤ 57
  ·have hD : isD c = true := by unfold isD; simp; omega
   rw [if_pos hD] at hrun hnum
   have hd1 := hd.1
   have hd2 := hd.2
   simp (disch := first | assumption | omega) only [go_sem, reduceCtorEq, Nat.reduceEqDiff, ↓reduceIte, h0, h5, h9, hidx, hd1, hd2]
   refine ⟨(i + 1, min (10 * n + (c.toNat - 48)) 3001), by dsimp only; omega, Dr.now ⟨by dsimp only; omega, by dsimp only; omega, by dsimp only; omega, by dsimp only; omega, by dsimp only; omega, by dsimp only; omega, hnum, ?_, ?_, ?_, ?_, ?_, ?_, ?_, rfl⟩⟩
   ·simp (disch := first | assumption | omega) only [go_sem, reduceCtorEq, ↓reduceIte, h0]
   ·simp (disch := first | assumption | omega) only [go_sem, Nat.reduceEqDiff, ↓reduceIte, h2]
   ·simp (disch := first | assumption | omega) only [go_sem, Nat.reduceEqDiff, ↓reduceIte, h4]
   ·simp (disch := first | assumption | omega) only [go_sem, ↓reduceIte]
   ·simp (disch := first | assumption | omega) only [go_sem, Nat.reduceEqDiff, ↓reduceIte, h7]
   ·simp (disch := first | assumption | omega) only [go_sem, Nat.reduceEqDiff, ↓reduceIte]
   ·simp (disch := first | assumption | omega) only [go_sem, Nat.reduceEqDiff, ↓reduceIte, h10]
  ·have hD : ¬ isD c = true := by unfold isD; simp; omega
   rw [if_neg hD] at hrun hnum
   repeat' (first | (simp (disch := first | assumption | omega) only [go_sem, reduceCtorEq, Nat.reduceEqDiff, ↓reduceIte, h0, h5, hidx]) | with_reducible refine gC_d (fun h => ?_) (fun h => ?_) | with_reducible refine gC_dn (fun h => ?_) (fun h => ?_) | with_reducible refine condC_d (fun h => ?_) (fun h => ?_) | with_reducible refine condC_n (fun h => ?_) (fun h => ?_) | with_reducible refine condC_b (fun h => ?_) (fun h => ?_) | with_reducible refine boxC_by ?_ fun b hb => ?_)
   all_goals first | (exfalso; omega) | skip
   all_goals refine fin i n _ hi hil hn0 hn1 hni (by omega) hnum ?_ ?_ ?_ ?_ ?_ ?_ ?_ <;> simp (disch := first | assumption | omega) only [go_sem, reduceCtorEq, Nat.reduceEqDiff, ↓reduceIte, h0, h2, h4, h5, h7, h9, h10]
 ·have e : l.drop i = [] := List.drop_eq_nil_of_le (by omega)
  rw [e, runL] at hrun
  rw [e, numF] at hnum
  simp (disch := first | assumption | omega) only [go_sem, reduceCtorEq, Nat.reduceEqDiff, ↓reduceIte, h0, h5]
  refine fin i n _ hi hil hn0 hn1 hni (by omega) hnum ?_ ?_ ?_ ?_ ?_ ?_ ?_ <;> simp (disch := first | assumption | omega) only [go_sem, reduceCtorEq, Nat.reduceEqDiff, ↓reduceIte, h0, h2, h4, h5, h7, h9, h10]
def readR (l : List UInt8) (i : Nat) (ac : Bool) : Ref × Int :=
 if (columnP ((l.take (i + runL isL (l.drop i))).drop i)).2 = false then (.zero, 0)
 else if atP l (i + runL isL (l.drop i)) = 36 then readQ l (i + runL isL (l.drop i) + 1) (columnP ((l.take (i + runL isL (l.drop i))).drop i)).1 true ac
 else readQ l (i + runL isL (l.drop i)) (columnP ((l.take (i + runL isL (l.drop i))).drop i)).1 false ac
set_option maxHeartbeats 1000000 in
theorem read1 (l : List UInt8) (hl : l.length ≤ 9223372036854775000) (σ : ASt) (b0 b1 : Nat) (hb0 : σ b0 = none) (hb1 : σ b1 = none) (n1 : b0 ≠ b1) (i0 : Nat) (hi0 : i0 ≤ l.length) (ac : Bool) (q : Ref × Int) (hq : readR l i0 ac = q)
  (a : AFr) (h0 : a 0 = .str l) (h2 : a 2 = .ptr b0 0) (h4 : a 4 = .ptr b1 0) (h5 : a 5 = .int .i64 i0) :
  ACode.wp Tryz.prog c173_57 (RetQ [.c 2 (some 4), .t 3] fun v σ' => v = .tuple [refAV q.1, .int .i64 q.2] ∧ σ' = σ) a
   ((σ.set b0 (some (.obj [.int .i64 0, .int .i64 0, .bool false, .bool false]))).set b1 (some (.obj [.int .i64 0, .int .i64 0, .bool false, .bool ac]))) := by
 have n2 : b1 ≠ b0 := Ne.symm n1
 obtain ⟨F2, hF2⟩ : ∃ F, F = ACode.wp Tryz.prog c173_52 := ⟨_, rfl⟩
 obtain ⟨F3, hF3⟩ : ∃ F, F = ACode.wp Tryz.prog c173_53 := ⟨_, rfl⟩
 obtain ⟨F4, hF4⟩ : ∃ F, F = ACode.wp Tryz.prog c173_54 := ⟨_, rfl⟩
 obtain ⟨F5, hF5⟩ : ∃ F, F = ACode.wp Tryz.prog c173_55 := ⟨_, rfl⟩
 have fin : ∀ (i : Nat) (a : AFr), i0 ≤ i → i ≤ l.length → i0 + runL isL (l.drop i0) = i → a 0 = .str l → a 2 = .ptr b0 0 → a 4 = .ptr b1 0 → a 5 = .int .i64 i → a 6 = .int .i64 i0 →
   F5 (RetQ [.c 2 (some 4), .t 3] fun v σ' => v = .tuple [refAV q.1, .int .i64 q.2] ∧ σ' = σ) a
    ((σ.set b0 (some (.obj [.int .i64 0, .int .i64 0, .bool false, .bool false]))).set b1 (some (.obj [.int .i64 0, .int .i64 0, .bool false, .bool ac]))) := by
  intro i a hi hil hrun h0 h2 h4 h5 h6
  unfold readR at hq
  rw [hrun] at hq
  obtain ⟨C, hC⟩ : ∃ C, columnP ((l.take i).drop i0) = C := ⟨_, rfl⟩
  rw [hC] at hq
  obtain ⟨col, ok⟩ := C
  rw [hF5, c173_55_wp, wp_seq', ← hF4]
  simp (disch := first | assumption | omega) only [go_sem, Nat.reduceEqDiff, ↓reduceIte, h0, h5, h6]
  refine (column_ok ((l.take i).drop i0) (by simp; omega)).use ?_
  rw [hC]
  simp (disch := first | assumption | omega) only [go_sem, Nat.reduceEqDiff, ↓reduceIte]
  rw [hF4, c173_54_wp, wp_seq', ← hF3]
  cases ok
  ·rw [if_pos rfl] at hq
   subst hq
   simp (disch := first | assumption | omega) only [go_sem, Nat.reduceEqDiff, Nat.reduceAdd, Nat.reduceLeDiff, ↓reduceIte, Bool.true_and, h2, refAV]
   exact retC_by (by repeat' (first | exact Drop.refl _ | with_reducible refine Drop.off ?_ (by assumption))) (.refl _) ⟨rfl, rfl⟩
  ·rw [if_neg (by simp)] at hq
   simp (disch := first | assumption | omega) only [go_sem, ↓reduceIte]
   rw [hF3, c173_53_wp, wp_seq', ← hF2]
   by_cases hlt : i < l.length
   ·have hidx : l[i]? = some (l[i]'hlt) := List.getElem?_eq_getElem hlt
    obtain ⟨c, hc⟩ : ∃ c, l[i]'hlt = c := ⟨_, rfl⟩
    rw [hc] at hidx
    have hat : atP l i = c.toNat := by unfold atP; rw [hidx]
    rw [hat] at hq
    by_cases h36 : (c.toNat : Int) = 36
    ·rw [if_pos h36] at hq
     simp (disch := first | assumption | omega) only [go_sem, reduceCtorEq, Nat.reduceEqDiff, Nat.reduceAdd, Nat.reduceLeDiff, ↓reduceIte, Bool.true_and, h0, h4, h5, hidx, h36, ASt.set_set]
     rw [hF2]
     refine read2 l hl σ b0 b1 hb0 hb1 n1 (i + 1) (by omega) col true ac q hq _ ?_ ?_ ?_ ?_ ?_ <;> simp (disch := first | assumption | omega) only [go_sem, reduceCtorEq, Nat.reduceEqDiff, ↓reduceIte, h0, h2, h4]
    ·rw [if_neg h36] at hq
     simp (disch := first | assumption | omega) only [go_sem, reduceCtorEq, Nat.reduceEqDiff, ↓reduceIte, h0, h5, hidx, h36]
     rw [hF2]
     refine read2 l hl σ b0 b1 hb0 hb1 n1 i (by omega) col false ac q hq _ ?_ ?_ ?_ ?_ ?_ <;> simp (disch := first | assumption | omega) only [go_sem, reduceCtorEq, Nat.reduceEqDiff, ↓reduceIte, h0, h2, h4, h5]
   ·have hat : atP l i = 0 := by unfold atP; rw [List.getElem?_eq_none (by omega)]
    rw [hat, if_neg (by omega)] at hq
    simp (disch := first | assumption | omega) only [go_sem, reduceCtorEq, Nat.reduceEqDiff, ↓reduceIte, h0, h5]
    rw [hF2]
    refine read2 l hl σ b0 b1 hb0 hb1 n1 i (by omega) col false ac q hq _ ?_ ?_ ?_ ?_ ?_ <;> simp (disch := first | assumption | omega) only [go_sem, reduceCtorEq, Nat.reduceEqDiff, ↓reduceIte, h0, h2, h4, h5]
 rw [c173_57_wp, wp_seq']
 simp (disch := first | assumption | omega) only [go_sem, ↓reduceIte, h5]
 rw [← hF5]
 refine wp_loop_by (fun (i : Nat) a σ' => i0 ≤ i ∧ i ≤ l.length ∧ i0 + runL isL (l.drop i0) = i + runL isL (l.drop i) ∧ a 0 = .str l ∧ a 2 = .ptr b0 0 ∧ a 4 = .ptr b1 0 ∧ a 5 = .int .i64 i ∧ a 6 = .int .i64 i0 ∧
  σ' = (σ.set b0 (some (.obj [.int .i64 0, .int .i64 0, .bool false, .bool false]))).set b1 (some (.obj [.int .i64 0, .int .i64 0, .bool false, .bool ac]))) (fun i => l.length - i) i0
  (Dr.now ⟨Nat.le_refl _, hi0, rfl, ?_, ?_, ?_, ?_, ?_, rfl⟩) ?_
 ·simp (disch := first | assumption | omega) only [go_sem, reduceCtorEq, ↓reduceIte, h0]
 ·simp (disch := first | assumption | omega) only [go_sem, Nat.reduceEqDiff, ↓reduceIte, h2]
 ·simp (disch := first | assumption | omega) only [go_sem, Nat.reduceEqDiff, ↓reduceIte, h4]
 ·simp (disch := first | assumption | omega) only [go_sem, Nat.reduceEqDiff, ↓reduceIte, h5]
 ·simp (disch := first | assumption | omega) only [go_sem, ↓reduceIte]
 clear h0 h2 h4 h5
 rintro i a σ1 ⟨hi, hil, hrun, h0, h2, h4, h5, h6, rfl⟩
 by_cases hlt : i < l.length
 ·have hidx : l[i]? = some (l[i]'hlt) := List.getElem?_eq_getElem hlt
  obtain ⟨c, hc⟩ : ∃ c, l[i]'hlt = c := ⟨_, rfl⟩
  rw [hc] at hidx
  have hcb : (c.toNat : Int) ≤ 255 := by have := c.toNat_lt; omega
  rw [List.drop_eq_getElem_cons hlt, hc, runL] at hrun
  simp (disch := first | assumption | omega) only [go_sem, reduceCtorEq, Nat.reduceEqDiff, ↓reduceIte, h0, h5, hidx]
  refine (letter_ok c.toNat (by omega) hcb).use ?_
  by_cases hL : 0 < letterP c.toNat
  ·rw [if_pos (by unfold isL; simpa using hL)] at hrun
   simp (disch := first | assumption | omega) only [go_sem, Nat.reduceEqDiff, ↓reduceIte, h5, hL]
   refine ⟨i + 1, by dsimp only; omega, Dr.now ⟨by omega, by omega, by omega, ?_, ?_, ?_, ?_, ?_, rfl⟩⟩
   ·simp (disch := first | assumption | omega) only [go_sem, reduceCtorEq, ↓reduceIte, h0]
   ·simp (disch := first | assumption | omega) only [go_sem, Nat.reduceEqDiff, ↓reduceIte, h2]
   ·simp (disch := first | assumption | omega) only [go_sem, Nat.reduceEqDiff, ↓reduceIte, h4]
   ·simp (disch := first | assumption | omega) only [go_sem, ↓reduceIte]
   ·simp (disch := first | assumption | omega) only [go_sem, Nat.reduceEqDiff, ↓reduceIte, h6]
  ·rw [if_neg (by unfold isL; simpa using hL)] at hrun
   simp (disch := first | assumption | omega) only [go_sem, Nat.reduceEqDiff, ↓reduceIte, hL]
   refine fin i _ hi hil (by omega) ?_ ?_ ?_ ?_ ?_ <;> simp (disch := first | assumption | omega) only [go_sem, reduceCtorEq, Nat.reduceEqDiff, ↓reduceIte, h0, h2, h4, h5, h6]
 ·have e : l.drop i = [] := List.drop_eq_nil_of_le (by omega)
  rw [e, runL] at hrun
  simp (disch := first | assumption | omega) only [go_sem, reduceCtorEq, Nat.reduceEqDiff, ↓reduceIte, h0, h5]
  refine fin i _ hi hil (by omega) ?_ ?_ ?_ ?_ ?_ <;> simp (disch := first | assumption | omega) only [go_sem, reduceCtorEq, Nat.reduceEqDiff, ↓reduceIte, h0, h2, h4, h5, h6]
def readP (l : List UInt8) : Ref × Int := if atP l 0 = 36 then readR l 1 true else readR l 0 false
theorem read_ok (l : List UInt8) (hl : l.length ≤ 9223372036854775000) : Pure Tryz.prog 173 [.str l] (.tuple [refAV (readP l).1, .int .i64 (readP l).2]) := by
 intro σ
 obtain ⟨q, hq⟩ : ∃ q, readP l = q := ⟨_, rfl⟩
 rw [hq]
 unfold readP at hq
 refine a173 (by simp) ?_
 obtain ⟨F, hF⟩ : ∃ F, F = ACode.wp Tryz.prog c173_57 := ⟨_, rfl⟩
 obtain ⟨F8, hF8⟩ : ∃ F, F = ACode.wp Tryz.prog c173_58 := ⟨_, rfl⟩
 obtain ⟨F9, hF9⟩ : ∃ F, F = ACode.wp Tryz.prog c173_59 := ⟨_, rfl⟩
 obtain ⟨F0, hF0⟩ : ∃ F, F = ACode.wp Tryz.prog c173_60 := ⟨_, rfl⟩
 rw [c173_61_wp, wp_seq', ← hF0]
 simp (disch := first | assumption | omega) only [go_sem]
 refine allocC_by fun b0 hb0 => ?_
 simp (disch := first | assumption | omega) only [go_sem]
 rw [hF0, c173_60_wp, wp_seq', ← hF9]
 simp (disch := first | assumption | omega) only [go_sem]
 refine allocC_by fun b1 hb1 => ?_
 obtain ⟨n1, n2, hb3⟩ := set_none hb1
 simp (disch := first | assumption | omega) only [go_sem]
 rw [hF9, c173_59_wp, wp_seq', ← hF8]
 simp (disch := first | assumption | omega) only [go_sem]
 rw [hF8, c173_58_wp, wp_seq', ← hF]
 by_cases hlt : 0 < l.length
 ·have hidx : l[0]? = some (l[0]'hlt) := List.getElem?_eq_getElem hlt
  obtain ⟨c, hc⟩ : ∃ c, l[0]'hlt = c := ⟨_, rfl⟩
  rw [hc] at hidx
  have hat : atP l 0 = c.toNat := by unfold atP; rw [hidx]
  have hlt' : (0 : Int) < l.length := by omega
  rw [hat] at hq
  by_cases h36 : (c.toNat : Int) = 36
  ·rw [if_pos h36] at hq
   simp (disch := first | assumption | omega) only [go_sem, reduceCtorEq, Nat.reduceEqDiff, Nat.reduceAdd, Nat.reduceLeDiff, ↓reduceIte, Int.reduceAdd, Bool.true_and, hlt', hidx, h36, ASt.set_set]
   rw [hF]
   refine read1 l hl σ b0 b1 hb0 hb3 n2 1 (by omega) true q hq _ ?_ ?_ ?_ ?_ <;> simp (disch := first | assumption | omega) only [go_sem, reduceCtorEq, Nat.reduceEqDiff, ↓reduceIte]
  ·rw [if_neg h36] at hq
   simp (disch := first | assumption | omega) only [go_sem, reduceCtorEq, Nat.reduceEqDiff, ↓reduceIte, hlt', hidx, h36]
   rw [hF]
   refine read1 l hl σ b0 b1 hb0 hb3 n2 0 (by omega) false q hq _ ?_ ?_ ?_ ?_ <;> simp (disch := first | assumption | omega) only [go_sem, reduceCtorEq, Nat.reduceEqDiff, ↓reduceIte]
 ·have hat : atP l 0 = 0 := by unfold atP; rw [List.getElem?_eq_none (by omega)]
  have hlt' : ¬ (0 : Int) < l.length := by omega
  rw [hat, if_neg (by omega)] at hq
  simp (disch := first | assumption | omega) only [go_sem, reduceCtorEq, Nat.reduceEqDiff, ↓reduceIte, hlt']
  rw [hF]
  refine read1 l hl σ b0 b1 hb0 hb3 n2 0 (by omega) false q hq _ ?_ ?_ ?_ ?_ <;> simp (disch := first | assumption | omega) only [go_sem, reduceCtorEq, Nat.reduceEqDiff, ↓reduceIte]
end Go.A
namespace Go.A
open Go.Proofs
/-! 155: tabular/addr.Parse -/
def c155_11 : ACode := .seq (.ops [ oe 2 (.alloc [(.int .i64 0), (.int .i64 0), (.bool false), (.bool false)]), oq 3 (.mv (.v (.bool false)))]) (.seq (.ops [ oq 7 (.mv (.t 0)), oe 8 (.call 173 [(.t 7)]), oq 6 (.mv (.t 8)), oq 9 (.ext 0 (.t 6)), oq 10 (.ext 1 (.t 6)), oe 4 (.alloc [(.int .i64 0), (.int .i64 0), (.bool false), (.bool false)]), oz (.store 4 (.t 4) (.t 9)), oq 5 (.mv (.t 10))]) (.seq (.seq (.ops [ oq 11 (.mv (.t 5)), oq 12 (.bin .eql (.t 11) (.v (.int .i64 0))), oq 13 (.mv (.t 12)), ⟨some 14, some (13, false), .q (.mv (.t 5)), []⟩, ⟨some 15, some (13, false), .q (.mv (.t 0)), []⟩, ⟨some 16, some (13, false), .q (.lenS (.t 15)), []⟩, ⟨some 17, some (13, false), .q (.bin .lss (.t 14) (.t 16)), []⟩, oq 18 (.pick (.t 13) (.v (.bool true)) (.t 17))]) (.cond (.t 18) (.seq (.ops [ oq 19 (.build [(.int .i64 0), (.int .i64 0), (.bool false), (.bool false)] []), oz (.store 4 (.t 2) (.t 19)), oq 3 (.mv (.v (.bool false)))]) .ret) .skip)) (.seq (.ops [ oq 20 (.ld (some 4) (.t 4)), oz (.store 4 (.t 2) (.t 20)), oq 3 (.mv (.v (.bool true)))]) .ret)))
@[go_sem] def c155_11_wp := wp_of c155_11.eq_1
def c155 : AFn := ⟨21, [.c 2 (some 4), .t 3], c155_11⟩
theorem c155_ok : compF Tryz.prog Tryz.f155 = some c155 := by kernel_rfl
theorem a155 {args : List AV} {σ : ASt} {R : AV → ASt → Prop} (hl : args.length ≤ 21) (h : c155_11.wp Tryz.prog (RetQ [.c 2 (some 4), .t 3] R) (init args) σ) : ACalls Tryz.prog 155 args σ R := acalls_of Tryz.func155 c155_ok hl h
end Go.A
namespace Go.A
open Go.Proofs
def parseP (l : List UInt8) : Ref × Bool := if (readP l).2 = 0 ∨ (readP l).2 < l.length then (.zero, false) else ((readP l).1, true)
theorem parse_ok (l : List UInt8) (hl : l.length ≤ 9223372036854775000) : Pure Tryz.prog 155 [.str l] (.tuple [refAV (parseP l).1, .bool (parseP l).2]) := by
 intro σ
 obtain ⟨q, hq⟩ : ∃ q, parseP l = q := ⟨_, rfl⟩
 rw [hq]
 unfold parseP at hq
 obtain ⟨R, hR⟩ : ∃ R, readP l = R := ⟨_, rfl⟩
 rw [hR] at hq
 obtain ⟨⟨row, col, ar, ac⟩, n⟩ := R
 dsimp only at hq
 refine a155 (by simp) ?_
 simp (disch := first | assumption | omega) only [go_sem]
 refine allocC_by fun b0 hb0 => ?_
 simp (disch := first | assumption | omega) only [go_sem, reduceCtorEq, ↓reduceIte]
 refine (read_ok l hl).use ?_
 rw [hR]
 simp (disch := first | assumption | omega) only [go_sem, Nat.reduceEqDiff, ↓reduceIte, refAV]
 refine allocC_by fun b1 hb1 => ?_
 obtain ⟨n1, n2, hb3⟩ := set_none hb1
 repeat' (first | (simp (disch := first | assumption | omega) only [go_sem, reduceCtorEq, Nat.reduceEqDiff, Nat.reduceAdd, Nat.reduceLeDiff, ↓reduceIte, Bool.true_and]) | with_reducible refine gC_d (fun h => ?_) (fun h => ?_) | with_reducible refine gC_dn (fun h => ?_) (fun h => ?_) | with_reducible refine condC_d (fun h => ?_) (fun h => ?_) | with_reducible refine condC_n (fun h => ?_) (fun h => ?_) | with_reducible refine condC_b (fun h => ?_) (fun h => ?_) | with_reducible refine boxC_by ?_ fun b hb => ?_)
 all_goals first
  | (rw [if_pos (by omega)] at hq
     subst hq
     exact retC_by (by repeat' (first | exact Drop.refl _ | with_reducible refine Drop.off ?_ (by assumption))) (.refl _) ⟨rfl, rfl⟩)
  | (rw [if_neg (by omega)] at hq
     subst hq
     exact retC_by (by repeat' (first | exact Drop.refl _ | with_reducible refine Drop.off ?_ (by assumption))) (.refl _) ⟨rfl, rfl⟩)
def areaAV (a b : Ref) : AV := .agg [.int .i64 a.row, .int .i64 a.col, .bool a.absRow, .bool a.absCol, .int .i64 b.row, .int .i64 b.col, .bool b.absRow, .bool b.absCol]
def Ref.near (r : Ref) : Prop := -4000000 ≤ r.row ∧ r.row ≤ 4000000 ∧ -4000000 ≤ r.col ∧ r.col ≤ 4000000
end Go.A
namespace Go.A
open Go.Proofs
theorem lettersF_len : ∀ k n, (lettersF k n).length ≤ k
 | 0, n => Nat.le_refl _
 | k + 1, n => by
   unfold lettersF
   split
   ·exact Nat.zero_le _
   ·have := lettersF_len k ((n - 1) / 26)
    simp; omega
theorem letters_len (c : Int) : (lettersP c).length ≤ 4 := by
 unfold lettersP
 split
 ·exact Nat.zero_le _
 ·exact lettersF_len _ _
end Go.A
namespace Go.A
open Go.Proofs
def digF : Nat → Nat → List UInt8
 | 0, _ => []
 | k + 1, n => if n < 10 then [UInt8.ofNat (48 + n)] else digF k (n / 10) ++ [UInt8.ofNat (48 + n % 10)]
theorem digF_eq : ∀ (k n : Nat), n < 10 ^ (k + 1) → Lib.decDigits n = digF (k + 1) n
 | 0, n, h => by
   rw [Lib.decDigits, dif_pos (by omega)]
   unfold digF
   rw [if_pos (by omega)]
 | k + 1, n, h => by
   rw [Lib.decDigits]
   unfold digF
   by_cases h1 : n < 10
   ·rw [dif_pos h1, if_pos h1]
   ·rw [dif_neg h1, if_neg h1, digF_eq k (n / 10) (by rw [Nat.pow_succ] at h; omega)]
def numT (row : Int) : List UInt8 := digF 4 (row + 1).toNat
theorem itoa_num {row : Int} (h0 : 0 ≤ row) (h1 : row < 3000) : Lib.itoa (row + 1) = numT row := by
 unfold Lib.itoa numT
 rw [if_neg (by omega), digF_eq 3 _ (by omega)]
theorem num_all : (List.range 3000).all (fun i => decide (numF 0 (numT i) = (i : Int) + 1) && (numT i).all isD && decide (1 ≤ (numT i).length) && decide ((numT i).length ≤ 4) && decide (atP (numT i) 0 ≠ 48)) = true := by decide +kernel
theorem num_facts {row : Int} (h0 : 0 ≤ row) (h1 : row < 3000) : numF 0 (numT row) = row + 1 ∧ (∀ c ∈ numT row, isD c = true) ∧ 1 ≤ (numT row).length ∧ (numT row).length ≤ 4 ∧ atP (numT row) 0 ≠ 48 := by
 obtain ⟨i, rfl⟩ : ∃ i : Nat, row = i := ⟨row.toNat, by omega⟩
 have := List.all_eq_true.1 num_all i (List.mem_range.2 (by omega))
 simpa [and_assoc] using this
theorem let_all : (List.range 700).all (fun i => (lettersP i).all isL && decide (1 ≤ (lettersP i).length)) = true := by decide +kernel
theorem let_facts {col : Int} (h0 : 0 ≤ col) (h1 : col < 700) : (∀ c ∈ lettersP col, isL c = true) ∧ 1 ≤ (lettersP col).length := by
 obtain ⟨i, rfl⟩ : ∃ i : Nat, col = i := ⟨col.toNat, by omega⟩
 have := List.all_eq_true.1 let_all i (List.mem_range.2 (by omega))
 simpa using this
def dolP (b : Bool) : List UInt8 := if b then [36] else []
def textP (r : Ref) : List UInt8 := dolP r.absCol ++ lettersP r.col ++ dolP r.absRow ++ numT r.row
def Behind (x : List UInt8) : Prop := x = [] ∨ ∃ y, x = 58 :: y
theorem text_len {r : Ref} (hg : r.good = true) : 2 ≤ (textP r).length ∧ (textP r).length ≤ 10 := by
 simp only [Ref.good, decide_eq_true_eq] at hg
 obtain ⟨g1, g2, g3, g4⟩ := hg
 obtain ⟨l1, l2⟩ := let_facts g3 g4
 obtain ⟨n1, n2, n3, n4, n5⟩ := num_facts g1 g2
 have := letters_len r.col
 unfold textP dolP
 simp only [List.length_append]
 constructor
 ·omega
 ·split <;> split <;> simp <;> omega
end Go.A
namespace Go.A
open Go.Proofs
/-! 8: tabular/tabularlaw01.Cut -/
def c8_9 : ACode := .seq (.ops [ oq 4 (.mv (.v (.str [])))]) (.seq (.seq (.ops [ oq 5 (.mv (.t 0)), oq 6 (.lenS (.t 5)), oq 7 (.mv (.t 1)), oq 8 (.bin .gtr (.t 6) (.t 7))]) (.cond (.t 8) (.seq (.ops [ oq 9 (.mv (.t 0)), oq 10 (.mv (.t 1)), oq 11 (.slto (true, 0) (.t 9) (.t 10)), oq 4 (.mv (.t 11))]) .ret) .skip)) (.seq (.ops [ oq 12 (.mv (.t 0)), oq 4 (.mv (.t 12))]) .ret))
@[go_sem] def c8_9_wp := wp_of c8_9.eq_1
def c8 : AFn := ⟨13, [.t 4], c8_9⟩
theorem c8_ok : compF Tryz.prog Tryz.f8 = some c8 := by kernel_rfl
theorem a8 {args : List AV} {σ : ASt} {R : AV → ASt → Prop} (hl : args.length ≤ 13) (h : c8_9.wp Tryz.prog (RetQ [.t 4] R) (init args) σ) : ACalls Tryz.prog 8 args σ R := acalls_of Tryz.func8 c8_ok hl h
end Go.A
namespace Go.A
open Go.Proofs
theorem cut_ok (l : List UInt8) (n : Nat) : Pure Tryz.prog 8 [.str l, .int .i64 n] (.str (l.take n)) := by
 intro σ
 refine a8 (by simp) ?_
 by_cases h : n < l.length
 ·have h' : (n : Int) < l.length := by omega
  simp (disch := first | assumption | omega) only [go_sem, reduceCtorEq, Nat.reduceEqDiff, ↓reduceIte, h']
  exact retC_by (by repeat' (first | exact Drop.refl _ | with_reducible refine Drop.off ?_ (by assumption))) (.refl _) ⟨rfl, rfl⟩
 ·have h' : ¬ (n : Int) < l.length := by omega
  simp (disch := first | assumption | omega) only [go_sem, reduceCtorEq, Nat.reduceEqDiff, ↓reduceIte, h']
  exact retC_by (by repeat' (first | exact Drop.refl _ | with_reducible refine Drop.off ?_ (by assumption))) (.refl _) ⟨by rw [List.take_of_length_le (by omega)]; rfl, rfl⟩
def greatC (c : UInt8) : UInt8 := if 97 ≤ c.toNat ∧ c.toNat ≤ 122 then UInt8.ofNat (c.toNat - 32) else c
def greatP (l : List UInt8) : List UInt8 := l.map greatC
end Go.A
namespace Go.A
open Go.Proofs Go.Lib
def signsN (l : List UInt8) : Nat := runeCount ⟨⟨l⟩⟩
theorem signsN_le (l : List UInt8) : signsN l ≤ l.length := runeCount_le ⟨⟨l⟩⟩
def wordB (c : UInt8) : Bool := decide ((48 ≤ c.toNat ∧ c.toNat ≤ 57) ∨ (97 ≤ c.toNat ∧ c.toNat ≤ 122) ∨ (65 ≤ c.toNat ∧ c.toNat ≤ 90) ∨ c.toNat = 95 ∨ c.toNat = 36 ∨ c.toNat = 46)
def digB (c : UInt8) : Bool := decide (48 ≤ c.toNat ∧ c.toNat ≤ 57)
def nameB (s : List UInt8) : Bool := decide (s ≠ []) && s.all (fun c => wordB c && decide (c.toNat ≠ 36)) && !((s.head?.map fun c => digB c || decide (c.toNat = 46)).getD false)
def cutDot : List UInt8 → List UInt8 × Option (List UInt8)
 | [] => ([], none)
 | c :: r => if c.toNat = 46 then ([], some r) else (c :: (cutDot r).1, (cutDot r).2)
def numB (s : List UInt8) : Bool :=
 match cutDot s with
 | (w, none) => decide (w ≠ []) && w.all digB
 | (w, some p) => decide (w ≠ []) && decide (p ≠ []) && decide (p.length ≤ 4) && (w ++ p).all digB
def refB (s : List UInt8) : Bool := (parseP s).2
inductive Step where
 | bad (k : Nat)
 | blank
 | tok (kind : Int) (text : List UInt8) (n : Nat)
 deriving DecidableEq
def wordsS (r : List UInt8) : Step :=
 let n := runL wordB r
 let w := r.take n
 if numB w then .tok 1 w n else if refB w then .tok 4 (greatP w) n else if nameB w then .tok 3 (greatP w) n else .bad 0
def quotedF : Nat → List UInt8 → Nat → List UInt8 → Step
 | 0, _, _, _ => .bad 0
 | k + 1, r, p, acc =>
   if r = [] then .bad 0
   else if decodeL r = (65533, 1) then .bad (1 + p)
   else if (decodeL r).1 ≠ 34 then quotedF k (r.drop (decodeL r).2) (p + (decodeL r).2) (acc ++ encodeRune ((decodeL r).1 : Int))
   else if r[1]? = some 34 then quotedF k (r.drop 2) (p + 2) (acc ++ [34])
   else .tok 2 acc (p + 2)
def errTexts : List (List UInt8) := [[35, 68, 73, 86, 47, 48, 33], [35, 78, 85, 77, 33], [35, 86, 65, 76, 85, 69, 33], [35, 82, 69, 70, 33], [35, 78, 47, 65], [35, 78, 65, 77, 69, 63], [35, 67, 89, 67, 76, 69, 33]]
def failS (r : List UInt8) : List (List UInt8) → Step
 | [] => .bad 0
 | e :: es => if e.length ≤ r.length ∧ greatP (r.take e.length) = e then .tok 5 e e.length else failS r es
def alikeP (c : Int) : List UInt8 :=
 if c = 8804 then [60, 61] else if c = 8805 then [62, 61] else if c = 8800 then [60, 62] else if c = 215 then [42] else if c = 247 then [47] else if c = 8722 then [45] else []
def twos : List (List UInt8) := [[60, 61], [62, 61], [60, 62]]
def twoS (r : List UInt8) : List (List UInt8) → Option (List UInt8)
 | [] => none
 | e :: es => if e.isPrefixOf r then some e else twoS r es
def opChars : List UInt8 := [43, 45, 42, 47, 94, 38, 61, 60, 62, 37, 40, 41, 58, 44]
def opS (c : Int) (n : Nat) (r : List UInt8) : Step :=
 if alikeP c ≠ [] then .tok 6 (alikeP c) n
 else match twoS r twos with
  | some e => .tok 6 e 2
  | none => if (r.headD 0) ∈ opChars then .tok 6 (r.take 1) 1 else .bad 0
def stepP (r : List UInt8) : Step :=
 let c := (decodeL r).1
 if decodeL r = (65533, 1) then .bad 0
 else if c = 32 ∨ c = 9 ∨ c = 10 then .blank
 else if c < 128 ∧ wordB (UInt8.ofNat c) = true then wordsS r
 else if c = 34 then quotedF (r.length) (r.drop 1) 0 []
 else if c = 35 then failS r errTexts
 else opS c (decodeL r).2 r
structure Tok where
 kind : Int
 text : List UInt8
 at' : Nat
 col : Nat
 deriving DecidableEq
def lexF : Nat → List UInt8 → Nat → Nat → List Tok → List Tok × Nat × Int
 | 0, _, a, _, acc => ([], a, 10)
 | k + 1, r, a, c, acc =>
   if r = [] then (acc ++ [⟨0, [], a, c⟩], 0, 0)
   else match stepP r with
    | .bad j => ([], a + j, 10)
    | .blank => lexF k (r.drop 1) (a + 1) (c + 1) acc
    | .tok kind t n => lexF k (r.drop n) (a + n) (c + signsN (r.take n)) (acc ++ [⟨kind, t, a, c⟩])
def lexP (s : List UInt8) : List Tok × Nat × Int := if 2000 < s.length then ([], 0, 11) else lexF (s.length + 1) s 0 0 []
def sgF : Nat → List UInt8 → Option Nat
 | 0, _ => none
 | k + 1, r => if r = [] then some 0 else if decodeL r = (65533, 1) then none else (sgF k (r.drop (decodeL r).2)).map (· + 1)
def tokAV (t : Tok) : AV := .agg [.int .i64 t.kind, .str t.text, .int .i64 t.at', .int .i64 t.col]
end Go.A
namespace Go.A
inductive Nd where
 | mk (op n : Int) (s : List UInt8) (a b : Ref) (kids : List Nd)
instance : Inhabited Nd := ⟨.mk 0 0 [] .zero .zero []⟩
def Nd.op : Nd → Int | .mk op _ _ _ _ _ => op
mutual
def Nd.av : Nd → AV
 | .mk op n s a b kids => .agg [.int .i64 op, .int .i64 n, .str s, .int .i64 a.row, .int .i64 a.col, .bool a.absRow, .bool a.absCol, .int .i64 b.row, .int .i64 b.col, .bool b.absRow, .bool b.absCol, .sl .shr (Nd.avs kids)]
def Nd.avs : List Nd → List AV
 | [] => []
 | x :: xs => x.av :: Nd.avs xs
end
theorem Nd.avs_map : ∀ l : List Nd, Nd.avs l = l.map Nd.av
 | [] => rfl
 | x :: xs => by rw [Nd.avs, Nd.avs_map xs]; rfl
theorem Nd.av_eq (op n : Int) (s : List UInt8) (a b : Ref) (kids : List Nd) : (Nd.mk op n s a b kids).av = .agg [.int .i64 op, .int .i64 n, .str s, .int .i64 a.row, .int .i64 a.col, .bool a.absRow, .bool a.absCol, .int .i64 b.row, .int .i64 b.col, .bool b.absRow, .bool b.absCol, .sl .shr (kids.map Nd.av)] := by
 rw [Nd.av, Nd.avs_map]
def Nd.cs (op n : Int) (s : List UInt8) (a b : Ref) (L : List AV) : List AV := [.int .i64 op, .int .i64 n, .str s, .int .i64 a.row, .int .i64 a.col, .bool a.absRow, .bool a.absCol, .int .i64 b.row, .int .i64 b.col, .bool b.absRow, .bool b.absCol, .sl .shr L]
theorem Nd.av_cs (op n : Int) (s : List UInt8) (a b : Ref) (kids : List Nd) : (Nd.mk op n s a b kids).av = .agg (Nd.cs op n s a b (kids.map Nd.av)) := Nd.av_eq ..
section
variable {op n : Int} {s : List UInt8} {a b : Ref} {L : List AV}
@[go_sem] theorem cs_0 : (Nd.cs op n s a b L)[0]? = some (.int .i64 op) := id rfl
@[go_sem] theorem cs_1 : (Nd.cs op n s a b L)[1]? = some (.int .i64 n) := id rfl
@[go_sem] theorem cs_2 : (Nd.cs op n s a b L)[2]? = some (.str s) := id rfl
@[go_sem] theorem cs_11 : (Nd.cs op n s a b L)[11]? = some (.sl .shr L) := id rfl
@[go_sem] theorem cs_len : (Nd.cs op n s a b L).length = 12 := id rfl
@[go_sem] theorem cs_leaves : leaves (Nd.cs op n s a b L) = true := id rfl
@[go_sem] theorem cs_take : (Nd.cs op n s a b L).take 12 = Nd.cs op n s a b L := id rfl
@[go_sem] theorem cs_ta : ((Nd.cs op n s a b L).drop 3).take 4 = [.int .i64 a.row, .int .i64 a.col, .bool a.absRow, .bool a.absCol] := id rfl
@[go_sem] theorem cs_tb : ((Nd.cs op n s a b L).drop 7).take 4 = [.int .i64 b.row, .int .i64 b.col, .bool b.absRow, .bool b.absCol] := id rfl
end
theorem Nd.av_any (n : Nd) : n.av.isAny = false := by cases n; rfl
theorem Nd.av_len (n : Nd) : n.av.cells.length = 12 := by cases n; rfl
theorem Nd.av_leaves (n : Nd) : leaves n.av.cells = true := by cases n; rfl
theorem Nd.well (l : List Nd) : wellSz 12 (l.map Nd.av) = true := wellSz_map (fun x => ⟨x.av_any, x.av_len⟩) l
theorem Nd.leafs (l : List Nd) : leaves ((l.map Nd.av).flatMap AV.cells) = true := leaves_map (fun x => x.av_leaves) l
theorem Nd.get {l : List Nd} {i : Nat} {x : Nd} (h : l[i]? = some x) : (l.map Nd.av)[i]? = some x.av := by rw [List.getElem?_map, h]; rfl
mutual
theorem Nd.deep : ∀ n : Nd, Go.A.deep n.av = n.av
 | .mk op n s a b kids => by
   rw [Nd.av, Go.A.deep]
   simp only [Go.A.deeps, Go.A.deep, Nd.deeps kids]
theorem Nd.deeps : ∀ l : List Nd, Go.A.deeps (Nd.avs l) = Nd.avs l
 | [] => rfl
 | x :: xs => by rw [Nd.avs, Go.A.deeps, Nd.deep x, Nd.deeps xs]
end
mutual
def Nd.size : Nd → Nat
 | .mk _ _ _ _ _ kids => 1 + Nd.sizes kids
def Nd.sizes : List Nd → Nat
 | [] => 0
 | x :: xs => x.size + Nd.sizes xs
end
theorem Nd.size_kid : ∀ {l : List Nd} {x : Nd}, x ∈ l → x.size ≤ Nd.sizes l
 | [], _, h => by cases h
 | y :: l, x, h => by
   rw [Nd.sizes]
   rcases List.mem_cons.1 h with rfl | h
   ·omega
   ·have := Nd.size_kid h; omega
theorem Nd.size_pos (n : Nd) : 0 < n.size := by cases n; rw [Nd.size]; omega
def levelP (op : Int) : Int :=
 if op = 7 ∨ op = 8 then 6 else if op = 9 then 7 else if op < 10 ∨ 22 ≤ op then 8
 else if op ≤ 11 then 3 else if op ≤ 13 then 4 else if op = 14 then 5 else if op = 15 then 2 else 1
def signL : List (List UInt8) := [[43], [45], [42], [47], [94], [38], [61], [60, 62], [60], [60, 61], [62], [62, 61]]
def errL : List (List UInt8) := [[35, 68, 73, 86, 47, 48, 33], [35, 78, 85, 77, 33], [35, 86, 65, 76, 85, 69, 33], [35, 82, 69, 70, 33], [35, 78, 47, 65], [35, 78, 65, 77, 69, 63], [35, 67, 89, 67, 76, 69, 33]]
def failT (op n : Int) : List UInt8 := if op ≠ 4 ∨ n.tdiv 10000 < 1 ∨ 7 < n.tdiv 10000 then [] else errL.getD (n.tdiv 10000 - 1).toNat []
def truthP (b : Bool) : List UInt8 := if b = true then [84, 82, 85, 69] else [70, 65, 76, 83, 69]
def quotT (s : List UInt8) : List UInt8 := 34 :: (s.flatMap fun c => if c = 34 then [34, 34] else [c]) ++ [34]
def insT (least : Int) (op : Int) (t : List UInt8) : List UInt8 := if least ≤ levelP op then t else 40 :: t ++ [41]
def joinC : List (Int × List UInt8) → List UInt8
 | [] => []
 | p :: r => p.2 ++ r.flatMap fun q => 44 :: q.2
def spellK (op n : Int) (s : List UInt8) (a b : Ref) (ks : List (Int × List UInt8)) : List UInt8 :=
 if op = 1 then textD n else if op = 2 then quotT s else if op = 3 then truthP (!decide (n = 0)) else if op = 4 then failT op n else if op = 5 then textP a else if op = 6 then textP a ++ [58] ++ textP b
 else if op = 7 ∨ op = 8 then (if op = 7 then 45 else 43) :: insT 6 (ks.getD 0 (0, [])).1 (ks.getD 0 (0, [])).2
 else if op = 9 then insT 7 (ks.getD 0 (0, [])).1 (ks.getD 0 (0, [])).2 ++ [37]
 else if op = 22 then s ++ 40 :: joinC ks ++ [41]
 else if op = 23 then []
 else insT (levelP op) (ks.getD 0 (0, [])).1 (ks.getD 0 (0, [])).2 ++ signL.getD (op - 10).toNat [] ++ insT (levelP op + 1) (ks.getD 1 (0, [])).1 (ks.getD 1 (0, [])).2
mutual
def Nd.spell : Nd → List UInt8
 | .mk op n s a b kids => spellK op n s a b (Nd.spells kids)
def Nd.spells : List Nd → List (Int × List UInt8)
 | [] => []
 | x :: xs => (x.op, x.spell) :: Nd.spells xs
end
theorem Nd.spells_map : ∀ l : List Nd, Nd.spells l = l.map fun x => (x.op, x.spell)
 | [] => rfl
 | x :: xs => by rw [Nd.spells, Nd.spells_map xs]; rfl
def nodeOk (op n : Int) (s : List UInt8) (a b : Ref) (k : Nat) : Prop :=
 (1 ≤ op ∧ op ≤ 23) ∧ (op = 1 → n.natAbs ≤ 999999999999999999) ∧ (op = 2 → s.length ≤ 100000) ∧ (op = 4 → 1 ≤ n.tdiv 10000 ∧ n.tdiv 10000 ≤ 7) ∧ (op = 22 → s ≠ []) ∧ (op = 5 ∨ op = 6 → a.good = true) ∧ (op = 6 → b.good = true) ∧ (op = 7 ∨ op = 8 ∨ op = 9 → 1 ≤ k) ∧ (10 ≤ op ∧ op ≤ 21 → 2 ≤ k) ∧ k ≤ 1000000
mutual
def Nd.ok : Nd → Prop
 | .mk op n s a b kids => nodeOk op n s a b kids.length ∧ Nd.oks kids
def Nd.oks : List Nd → Prop
 | [] => True
 | x :: xs => x.ok ∧ Nd.oks xs
end
theorem Nd.oks_mem : ∀ {l : List Nd}, Nd.oks l ↔ ∀ x ∈ l, x.ok
 | [] => by simp [Nd.oks]
 | y :: l => by rw [Nd.oks, Nd.oks_mem (l := l)]; simp
end Go.A
namespace Go.Proofs
open Go.Shelf
def Tryz.lays169_ren : Go.Shelf.Ren := ⟨fun | 169 => 49 | n => n, fun | 70 => 98 | 9 => 9 | 0 => 0 | 72 => 100 | 37 => 55 | 127 => 149 | 3 => 3 | 5 => 5 | n => n, fun | n => n⟩
theorem Tryz.lays169 : Go.Proofs.Lays.n169 Tryz.prog Tryz.lays169_ren := {
 mixed := by kernel_rfl
 f169 := Tryz.func49.trans (congrArg some (by kernel_rfl))
 t0 := Tryz.underlying0
 a0 := Tryz.isAgg0
 z0 := Tryz.sizeOf0
 v0 := Tryz.zeroValue0
 t3 := Tryz.underlying3
 a3 := Tryz.isAgg3
 z3 := Tryz.sizeOf3
 v3 := Tryz.zeroValue3
 t9 := Tryz.underlying9
 a9 := Tryz.isAgg9
 z9 := Tryz.sizeOf9
 v9 := Tryz.zeroValue9
 t37 := Tryz.underlying55
 a37 := Tryz.isAgg55
 z37 := Tryz.sizeOf55
 v37 := Tryz.zeroValue55
 t70 := Tryz.underlying98
 a70 := Tryz.isAgg98
 z70 := Tryz.sizeOf98
 v70 := Tryz.zeroValue98
 t72 := Tryz.underlying100
 a72 := Tryz.isAgg100
 z72 := Tryz.sizeOf100
 v72 := Tryz.zeroValue100
 t127 := Tryz.underlying149
 a127 := Tryz.isAgg149
 z127 := Tryz.sizeOf149
 v127 := Tryz.zeroValue149 }
theorem Tryz.Builder_Extra_169 : Builder.Extra Tryz.prog Tryz.lays169_ren := {
 sizeBuilder := by kernel_rfl
 liesBuilder := by kernel_rfl
 t5 := Tryz.underlying5
 a5 := Tryz.isAgg5
 z5 := Tryz.sizeOf5
 v5 := Tryz.zeroValue5
 infoByte := by kernel_rfl
 cellsByte := by kernel_rfl
 sizeByte := by kernel_rfl
 neB5 := by decide }
def Tryz.lays162_ren : Go.Shelf.Ren := ⟨fun | 162 => 116 | 232 => 143 | 227 => 144 | 234 => 145 | 236 => 146 | 228 => 165 | 271 => 166 | 151 => 167 | 120 => 182 | 197 => 126 | 152 => 183 | 260 => 149 | 137 => 191 | 119 => 192 | 224 => 152 | 225 => 151 | 217 => 150 | 266 => 171 | n => n, fun | 9 => 9 | 4 => 4 | 3 => 3 | 5 => 5 | 117 => 183 | 116 => 182 | 0 => 0 | 124 => 186 | 21 => 21 | 105 => 159 | 46 => 150 | 119 => 200 | 139 => 203 | 138 => 202 | n => n, fun | 3 => 3 | 4 => 4 | n => n⟩
theorem Tryz.lays162 : Go.Proofs.Lays.n162 Tryz.prog Tryz.lays162_ren := {
 mixed := by kernel_rfl
 f119 := Tryz.func192.trans (congrArg some (by kernel_rfl))
 f120 := Tryz.func182.trans (congrArg some (by kernel_rfl))
 f137 := Tryz.func191.trans (congrArg some (by kernel_rfl))
 f151 := Tryz.func167.trans (congrArg some (by kernel_rfl))
 f152 := Tryz.func183.trans (congrArg some (by kernel_rfl))
 f162 := Tryz.func116.trans (congrArg some (by kernel_rfl))
 f197 := Tryz.func126.trans (congrArg some (by kernel_rfl))
 f217 := Tryz.func150.trans (congrArg some (by kernel_rfl))
 f224 := Tryz.func152.trans (congrArg some (by kernel_rfl))
 f225 := Tryz.func151.trans (congrArg some (by kernel_rfl))
 f227 := Tryz.func144.trans (congrArg some (by kernel_rfl))
 f228 := Tryz.func165.trans (congrArg some (by kernel_rfl))
 f232 := Tryz.func143.trans (congrArg some (by kernel_rfl))
 f234 := Tryz.func145.trans (congrArg some (by kernel_rfl))
 f236 := Tryz.func146.trans (congrArg some (by kernel_rfl))
 f260 := Tryz.func149.trans (congrArg some (by kernel_rfl))
 f266 := Tryz.func171.trans (congrArg some (by kernel_rfl))
 f271 := Tryz.func166.trans (congrArg some (by kernel_rfl))
 t0 := Tryz.underlying0
 a0 := Tryz.isAgg0
 z0 := Tryz.sizeOf0
 v0 := Tryz.zeroValue0
 t3 := Tryz.underlying3
 a3 := Tryz.isAgg3
 z3 := Tryz.sizeOf3
 v3 := Tryz.zeroValue3
 t4 := Tryz.underlying4
 a4 := Tryz.isAgg4
 z4 := Tryz.sizeOf4
 v4 := Tryz.zeroValue4
 t5 := Tryz.underlying5
 a5 := Tryz.isAgg5
 z5 := Tryz.sizeOf5
 v5 := Tryz.zeroValue5
 t9 := Tryz.underlying9
 a9 := Tryz.isAgg9
 z9 := Tryz.sizeOf9
 v9 := Tryz.zeroValue9
 t21 := Tryz.underlying21
 a21 := Tryz.isAgg21
 z21 := Tryz.sizeOf21
 v21 := Tryz.zeroValue21
 t46 := Tryz.underlying150
 a46 := Tryz.isAgg150
 z46 := Tryz.sizeOf150
 v46 := Tryz.zeroValue150
 t105 := Tryz.underlying159
 a105 := Tryz.isAgg159
 z105 := Tryz.sizeOf159
 v105 := Tryz.zeroValue159
 t116 := Tryz.underlying182
 a116 := Tryz.isAgg182
 z116 := Tryz.sizeOf182
 t117 := Tryz.underlying183
 a117 := Tryz.isAgg183
 z117 := Tryz.sizeOf183
 v117 := Tryz.zeroValue183
 t119 := Tryz.underlying200
 a119 := Tryz.isAgg200
 z119 := Tryz.sizeOf200
 t124 := Tryz.underlying186
 a124 := Tryz.isAgg186
 z124 := Tryz.sizeOf186
 v124 := Tryz.zeroValue186
 t138 := Tryz.underlying202
 a138 := Tryz.isAgg202
 z138 := Tryz.sizeOf202
 v138 := Tryz.zeroValue202
 t139 := Tryz.underlying203
 a139 := Tryz.isAgg203
 z139 := Tryz.sizeOf203
 v139 := Tryz.zeroValue203
 g3 := by kernel_rfl
 g4 := by kernel_rfl }
open Go.RowKit in
theorem Tryz.strings_TrimRight_one (s : ByteArray) (c : UInt8) (hc : c.toNat < 128) (w : World) (hs : s.size ≤ 9223372036854775807) :
  Calls Tryz.prog 116 #[.string s, .string ⟨#[c]⟩] w fun e w' => e = .returned (.string ⟨(Lib.trimRightB s.data.toList c).toArray⟩) ∧ w' = w := Any.strings_TrimRight_one Tryz.lays162 s c hc w hs
def Tryz.lays118_ren : Go.Shelf.Ren := ⟨fun | 118 => 135 | n => n, fun | 21 => 21 | 3 => 3 | 4 => 4 | n => n, fun | n => n⟩
theorem Tryz.lays118 : Go.Proofs.Lays.n118 Tryz.prog Tryz.lays118_ren := {
 mixed := by kernel_rfl
 f118 := Tryz.func135.trans (congrArg some (by kernel_rfl))
 t3 := Tryz.underlying3
 a3 := Tryz.isAgg3
 z3 := Tryz.sizeOf3
 v3 := Tryz.zeroValue3
 t4 := Tryz.underlying4
 a4 := Tryz.isAgg4
 z4 := Tryz.sizeOf4
 v4 := Tryz.zeroValue4
 t21 := Tryz.underlying21
 a21 := Tryz.isAgg21
 z21 := Tryz.sizeOf21
 v21 := Tryz.zeroValue21 }
theorem Tryz.utf8_RuneLen (r : Int) (w : World) :
  Calls Tryz.prog 135 #[.int .i32 r] w fun e w' => e = .returned (.int .i64 (Lib.runeLen r)) ∧ w' = w := Any.utf8_RuneLen Tryz.lays118 r w
def Tryz.lays103_ren : Go.Shelf.Ren := ⟨fun | 103 => 63 | 210 => 99 | 206 => 128 | n => n, fun | 9 => 9 | 4 => 4 | 24 => 70 | 3 => 3 | n => n, fun | n => n⟩
theorem Tryz.lays103 : Go.Proofs.Lays.n103 Tryz.prog Tryz.lays103_ren := {
 mixed := by kernel_rfl
 f103 := Tryz.func63.trans (congrArg some (by kernel_rfl))
 f206 := Tryz.func128.trans (congrArg some (by kernel_rfl))
 f210 := Tryz.func99.trans (congrArg some (by kernel_rfl))
 t3 := Tryz.underlying3
 a3 := Tryz.isAgg3
 z3 := Tryz.sizeOf3
 v3 := Tryz.zeroValue3
 t4 := Tryz.underlying4
 a4 := Tryz.isAgg4
 z4 := Tryz.sizeOf4
 v4 := Tryz.zeroValue4
 t9 := Tryz.underlying9
 a9 := Tryz.isAgg9
 z9 := Tryz.sizeOf9
 v9 := Tryz.zeroValue9
 t24 := Tryz.underlying70
 a24 := Tryz.isAgg70
 z24 := Tryz.sizeOf70
 v24 := Tryz.zeroValue70 }
open Go.RowKit in
theorem Tryz.strings_CutPrefix (s p : ByteArray) (w : World) :
  Calls Tryz.prog 63 #[.string s, .string p] w fun e w' => e = .returned (.tuple #[.string ⟨(Lib.trimPrefix s.data.toList p.data.toList).toArray⟩, .bool (Lib.hasPrefix s.data.toList p.data.toList)]) ∧ w' = w := Any.strings_CutPrefix Tryz.lays103 s p w
def Tryz.lays195_ren : Go.Shelf.Ren := ⟨fun | 195 => 108 | n => n, fun | 9 => 9 | 3 => 3 | 0 => 0 | 4 => 4 | n => n, fun | n => n⟩
theorem Tryz.lays195 : Go.Proofs.Lays.n195 Tryz.prog Tryz.lays195_ren := {
 mixed := by kernel_rfl
 f195 := Tryz.func108.trans (congrArg some (by kernel_rfl))
 t0 := Tryz.underlying0
 a0 := Tryz.isAgg0
 z0 := Tryz.sizeOf0
 v0 := Tryz.zeroValue0
 t3 := Tryz.underlying3
 a3 := Tryz.isAgg3
 z3 := Tryz.sizeOf3
 v3 := Tryz.zeroValue3
 t4 := Tryz.underlying4
 a4 := Tryz.isAgg4
 z4 := Tryz.sizeOf4
 v4 := Tryz.zeroValue4
 t9 := Tryz.underlying9
 a9 := Tryz.isAgg9
 z9 := Tryz.sizeOf9
 v9 := Tryz.zeroValue9 }
open Go.RowKit in
theorem Tryz.utf8_RuneCountInString (s : ByteArray) (w : World) (hs : s.size < 9223372036854775807) :
  Calls Tryz.prog 108 #[.string s] w fun e w' => e = .returned (.int .i64 (Lib.runeCount s)) ∧ ∃ pos, w' = w.iter s pos := Any.utf8_RuneCountInString Tryz.lays195 s w hs
def Tryz.lays283_ren : Go.Shelf.Ren := ⟨fun | 283 => 161 | n => n, fun | 3 => 3 | 9 => 9 | 4 => 4 | n => n, fun | n => n⟩
theorem Tryz.lays283 : Go.Proofs.Lays.n283 Tryz.prog Tryz.lays283_ren := {
 mixed := by kernel_rfl
 f283 := Tryz.func161.trans (congrArg some (by kernel_rfl))
 t3 := Tryz.underlying3
 a3 := Tryz.isAgg3
 z3 := Tryz.sizeOf3
 v3 := Tryz.zeroValue3
 t4 := Tryz.underlying4
 a4 := Tryz.isAgg4
 z4 := Tryz.sizeOf4
 v4 := Tryz.zeroValue4
 t9 := Tryz.underlying9
 a9 := Tryz.isAgg9
 z9 := Tryz.sizeOf9
 v9 := Tryz.zeroValue9 }
open Go.Lib in
theorem Tryz.internal_strconv_small (i : Nat) (h : i < 100) (w : World) :
  Calls Tryz.prog 161 #[.int .i64 i] w fun e w' => e = .returned (.string ⟨(Lib.decDigits i).toArray⟩) ∧ w' = w := Any.internal_strconv_small Tryz.lays283 i h w
def Tryz.laysM284_ren : Go.Shelf.Ren := ⟨fun | 284 => 162 | 129 => 178 | 317 => 177 | 318 => 179 | n => n, fun | 53 => 103 | 3 => 3 | 212 => 211 | 0 => 0 | 4 => 4 | 46 => 150 | 5 => 5 | 9 => 9 | n => n, fun | 17 => 5 | n => n⟩
theorem Tryz.laysM284 : Go.Proofs.LaysM.n284 Tryz.prog Tryz.laysM284_ren := {
 mixed := by kernel_rfl
 f129 := Tryz.func178.trans (congrArg some (by kernel_rfl))
 f284 := Tryz.func162.trans (congrArg some (by kernel_rfl))
 f317 := Tryz.func177.trans (congrArg some (by kernel_rfl))
 f318 := Tryz.func179.trans (congrArg some (by kernel_rfl))
 t0 := Tryz.underlying0
 a0 := Tryz.isAgg0
 z0 := Tryz.sizeOf0
 v0 := Tryz.zeroValue0
 t3 := Tryz.underlying3
 a3 := Tryz.isAgg3
 z3 := Tryz.sizeOf3
 v3 := Tryz.zeroValue3
 t4 := Tryz.underlying4
 a4 := Tryz.isAgg4
 z4 := Tryz.sizeOf4
 v4 := Tryz.zeroValue4
 t5 := Tryz.underlying5
 a5 := Tryz.isAgg5
 z5 := Tryz.sizeOf5
 v5 := Tryz.zeroValue5
 t9 := Tryz.underlying9
 a9 := Tryz.isAgg9
 z9 := Tryz.sizeOf9
 v9 := Tryz.zeroValue9
 t46 := Tryz.underlying150
 a46 := Tryz.isAgg150
 z46 := Tryz.sizeOf150
 v46 := Tryz.zeroValue150
 t53 := Tryz.underlying103
 a53 := Tryz.isAgg103
 z53 := Tryz.sizeOf103
 v53 := Tryz.zeroValue103
 t212 := Tryz.underlying211
 a212 := Tryz.isAgg211
 z212 := Tryz.sizeOf211
 v212 := Tryz.zeroValue211
 g17 := by kernel_rfl
 i0 := by kernel_rfl
 i3 := by kernel_rfl
 i4 := by kernel_rfl
 i5 := by kernel_rfl
 i9 := by kernel_rfl
 i46 := by kernel_rfl
 i53 := by kernel_rfl
 i212 := by kernel_rfl
 m17 := by kernel_rfl }
open Go.Lib in
theorem Tryz.internal_strconv_numDigits (u : Nat) (h1 : 1 ≤ u) (h2 : u < 18446744073709551616) (w : World) (htab : Lib.TabIs Tryz.prog w "internal/strconv.uint64pow10" .u64 Lib.pow10Tab) :
  Calls Tryz.prog 162 #[.int .u64 u] w fun e w' => e = .returned (.int .i64 (Lib.nDigits u)) ∧ w' = w := Any.internal_strconv_numDigits Tryz.laysM284 u h1 h2 w htab
def Tryz.lays285_ren : Go.Shelf.Ren := ⟨fun | 285 => 163 | n => n, fun | 37 => 55 | 53 => 103 | 3 => 3 | 4 => 4 | 51 => 117 | 9 => 9 | 5 => 5 | 0 => 0 | n => n, fun | n => n⟩
theorem Tryz.lays285 : Go.Proofs.Lays.n285 Tryz.prog Tryz.lays285_ren := {
 mixed := by kernel_rfl
 f285 := Tryz.func163.trans (congrArg some (by kernel_rfl))
 t0 := Tryz.underlying0
 a0 := Tryz.isAgg0
 z0 := Tryz.sizeOf0
 v0 := Tryz.zeroValue0
 t3 := Tryz.underlying3
 a3 := Tryz.isAgg3
 z3 := Tryz.sizeOf3
 v3 := Tryz.zeroValue3
 t4 := Tryz.underlying4
 a4 := Tryz.isAgg4
 z4 := Tryz.sizeOf4
 v4 := Tryz.zeroValue4
 t5 := Tryz.underlying5
 a5 := Tryz.isAgg5
 z5 := Tryz.sizeOf5
 v5 := Tryz.zeroValue5
 t9 := Tryz.underlying9
 a9 := Tryz.isAgg9
 z9 := Tryz.sizeOf9
 v9 := Tryz.zeroValue9
 t37 := Tryz.underlying55
 a37 := Tryz.isAgg55
 z37 := Tryz.sizeOf55
 v37 := Tryz.zeroValue55
 t51 := Tryz.underlying117
 a51 := Tryz.isAgg117
 z51 := Tryz.sizeOf117
 v51 := Tryz.zeroValue117
 t53 := Tryz.underlying103
 a53 := Tryz.isAgg103
 z53 := Tryz.sizeOf103
 v53 := Tryz.zeroValue103 }
open Go.RowKit Go.Sort Go.Lib in
theorem Tryz.internal_strconv_formatBase10 (blk off cap : Nat) (u : Nat) (d : Array UInt8) (w : World) (hH : Holds (fun (b : UInt8) => Value.int .u8 (b.toNat : Int)) w blk off d) (hu : u < 10 ^ d.size) (hu64 : u < 18446744073709551616) (hsz : d.size < 4611686018427387904) :
  Calls Tryz.prog 163 #[.slice (some ⟨blk, off, none⟩) d.size cap, .int .u64 u] w fun e w' =>
   e = .returned (.tuple #[]) ∧ ∃ (n v' : Nat) (dk : Array UInt8), w' = (putRow (fun (b : UInt8) => Value.int .u8 (b.toNat : Int)) w blk off dk).drewN n ∧ FmtInv d.size u 0 v' dk := Any.internal_strconv_formatBase10 Tryz.lays285 blk off cap u d w hH hu hu64 hsz
def Tryz.laysM171_ren : Go.Shelf.Ren := ⟨fun | 171 => 122 | 243 => 148 | 246 => 170 | 283 => 161 | 284 => 162 | 285 => 163 | 286 => 164 | 129 => 178 | 317 => 177 | 318 => 179 | 319 => 180 | 320 => 181 | 337 => 189 | 338 => 190 | n => n, fun | 3 => 3 | 9 => 9 | 2 => 2 | 4 => 4 | 171 => 193 | 0 => 0 | 53 => 103 | 37 => 55 | 5 => 5 | 173 => 196 | 212 => 211 | 51 => 117 | 20 => 20 | 213 => 212 | 46 => 150 | 232 => 220 | 233 => 221 | n => n, fun | 17 => 5 | 18 => 6 | 19 => 7 | n => n⟩
theorem Tryz.laysM171 : Go.Proofs.LaysM.n171 Tryz.prog Tryz.laysM171_ren := {
 mixed := by kernel_rfl
 f129 := Tryz.func178.trans (congrArg some (by kernel_rfl))
 f171 := Tryz.func122.trans (congrArg some (by kernel_rfl))
 f243 := Tryz.func148.trans (congrArg some (by kernel_rfl))
 f246 := Tryz.func170.trans (congrArg some (by kernel_rfl))
 f283 := Tryz.func161.trans (congrArg some (by kernel_rfl))
 f284 := Tryz.func162.trans (congrArg some (by kernel_rfl))
 f285 := Tryz.func163.trans (congrArg some (by kernel_rfl))
 f286 := Tryz.func164.trans (congrArg some (by kernel_rfl))
 f317 := Tryz.func177.trans (congrArg some (by kernel_rfl))
 f318 := Tryz.func179.trans (congrArg some (by kernel_rfl))
 f319 := Tryz.func180.trans (congrArg some (by kernel_rfl))
 f320 := Tryz.func181.trans (congrArg some (by kernel_rfl))
 f337 := Tryz.func189.trans (congrArg some (by kernel_rfl))
 f338 := Tryz.func190.trans (congrArg some (by kernel_rfl))
 t0 := Tryz.underlying0
 a0 := Tryz.isAgg0
 z0 := Tryz.sizeOf0
 v0 := Tryz.zeroValue0
 t2 := Tryz.underlying2
 a2 := Tryz.isAgg2
 z2 := Tryz.sizeOf2
 v2 := Tryz.zeroValue2
 t3 := Tryz.underlying3
 a3 := Tryz.isAgg3
 z3 := Tryz.sizeOf3
 v3 := Tryz.zeroValue3
 t4 := Tryz.underlying4
 a4 := Tryz.isAgg4
 z4 := Tryz.sizeOf4
 v4 := Tryz.zeroValue4
 t5 := Tryz.underlying5
 a5 := Tryz.isAgg5
 z5 := Tryz.sizeOf5
 v5 := Tryz.zeroValue5
 t9 := Tryz.underlying9
 a9 := Tryz.isAgg9
 z9 := Tryz.sizeOf9
 v9 := Tryz.zeroValue9
 t20 := Tryz.underlying20
 a20 := Tryz.isAgg20
 z20 := Tryz.sizeOf20
 v20 := Tryz.zeroValue20
 t37 := Tryz.underlying55
 a37 := Tryz.isAgg55
 z37 := Tryz.sizeOf55
 v37 := Tryz.zeroValue55
 t46 := Tryz.underlying150
 a46 := Tryz.isAgg150
 z46 := Tryz.sizeOf150
 v46 := Tryz.zeroValue150
 t51 := Tryz.underlying117
 a51 := Tryz.isAgg117
 z51 := Tryz.sizeOf117
 v51 := Tryz.zeroValue117
 t53 := Tryz.underlying103
 a53 := Tryz.isAgg103
 z53 := Tryz.sizeOf103
 v53 := Tryz.zeroValue103
 t171 := Tryz.underlying193
 a171 := Tryz.isAgg193
 z171 := Tryz.sizeOf193
 v171 := Tryz.zeroValue193
 t173 := Tryz.underlying196
 a173 := Tryz.isAgg196
 z173 := Tryz.sizeOf196
 v173 := Tryz.zeroValue196
 t212 := Tryz.underlying211
 a212 := Tryz.isAgg211
 z212 := Tryz.sizeOf211
 v212 := Tryz.zeroValue211
 t213 := Tryz.underlying212
 a213 := Tryz.isAgg212
 z213 := Tryz.sizeOf212
 t232 := Tryz.underlying220
 a232 := Tryz.isAgg220
 z232 := Tryz.sizeOf220
 v232 := Tryz.zeroValue220
 t233 := Tryz.underlying221
 a233 := Tryz.isAgg221
 z233 := Tryz.sizeOf221
 v233 := Tryz.zeroValue221
 g17 := by kernel_rfl
 g18 := by kernel_rfl
 g19 := by kernel_rfl
 i0 := by kernel_rfl
 i2 := by kernel_rfl
 i3 := by kernel_rfl
 i4 := by kernel_rfl
 i5 := by kernel_rfl
 i9 := by kernel_rfl
 i20 := by kernel_rfl
 i37 := by kernel_rfl
 i46 := by kernel_rfl
 i51 := by kernel_rfl
 i53 := by kernel_rfl
 i171 := by kernel_rfl
 i173 := by kernel_rfl
 i212 := by kernel_rfl
 i232 := by kernel_rfl
 i233 := by kernel_rfl
 m17 := by kernel_rfl
 m18 := by kernel_rfl
 m19 := by kernel_rfl }
open Go.RowKit Go.Sort Go.Lib in
theorem Tryz.strconv_Itoa (n : Int) (h0 : -9223372036854775808 ≤ n) (h1 : n ≤ 9223372036854775807) (w : World) (htab : Lib.TabIs Tryz.prog w "internal/strconv.uint64pow10" .u64 Lib.pow10Tab) :
  Calls Tryz.prog 122 #[.int .i64 n] w fun e w' => e = .returned (.string ⟨(Lib.itoa n).toArray⟩) ∧ ∃ k os, w' = grow (w.drewN k) os := Any.strconv_Itoa Tryz.laysM171 n h0 h1 w htab
def Tryz.lays219_ren : Go.Shelf.Ren := ⟨fun | 219 => 129 | 217 => 150 | 225 => 151 | 224 => 152 | 267 => 153 | 266 => 171 | 314 => 172 | n => n, fun | 9 => 9 | 3 => 3 | 4 => 4 | 5 => 5 | 46 => 150 | 146 => 204 | 51 => 117 | n => n, fun | 1 => 2 | n => n⟩
theorem Tryz.lays219 : Go.Proofs.Lays.n219 Tryz.prog Tryz.lays219_ren := {
 mixed := by kernel_rfl
 f217 := Tryz.func150.trans (congrArg some (by kernel_rfl))
 f219 := Tryz.func129.trans (congrArg some (by kernel_rfl))
 f224 := Tryz.func152.trans (congrArg some (by kernel_rfl))
 f225 := Tryz.func151.trans (congrArg some (by kernel_rfl))
 f266 := Tryz.func171.trans (congrArg some (by kernel_rfl))
 f267 := Tryz.func153.trans (congrArg some (by kernel_rfl))
 f314 := Tryz.func172.trans (congrArg some (by kernel_rfl))
 t3 := Tryz.underlying3
 a3 := Tryz.isAgg3
 z3 := Tryz.sizeOf3
 v3 := Tryz.zeroValue3
 t4 := Tryz.underlying4
 a4 := Tryz.isAgg4
 z4 := Tryz.sizeOf4
 v4 := Tryz.zeroValue4
 t5 := Tryz.underlying5
 a5 := Tryz.isAgg5
 z5 := Tryz.sizeOf5
 v5 := Tryz.zeroValue5
 t9 := Tryz.underlying9
 a9 := Tryz.isAgg9
 z9 := Tryz.sizeOf9
 v9 := Tryz.zeroValue9
 t46 := Tryz.underlying150
 a46 := Tryz.isAgg150
 z46 := Tryz.sizeOf150
 v46 := Tryz.zeroValue150
 t51 := Tryz.underlying117
 a51 := Tryz.isAgg117
 z51 := Tryz.sizeOf117
 v51 := Tryz.zeroValue117
 t146 := Tryz.underlying204
 a146 := Tryz.isAgg204
 z146 := Tryz.sizeOf204
 v146 := Tryz.zeroValue204
 g1 := by kernel_rfl }
open Go.RowKit Go.Lib in
theorem Tryz.stringslite_Index_one (s : ByteArray) (c : UInt8) (w : World) :
  Calls Tryz.prog 129 #[.string s, .string ⟨#[c]⟩] w fun e w' => e = .returned (.int .i64 (Lib.indexByte s.data.toList c)) ∧ w' = w := Any.stringslite_Index_one Tryz.lays219 s c w
def Tryz.lays144_ren : Go.Shelf.Ren := ⟨fun | 144 => 138 | 143 => 157 | 219 => 129 | 217 => 150 | 225 => 151 | 224 => 152 | 267 => 153 | 266 => 171 | 314 => 172 | n => n, fun | 9 => 9 | 4 => 4 | 3 => 3 | 5 => 5 | 46 => 150 | 146 => 204 | 51 => 117 | n => n, fun | 1 => 2 | n => n⟩
theorem Tryz.lays144 : Go.Proofs.Lays.n144 Tryz.prog Tryz.lays144_ren := {
 mixed := by kernel_rfl
 f143 := Tryz.func157.trans (congrArg some (by kernel_rfl))
 f144 := Tryz.func138.trans (congrArg some (by kernel_rfl))
 f217 := Tryz.func150.trans (congrArg some (by kernel_rfl))
 f219 := Tryz.func129.trans (congrArg some (by kernel_rfl))
 f224 := Tryz.func152.trans (congrArg some (by kernel_rfl))
 f225 := Tryz.func151.trans (congrArg some (by kernel_rfl))
 f266 := Tryz.func171.trans (congrArg some (by kernel_rfl))
 f267 := Tryz.func153.trans (congrArg some (by kernel_rfl))
 f314 := Tryz.func172.trans (congrArg some (by kernel_rfl))
 t3 := Tryz.underlying3
 a3 := Tryz.isAgg3
 z3 := Tryz.sizeOf3
 v3 := Tryz.zeroValue3
 t4 := Tryz.underlying4
 a4 := Tryz.isAgg4
 z4 := Tryz.sizeOf4
 v4 := Tryz.zeroValue4
 t5 := Tryz.underlying5
 a5 := Tryz.isAgg5
 z5 := Tryz.sizeOf5
 v5 := Tryz.zeroValue5
 t9 := Tryz.underlying9
 a9 := Tryz.isAgg9
 z9 := Tryz.sizeOf9
 v9 := Tryz.zeroValue9
 t46 := Tryz.underlying150
 a46 := Tryz.isAgg150
 z46 := Tryz.sizeOf150
 v46 := Tryz.zeroValue150
 t51 := Tryz.underlying117
 a51 := Tryz.isAgg117
 z51 := Tryz.sizeOf117
 v51 := Tryz.zeroValue117
 t146 := Tryz.underlying204
 a146 := Tryz.isAgg204
 z146 := Tryz.sizeOf204
 v146 := Tryz.zeroValue204
 g1 := by kernel_rfl }
open Go.RowKit Go.Lib in
theorem Tryz.strings_Contains_one (s : ByteArray) (c : UInt8) (w : World) :
  Calls Tryz.prog 138 #[.string s, .string ⟨#[c]⟩] w fun e w' => e = .returned (.bool (decide (0 ≤ Lib.indexByte s.data.toList c))) ∧ w' = w := Any.strings_Contains_one Tryz.lays144 s c w
def Tryz.lays99_ren : Go.Shelf.Ren := ⟨fun | 99 => 137 | 206 => 128 | n => n, fun | 9 => 9 | 4 => 4 | 3 => 3 | n => n, fun | n => n⟩
theorem Tryz.lays99 : Go.Proofs.Lays.n99 Tryz.prog Tryz.lays99_ren := {
 mixed := by kernel_rfl
 f99 := Tryz.func137.trans (congrArg some (by kernel_rfl))
 f206 := Tryz.func128.trans (congrArg some (by kernel_rfl))
 t3 := Tryz.underlying3
 a3 := Tryz.isAgg3
 z3 := Tryz.sizeOf3
 v3 := Tryz.zeroValue3
 t4 := Tryz.underlying4
 a4 := Tryz.isAgg4
 z4 := Tryz.sizeOf4
 v4 := Tryz.zeroValue4
 t9 := Tryz.underlying9
 a9 := Tryz.isAgg9
 z9 := Tryz.sizeOf9
 v9 := Tryz.zeroValue9 }
open Go.RowKit Go.Lib in
theorem Tryz.strings_HasPrefix (s p : ByteArray) (w : World) :
  Calls Tryz.prog 137 #[.string s, .string p] w fun e w' => e = .returned (.bool (Lib.hasPrefix s.data.toList p.data.toList)) ∧ w' = w := Any.strings_HasPrefix Tryz.lays99 s p w
def Tryz.lays155_ren : Go.Shelf.Ren := ⟨fun | 155 => 117 | 154 => 147 | 138 => 168 | 165 => 169 | 143 => 157 | 166 => 76 | 197 => 126 | 169 => 49 | 195 => 108 | 218 => 184 | 240 => 113 | 241 => 185 | 219 => 129 | 260 => 149 | 276 => 141 | 277 => 193 | 217 => 150 | 225 => 151 | 224 => 152 | 267 => 153 | 266 => 171 | 314 => 172 | n => n, fun | 9 => 9 | 3 => 3 | 4 => 4 | 72 => 100 | 0 => 0 | 76 => 141 | 105 => 159 | 21 => 21 | 5 => 5 | 70 => 98 | 20 => 20 | 37 => 55 | 75 => 140 | 127 => 149 | 164 => 178 | 46 => 150 | 119 => 200 | 139 => 203 | 138 => 202 | 146 => 204 | 51 => 117 | 80 => 64 | n => n, fun | 1 => 2 | 3 => 3 | 4 => 4 | n => n⟩
theorem Tryz.lays155 : Go.Proofs.Lays.n155 Tryz.prog Tryz.lays155_ren := {
 mixed := by kernel_rfl
 f138 := Tryz.func168.trans (congrArg some (by kernel_rfl))
 f143 := Tryz.func157.trans (congrArg some (by kernel_rfl))
 f154 := Tryz.func147.trans (congrArg some (by kernel_rfl))
 f155 := Tryz.func117.trans (congrArg some (by kernel_rfl))
 f165 := Tryz.func169.trans (congrArg some (by kernel_rfl))
 f166 := Tryz.func76.trans (congrArg some (by kernel_rfl))
 f169 := Tryz.func49.trans (congrArg some (by kernel_rfl))
 f195 := Tryz.func108.trans (congrArg some (by kernel_rfl))
 f197 := Tryz.func126.trans (congrArg some (by kernel_rfl))
 f217 := Tryz.func150.trans (congrArg some (by kernel_rfl))
 f218 := Tryz.func184.trans (congrArg some (by kernel_rfl))
 f219 := Tryz.func129.trans (congrArg some (by kernel_rfl))
 f224 := Tryz.func152.trans (congrArg some (by kernel_rfl))
 f225 := Tryz.func151.trans (congrArg some (by kernel_rfl))
 f240 := Tryz.func113.trans (congrArg some (by kernel_rfl))
 f241 := Tryz.func185.trans (congrArg some (by kernel_rfl))
 f260 := Tryz.func149.trans (congrArg some (by kernel_rfl))
 f266 := Tryz.func171.trans (congrArg some (by kernel_rfl))
 f267 := Tryz.func153.trans (congrArg some (by kernel_rfl))
 f276 := Tryz.func141.trans (congrArg some (by kernel_rfl))
 f277 := Tryz.func193.trans (congrArg some (by kernel_rfl))
 f314 := Tryz.func172.trans (congrArg some (by kernel_rfl))
 t0 := Tryz.underlying0
 a0 := Tryz.isAgg0
 z0 := Tryz.sizeOf0
 v0 := Tryz.zeroValue0
 t3 := Tryz.underlying3
 a3 := Tryz.isAgg3
 z3 := Tryz.sizeOf3
 v3 := Tryz.zeroValue3
 t4 := Tryz.underlying4
 a4 := Tryz.isAgg4
 z4 := Tryz.sizeOf4
 v4 := Tryz.zeroValue4
 t5 := Tryz.underlying5
 a5 := Tryz.isAgg5
 z5 := Tryz.sizeOf5
 v5 := Tryz.zeroValue5
 t9 := Tryz.underlying9
 a9 := Tryz.isAgg9
 z9 := Tryz.sizeOf9
 v9 := Tryz.zeroValue9
 t20 := Tryz.underlying20
 a20 := Tryz.isAgg20
 z20 := Tryz.sizeOf20
 v20 := Tryz.zeroValue20
 t21 := Tryz.underlying21
 a21 := Tryz.isAgg21
 z21 := Tryz.sizeOf21
 v21 := Tryz.zeroValue21
 t37 := Tryz.underlying55
 a37 := Tryz.isAgg55
 z37 := Tryz.sizeOf55
 v37 := Tryz.zeroValue55
 t46 := Tryz.underlying150
 a46 := Tryz.isAgg150
 z46 := Tryz.sizeOf150
 v46 := Tryz.zeroValue150
 t51 := Tryz.underlying117
 a51 := Tryz.isAgg117
 z51 := Tryz.sizeOf117
 v51 := Tryz.zeroValue117
 t70 := Tryz.underlying98
 a70 := Tryz.isAgg98
 z70 := Tryz.sizeOf98
 v70 := Tryz.zeroValue98
 t72 := Tryz.underlying100
 a72 := Tryz.isAgg100
 z72 := Tryz.sizeOf100
 v72 := Tryz.zeroValue100
 t75 := Tryz.underlying140
 a75 := Tryz.isAgg140
 z75 := Tryz.sizeOf140
 v75 := Tryz.zeroValue140
 t76 := Tryz.underlying141
 a76 := Tryz.isAgg141
 z76 := Tryz.sizeOf141
 v76 := Tryz.zeroValue141
 t105 := Tryz.underlying159
 a105 := Tryz.isAgg159
 z105 := Tryz.sizeOf159
 v105 := Tryz.zeroValue159
 t119 := Tryz.underlying200
 a119 := Tryz.isAgg200
 z119 := Tryz.sizeOf200
 t127 := Tryz.underlying149
 a127 := Tryz.isAgg149
 z127 := Tryz.sizeOf149
 v127 := Tryz.zeroValue149
 t138 := Tryz.underlying202
 a138 := Tryz.isAgg202
 z138 := Tryz.sizeOf202
 v138 := Tryz.zeroValue202
 t139 := Tryz.underlying203
 a139 := Tryz.isAgg203
 z139 := Tryz.sizeOf203
 v139 := Tryz.zeroValue203
 t146 := Tryz.underlying204
 a146 := Tryz.isAgg204
 z146 := Tryz.sizeOf204
 v146 := Tryz.zeroValue204
 t164 := Tryz.underlying178
 a164 := Tryz.isAgg178
 z164 := Tryz.sizeOf178
 v164 := Tryz.zeroValue178
 g1 := by kernel_rfl
 g3 := by kernel_rfl
 g4 := by kernel_rfl }
theorem Tryz.Builder_Extra_155 : Builder.Extra Tryz.prog Tryz.lays155_ren := {
 sizeBuilder := by kernel_rfl
 liesBuilder := by kernel_rfl
 t5 := Tryz.underlying5
 a5 := Tryz.isAgg5
 z5 := Tryz.sizeOf5
 v5 := Tryz.zeroValue5
 infoByte := by kernel_rfl
 cellsByte := by kernel_rfl
 sizeByte := by kernel_rfl
 neB5 := by decide }
open Go.RowKit Go.Lib in
theorem Tryz.strings_ReplaceAll (s old new : ByteArray) (m : Int) (w : World) (hs : s.size < 4294967281) (hm : w.cell? ⟨2, 0, none⟩ = some (.int .i64 m)) (h1 : 1 ≤ old.size) (hlen : s.size + Lib.countB s old * new.size ≤ 140737488355328) :
  Calls Tryz.prog 117 #[.string s, .string old, .string new] w fun e w' =>
   e = .returned (.string ⟨(Lib.replaceAll s.data.toList old.data.toList new.data.toList).toArray⟩) ∧ Below w.heap.size w w' := Any.strings_ReplaceAll Tryz.lays155 Tryz.Builder_Extra_155 s old new m w hs hm h1 hlen
def Tryz.lays260_ren : Go.Shelf.Ren := ⟨fun | 260 => 149 | n => n, fun | 9 => 9 | 21 => 21 | 3 => 3 | 4 => 4 | 5 => 5 | 119 => 200 | 0 => 0 | 46 => 150 | 139 => 203 | 138 => 202 | n => n, fun | 3 => 3 | 4 => 4 | n => n⟩
theorem Tryz.lays260 : Go.Proofs.Lays.n260 Tryz.prog Tryz.lays260_ren := {
 mixed := by kernel_rfl
 f260 := Tryz.func149.trans (congrArg some (by kernel_rfl))
 t0 := Tryz.underlying0
 a0 := Tryz.isAgg0
 z0 := Tryz.sizeOf0
 v0 := Tryz.zeroValue0
 t3 := Tryz.underlying3
 a3 := Tryz.isAgg3
 z3 := Tryz.sizeOf3
 v3 := Tryz.zeroValue3
 t4 := Tryz.underlying4
 a4 := Tryz.isAgg4
 z4 := Tryz.sizeOf4
 v4 := Tryz.zeroValue4
 t5 := Tryz.underlying5
 a5 := Tryz.isAgg5
 z5 := Tryz.sizeOf5
 v5 := Tryz.zeroValue5
 t9 := Tryz.underlying9
 a9 := Tryz.isAgg9
 z9 := Tryz.sizeOf9
 v9 := Tryz.zeroValue9
 t21 := Tryz.underlying21
 a21 := Tryz.isAgg21
 z21 := Tryz.sizeOf21
 v21 := Tryz.zeroValue21
 t46 := Tryz.underlying150
 a46 := Tryz.isAgg150
 z46 := Tryz.sizeOf150
 v46 := Tryz.zeroValue150
 t119 := Tryz.underlying200
 a119 := Tryz.isAgg200
 z119 := Tryz.sizeOf200
 t138 := Tryz.underlying202
 a138 := Tryz.isAgg202
 z138 := Tryz.sizeOf202
 v138 := Tryz.zeroValue202
 t139 := Tryz.underlying203
 a139 := Tryz.isAgg203
 z139 := Tryz.sizeOf203
 v139 := Tryz.zeroValue203
 g3 := by kernel_rfl
 g4 := by kernel_rfl }
def Tryz.lays197_ren : Go.Shelf.Ren := ⟨fun | 197 => 126 | 260 => 149 | n => n, fun | 9 => 9 | 21 => 21 | 3 => 3 | 4 => 4 | 5 => 5 | 105 => 159 | 119 => 200 | 0 => 0 | 46 => 150 | 139 => 203 | 138 => 202 | n => n, fun | 3 => 3 | 4 => 4 | n => n⟩
theorem Tryz.lays197 : Go.Proofs.Lays.n197 Tryz.prog Tryz.lays197_ren := {
 mixed := by kernel_rfl
 f197 := Tryz.func126.trans (congrArg some (by kernel_rfl))
 f260 := Tryz.func149.trans (congrArg some (by kernel_rfl))
 t0 := Tryz.underlying0
 a0 := Tryz.isAgg0
 z0 := Tryz.sizeOf0
 v0 := Tryz.zeroValue0
 t3 := Tryz.underlying3
 a3 := Tryz.isAgg3
 z3 := Tryz.sizeOf3
 v3 := Tryz.zeroValue3
 t4 := Tryz.underlying4
 a4 := Tryz.isAgg4
 z4 := Tryz.sizeOf4
 v4 := Tryz.zeroValue4
 t5 := Tryz.underlying5
 a5 := Tryz.isAgg5
 z5 := Tryz.sizeOf5
 v5 := Tryz.zeroValue5
 t9 := Tryz.underlying9
 a9 := Tryz.isAgg9
 z9 := Tryz.sizeOf9
 v9 := Tryz.zeroValue9
 t21 := Tryz.underlying21
 a21 := Tryz.isAgg21
 z21 := Tryz.sizeOf21
 v21 := Tryz.zeroValue21
 t46 := Tryz.underlying150
 a46 := Tryz.isAgg150
 z46 := Tryz.sizeOf150
 v46 := Tryz.zeroValue150
 t105 := Tryz.underlying159
 a105 := Tryz.isAgg159
 z105 := Tryz.sizeOf159
 v105 := Tryz.zeroValue159
 t119 := Tryz.underlying200
 a119 := Tryz.isAgg200
 z119 := Tryz.sizeOf200
 t138 := Tryz.underlying202
 a138 := Tryz.isAgg202
 z138 := Tryz.sizeOf202
 v138 := Tryz.zeroValue202
 t139 := Tryz.underlying203
 a139 := Tryz.isAgg203
 z139 := Tryz.sizeOf203
 v139 := Tryz.zeroValue203
 g3 := by kernel_rfl
 g4 := by kernel_rfl }
open Go.RowKit Go.Lib in
theorem Tryz.utf8_DecodeRuneInString (s : ByteArray) (w : World) (hT : Lib.Utf8Tabs 3 4 w) :
  Calls Tryz.prog 126 #[.string s] w fun e w' => e = .returned (.tuple #[.int .i32 (Lib.decodeGo s).1, .int .i64 (Lib.decodeGo s).2]) ∧ Below w.heap.size w w' := Any.utf8_DecodeRuneInString Tryz.lays197 s w hT
end Go.Proofs
namespace Go.A
open Go.Proofs
section
variable {P : Program} {σ : ASt} {w : World}
theorem reps_ints {k : IntKind} : ∀ {zs : List Int} {vs : List Value}, Reps σ w (zs.map (AV.int k)) vs → vs = zs.map (Value.int k)
 | [], vs, h => by cases h; rfl
 | z :: zs, vs, h => by
   cases h with
   | cons h1 h2 =>
     cases h1
     rw [reps_ints h2]
     rfl
theorem tabIs_of (hs : Sim σ w) {name : String} {b : Nat} {k : IntKind} {zs : List Int} (hg : P.globalNamed name = some b) (hb : σ b = some (.fix (zs.map (AV.int k)))) : Lib.TabIs P w name k zs := by
 obtain ⟨h1, c, T, fr, h2, h3⟩ := hs b _ hb
 obtain ⟨vs, h4, h5⟩ := h1.vals
 have h6 := reps_ints h4
 subst h6
 unfold Lib.TabIs World.var?
 rw [hg, Option.bind_some]
 simp only [h2]
 congr 1
 apply Array.ext
 ·simp [h3]
 ·intro j hj hj'
  have h7 := h5 j (Value.int k (zs[j]'(by simpa using hj'))) (by simp)
  simp only [World.cell?, h2, Nat.zero_add] at h7
  simp at h7 ⊢
  obtain ⟨_, h7⟩ := Array.getElem?_eq_some_iff.1 h7
  exact h7
theorem ACalls.of_ext {f : FuncId} {args : List AV} {r : AV} {u : Value} (h : ∀ w vs, Sim σ w → Reps σ w args vs → Calls P f ⟨vs⟩ w fun e w' => e = .returned u ∧ Ext w w') (hr : ∀ w, Rep σ w r u) : ACalls P f args σ fun v σ' => v = r ∧ σ' = σ :=
 fun w vs hs ha => (h w vs hs ha).mono fun e w' ⟨he, hx⟩ => ⟨u, r, σ, he, ⟨rfl, rfl⟩, ext_le hx, hs.ext hx, hr w'⟩
theorem ext_grow (w : World) (k : Nat) (os : Array Obj) : Ext w (Go.Sort.grow (w.drewN k) os) := ⟨⟨os, w.drawn + k⟩, rfl⟩
end
theorem Ext.of_eq {w w' : World} (h : w' = w) : Ext w w' := h ▸ Ext.refl w
def Tab (σ : ASt) : Prop := σ 5 = some (.fix (Lib.pow10Tab.map (AV.int .u64)))
theorem Tab.set {σ : ASt} {b : Nat} {r : Option Role} (h : Tab σ) (hb : σ b = none) : Tab (σ.set b r) := by
 unfold Tab at *
 rw [ASt.set_ne]
 ·exact h
 ·intro e; rw [← e, h] at hb; cases hb
end Go.A
namespace Go.A
open Go.Proofs
theorem itoa_ok {σ : ASt} (h : Tab σ) {n : Int} (h0 : -9223372036854775808 ≤ n) (h1 : n ≤ 9223372036854775807) : ACalls Tryz.prog 122 [.int .i64 n] σ fun v σ' => v = .str (Lib.itoa n) ∧ σ' = σ := by
 refine ACalls.of_ext (u := .string ⟨(Lib.itoa n).toArray⟩) (fun w vs hs ha => ?_) fun w => .str _
 cases ha with
 | cons h2 h3 =>
   cases h2; cases h3
   refine (Tryz.strconv_Itoa n h0 h1 w (tabIs_of hs (by kernel_rfl) h)).mono ?_
   rintro e w' ⟨he, k, os, rfl⟩
   exact ⟨he, ext_grow w k os⟩
end Go.A
namespace Go.A
open Go.Proofs Go.Lib
def accTab : List Int := (List.range 16).flatMap fun i => [(accLo i : Int), (accHi i : Int)]
def U8 (σ : ASt) : Prop := σ 3 = some (.fix (firstTab.map (AV.int .u8))) ∧ σ 4 = some (.fix (accTab.map (AV.int .u8)))
theorem U8.of_eq {σ σ' : ASt} (h : U8 σ) (h1 : σ' 3 = σ 3) (h2 : σ' 4 = σ 4) : U8 σ' := ⟨h1.trans h.1, h2.trans h.2⟩
theorem U8.set {σ : ASt} {b : Nat} {r : Option Role} (h : U8 σ) (hb : σ b = none) : U8 (σ.set b r) := by
 refine h.of_eq (ASt.set_ne ?_) (ASt.set_ne ?_) <;> rintro rfl
 ·rw [h.1] at hb; cases hb
 ·rw [h.2] at hb; cases hb
theorem fix_ints {σ : ASt} {w : World} (hs : Sim σ w) {b : Nat} {k : IntKind} {zs : List Int} (h : σ b = some (.fix (zs.map (AV.int k)))) : ∀ j z, zs[j]? = some z → w.cell? ⟨b, j, none⟩ = some (.int k z) := by
 intro j z hj
 obtain ⟨vs, h4, h5⟩ := (hs b _ h).1.vals
 have h6 := reps_ints h4
 subst h6
 have := h5 j (Value.int k z) (by simp [hj])
 simpa using this
theorem u8_tabs {σ : ASt} {w : World} (hs : Sim σ w) (h : U8 σ) : Utf8Tabs 3 4 w := by
 refine ⟨fun c hc => fix_ints hs h.1 c _ (by simp [firstTab, hc]), fun i hi => ?_⟩
 have key : ∀ i, i < 16 → accTab[2 * i]? = some (accLo i : Int) ∧ accTab[2 * i + 1]? = some (accHi i : Int) := by decide
 exact ⟨fix_ints hs h.2 _ _ (key i hi).1, fix_ints hs h.2 _ _ (key i hi).2⟩
theorem ACalls.of_below {P : Program} {σ : ASt} {f : FuncId} {args : List AV} {r : AV} {u : Value} (h : ∀ w vs, Sim σ w → Reps σ w args vs → Calls P f ⟨vs⟩ w fun e w' => e = .returned u ∧ RowKit.Below w.heap.size w w') (hr : ∀ w, Rep σ w r u) : ACalls P f args σ fun v σ' => v = r ∧ σ' = σ :=
 ACalls.of_ext (fun w vs hs ha => (h w vs hs ha).mono fun e w' ⟨he, hb⟩ => ⟨he, Ext.of_below hb⟩) hr
theorem dec_ok {σ : ASt} (h : U8 σ) {l : List UInt8} (h0 : l ≠ []) : ACalls Tryz.prog 126 [.str l] σ fun v σ' => v = .tuple [.int .i32 (decodeL l).1, .int .i64 (decodeL l).2] ∧ σ' = σ := by
 refine ACalls.of_below (u := .tuple #[.int .i32 (decodeL l).1, .int .i64 (decodeL l).2]) (fun w vs hs ha => ?_) fun w => .tuple (.cons (.int _ _) (.cons (.int _ _) .nil))
 cases ha with
 | cons h1 h2 =>
 cases h1; cases h2
 have := Tryz.utf8_DecodeRuneInString ⟨⟨l⟩⟩ w (u8_tabs hs h)
 have e : decodeGo ⟨⟨l⟩⟩ = decodeL l := by
  unfold decodeGo decodeL
  rw [if_neg (by cases l; exact absurd rfl h0; simp [ByteArray.size])]
 rw [e] at this
 exact this
theorem count_ok (l : List UInt8) (hl : l.length < 9223372036854775807) : Pure Tryz.prog 108 [.str l] (.int .i64 (signsN l)) := by
 intro σ
 refine ACalls.of_ext (u := .int .i64 (signsN l)) (fun w vs hs ha => ?_) fun w => .int _ _
 cases ha with
 | cons h1 h2 =>
 cases h1; cases h2
 refine (Tryz.utf8_RuneCountInString ⟨⟨l⟩⟩ w (by simpa [ByteArray.size] using hl)).mono ?_
 rintro e w' ⟨rfl, pos, rfl⟩
 exact ⟨rfl, Ext.alloc (Ext.refl w) _⟩
theorem runeLen_ok (r : Int) : Pure Tryz.prog 135 [.int .i32 r] (.int .i64 (runeLen r)) := by
 intro σ
 refine ACalls.of_ext (u := .int .i64 (runeLen r)) (fun w vs hs ha => ?_) fun w => .int _ _
 cases ha with
 | cons h1 h2 =>
 cases h1; cases h2
 exact (Tryz.utf8_RuneLen r w).mono fun e w' ⟨he, hw⟩ => ⟨he, Ext.of_eq hw⟩
theorem prefix_ok (s p : List UInt8) (hs : s.length ≤ 1000000000) (hp : p.length ≤ 1000000000) : Pure Tryz.prog 137 [.str s, .str p] (.bool (p.isPrefixOf s)) := by
 intro σ
 refine ACalls.of_ext (u := .bool (p.isPrefixOf s)) (fun w vs hs ha => ?_) fun w => .bool _
 cases ha with
 | cons h1 h2 =>
 cases h2 with
 | cons h2 h3 =>
 cases h1; cases h2; cases h3
 refine (Tryz.strings_HasPrefix ⟨⟨s⟩⟩ ⟨⟨p⟩⟩ w).mono fun e w' ⟨he, hw⟩ => ⟨?_, Ext.of_eq hw⟩
 rw [he]
 rfl
theorem contains_ok (s : List UInt8) (c : UInt8) : Pure Tryz.prog 138 [.str s, .str [c]] (.bool (decide (0 ≤ indexByte s c))) := by
 intro σ
 refine ACalls.of_ext (u := .bool (decide (0 ≤ indexByte s c))) (fun w vs hs ha => ?_) fun w => .bool _
 cases ha with
 | cons h1 h2 =>
 cases h2 with
 | cons h2 h3 =>
 cases h1; cases h2; cases h3
 exact (Tryz.strings_Contains_one ⟨⟨s⟩⟩ c w).mono fun e w' ⟨he, hw⟩ => ⟨he, Ext.of_eq hw⟩
theorem index_ok (s : List UInt8) (c : UInt8) : Pure Tryz.prog 129 [.str s, .str [c]] (.int .i64 (indexByte s c)) := by
 intro σ
 refine ACalls.of_ext (u := .int .i64 (indexByte s c)) (fun w vs hs ha => ?_) fun w => .int _ _
 cases ha with
 | cons h1 h2 =>
 cases h2 with
 | cons h2 h3 =>
 cases h1; cases h2; cases h3
 exact (Tryz.stringslite_Index_one ⟨⟨s⟩⟩ c w).mono fun e w' ⟨he, hw⟩ => ⟨he, Ext.of_eq hw⟩
end Go.A
namespace Go.A
open Go.Proofs Go.Shelf Go.RowKit
section
variable {P : Program} {ρ : Ren}
set_option maxHeartbeats 2000000 in
theorem bstr_used (L : Lays.n169 P ρ) (X : Builder.Extra P ρ) (b g cap size : Nat) (l : List UInt8) (w : World) (h0 : l ≠ []) (hc1 : w.cell? ⟨b, 1, none⟩ = some (.slice (some ⟨g, 0, none⟩) l.length cap)) (hcap : cap ≠ 0)
  (hsh : w.shape? g = some (ρ.t 5, size)) (hle : l.length ≤ size) (h63 : l.length ≤ 9223372036854775807) (hcell : ∀ j x, l[j]? = some x → w.cell? ⟨g, j, none⟩ = some (.int .u8 x.toNat)) :
  Calls P (ρ.f 169) #[.pointer (some ⟨b, 0, none⟩)] w fun e w' => e = .returned (.string ⟨l.toArray⟩) ∧ w' = w.drew.freeze ⟨g, 0, none⟩ l.length := by
 have c1 : w.drew.cell? ⟨b, 1, none⟩ = some (.slice (some ⟨g, 0, none⟩) l.length cap) := hc1
 have hSD : (Builtin.unsafeSliceData_ #[(ρ.t 37)] (ρ.t 127) #[.slice (some ⟨g, 0, none⟩) l.length cap]).run P w.drew = .ok (.pointer (some ⟨g, 0, none⟩)) w.drew :=
  Lib.run_unsafeSliceData_row _ _ _ _ _ _ hcap
 have hUS : (Builtin.unsafeString_ #[(ρ.t 127), (ρ.t 3)] (ρ.t 9) #[.pointer (some ⟨g, 0, none⟩), .int .i64 l.length]).run P w.drew = .ok (.string ⟨l.toArray⟩) (w.drew.freeze ⟨g, 0, none⟩ l.length) := by
  refine Lib.run_unsafeString_row w.drew (ρ.t 127) (ρ.t 3) (ρ.t 9) (ρ.t 5) L.t127 X.cellsByte g size hsh l h0 hle h63 ?_
  intro j x hx
  rw [addr_add', Nat.zero_add]
  exact hcell j x hx
 have mixed := L.mixed
 have t72 := L.t72; have a72 := L.a72; have z72 := L.z72; have v72 := L.v72; have u72 := run_underlying L.t72
 have t70 := L.t70; have a70 := L.a70; have z70 := L.z70; have v70 := L.v70; have u70 := run_underlying L.t70
 have t37 := L.t37; have a37 := L.a37; have z37 := L.z37; have v37 := L.v37; have u37 := run_underlying L.t37
 have t127 := L.t127; have a127 := L.a127; have z127 := L.z127; have v127 := L.v127; have u127 := run_underlying L.t127
 have t3 := L.t3; have a3 := L.a3; have z3 := L.z3; have v3 := L.v3; have u3 := run_underlying L.t3
 have t9 := L.t9; have a9 := L.a9; have z9 := L.z9; have v9 := L.v9; have u9 := run_underlying L.t9
 have t5 := X.t5; have a5 := X.a5; have z5 := X.z5; have v5 := X.v5; have u5 := run_underlying X.t5
 go_enter L.f169, Body.n169_ntmps ρ
 go_wp2
 go_region_o
 all_goals (go_wp2; go_ret; exact ⟨rfl, rfl⟩)
set_option maxHeartbeats 2000000 in
theorem bstr_nil (L : Lays.n169 P ρ) (X : Builder.Extra P ρ) (b : Nat) (w : World) (hc1 : w.cell? ⟨b, 1, none⟩ = some (.slice none 0 0)) :
  Calls P (ρ.f 169) #[.pointer (some ⟨b, 0, none⟩)] w fun e w' => e = .returned (.string ⟨#[]⟩) ∧ w' = w.drew := by
 have hUS := Any.unsafeString_none L X
 have c1 : w.drew.cell? ⟨b, 1, none⟩ = some (.slice none 0 0) := hc1
 have hSD : (Builtin.unsafeSliceData_ #[(ρ.t 37)] (ρ.t 127) #[.slice none 0 0]).run P w.drew = .ok (.pointer none) w.drew := rfl
 have mixed := L.mixed
 have t72 := L.t72; have a72 := L.a72; have z72 := L.z72; have v72 := L.v72; have u72 := run_underlying L.t72
 have t70 := L.t70; have a70 := L.a70; have z70 := L.z70; have v70 := L.v70; have u70 := run_underlying L.t70
 have t37 := L.t37; have a37 := L.a37; have z37 := L.z37; have v37 := L.v37; have u37 := run_underlying L.t37
 have t127 := L.t127; have a127 := L.a127; have z127 := L.z127; have v127 := L.v127; have u127 := run_underlying L.t127
 have t3 := L.t3; have a3 := L.a3; have z3 := L.z3; have v3 := L.v3; have u3 := run_underlying L.t3
 have t9 := L.t9; have a9 := L.a9; have z9 := L.z9; have v9 := L.v9; have u9 := run_underlying L.t9
 have t5 := X.t5; have a5 := X.a5; have z5 := X.z5; have v5 := X.v5; have u5 := run_underlying X.t5
 go_enter L.f169, Body.n169_ntmps ρ
 go_wp2
 go_region_o
 all_goals (go_wp2; go_ret; exact ⟨rfl, rfl⟩)
end
theorem size_bld : (Tryz.prog.info? 100).map (·.size) = some 2 := by kernel_rfl
theorem lies_bld : liesAt Tryz.prog Tryz.prog.depth 100 (2 / Tryz.prog.cellsOf 100) 0 100 1 = true := by kernel_rfl
set_option maxHeartbeats 1000000 in
set_option maxRecDepth 1000000 in
theorem cc_used (b : Nat) (w : World) (h0 : w.cell? ⟨b, 0, none⟩ = some (.pointer (some ⟨b, 0, none⟩))) :
  Calls Tryz.prog 113 #[.pointer (some ⟨b, 0, none⟩)] w fun e w' => e = .returned (.tuple #[]) ∧ w' = w := by
 obtain ⟨j, hj, _⟩ := Option.map_eq_some_iff.1 size_bld
 go_enter Tryz.func113, Tryz.ntmps113
 go_wp2
 rw [Lib.run_neq_ptr_same w _ Tryz.underlying98 hj]
 go_wp2
 go_end0
 exact ⟨rfl, rfl⟩
set_option maxHeartbeats 1000000 in
set_option maxRecDepth 1000000 in
theorem cc_fresh (b : Nat) (w : World) (h0 : w.cell? ⟨b, 0, none⟩ = some (.pointer none)) (hsh : w.shape? b = some (100, 2)) (hfz : w.frozen? ⟨b, 0, none⟩ = false) :
  Calls Tryz.prog 113 #[.pointer (some ⟨b, 0, none⟩)] w fun e w' => e = .returned (.tuple #[]) ∧ w' = w.setCell ⟨b, 0, none⟩ (.pointer (some ⟨b, 0, none⟩)) := by
 obtain ⟨j, hj, hjs⟩ := Option.map_eq_some_iff.1 size_bld
 go_enter Tryz.func113, Tryz.ntmps113
 go_wp2
 rw [Lib.run_to_unsafe w ⟨b, 0, none⟩ Tryz.underlying98 Tryz.underlying178 hj (by rw [hjs]; decide) hsh (Nat.zero_lt_succ 1)]
 simp only [Result.andThen]
 rw [Oper.upon_value]
 go_wp2
 rw [run_callFunc_extern Tryz.func141 (by kernel_rfl) (by kernel_rfl) (by kernel_rfl) (e := Extern.AbiNoEscape.same) (by kernel_rfl)]
 rw [Lib.run_noEscape]
 simp only [Result.andThen]
 rw [Oper.upon_value]
 go_wp2
 rw [Lib.run_from_unsafe w ⟨b, 0, none⟩ Tryz.underlying178 Tryz.underlying98 hj hsh lies_bld]
 simp only [Result.andThen]
 rw [Oper.upon_value]
 go_wp2
 go_end0
 exact ⟨rfl, rfl⟩
end Go.A
namespace Go.A
open Go.Proofs
theorem copyCheck_typ {σ : ASt} {b : Nat} (h : σ b = some (.typ 100 [.pointer none, .slice none 0 0])) :
  ACalls Tryz.prog 113 [.ptr b 0] σ fun v σ' => v = .tuple [] ∧ σ' = σ.set b (some (.obj [.ptr b 0, .sl .full []])) := by
 intro w vs hs ha
 cases ha with
 | cons h1 h2 =>
 cases h1; cases h2
 have hb : w.heap[b]? = some (.cells ⟨[.pointer none, .slice none 0 0]⟩ 100 (0, 0)) := hs b _ h
 refine (cc_fresh b w (by simp [World.cell?, hb]) (by simp [World.shape?, hb]) (by simp [World.frozen?, hb])).mono ?_
 rintro e w' ⟨rfl, rfl⟩
 have hw := Wrote.setCell (o := 0) hb (.pointer (some ⟨b, 0, none⟩))
 have hle : Le σ w (σ.set b (some (.obj [.ptr b 0, .sl .full []]))) (w.setCell ⟨b, 0, none⟩ (.pointer (some ⟨b, 0, none⟩))) := by
  refine ⟨hw.os, hw.tape, hw.output, by rw [hw.size]; exact Nat.le_refl _, fun x hx hn => ?_, fun x cs hx hn => ?_, fun x f hx hn => ?_⟩
  all_goals have hne : x ≠ b := by rintro rfl; rw [h] at hn; cases hn
  ·rw [ASt.set_ne hne]; exact ⟨hn, hw.other x hne⟩
  ·rw [ASt.set_ne hne]; exact ⟨.inr hn, hw.other x hne⟩
  ·rw [ASt.set_ne hne]; exact ⟨.inr ⟨f, Nat.le_refl _, hn⟩, shape_of_heap_eq (hw.other x hne), fun o _ => cell_of_heap_eq (hw.other x hne) o⟩
 have hro : RoleOk (σ.set b (some (.obj [.ptr b 0, .sl .full []]))) (w.setCell ⟨b, 0, none⟩ (.pointer (some ⟨b, 0, none⟩))) b (.obj [.ptr b 0, .sl .full []]) := by
  refine ⟨_, _, _, hw.new, ?_, fun o ho => ?_⟩
  ·exact .cons (.ptr _ _) (.cons .slN .nil)
  ·rw [hw.frozen]
   simp only [World.frozen?, hb]
   simp
 exact ⟨_, _, _, rfl, ⟨rfl, rfl⟩, hle, hw.sim hs hle hro, .tuple .nil⟩
theorem copyCheck_used {σ : ASt} {b : Nat} {x : AV} (h : σ b = some (.obj [.ptr b 0, x])) : ACalls Tryz.prog 113 [.ptr b 0] σ fun v σ' => v = .tuple [] ∧ σ' = σ := by
 intro w vs hs ha
 cases ha with
 | cons h1 h2 =>
 cases h1; cases h2
 obtain ⟨us, h3, h4, _⟩ := hs.objCell h
 cases h3 with
 | cons h5 h6 =>
 cases h5
 refine (cc_used b w (h4 0 _ rfl)).mono ?_
 rintro e w' ⟨rfl, rfl⟩
 exact ⟨_, _, _, rfl, ⟨rfl, rfl⟩, Le.refl _ _, hs, .tuple .nil⟩
theorem bstring_typ {σ : ASt} {b : Nat} (h : σ b = some (.typ 100 [.pointer none, .slice none 0 0])) : ACalls Tryz.prog 49 [.ptr b 0] σ fun v σ' => v = .str [] ∧ σ' = σ := by
 intro w vs hs ha
 cases ha with
 | cons h1 h2 =>
 cases h1; cases h2
 have hb : w.heap[b]? = some (.cells ⟨[.pointer none, .slice none 0 0]⟩ 100 (0, 0)) := hs b _ h
 refine (bstr_nil Tryz.lays169 Tryz.Builder_Extra_169 b w (by simp [World.cell?, hb])).mono ?_
 rintro e w' ⟨rfl, rfl⟩
 have hx : Ext w w.drew := Ext.drew (Ext.refl w)
 exact ⟨_, _, _, rfl, ⟨rfl, rfl⟩, ext_le hx, hs.ext hx, .str []⟩
theorem row_bytes {σ : ASt} {w : World} {b : Nat} : ∀ {l : List UInt8} {o : Nat}, Row σ w b o 1 (bytesAV l) → ∀ j x, l[j]? = some x → w.cell? ⟨b, o + j, none⟩ = some (.int .u8 x.toNat)
 | [], o, h, j, x, hj => by simp at hj
 | c :: l, o, h, j, x, hj => by
   cases h with
   | cons h1 h2 h3 =>
   cases j with
   | zero =>
     simp only [List.getElem?_cons_zero, Option.some.injEq] at hj
     subst hj
     cases h2 with
     | cons g1 g2 g3 g4 =>
     cases g3
     exact g2
   | succ j =>
     have := row_bytes (l := l) h3 j x (by simpa using hj)
     rw [show o + (j + 1) = o + 1 + j by omega]
     exact this
theorem bstring_used {σ : ASt} {b g : Nat} {p : AV} {l : List UInt8} (h0 : l ≠ []) (hl : l.length ≤ 9223372036854775807) (h : σ b = some (.obj [p, .sl (.tok g 1 5) (bytesAV l)])) (hg : σ g = some (.tok l.length)) :
  ACalls Tryz.prog 49 [.ptr b 0] σ fun v σ' => v = .str l ∧ σ' = σ := by
 intro w vs hs ha
 cases ha with
 | cons h1 h2 =>
 cases h1; cases h2
 obtain ⟨us, h3, h4, h9⟩ := hs.objCell h
 cases h3 with
 | cons h5 h6 =>
 cases h6 with
 | cons h7 h8 =>
 cases h8
 obtain ⟨c, T, fr, k1, k2, k3⟩ := hs g _ hg
 have hlen : (bytesAV l).length = l.length := by simp [bytesAV]
 generalize hbl : bytesAV l = bl at h7
 cases h7 with
 | sl r1 r2 r3 r4 r5 =>
 subst hbl
 obtain ⟨rfl, rfl, rfl, r6, r7⟩ := r4
 have hpos : 0 < l.length := List.length_pos_iff.2 h0
 subst r2
 rw [hlen] at r3
 have hc1 := h4 1 _ rfl
 rw [hlen] at hc1
 refine (bstr_used Tryz.lays169 Tryz.Builder_Extra_169 b g _ _ l w h0 hc1 (by omega) r6 (by omega) hl ?_).mono ?_
 ·intro j x hj
  have := row_bytes r1 j x hj
  simpa using this
 rintro e w' ⟨rfl, rfl⟩
 have hother : ∀ x, x ≠ g → (w.drew.freeze ⟨g, 0, none⟩ l.length).heap[x]? = w.heap[x]? := by
  intro x hx
  simp only [World.freeze]
  rw [if_neg (by omega)]
  simp only [Array.getElem?_modify]
  rw [if_neg (Ne.symm hx)]
  rfl
 obtain ⟨lo, hi⟩ := fr
 have hk1 : w.drew.heap[g]? = some (.cells c T (lo, hi)) := k1
 obtain ⟨fr', hfr, hnew⟩ : ∃ fr' : Nat × Nat, fr'.2 ≤ l.length ∧ (w.drew.freeze ⟨g, 0, none⟩ l.length).heap[g]? = some (.cells c T fr') := by
  refine ⟨if lo == hi then (0, 0 + l.length) else (min lo 0, max hi (0 + l.length)), ?_, ?_⟩
  ·dsimp only at k3
   split <;> dsimp only <;> omega
  ·simp only [World.freeze]
   rw [if_neg (by omega)]
   simp only [Array.getElem?_modify, if_true, hk1, Option.map_some]
 have hshape : (w.drew.freeze ⟨g, 0, none⟩ l.length).shape? g = w.shape? g := by simp only [World.shape?, hnew, k1]
 have hcells : ∀ o, (w.drew.freeze ⟨g, 0, none⟩ l.length).cell? ⟨g, o, none⟩ = w.cell? ⟨g, o, none⟩ := fun o => by simp only [World.cell?, hnew, k1]
 have hle : Le σ w σ (w.drew.freeze ⟨g, 0, none⟩ l.length) := by
  refine ⟨?_, ?_, ?_, ?_, fun x hx hn => ?_, fun x cs hx hn => ?_, fun x f hx hn => ?_⟩
  ·simp only [World.freeze]; split <;> rfl
  ·simp only [World.freeze]; split <;> rfl
  ·simp only [World.freeze]; split <;> rfl
  ·simp only [World.freeze]; split
   ·exact Nat.le_refl _
   ·rw [Array.size_modify]; exact Nat.le_refl _
  ·have hne : x ≠ g := by rintro rfl; rw [hg] at hn; cases hn
   exact ⟨hn, hother x hne⟩
  ·have hne : x ≠ g := by rintro rfl; rw [hg] at hn; cases hn
   exact ⟨.inr hn, hother x hne⟩
  ·by_cases hne : x = g
   ·subst hne
    exact ⟨.inr ⟨f, Nat.le_refl _, hn⟩, hshape, fun o _ => hcells o⟩
   ·exact ⟨.inr ⟨f, Nat.le_refl _, hn⟩, shape_of_heap_eq (hother x hne), fun o _ => cell_of_heap_eq (hother x hne) o⟩
 have hsim : Sim σ (w.drew.freeze ⟨g, 0, none⟩ l.length) := by
  intro x q hx
  by_cases hne : x = g
  ·subst hne
   rw [hg] at hx
   injection hx with hx
   subst hx
   exact ⟨c, T, fr', hnew, k2, hfr⟩
  ·exact (hs x q hx).keep hle (hother x hne)
 exact ⟨_, _, _, rfl, ⟨rfl, rfl⟩, hle, hsim, .str l⟩
end Go.A
namespace Go.A
open Go.Proofs
/-! 78: tabular/token.Quote -/
def c78_3 : ACode := .seq (.ops [ oq 2 (.mv (.v (.str [])))]) (.seq (.ops [ oq 3 (.mv (.t 0)), oe 4 (.call 117 [(.t 3), (.v (.str [34])), (.v (.str [34, 34]))]), oq 5 (.bin .add (.v (.str [34])) (.t 4)), oq 6 (.bin .add (.t 5) (.v (.str [34]))), oq 2 (.mv (.t 6))]) .ret)
@[go_sem] def c78_3_wp := wp_of c78_3.eq_1
def c78 : AFn := ⟨7, [.t 2], c78_3⟩
theorem c78_ok : compF Tryz.prog Tryz.f78 = some c78 := by kernel_rfl
theorem a78 {args : List AV} {σ : ASt} {R : AV → ASt → Prop} (hl : args.length ≤ 7) (h : c78_3.wp Tryz.prog (RetQ [.t 2] R) (init args) σ) : ACalls Tryz.prog 78 args σ R := acalls_of Tryz.func78 c78_ok hl h
end Go.A
namespace Go.A
open Go.Proofs Go.Lib
def dbl (s : List UInt8) : List UInt8 := s.flatMap fun c => if c = 34 then [34, 34] else [c]
theorem dbl_q (s : List UInt8) : dbl (34 :: s) = 34 :: 34 :: dbl s := by simp [dbl]
theorem dbl_o {c : UInt8} (h : c ≠ 34) (s : List UInt8) : dbl (c :: s) = c :: dbl s := by simp [dbl, h]
theorem rep_ne {c : UInt8} (hc : c ≠ 34) (new : List UInt8) : ∀ (k : Nat) (s : List UInt8), replaceK [34] new k (c :: s) = c :: replaceK [34] new k s
 | 0, s => rfl
 | k + 1, s => by
   have hp : ([34] : List UInt8).isPrefixOf (c :: s) = false := by
    simp [List.isPrefixOf]
    exact fun h => hc h.symm
   have hi : index (c :: s) [34] = if index s [34] == -1 then -1 else index s [34] + 1 := by
    rw [index, hp]
    simp
   unfold replaceK
   rw [hi]
   have hge := index_ge s [34]
   by_cases h : index s [34] = -1
   ·have hb : (index s [34] == -1) = true := by rw [h]; rfl
    rw [if_pos hb, if_pos (by rfl), if_pos hb]
   ·have hb : ¬ (index s [34] == -1) = true := by rw [beq_iff_eq]; exact h
    rw [if_neg hb, if_neg (by rw [beq_iff_eq]; omega), if_neg hb]
    have e : (index s [34] + 1).toNat = (index s [34]).toNat + 1 := by omega
    rw [e, List.take_succ_cons]
    simp only [List.length_cons, List.length_nil, List.cons_append]
    rw [show (index s [34]).toNat + 1 + (0 + 1) = ((index s [34]).toNat + (0 + 1)) + 1 by omega, List.drop_succ_cons]
theorem rep_eq (new : List UInt8) (k : Nat) (s : List UInt8) : replaceK [34] new (k + 1) (34 :: s) = new ++ replaceK [34] new k s := by
 have hi : index (34 :: s) [34] = 0 := by
  rw [index]
  simp [List.isPrefixOf]
 rw [replaceK, hi]
 simp
theorem rep_dbl : ∀ s : List UInt8, replaceK [34] [34, 34] (s.count 34) s = dbl s
 | [] => rfl
 | c :: s => by
   by_cases hc : c = 34
   ·subst hc
    rw [List.count_cons_self, rep_eq, rep_dbl s, dbl_q]
    rfl
   ·rw [List.count_cons_of_ne (by simpa using hc), rep_ne hc, rep_dbl s, dbl_o hc]
theorem replace_dbl (s : List UInt8) : replaceAll s [34] [34, 34] = dbl s := by
 unfold replaceAll replace replaceNum
 rw [if_neg (by decide), if_pos (.inl (by omega)), count_one, rep_dbl]
theorem dbl_len (s : List UInt8) : (dbl s).length ≤ 2 * s.length := by
 induction s with
 | nil => simp [dbl]
 | cons c s ih =>
   by_cases hc : c = 34
   ·subst hc; rw [dbl_q]; simp; omega
   ·rw [dbl_o hc]; simp; omega
def MaxL (σ : ASt) : Prop := ∃ m : Int, σ 2 = some (.fix ([m].map (AV.int .i64)))
theorem replace_ok {σ : ASt} (hM : MaxL σ) (s : List UInt8) (hs : s.length ≤ 100000) : ACalls Tryz.prog 117 [.str s, .str [34], .str [34, 34]] σ fun v σ' => v = .str (dbl s) ∧ σ' = σ := by
 obtain ⟨m, hm⟩ := hM
 refine ACalls.of_below (u := .string ⟨⟨dbl s⟩⟩) (fun w vs hsim ha => ?_) fun w => .str _
 cases ha with
 | cons h1 h2 =>
 cases h2 with
 | cons h2 h3 =>
 cases h3 with
 | cons h3 h4 =>
 cases h1; cases h2; cases h3; cases h4
 have hcell := fix_ints hsim hm 0 m rfl
 have e1 : (⟨⟨s⟩⟩ : ByteArray).size = s.length := rfl
 have e2 : (⟨⟨[34, 34]⟩⟩ : ByteArray).size = 2 := rfl
 have hcb : countB ⟨⟨s⟩⟩ ⟨⟨[34]⟩⟩ ≤ s.length := by
  show count s [34] ≤ s.length
  rw [count_one]
  exact List.count_le_length
 refine (Tryz.strings_ReplaceAll ⟨⟨s⟩⟩ ⟨⟨[34]⟩⟩ ⟨⟨[34, 34]⟩⟩ m w (by rw [e1]; omega) hcell (by decide) (by rw [e1, e2]; omega)).mono ?_
 rintro e w' ⟨rfl, hb⟩
 refine ⟨?_, hb⟩
 show _ = Ending.returned (.string ⟨⟨dbl s⟩⟩)
 rw [← replace_dbl]
theorem tquote_ok {σ : ASt} (hM : MaxL σ) (s : List UInt8) (hs : s.length ≤ 100000) : ACalls Tryz.prog 78 [.str s] σ fun v σ' => v = .str (34 :: dbl s ++ [34]) ∧ σ' = σ := by
 have hl := dbl_len s
 refine a78 (by simp) ?_
 simp (disch := first | assumption | omega) only [go_sem, reduceCtorEq, ↓reduceIte]
 refine (replace_ok hM s hs).mono ?_
 rintro v σ' ⟨rfl, rfl⟩
 have e1 : binS .add [34] (dbl s) = some (.str (34 :: dbl s)) := binS_add (by simp; omega)
 have e2 : binS .add (34 :: dbl s) [34] = some (.str (34 :: dbl s ++ [34])) := binS_add (by simp; omega)
 simp (disch := first | assumption | omega) only [go_sem, ↓reduceIte, e1, e2]
 exact retC_by (Drop.refl _) (.refl _) ⟨rfl, rfl⟩
end Go.A
namespace Go.A
open Go.Proofs
/-! 81: (tabular/addr.Ref).Text -/
def c81_3 : ACode := .seq (.ops [ oe 1 (.box (.t 0)), oq 2 (.mv (.v (.str [])))]) (.seq (.ops [ oq 3 (.fa 3 (.t 1)), oq 4 (.ld none (.t 3)), oq 6 (.fa 1 (.t 1)), oq 7 (.ld none (.t 6)), oq 10 (.fa 2 (.t 1)), oq 11 (.ld none (.t 10)), oq 14 (.fa 0 (.t 1)), oq 15 (.ld none (.t 14)), oq 16 (.bin .add (.t 15) (.v (.int .i64 1))), ⟨some 5, none, .e (.call 120 [(.t 4)]), [⟨none, .ld none (.t 6), 7⟩, ⟨none, .ld none (.t 10), 11⟩, ⟨none, .ld none (.t 14), 15⟩]⟩, ⟨some 8, none, .e (.call 121 [(.t 7)]), [⟨none, .ld none (.t 10), 11⟩, ⟨none, .ld none (.t 14), 15⟩]⟩, oq 9 (.bin .add (.t 5) (.t 8)), ⟨some 12, none, .e (.call 120 [(.t 11)]), [⟨none, .ld none (.t 14), 15⟩]⟩, oq 13 (.bin .add (.t 9) (.t 12)), oe 17 (.call 122 [(.t 16)]), oq 18 (.bin .add (.t 13) (.t 17)), oq 2 (.mv (.t 18))]) .ret)
@[go_sem] def c81_3_wp := wp_of c81_3.eq_1
def c81 : AFn := ⟨19, [.t 2], c81_3⟩
theorem c81_ok : compF Tryz.prog Tryz.f81 = some c81 := by kernel_rfl
theorem a81 {args : List AV} {σ : ASt} {R : AV → ASt → Prop} (hl : args.length ≤ 19) (h : c81_3.wp Tryz.prog (RetQ [.t 2] R) (init args) σ) : ACalls Tryz.prog 81 args σ R := acalls_of Tryz.func81 c81_ok hl h
/-! 82: (tabular/addr.Area).Text -/
def c82_3 : ACode := .seq (.ops [ oe 1 (.box (.t 0)), oq 2 (.mv (.v (.str [])))]) (.seq (.ops [ oq 3 (.fa 0 (.t 1)), oq 4 (.ld (some 4) (.t 3)), oq 7 (.fa 4 (.t 1)), oq 8 (.ld (some 4) (.t 7)), ⟨some 5, none, .e (.call 81 [(.t 4)]), [⟨none, .ld (some 4) (.t 7), 8⟩]⟩, oq 6 (.bin .add (.t 5) (.v (.str [58]))), oe 9 (.call 81 [(.t 8)]), oq 10 (.bin .add (.t 6) (.t 9)), oq 2 (.mv (.t 10))]) .ret)
@[go_sem] def c82_3_wp := wp_of c82_3.eq_1
def c82 : AFn := ⟨11, [.t 2], c82_3⟩
theorem c82_ok : compF Tryz.prog Tryz.f82 = some c82 := by kernel_rfl
theorem a82 {args : List AV} {σ : ASt} {R : AV → ASt → Prop} (hl : args.length ≤ 11) (h : c82_3.wp Tryz.prog (RetQ [.t 2] R) (init args) σ) : ACalls Tryz.prog 82 args σ R := acalls_of Tryz.func82 c82_ok hl h
/-! 120: tabular/addr.dollar -/
def c120_9 : ACode := .seq (.ops [ oq 2 (.mv (.v (.str [])))]) (.seq (.seq (.ops [ oq 3 (.mv (.t 0))]) (.cond (.t 3) (.seq (.ops [ oq 2 (.mv (.v (.str [36])))]) .ret) .skip)) (.seq (.ops [ oq 2 (.mv (.v (.str [])))]) .ret))
@[go_sem] def c120_9_wp := wp_of c120_9.eq_1
def c120 : AFn := ⟨4, [.t 2], c120_9⟩
theorem c120_ok : compF Tryz.prog Tryz.f120 = some c120 := by kernel_rfl
theorem a120 {args : List AV} {σ : ASt} {R : AV → ASt → Prop} (hl : args.length ≤ 4) (h : c120_9.wp Tryz.prog (RetQ [.t 2] R) (init args) σ) : ACalls Tryz.prog 120 args σ R := acalls_of Tryz.func120 c120_ok hl h
end Go.A
namespace Go.A
open Go.Proofs
theorem dollar_ok (b : Bool) : Pure Tryz.prog 120 [.bool b] (.str (dolP b)) := by
 intro σ
 refine a120 (by simp) ?_
 cases b
 ·simp (disch := first | assumption | omega) only [go_sem, reduceCtorEq, ↓reduceIte]
  exact retC_by (Drop.refl _) (.refl _) ⟨rfl, rfl⟩
 ·simp (disch := first | assumption | omega) only [go_sem, reduceCtorEq, ↓reduceIte]
  exact retC_by (Drop.refl _) (.refl _) ⟨rfl, rfl⟩
theorem text_ok {σ : ASt} (ht : Tab σ) {r : Ref} (hg : r.good = true) : ACalls Tryz.prog 81 [refAV r] σ fun v σ' => v = .str (textP r) ∧ σ' = σ := by
 have hg' := hg
 simp only [Ref.good, decide_eq_true_eq] at hg'
 obtain ⟨g1, g2, g3, g4⟩ := hg'
 have hi := itoa_num g1 g2
 have hl := letters_len r.col
 have hn := (num_facts g1 g2).2.2.2.1
 have hd1 : (dolP r.absCol).length ≤ 1 := by unfold dolP; split <;> simp
 have hd2 : (dolP r.absRow).length ≤ 1 := by unfold dolP; split <;> simp
 obtain ⟨l, hlq⟩ : ∃ l, textP r = l := ⟨_, rfl⟩
 rw [hlq]
 unfold textP at hlq
 refine a81 (by simp) ?_
 simp (disch := first | assumption | omega | (simp only [List.length_append, List.length_cons, List.length_nil]; omega)) only [go_sem, refAV]
 refine boxC_by rfl fun b hb => ?_
 simp (disch := first | assumption | omega | (simp only [List.length_append, List.length_cons, List.length_nil]; omega)) only [go_sem, Nat.reduceEqDiff, ↓reduceIte]
 refine (dollar_ok _).use ?_
 simp (disch := first | assumption | omega | (simp only [List.length_append, List.length_cons, List.length_nil]; omega)) only [go_sem, Nat.reduceEqDiff, ↓reduceIte]
 refine (letters_ok _).use ?_
 simp (disch := first | assumption | omega | (simp only [List.length_append, List.length_cons, List.length_nil]; omega)) only [go_sem, Nat.reduceEqDiff, ↓reduceIte]
 refine (dollar_ok _).use ?_
 simp (disch := first | assumption | omega | (simp only [List.length_append, List.length_cons, List.length_nil]; omega)) only [go_sem, Nat.reduceEqDiff, ↓reduceIte]
 refine (itoa_ok (ht.set hb) (by omega) (by omega)).mono ?_
 rintro v σ' ⟨rfl, rfl⟩
 rw [hi]
 simp (disch := first | assumption | omega | (simp only [List.length_append, List.length_cons, List.length_nil]; omega)) only [go_sem, Nat.reduceEqDiff, ↓reduceIte, hlq]
 exact retC_by (by repeat' (first | exact Drop.refl _ | with_reducible refine Drop.off ?_ (by assumption))) (.refl _) ⟨rfl, rfl⟩
theorem atext_ok {σ : ASt} (ht : Tab σ) {a b : Ref} (ha : a.good = true) (hb : b.good = true) : ACalls Tryz.prog 82 [areaAV a b] σ fun v σ' => v = .str (textP a ++ [58] ++ textP b) ∧ σ' = σ := by
 have l1 := text_len ha
 have l2 := text_len hb
 refine a82 (by simp) ?_
 simp (disch := first | assumption | omega) only [go_sem, areaAV]
 refine boxC_by rfl fun b0 hb0 => ?_
 simp (disch := first | assumption | omega) only [go_sem, Nat.reduceEqDiff, Nat.reduceAdd, Nat.reduceLeDiff, ↓reduceIte]
 refine (text_ok (ht.set hb0) ha).mono ?_
 rintro v σ' ⟨rfl, rfl⟩
 have e1 : binS .add (textP a) [58] = some (.str (textP a ++ [58])) := binS_add (by simp only [List.length_cons, List.length_nil]; omega)
 have e2 : binS .add (textP a ++ [58]) (textP b) = some (.str (textP a ++ [58] ++ textP b)) := binS_add (by simp only [List.length_append, List.length_cons, List.length_nil]; omega)
 simp (disch := first | assumption | omega) only [go_sem, Nat.reduceEqDiff, Nat.reduceAdd, Nat.reduceLeDiff, ↓reduceIte, e1]
 refine (text_ok (ht.set hb0) hb).mono ?_
 rintro v σ' ⟨rfl, rfl⟩
 simp (disch := first | assumption | omega) only [go_sem, Nat.reduceEqDiff, ↓reduceIte, e2]
 exact retC_by (by repeat' (first | exact Drop.refl _ | with_reducible refine Drop.off ?_ (by assumption))) (.refl _) ⟨rfl, rfl⟩
end Go.A
namespace Go.A
open Go.Proofs
/-! 30: tabular/deci.Parse -/
def c30_25 : ACode := .seq (.ops [ oq 47 (.bin .lss (.t 46) (.t 45))]) (.seq (.cond (.t 47) .skip (.exit 0)) (.seq (.block 1 (.seq (.ops [ oq 48 (.ia 1 (.t 44) (.t 46)), oq 49 (.ld none (.t 48)), oq 11 (.mv (.t 49))]) (.seq (.seq (.ops [ oq 50 (.mv (.t 11)), oq 51 (.bin .lss (.t 50) (.v (.int .u8 48))), oq 52 (.mv (.t 51)), ⟨some 53, some (52, false), .q (.mv (.t 11)), []⟩, ⟨some 54, some (52, false), .q (.bin .gtr (.t 53) (.v (.int .u8 57))), []⟩, oq 55 (.pick (.t 52) (.v (.bool true)) (.t 54)), oq 56 (.mv (.t 55)), ⟨some 57, some (56, false), .q (.mv (.t 9)), []⟩, ⟨some 58, some (56, false), .q (.bin .gtr (.t 57) (.v (.int .u64 99999999999999999))), []⟩, oq 59 (.pick (.t 56) (.v (.bool true)) (.t 58))]) (.cond (.t 59) (.seq (.ops [ oq 2 (.mv (.v (.int .i64 0))), oq 3 (.mv (.v (.bool false)))]) .ret) .skip)) (.ops [ oq 60 (.mv (.t 9)), oq 61 (.bin .mul (.v (.int .u64 10)) (.t 60)), oq 62 (.mv (.t 11)), oq 63 (.bin .sub (.t 62) (.v (.int .u8 48))), oq 64 (.conv .u64 (.t 63)), oq 65 (.bin .add (.t 61) (.t 64)), oq 9 (.mv (.t 65))])))) (.ops [ oq 66 (.bin .add (.t 46) (.v (.int .i64 1))), oq 46 (.mv (.t 66))])))
def c30_32 : ACode := .seq (.ops [ oq 9 (.mv (.v (.int .u64 0)))]) (.seq (.seq (.ops [ oq 37 (.mv (.t 6)), oq 38 (.mv (.t 7)), oq 39 (.bin .add (.t 37) (.t 38)), oq 40 (.mv (.t 7)), oq 41 (.lenS (.t 40)), oq 42 (.slfrom (true, 0) (.v (.str [48, 48, 48, 48])) (.t 41)), oq 43 (.bin .add (.t 39) (.t 42)), oe 44 (.s2b (.t 43)), oq 45 (.len (.t 44)), oq 46 (.mv (.v (.int .i64 0)))]) (.block 0 (.loop c30_25))) (.seq (.ops [ oq 67 (.mv (.t 5)), oq 68 (.mv (.t 9)), oe 69 (.call 65 [(.t 67), (.v (.int .u64 0)), (.t 68)]), oq 70 (.ext 0 (.t 69)), oq 71 (.ext 1 (.t 69)), oq 2 (.mv (.t 70)), oq 3 (.mv (.t 71))]) .ret))
def c30_36 : ACode := .seq (.ops [ oq 2 (.mv (.v (.int .i64 0))), oq 3 (.mv (.v (.bool false)))]) (.seq (.ops [ oq 13 (.mv (.t 0)), oe 14 (.call 63 [(.t 13), (.v (.str [45]))]), oq 12 (.mv (.t 14)), oq 15 (.ext 0 (.t 12)), oq 16 (.ext 1 (.t 12)), oq 4 (.mv (.t 15)), oq 5 (.mv (.t 16))]) (.seq (.ops [ oq 18 (.mv (.t 4)), oe 19 (.call 64 [(.t 18), (.v (.str [46]))]), oq 17 (.mv (.t 19)), oq 20 (.ext 0 (.t 17)), oq 21 (.ext 1 (.t 17)), oq 22 (.ext 2 (.t 17)), oq 6 (.mv (.t 20)), oq 7 (.mv (.t 21)), oq 8 (.mv (.t 22))]) (.seq (.seq (.ops [ oq 23 (.mv (.t 6)), oq 24 (.bin .eql (.t 23) (.v (.str []))), oq 25 (.mv (.t 24)), ⟨some 26, some (25, false), .q (.mv (.t 8)), []⟩, ⟨some 27, some (25, false), .q (.mv (.t 26)), []⟩, ⟨some 28, some (27, true), .q (.mv (.t 7)), []⟩, ⟨some 29, some (27, true), .q (.bin .eql (.t 28) (.v (.str []))), []⟩, ⟨some 30, some (27, true), .q (.mv (.t 29)), []⟩, ⟨some 31, some (30, false), .q (.mv (.t 7)), []⟩, ⟨some 32, some (30, false), .q (.lenS (.t 31)), []⟩, ⟨some 33, some (30, false), .q (.bin .gtr (.t 32) (.v (.int .i64 4))), []⟩, ⟨some 34, some (27, true), .q (.pick (.t 30) (.v (.bool true)) (.t 33)), []⟩, ⟨some 35, some (25, false), .q (.pick (.t 27) (.t 34) (.v (.bool false))), []⟩, oq 36 (.pick (.t 25) (.v (.bool true)) (.t 35))]) (.cond (.t 36) (.seq (.ops [ oq 2 (.mv (.v (.int .i64 0))), oq 3 (.mv (.v (.bool false)))]) .ret) .skip)) c30_32)))
@[go_sem] def c30_25_wp := wp_of c30_25.eq_1
@[go_sem] def c30_32_wp := wp_of c30_32.eq_1
@[go_sem] def c30_36_wp := wp_of c30_36.eq_1
def c30 : AFn := ⟨72, [.t 2, .t 3], c30_36⟩
theorem c30_ok : compF Tryz.prog Tryz.f30 = some c30 := by kernel_rfl
theorem a30 {args : List AV} {σ : ASt} {R : AV → ASt → Prop} (hl : args.length ≤ 72) (h : c30_36.wp Tryz.prog (RetQ [.t 2, .t 3] R) (init args) σ) : ACalls Tryz.prog 30 args σ R := acalls_of Tryz.func30 c30_ok hl h
/-! 64: strings.Cut -/
def c64_3 : ACode := .seq (.ops [ oq 4 (.mv (.v (.str []))), oq 5 (.mv (.v (.str []))), oq 6 (.mv (.v (.bool false)))]) (.seq (.ops [ oq 7 (.mv (.t 0)), oq 8 (.mv (.t 1)), oe 9 (.call 100 [(.t 7), (.t 8)]), oq 10 (.ext 0 (.t 9)), oq 11 (.ext 1 (.t 9)), oq 12 (.ext 2 (.t 9)), oq 4 (.mv (.t 10)), oq 5 (.mv (.t 11)), oq 6 (.mv (.t 12))]) .ret)
@[go_sem] def c64_3_wp := wp_of c64_3.eq_1
def c64 : AFn := ⟨13, [.t 4, .t 5, .t 6], c64_3⟩
theorem c64_ok : compF Tryz.prog Tryz.f64 = some c64 := by kernel_rfl
theorem a64 {args : List AV} {σ : ASt} {R : AV → ASt → Prop} (hl : args.length ≤ 13) (h : c64_3.wp Tryz.prog (RetQ [.t 4, .t 5, .t 6] R) (init args) σ) : ACalls Tryz.prog 64 args σ R := acalls_of Tryz.func64 c64_ok hl h
/-! 65: tabular/deci.made -/
def c65_15 : ACode := .seq (.ops [ oq 6 (.mv (.v (.int .i64 0))), oq 7 (.mv (.v (.bool false)))]) (.seq (.seq (.ops [ oq 8 (.mv (.t 1)), oq 9 (.bin .gtr (.t 8) (.v (.int .u64 0))), oq 10 (.mv (.t 9)), ⟨some 11, some (10, false), .q (.mv (.t 2)), []⟩, ⟨some 12, some (10, false), .q (.bin .gtr (.t 11) (.v (.int .u64 999999999999999999))), []⟩, oq 13 (.pick (.t 10) (.v (.bool true)) (.t 12))]) (.cond (.t 13) (.seq (.ops [ oq 6 (.mv (.v (.int .i64 0))), oq 7 (.mv (.v (.bool false)))]) .ret) .skip)) (.seq (.seq (.ops [ oq 14 (.mv (.t 0))]) (.cond (.t 14) (.seq (.ops [ oq 15 (.mv (.t 2)), oq 16 (.conv .i64 (.t 15)), oq 17 (.un .neg (.t 16)), oq 6 (.mv (.t 17)), oq 7 (.mv (.v (.bool true)))]) .ret) .skip)) (.seq (.ops [ oq 18 (.mv (.t 2)), oq 19 (.conv .i64 (.t 18)), oq 6 (.mv (.t 19)), oq 7 (.mv (.v (.bool true)))]) .ret)))
@[go_sem] def c65_15_wp := wp_of c65_15.eq_1
def c65 : AFn := ⟨20, [.t 6, .t 7], c65_15⟩
theorem c65_ok : compF Tryz.prog Tryz.f65 = some c65 := by kernel_rfl
theorem a65 {args : List AV} {σ : ASt} {R : AV → ASt → Prop} (hl : args.length ≤ 20) (h : c65_15.wp Tryz.prog (RetQ [.t 6, .t 7] R) (init args) σ) : ACalls Tryz.prog 65 args σ R := acalls_of Tryz.func65 c65_ok hl h
/-! 77: (tabular/deci.Dec).Text -/
def c77_20 : ACode := .seq (.ops [ oq 2 (.mv (.v (.str [])))]) (.seq (.ops [ oq 6 (.mv (.t 0)), oe 7 (.call 114 [(.t 6)]), oq 3 (.mv (.t 7))]) (.seq (.ops [ oq 8 (.mv (.t 3)), oq 9 (.bin .quo (.t 8) (.v (.int .u64 10000))), oe 10 (.call 115 [(.t 9), (.v (.int .i64 10))]), oq 4 (.mv (.t 10))]) (.seq (.seq (.ops [ oq 11 (.mv (.t 3)), oq 12 (.bin .rem (.t 11) (.v (.int .u64 10000))), oq 5 (.mv (.t 12))]) (.seq (.ops [ oq 13 (.mv (.t 5)), oq 14 (.bin .gtr (.t 13) (.v (.int .u64 0)))]) (.cond (.t 14) (.ops [ oq 15 (.mv (.t 4)), oq 16 (.mv (.t 5)), oq 17 (.bin .add (.v (.int .u64 10000)) (.t 16)), oe 18 (.call 115 [(.t 17), (.v (.int .i64 10))]), oq 19 (.slfrom (true, 0) (.t 18) (.v (.int .i64 1))), oe 20 (.call 116 [(.t 19), (.v (.str [48]))]), oq 21 (.bin .add (.v (.str [46])) (.t 20)), oq 22 (.bin .add (.t 15) (.t 21)), oq 4 (.mv (.t 22))]) .skip))) (.seq (.seq (.ops [ oq 23 (.mv (.t 0)), oq 24 (.bin .lss (.t 23) (.v (.int .i64 0)))]) (.cond (.t 24) (.seq (.ops [ oq 25 (.mv (.t 4)), oq 26 (.bin .add (.v (.str [45])) (.t 25)), oq 2 (.mv (.t 26))]) .ret) .skip)) (.seq (.ops [ oq 27 (.mv (.t 4)), oq 2 (.mv (.t 27))]) .ret)))))
@[go_sem] def c77_20_wp := wp_of c77_20.eq_1
def c77 : AFn := ⟨28, [.t 2], c77_20⟩
theorem c77_ok : compF Tryz.prog Tryz.f77 = some c77 := by kernel_rfl
theorem a77 {args : List AV} {σ : ASt} {R : AV → ASt → Prop} (hl : args.length ≤ 28) (h : c77_20.wp Tryz.prog (RetQ [.t 2] R) (init args) σ) : ACalls Tryz.prog 77 args σ R := acalls_of Tryz.func77 c77_ok hl h
/-! 100: internal/stringslite.Cut -/
def c100_11 : ACode := .seq (.ops [ oq 4 (.mv (.v (.str []))), oq 5 (.mv (.v (.str []))), oq 6 (.mv (.v (.bool false)))]) (.seq (.seq (.ops [ oq 8 (.mv (.t 0)), oq 9 (.mv (.t 1)), oe 10 (.call 129 [(.t 8), (.t 9)]), oq 7 (.mv (.t 10))]) (.seq (.ops [ oq 11 (.mv (.t 7)), oq 12 (.bin .geq (.t 11) (.v (.int .i64 0)))]) (.cond (.t 12) (.seq (.ops [ oq 13 (.mv (.t 0)), oq 14 (.mv (.t 7)), oq 15 (.slto (true, 0) (.t 13) (.t 14)), oq 16 (.mv (.t 0)), oq 17 (.mv (.t 7)), oq 18 (.mv (.t 1)), oq 19 (.lenS (.t 18)), oq 20 (.bin .add (.t 17) (.t 19)), oq 21 (.slfrom (true, 0) (.t 16) (.t 20)), oq 4 (.mv (.t 15)), oq 5 (.mv (.t 21)), oq 6 (.mv (.v (.bool true)))]) .ret) .skip))) (.seq (.ops [ oq 22 (.mv (.t 0)), oq 4 (.mv (.t 22)), oq 5 (.mv (.v (.str []))), oq 6 (.mv (.v (.bool false)))]) .ret))
@[go_sem] def c100_11_wp := wp_of c100_11.eq_1
def c100 : AFn := ⟨23, [.t 4, .t 5, .t 6], c100_11⟩
theorem c100_ok : compF Tryz.prog Tryz.f100 = some c100 := by kernel_rfl
theorem a100 {args : List AV} {σ : ASt} {R : AV → ASt → Prop} (hl : args.length ≤ 23) (h : c100_11.wp Tryz.prog (RetQ [.t 4, .t 5, .t 6] R) (init args) σ) : ACalls Tryz.prog 100 args σ R := acalls_of Tryz.func100 c100_ok hl h
/-! 114: tabular/deci.size -/
def c114_9 : ACode := .seq (.ops [ oq 2 (.mv (.v (.int .u64 0)))]) (.seq (.seq (.ops [ oq 3 (.mv (.t 0)), oq 4 (.bin .lss (.t 3) (.v (.int .i64 0)))]) (.cond (.t 4) (.seq (.ops [ oq 5 (.mv (.t 0)), oq 6 (.un .neg (.t 5)), oq 7 (.conv .u64 (.t 6)), oq 2 (.mv (.t 7))]) .ret) .skip)) (.seq (.ops [ oq 8 (.mv (.t 0)), oq 9 (.conv .u64 (.t 8)), oq 2 (.mv (.t 9))]) .ret))
@[go_sem] def c114_9_wp := wp_of c114_9.eq_1
def c114 : AFn := ⟨10, [.t 2], c114_9⟩
theorem c114_ok : compF Tryz.prog Tryz.f114 = some c114 := by kernel_rfl
theorem a114 {args : List AV} {σ : ASt} {R : AV → ASt → Prop} (hl : args.length ≤ 10) (h : c114_9.wp Tryz.prog (RetQ [.t 2] R) (init args) σ) : ACalls Tryz.prog 114 args σ R := acalls_of Tryz.func114 c114_ok hl h
/-! 115: strconv.FormatUint -/
def c115_3 : ACode := .seq (.ops [ oq 4 (.mv (.v (.str [])))]) (.seq (.ops [ oq 5 (.mv (.t 0)), oq 6 (.mv (.t 1)), oe 7 (.call 142 [(.t 5), (.t 6)]), oq 4 (.mv (.t 7))]) .ret)
@[go_sem] def c115_3_wp := wp_of c115_3.eq_1
def c115 : AFn := ⟨8, [.t 4], c115_3⟩
theorem c115_ok : compF Tryz.prog Tryz.f115 = some c115 := by kernel_rfl
theorem a115 {args : List AV} {σ : ASt} {R : AV → ASt → Prop} (hl : args.length ≤ 8) (h : c115_3.wp Tryz.prog (RetQ [.t 4] R) (init args) σ) : ACalls Tryz.prog 115 args σ R := acalls_of Tryz.func115 c115_ok hl h
/-! 118: (tabular/deci.Dec).Whole -/
def c118_3 : ACode := .seq (.ops [ oq 2 (.mv (.v (.int .i64 0)))]) (.seq (.ops [ oq 3 (.mv (.t 0)), oq 4 (.bin .quo (.t 3) (.v (.int .i64 10000))), oq 2 (.mv (.t 4))]) .ret)
@[go_sem] def c118_3_wp := wp_of c118_3.eq_1
def c118 : AFn := ⟨5, [.t 2], c118_3⟩
theorem c118_ok : compF Tryz.prog Tryz.f118 = some c118 := by kernel_rfl
theorem a118 {args : List AV} {σ : ASt} {R : AV → ASt → Prop} (hl : args.length ≤ 5) (h : c118_3.wp Tryz.prog (RetQ [.t 2] R) (init args) σ) : ACalls Tryz.prog 118 args σ R := acalls_of Tryz.func118 c118_ok hl h
/-! 124: (tabular/deci.Dec).IsInt -/
/-! 125: tabular/deci.Good -/
end Go.A
