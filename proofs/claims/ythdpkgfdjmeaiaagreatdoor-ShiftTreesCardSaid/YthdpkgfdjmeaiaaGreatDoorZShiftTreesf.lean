/- Part 6 of what ShiftTrees leans on: Hc Hd Hf CodeZe Ze CodeZg Zg CodeZw Zw CodeEb Eb CodeEc Ec CodeEd Ed CodeEe Ee CodeEh. -/
import Derived.Lib.ItoaMem
import Derived.Lib.AppendIntMem
import Derived.BigCall
import Derived.BigGuard
import Derived.Test.YthdpkgfdjmeaiaaGreatDoorProg
import Derived.KernelRfl
import Derived.Test.YthdpkgfdjmeaiaaGreatDoorZShiftTreese
set_option linter.defProp false
set_option linter.unusedSimpArgs false
set_option linter.unusedVariables false
set_option maxRecDepth 100000
namespace Go.A
open Go.Proofs Go.Shelf Go.RowKit Go.Sort
set_option maxHeartbeats 4000000 in
theorem fmtU_small (u : Nat) (hu : u < 100) (w : World) : Calls Tryz.prog 142 #[.int .u64 u, .int .i64 10] w fun e w' => e = .returned (.string ⟨(Lib.decDigits u).toArray⟩) ∧ Ext w w' := by
 have iu : (u : Int) < 100 := by omega
 go_enter Tryz.func142, Tryz.ntmps142
 go_wp2_with (go_at_call 161; refine (Tryz.internal_strconv_small u hu _).mono ?_; rintro e w' ⟨rfl, rfl⟩)
 go_ret
 exact ⟨rfl, Ext.refl _⟩
set_option maxHeartbeats 12800000 in
theorem fmtU_big (u : Nat) (hu : 100 ≤ u) (hu64 : u < 18446744073709551616) (w : World) (htab : Lib.TabIs Tryz.prog w "internal/strconv.uint64pow10" .u64 Lib.pow10Tab) :
  Calls Tryz.prog 142 #[.int .u64 u, .int .i64 10] w fun e w' => e = .returned (.string ⟨(Lib.decDigits u).toArray⟩) ∧ Ext w w' := by
 have hu1 : 1 ≤ u := by omega
 have hnd20 : Lib.nDigits u ≤ 20 := by have := Lib.numDigits_eq u hu1 hu64; split at this <;> omega
 have hal : Tryz.prog.arrayLen 193 = 24 := by kernel_rfl
 have hsl : ∀ W, (Instr.sliceAt 193 (.pointer (some ⟨w.heap.size, 0, none⟩)) none (some (.int .i64 (Lib.nDigits u : Int))) none).run Tryz.prog W = .ok (.slice (some ⟨w.heap.size, 0, none⟩) (Lib.nDigits u) 24) W := fun W => by
  rw [run_sliceAt_array_h W 193 ⟨w.heap.size, 0, none⟩ (by kernel_rfl) .i64 (Lib.nDigits u : Int) (by omega) (by rw [hal]; omega)]
  rw [hal]
  rfl
 have hH0 := Lib.holds_zero0 w 193 (Lib.nDigits u) (by omega)
 have hfmt := Tryz.internal_strconv_formatBase10 w.heap.size 0 24 u (Array.replicate (Lib.nDigits u) 0) (w.alloc (.cells Lib.zeros24 193)) hH0 (by rw [Array.size_replicate]; exact Lib.lt_pow_nDigits u) hu64 (by rw [Array.size_replicate]; omega)
 rw [Array.size_replicate] at hfmt
 have HH0 := Lib.hid hH0
 have iu : (100 : Int) ≤ (u : Int) := by omega
 clear hH0 hal
 go_enter Tryz.func142, Tryz.ntmps142
 go_wp2_with (first
  | (go_at_call 162; refine (Tryz.internal_strconv_numDigits u hu1 hu64 _ (Lib.tabIs_alloc htab _)).mono ?_; rintro e w' ⟨rfl, rfl⟩))
 go_at_call 163
 refine hfmt.mono ?_
 rintro e w' ⟨rfl, k, v', dk, rfl, hF⟩
 have hcv : (convert 55 9 (.slice (some ⟨w.heap.size, 0, none⟩) (Lib.nDigits u) 24)).run Tryz.prog ((putRow (fun (b : UInt8) => Value.int .u8 (b.toNat : Int)) (w.alloc (.cells Lib.zeros24 193)) w.heap.size 0 dk).drewN k) = .ok (.string ⟨(Lib.decDigits u).toArray⟩) ((putRow (fun (b : UInt8) => Value.int .u8 (b.toNat : Int)) (w.alloc (.cells Lib.zeros24 193)) w.heap.size 0 dk).drewN k) := by
  have h := run_convert_bytes_back (P := Tryz.prog) ((putRow (fun (b : UInt8) => Value.int .u8 (b.toNat : Int)) (w.alloc (.cells Lib.zeros24 193)) w.heap.size 0 dk).drewN k) 55 9 5 ⟨w.heap.size, 0, none⟩ 24 (Lib.decDigits u) Tryz.underlying55 Tryz.underlying5 Tryz.underlying9 (fun j hj => by
   rw [Lib.row_is_numeral hF j hj, Lib.add_plain, World.cell?_drewN]
   exact cell?_putRow (fun (b : UInt8) => Value.int .u8 (b.toNat : Int)) _ w.heap.size 0 _ dk HH0.out (by rw [hF.size, Array.size_replicate]) j (by rw [hF.size]; rw [Lib.decDigits_length] at hj; exact hj))
  rw [Lib.decDigits_length] at h
  exact h
 go_wp2
 go_ret
 obtain ⟨os, eo⟩ := Lib.fin_at w (.cells Lib.zeros24 193) dk k 0
 refine ⟨rfl, ?_⟩
 rw [eo]
 exact ext_grow w k os
theorem ifmt_ok {σ : ASt} (h : Tab σ) {u : Nat} (hu : u < 18446744073709551616) : ACalls Tryz.prog 142 [.int .u64 u, .int .i64 10] σ fun v σ' => v = .str (Lib.decDigits u) ∧ σ' = σ := by
 refine ACalls.of_ext (u := .string ⟨(Lib.decDigits u).toArray⟩) (fun w vs hs ha => ?_) fun w => .str _
 cases ha with
 | cons h1 h2 =>
 cases h2 with
 | cons h2 h3 =>
 cases h1; cases h2; cases h3
 by_cases hs2 : u < 100
 ·exact fmtU_small u hs2 w
 ·exact fmtU_big u (by omega) hu w (tabIs_of hs (by kernel_rfl) h)
theorem fmt_ok {σ : ASt} (h : Tab σ) {u : Nat} (hu : u < 18446744073709551616) : ACalls Tryz.prog 115 [.int .u64 u, .int .i64 10] σ fun v σ' => v = .str (Lib.decDigits u) ∧ σ' = σ := by
 refine a115 (by simp) ?_
 simp (disch := first | assumption | omega) only [go_sem, reduceCtorEq, Nat.reduceEqDiff, ↓reduceIte]
 refine (ifmt_ok h hu).mono ?_
 rintro v σ' ⟨rfl, rfl⟩
 simp (disch := first | assumption | omega) only [go_sem, ↓reduceIte]
 exact retC_by (Drop.refl _) (.refl _) ⟨rfl, rfl⟩
theorem cutPrefix_ok (s p : List UInt8) : Pure Tryz.prog 63 [.str s, .str p] (.tuple [.str (Lib.trimPrefix s p), .bool (Lib.hasPrefix s p)]) := by
 intro σ
 refine ACalls.of_ext (u := .tuple #[.string ⟨(Lib.trimPrefix s p).toArray⟩, .bool (Lib.hasPrefix s p)]) (fun w vs hs ha => ?_) fun w => .tuple (.cons (.str _) (.cons (.bool _) .nil))
 cases ha with
 | cons h1 h2 =>
 cases h2 with
 | cons h2 h3 =>
 cases h1; cases h2; cases h3
 exact (Tryz.strings_CutPrefix ⟨⟨s⟩⟩ ⟨⟨p⟩⟩ w).mono fun e w' ⟨he, hw⟩ => ⟨he, Ext.of_eq hw⟩
theorem trimRight_ok (s : List UInt8) (c : UInt8) (hc : c.toNat < 128) (hsl : s.length ≤ 9223372036854775807) : Pure Tryz.prog 116 [.str s, .str [c]] (.str (Lib.trimRightB s c)) := by
 intro σ
 refine ACalls.of_ext (u := .string ⟨(Lib.trimRightB s c).toArray⟩) (fun w vs hs ha => ?_) fun w => .str _
 cases ha with
 | cons h1 h2 =>
 cases h2 with
 | cons h2 h3 =>
 cases h1; cases h2; cases h3
 exact (Tryz.strings_TrimRight_one ⟨⟨s⟩⟩ c hc w (by simpa [ByteArray.size] using hsl)).mono fun e w' ⟨he, hw⟩ => ⟨he, Ext.of_eq hw⟩
theorem sindex_ok (s : List UInt8) (c : UInt8) : Pure Tryz.prog 129 [.str s, .str [c]] (.int .i64 (Lib.indexByte s c)) := by
 intro σ
 refine ACalls.of_ext (u := .int .i64 (Lib.indexByte s c)) (fun w vs hs ha => ?_) fun w => .int _ _
 cases ha with
 | cons h1 h2 =>
 cases h2 with
 | cons h2 h3 =>
 cases h1; cases h2; cases h3
 exact (Tryz.stringslite_Index_one ⟨⟨s⟩⟩ c w).mono fun e w' ⟨he, hw⟩ => ⟨he, Ext.of_eq hw⟩
theorem cutc_ok (l : List UInt8) (c : UInt8) (hl : l.length ≤ 1000000000) : Pure Tryz.prog 64 [.str l, .str [c]] (.tuple [.str (Lib.cut l [c]).1, .str (Lib.cut l [c]).2.1, .bool (Lib.cut l [c]).2.2]) := by
 have h1 : Pure Tryz.prog 100 [.str l, .str [c]] (.tuple [.str (Lib.cut l [c]).1, .str (Lib.cut l [c]).2.1, .bool (Lib.cut l [c]).2.2]) := by
  intro σ
  have hi := sindex_ok l c
  have hr := Lib.index_room l [c]
  unfold Lib.cut
  rw [Lib.index_one] at hr ⊢
  have hg := Lib.indexByte_ge l c
  refine a100 (by simp) ?_
  by_cases h0 : 0 ≤ Lib.indexByte l c
  ·obtain ⟨i, e⟩ : ∃ i : Nat, Lib.indexByte l c = i := ⟨(Lib.indexByte l c).toNat, by omega⟩
   rw [e] at hi hr ⊢
   have hr := hr (by omega)
   simp only [List.length_cons, List.length_nil] at hr
   rw [if_pos (by omega)]
   have e1 : (0 : Int) ≤ i := by omega
   have e2 : ((i : Int) + 1).toNat = i + 1 := by omega
   have e3 : (i : Int) ≤ l.length := by omega
   have e4 : (i : Int) + 1 ≤ l.length := by omega
   simp (disch := first | assumption | omega) only [go_sem, reduceCtorEq, Nat.reduceEqDiff, ↓reduceIte]
   refine hi.use ?_
   simp (disch := first | assumption | omega) only [go_sem, reduceCtorEq, Nat.reduceEqDiff, ↓reduceIte, e1, e2, List.take_length]
   exact retC_by (by repeat' (first | exact Drop.refl _ | with_reducible refine Drop.off ?_ (by assumption))) (.refl _) ⟨rfl, rfl⟩
  ·have e : Lib.indexByte l c = -1 := by omega
   rw [e] at hi ⊢
   rw [if_neg (by omega)]
   simp (disch := first | assumption | omega) only [go_sem, reduceCtorEq, Nat.reduceEqDiff, ↓reduceIte]
   refine hi.use ?_
   simp (disch := first | assumption | omega) only [go_sem, reduceCtorEq, Nat.reduceEqDiff, Int.reduceLE, ↓reduceIte, Int.reduceNeg]
   exact retC_by (by repeat' (first | exact Drop.refl _ | with_reducible refine Drop.off ?_ (by assumption))) (.refl _) ⟨rfl, rfl⟩
 intro σ
 refine a64 (by simp) ?_
 simp (disch := first | assumption | omega) only [go_sem, reduceCtorEq, Nat.reduceEqDiff, ↓reduceIte]
 refine h1.use ?_
 simp (disch := first | assumption | omega) only [go_sem, Nat.reduceEqDiff, ↓reduceIte]
 exact retC_by (by repeat' (first | exact Drop.refl _ | with_reducible refine Drop.off ?_ (by assumption))) (.refl _) ⟨rfl, rfl⟩
end Go.A
namespace Go.A
open Go.Proofs
def resAV (o : Option Int) : AV := .tuple [.int .i64 (o.getD 0), .bool o.isSome]
theorem size_ok (a : Int) (h0 : -9223372036854775808 ≤ a) (h1 : a ≤ 9223372036854775807) : Pure Tryz.prog 114 [.int .i64 a] (.int .u64 (a.natAbs : Nat)) := by
 intro σ
 refine a114 (by simp) ?_
 by_cases h : a < 0
 ·have e : IntKind.u64.wrap (IntKind.i64.wrap (0 - a)) = ((a.natAbs : Nat) : Int) := by rw [IntKind.wrap_u64, IntKind.wrap_i64]; omega
  simp (disch := first | assumption | omega) only [go_sem, reduceCtorEq, ↓reduceIte, h, e]
  exact retC_by (by repeat' (first | exact Drop.refl _ | with_reducible refine Drop.off ?_ (by assumption))) (.refl _) ⟨rfl, rfl⟩
 ·have e : IntKind.u64.wrap a = ((a.natAbs : Nat) : Int) := by rw [IntKind.wrap_u64]; omega
  simp (disch := first | assumption | omega) only [go_sem, reduceCtorEq, ↓reduceIte, h, e]
  exact retC_by (by repeat' (first | exact Drop.refl _ | with_reducible refine Drop.off ?_ (by assumption))) (.refl _) ⟨rfl, rfl⟩
theorem made_ok (m : Bool) (lo : Nat) (h : lo < 18446744073709551616) : Pure Tryz.prog 65 [.bool m, .int .u64 0, .int .u64 lo] (resAV (madeP m lo)) := by
 intro σ
 refine a65 (by simp) ?_
 unfold madeP
 by_cases hm : lo ≤ 999999999999999999
 ·have g1 : ¬ (999999999999999999 : Int) < lo := by omega
  have e1 : IntKind.i64.wrap (lo : Int) = lo := by rw [IntKind.wrap_i64]; omega
  have e2 : IntKind.i64.wrap (-(lo : Int)) = -lo := by rw [IntKind.wrap_i64]; omega
  rw [if_pos hm]
  cases m
  ·simp (disch := first | assumption | omega) only [go_sem, reduceCtorEq, Nat.reduceEqDiff, Int.reduceLT, ↓reduceIte, g1, e1]
   exact retC_by (by repeat' (first | exact Drop.refl _ | with_reducible refine Drop.off ?_ (by assumption))) (.refl _) ⟨rfl, rfl⟩
  ·simp (disch := first | assumption | omega) only [go_sem, reduceCtorEq, Nat.reduceEqDiff, Int.reduceLT, ↓reduceIte, g1, e1]
   refine retC_by (by repeat' (first | exact Drop.refl _ | with_reducible refine Drop.off ?_ (by assumption))) (.refl _) ⟨?_, rfl⟩
   rw [show (0 : Int) - lo = -lo by omega]
   rfl
 ·have g1 : (999999999999999999 : Int) < lo := by omega
  rw [if_neg hm]
  simp (disch := first | assumption | omega) only [go_sem, Nat.reduceEqDiff, Int.reduceLT, ↓reduceIte, g1]
  exact retC_by (by repeat' (first | exact Drop.refl _ | with_reducible refine Drop.off ?_ (by assumption))) (.refl _) ⟨rfl, rfl⟩
end Go.A
namespace Go.A
open Go.Proofs
theorem dtext_ok {σ : ASt} (h : Tab σ) {a : Int} (ha : a.natAbs ≤ 999999999999999999) : ACalls Tryz.prog 77 [.int .i64 a] σ fun v σ' => v = .str (textD a) ∧ σ' = σ := by
 have hS := size_ok a (by omega) (by omega)
 obtain ⟨T, hT⟩ : ∃ T, textD a = T := ⟨_, rfl⟩
 rw [hT]
 unfold textD placesP at hT
 obtain ⟨s, hs⟩ : ∃ s, a.natAbs = s := ⟨_, rfl⟩
 rw [hs] at hS hT ha
 have hd : (s : Int).tdiv 10000 = ((s / 10000 : Nat) : Int) := by rw [Int.tdiv_eq_ediv_of_nonneg (by omega)]; rfl
 have hm : (s : Int).tmod 10000 = ((s % 10000 : Nat) : Int) := by rw [Int.tmod_eq_emod_of_nonneg (by omega)]; rfl
 have hp : s % 10000 < 10000 := Nat.mod_lt _ (by omega)
 have hw : s / 10000 ≤ 99999999999999 := by omega
 obtain ⟨p, hpp⟩ : ∃ p, s % 10000 = p := ⟨_, rfl⟩
 obtain ⟨q, hqq⟩ : ∃ q, s / 10000 = q := ⟨_, rfl⟩
 rw [hpp] at hp hm hT
 rw [hqq] at hd hw hT
 have hqw : IntKind.u64.wrap (q : Int) = q := by rw [IntKind.wrap_u64]; omega
 refine a77 (by simp) ?_
 simp (disch := first | assumption | omega) only [go_sem, reduceCtorEq, ↓reduceIte]
 refine hS.use ?_
 simp (disch := first | assumption | omega) only [go_sem, ↓reduceIte, hd, hqw]
 refine (fmt_ok h (u := q) (by omega)).mono ?_
 rintro v σ' ⟨rfl, rfl⟩
 simp (disch := first | assumption | omega) only [go_sem, Nat.reduceEqDiff, ↓reduceIte, hm]
 have hql : (Lib.decDigits q).length ≤ 15 := dd_len 14 q (by omega)
 by_cases h0 : p = 0
 ·subst h0
  rw [if_pos rfl, List.append_nil] at hT
  have g0 : ¬ (0 : Int) < ((0 : Nat) : Int) := by omega
  simp (disch := first | assumption | omega) only [go_sem, reduceCtorEq, Int.reduceLT, ↓reduceIte]
  by_cases hn : a < 0
  ·have e1 : binS .add [45] (Lib.decDigits q) = some (.str T) := by rw [binS_add (by simp; omega), ← hT, if_pos hn]
   simp (disch := first | assumption | omega) only [go_sem, Nat.reduceEqDiff, ↓reduceIte, hn, e1]
   exact retC_by (by repeat' (first | exact Drop.refl _ | with_reducible refine Drop.off ?_ (by assumption))) (.refl _) ⟨rfl, rfl⟩
  ·rw [if_neg hn, List.nil_append] at hT
   subst hT
   simp (disch := first | assumption | omega) only [go_sem, Nat.reduceEqDiff, ↓reduceIte, hn]
   exact retC_by (by repeat' (first | exact Drop.refl _ | with_reducible refine Drop.off ?_ (by assumption))) (.refl _) ⟨rfl, rfl⟩
 ·rw [if_neg h0] at hT
  have g0 : (0 : Int) < (p : Int) := by omega
  have hDl : (Lib.decDigits (10000 + p)).length ≤ 5 := dd_len 4 _ (by omega)
  have hD1 : 1 ≤ (Lib.decDigits (10000 + p)).length := List.length_pos_iff.2 (dd_len_pos _)
  have hF := fmt_ok h (u := 10000 + p) (by omega)
  rw [show (((10000 + p : Nat) : Int)) = (10000 : Int) + p by omega] at hF
  have htl : (Lib.decDigits (10000 + p)).tail.length ≤ 4 := by rw [List.length_tail]; omega
  rw [← List.drop_one] at hT htl
  generalize Lib.decDigits (10000 + p) = D at *
  have hR := trimRight_ok (D.drop 1) 48 (by decide) (by omega)
  have hRl : (Lib.trimRightB (D.drop 1) 48).length ≤ 4 := by
   have := congrArg List.length (trim_back 48 (D.drop 1))
   rw [List.length_append] at this
   omega
  generalize Lib.trimRightB (D.drop 1) 48 = X at *
  have e1 : binS .add [46] X = some (.str (46 :: X)) := binS_add (by simp; omega)
  have e2 : binS .add (Lib.decDigits q) (46 :: X) = some (.str (Lib.decDigits q ++ 46 :: X)) := binS_add (by simp; omega)
  have g5 : (1 : Int) ≤ D.length := by omega
  simp (disch := first | assumption | omega) only [go_sem, Nat.reduceEqDiff, ↓reduceIte, g0]
  refine hF.mono ?_
  rintro v σ' ⟨rfl, rfl⟩
  simp (disch := first | assumption | omega) only [go_sem, ↓reduceIte, Int.reduceToNat, List.take_length]
  refine hR.use ?_
  simp (disch := first | assumption | omega) only [go_sem, reduceCtorEq, Nat.reduceEqDiff, ↓reduceIte, e1, e2]
  by_cases hn : a < 0
  ·have e3 : binS .add [45] (Lib.decDigits q ++ 46 :: X) = some (.str T) := by rw [binS_add (by simp; omega), ← hT, if_pos hn]
   simp (disch := first | assumption | omega) only [go_sem, Nat.reduceEqDiff, ↓reduceIte, hn, e3]
   exact retC_by (by repeat' (first | exact Drop.refl _ | with_reducible refine Drop.off ?_ (by assumption))) (.refl _) ⟨rfl, rfl⟩
  ·rw [if_neg hn, List.nil_append] at hT
   subst hT
   simp (disch := first | assumption | omega) only [go_sem, Nat.reduceEqDiff, ↓reduceIte, hn]
   exact retC_by (by repeat' (first | exact Drop.refl _ | with_reducible refine Drop.off ?_ (by assumption))) (.refl _) ⟨rfl, rfl⟩
end Go.A
namespace Go.A
open Go.Proofs
theorem prefix_minus (s : List UInt8) : Lib.hasPrefix s [45] = decide (s.head? = some 45) := by
 unfold Lib.hasPrefix
 cases s with
 | nil => rfl
 | cons c l =>
   simp only [List.isPrefixOf, Bool.and_true, List.head?_cons, Option.some.injEq]
   by_cases h : c = 45
   ·subst h; rfl
   ·have h1 : (45 == c) = false := by simpa using fun e => h e.symm
    rw [h1]; simp [h]
theorem trim_minus (s : List UInt8) : Lib.trimPrefix s [45] = if s.head? = some 45 then s.drop 1 else s := by
 unfold Lib.trimPrefix
 rw [prefix_minus]
 by_cases h : s.head? = some 45
 ·simp [h]
 ·simp [h]
theorem cut_len (l : List UInt8) (c : UInt8) : (Lib.cut l [c]).1.length + (Lib.cut l [c]).2.1.length ≤ l.length := by
 unfold Lib.cut
 split
 ·have := Lib.index_room l [c] (by assumption)
  simp at this ⊢
  omega
 ·simp
set_option maxHeartbeats 1000000 in
theorem dparse_ok (s : List UInt8) (hs : s.length ≤ 100000) : Pure Tryz.prog 30 [.str s] (resAV (parseD s)) := by
 intro σ
 have hP := cutPrefix_ok s [45]
 rw [prefix_minus, trim_minus] at hP
 obtain ⟨R, hR⟩ : ∃ R, parseD s = R := ⟨_, rfl⟩
 rw [hR]
 unfold parseD at hR
 dsimp only at hR
 generalize hm : decide (s.head? = some 45) = minus at *
 have hbl : (if s.head? = some 45 then s.drop 1 else s).length ≤ 100000 := by
  split
  ·rw [List.length_drop]; omega
  ·exact hs
 generalize (if s.head? = some 45 then s.drop 1 else s) = body at *
 have hC := cutc_ok body 46 (by omega)
 have hCl := cut_len body 46
 have hnf : (Lib.cut body [46]).2.2 = false → (Lib.cut body [46]).2.1 = [] := by
  unfold Lib.cut
  split <;> simp
 generalize (Lib.cut body [46]).1 = whole at *
 generalize (Lib.cut body [46]).2.1 = part at *
 generalize (Lib.cut body [46]).2.2 = dot at *
 unfold parseQ at hR
 obtain ⟨F, hF⟩ : ∃ F, F = ACode.wp Tryz.prog c30_32 := ⟨_, rfl⟩
 have fin : ∀ (a : AFr), part.length ≤ 4 → (accP 0 (whole ++ part ++ List.replicate (4 - part.length) 48)).bind (madeP minus) = R → (a 5 = .bool minus ∧ a 6 = .str whole ∧ a 7 = .str part) → F (RetQ [.t 2, .t 3] fun v σ' => v = resAV R ∧ σ' = σ) a σ := by
  intro a hp4 hacc hf
  rw [hF]
  have hl2 : whole.length + part.length ≤ 9223372036854775807 := by omega
  have g4 : (part.length : Int) ≤ 4 := by omega
  have e0 : ([48, 48, 48, 48] : List UInt8).drop part.length = List.replicate (4 - part.length) 48 := by
   have : part.length = 0 ∨ part.length = 1 ∨ part.length = 2 ∨ part.length = 3 ∨ part.length = 4 := by omega
   rcases this with h | h | h | h | h <;> rw [h] <;> rfl
  have e1 : binS .add (whole ++ part) (List.replicate (4 - part.length) 48) = some (.str (whole ++ part ++ List.replicate (4 - part.length) 48)) := binS_add (by simp; omega)
  obtain ⟨M, hM⟩ : ∃ M, whole ++ part ++ List.replicate (4 - part.length) 48 = M := ⟨_, rfl⟩
  rw [hM] at hacc e1
  have hMl : M.length ≤ 1000000 := by rw [← hM]; simp; omega
  simp (disch := first | assumption | omega | (simp only [List.length_append, List.length_cons, List.length_nil]; omega)) only [go_sem, Nat.reduceEqDiff, Nat.reduceAdd, ↓reduceIte, Int.reduceToNat, hf, e0, e1]
  refine s2b_shr ?_
  simp (disch := first | assumption | omega | (simp only [List.length_append, List.length_cons, List.length_nil]; omega)) only [go_sem, ↓reduceIte]
  refine wp_loop_on (fun (i : Nat) a σ' => i ≤ M.length ∧ (∃ n : Nat, n ≤ 999999999999999999 ∧ accP 0 M = accP n (M.drop i) ∧ a 9 = .int .u64 n) ∧ (a 5 = .bool minus ∧ a 44 = .sl .shr (bytesAV M) ∧ a 45 = .int .i64 M.length ∧ a 46 = .int .i64 i) ∧ σ' = σ) (fun i => M.length - i) 0 ⟨Nat.zero_le _, ⟨0, by omega, rfl, ?_⟩, ?_, rfl⟩ ?_
  ·simp (disch := first | assumption | omega | (simp only [List.length_append, List.length_cons, List.length_nil]; omega)) only [go_sem, Nat.reduceEqDiff, ↓reduceIte]
  ·simp (disch := first | assumption | omega | (simp only [List.length_append, List.length_cons, List.length_nil]; omega)) only [go_sem, Nat.reduceEqDiff, ↓reduceIte, hf]
  rintro i a σ1 ⟨hi, ⟨n, hn, hac, hf9⟩, hf, rfl⟩
  rw [hac] at hacc
  by_cases hlt : i < M.length
  ·have hidx : M[i]? = some (M[i]'hlt) := List.getElem?_eq_getElem hlt
   rw [List.drop_eq_getElem_cons hlt] at hac hacc
   obtain ⟨c, hc⟩ : ∃ c, M[i]'hlt = c := ⟨_, rfl⟩
   rw [hc] at hidx hac hacc
   have hlt' : (i : Int) < M.length := by omega
   have hcb : c.toNat < 256 := c.toNat_lt
   rw [accP] at hac hacc
   by_cases h1 : c.toNat < 48
   ·have h1' : (c.toNat : Int) < 48 := by omega
    rw [if_pos (by omega)] at hacc
    subst hacc
    simp (disch := first | assumption | omega | (simp only [List.length_append, List.length_cons, List.length_nil]; omega)) only [go_sem, Nat.reduceEqDiff, ↓reduceIte, hf, hlt', hidx, h1']
    exact retC_by (by repeat' (first | exact Drop.refl _ | with_reducible refine Drop.off ?_ (by assumption))) (.refl _) ⟨rfl, rfl⟩
   have h1' : ¬ (c.toNat : Int) < 48 := by omega
   by_cases h2 : 57 < c.toNat
   ·have h2' : (57 : Int) < c.toNat := by omega
    rw [if_pos (by omega)] at hacc
    subst hacc
    simp (disch := first | assumption | omega | (simp only [List.length_append, List.length_cons, List.length_nil]; omega)) only [go_sem, Nat.reduceEqDiff, ↓reduceIte, hf, hlt', hidx, h1', h2']
    exact retC_by (by repeat' (first | exact Drop.refl _ | with_reducible refine Drop.off ?_ (by assumption))) (.refl _) ⟨rfl, rfl⟩
   have h2' : ¬ (57 : Int) < c.toNat := by omega
   by_cases h3 : 99999999999999999 < n
   ·have h3' : (99999999999999999 : Int) < n := by omega
    rw [if_pos (by omega)] at hacc
    subst hacc
    simp (disch := first | assumption | omega | (simp only [List.length_append, List.length_cons, List.length_nil]; omega)) only [go_sem, Nat.reduceEqDiff, ↓reduceIte, hf, hf9, hlt', hidx, h1', h2', h3']
    exact retC_by (by repeat' (first | exact Drop.refl _ | with_reducible refine Drop.off ?_ (by assumption))) (.refl _) ⟨rfl, rfl⟩
   have h3' : ¬ (99999999999999999 : Int) < n := by omega
   rw [if_neg (by omega)] at hac hacc
   obtain ⟨n2, hn2⟩ : ∃ n2 : Nat, 10 * n + (c.toNat - 48) = n2 := ⟨_, rfl⟩
   rw [hn2] at hac hacc
   have e2 : 10 * (n : Int) + ((c.toNat : Int) - 48) = n2 := by omega
   simp (disch := first | assumption | omega | (simp only [List.length_append, List.length_cons, List.length_nil]; omega)) only [go_sem, Nat.reduceEqDiff, ↓reduceIte, hf, hf9, hlt', hidx, h1', h2', h3', e2]
   exact ⟨i + 1, by omega, by omega, ⟨n2, by omega, hac, rfl⟩, rfl⟩
  ·have hlt' : ¬ (i : Int) < M.length := by omega
   rw [List.drop_eq_nil_of_le (by omega), accP, Option.bind_some] at hacc
   subst hacc
   have hMd := made_ok minus n (by omega)
   simp (disch := first | assumption | omega | (simp only [List.length_append, List.length_cons, List.length_nil]; omega)) only [go_sem, Nat.reduceEqDiff, ↓reduceIte, hf, hf9, hlt']
   refine hMd.use ?_
   simp only [resAV]
   simp (disch := first | assumption | omega | (simp only [List.length_append, List.length_cons, List.length_nil]; omega)) only [go_sem, Nat.reduceEqDiff, ↓reduceIte]
   exact retC_by (by repeat' (first | exact Drop.refl _ | with_reducible refine Drop.off ?_ (by assumption))) (.refl _) ⟨rfl, rfl⟩
 refine a30 (by simp) ?_
 simp (disch := first | assumption | omega | (simp only [List.length_append, List.length_cons, List.length_nil]; omega)) only [go_sem, reduceCtorEq, ↓reduceIte]
 refine hP.use ?_
 simp (disch := first | assumption | omega | (simp only [List.length_append, List.length_cons, List.length_nil]; omega)) only [go_sem, Nat.reduceEqDiff, ↓reduceIte]
 refine hC.use ?_
 by_cases hw : whole = []
 ·subst hw
  rw [if_pos (.inl rfl)] at hR
  subst hR
  simp (disch := first | assumption | omega | (simp only [List.length_append, List.length_cons, List.length_nil]; omega)) only [go_sem, Nat.reduceEqDiff, ↓reduceIte, ←hF]
  exact retC_by (by repeat' (first | exact Drop.refl _ | with_reducible refine Drop.off ?_ (by assumption))) (.refl _) ⟨rfl, rfl⟩
 cases dot with
 | false =>
   have hp := hnf rfl
   subst hp
   rw [if_neg (by rintro (h | ⟨h, _⟩) <;> contradiction)] at hR
   simp (disch := first | assumption | omega | (simp only [List.length_append, List.length_cons, List.length_nil]; omega)) only [go_sem, Nat.reduceEqDiff, ↓reduceIte, hw, ←hF]
   refine fin _ (by simp) hR ?_
   simp (disch := first | assumption | omega | (simp only [List.length_append, List.length_cons, List.length_nil]; omega)) only [go_sem, Nat.reduceEqDiff, ↓reduceIte]
 | true =>
   by_cases hp : part = []
   ·subst hp
    rw [if_pos (.inr ⟨rfl, .inl rfl⟩)] at hR
    subst hR
    simp (disch := first | assumption | omega | (simp only [List.length_append, List.length_cons, List.length_nil]; omega)) only [go_sem, Nat.reduceEqDiff, ↓reduceIte, hw, ←hF]
    exact retC_by (by repeat' (first | exact Drop.refl _ | with_reducible refine Drop.off ?_ (by assumption))) (.refl _) ⟨rfl, rfl⟩
   by_cases h4 : 4 < part.length
   ·have h4' : (4 : Int) < part.length := by omega
    rw [if_pos (.inr ⟨rfl, .inr h4⟩)] at hR
    subst hR
    simp (disch := first | assumption | omega | (simp only [List.length_append, List.length_cons, List.length_nil]; omega)) only [go_sem, Nat.reduceEqDiff, ↓reduceIte, hw, hp, h4', ←hF]
    exact retC_by (by repeat' (first | exact Drop.refl _ | with_reducible refine Drop.off ?_ (by assumption))) (.refl _) ⟨rfl, rfl⟩
   ·have h4' : ¬ (4 : Int) < part.length := by omega
    rw [if_neg (by rintro (h | ⟨_, h | h⟩) <;> contradiction)] at hR
    simp (disch := first | assumption | omega | (simp only [List.length_append, List.length_cons, List.length_nil]; omega)) only [go_sem, Nat.reduceEqDiff, ↓reduceIte, hw, hp, h4', ←hF]
    refine fin _ (by omega) hR ?_
    simp (disch := first | assumption | omega | (simp only [List.length_append, List.length_cons, List.length_nil]; omega)) only [go_sem, Nat.reduceEqDiff, ↓reduceIte]
theorem whole_ok {a : Int} (ha : a.natAbs ≤ 999999999999999999) : Pure Tryz.prog 118 [.int .i64 a] (.int .i64 (a.tdiv 10000)) := by
 intro σ
 have hqb : (a.tdiv 10000).natAbs ≤ a.natAbs := by rw [Int.natAbs_tdiv]; exact Nat.div_le_self _ _
 have e : IntKind.i64.wrap (a.tdiv 10000) = a.tdiv 10000 := by rw [IntKind.wrap_i64]; omega
 refine a118 (by simp) ?_
 simp (disch := first | assumption | omega) only [go_sem, reduceCtorEq, ↓reduceIte, e]
 exact retC_by (by repeat' (first | exact Drop.refl _ | with_reducible refine Drop.off ?_ (by assumption))) (.refl _) ⟨rfl, rfl⟩
end Go.A
namespace Go.A
open Go.Proofs
/-! 103: tabular/token.word -/
def c103_3 : ACode := .seq (.ops [ oq 2 (.mv (.v (.bool false)))]) (.seq (.ops [ oq 3 (.mv (.t 0)), oq 4 (.bin .geq (.t 3) (.v (.int .u8 48))), oq 5 (.mv (.t 4)), ⟨some 6, some (5, true), .q (.mv (.t 0)), []⟩, ⟨some 7, some (5, true), .q (.bin .leq (.t 6) (.v (.int .u8 57))), []⟩, oq 8 (.pick (.t 5) (.t 7) (.v (.bool false))), oq 9 (.mv (.t 8)), ⟨some 10, some (9, false), .q (.mv (.t 0)), []⟩, ⟨some 11, some (9, false), .q (.bin .geq (.t 10) (.v (.int .u8 97))), []⟩, ⟨some 12, some (9, false), .q (.mv (.t 11)), []⟩, ⟨some 13, some (12, true), .q (.mv (.t 0)), []⟩, ⟨some 14, some (12, true), .q (.bin .leq (.t 13) (.v (.int .u8 122))), []⟩, ⟨some 15, some (9, false), .q (.pick (.t 12) (.t 14) (.v (.bool false))), []⟩, oq 16 (.pick (.t 9) (.v (.bool true)) (.t 15)), oq 17 (.mv (.t 16)), ⟨some 18, some (17, false), .q (.mv (.t 0)), []⟩, ⟨some 19, some (17, false), .q (.bin .geq (.t 18) (.v (.int .u8 65))), []⟩, ⟨some 20, some (17, false), .q (.mv (.t 19)), []⟩, ⟨some 21, some (20, true), .q (.mv (.t 0)), []⟩, ⟨some 22, some (20, true), .q (.bin .leq (.t 21) (.v (.int .u8 90))), []⟩, ⟨some 23, some (17, false), .q (.pick (.t 20) (.t 22) (.v (.bool false))), []⟩, oq 24 (.pick (.t 17) (.v (.bool true)) (.t 23)), oq 25 (.mv (.t 24)), ⟨some 26, some (25, false), .q (.mv (.t 0)), []⟩, ⟨some 27, some (25, false), .q (.bin .eql (.t 26) (.v (.int .u8 95))), []⟩, oq 28 (.pick (.t 25) (.v (.bool true)) (.t 27)), oq 29 (.mv (.t 28)), ⟨some 30, some (29, false), .q (.mv (.t 0)), []⟩, ⟨some 31, some (29, false), .q (.bin .eql (.t 30) (.v (.int .u8 36))), []⟩, oq 32 (.pick (.t 29) (.v (.bool true)) (.t 31)), oq 33 (.mv (.t 32)), ⟨some 34, some (33, false), .q (.mv (.t 0)), []⟩, ⟨some 35, some (33, false), .q (.bin .eql (.t 34) (.v (.int .u8 46))), []⟩, oq 36 (.pick (.t 33) (.v (.bool true)) (.t 35)), oq 2 (.mv (.t 36))]) .ret)
@[go_sem] def c103_3_wp := wp_of c103_3.eq_1
def c103 : AFn := ⟨37, [.t 2], c103_3⟩
theorem c103_ok : compF Tryz.prog Tryz.f103 = some c103 := by kernel_rfl
theorem a103 {args : List AV} {σ : ASt} {R : AV → ASt → Prop} (hl : args.length ≤ 37) (h : c103_3.wp Tryz.prog (RetQ [.t 2] R) (init args) σ) : ACalls Tryz.prog 103 args σ R := acalls_of Tryz.func103 c103_ok hl h
/-! 119: tabular/token.Errors -/
def c119_3 : ACode := .seq (.ops [ oq 0 (.mv (.v (.sl .full [])))]) (.seq (.ops [ oq 1 (.bsl 1 [(.v (.str [35, 68, 73, 86, 47, 48, 33])), (.v (.str [35, 78, 85, 77, 33])), (.v (.str [35, 86, 65, 76, 85, 69, 33])), (.v (.str [35, 82, 69, 70, 33])), (.v (.str [35, 78, 47, 65])), (.v (.str [35, 78, 65, 77, 69, 63])), (.v (.str [35, 67, 89, 67, 76, 69, 33]))]), oq 0 (.mv (.t 1))]) .ret)
@[go_sem] def c119_3_wp := wp_of c119_3.eq_1
def c119 : AFn := ⟨2, [.t 0], c119_3⟩
theorem c119_ok : compF Tryz.prog Tryz.f119 = some c119 := by kernel_rfl
theorem a119 {args : List AV} {σ : ASt} {R : AV → ASt → Prop} (hl : args.length ≤ 2) (h : c119_3.wp Tryz.prog (RetQ [.t 0] R) (init args) σ) : ACalls Tryz.prog 119 args σ R := acalls_of Tryz.func119 c119_ok hl h
/-! 130: tabular/token.isNum -/
def c130_21 : ACode := .seq (.ops [ oq 34 (.bin .lss (.t 33) (.t 32))]) (.seq (.cond (.t 34) .skip (.exit 0)) (.seq (.block 1 (.seq (.ops [ oq 35 (.ia 1 (.t 31) (.t 33)), oq 36 (.ld none (.t 35)), oq 7 (.mv (.t 36))]) (.seq (.ops [ oq 37 (.mv (.t 7)), oe 38 (.call 154 [(.t 37)]), oq 39 (.un .not (.t 38))]) (.cond (.t 39) (.seq (.ops [ oq 2 (.mv (.v (.bool false)))]) .ret) .skip)))) (.ops [ oq 40 (.bin .add (.t 33) (.v (.int .i64 1))), oq 33 (.mv (.t 40))])))
def c130_27 : ACode := .seq (.seq (.ops [ oq 28 (.mv (.t 3)), oq 29 (.mv (.t 4)), oq 30 (.bin .add (.t 28) (.t 29)), oe 31 (.s2b (.t 30)), oq 32 (.len (.t 31)), oq 33 (.mv (.v (.int .i64 0)))]) (.block 0 (.loop c130_21))) (.seq (.ops [ oq 2 (.mv (.v (.bool true)))]) .ret)
def c130_30 : ACode := .seq (.ops [ oq 2 (.mv (.v (.bool false)))]) (.seq (.ops [ oq 9 (.mv (.t 0)), oe 10 (.call 64 [(.t 9), (.v (.str [46]))]), oq 8 (.mv (.t 10)), oq 11 (.ext 0 (.t 8)), oq 12 (.ext 1 (.t 8)), oq 13 (.ext 2 (.t 8)), oq 3 (.mv (.t 11)), oq 4 (.mv (.t 12)), oq 5 (.mv (.t 13))]) (.seq (.seq (.ops [ oq 14 (.mv (.t 3)), oq 15 (.bin .eql (.t 14) (.v (.str []))), oq 16 (.mv (.t 15)), ⟨some 17, some (16, false), .q (.mv (.t 5)), []⟩, ⟨some 18, some (16, false), .q (.mv (.t 17)), []⟩, ⟨some 19, some (18, true), .q (.mv (.t 4)), []⟩, ⟨some 20, some (18, true), .q (.bin .eql (.t 19) (.v (.str []))), []⟩, ⟨some 21, some (18, true), .q (.mv (.t 20)), []⟩, ⟨some 22, some (21, false), .q (.mv (.t 4)), []⟩, ⟨some 23, some (21, false), .q (.lenS (.t 22)), []⟩, ⟨some 24, some (21, false), .q (.bin .gtr (.t 23) (.v (.int .i64 4))), []⟩, ⟨some 25, some (18, true), .q (.pick (.t 21) (.v (.bool true)) (.t 24)), []⟩, ⟨some 26, some (16, false), .q (.pick (.t 18) (.t 25) (.v (.bool false))), []⟩, oq 27 (.pick (.t 16) (.v (.bool true)) (.t 26))]) (.cond (.t 27) (.seq (.ops [ oq 2 (.mv (.v (.bool false)))]) .ret) .skip)) c130_27))
@[go_sem] def c130_21_wp := wp_of c130_21.eq_1
@[go_sem] def c130_27_wp := wp_of c130_27.eq_1
@[go_sem] def c130_30_wp := wp_of c130_30.eq_1
def c130 : AFn := ⟨41, [.t 2], c130_30⟩
theorem c130_ok : compF Tryz.prog Tryz.f130 = some c130 := by kernel_rfl
theorem a130 {args : List AV} {σ : ASt} {R : AV → ASt → Prop} (hl : args.length ≤ 41) (h : c130_30.wp Tryz.prog (RetQ [.t 2] R) (init args) σ) : ACalls Tryz.prog 130 args σ R := acalls_of Tryz.func130 c130_ok hl h
/-! 131: tabular/token.isRef -/
def c131_5 : ACode := .seq (.ops [ oq 2 (.mv (.v (.bool false)))]) (.seq (.ops [ oq 6 (.mv (.t 0)), oe 7 (.call 155 [(.t 6)]), oq 5 (.mv (.t 7)), oq 8 (.ext 0 (.t 5)), oq 9 (.ext 1 (.t 5)), oe 3 (.alloc [(.int .i64 0), (.int .i64 0), (.bool false), (.bool false)]), oz (.store 4 (.t 3) (.t 8)), oq 4 (.mv (.t 9))]) (.seq (.ops [ oq 10 (.mv (.t 4)), oq 2 (.mv (.t 10))]) .ret))
@[go_sem] def c131_5_wp := wp_of c131_5.eq_1
def c131 : AFn := ⟨11, [.t 2], c131_5⟩
theorem c131_ok : compF Tryz.prog Tryz.f131 = some c131 := by kernel_rfl
theorem a131 {args : List AV} {σ : ASt} {R : AV → ASt → Prop} (hl : args.length ≤ 11) (h : c131_5.wp Tryz.prog (RetQ [.t 2] R) (init args) σ) : ACalls Tryz.prog 131 args σ R := acalls_of Tryz.func131 c131_ok hl h
/-! 132: tabular/token.great -/
def c132_15 : ACode := .seq (.ops [ oq 11 (.bin .lss (.t 10) (.t 9))]) (.seq (.cond (.t 11) .skip (.exit 0)) (.seq (.block 1 (.seq (.ops [ oq 12 (.mv (.t 10)), oq 13 (.ia 1 (.t 8) (.t 10)), oq 14 (.ld none (.t 13)), oq 4 (.mv (.t 12)), oq 5 (.mv (.t 14))]) (.seq (.ops [ oq 15 (.mv (.t 5)), oq 16 (.bin .geq (.t 15) (.v (.int .u8 97))), oq 17 (.mv (.t 16)), ⟨some 18, some (17, true), .q (.mv (.t 5)), []⟩, ⟨some 19, some (17, true), .q (.bin .leq (.t 18) (.v (.int .u8 122))), []⟩, oq 20 (.pick (.t 17) (.t 19) (.v (.bool false)))]) (.cond (.t 20) (.ops [ oq 21 (.mv (.t 3)), oq 22 (.mv (.t 4)), oq 23 (.mv (.t 5)), oq 24 (.bin .sub (.t 23) (.v (.int .u8 32))), oq 25 (.ia 1 (.t 21) (.t 22)), oz (.store 1 (.t 25) (.t 24))]) .skip)))) (.ops [ oq 26 (.bin .add (.t 10) (.v (.int .i64 1))), oq 10 (.mv (.t 26))])))
def c132_23 : ACode := .seq (.ops [ oq 2 (.mv (.v (.str [])))]) (.seq (.ops [ oq 6 (.mv (.t 0)), oe 7 (.s2b (.t 6)), oq 3 (.mv (.t 7))]) (.seq (.seq (.ops [ oq 8 (.mv (.t 3)), oq 9 (.len (.t 8)), oq 10 (.mv (.v (.int .i64 0)))]) (.block 0 (.loop c132_15))) (.seq (.ops [ oq 27 (.mv (.t 3)), oq 28 (.b2s (.t 27)), oq 2 (.mv (.t 28))]) .ret)))
@[go_sem] def c132_15_wp := wp_of c132_15.eq_1
@[go_sem] def c132_23_wp := wp_of c132_23.eq_1
def c132 : AFn := ⟨29, [.t 2], c132_23⟩
theorem c132_ok : compF Tryz.prog Tryz.f132 = some c132 := by kernel_rfl
theorem a132 {args : List AV} {σ : ASt} {R : AV → ASt → Prop} (hl : args.length ≤ 29) (h : c132_23.wp Tryz.prog (RetQ [.t 2] R) (init args) σ) : ACalls Tryz.prog 132 args σ R := acalls_of Tryz.func132 c132_ok hl h
/-! 133: tabular/token.isName -/
def c133_15 : ACode := .seq (.ops [ oq 7 (.bin .lss (.t 6) (.t 5))]) (.seq (.cond (.t 7) .skip (.exit 0)) (.seq (.block 1 (.seq (.ops [ oq 8 (.mv (.t 6)), oq 3 (.mv (.t 8))]) (.seq (.ops [ oq 9 (.mv (.t 0)), oq 10 (.mv (.t 3)), oq 11 (.idx (.t 9) (.t 10)), oe 12 (.call 103 [(.t 11)]), oq 13 (.un .not (.t 12)), oq 14 (.mv (.t 13)), ⟨some 15, some (14, false), .q (.mv (.t 0)), []⟩, ⟨some 16, some (14, false), .q (.mv (.t 3)), []⟩, ⟨some 17, some (14, false), .q (.idx (.t 15) (.t 16)), []⟩, ⟨some 18, some (14, false), .q (.bin .eql (.t 17) (.v (.int .u8 36))), []⟩, oq 19 (.pick (.t 14) (.v (.bool true)) (.t 18)), oq 20 (.mv (.t 19)), ⟨some 21, some (20, false), .q (.mv (.t 3)), []⟩, ⟨some 22, some (20, false), .q (.bin .eql (.t 21) (.v (.int .i64 0))), []⟩, ⟨some 23, some (20, false), .q (.mv (.t 22)), []⟩, ⟨some 24, some (23, true), .q (.mv (.t 0)), []⟩, ⟨some 25, some (23, true), .q (.mv (.t 3)), []⟩, ⟨some 26, some (23, true), .q (.idx (.t 24) (.t 25)), []⟩, ⟨some 27, some (23, true), .e (.call 154 [(.t 26)]), []⟩, ⟨some 28, some (23, true), .q (.mv (.t 27)), []⟩, ⟨some 29, some (28, false), .q (.mv (.t 0)), []⟩, ⟨some 30, some (28, false), .q (.mv (.t 3)), []⟩, ⟨some 31, some (28, false), .q (.idx (.t 29) (.t 30)), []⟩, ⟨some 32, some (28, false), .q (.bin .eql (.t 31) (.v (.int .u8 46))), []⟩, ⟨some 33, some (23, true), .q (.pick (.t 28) (.v (.bool true)) (.t 32)), []⟩, ⟨some 34, some (20, false), .q (.pick (.t 23) (.t 33) (.v (.bool false))), []⟩, oq 35 (.pick (.t 20) (.v (.bool true)) (.t 34))]) (.cond (.t 35) (.seq (.ops [ oq 2 (.mv (.v (.bool false)))]) .ret) .skip)))) (.ops [ oq 36 (.bin .add (.t 6) (.v (.int .i64 1))), oq 6 (.mv (.t 36))])))
def c133_22 : ACode := .seq (.ops [ oq 2 (.mv (.v (.bool false)))]) (.seq (.seq (.ops [ oq 4 (.mv (.t 0)), oq 5 (.lenS (.t 4)), oq 6 (.mv (.v (.int .i64 0)))]) (.block 0 (.loop c133_15))) (.seq (.ops [ oq 37 (.mv (.t 0)), oq 38 (.bin .neq (.t 37) (.v (.str []))), oq 2 (.mv (.t 38))]) .ret))
@[go_sem] def c133_15_wp := wp_of c133_15.eq_1
@[go_sem] def c133_22_wp := wp_of c133_22.eq_1
def c133 : AFn := ⟨39, [.t 2], c133_22⟩
theorem c133_ok : compF Tryz.prog Tryz.f133 = some c133 := by kernel_rfl
theorem a133 {args : List AV} {σ : ASt} {R : AV → ASt → Prop} (hl : args.length ≤ 39) (h : c133_22.wp Tryz.prog (RetQ [.t 2] R) (init args) σ) : ACalls Tryz.prog 133 args σ R := acalls_of Tryz.func133 c133_ok hl h
/-! 136: tabular/token.alike -/
def c136_37 : ACode := .seq (.ops [ oq 2 (.mv (.v (.str [])))]) (.seq (.seq (.ops [ oq 3 (.mv (.t 0))]) (.block 0 (.seq (.ops [ oq 5 (.bin .eql (.t 3) (.v (.int .i32 8804))), oq 4 (.mv (.t 5))]) (.cond (.t 4) (.seq (.ops [ oq 2 (.mv (.v (.str [60, 61])))]) .ret) (.seq (.ops [ oq 7 (.bin .eql (.t 3) (.v (.int .i32 8805))), oq 6 (.mv (.t 7))]) (.cond (.t 6) (.seq (.ops [ oq 2 (.mv (.v (.str [62, 61])))]) .ret) (.seq (.ops [ oq 9 (.bin .eql (.t 3) (.v (.int .i32 8800))), oq 8 (.mv (.t 9))]) (.cond (.t 8) (.seq (.ops [ oq 2 (.mv (.v (.str [60, 62])))]) .ret) (.seq (.ops [ oq 11 (.bin .eql (.t 3) (.v (.int .i32 215))), oq 10 (.mv (.t 11))]) (.cond (.t 10) (.seq (.ops [ oq 2 (.mv (.v (.str [42])))]) .ret) (.seq (.ops [ oq 13 (.bin .eql (.t 3) (.v (.int .i32 247))), oq 12 (.mv (.t 13))]) (.cond (.t 12) (.seq (.ops [ oq 2 (.mv (.v (.str [47])))]) .ret) (.seq (.ops [ oq 15 (.bin .eql (.t 3) (.v (.int .i32 8722))), oq 14 (.mv (.t 15))]) (.cond (.t 14) (.seq (.ops [ oq 2 (.mv (.v (.str [45])))]) .ret) .skip)))))))))))))) (.seq (.ops [ oq 2 (.mv (.v (.str [])))]) .ret))
@[go_sem] def c136_37_wp := wp_of c136_37.eq_1
def c136 : AFn := ⟨16, [.t 2], c136_37⟩
theorem c136_ok : compF Tryz.prog Tryz.f136 = some c136 := by kernel_rfl
theorem a136 {args : List AV} {σ : ASt} {R : AV → ASt → Prop} (hl : args.length ≤ 16) (h : c136_37.wp Tryz.prog (RetQ [.t 2] R) (init args) σ) : ACalls Tryz.prog 136 args σ R := acalls_of Tryz.func136 c136_ok hl h
/-! 154: tabular/token.digit -/
def c154_3 : ACode := .seq (.ops [ oq 2 (.mv (.v (.bool false)))]) (.seq (.ops [ oq 3 (.mv (.t 0)), oq 4 (.bin .geq (.t 3) (.v (.int .u8 48))), oq 5 (.mv (.t 4)), ⟨some 6, some (5, true), .q (.mv (.t 0)), []⟩, ⟨some 7, some (5, true), .q (.bin .leq (.t 6) (.v (.int .u8 57))), []⟩, oq 8 (.pick (.t 5) (.t 7) (.v (.bool false))), oq 2 (.mv (.t 8))]) .ret)
@[go_sem] def c154_3_wp := wp_of c154_3.eq_1
def c154 : AFn := ⟨9, [.t 2], c154_3⟩
theorem c154_ok : compF Tryz.prog Tryz.f154 = some c154 := by kernel_rfl
theorem a154 {args : List AV} {σ : ASt} {R : AV → ASt → Prop} (hl : args.length ≤ 9) (h : c154_3.wp Tryz.prog (RetQ [.t 2] R) (init args) σ) : ACalls Tryz.prog 154 args σ R := acalls_of Tryz.func154 c154_ok hl h
end Go.A
namespace Go.A
open Go.Proofs Go.Lib
theorem word_ok (c : UInt8) : Pure Tryz.prog 103 [.int .u8 c.toNat] (.bool (wordB c)) := by
 intro σ
 refine a103 (by simp) ?_
 have hc := c.toNat_lt
 unfold wordB
 repeat' (first | (simp (disch := first | assumption | omega) only [go_sem, reduceCtorEq, Nat.reduceEqDiff, ↓reduceIte]) | with_reducible refine gC_d (fun h => ?_) (fun h => ?_) | with_reducible refine gC_dn (fun h => ?_) (fun h => ?_) | with_reducible refine condC_d (fun h => ?_) (fun h => ?_) | with_reducible refine condC_n (fun h => ?_) (fun h => ?_) | with_reducible refine condC_b (fun h => ?_) (fun h => ?_) | with_reducible refine boxC_by ?_ fun b hb => ?_)
 all_goals refine retC_by (Drop.refl _) (.refl _) ⟨?_, rfl⟩
 all_goals (simp only [resV_one]) <;> (congr 1) <;> (rw [Bool.eq_iff_iff]; simp only [decide_eq_true_eq]; omega)
theorem digit_ok (c : UInt8) : Pure Tryz.prog 154 [.int .u8 c.toNat] (.bool (digB c)) := by
 intro σ
 refine a154 (by simp) ?_
 have hc := c.toNat_lt
 unfold digB
 repeat' (first | (simp (disch := first | assumption | omega) only [go_sem, reduceCtorEq, Nat.reduceEqDiff, ↓reduceIte]) | with_reducible refine gC_d (fun h => ?_) (fun h => ?_) | with_reducible refine gC_dn (fun h => ?_) (fun h => ?_) | with_reducible refine condC_d (fun h => ?_) (fun h => ?_) | with_reducible refine condC_n (fun h => ?_) (fun h => ?_) | with_reducible refine condC_b (fun h => ?_) (fun h => ?_) | with_reducible refine boxC_by ?_ fun b hb => ?_)
 all_goals refine retC_by (Drop.refl _) (.refl _) ⟨?_, rfl⟩
 all_goals (simp only [resV_one]) <;> (congr 1) <;> (rw [Bool.eq_iff_iff]; simp only [decide_eq_true_eq]; omega)
theorem alike_ok (c : Int) : Pure Tryz.prog 136 [.int .i32 c] (.str (alikeP c)) := by
 intro σ
 refine a136 (by simp) ?_
 unfold alikeP
 by_cases h1 : c = 8804
 ·simp (disch := first | assumption | omega) only [go_sem, reduceCtorEq, ↓reduceIte, h1]; exact retC_by (Drop.refl _) (.refl _) ⟨by simp [resV_one], rfl⟩
 by_cases h2 : c = 8805
 ·simp (disch := first | assumption | omega) only [go_sem, reduceCtorEq, Nat.reduceEqDiff, Int.reduceEq, ↓reduceIte, h2]; exact retC_by (Drop.refl _) (.refl _) ⟨by simp [resV_one], rfl⟩
 by_cases h3 : c = 8800
 ·simp (disch := first | assumption | omega) only [go_sem, reduceCtorEq, Nat.reduceEqDiff, Int.reduceEq, ↓reduceIte, h3]; exact retC_by (Drop.refl _) (.refl _) ⟨by simp [resV_one], rfl⟩
 by_cases h4 : c = 215
 ·simp (disch := first | assumption | omega) only [go_sem, reduceCtorEq, Nat.reduceEqDiff, Int.reduceEq, ↓reduceIte, h4]; exact retC_by (Drop.refl _) (.refl _) ⟨by simp [resV_one], rfl⟩
 by_cases h5 : c = 247
 ·simp (disch := first | assumption | omega) only [go_sem, reduceCtorEq, Nat.reduceEqDiff, Int.reduceEq, ↓reduceIte, h5]; exact retC_by (Drop.refl _) (.refl _) ⟨by simp [resV_one], rfl⟩
 by_cases h6 : c = 8722
 ·simp (disch := first | assumption | omega) only [go_sem, reduceCtorEq, Nat.reduceEqDiff, Int.reduceEq, ↓reduceIte, h6]; exact retC_by (Drop.refl _) (.refl _) ⟨by simp [resV_one], rfl⟩
 simp (disch := first | assumption | omega) only [go_sem, reduceCtorEq, Nat.reduceEqDiff, ↓reduceIte, h1, h2, h3, h4, h5, h6]
 exact retC_by (Drop.refl _) (.refl _) ⟨by simp [resV_one], rfl⟩
theorem isRef_ok (l : List UInt8) (hl : l.length ≤ 9223372036854775000) : Pure Tryz.prog 131 [.str l] (.bool (refB l)) := by
 intro σ
 refine a131 (by simp) ?_
 simp (disch := first | assumption | omega) only [go_sem, reduceCtorEq, ↓reduceIte]
 refine (parse_ok l hl).use ?_
 unfold refB
 obtain ⟨⟨⟨row, col, ar, ac⟩, ok⟩, hq⟩ : ∃ q, parseP l = q := ⟨_, rfl⟩
 rw [hq]
 simp (disch := first | assumption | omega) only [go_sem, Nat.reduceEqDiff, ↓reduceIte, refAV]
 refine allocC_by fun b hb => ?_
 simp (disch := first | assumption | omega) only [go_sem, Nat.reduceEqDiff, Nat.reduceAdd, Nat.reduceLeDiff, ↓reduceIte, Bool.true_and]
 exact retC_by (by repeat' (first | exact Drop.refl _ | with_reducible refine Drop.off ?_ (by assumption))) (.refl _) ⟨rfl, rfl⟩
theorem tgreat_ok (l : List UInt8) (hl : l.length < 4611686018427387904) : Pure Tryz.prog 132 [.str l] (.str (greatP l)) := by
 intro σ
 refine a132 (by simp) ?_
 simp (disch := first | assumption | omega) only [go_sem, reduceCtorEq, ↓reduceIte]
 refine s2b_own fun b cp hb hcp => ?_
 simp (disch := first | assumption | omega) only [go_sem, ↓reduceIte]
 refine wp_loop_on (fun (i : Nat) a σ' => i ≤ l.length ∧ (a 3 = .msl b 0 l.length cp ∧ a 8 = .msl b 0 l.length cp ∧ a 9 = .int .i64 l.length ∧ a 10 = .int .i64 i) ∧ σ' = σ.set b (some (.obj (bytesAV (greatP (l.take i) ++ l.drop i)))))
  (fun i => l.length - i) 0 ⟨Nat.zero_le _, ?_, by simp [greatP]⟩ ?_
 ·simp (disch := first | assumption | omega) only [go_sem, Nat.reduceEqDiff, ↓reduceIte]
 rintro i a σ1 ⟨hi, hf, rfl⟩
 obtain ⟨m, hm⟩ : ∃ m, greatP (l.take i) ++ l.drop i = m := ⟨_, rfl⟩
 have hml : m.length = l.length := by rw [← hm]; simp [greatP]; omega
 have hgl : (greatP (l.take i)).length = i := by simp [greatP]; omega
 rw [hm]
 by_cases hlt : i < l.length
 ·have hidx : m[i]? = some (l[i]'hlt) := by rw [← hm, List.getElem?_append_right (by omega), hgl]; simp
  obtain ⟨c, hc⟩ : ∃ c, l[i]'hlt = c := ⟨_, rfl⟩
  rw [hc] at hidx
  have hcb := u8_lt c
  have hi2 : (i : Int) < l.length := by omega
  have hle : i + 1 ≤ m.length := by omega
  have hnext : greatP (l.take (i + 1)) ++ l.drop (i + 1) = m.set i (greatC c) := by
   rw [← hm, List.take_succ_eq_append_getElem hlt, hc, List.set_append_right _ _ (by omega), hgl, Nat.sub_self]
   simp only [greatP, List.map_append, List.map_cons, List.map_nil, List.append_assoc, List.singleton_append]
   rw [List.drop_eq_getElem_cons hlt]
   rfl
  by_cases hg : 97 ≤ c.toNat ∧ c.toNat ≤ 122
  ·have g1 : (97 : Int) ≤ c.toNat := by omega
   have g2 : (c.toNat : Int) ≤ 122 := by omega
   have hgc : greatC c = UInt8.ofNat (c.toNat - 32) := by unfold greatC; rw [if_pos hg]
   have hw := set_bytes (l := m) (i := i) (m := (c.toNat : Int) - 32) (by omega)
   have hw0 : (c.toNat : Int) - 32 = ((UInt8.ofNat (c.toNat - 32)).toNat : Int) := by rw [u8_nat (by omega)]; omega
   rw [hw0, bytes_set] at hw
   simp (disch := first | assumption | omega) only [go_sem, Nat.reduceEqDiff, ↓reduceIte, Nat.mul_one, Bool.true_and, hf, hi2, hidx, g1, g2, hle, hw0, hw]
   refine ⟨i + 1, by omega, by omega, ?_, by rw [hnext, hgc]⟩
   simp (disch := first | assumption | omega) only [go_sem]
  ·have hgc : greatC c = c := by unfold greatC; rw [if_neg hg]
   have hms : m.set i c = m := by
    apply List.ext_getElem?
    intro j
    rw [List.getElem?_set]
    split
    ·rename_i h; subst h; rw [hidx]; split <;> first | rfl | omega
    ·rfl
   by_cases g1 : (97 : Int) ≤ c.toNat
   ·have g2 : ¬ (c.toNat : Int) ≤ 122 := by omega
    simp (disch := first | assumption | omega) only [go_sem, Nat.reduceEqDiff, ↓reduceIte, Nat.mul_one, hf, hi2, hidx, g1, g2]
    refine ⟨i + 1, by omega, by omega, ?_, by rw [hnext, hgc, hms]⟩
    simp (disch := first | assumption | omega) only [go_sem]
   ·simp (disch := first | assumption | omega) only [go_sem, Nat.reduceEqDiff, ↓reduceIte, Nat.mul_one, hf, hi2, hidx, g1]
    refine ⟨i + 1, by omega, by omega, ?_, by rw [hnext, hgc, hms]⟩
    simp (disch := first | assumption | omega) only [go_sem]
 ·have hi2 : ¬ (i : Int) < l.length := by omega
  have hle2 : l.length ≤ m.length := by omega
  have htk := bytes_all hml
  simp (disch := first | assumption | omega) only [go_sem, Nat.reduceEqDiff, ↓reduceIte, hf, hi2, hle2, htk]
  refine retC_by (by repeat' (first | exact Drop.refl _ | with_reducible refine Drop.off ?_ (by assumption))) (.refl _) ⟨?_, rfl⟩
  rw [← hm, List.take_of_length_le (by omega), List.drop_eq_nil_of_le (by omega), List.append_nil]
  rfl
theorem errs_ok : Pure Tryz.prog 119 [] (.sl .full (errTexts.map AV.str)) := by
 intro σ
 refine a119 (by simp) ?_
 simp (disch := first | assumption | omega) only [go_sem, ↓reduceIte, Bool.true_and]
 exact retC_by (by repeat' (first | exact Drop.refl _ | with_reducible refine Drop.off ?_ (by assumption))) (.refl _) ⟨rfl, rfl⟩
theorem index_dot : ∀ l : List UInt8, (cutDot l).2 = none ∧ indexByte l 46 = -1 ∧ (cutDot l).1 = l ∨ ∃ (i : Nat) (p : List UInt8), indexByte l 46 = i ∧ i < l.length ∧ cutDot l = (l.take i, some p) ∧ p = l.drop (i + 1)
 | [] => .inl ⟨rfl, rfl, rfl⟩
 | c :: l => by
   unfold indexByte cutDot
   by_cases hc : c.toNat = 46
   ·have : c = 46 := by apply UInt8.toNat_inj.1; simpa using hc
    subst this
    exact .inr ⟨0, l, by simp, by simp, by simp, by simp⟩
   ·have hne : ¬ (c == 46) = true := by
     intro h
     rw [beq_iff_eq] at h
     subst h
     exact hc rfl
    rw [if_neg hc, if_neg hne]
    rcases index_dot l with ⟨h1, h2, h3⟩ | ⟨i, p, h1, h2, h3, h4⟩
    ·exact .inl ⟨h1, by rw [h2]; rfl, by rw [h3]⟩
    ·refine .inr ⟨i + 1, p, ?_, by simpa using h2, ?_, by simpa using h4⟩
     ·rw [h1, if_neg (by rw [beq_iff_eq]; omega)]; rfl
     ·rw [h3]; rfl
theorem cutdot_ok (l : List UInt8) (hl : l.length ≤ 1000000000) : Pure Tryz.prog 64 [.str l, .str [46]] (.tuple [.str (cutDot l).1, .str ((cutDot l).2.getD []), .bool (cutDot l).2.isSome]) := by
 have h1 : Pure Tryz.prog 100 [.str l, .str [46]] (.tuple [.str (cutDot l).1, .str ((cutDot l).2.getD []), .bool (cutDot l).2.isSome]) := by
  intro σ
  refine a100 (by simp) ?_
  rcases index_dot l with ⟨h1, h2, h3⟩ | ⟨i, p, h1, h2, h3, h4⟩
  ·rw [h1, h3]
   simp (disch := first | assumption | omega) only [go_sem, reduceCtorEq, Nat.reduceEqDiff, ↓reduceIte]
   refine (index_ok l 46).use ?_
   rw [h2]
   simp (disch := first | assumption | omega) only [go_sem, reduceCtorEq, Nat.reduceEqDiff, Int.reduceLE, ↓reduceIte, Int.reduceNeg]
   exact retC_by (by repeat' (first | exact Drop.refl _ | with_reducible refine Drop.off ?_ (by assumption))) (.refl _) ⟨rfl, rfl⟩
  ·rw [h3]
   subst h4
   have e1 : (0 : Int) ≤ i := by omega
   have e2 : ((i : Int) + 1).toNat = i + 1 := by omega
   simp (disch := first | assumption | omega) only [go_sem, reduceCtorEq, Nat.reduceEqDiff, ↓reduceIte]
   refine (index_ok l 46).use ?_
   rw [h1]
   simp (disch := first | assumption | omega) only [go_sem, reduceCtorEq, Nat.reduceEqDiff, ↓reduceIte, e1, e2, List.take_length]
   exact retC_by (by repeat' (first | exact Drop.refl _ | with_reducible refine Drop.off ?_ (by assumption))) (.refl _) ⟨rfl, rfl⟩
 intro σ
 refine a64 (by simp) ?_
 simp (disch := first | assumption | omega) only [go_sem, reduceCtorEq, Nat.reduceEqDiff, ↓reduceIte]
 refine h1.use ?_
 simp (disch := first | assumption | omega) only [go_sem, Nat.reduceEqDiff, ↓reduceIte]
 exact retC_by (by repeat' (first | exact Drop.refl _ | with_reducible refine Drop.off ?_ (by assumption))) (.refl _) ⟨rfl, rfl⟩
theorem cutDot_len (l : List UInt8) : (cutDot l).1.length + ((cutDot l).2.getD []).length ≤ l.length := by
 rcases index_dot l with ⟨h1, h2, h3⟩ | ⟨i, p, h1, h2, h3, h4⟩
 ·rw [h1, h3]; simp
 ·rw [h3, h4]; simp; omega
theorem isNum_ok (l : List UInt8) (hl : l.length ≤ 1000000000) : Pure Tryz.prog 130 [.str l] (.bool (numB l)) := by
 intro σ
 have hcd := cutdot_ok l hl
 have hlen := cutDot_len l
 obtain ⟨R, hR⟩ : ∃ R, numB l = R := ⟨_, rfl⟩
 rw [hR]
 refine a130 (by simp) ?_
 unfold numB at hR
 obtain ⟨⟨w, q⟩, hC⟩ : ∃ C, cutDot l = C := ⟨_, rfl⟩
 rw [hC] at hcd hlen hR
 dsimp only at hcd hlen
 obtain ⟨F, hF⟩ : ∃ F, F = ACode.wp Tryz.prog c130_27 := ⟨_, rfl⟩
 have fin : ∀ (p : List UInt8) (a : AFr), w.length + p.length ≤ l.length → (w ++ p).all digB = R → (a 3 = .str w ∧ a 4 = .str p) → F (RetQ [.t 2] fun v σ' => v = .bool R ∧ σ' = σ) a σ := by
  intro p a hlp hwp hf
  rw [hF]
  have hl2 : w.length + p.length ≤ 9223372036854775807 := by omega
  simp (disch := first | assumption | omega) only [go_sem, Nat.reduceEqDiff, ↓reduceIte, hf]
  refine s2b_shr ?_
  obtain ⟨m, hm⟩ : ∃ m, w ++ p = m := ⟨_, rfl⟩
  rw [hm] at hwp ⊢
  have hml : m.length ≤ 1000000000 := by rw [← hm]; simp; omega
  simp (disch := first | assumption | omega) only [go_sem, ↓reduceIte]
  refine wp_loop_on (fun (i : Nat) a σ' => i ≤ m.length ∧ (m.take i).all digB = true ∧ (a 31 = .sl .shr (bytesAV m) ∧ a 32 = .int .i64 m.length ∧ a 33 = .int .i64 i) ∧ σ' = σ) (fun i => m.length - i) 0 ⟨Nat.zero_le _, rfl, ?_, rfl⟩ ?_
  ·simp (disch := first | assumption | omega) only [go_sem, Nat.reduceEqDiff, ↓reduceIte]
  rintro i a σ1 ⟨hi, hall, hf, rfl⟩
  by_cases hlt : i < m.length
  ·have hidx : m[i]? = some (m[i]'hlt) := List.getElem?_eq_getElem hlt
   obtain ⟨c, hc⟩ : ∃ c, m[i]'hlt = c := ⟨_, rfl⟩
   rw [hc] at hidx
   have hlt' : (i : Int) < m.length := by omega
   simp (disch := first | assumption | omega) only [go_sem, Nat.reduceEqDiff, ↓reduceIte, hf, hlt', hidx]
   refine (digit_ok c).use ?_
   obtain ⟨d, hd⟩ : ∃ d, digB c = d := ⟨_, rfl⟩
   rw [hd]
   have hnx : (m.take (i + 1)).all digB = d := by
    rw [List.take_succ_eq_append_getElem hlt, hc, List.all_append, hall]
    simp [hd]
   cases d
   ·simp (disch := first | assumption | omega) only [go_sem, ↓reduceIte]
    have : m.all digB = false := by
     have h1 := congrArg (fun x => x && (m.drop (i + 1)).all digB) hnx
     simp only [← List.all_append, List.take_append_drop, Bool.false_and] at h1
     exact h1
    rw [this] at hwp
    subst hwp
    exact retC_by (by repeat' (first | exact Drop.refl _ | with_reducible refine Drop.off ?_ (by assumption))) (.refl _) ⟨rfl, rfl⟩
   ·simp (disch := first | assumption | omega) only [go_sem, Nat.reduceEqDiff, ↓reduceIte, hf]
    exact ⟨i + 1, by omega, by omega, hnx, rfl⟩
  ·have hlt' : ¬ (i : Int) < m.length := by omega
   rw [List.take_of_length_le (by omega), hwp] at hall
   subst hall
   simp (disch := first | assumption | omega) only [go_sem, ↓reduceIte, hf, hlt']
   exact retC_by (by repeat' (first | exact Drop.refl _ | with_reducible refine Drop.off ?_ (by assumption))) (.refl _) ⟨rfl, rfl⟩
 simp (disch := first | assumption | omega) only [go_sem, reduceCtorEq, ↓reduceIte]
 refine hcd.use ?_
 by_cases hw : w = []
 ·have : R = false := by
   rw [← hR]
   cases q <;> simp [hw]
  subst hw this
  simp (disch := first | assumption | omega) only [go_sem, Nat.reduceEqDiff, ↓reduceIte, ←hF]
  exact retC_by (by repeat' (first | exact Drop.refl _ | with_reducible refine Drop.off ?_ (by assumption))) (.refl _) ⟨rfl, rfl⟩
 cases q with
 | none =>
   simp (disch := first | assumption | omega) only [go_sem, Nat.reduceEqDiff, ↓reduceIte, hw, Option.isSome_none, Option.getD_none, ←hF]
   refine fin [] _ (by simpa using hlen) (by rw [← hR]; simp [hw]) ?_
   simp (disch := first | assumption | omega) only [go_sem, Nat.reduceEqDiff, ↓reduceIte]
 | some p =>
   dsimp only [Option.getD_some] at hlen
   by_cases hp : p = []
   ·have : R = false := by rw [← hR]; simp [hp]
    subst hp this
    simp (disch := first | assumption | omega) only [go_sem, Nat.reduceEqDiff, ↓reduceIte, hw, Option.getD_some, Option.isSome_some, ←hF]
    exact retC_by (by repeat' (first | exact Drop.refl _ | with_reducible refine Drop.off ?_ (by assumption))) (.refl _) ⟨rfl, rfl⟩
   by_cases h4 : 4 < p.length
   ·have : R = false := by rw [← hR]; simp [hp, show ¬ p.length ≤ 4 by omega]
    subst this
    have h4' : (4 : Int) < p.length := by omega
    simp (disch := first | assumption | omega) only [go_sem, Nat.reduceEqDiff, ↓reduceIte, hw, hp, h4', Option.getD_some, Option.isSome_some, ←hF]
    exact retC_by (by repeat' (first | exact Drop.refl _ | with_reducible refine Drop.off ?_ (by assumption))) (.refl _) ⟨rfl, rfl⟩
   ·have h4' : ¬ (4 : Int) < p.length := by omega
    simp (disch := first | assumption | omega) only [go_sem, Nat.reduceEqDiff, ↓reduceIte, hw, hp, h4', Option.getD_some, Option.isSome_some, ←hF]
    refine fin p _ hlen (by rw [← hR]; simp [hw, hp, show p.length ≤ 4 by omega]) ?_
    simp (disch := first | assumption | omega) only [go_sem, Nat.reduceEqDiff, ↓reduceIte]
theorem isName_ok (l : List UInt8) (hl : l.length ≤ 1000000000) : Pure Tryz.prog 133 [.str l] (.bool (nameB l)) := by
 intro σ
 refine a133 (by simp) ?_
 obtain ⟨R, hR⟩ : ∃ R, nameB l = R := ⟨_, rfl⟩
 rw [hR]
 unfold nameB at hR
 simp (disch := first | assumption | omega) only [go_sem, reduceCtorEq, ↓reduceIte]
 refine wp_loop_on (fun (i : Nat) a σ' => i ≤ l.length ∧ (l.take i).all (fun c => wordB c && decide (c.toNat ≠ 36)) = true ∧ (0 < i → ((l.head?.map fun c => digB c || decide (c.toNat = 46)).getD false) = false) ∧ (a 0 = .str l ∧ a 5 = .int .i64 l.length ∧ a 6 = .int .i64 i) ∧ σ' = σ) (fun i => l.length - i) 0 ⟨Nat.zero_le _, rfl, by omega, ?_, rfl⟩ ?_
 ·simp (disch := first | assumption | omega) only [go_sem, reduceCtorEq, Nat.reduceEqDiff, ↓reduceIte]
 rintro i a σ1 ⟨hi, hall, hfst, hf, rfl⟩
 by_cases hlt : i < l.length
 ·have hidx : l[i]? = some (l[i]'hlt) := List.getElem?_eq_getElem hlt
  obtain ⟨c, hc⟩ : ∃ c, l[i]'hlt = c := ⟨_, rfl⟩
  rw [hc] at hidx
  have hlt' : (i : Int) < l.length := by omega
  have hstep : (l.take (i + 1)).all (fun c => wordB c && decide (c.toNat ≠ 36)) = (wordB c && decide (c.toNat ≠ 36)) := by
   rw [List.take_succ_eq_append_getElem hlt, hc, List.all_append, hall]
   simp
  have hno : (wordB c && decide (c.toNat ≠ 36)) = false → R = false := by
   intro h
   rw [h] at hstep
   have h1 := congrArg (fun x => x && (l.drop (i + 1)).all (fun c => wordB c && decide (c.toNat ≠ 36))) hstep
   simp only [← List.all_append, List.take_append_drop, Bool.false_and] at h1
   rw [← hR, h1]
   simp
  simp (disch := first | assumption | omega) only [go_sem, reduceCtorEq, Nat.reduceEqDiff, ↓reduceIte, hf, hlt', hidx]
  refine (word_ok c).use ?_
  cases hwd : wordB c with
  | false =>
    obtain rfl := hno (by rw [hwd]; rfl)
    simp (disch := first | assumption | omega) only [go_sem, Nat.reduceEqDiff, ↓reduceIte]
    exact retC_by (by repeat' (first | exact Drop.refl _ | with_reducible refine Drop.off ?_ (by assumption))) (.refl _) ⟨rfl, rfl⟩
  | true =>
  by_cases h36 : (c.toNat : Int) = 36
  ·obtain rfl := hno (by rw [hwd]; simp; omega)
   simp (disch := first | assumption | omega) only [go_sem, reduceCtorEq, Nat.reduceEqDiff, ↓reduceIte, hf, hidx, h36]
   exact retC_by (by repeat' (first | exact Drop.refl _ | with_reducible refine Drop.off ?_ (by assumption))) (.refl _) ⟨rfl, rfl⟩
  have hok : (l.take (i + 1)).all (fun c => wordB c && decide (c.toNat ≠ 36)) = true := by rw [hstep, hwd]; simp; omega
  by_cases h0 : i = 0
  ·subst h0
   have hhd : l.head? = some c := by
    rw [List.head?_eq_getElem?]; exact hidx
   simp (disch := first | assumption | omega) only [go_sem, reduceCtorEq, Nat.reduceEqDiff, ↓reduceIte, hf, hidx, h36]
   refine (digit_ok c).use ?_
   cases hdg : digB c with
   | true =>
     have : R = false := by rw [← hR, hhd]; simp [hdg]
     subst this
     simp (disch := first | assumption | omega) only [go_sem, Nat.reduceEqDiff, ↓reduceIte]
     exact retC_by (by repeat' (first | exact Drop.refl _ | with_reducible refine Drop.off ?_ (by assumption))) (.refl _) ⟨rfl, rfl⟩
   | false =>
     by_cases h46 : (c.toNat : Int) = 46
     ·have : R = false := by rw [← hR, hhd]; simp; intro _ _ _; omega
      subst this
      simp (disch := first | assumption | omega) only [go_sem, reduceCtorEq, Nat.reduceEqDiff, ↓reduceIte, hf, hidx, h46]
      exact retC_by (by repeat' (first | exact Drop.refl _ | with_reducible refine Drop.off ?_ (by assumption))) (.refl _) ⟨rfl, rfl⟩
     ·simp (disch := first | assumption | omega) only [go_sem, reduceCtorEq, Nat.reduceEqDiff, ↓reduceIte, Int.reduceAdd, hf, hidx, h46]
      refine ⟨0 + 1, by omega, by omega, hok, ?_, rfl⟩
      intro _
      rw [hhd]
      simp [hdg]
      omega
  ·have h0' : ¬ (i : Int) = 0 := by omega
   simp (disch := first | assumption | omega) only [go_sem, reduceCtorEq, Nat.reduceEqDiff, ↓reduceIte, hf, hidx, h36, h0']
   exact ⟨i + 1, by omega, by omega, hok, fun _ => hfst (by omega), rfl⟩
 ·have hlt' : ¬ (i : Int) < l.length := by omega
  rw [List.take_of_length_le (by omega)] at hall
  have : R = decide (l ≠ []) := by
   rw [← hR, hall]
   by_cases hne : l = []
   ·subst hne; rfl
   ·have hpos := List.length_pos_iff.2 hne
    rw [hfst (by omega)]
    simp
  subst this
  simp (disch := first | assumption | omega) only [go_sem, reduceCtorEq, ↓reduceIte, hf, hlt']
  exact retC_by (by repeat' (first | exact Drop.refl _ | with_reducible refine Drop.off ?_ (by assumption))) (.refl _) ⟨by simp [resV_one], rfl⟩
end Go.A
namespace Go.A
open Go.Proofs
/-! 83: (*strings.Builder).WriteByte -/
def c83_7 : ACode := .seq (.ops [ oq 4 (.mv (.v .nili))]) (.seq (.ops [ oq 5 (.mv (.t 0)), oe 6 (.call 113 [(.t 5)])]) (.seq (.ops [ oq 7 (.mv (.t 0)), oq 8 (.mv (.t 0)), oq 9 (.nc (.t 8)), oq 10 (.fa 1 (.t 9)), oq 11 (.ld none (.t 10)), oq 12 (.mv (.t 1)), oq 13 (.bsl 1 [(.t 12)]), oe 14 (.app 5 1 1 [(.int .u8 0)] (.t 11) (.t 13)), oq 15 (.nc (.t 7)), oq 16 (.fa 1 (.t 15)), oz (.store 1 (.t 16) (.t 14))]) (.seq (.ops [ oq 4 (.mv (.v .nili))]) .ret)))
@[go_sem] def c83_7_wp := wp_of c83_7.eq_1
def c83 : AFn := ⟨17, [.t 4], c83_7⟩
theorem c83_ok : compF Tryz.prog Tryz.f83 = some c83 := by kernel_rfl
theorem a83 {args : List AV} {σ : ASt} {R : AV → ASt → Prop} (hl : args.length ≤ 17) (h : c83_7.wp Tryz.prog (RetQ [.t 4] R) (init args) σ) : ACalls Tryz.prog 83 args σ R := acalls_of Tryz.func83 c83_ok hl h
/-! 134: (*strings.Builder).WriteRune -/
def c134_9 : ACode := .seq (.ops [ oq 4 (.mv (.v (.int .i64 0))), oq 5 (.mv (.v .nili))]) (.seq (.ops [ oq 7 (.mv (.t 0)), oe 8 (.call 113 [(.t 7)])]) (.seq (.ops [ oq 9 (.mv (.t 0)), oq 10 (.nc (.t 9)), oq 11 (.fa 1 (.t 10)), oq 12 (.ld none (.t 11)), oq 13 (.len (.t 12)), oq 6 (.mv (.t 13))]) (.seq (.ops [ oq 14 (.mv (.t 0)), oq 15 (.mv (.t 0)), oq 16 (.nc (.t 15)), oq 17 (.fa 1 (.t 16)), oq 18 (.ld none (.t 17)), oq 19 (.mv (.t 1)), oe 20 (.call 156 [(.t 18), (.t 19)]), oq 21 (.nc (.t 14)), oq 22 (.fa 1 (.t 21)), oz (.store 1 (.t 22) (.t 20))]) (.seq (.ops [ oq 23 (.mv (.t 0)), oq 24 (.nc (.t 23)), oq 25 (.fa 1 (.t 24)), oq 26 (.ld none (.t 25)), oq 27 (.len (.t 26)), oq 28 (.mv (.t 6)), oq 29 (.bin .sub (.t 27) (.t 28)), oq 4 (.mv (.t 29)), oq 5 (.mv (.v .nili))]) .ret))))
@[go_sem] def c134_9_wp := wp_of c134_9.eq_1
def c134 : AFn := ⟨30, [.t 4, .t 5], c134_9⟩
theorem c134_ok : compF Tryz.prog Tryz.f134 = some c134 := by kernel_rfl
theorem a134 {args : List AV} {σ : ASt} {R : AV → ASt → Prop} (hl : args.length ≤ 30) (h : c134_9.wp Tryz.prog (RetQ [.t 4, .t 5] R) (init args) σ) : ACalls Tryz.prog 134 args σ R := acalls_of Tryz.func134 c134_ok hl h
/-! 156: unicode/utf8.AppendRune -/
def c156_9 : ACode := .seq (.ops [ oq 4 (.mv (.v (.sl .full [])))]) (.seq (.seq (.ops [ oq 5 (.mv (.t 1)), oq 6 (.conv .u32 (.t 5)), oq 7 (.bin .leq (.t 6) (.v (.int .u32 127)))]) (.cond (.t 7) (.seq (.ops [ oq 8 (.mv (.t 0)), oq 9 (.mv (.t 1)), oq 10 (.conv .u8 (.t 9)), oq 11 (.bsl 1 [(.t 10)]), oe 12 (.app 5 1 1 [(.int .u8 0)] (.t 8) (.t 11)), oq 4 (.mv (.t 12))]) .ret) .skip)) (.seq (.ops [ oq 13 (.mv (.t 0)), oq 14 (.mv (.t 1)), oe 15 (.call 174 [(.t 13), (.t 14)]), oq 4 (.mv (.t 15))]) .ret))
@[go_sem] def c156_9_wp := wp_of c156_9.eq_1
def c156 : AFn := ⟨16, [.t 4], c156_9⟩
theorem c156_ok : compF Tryz.prog Tryz.f156 = some c156 := by kernel_rfl
theorem a156 {args : List AV} {σ : ASt} {R : AV → ASt → Prop} (hl : args.length ≤ 16) (h : c156_9.wp Tryz.prog (RetQ [.t 4] R) (init args) σ) : ACalls Tryz.prog 156 args σ R := acalls_of Tryz.func156 c156_ok hl h
/-! 174: unicode/utf8.appendRuneNonASCII -/
def c174_20 : ACode := .cond (.t 11) (.seq (.ops [ oq 14 (.mv (.t 0)), oq 15 (.mv (.t 1)), oq 16 (.bin .shr (.t 15) (.v (.int .u64 6))), oq 17 (.conv .u8 (.t 16)), oq 18 (.bin .or (.v (.int .u8 192)) (.t 17)), oq 19 (.mv (.t 1)), oq 20 (.conv .u8 (.t 19)), oq 21 (.bin .and (.t 20) (.v (.int .u8 63))), oq 22 (.bin .or (.v (.int .u8 128)) (.t 21)), oq 23 (.bsl 1 [(.t 18), (.t 22)]), oe 24 (.app 5 1 1 [(.int .u8 0)] (.t 14) (.t 23)), oq 4 (.mv (.t 24))]) .ret) (.seq (.seq (.ops [ oq 26 (.mv (.t 5)), oq 27 (.bin .lss (.t 26) (.v (.int .u32 55296))), oq 25 (.mv (.t 27))]) (.cond (.t 25) .skip (.ops [ oq 28 (.mv (.t 5)), oq 29 (.bin .lss (.v (.int .u32 57343)) (.t 28)), oq 30 (.mv (.t 29)), ⟨some 31, some (30, true), .q (.mv (.t 5)), []⟩, ⟨some 32, some (30, true), .q (.bin .leq (.t 31) (.v (.int .u32 65535))), []⟩, oq 33 (.pick (.t 30) (.t 32) (.v (.bool false))), oq 25 (.mv (.t 33))]))) (.cond (.t 25) (.seq (.ops [ oq 34 (.mv (.t 0)), oq 35 (.mv (.t 1)), oq 36 (.bin .shr (.t 35) (.v (.int .u64 12))), oq 37 (.conv .u8 (.t 36)), oq 38 (.bin .or (.v (.int .u8 224)) (.t 37)), oq 39 (.mv (.t 1)), oq 40 (.bin .shr (.t 39) (.v (.int .u64 6))), oq 41 (.conv .u8 (.t 40)), oq 42 (.bin .and (.t 41) (.v (.int .u8 63))), oq 43 (.bin .or (.v (.int .u8 128)) (.t 42)), oq 44 (.mv (.t 1)), oq 45 (.conv .u8 (.t 44)), oq 46 (.bin .and (.t 45) (.v (.int .u8 63))), oq 47 (.bin .or (.v (.int .u8 128)) (.t 46)), oq 48 (.bsl 1 [(.t 38), (.t 43), (.t 47)]), oe 49 (.app 5 1 1 [(.int .u8 0)] (.t 34) (.t 48)), oq 4 (.mv (.t 49))]) .ret) (.seq (.ops [ oq 51 (.mv (.t 5)), oq 52 (.bin .gtr (.t 51) (.v (.int .u32 65535))), oq 53 (.mv (.t 52)), ⟨some 54, some (53, true), .q (.mv (.t 5)), []⟩, ⟨some 55, some (53, true), .q (.bin .leq (.t 54) (.v (.int .u32 1114111))), []⟩, oq 56 (.pick (.t 53) (.t 55) (.v (.bool false))), oq 50 (.mv (.t 56))]) (.cond (.t 50) (.seq (.ops [ oq 57 (.mv (.t 0)), oq 58 (.mv (.t 1)), oq 59 (.bin .shr (.t 58) (.v (.int .u64 18))), oq 60 (.conv .u8 (.t 59)), oq 61 (.bin .or (.v (.int .u8 240)) (.t 60)), oq 62 (.mv (.t 1)), oq 63 (.bin .shr (.t 62) (.v (.int .u64 12))), oq 64 (.conv .u8 (.t 63)), oq 65 (.bin .and (.t 64) (.v (.int .u8 63))), oq 66 (.bin .or (.v (.int .u8 128)) (.t 65)), oq 67 (.mv (.t 1)), oq 68 (.bin .shr (.t 67) (.v (.int .u64 6))), oq 69 (.conv .u8 (.t 68)), oq 70 (.bin .and (.t 69) (.v (.int .u8 63))), oq 71 (.bin .or (.v (.int .u8 128)) (.t 70)), oq 72 (.mv (.t 1)), oq 73 (.conv .u8 (.t 72)), oq 74 (.bin .and (.t 73) (.v (.int .u8 63))), oq 75 (.bin .or (.v (.int .u8 128)) (.t 74)), oq 76 (.bsl 1 [(.t 61), (.t 66), (.t 71), (.t 75)]), oe 77 (.app 5 1 1 [(.int .u8 0)] (.t 57) (.t 76)), oq 4 (.mv (.t 77))]) .ret) (.seq (.ops [ oq 8 (.mv (.t 0)), oq 9 (.bsl 1 [(.v (.int .u8 239)), (.v (.int .u8 191)), (.v (.int .u8 189))]), oe 10 (.app 5 1 1 [(.int .u8 0)] (.t 8) (.t 9)), oq 4 (.mv (.t 10))]) .ret)))))
def c174_24 : ACode := .seq (.ops [ oq 4 (.mv (.v (.sl .full [])))]) (.seq (.ops [ oq 6 (.mv (.t 1)), oq 7 (.conv .u32 (.t 6)), oq 5 (.mv (.t 7))]) (.block 0 (.seq (.ops [ oq 12 (.mv (.t 5)), oq 13 (.bin .leq (.t 12) (.v (.int .u32 2047))), oq 11 (.mv (.t 13))]) c174_20)))
@[go_sem] def c174_20_wp := wp_of c174_20.eq_1
@[go_sem] def c174_24_wp := wp_of c174_24.eq_1
def c174 : AFn := ⟨78, [.t 4], c174_24⟩
theorem c174_ok : compF Tryz.prog Tryz.f174 = some c174 := by kernel_rfl
theorem a174 {args : List AV} {σ : ASt} {R : AV → ASt → Prop} (hl : args.length ≤ 78) (h : c174_24.wp Tryz.prog (RetQ [.t 4] R) (init args) σ) : ACalls Tryz.prog 174 args σ R := acalls_of Tryz.func174 c174_ok hl h
end Go.A
namespace Go.A
theorem ne_of_role {σ : ASt} {b c : Nat} {r : Role} (h : σ b = some r) (k : σ c = none) : b ≠ c ∧ c ≠ b := by
 constructor <;> rintro rfl <;> rw [h] at k <;> cases k
def GO (σ0 : ASt) (b : Nat) (cs : SK → List AV) (n s : Nat) (σ : ASt) : Prop := ∃ k, Grown (σ0.set b (some (.obj (cs k)))) σ k n s
theorem GO.cell {σ0 σ : ASt} {b n s : Nat} {k : SK} {cs : SK → List AV} (h : Grown (σ0.set b (some (.obj (cs k)))) σ k n s) : σ b = some (.obj (cs k)) := h.at (ASt.set_same _ _ _)
theorem GO.add {σ0 σ : ASt} {b c n s : Nat} {cs : SK → List AV} {r : Role} (h : GO σ0 b cs n s σ) (hc : σ c = none) : GO (σ0.set c (some r)) b cs n s (σ.set c (some r)) ∧ c ≠ b ∧ σ0 c = none := by
 obtain ⟨k, hg⟩ := h
 have hb := GO.cell hg
 have hcb : c ≠ b := by rintro rfl; rw [hb] at hc; cases hc
 have h0 : σ0 c = none := by
  rcases hg with ⟨_, _, rfl⟩ | ⟨t, T, _, _, rfl⟩
  ·rwa [ASt.set_ne hcb] at hc
  ·obtain ⟨_, _, hc⟩ := set_none hc
   rwa [ASt.set_ne hcb] at hc
 refine ⟨⟨k, ?_⟩, hcb, h0⟩
 rcases hg with ⟨h1, h2, rfl⟩ | ⟨t, T, h1, h2, rfl⟩
 ·exact .inl ⟨h1, h2, set_swap (Ne.symm hcb)⟩
 ·obtain ⟨h3, h4, _⟩ := set_none hc
  obtain ⟨h5, h6, h7⟩ := set_none h2
  refine .inr ⟨t, T, h1, ?_, ?_⟩
  ·rw [ASt.set_ne h5, ASt.set_ne (Ne.symm h3)]; exact h7
  ·rw [set_swap h4, set_swap (Ne.symm hcb)]
theorem GO.off {σ0 σ : ASt} {b c n s : Nat} {cs : SK → List AV} {r : Role} (h : GO (σ0.set c (some r)) b cs n s σ) (hcb : c ≠ b) (hc : σ0 c = none) : ∃ σ', Drop σ σ' ∧ GO σ0 b cs n s σ' := by
 obtain ⟨k, hg⟩ := h
 rcases hg with ⟨h1, h2, rfl⟩ | ⟨t, T, h1, h2, rfl⟩
 ·refine ⟨σ0.set b (some (.obj (cs k))), ?_, ⟨k, .inl ⟨h1, h2, rfl⟩⟩⟩
  rw [set_swap hcb]
  exact Drop.set (by rw [ASt.set_ne hcb]; exact hc)
 ·obtain ⟨h3, h4, h5⟩ := set_none h2
  obtain ⟨h6, h7, h8⟩ := set_none h5
  have e : ((σ0.set c (some r)).set b (some (.obj (cs k)))).set t (some (.tok (n * s))) = ((σ0.set b (some (.obj (cs k)))).set t (some (.tok (n * s)))).set c (some r) := by
   rw [set_swap hcb, set_swap h7]
  refine ⟨(σ0.set b (some (.obj (cs k)))).set t (some (.tok (n * s))), ?_, ⟨k, .inr ⟨t, T, h1, ?_, rfl⟩⟩⟩
  ·rw [e]
   exact Drop.set (by rw [ASt.set_ne h7, ASt.set_ne hcb]; exact hc)
  ·rw [ASt.set_ne h3]; exact h8
theorem GO.at {σ0 σ : ASt} {b n s x : Nat} {cs : SK → List AV} {r : Role} (h : GO σ0 b cs n s σ) (hx : x ≠ b) (h0 : σ0 x = some r) : σ x = some r := by
 obtain ⟨k, hg⟩ := h
 exact hg.at (by rw [ASt.set_ne hx]; exact h0)
inductive Over (τ : ASt) : ASt → Prop
 | refl : Over τ τ
 | set {σ : ASt} (c : Nat) (r : Role) : Over τ σ → σ c = none → Over τ (σ.set c (some r))
theorem Over.at {τ σ : ASt} (h : Over τ σ) {x : Nat} {r : Role} (hx : τ x = some r) : σ x = some r := by
 induction h with
 | refl => exact hx
 | set c q h hc ih =>
   have : x ≠ c := by rintro rfl; rw [ih] at hc; cases hc
   rw [ASt.set_ne this]; exact ih
theorem Over.drop {τ σ : ASt} (h : Over τ σ) : Drop σ τ := by
 induction h with
 | refl => exact Drop.refl _
 | set c q h hc ih =>
   intro x
   by_cases hx : x = c
   ·subst hx
    rcases ih x with h1 | h1
    ·exact .inr (h1.trans hc)
    ·exact .inr h1
   ·rcases ih x with h1 | h1
    ·exact .inl (by rw [ASt.set_ne hx]; exact h1)
    ·exact .inr h1
theorem Over.trans {τ σ ρ : ASt} (h : Over τ σ) (k : Over σ ρ) : Over τ ρ := by
 induction k with
 | refl => exact h
 | set c r _ hc ih => exact .set c r ih hc
theorem GO.over {σ0 τ σ : ASt} {b n s : Nat} {cs : SK → List AV} (h : GO σ0 b cs n s τ) (ho : Over τ σ) :
  ∃ σ0', GO σ0' b cs n s σ ∧ Over σ0 σ0' ∧ ∀ cs' n' σ', GO σ0' b cs' n' s σ' → ∃ σ'', Drop σ' σ'' ∧ GO σ0 b cs' n' s σ'' := by
 induction ho with
 | refl => exact ⟨σ0, h, .refl, fun cs' n' σ' h' => ⟨σ', Drop.refl _, h'⟩⟩
 | set c r ho hc ih =>
   obtain ⟨σ0', h1, h2, h3⟩ := ih
   obtain ⟨h4, h5, h6⟩ := h1.add (r := r) hc
   refine ⟨σ0'.set c (some r), h4, .set c r h2 h6, fun cs' n' σ' h' => ?_⟩
   obtain ⟨σ1, h7, h8⟩ := h'.off h5 h6
   obtain ⟨σ2, h9, h10⟩ := h3 _ _ _ h8
   exact ⟨σ2, h7.trans h9, h10⟩
def BW (T U : TypeId) (σ0 : ASt) (b : Nat) (l : List UInt8) (σ : ASt) : Prop :=
 (l = [] ∧ σ = σ0.set b (some (.typ T [.pointer none, .slice none 0 0]))) ∨ (l ≠ [] ∧ ∃ k, GrownT U (σ0.set b (some (.obj [.ptr b 0, .sl k (bytesAV l)]))) σ k l.length 1)
theorem BW.over {T U : TypeId} {σ0 σ : ASt} {b : Nat} {l : List UInt8} (h : BW T U σ0 b l σ) (hb : σ0 b = none) : Over σ0 σ := by
 rcases h with ⟨_, rfl⟩ | ⟨_, k, h1 | ⟨g, _, hg, rfl⟩⟩
 ·exact .set b _ .refl hb
 ·obtain ⟨_, _, rfl⟩ := h1
  exact .set b _ .refl hb
 ·exact .set g _ (.set b _ .refl hb) hg
theorem BW.iter {T U : TypeId} {σ0 σ : ASt} {b it : Nat} {l : List UInt8} {r r' : Role} (h : BW T U (σ0.set it (some r)) b l σ) (hb : it ≠ b) : BW T U (σ0.set it (some r')) b l (σ.set it (some r')) ∧ σ it = some r := by
 rcases h with ⟨h0, rfl⟩ | ⟨h0, k, h1 | ⟨g, h1, hg, rfl⟩⟩
 ·refine ⟨.inl ⟨h0, ?_⟩, by rw [ASt.set_ne hb, ASt.set_same]⟩
  rw [← set_swap hb, ASt.set_set]
 ·obtain ⟨h1, h2, rfl⟩ := h1
  refine ⟨.inr ⟨h0, k, .inl ⟨h1, h2, ?_⟩⟩, by rw [ASt.set_ne hb, ASt.set_same]⟩
  rw [← set_swap hb, ASt.set_set]
 ·obtain ⟨h3, h4, h5⟩ := set_none hg
  obtain ⟨h6, h7, h8⟩ := set_none h5
  refine ⟨.inr ⟨h0, k, .inr ⟨g, h1, ?_, ?_⟩⟩, by rw [ASt.set_ne h7, ASt.set_ne hb, ASt.set_same]⟩
  ·rw [ASt.set_ne h3, ASt.set_ne h6]; exact h8
  ·rw [← set_swap h7, ← set_swap hb, ASt.set_set]
end Go.A
namespace Go.A
open Go.Proofs Go.Lib
abbrev BD := BW 100 5
abbrev GT := GrownT 5
theorem cc_ok {σ0 σ : ASt} {b : Nat} {l : List UInt8} (h : BD σ0 b l σ) : ACalls Tryz.prog 113 [.ptr b 0] σ fun v σ' => v = .tuple [] ∧ ∃ k, GT (σ0.set b (some (.obj [.ptr b 0, .sl k (bytesAV l)]))) σ' k l.length 1 := by
 rcases h with ⟨rfl, rfl⟩ | ⟨h0, k, hg⟩
 ·refine (copyCheck_typ (ASt.set_same _ _ _)).mono ?_
  rintro v σ' ⟨rfl, rfl⟩
  exact ⟨rfl, .full, .inl ⟨rfl, rfl, by rw [ASt.set_set]; rfl⟩⟩
 ·refine (copyCheck_used (hg.at (ASt.set_same _ _ _))).mono ?_
  rintro v σ' ⟨rfl, rfl⟩
  exact ⟨rfl, k, hg⟩
theorem bytesAV_app (l m : List UInt8) : bytesAV l ++ bytesAV m = bytesAV (l ++ m) := by simp [bytesAV]
theorem bytesAV_len (l : List UInt8) : (bytesAV l).length = l.length := by simp [bytesAV]
theorem bytes_leaves (l : List UInt8) : leaves ((bytesAV l).flatMap AV.cells) = true := by unfold bytesAV; exact leaves_map (fun _ => rfl) l
theorem bytes_well (l : List UInt8) : wellSz 1 (bytesAV l) = true := by unfold bytesAV; exact wellSz_map (f := fun c : UInt8 => AV.int .u8 c.toNat) (fun _ => ⟨rfl, rfl⟩) l
theorem appB_by {σ σ0 : ASt} {k k2 : SK} {l m : List UInt8} {ys z : List AV} {K : AV → ASt → Prop} (h : GT σ0 σ k l.length 1) (hy : ys = bytesAV m) (hl : l.length + m.length ≤ 4611686018427)
  (hK : ∀ k' σ', GT σ0 σ' k' (l ++ m).length 1 → K (.sl k' (bytesAV (l ++ m))) σ') : appC 5 1 1 z (.sl k (bytesAV l)) (.sl k2 ys) σ K := by
 subst hy
 refine appCT_by (by rw [bytesAV_len]; exact h) (bytes_well m) (bytes_leaves m) (by simp only [bytesAV_len]; omega) (by simp only [bytesAV_len]; omega) fun k' σ' hg => ?_
 rw [bytesAV_app] at hg ⊢
 rw [bytesAV_len] at hg
 exact hK k' σ' hg
theorem writeByte_ok {σ0 σ : ASt} {b : Nat} {l : List UInt8} (h : BD σ0 b l σ) (c : UInt8) (hl : l.length ≤ 1000000000) :
  ACalls Tryz.prog 83 [.ptr b 0, .int .u8 c.toNat] σ fun v σ' => v = .nili ∧ BD σ0 b (l ++ [c]) σ' := by
 refine a83 (by simp) ?_
 simp (disch := first | assumption | omega) only [go_sem, reduceCtorEq, ↓reduceIte]
 refine (cc_ok h).mono ?_
 rintro v σ1 ⟨rfl, k, hg⟩
 have hb := hg.at (ASt.set_same _ _ _)
 simp (disch := first | assumption | omega) only [go_sem, reduceCtorEq, Nat.reduceEqDiff, ↓reduceIte, Bool.true_and, hb]
 refine appB_by (m := [c]) hg rfl (by simp; omega) fun k' σ' hg' => ?_
 have hb' := hg'.at (ASt.set_same _ _ _)
 simp (disch := first | assumption | omega) only [go_sem, Nat.reduceEqDiff, Nat.reduceAdd, Nat.reduceLeDiff, ↓reduceIte, Bool.true_and, hb']
 exact retC_by (Drop.refl _) (.refl _) ⟨rfl, .inr ⟨by simp, k', hg'.obj⟩⟩
theorem or_a : ∀ y : Int, 0 ≤ y → y < 64 → ((BitVec.ofInt 8 128 ||| BitVec.ofInt 8 y).toNat : Int) = 128 + y := by
 have key : ∀ n : Fin 64, ((BitVec.ofInt 8 128 ||| BitVec.ofInt 8 ((n.val : Nat) : Int)).toNat : Int) = 128 + ((n.val : Nat) : Int) := by decide
 intro y h0 h1
 have := key ⟨y.toNat, by omega⟩
 rwa [Int.toNat_of_nonneg h0] at this
theorem or_b : ∀ y : Int, 0 ≤ y → y < 32 → ((BitVec.ofInt 8 192 ||| BitVec.ofInt 8 y).toNat : Int) = 192 + y := by
 have key : ∀ n : Fin 32, ((BitVec.ofInt 8 192 ||| BitVec.ofInt 8 ((n.val : Nat) : Int)).toNat : Int) = 192 + ((n.val : Nat) : Int) := by decide
 intro y h0 h1
 have := key ⟨y.toNat, by omega⟩
 rwa [Int.toNat_of_nonneg h0] at this
theorem or_c : ∀ y : Int, 0 ≤ y → y < 16 → ((BitVec.ofInt 8 224 ||| BitVec.ofInt 8 y).toNat : Int) = 224 + y := by
 have key : ∀ n : Fin 16, ((BitVec.ofInt 8 224 ||| BitVec.ofInt 8 ((n.val : Nat) : Int)).toNat : Int) = 224 + ((n.val : Nat) : Int) := by decide
 intro y h0 h1
 have := key ⟨y.toNat, by omega⟩
 rwa [Int.toNat_of_nonneg h0] at this
theorem or_d : ∀ y : Int, 0 ≤ y → y < 8 → ((BitVec.ofInt 8 240 ||| BitVec.ofInt 8 y).toNat : Int) = 240 + y := by
 have key : ∀ n : Fin 8, ((BitVec.ofInt 8 240 ||| BitVec.ofInt 8 ((n.val : Nat) : Int)).toNat : Int) = 240 + ((n.val : Nat) : Int) := by decide
 intro y h0 h1
 have := key ⟨y.toNat, by omega⟩
 rwa [Int.toNat_of_nonneg h0] at this
theorem and_63 (y : Int) : ((BitVec.ofInt 8 (y % 256) &&& BitVec.ofInt 8 63).toNat : Int) = y % 64 := by
 have key : ∀ n : Fin 256, ((BitVec.ofInt 8 ((n.val : Nat) : Int) &&& BitVec.ofInt 8 63).toNat : Int) = ((n.val : Nat) : Int) % 64 := by decide
 have := key ⟨(y % 256).toNat, by omega⟩
 rw [Int.toNat_of_nonneg (by omega)] at this
 rw [this]
 omega
theorem wrap_8 (y : Int) : IntKind.wrap .u8 y = y % 256 := IntKind.wrap_u8 y
theorem encAV (r : Int) : (encodeRuneZ r).map (AV.int .u8) = bytesAV (encodeRune r) := by
 unfold bytesAV encodeRune
 rw [List.map_map]
 apply List.map_congr_left
 intro x hx
 obtain ⟨h0, h1⟩ := encodeRuneZ_byte r x hx
 simp [Function.comp]
 omega
theorem enc_len (r : Int) : (encodeRune r).length ≤ 4 := by
 have := encodeRuneZ_length r
 simp [encodeRune]
 omega
def RuneOk (r : Int) : Prop := 0 ≤ r ∧ r ≤ 1114111 ∧ ¬ (55296 ≤ r ∧ r ≤ 57343)
set_option maxHeartbeats 1000000 in
theorem appendRuneN_ok {σ0 σ : ASt} {k : SK} {l : List UInt8} (h : GT σ0 σ k l.length 1) {r : Int} (hr : RuneOk r) (h128 : 127 < r) (hl : l.length ≤ 1000000000) :
  ACalls Tryz.prog 174 [.sl k (bytesAV l), .int .i32 r] σ fun v σ' => ∃ k', v = .sl k' (bytesAV (l ++ encodeRune r)) ∧ GT σ0 σ' k' (l ++ encodeRune r).length 1 := by
 obtain ⟨r0, r1, r2⟩ := hr
 have hel := enc_len r
 have hea := encAV r
 have w1 := wrap_8 r
 have w2 := wrap_8 (r / 64)
 have w3 := wrap_8 (r / 4096)
 have a1 := and_63 r
 have a2 := and_63 (r / 64)
 have a3 := and_63 (r / 4096)
 have o1 := or_a (r % 64) (by omega) (by omega)
 have o2 := or_a (r / 64 % 64) (by omega) (by omega)
 have o3 := or_a (r / 4096 % 64) (by omega) (by omega)
 refine a174 (by simp) ?_
 by_cases c1 : r ≤ 2047
 ·have o4 := or_b (r / 64) (by omega) (by omega)
  have e : [AV.int .u8 ((BitVec.ofInt 8 192 ||| BitVec.ofInt 8 (r / 64)).toNat : Int), AV.int .u8 ((BitVec.ofInt 8 128 ||| BitVec.ofInt 8 ((BitVec.ofInt 8 (r % 256) &&& BitVec.ofInt 8 63).toNat : Int)).toNat : Int)] = [192 + r / 64, 128 + r % 64].map (AV.int .u8) := by
   rw [a1, o1, o4]; rfl
  rw [encodeRuneZ_two (by omega) c1] at hea
  simp (disch := first | assumption | omega) only [go_sem, reduceCtorEq, Nat.reduceEqDiff, ↓reduceIte, Int.reduceToNat, Int.reducePow, Bool.true_and, c1, w1]
  refine appB_by (m := encodeRune r) h (e.trans hea) (by omega) fun k' σ' hg' => ?_
  rw [List.length_append] at hg'
  simp (disch := first | assumption | omega) only [go_sem, ↓reduceIte]
  exact retC_by (Drop.refl _) (.refl _) ⟨k', rfl, hg'⟩
 by_cases c2 : r < 55296
 ·have o4 := or_c (r / 4096) (by omega) (by omega)
  have e : [AV.int .u8 ((BitVec.ofInt 8 224 ||| BitVec.ofInt 8 (r / 4096)).toNat : Int), AV.int .u8 ((BitVec.ofInt 8 128 ||| BitVec.ofInt 8 ((BitVec.ofInt 8 (r / 64 % 256) &&& BitVec.ofInt 8 63).toNat : Int)).toNat : Int),
   AV.int .u8 ((BitVec.ofInt 8 128 ||| BitVec.ofInt 8 ((BitVec.ofInt 8 (r % 256) &&& BitVec.ofInt 8 63).toNat : Int)).toNat : Int)] = [224 + r / 4096, 128 + r / 64 % 64, 128 + r % 64].map (AV.int .u8) := by
   rw [a1, a2, o1, o2, o4]; rfl
  rw [encodeRuneZ_three (by omega)] at hea
  simp (disch := first | assumption | omega) only [go_sem, reduceCtorEq, Nat.reduceEqDiff, ↓reduceIte, Int.reduceToNat, Int.reducePow, Bool.true_and, c1, c2, w1, w2]
  refine appB_by (m := encodeRune r) h (e.trans hea) (by omega) fun k' σ' hg' => ?_
  rw [List.length_append] at hg'
  simp (disch := first | assumption | omega) only [go_sem, ↓reduceIte]
  exact retC_by (Drop.refl _) (.refl _) ⟨k', rfl, hg'⟩
 have c3 : 57343 < r := by omega
 by_cases c4 : r ≤ 65535
 ·have o4 := or_c (r / 4096) (by omega) (by omega)
  have e : [AV.int .u8 ((BitVec.ofInt 8 224 ||| BitVec.ofInt 8 (r / 4096)).toNat : Int), AV.int .u8 ((BitVec.ofInt 8 128 ||| BitVec.ofInt 8 ((BitVec.ofInt 8 (r / 64 % 256) &&& BitVec.ofInt 8 63).toNat : Int)).toNat : Int),
   AV.int .u8 ((BitVec.ofInt 8 128 ||| BitVec.ofInt 8 ((BitVec.ofInt 8 (r % 256) &&& BitVec.ofInt 8 63).toNat : Int)).toNat : Int)] = [224 + r / 4096, 128 + r / 64 % 64, 128 + r % 64].map (AV.int .u8) := by
   rw [a1, a2, o1, o2, o4]; rfl
  rw [encodeRuneZ_three (by omega)] at hea
  simp (disch := first | assumption | omega) only [go_sem, reduceCtorEq, Nat.reduceEqDiff, ↓reduceIte, Int.reduceToNat, Int.reducePow, Bool.true_and, c1, c2, c3, c4, w1, w2]
  refine appB_by (m := encodeRune r) h (e.trans hea) (by omega) fun k' σ' hg' => ?_
  rw [List.length_append] at hg'
  simp (disch := first | assumption | omega) only [go_sem, ↓reduceIte]
  exact retC_by (Drop.refl _) (.refl _) ⟨k', rfl, hg'⟩
 ·have c5 : 65535 < r := by omega
  have o4 := or_d (r / 262144) (by omega) (by omega)
  have e : [AV.int .u8 ((BitVec.ofInt 8 240 ||| BitVec.ofInt 8 (r / 262144)).toNat : Int), AV.int .u8 ((BitVec.ofInt 8 128 ||| BitVec.ofInt 8 ((BitVec.ofInt 8 (r / 4096 % 256) &&& BitVec.ofInt 8 63).toNat : Int)).toNat : Int),
   AV.int .u8 ((BitVec.ofInt 8 128 ||| BitVec.ofInt 8 ((BitVec.ofInt 8 (r / 64 % 256) &&& BitVec.ofInt 8 63).toNat : Int)).toNat : Int), AV.int .u8 ((BitVec.ofInt 8 128 ||| BitVec.ofInt 8 ((BitVec.ofInt 8 (r % 256) &&& BitVec.ofInt 8 63).toNat : Int)).toNat : Int)] = [240 + r / 262144, 128 + r / 4096 % 64, 128 + r / 64 % 64, 128 + r % 64].map (AV.int .u8) := by
   rw [a1, a2, a3, o1, o2, o3, o4]; rfl
  rw [encodeRuneZ_four (by omega) (by omega)] at hea
  simp (disch := first | assumption | omega) only [go_sem, reduceCtorEq, Nat.reduceEqDiff, ↓reduceIte, Int.reduceToNat, Int.reducePow, Bool.true_and, c1, c2, c3, c4, c5, w1, w2, w3]
  refine appB_by (m := encodeRune r) h (e.trans hea) (by omega) fun k' σ' hg' => ?_
  rw [List.length_append] at hg'
  simp (disch := first | assumption | omega) only [go_sem, ↓reduceIte]
  exact retC_by (Drop.refl _) (.refl _) ⟨k', rfl, hg'⟩
theorem appendRune_ok {σ0 σ : ASt} {k : SK} {l : List UInt8} (h : GT σ0 σ k l.length 1) {r : Int} (hr : RuneOk r) (hl : l.length ≤ 1000000000) :
  ACalls Tryz.prog 156 [.sl k (bytesAV l), .int .i32 r] σ fun v σ' => ∃ k', v = .sl k' (bytesAV (l ++ encodeRune r)) ∧ GT σ0 σ' k' (l ++ encodeRune r).length 1 := by
 obtain ⟨r0, r1, r2⟩ := hr
 have hel := enc_len r
 have hea := encAV r
 refine a156 (by simp) ?_
 by_cases c1 : r ≤ 127
 ·rw [encodeRuneZ_one r0 c1] at hea
  simp (disch := first | assumption | omega) only [go_sem, reduceCtorEq, Nat.reduceEqDiff, ↓reduceIte, Bool.true_and, c1]
  refine appB_by (m := encodeRune r) h hea (by omega) fun k' σ' hg' => ?_
  rw [List.length_append] at hg'
  simp (disch := first | assumption | omega) only [go_sem, ↓reduceIte]
  exact retC_by (Drop.refl _) (.refl _) ⟨k', rfl, hg'⟩
 ·simp (disch := first | assumption | omega) only [go_sem, reduceCtorEq, Nat.reduceEqDiff, ↓reduceIte, c1]
  refine (appendRuneN_ok h ⟨r0, r1, r2⟩ (by omega) hl).mono ?_
  rintro v σ' ⟨k', rfl, hg'⟩
  rw [List.length_append] at hg'
  simp (disch := first | assumption | omega) only [go_sem, ↓reduceIte]
  exact retC_by (Drop.refl _) (.refl _) ⟨k', rfl, hg'⟩
theorem writeRune_ok {σ0 σ : ASt} {b : Nat} {l : List UInt8} (h : BD σ0 b l σ) {r : Int} (hr : RuneOk r) (hl : l.length ≤ 1000000000) :
  ACalls Tryz.prog 134 [.ptr b 0, .int .i32 r] σ fun v σ' => BD σ0 b (l ++ encodeRune r) σ' := by
 refine a134 (by simp) ?_
 have hel := enc_len r
 have hne : encodeRune r ≠ [] := by
  intro h
  have := encodeRuneZ_length r
  have h2 := congrArg List.length h
  simp [encodeRune] at h2
  rw [h2] at this
  simp at this
 simp (disch := first | assumption | omega) only [go_sem, reduceCtorEq, ↓reduceIte]
 refine (cc_ok h).mono ?_
 rintro v σ1 ⟨rfl, k, hg⟩
 have hb := hg.at (ASt.set_same _ _ _)
 have hbl := bytesAV_len l
 simp (disch := first | assumption | omega) only [go_sem, reduceCtorEq, Nat.reduceEqDiff, ↓reduceIte, hb, hbl]
 refine (appendRune_ok hg hr hl).mono ?_
 rintro v σ' ⟨k', rfl, hg'⟩
 have hb' := hg'.at (ASt.set_same _ _ _)
 have hbl' := bytesAV_len (l ++ encodeRune r)
 have hll : (l ++ encodeRune r).length ≤ 1000000004 := by simp; omega
 simp (disch := first | assumption | omega) only [go_sem, reduceCtorEq, Nat.reduceEqDiff, Nat.reduceAdd, Nat.reduceLeDiff, ↓reduceIte, Bool.true_and, hb', hbl']
 exact retC_by (Drop.refl _) (.refl _) (.inr ⟨by simp [hne], k', hg'.obj⟩)
theorem bstring_ok {σ0 σ : ASt} {b : Nat} {l : List UInt8} (h : BD σ0 b l σ) (hl : l.length ≤ 1000000000) : ACalls Tryz.prog 49 [.ptr b 0] σ fun v σ' => v = .str l ∧ σ' = σ := by
 rcases h with ⟨rfl, rfl⟩ | ⟨h0, k, hg⟩
 ·exact bstring_typ (ASt.set_same _ _ _)
 ·have hb := hg.at (ASt.set_same _ _ _)
  rcases hg with ⟨_, h1, _⟩ | ⟨g, rfl, hg, rfl⟩
  ·exact absurd (List.eq_nil_of_length_eq_zero h1) h0
  ·refine bstring_used h0 (by omega) hb (by rw [ASt.set_same, Nat.mul_one])
end Go.A
namespace Go.A
open Go.Proofs
/-! 76: (*strings.Builder).WriteString -/
def c76_7 : ACode := .seq (.ops [ oq 4 (.mv (.v (.int .i64 0))), oq 5 (.mv (.v .nili))]) (.seq (.ops [ oq 6 (.mv (.t 0)), oe 7 (.call 113 [(.t 6)])]) (.seq (.ops [ oq 8 (.mv (.t 0)), oq 9 (.mv (.t 0)), oq 10 (.nc (.t 9)), oq 11 (.fa 1 (.t 10)), oq 12 (.ld none (.t 11)), oq 13 (.mv (.t 1)), oe 14 (.apps 5 (.t 12) (.t 13)), oq 15 (.nc (.t 8)), oq 16 (.fa 1 (.t 15)), oz (.store 1 (.t 16) (.t 14))]) (.seq (.ops [ oq 17 (.mv (.t 1)), oq 18 (.lenS (.t 17)), oq 4 (.mv (.t 18)), oq 5 (.mv (.v .nili))]) .ret)))
@[go_sem] def c76_7_wp := wp_of c76_7.eq_1
def c76 : AFn := ⟨19, [.t 4, .t 5], c76_7⟩
theorem c76_ok : compF Tryz.prog Tryz.f76 = some c76 := by kernel_rfl
theorem a76 {args : List AV} {σ : ASt} {R : AV → ASt → Prop} (hl : args.length ≤ 19) (h : c76_7.wp Tryz.prog (RetQ [.t 4, .t 5] R) (init args) σ) : ACalls Tryz.prog 76 args σ R := acalls_of Tryz.func76 c76_ok hl h
end Go.A
namespace Go.A
open Go.Proofs Go.Lib
section
variable {T U : TypeId} {σ0 σ : ASt} {b c x : Nat} {l : List UInt8} {r : Role}
theorem BW.role (h : BW T U σ0 b l σ) : σ b ≠ none := by
 rcases h with ⟨_, rfl⟩ | ⟨_, k, hg⟩
 ·rw [ASt.set_same]; simp
 ·rw [hg.at (ASt.set_same _ _ _)]; simp
theorem BW.at (h : BW T U σ0 b l σ) (hx : x ≠ b) (h0 : σ0 x = some r) : σ x = some r := by
 rcases h with ⟨_, rfl⟩ | ⟨_, k, hg⟩
 ·rw [ASt.set_ne hx]; exact h0
 ·exact hg.at (by rw [ASt.set_ne hx]; exact h0)
theorem BW.add (h : BW T U σ0 b l σ) (hc : σ c = none) : BW T U (σ0.set c (some r)) b l (σ.set c (some r)) ∧ c ≠ b ∧ σ0 c = none := by
 have hcb : c ≠ b := by rintro rfl; exact h.role hc
 rcases h with ⟨h0, rfl⟩ | ⟨h0, k, h1 | ⟨t, h1, h2, rfl⟩⟩
 ·rw [ASt.set_ne hcb] at hc
  exact ⟨.inl ⟨h0, set_swap (Ne.symm hcb)⟩, hcb, hc⟩
 ·obtain ⟨h1, h2, rfl⟩ := h1
  rw [ASt.set_ne hcb] at hc
  exact ⟨.inr ⟨h0, k, .inl ⟨h1, h2, set_swap (Ne.symm hcb)⟩⟩, hcb, hc⟩
 ·obtain ⟨h3, h4, hc⟩ := set_none hc
  rw [ASt.set_ne hcb] at hc
  obtain ⟨h5, h6, h7⟩ := set_none h2
  refine ⟨.inr ⟨h0, k, .inr ⟨t, h1, ?_, ?_⟩⟩, hcb, hc⟩
  ·rw [ASt.set_ne h5, ASt.set_ne (Ne.symm h3)]; exact h7
  ·rw [set_swap h4, set_swap (Ne.symm hcb)]
theorem BW.off (h : BW T U (σ0.set c (some r)) b l σ) (hcb : c ≠ b) (hc : σ0 c = none) : ∃ σ', Drop σ σ' ∧ BW T U σ0 b l σ' := by
 rcases h with ⟨h0, rfl⟩ | ⟨h0, k, h1 | ⟨t, h1, h2, rfl⟩⟩
 ·refine ⟨_, ?_, .inl ⟨h0, rfl⟩⟩
  rw [set_swap hcb]
  exact Drop.set (by rw [ASt.set_ne hcb]; exact hc)
 ·obtain ⟨h1, h2, rfl⟩ := h1
  refine ⟨_, ?_, .inr ⟨h0, k, .inl ⟨h1, h2, rfl⟩⟩⟩
  rw [set_swap hcb]
  exact Drop.set (by rw [ASt.set_ne hcb]; exact hc)
 ·obtain ⟨h3, h4, h5⟩ := set_none h2
  obtain ⟨h6, h7, h8⟩ := set_none h5
  refine ⟨(σ0.set b (some (.obj [.ptr b 0, .sl k (bytesAV l)]))).set t (some (.tok (l.length * 1))), ?_, .inr ⟨h0, k, .inr ⟨t, h1, ?_, rfl⟩⟩⟩
  ·rw [set_swap hcb, set_swap h7]
   exact Drop.set (by rw [ASt.set_ne h7, ASt.set_ne hcb]; exact hc)
  ·rw [ASt.set_ne h3]; exact h8
end
theorem appsB_by {σ σ0 : ASt} {k : SK} {l m : List UInt8} {K : AV → ASt → Prop} (h : GT σ0 σ k l.length 1) (hl : l.length + m.length ≤ 4611686018427)
  (hK : ∀ k' σ', GT σ0 σ' k' (l ++ m).length 1 → K (.sl k' (bytesAV (l ++ m))) σ') : appsC 5 (.sl k (bytesAV l)) (.str m) σ K := by
 refine appsCT_by (by rw [bytesAV_len]; exact h) (by rw [bytesAV_len]; omega) fun k' σ' hg => ?_
 rw [bytesAV_app]
 rw [bytesAV_len] at hg
 exact hK k' σ' (by rw [List.length_append]; exact hg)
theorem writes_ok {σ0 σ : ASt} {b : Nat} {l : List UInt8} (h : BD σ0 b l σ) (m : List UInt8) (hl : l.length + m.length ≤ 1000000000) :
  ACalls Tryz.prog 76 [.ptr b 0, .str m] σ fun v σ' => v = .tuple [.int .i64 m.length, .nili] ∧ ((l ++ m = [] ∧ ∃ k, GT (σ0.set b (some (.obj [.ptr b 0, .sl k []]))) σ' k 0 1) ∨ BD σ0 b (l ++ m) σ') := by
 refine a76 (by simp) ?_
 simp (disch := first | assumption | omega) only [go_sem, reduceCtorEq, ↓reduceIte]
 refine (cc_ok h).mono ?_
 rintro v σ1 ⟨rfl, k, hg⟩
 have hb := hg.at (ASt.set_same _ _ _)
 simp (disch := first | assumption | omega) only [go_sem, reduceCtorEq, Nat.reduceEqDiff, ↓reduceIte, hb]
 refine appsB_by hg (by omega) fun k' σ' hg' => ?_
 have hb' := hg'.at (ASt.set_same _ _ _)
 simp (disch := first | assumption | omega) only [go_sem, Nat.reduceEqDiff, Nat.reduceAdd, Nat.reduceLeDiff, ↓reduceIte, Bool.true_and, hb']
 refine retC_by (Drop.refl _) (.refl _) ⟨rfl, ?_⟩
 by_cases he : l ++ m = []
 ·refine .inl ⟨he, k', ?_⟩
  have := hg'.obj (r' := .obj [.ptr b 0, .sl k' (bytesAV (l ++ m))])
  rw [he] at this
  rw [he]
  exact this
 ·exact .inr (.inr ⟨he, k', hg'.obj⟩)
theorem writes1_ok {σ0 σ : ASt} {b : Nat} {l : List UInt8} (h : BD σ0 b l σ) (m : List UInt8) (hm : m ≠ []) (hl : l.length + m.length ≤ 1000000000) :
  ACalls Tryz.prog 76 [.ptr b 0, .str m] σ fun v σ' => v = .tuple [.int .i64 m.length, .nili] ∧ BD σ0 b (l ++ m) σ' :=
 (writes_ok h m hl).mono fun _ _ ⟨h1, h2⟩ => ⟨h1, h2.resolve_left fun h => hm (List.append_eq_nil_iff.1 h.1).2⟩
end Go.A
namespace Go.A
open Go.Proofs
/-! 71: tabular/expr.Signs -/
def c71_3 : ACode := .seq (.ops [ oq 0 (.mv (.v (.sl .full [])))]) (.seq (.ops [ oq 1 (.bsl 1 [(.v (.str [43])), (.v (.str [45])), (.v (.str [42])), (.v (.str [47])), (.v (.str [94])), (.v (.str [38])), (.v (.str [61])), (.v (.str [60, 62])), (.v (.str [60])), (.v (.str [60, 61])), (.v (.str [62])), (.v (.str [62, 61]))]), oq 0 (.mv (.t 1))]) .ret)
@[go_sem] def c71_3_wp := wp_of c71_3.eq_1
def c71 : AFn := ⟨2, [.t 0], c71_3⟩
theorem c71_ok : compF Tryz.prog Tryz.f71 = some c71 := by kernel_rfl
theorem a71 {args : List AV} {σ : ASt} {R : AV → ASt → Prop} (hl : args.length ≤ 2) (h : c71_3.wp Tryz.prog (RetQ [.t 0] R) (init args) σ) : ACalls Tryz.prog 71 args σ R := acalls_of Tryz.func71 c71_ok hl h
/-! 79: tabular/expr.truth -/
def c79_9 : ACode := .seq (.ops [ oq 2 (.mv (.v (.str [])))]) (.seq (.seq (.ops [ oq 3 (.mv (.t 0))]) (.cond (.t 3) (.seq (.ops [ oq 2 (.mv (.v (.str [84, 82, 85, 69])))]) .ret) .skip)) (.seq (.ops [ oq 2 (.mv (.v (.str [70, 65, 76, 83, 69])))]) .ret))
@[go_sem] def c79_9_wp := wp_of c79_9.eq_1
def c79 : AFn := ⟨4, [.t 2], c79_9⟩
theorem c79_ok : compF Tryz.prog Tryz.f79 = some c79 := by kernel_rfl
theorem a79 {args : List AV} {σ : ASt} {R : AV → ASt → Prop} (hl : args.length ≤ 4) (h : c79_9.wp Tryz.prog (RetQ [.t 2] R) (init args) σ) : ACalls Tryz.prog 79 args σ R := acalls_of Tryz.func79 c79_ok hl h
/-! 85: tabular/expr.level -/
def c85_20 : ACode := .seq (.ops [ oq 2 (.mv (.v (.int .i64 0)))]) (.seq (.block 0 (.seq (.ops [ oq 4 (.mv (.t 0)), oq 5 (.bin .eql (.t 4) (.v (.int .i64 7))), oq 6 (.mv (.t 5)), ⟨some 7, some (6, false), .q (.mv (.t 0)), []⟩, ⟨some 8, some (6, false), .q (.bin .eql (.t 7) (.v (.int .i64 8))), []⟩, oq 9 (.pick (.t 6) (.v (.bool true)) (.t 8)), oq 3 (.mv (.t 9))]) (.cond (.t 3) (.seq (.ops [ oq 2 (.mv (.v (.int .i64 6)))]) .ret) (.seq (.ops [ oq 11 (.mv (.t 0)), oq 12 (.bin .eql (.t 11) (.v (.int .i64 9))), oq 10 (.mv (.t 12))]) (.cond (.t 10) (.seq (.ops [ oq 2 (.mv (.v (.int .i64 7)))]) .ret) (.seq (.ops [ oq 14 (.mv (.t 0)), oq 15 (.bin .lss (.t 14) (.v (.int .i64 10))), oq 16 (.mv (.t 15)), ⟨some 17, some (16, false), .q (.mv (.t 0)), []⟩, ⟨some 18, some (16, false), .q (.bin .geq (.t 17) (.v (.int .i64 22))), []⟩, oq 19 (.pick (.t 16) (.v (.bool true)) (.t 18)), oq 13 (.mv (.t 19))]) (.cond (.t 13) (.seq (.ops [ oq 2 (.mv (.v (.int .i64 8)))]) .ret) .skip))))))) (.seq (.ops [ oq 20 (.bsl 1 [(.v (.int .i64 3)), (.v (.int .i64 3)), (.v (.int .i64 4)), (.v (.int .i64 4)), (.v (.int .i64 5)), (.v (.int .i64 2)), (.v (.int .i64 1)), (.v (.int .i64 1)), (.v (.int .i64 1)), (.v (.int .i64 1)), (.v (.int .i64 1)), (.v (.int .i64 1))]), oq 21 (.mv (.t 0)), oq 22 (.bin .sub (.t 21) (.v (.int .i64 10))), oq 23 (.ia 1 (.t 20) (.t 22)), oq 24 (.ld none (.t 23)), oq 2 (.mv (.t 24))]) .ret))
@[go_sem] def c85_20_wp := wp_of c85_20.eq_1
def c85 : AFn := ⟨25, [.t 2], c85_20⟩
theorem c85_ok : compF Tryz.prog Tryz.f85 = some c85 := by kernel_rfl
theorem a85 {args : List AV} {σ : ASt} {R : AV → ASt → Prop} (hl : args.length ≤ 25) (h : c85_20.wp Tryz.prog (RetQ [.t 2] R) (init args) σ) : ACalls Tryz.prog 85 args σ R := acalls_of Tryz.func85 c85_ok hl h
end Go.A
namespace Go.A
open Go.Proofs Go.Lib
theorem esigns_ok : Pure Tryz.prog 71 [] (.sl .shr (signL.map AV.str)) := by
 intro σ
 refine a71 (by simp) ?_
 simp (disch := first | assumption | omega) only [go_sem, ↓reduceIte, Bool.true_and]
 exact retC_by (by repeat' (first | exact Drop.refl _ | with_reducible refine Drop.off ?_ (by assumption))) (.sl _ _) ⟨rfl, rfl⟩
theorem tenames_ok : Pure Tryz.prog 119 [] (.sl .shr (errL.map AV.str)) := by
 intro σ
 refine a119 (by simp) ?_
 simp (disch := first | assumption | omega) only [go_sem, ↓reduceIte, Bool.true_and]
 exact retC_by (by repeat' (first | exact Drop.refl _ | with_reducible refine Drop.off ?_ (by assumption))) (.sl _ _) ⟨rfl, rfl⟩
theorem level_ok (op : Int) (h0 : -1000 ≤ op) (h1 : op ≤ 1000) : Pure Tryz.prog 85 [.int .i64 op] (.int .i64 (levelP op)) := by
 intro σ
 obtain ⟨q, hq⟩ : ∃ q, levelP op = q := ⟨_, rfl⟩
 rw [hq]
 unfold levelP at hq
 refine a85 (by simp) ?_
 by_cases h7 : op = 7
 ·rw [if_pos (.inl h7)] at hq
  subst hq
  simp (disch := first | assumption | omega) only [go_sem, reduceCtorEq, Nat.reduceEqDiff, ↓reduceIte, h7]
  exact retC_by (by repeat' (first | exact Drop.refl _ | with_reducible refine Drop.off ?_ (by assumption))) (.refl _) ⟨rfl, rfl⟩
 by_cases h8 : op = 8
 ·rw [if_pos (.inr h8)] at hq
  subst hq
  simp (disch := first | assumption | omega) only [go_sem, reduceCtorEq, Nat.reduceEqDiff, Int.reduceEq, ↓reduceIte, h8]
  exact retC_by (by repeat' (first | exact Drop.refl _ | with_reducible refine Drop.off ?_ (by assumption))) (.refl _) ⟨rfl, rfl⟩
 rw [if_neg (by omega)] at hq
 by_cases h9 : op = 9
 ·rw [if_pos h9] at hq
  subst hq
  simp (disch := first | assumption | omega) only [go_sem, reduceCtorEq, Nat.reduceEqDiff, Int.reduceEq, ↓reduceIte, h9]
  exact retC_by (by repeat' (first | exact Drop.refl _ | with_reducible refine Drop.off ?_ (by assumption))) (.refl _) ⟨rfl, rfl⟩
 rw [if_neg h9] at hq
 by_cases ha : op < 10
 ·rw [if_pos (.inl ha)] at hq
  subst hq
  simp (disch := first | assumption | omega) only [go_sem, reduceCtorEq, Nat.reduceEqDiff, ↓reduceIte, h7, h8, h9, ha]
  exact retC_by (by repeat' (first | exact Drop.refl _ | with_reducible refine Drop.off ?_ (by assumption))) (.refl _) ⟨rfl, rfl⟩
 by_cases hb : 22 ≤ op
 ·rw [if_pos (.inr hb)] at hq
  subst hq
  simp (disch := first | assumption | omega) only [go_sem, reduceCtorEq, Nat.reduceEqDiff, ↓reduceIte, h7, h8, h9, ha, hb]
  exact retC_by (by repeat' (first | exact Drop.refl _ | with_reducible refine Drop.off ?_ (by assumption))) (.refl _) ⟨rfl, rfl⟩
 rw [if_neg (by omega)] at hq
 have hc : op = 10 ∨ op = 11 ∨ op = 12 ∨ op = 13 ∨ op = 14 ∨ op = 15 ∨ op = 16 ∨ op = 17 ∨ op = 18 ∨ op = 19 ∨ op = 20 ∨ op = 21 := by omega
 rcases hc with rfl | rfl | rfl | rfl | rfl | rfl | rfl | rfl | rfl | rfl | rfl | rfl
 all_goals
  simp at hq
  subst hq
  simp (disch := first | assumption | omega) only [go_sem, reduceCtorEq, Nat.reduceEqDiff, Int.reduceLT, Int.reduceLE, Int.reduceEq, ↓reduceIte, Int.reduceSub, Int.reduceToNat, Bool.true_and]
  exact retC_by (by repeat' (first | exact Drop.refl _ | with_reducible refine Drop.off ?_ (by assumption))) (.refl _) ⟨rfl, rfl⟩
theorem truth_ok (b : Bool) : Pure Tryz.prog 79 [.bool b] (.str (truthP b)) := by
 intro σ
 refine a79 (by simp) ?_
 cases b <;> simp (disch := first | assumption | omega) only [go_sem, reduceCtorEq, ↓reduceIte]
 all_goals exact retC_by (by repeat' (first | exact Drop.refl _ | with_reducible refine Drop.off ?_ (by assumption))) (.refl _) ⟨rfl, rfl⟩
end Go.A
namespace Go.A
open Go.Proofs
/-! 80: tabular/expr.Failure -/
def c80_11 : ACode := .seq (.ops [ oe 1 (.box (.t 0)), oq 2 (.mv (.v (.str [])))]) (.seq (.ops [ oq 4 (.fa 1 (.t 1)), oq 5 (.ld none (.t 4)), oe 6 (.call 118 [(.t 5)]), oq 3 (.mv (.t 6))]) (.seq (.seq (.ops [ oq 7 (.fa 0 (.t 1)), oq 8 (.ld none (.t 7)), oq 9 (.bin .neq (.t 8) (.v (.int .i64 4))), oq 10 (.mv (.t 9)), ⟨some 11, some (10, false), .q (.mv (.t 3)), []⟩, ⟨some 12, some (10, false), .q (.bin .lss (.t 11) (.v (.int .i64 1))), []⟩, oq 13 (.pick (.t 10) (.v (.bool true)) (.t 12)), oq 14 (.mv (.t 13)), ⟨some 15, some (14, false), .q (.mv (.t 3)), []⟩, ⟨some 16, some (14, false), .e (.call 119 []), []⟩, ⟨some 17, some (14, false), .q (.len (.t 16)), []⟩, ⟨some 18, some (14, false), .q (.bin .gtr (.t 15) (.t 17)), []⟩, oq 19 (.pick (.t 14) (.v (.bool true)) (.t 18))]) (.cond (.t 19) (.seq (.ops [ oq 2 (.mv (.v (.str [])))]) .ret) .skip)) (.seq (.ops [ oe 20 (.call 119 []), oq 21 (.mv (.t 3)), oq 22 (.bin .sub (.t 21) (.v (.int .i64 1))), oq 23 (.ia 1 (.t 20) (.t 22)), oq 24 (.ld none (.t 23)), oq 2 (.mv (.t 24))]) .ret)))
@[go_sem] def c80_11_wp := wp_of c80_11.eq_1
def c80 : AFn := ⟨25, [.t 2], c80_11⟩
theorem c80_ok : compF Tryz.prog Tryz.f80 = some c80 := by kernel_rfl
theorem a80 {args : List AV} {σ : ASt} {R : AV → ASt → Prop} (hl : args.length ≤ 25) (h : c80_11.wp Tryz.prog (RetQ [.t 2] R) (init args) σ) : ACalls Tryz.prog 80 args σ R := acalls_of Tryz.func80 c80_ok hl h
end Go.A
namespace Go.A
open Go.Proofs Go.Lib
theorem failure_ok (op n : Int) (s : List UInt8) (a b : Ref) (kids : List Nd) (hn : n.natAbs ≤ 999999999999999999) : Pure Tryz.prog 80 [(Nd.mk op n s a b kids).av] (.str (failT op n)) := by
 intro σ
 have hW := whole_ok hn
 have hE := tenames_ok
 obtain ⟨q, hq⟩ : ∃ q, failT op n = q := ⟨_, rfl⟩
 rw [hq]
 unfold failT at hq
 rw [Nd.av_cs]
 generalize n.tdiv 10000 = i at *
 refine a80 (by simp) ?_
 simp (disch := first | assumption | omega) only [go_sem]
 refine boxC_by rfl fun c hc => ?_
 simp (disch := first | assumption | omega) only [go_sem, Nat.reduceEqDiff, ↓reduceIte]
 refine hW.use ?_
 by_cases h4 : op = 4
 ·by_cases h2 : i < 1
  ·rw [if_pos (.inr (.inl h2))] at hq
   subst hq
   simp (disch := first | assumption | omega) only [go_sem, Nat.reduceEqDiff, ↓reduceIte, h4, h2]
   exact retC_by (by repeat' (first | exact Drop.refl _ | with_reducible refine Drop.off ?_ (by assumption))) (.refl _) ⟨rfl, rfl⟩
  ·by_cases h3 : 7 < i
   ·rw [if_pos (.inr (.inr h3))] at hq
    subst hq
    simp (disch := first | assumption | omega) only [go_sem, Nat.reduceEqDiff, ↓reduceIte, h4, h2]
    refine hE.use ?_
    unfold errL
    simp (disch := first | assumption | omega) only [go_sem, Nat.reduceEqDiff, Nat.reduceAdd, ↓reduceIte, h3]
    exact retC_by (by repeat' (first | exact Drop.refl _ | with_reducible refine Drop.off ?_ (by assumption))) (.refl _) ⟨rfl, rfl⟩
   ·rw [if_neg (by omega)] at hq
    have hc : i = 1 ∨ i = 2 ∨ i = 3 ∨ i = 4 ∨ i = 5 ∨ i = 6 ∨ i = 7 := by omega
    subst hq
    rcases hc with rfl | rfl | rfl | rfl | rfl | rfl | rfl
    all_goals
     simp (disch := first | assumption | omega) only [go_sem, Nat.reduceEqDiff, Int.reduceLT, ↓reduceIte, Int.reduceSub, Int.reduceToNat, h4]
     refine hE.use ?_
     unfold errL
     simp (disch := first | assumption | omega) only [go_sem, Nat.reduceEqDiff, Nat.reduceAdd, Int.reduceLT, ↓reduceIte]
     refine hE.use ?_
     unfold errL
     simp (disch := first | assumption | omega) only [go_sem, Nat.reduceEqDiff, ↓reduceIte, Int.reduceSub, Int.reduceToNat]
     exact retC_by (by repeat' (first | exact Drop.refl _ | with_reducible refine Drop.off ?_ (by assumption))) (.refl _) ⟨rfl, rfl⟩
 ·rw [if_pos (.inl h4)] at hq
  subst hq
  simp (disch := first | assumption | omega) only [go_sem, Nat.reduceEqDiff, ↓reduceIte, h4]
  exact retC_by (by repeat' (first | exact Drop.refl _ | with_reducible refine Drop.off ?_ (by assumption))) (.refl _) ⟨rfl, rfl⟩
theorem sizes_len : ∀ l : List Nd, l.length ≤ Nd.sizes l
 | [] => by simp
 | x :: l => by have := x.size_pos; have := sizes_len l; rw [Nd.sizes, List.length_cons]; omega
end Go.A
namespace Go.A
open Go.Proofs
/-! 48: tabular/expr.spell -/
def c48_43 : ACode := .seq (.ops [ oq 117 (.bin .lss (.t 116) (.t 115))]) (.seq (.cond (.t 117) .skip (.exit 1)) (.seq (.block 2 (.seq (.ops [ oq 118 (.mv (.t 116)), oq 119 (.ia 12 (.t 114) (.t 116)), oq 120 (.ld (some 12) (.t 119)), oe 5 (.alloc [(.int .i64 0), (.int .i64 0), (.str []), (.int .i64 0), (.int .i64 0), (.bool false), (.bool false), (.int .i64 0), (.int .i64 0), (.bool false), (.bool false), (.sl .full [])]), oq 4 (.mv (.t 118)), oz (.store 12 (.t 5) (.t 120))]) (.seq (.seq (.ops [ oq 121 (.mv (.t 4)), oq 122 (.bin .gtr (.t 121) (.v (.int .i64 0)))]) (.cond (.t 122) (.ops [ oq 123 (.mv (.t 0)), oe 124 (.call 83 [(.t 123), (.v (.int .u8 44))])]) .skip)) (.ops [ oq 125 (.mv (.t 0)), oq 126 (.ld (some 12) (.t 5)), oe 127 (.call 48 [(.t 125), (.t 126)])])))) (.ops [ oq 128 (.bin .add (.t 116) (.v (.int .i64 1))), oq 116 (.mv (.t 128))])))
def c48_47 : ACode := .ops [ oq 129 (.mv (.t 0)), oe 130 (.call 83 [(.t 129), (.v (.int .u8 41))])]
def c48_67 : ACode := .cond (.t 70) (.ops [ oq 72 (.mv (.t 0)), oq 73 (.fa 3 (.t 3)), oq 74 (.ld (some 4) (.t 73)), oq 75 (.fa 7 (.t 3)), oq 76 (.ld (some 4) (.t 75)), oq 77 (.build [(.int .i64 0), (.int .i64 0), (.bool false), (.bool false), (.int .i64 0), (.int .i64 0), (.bool false), (.bool false)] [(0, 4, (.t 74)), (4, 4, (.t 76))]), oe 78 (.call 82 [(.t 77)]), oe 79 (.call 76 [(.t 72), (.t 78)])]) (.seq (.seq (.ops [ oq 81 (.bin .eql (.t 8) (.v (.int .i64 7))), oq 80 (.mv (.t 81))]) (.cond (.t 80) .skip (.ops [ oq 82 (.bin .eql (.t 8) (.v (.int .i64 8))), oq 80 (.mv (.t 82))]))) (.cond (.t 80) (.seq (.ops [ oq 83 (.mv (.t 0)), oq 84 (.fa 0 (.t 3)), oq 85 (.ld none (.t 84)), oq 86 (.bin .sub (.t 85) (.v (.int .i64 7))), oq 87 (.idx (.v (.str [45, 43])) (.t 86)), oe 88 (.call 83 [(.t 83), (.t 87)])]) (.ops [ oq 89 (.mv (.t 0)), oq 90 (.fa 11 (.t 3)), oq 91 (.ld none (.t 90)), oq 92 (.ia 12 (.t 91) (.v (.int .i64 0))), oq 93 (.ld (some 12) (.t 92)), oe 94 (.call 84 [(.t 89), (.t 93), (.v (.int .i64 6))])])) (.seq (.ops [ oq 96 (.bin .eql (.t 8) (.v (.int .i64 9))), oq 95 (.mv (.t 96))]) (.cond (.t 95) (.seq (.ops [ oq 97 (.mv (.t 0)), oq 98 (.fa 11 (.t 3)), oq 99 (.ld none (.t 98)), oq 100 (.ia 12 (.t 99) (.v (.int .i64 0))), oq 101 (.ld (some 12) (.t 100)), oe 102 (.call 84 [(.t 97), (.t 101), (.v (.int .i64 7))])]) (.ops [ oq 103 (.mv (.t 0)), oe 104 (.call 83 [(.t 103), (.v (.int .u8 37))])])) (.seq (.ops [ oq 106 (.bin .eql (.t 8) (.v (.int .i64 22))), oq 105 (.mv (.t 106))]) (.cond (.t 105) (.seq (.ops [ oq 107 (.mv (.t 0)), oq 108 (.fa 2 (.t 3)), oq 109 (.ld none (.t 108)), oe 110 (.call 76 [(.t 107), (.t 109)])]) (.seq (.ops [ oq 111 (.mv (.t 0)), oe 112 (.call 83 [(.t 111), (.v (.int .u8 40))])]) (.seq (.seq (.ops [ oq 113 (.fa 11 (.t 3)), oq 114 (.ld none (.t 113)), oq 115 (.len (.t 114)), oq 116 (.mv (.v (.int .i64 0)))]) (.block 1 (.loop c48_43))) c48_47))) (.seq (.ops [ oq 132 (.bin .eql (.t 8) (.v (.int .i64 23))), oq 131 (.mv (.t 132))]) (.cond (.t 131) .skip (.seq (.ops [ oq 9 (.fa 0 (.t 3)), oq 10 (.ld none (.t 9)), oe 11 (.call 85 [(.t 10)]), oq 6 (.mv (.t 11))]) (.seq (.ops [ oq 12 (.mv (.t 0)), oq 13 (.fa 11 (.t 3)), oq 14 (.ld none (.t 13)), oq 15 (.ia 12 (.t 14) (.v (.int .i64 0))), oq 16 (.ld (some 12) (.t 15)), oq 17 (.mv (.t 6)), oe 18 (.call 84 [(.t 12), (.t 16), (.t 17)])]) (.seq (.ops [ oq 19 (.mv (.t 0)), oq 21 (.fa 0 (.t 3)), oq 22 (.ld none (.t 21)), oq 23 (.bin .sub (.t 22) (.v (.int .i64 10))), ⟨some 20, none, .e (.call 71 []), [⟨none, .ld none (.t 21), 22⟩]⟩, oq 24 (.ia 1 (.t 20) (.t 23)), oq 25 (.ld none (.t 24)), oe 26 (.call 76 [(.t 19), (.t 25)])]) (.ops [ oq 27 (.mv (.t 0)), oq 28 (.fa 11 (.t 3)), oq 29 (.ld none (.t 28)), oq 30 (.ia 12 (.t 29) (.v (.int .i64 1))), oq 31 (.ld (some 12) (.t 30)), oq 32 (.mv (.t 6)), oq 33 (.bin .add (.t 32) (.v (.int .i64 1))), oe 34 (.call 84 [(.t 27), (.t 31), (.t 33)])]))))))))))))
def c48_81 : ACode := .seq (.ops [ oe 3 (.box (.t 1))]) (.seq (.ops [ oq 7 (.fa 0 (.t 3)), oq 8 (.ld none (.t 7))]) (.block 0 (.seq (.ops [ oq 36 (.bin .eql (.t 8) (.v (.int .i64 1))), oq 35 (.mv (.t 36))]) (.cond (.t 35) (.ops [ oq 37 (.mv (.t 0)), oq 38 (.fa 1 (.t 3)), oq 39 (.ld none (.t 38)), oe 40 (.call 77 [(.t 39)]), oe 41 (.call 76 [(.t 37), (.t 40)])]) (.seq (.ops [ oq 43 (.bin .eql (.t 8) (.v (.int .i64 2))), oq 42 (.mv (.t 43))]) (.cond (.t 42) (.ops [ oq 44 (.mv (.t 0)), oq 45 (.fa 2 (.t 3)), oq 46 (.ld none (.t 45)), oe 47 (.call 78 [(.t 46)]), oe 48 (.call 76 [(.t 44), (.t 47)])]) (.seq (.ops [ oq 50 (.bin .eql (.t 8) (.v (.int .i64 3))), oq 49 (.mv (.t 50))]) (.cond (.t 49) (.ops [ oq 51 (.mv (.t 0)), oq 52 (.fa 1 (.t 3)), oq 53 (.ld none (.t 52)), oq 54 (.bin .neq (.t 53) (.v (.int .i64 0))), oe 55 (.call 79 [(.t 54)]), oe 56 (.call 76 [(.t 51), (.t 55)])]) (.seq (.ops [ oq 58 (.bin .eql (.t 8) (.v (.int .i64 4))), oq 57 (.mv (.t 58))]) (.cond (.t 57) (.ops [ oq 59 (.mv (.t 0)), oq 60 (.ld (some 12) (.t 3)), oe 61 (.call 80 [(.t 60)]), oe 62 (.call 76 [(.t 59), (.t 61)])]) (.seq (.ops [ oq 64 (.bin .eql (.t 8) (.v (.int .i64 5))), oq 63 (.mv (.t 64))]) (.cond (.t 63) (.ops [ oq 65 (.mv (.t 0)), oq 66 (.fa 3 (.t 3)), oq 67 (.ld (some 4) (.t 66)), oe 68 (.call 81 [(.t 67)]), oe 69 (.call 76 [(.t 65), (.t 68)])]) (.seq (.ops [ oq 71 (.bin .eql (.t 8) (.v (.int .i64 6))), oq 70 (.mv (.t 71))]) c48_67)))))))))))))
@[go_sem] def c48_43_wp := wp_of c48_43.eq_1
@[go_sem] def c48_47_wp := wp_of c48_47.eq_1
@[go_sem] def c48_67_wp := wp_of c48_67.eq_1
@[go_sem] def c48_81_wp := wp_of c48_81.eq_1
def c48 : AFn := ⟨133, [], c48_81⟩
theorem c48_ok : compF Tryz.prog Tryz.f48 = some c48 := by kernel_rfl
theorem a48 {args : List AV} {σ : ASt} {R : AV → ASt → Prop} (hl : args.length ≤ 133) (h : c48_81.wp Tryz.prog (RetQ [] R) (init args) σ) : ACalls Tryz.prog 48 args σ R := acalls_of Tryz.func48 c48_ok hl h
/-! 84: tabular/expr.inside -/
def c84_12 : ACode := .seq (.ops [ oe 4 (.box (.t 1))]) (.seq (.seq (.ops [ oq 6 (.fa 0 (.t 4)), oq 7 (.ld none (.t 6)), oe 8 (.call 85 [(.t 7)]), oq 9 (.mv (.t 2)), oq 10 (.bin .geq (.t 8) (.t 9))]) (.cond (.t 10) (.seq (.ops [ oq 11 (.mv (.t 0)), oq 12 (.ld (some 12) (.t 4)), oe 13 (.call 48 [(.t 11), (.t 12)])]) .ret) .skip)) (.seq (.ops [ oq 14 (.mv (.t 0)), oe 15 (.call 83 [(.t 14), (.v (.int .u8 40))])]) (.seq (.ops [ oq 16 (.mv (.t 0)), oq 17 (.ld (some 12) (.t 4)), oe 18 (.call 48 [(.t 16), (.t 17)])]) (.ops [ oq 19 (.mv (.t 0)), oe 20 (.call 83 [(.t 19), (.v (.int .u8 41))])]))))
@[go_sem] def c84_12_wp := wp_of c84_12.eq_1
def c84 : AFn := ⟨21, [], c84_12⟩
theorem c84_ok : compF Tryz.prog Tryz.f84 = some c84 := by kernel_rfl
theorem a84 {args : List AV} {σ : ASt} {R : AV → ASt → Prop} (hl : args.length ≤ 21) (h : c84_12.wp Tryz.prog (RetQ [] R) (init args) σ) : ACalls Tryz.prog 84 args σ R := acalls_of Tryz.func84 c84_ok hl h
end Go.A
namespace Go.A
open Go.Proofs Go.Lib
theorem BD.tab {σ0 σ : ASt} {b : Nat} {l : List UInt8} (h : BD σ0 b l σ) (hb : σ0 b = none) (hT : Tab σ0) : Tab σ := h.at (by intro e; unfold Tab at hT; rw [e, hb] at hT; cases hT) hT
theorem BD.maxL {σ0 σ : ASt} {b : Nat} {l : List UInt8} (h : BD σ0 b l σ) (hb : σ0 b = none) (hM : MaxL σ0) : MaxL σ := by
 obtain ⟨m, hm⟩ := hM
 exact ⟨m, h.at (by intro e; rw [e, hb] at hm; cases hm) hm⟩
theorem MaxL.set {σ : ASt} {b : Nat} {r : Option Role} (h : MaxL σ) (hb : σ b = none) : MaxL (σ.set b r) := by
 obtain ⟨m, hm⟩ := h
 exact ⟨m, by rw [ASt.set_ne]; exact hm; intro e; rw [e, hb] at hm; cases hm⟩
def SpellOk (n : Nd) : Prop := ∀ (σ0 σ : ASt) (b : Nat) (l : List UInt8), BD σ0 b l σ → σ0 b = none → Tab σ0 → MaxL σ0 → l.length + n.spell.length ≤ 900000000 →
  ACalls Tryz.prog 48 [.ptr b 0, n.av] σ fun v σ' => v = .tuple [] ∧ BD σ0 b (l ++ n.spell) σ'
theorem inside_ok {n : Nd} (hs : SpellOk n) (ho : 1 ≤ n.op ∧ n.op ≤ 23) (least : Int) {σ0 σ : ASt} {b : Nat} {l : List UInt8} (h : BD σ0 b l σ) (hb : σ0 b = none) (hT : Tab σ0) (hM : MaxL σ0) (hl : l.length + (insT least n.op n.spell).length ≤ 900000000) :
  ACalls Tryz.prog 84 [.ptr b 0, n.av, .int .i64 least] σ fun v σ' => v = .tuple [] ∧ BD σ0 b (l ++ insT least n.op n.spell) σ' := by
 have hL := level_ok n.op (by omega) (by omega)
 have hS : ∀ {σ0 σ : ASt} {b : Nat} {l : List UInt8}, BD σ0 b l σ → σ0 b = none → Tab σ0 → MaxL σ0 → l.length + n.spell.length ≤ 900000000 →
  ACalls Tryz.prog 48 [.ptr b 0, n.av] σ fun v σ' => v = .tuple [] ∧ BD σ0 b (l ++ n.spell) σ' := fun {_ _ _ _} => hs _ _ _ _
 clear hs
 obtain ⟨op, m, s, a, d, kids⟩ := n
 rw [Nd.av_cs] at hS ⊢
 generalize (Nd.mk op m s a d kids).spell = t at *
 simp only [Nd.op] at hL hl ho ⊢
 generalize kids.map Nd.av = L at *
 refine a84 (by simp) ?_
 simp (disch := first | assumption | omega) only [go_sem]
 refine boxC_by rfl fun c hc => ?_
 obtain ⟨hB, hcb, hc0⟩ := h.add hc (r := .obj (Nd.cs op m s a d L))
 have hb1 : (σ0.set c (some (.obj (Nd.cs op m s a d L)))) b = none := by rw [ASt.set_ne (Ne.symm hcb)]; exact hb
 have hT1 := hT.set hc0 (r := some (.obj (Nd.cs op m s a d L)))
 have hM1 := hM.set hc0 (r := some (.obj (Nd.cs op m s a d L)))
 have hcell : ∀ {l' : List UInt8} {σ1 : ASt}, BD (σ0.set c (some (.obj (Nd.cs op m s a d L)))) b l' σ1 → σ1 c = some (.obj (Nd.cs op m s a d L)) := fun h => h.at hcb (ASt.set_same _ _ _)
 have hoff : ∀ {l' : List UInt8} {σ1 : ASt}, BD (σ0.set c (some (.obj (Nd.cs op m s a d L)))) b l' σ1 → ∃ σ', Drop σ1 σ' ∧ BD σ0 b l' σ' := fun h => h.off hcb hc0
 have hc1 := hcell hB
 rw [cells_agg]
 generalize σ0.set c (some (.obj (Nd.cs op m s a d L))) = τ at hB hb1 hT1 hM1 hcell hoff
 generalize σ.set c (some (.obj (Nd.cs op m s a d L))) = σ1 at hB hc1 ⊢
 unfold insT at hl ⊢
 by_cases hlv : least ≤ levelP op
 ·rw [if_pos hlv] at hl ⊢
  generalize levelP op = lv at *
  simp (disch := first | assumption | omega) only [go_sem, ↓reduceIte, hc1]
  refine hL.use ?_
  simp (disch := first | assumption | omega) only [go_sem, reduceCtorEq, Nat.reduceEqDiff, Nat.reduceLeDiff, ↓reduceIte, hc1, hlv]
  refine (hS hB hb1 hT1 hM1 hl).mono ?_
  rintro v σ2 ⟨rfl, hB2⟩
  simp (disch := first | assumption | omega) only [go_sem]
  obtain ⟨σ3, hd, hB3⟩ := hoff hB2
  exact retC_by hd (.refl _) ⟨rfl, hB3⟩
 ·rw [if_neg hlv] at hl ⊢
  generalize levelP op = lv at *
  simp only [List.length_append, List.length_cons, List.length_nil] at hl
  simp (disch := first | assumption | omega) only [go_sem, ↓reduceIte, hc1]
  refine hL.use ?_
  simp (disch := first | assumption | omega) only [go_sem, reduceCtorEq, Nat.reduceEqDiff, ↓reduceIte, hlv]
  refine (writeByte_ok hB 40 (by omega)).mono ?_
  rintro v σ2 ⟨rfl, hB2⟩
  have hc2 := hcell hB2
  simp (disch := first | assumption | omega) only [go_sem, reduceCtorEq, Nat.reduceEqDiff, Nat.reduceLeDiff, ↓reduceIte, hc2]
  refine (hS hB2 hb1 hT1 hM1 (by simp only [List.length_append, List.length_cons, List.length_nil]; omega)).mono ?_
  rintro v σ3 ⟨rfl, hB3⟩
  simp (disch := first | assumption | omega) only [go_sem, reduceCtorEq, ↓reduceIte]
  refine (writeByte_ok hB3 41 (by simp only [List.length_append, List.length_cons, List.length_nil]; omega)).mono ?_
  rintro v σ4 ⟨rfl, hB4⟩
  simp (disch := first | assumption | omega) only [go_sem]
  obtain ⟨σ5, hd, hB5⟩ := hoff hB4
  refine retC_by hd (.refl _) ⟨rfl, ?_⟩
  have e : l ++ 40 :: (t ++ [41]) = l ++ [40] ++ t ++ [41] := by simp
  rw [e]; exact hB5
theorem textD_ne (n : Int) : textD n ≠ [] := by
 unfold textD
 have := dd_len_pos (n.natAbs / 10000)
 intro h
 rw [List.append_eq_nil_iff, List.append_eq_nil_iff] at h
 exact this h.2.1
theorem failT_ne {n : Int} (h1 : 1 ≤ n.tdiv 10000) (h2 : n.tdiv 10000 ≤ 7) : failT 4 n ≠ [] := by
 unfold failT
 generalize n.tdiv 10000 = i at *
 rw [if_neg (by omega)]
 have hc : i = 1 ∨ i = 2 ∨ i = 3 ∨ i = 4 ∨ i = 5 ∨ i = 6 ∨ i = 7 := by omega
 rcases hc with rfl | rfl | rfl | rfl | rfl | rfl | rfl <;> decide
theorem truthP_ne (b : Bool) : truthP b ≠ [] := by cases b <;> decide
theorem joinC_snoc : ∀ (L : List (Int × List UInt8)) (p : Int × List UInt8), L ≠ [] → joinC (L ++ [p]) = joinC L ++ 44 :: p.2
 | [], p, h => absurd rfl h
 | q :: r, p, _ => by simp [joinC]
theorem joinC_take_le : ∀ (L : List (Int × List UInt8)) (i : Nat), (joinC (L.take i)).length ≤ (joinC L).length
 | [], i => by simp
 | q :: r, 0 => by simp [joinC]
 | q :: r, i + 1 => by
   rw [List.take_succ_cons]
   simp only [joinC, List.length_append]
   have : ∀ (r : List (Int × List UInt8)) (i : Nat), ((r.take i).flatMap fun q => 44 :: q.2).length ≤ (r.flatMap fun q => 44 :: q.2).length := by
    intro r
    induction r with
    | nil => intro i; simp
    | cons x r ih =>
      intro i
      cases i with
      | zero => simp
      | succ i => rw [List.take_succ_cons, List.flatMap_cons, List.flatMap_cons, List.length_append, List.length_append]; have := ih i; omega
   have := this r i
   omega
theorem textP_ne {r : Ref} (h : r.good = true) : textP r ≠ [] := by
 intro e
 have := (text_len h).1
 rw [e] at this
 simp at this
theorem sign_len (k : Nat) : (signL.getD k []).length ≤ 2 := by
 unfold signL
 rcases k with _|_|_|_|_|_|_|_|_|_|_|_|k <;> simp
set_option maxHeartbeats 2000000 in
theorem spell_ok : ∀ (k : Nat) (n : Nd), n.size ≤ k → n.ok → SpellOk n
 | 0, n, hk, _ => by have := n.size_pos; omega
 | k + 1, n, hk, hn => by
   have ih := spell_ok k
   intro σ0 σ b l h hb hT hM hl
   obtain ⟨op, m, s, a, d, kids⟩ := n
   rw [Nd.size] at hk
   rw [Nd.ok] at hn
   obtain ⟨⟨ho, g1, g2, g4, gc, g5, g6, g7, gb, gk⟩, hks⟩ := hn
   have hkid : ∀ x ∈ kids, SpellOk x ∧ 1 ≤ x.op ∧ x.op ≤ 23 := fun x hx => by
    have h1 := Nd.size_kid hx
    have h2 := Nd.oks_mem.1 hks x hx
    refine ⟨ih x (by omega) h2, ?_⟩
    obtain ⟨o', _, _, _, _, _⟩ := x
    rw [Nd.ok] at h2
    exact h2.1.1
   obtain ⟨w, hw⟩ : ∃ w, (Nd.mk op m s a d kids).spell = w := ⟨_, rfl⟩
   rw [hw] at hl ⊢
   rw [Nd.spell, Nd.spells_map] at hw
   unfold spellK at hw
   rw [Nd.av_cs]
   refine a48 (by simp) ?_
   simp (disch := first | assumption | omega) only [go_sem]
   refine boxC_by rfl fun c hc => ?_
   obtain ⟨hB, hcb, hc0⟩ := h.add hc (r := .obj (Nd.cs op m s a d (kids.map Nd.av)))
   have hb1 : (σ0.set c (some (.obj (Nd.cs op m s a d (kids.map Nd.av))))) b = none := by rw [ASt.set_ne (Ne.symm hcb)]; exact hb
   have hT1 := hT.set hc0 (r := some (.obj (Nd.cs op m s a d (kids.map Nd.av))))
   have hM1 := hM.set hc0 (r := some (.obj (Nd.cs op m s a d (kids.map Nd.av))))
   have hcell : ∀ {l' : List UInt8} {σ1 : ASt}, BD (σ0.set c (some (.obj (Nd.cs op m s a d (kids.map Nd.av))))) b l' σ1 → σ1 c = some (.obj (Nd.cs op m s a d (kids.map Nd.av))) := fun h => h.at hcb (ASt.set_same _ _ _)
   have hoff : ∀ {l' : List UInt8} {σ1 : ASt}, BD (σ0.set c (some (.obj (Nd.cs op m s a d (kids.map Nd.av))))) b l' σ1 → ∃ σ', Drop σ1 σ' ∧ BD σ0 b l' σ' := fun h => h.off hcb hc0
   have hc1 := hcell hB
   rw [cells_agg]
   generalize σ0.set c (some (.obj (Nd.cs op m s a d (kids.map Nd.av)))) = τ at hB hb1 hT1 hM1 hcell hoff
   generalize σ.set c (some (.obj (Nd.cs op m s a d (kids.map Nd.av)))) = σ1 at hB hc1 ⊢
   have hT2 := BD.tab hB hb1 hT1
   have hM2 := BD.maxL hB hb1 hM1
   by_cases h1 : op = 1
   ·subst h1
    rw [if_pos rfl] at hw
    subst hw
    simp (disch := first | assumption | omega) only [go_sem, reduceCtorEq, Nat.reduceEqDiff, ↓reduceIte, hc1]
    refine (dtext_ok hT2 (g1 rfl)).mono ?_
    rintro v σ' ⟨rfl, rfl⟩
    simp (disch := first | assumption | omega) only [go_sem, Nat.reduceEqDiff, ↓reduceIte]
    refine (writes1_ok hB _ (textD_ne m) (by omega)).mono ?_
    rintro v σ2 ⟨rfl, hB2⟩
    simp (disch := first | assumption | omega) only [go_sem]
    obtain ⟨σ3, hd, hB3⟩ := hoff hB2
    exact retC_by hd (.refl _) ⟨rfl, hB3⟩
   rw [if_neg h1] at hw
   by_cases h2 : op = 2
   ·subst h2
    rw [if_pos rfl] at hw
    have hQ2 := tquote_ok hM2 s (g2 rfl)
    have hQ : quotT s = 34 :: dbl s ++ [34] := rfl
    rw [hQ] at hw
    rw [hw] at hQ2
    have hwn : w ≠ [] := by rw [← hw]; simp
    simp (disch := first | assumption | omega) only [go_sem, reduceCtorEq, Nat.reduceEqDiff, Int.reduceEq, ↓reduceIte, hc1]
    refine hQ2.mono ?_
    rintro v σ' ⟨rfl, rfl⟩
    simp (disch := first | assumption | omega) only [go_sem, Nat.reduceEqDiff, ↓reduceIte]
    refine (writes1_ok hB _ hwn (by omega)).mono ?_
    rintro v σ2 ⟨rfl, hB2⟩
    simp (disch := first | assumption | omega) only [go_sem]
    obtain ⟨σ3, hd, hB3⟩ := hoff hB2
    exact retC_by hd (.refl _) ⟨rfl, hB3⟩
   rw [if_neg h2] at hw
   by_cases h3 : op = 3
   ·subst h3
    rw [if_pos rfl] at hw
    have hQ := truth_ok (!decide (m = 0))
    have hwn : w ≠ [] := by rw [← hw]; exact truthP_ne _
    rw [hw] at hQ
    simp (disch := first | assumption | omega) only [go_sem, reduceCtorEq, Nat.reduceEqDiff, Int.reduceEq, ↓reduceIte, hc1]
    refine hQ.use ?_
    simp (disch := first | assumption | omega) only [go_sem, Nat.reduceEqDiff, ↓reduceIte]
    refine (writes1_ok hB _ hwn (by omega)).mono ?_
    rintro v σ2 ⟨rfl, hB2⟩
    simp (disch := first | assumption | omega) only [go_sem]
    obtain ⟨σ3, hd, hB3⟩ := hoff hB2
    exact retC_by hd (.refl _) ⟨rfl, hB3⟩
   rw [if_neg h3] at hw
   by_cases h4 : op = 4
   ·subst h4
    rw [if_pos rfl] at hw
    obtain ⟨f1, f2⟩ := g4 rfl
    have hwn : w ≠ [] := by rw [← hw]; exact failT_ne f1 f2
    have hmb : m.natAbs ≤ 999999999999999999 := by have : (m.tdiv 10000).natAbs = m.natAbs / 10000 := Int.natAbs_tdiv m 10000; omega
    have hQ := failure_ok 4 m s a d kids hmb
    rw [Nd.av_cs, hw] at hQ
    simp (disch := first | assumption | omega) only [go_sem, reduceCtorEq, Nat.reduceEqDiff, Nat.reduceLeDiff, Int.reduceEq, ↓reduceIte, hc1]
    refine hQ.use ?_
    simp (disch := first | assumption | omega) only [go_sem, Nat.reduceEqDiff, ↓reduceIte]
    refine (writes1_ok hB _ hwn (by omega)).mono ?_
    rintro v σ2 ⟨rfl, hB2⟩
    simp (disch := first | assumption | omega) only [go_sem]
    obtain ⟨σ3, hd, hB3⟩ := hoff hB2
    exact retC_by hd (.refl _) ⟨rfl, hB3⟩
   rw [if_neg h4] at hw
   by_cases h5 : op = 5
   ·subst h5
    rw [if_pos rfl] at hw
    have hQ := text_ok hT2 (g5 (.inl rfl))
    have hwn : w ≠ [] := by rw [← hw]; exact textP_ne (g5 (.inl rfl))
    rw [hw] at hQ
    unfold refAV at hQ
    simp (disch := first | assumption | omega) only [go_sem, reduceCtorEq, Nat.reduceEqDiff, Nat.reduceAdd, Nat.reduceLeDiff, Int.reduceEq, ↓reduceIte, hc1]
    refine hQ.mono ?_
    rintro v σ' ⟨rfl, rfl⟩
    simp (disch := first | assumption | omega) only [go_sem, Nat.reduceEqDiff, ↓reduceIte]
    refine (writes1_ok hB _ hwn (by omega)).mono ?_
    rintro v σ2 ⟨rfl, hB2⟩
    simp (disch := first | assumption | omega) only [go_sem]
    obtain ⟨σ3, hd, hB3⟩ := hoff hB2
    exact retC_by hd (.refl _) ⟨rfl, hB3⟩
   rw [if_neg h5] at hw
   by_cases h6 : op = 6
   ·subst h6
    rw [if_pos rfl] at hw
    have hQ := atext_ok hT2 (g5 (.inr rfl)) (g6 rfl)
    have hwn : w ≠ [] := by rw [← hw]; simp
    rw [hw] at hQ
    unfold areaAV at hQ
    simp (disch := first | assumption | omega) only [go_sem, reduceCtorEq, Nat.reduceEqDiff, Nat.reduceAdd, Nat.reduceLeDiff, Int.reduceEq, ↓reduceIte, hc1]
    refine hQ.mono ?_
    rintro v σ' ⟨rfl, rfl⟩
    simp (disch := first | assumption | omega) only [go_sem, Nat.reduceEqDiff, ↓reduceIte]
    refine (writes1_ok hB _ hwn (by omega)).mono ?_
    rintro v σ2 ⟨rfl, hB2⟩
    simp (disch := first | assumption | omega) only [go_sem]
    obtain ⟨σ3, hd, hB3⟩ := hoff hB2
    exact retC_by hd (.refl _) ⟨rfl, hB3⟩
   rw [if_neg h6] at hw
   by_cases h7 : op = 7 ∨ op = 8
   ·rw [if_pos h7] at hw
    obtain ⟨x, ks, rfl⟩ : ∃ x ks, kids = x :: ks := by
     cases kids with
     | nil => have := g7 (by omega); simp at this
     | cons x ks => exact ⟨x, ks, rfl⟩
    obtain ⟨i1, i2⟩ := hkid x (by simp)
    have hI := fun l' σ' (hB : BD τ b l' σ') hl' => inside_ok i1 i2 6 hB hb1 hT1 hM1 hl'
    simp only [List.map_cons, List.getD_cons_zero] at hw
    generalize insT 6 x.op x.spell = t at *
    obtain ⟨xo, xm, xs, xa, xb, xk⟩ := x
    simp only [List.map_cons] at hcell hc1 ⊢
    rw [Nd.av_cs] at hI
    simp only [Nd.av_cs] at hcell hc1 ⊢
    generalize ks.map Nd.av = K at *
    rcases h7 with rfl | rfl
    ·simp only [if_true] at hw
     subst hw
     simp only [List.length_cons] at hl
     simp (disch := first | assumption | omega) only [go_sem, reduceCtorEq, Nat.reduceEqDiff, Int.reduceEq, ↓reduceIte, Int.reduceSub, hc1]
     refine (writeByte_ok hB 45 (by omega)).mono ?_
     rintro v σ2 ⟨rfl, hB2⟩
     have hc2 := hcell hB2
     simp (disch := first | assumption | omega) only [go_sem, reduceCtorEq, Nat.reduceEqDiff, Nat.reduceLeDiff, ↓reduceIte, hc2]
     refine (hI _ _ hB2 (by simp only [List.length_append, List.length_cons, List.length_nil]; omega)).mono ?_
     rintro v σ3 ⟨rfl, hB3⟩
     simp (disch := first | assumption | omega) only [go_sem]
     obtain ⟨σ4, hd, hB4⟩ := hoff hB3
     refine retC_by hd (.refl _) ⟨rfl, ?_⟩
     have e : l ++ 45 :: t = l ++ [45] ++ t := by simp
     rw [e]; exact hB4
    ·rw [if_neg (by decide)] at hw
     subst hw
     simp only [List.length_cons] at hl
     simp (disch := first | assumption | omega) only [go_sem, reduceCtorEq, Nat.reduceEqDiff, Int.reduceEq, ↓reduceIte, Int.reduceSub, Int.reduceToNat, hc1]
     refine (writeByte_ok hB 43 (by omega)).mono ?_
     rintro v σ2 ⟨rfl, hB2⟩
     have hc2 := hcell hB2
     simp (disch := first | assumption | omega) only [go_sem, reduceCtorEq, Nat.reduceEqDiff, Nat.reduceLeDiff, ↓reduceIte, hc2]
     refine (hI _ _ hB2 (by simp only [List.length_append, List.length_cons, List.length_nil]; omega)).mono ?_
     rintro v σ3 ⟨rfl, hB3⟩
     simp (disch := first | assumption | omega) only [go_sem]
     obtain ⟨σ4, hd, hB4⟩ := hoff hB3
     refine retC_by hd (.refl _) ⟨rfl, ?_⟩
     have e : l ++ 43 :: t = l ++ [43] ++ t := by simp
     rw [e]; exact hB4
   rw [if_neg h7] at hw
   have h7a : op ≠ 7 := by omega
   have h7b : op ≠ 8 := by omega
   by_cases h9 : op = 9
   ·subst h9
    rw [if_pos rfl] at hw
    obtain ⟨x, ks, rfl⟩ : ∃ x ks, kids = x :: ks := by
     cases kids with
     | nil => have := g7 (by omega); simp at this
     | cons x ks => exact ⟨x, ks, rfl⟩
    obtain ⟨i1, i2⟩ := hkid x (by simp)
    have hI := fun l' σ' (hB : BD τ b l' σ') hl' => inside_ok i1 i2 7 hB hb1 hT1 hM1 hl'
    simp only [List.map_cons, List.getD_cons_zero] at hw
    generalize insT 7 x.op x.spell = t at *
    obtain ⟨xo, xm, xs, xa, xb, xk⟩ := x
    rw [Nd.av_cs] at hI
    simp only [List.map_cons, Nd.av_cs] at hcell hc1 ⊢
    generalize ks.map Nd.av = K at *
    subst hw
    simp only [List.length_append, List.length_cons, List.length_nil] at hl
    simp (disch := first | assumption | omega) only [go_sem, reduceCtorEq, Nat.reduceEqDiff, Nat.reduceLeDiff, Int.reduceEq, ↓reduceIte, hc1]
    refine (hI _ _ hB (by omega)).mono ?_
    rintro v σ2 ⟨rfl, hB2⟩
    simp (disch := first | assumption | omega) only [go_sem, reduceCtorEq, ↓reduceIte]
    refine (writeByte_ok hB2 37 (by simp only [List.length_append]; omega)).mono ?_
    rintro v σ3 ⟨rfl, hB3⟩
    simp (disch := first | assumption | omega) only [go_sem]
    obtain ⟨σ4, hd, hB4⟩ := hoff hB3
    refine retC_by hd (.refl _) ⟨rfl, ?_⟩
    rw [← List.append_assoc]; exact hB4
   rw [if_neg h9] at hw
   by_cases h22 : op = 22
   ·subst h22
    rw [if_pos rfl] at hw
    have hsn := gc rfl
    have hjt := joinC_take_le (kids.map fun x => (x.op, x.spell))
    have hspl : ∀ (i : Nat) (x : Nd), kids[i]? = some x → (kids.map fun x => (x.op, x.spell)).take (i + 1) = (kids.map fun x => (x.op, x.spell)).take i ++ [(x.op, x.spell)] := by
     intro i x hx
     have hlt : i < kids.length := (List.getElem?_eq_some_iff.1 hx).1
     rw [List.take_add_one, List.getElem?_map, hx]
     rfl
    have hspn : ∀ i, 0 < i → i < kids.length → (kids.map fun x => (x.op, x.spell)).take i ≠ [] := by
     intro i h0 h1 e
     have := congrArg List.length e
     rw [List.length_take, List.length_map, List.length_nil] at this
     omega
    have hspa : (kids.map fun x => (x.op, x.spell)).take kids.length = kids.map fun x => (x.op, x.spell) := List.take_of_length_le (by simp)
    have hspz : joinC ((kids.map fun x => (x.op, x.spell)).take 0) = [] := rfl
    generalize (kids.map fun x => (x.op, x.spell)) = sp at *
    subst hw
    simp only [List.length_append, List.length_cons, List.length_nil] at hl
    simp (disch := first | assumption | omega) only [go_sem, reduceCtorEq, Nat.reduceEqDiff, Int.reduceEq, ↓reduceIte, hc1]
    refine (writes1_ok hB _ hsn (by omega)).mono ?_
    rintro v σ2 ⟨rfl, hB2⟩
    simp (disch := first | assumption | omega) only [go_sem, reduceCtorEq, ↓reduceIte]
    refine (writeByte_ok hB2 40 (by simp only [List.length_append]; omega)).mono ?_
    rintro v σ3 ⟨rfl, hB3⟩
    have hc3 := hcell hB3
    obtain ⟨G, hG⟩ : ∃ G, G = ACode.wp Tryz.prog c48_47 := ⟨_, rfl⟩
    simp (disch := first | assumption | omega) only [go_sem, Nat.reduceEqDiff, ↓reduceIte, hc3, ←hG]
    refine wp_loop_by (fun (i : Nat) a1 s2 => i ≤ kids.length ∧ (a1 0 = .ptr b 0 ∧ a1 114 = .sl .shr (kids.map Nd.av) ∧ a1 115 = .int .i64 kids.length ∧ a1 116 = .int .i64 i) ∧ BD τ b (l ++ s ++ [40] ++ joinC (sp.take i)) s2) (fun i => kids.length - i) 0 (Dr.now ⟨Nat.zero_le _, ?_, ?_⟩) ?_
    ·simp (disch := first | assumption | omega) only [go_sem, reduceCtorEq, Nat.reduceEqDiff, ↓reduceIte]
    ·rw [hspz, List.append_nil]; exact hB3
    rintro i a1 s2 ⟨hi, hf, hBi⟩
    have hji := hjt i
    by_cases hlt : i < kids.length
    ·have hlt' : (i : Int) < kids.length := by omega
     have hx : kids[i]? = some (kids[i]'hlt) := List.getElem?_eq_getElem hlt
     obtain ⟨x, hxe⟩ : ∃ x, kids[i]'hlt = x := ⟨_, rfl⟩
     rw [hxe] at hx
     have hmx := Nd.get hx
     have hspx := hspl i x hx
     have hjs := hjt (i + 1)
     obtain ⟨i1, i2⟩ := hkid x (List.mem_of_getElem? hx)
     obtain ⟨xo, xm, xs, xa, xb, xk⟩ := x
     rw [Nd.av_cs] at hmx
     have i1' : ∀ (σ0 σ : ASt) (b : Nat) (l : List UInt8), BD σ0 b l σ → σ0 b = none → Tab σ0 → MaxL σ0 → l.length + (Nd.mk xo xm xs xa xb xk).spell.length ≤ 900000000 →
       ACalls Tryz.prog 48 [.ptr b 0, .agg (Nd.cs xo xm xs xa xb (xk.map Nd.av))] σ fun v σ' => v = .tuple [] ∧ BD σ0 b (l ++ (Nd.mk xo xm xs xa xb xk).spell) σ' := by rw [← Nd.av_cs]; exact i1
     generalize hxw : (Nd.mk xo xm xs xa xb xk).spell = xw at *
     generalize xk.map Nd.av = K at *
     generalize kids.map Nd.av = L at *
     simp (disch := first | assumption | omega) only [go_sem, Nat.reduceEqDiff, Nat.reduceLeDiff, ↓reduceIte, hf, hlt', hmx]
     refine allocC_by fun e he => ?_
     obtain ⟨hBe, heb, he0⟩ := hBi.add he (r := .obj (Nd.cs xo xm xs xa xb K))
     have hbe : (τ.set e (some (.obj (Nd.cs xo xm xs xa xb K)))) b = none := by rw [ASt.set_ne (Ne.symm heb)]; exact hb1
     have hTe := hT1.set he0 (r := some (.obj (Nd.cs xo xm xs xa xb K)))
     have hMe := hM1.set he0 (r := some (.obj (Nd.cs xo xm xs xa xb K)))
     have hcelle : ∀ {l' : List UInt8} {σ1 : ASt}, BD (τ.set e (some (.obj (Nd.cs xo xm xs xa xb K)))) b l' σ1 → σ1 e = some (.obj (Nd.cs xo xm xs xa xb K)) := fun h => h.at heb (ASt.set_same _ _ _)
     have hoffe : ∀ {l' : List UInt8} {σ1 : ASt}, BD (τ.set e (some (.obj (Nd.cs xo xm xs xa xb K)))) b l' σ1 → ∃ σ', Drop σ1 σ' ∧ BD τ b l' σ' := fun h => h.off heb he0
     have hce := hcelle hBe
     by_cases h0 : i = 0
     ·subst h0
      have hz : ((0 : Nat) : Int) = 0 := rfl
      have hj1 : joinC (sp.take (0 + 1)) = xw := by rw [hspx]; simp [joinC]
      rw [hj1] at hjs
      rw [hspz, List.append_nil] at hBe
      simp (disch := first | assumption | omega) only [go_sem, reduceCtorEq, Nat.reduceEqDiff, Nat.reduceAdd, Nat.reduceLeDiff, Int.reduceLT, ↓reduceIte, hf, hz, ASt.set_set, hce]
      refine (i1' _ _ _ _ hBe hbe hTe hMe (by simp only [List.length_append, List.length_cons, List.length_nil]; omega)).mono ?_
      rintro v σ4 ⟨rfl, hB4⟩
      simp (disch := first | assumption | omega) only [go_sem, Nat.reduceEqDiff, ↓reduceIte, Int.reduceAdd, hf]
      obtain ⟨σ5, hd, hB5⟩ := hoffe hB4
      refine ⟨0 + 1, by dsimp only; omega, Dr.drop hd ⟨by omega, ?_, ?_⟩⟩
      ·simp (disch := first | assumption | omega) only [go_sem, reduceCtorEq, Nat.reduceEqDiff, ↓reduceIte, hf]
      ·rw [hj1]; exact hB5
     ·have h0' : (0 : Int) < i := by omega
      have hj1 : joinC (sp.take (i + 1)) = joinC (sp.take i) ++ 44 :: xw := by rw [hspx, joinC_snoc _ _ (hspn i (by omega) hlt)]
      rw [hj1] at hjs
      simp only [List.length_append, List.length_cons] at hjs
      simp (disch := first | assumption | omega) only [go_sem, reduceCtorEq, Nat.reduceEqDiff, Nat.reduceAdd, Nat.reduceLeDiff, ↓reduceIte, hf, h0', ASt.set_set]
      refine (writeByte_ok hBe 44 (by simp only [List.length_append, List.length_cons, List.length_nil]; omega)).mono ?_
      rintro v σ4 ⟨rfl, hB4⟩
      have hc4 := hcelle hB4
      simp (disch := first | assumption | omega) only [go_sem, reduceCtorEq, Nat.reduceEqDiff, Nat.reduceLeDiff, ↓reduceIte, hf, hc4]
      refine (i1' _ _ _ _ hB4 hbe hTe hMe (by simp only [List.length_append, List.length_cons, List.length_nil]; omega)).mono ?_
      rintro v σ5 ⟨rfl, hB5⟩
      simp (disch := first | assumption | omega) only [go_sem, Nat.reduceEqDiff, ↓reduceIte, hf]
      obtain ⟨σ6, hd, hB6⟩ := hoffe hB5
      refine ⟨i + 1, by dsimp only; omega, Dr.drop hd ⟨by omega, ?_, ?_⟩⟩
      ·simp (disch := first | assumption | omega) only [go_sem, reduceCtorEq, Nat.reduceEqDiff, ↓reduceIte, hf]
      ·have e2 : l ++ s ++ [40] ++ joinC (sp.take (i + 1)) = l ++ s ++ [40] ++ joinC (sp.take i) ++ [44] ++ xw := by rw [hj1]; simp
       rw [e2]; exact hB6
    ·have hlt' : ¬ (i : Int) < kids.length := by omega
     have hie : i = kids.length := by omega
     rw [hie, hspa] at hBi
     simp (disch := first | assumption | omega) only [go_sem, ↓reduceIte, hf, hlt']
     rw [hG]
     simp (disch := first | assumption | omega) only [go_sem, reduceCtorEq, ↓reduceIte, hf]
     refine (writeByte_ok hBi 41 (by simp only [List.length_append, List.length_cons, List.length_nil]; omega)).mono ?_
     rintro v σ4 ⟨rfl, hB4⟩
     simp (disch := first | assumption | omega) only [go_sem]
     obtain ⟨σ5, hd, hB5⟩ := hoff hB4
     refine retC_by hd (.refl _) ⟨rfl, ?_⟩
     have e2 : l ++ (s ++ 40 :: (joinC sp ++ [41])) = l ++ s ++ [40] ++ joinC sp ++ [41] := by simp
     first
      | (rw [e2]; exact hB5)
      | (have e3 : l ++ (s ++ 40 :: joinC sp ++ [41]) = l ++ s ++ [40] ++ joinC sp ++ [41] := by simp
         rw [e3]; exact hB5)
   rw [if_neg h22] at hw
   by_cases h23 : op = 23
   ·subst h23
    rw [if_pos rfl] at hw
    subst hw
    simp (disch := first | assumption | omega) only [go_sem, Nat.reduceEqDiff, Int.reduceEq, ↓reduceIte, hc1]
    obtain ⟨σ3, hd, hB3⟩ := hoff hB
    exact retC_by hd (.refl _) ⟨rfl, hB3⟩
   rw [if_neg h23] at hw
   obtain ⟨x, y, ks, rfl⟩ : ∃ x y ks, kids = x :: y :: ks := by
    have := gb (by omega)
    match kids, this with
    | x :: y :: ks, _ => exact ⟨x, y, ks, rfl⟩
   obtain ⟨i1, i2⟩ := hkid x (by simp)
   obtain ⟨j1, j2⟩ := hkid y (by simp)
   have hI := fun l' σ' (hB : BD τ b l' σ') hl' => inside_ok i1 i2 (levelP op) hB hb1 hT1 hM1 hl'
   have hJ := fun l' σ' (hB : BD τ b l' σ') hl' => inside_ok j1 j2 (levelP op + 1) hB hb1 hT1 hM1 hl'
   have hLv := level_ok op (by omega) (by omega)
   have hlb : 0 ≤ levelP op ∧ levelP op ≤ 8 := by unfold levelP; repeat' split
                                                  all_goals omega
   simp only [List.map_cons, List.getD_cons_zero, List.getD_cons_succ] at hw
   generalize insT (levelP op) x.op x.spell = t at *
   generalize insT (levelP op + 1) y.op y.spell = u at *
   generalize levelP op = lv at *
   obtain ⟨xo, xm, xs, xa, xb, xk⟩ := x
   obtain ⟨yo, ym, ys, ya, yb, yk⟩ := y
   rw [Nd.av_cs] at hI hJ
   simp only [List.map_cons, Nd.av_cs] at hcell hc1 ⊢
   generalize ks.map Nd.av = K at *
   obtain ⟨j, hj⟩ : ∃ j : Nat, op = j + 10 := ⟨(op - 10).toNat, by omega⟩
   have hj2 : (op - 10).toNat = j := by omega
   have hj3 : op - 10 = (j : Int) := by omega
   rw [hj2] at hw
   have hjl : j < 12 := by omega
   obtain ⟨sg, hsg⟩ : ∃ sg, signL[j]? = some sg := ⟨signL[j]'(by simp [signL]; omega), List.getElem?_eq_getElem _⟩
   have hsg2 : signL.getD j [] = sg := by rw [List.getD_eq_getElem?_getD, hsg]; rfl
   have hsl := sign_len j
   have hsn : sg ≠ [] := by
    have : ∀ j < 12, signL.getD j [] ≠ [] := by decide
    rw [← hsg2]; exact this j hjl
   rw [hsg2] at hw hsl
   have hmg : (signL.map AV.str)[j]? = some (.str sg) := by rw [List.getElem?_map, hsg]; rfl
   have hSg := esigns_ok
   generalize signL.map AV.str = SL at *
   subst hw
   simp only [List.length_append] at hl
   simp (disch := first | assumption | omega) only [go_sem, Nat.reduceEqDiff, ↓reduceIte, hc1, h1, h2, h3, h4, h5, h6, h7a, h7b, h9, h22, h23]
   refine hLv.use ?_
   simp (disch := first | assumption | omega) only [go_sem, reduceCtorEq, Nat.reduceEqDiff, Nat.reduceLeDiff, ↓reduceIte, hc1]
   refine (hI _ _ hB (by omega)).mono ?_
   rintro v σ2 ⟨rfl, hB2⟩
   have hc2 := hcell hB2
   simp (disch := first | assumption | omega) only [go_sem, reduceCtorEq, Nat.reduceEqDiff, ↓reduceIte, hc2]
   refine hSg.use ?_
   simp (disch := first | assumption | omega) only [go_sem, Nat.reduceEqDiff, ↓reduceIte, hc2, hj3, hmg]
   refine (writes1_ok hB2 _ hsn (by simp only [List.length_append]; omega)).mono ?_
   rintro v σ3 ⟨rfl, hB3⟩
   have hc3 := hcell hB3
   simp (disch := first | assumption | omega) only [go_sem, reduceCtorEq, Nat.reduceEqDiff, Nat.reduceLeDiff, ↓reduceIte, Int.reduceToNat, hc3]
   refine (hJ _ _ hB3 (by simp only [List.length_append]; omega)).mono ?_
   rintro v σ4 ⟨rfl, hB4⟩
   simp (disch := first | assumption | omega) only [go_sem]
   obtain ⟨σ5, hd, hB5⟩ := hoff hB4
   refine retC_by hd (.refl _) ⟨rfl, ?_⟩
   have e : l ++ (t ++ (sg ++ u)) = l ++ t ++ sg ++ u := by simp
   first
    | (rw [e]; exact hB5)
    | (rw [← List.append_assoc, ← List.append_assoc]; exact hB5)
end Go.A
namespace Go.A
open Go.Proofs
/-! 21: tabular/expr.Print -/
def c21_7 : ACode := .seq (.ops [ oe 1 (.box (.t 0)), oq 2 (.mv (.v (.str [])))]) (.seq (.ops [ oe 3 (.allocT 100)]) (.seq (.ops [ oq 4 (.ld (some 12) (.t 1)), oe 5 (.call 48 [(.t 3), (.t 4)])]) (.seq (.ops [ oe 6 (.call 49 [(.t 3)]), oq 2 (.mv (.t 6))]) .ret)))
@[go_sem] def c21_7_wp := wp_of c21_7.eq_1
def c21 : AFn := ⟨7, [.t 2], c21_7⟩
theorem c21_ok : compF Tryz.prog Tryz.f21 = some c21 := by kernel_rfl
theorem a21 {args : List AV} {σ : ASt} {R : AV → ASt → Prop} (hl : args.length ≤ 7) (h : c21_7.wp Tryz.prog (RetQ [.t 2] R) (init args) σ) : ACalls Tryz.prog 21 args σ R := acalls_of Tryz.func21 c21_ok hl h
end Go.A
namespace Go.A
open Go.Proofs Go.Lib
theorem print_ok {σ : ASt} (hT : Tab σ) (hM : MaxL σ) (n : Nd) (hn : n.ok) (hl : n.spell.length ≤ 900000000) : ACalls Tryz.prog 21 [n.av] σ fun v σ' => v = .str n.spell ∧ σ' = σ := by
 have hS := spell_ok n.size n (Nat.le_refl _) hn
 obtain ⟨op, m, s, a, d, kids⟩ := n
 unfold SpellOk at hS
 rw [Nd.av_cs] at hS ⊢
 generalize (Nd.mk op m s a d kids).spell = w at *
 generalize kids.map Nd.av = L at *
 refine a21 (by simp) ?_
 simp (disch := first | assumption | omega) only [go_sem]
 refine boxC_by rfl fun c hc => ?_
 simp (disch := first | assumption | omega) only [go_sem]
 refine allocTC_by fun b hb => ?_
 have hbb := hb
 obtain ⟨n1, n2, n3⟩ := set_none hb
 have hB : BD (σ.set c (some (.obj (Nd.cs op m s a d L)))) b [] ((σ.set c (some (.obj (Nd.cs op m s a d L)))).set b (some (.typ 100 [.pointer none, .slice none 0 0]))) := .inl ⟨rfl, rfl⟩
 have hT1 := hT.set hc (r := some (.obj (Nd.cs op m s a d L)))
 have hM1 := hM.set hc (r := some (.obj (Nd.cs op m s a d L)))
 simp (disch := first | assumption | omega) only [go_sem, Nat.reduceEqDiff, Nat.reduceLeDiff, ↓reduceIte]
 refine (hS _ _ _ _ hB hbb hT1 hM1 (by simp only [List.length_nil]; omega)).mono ?_
 rintro v σ1 ⟨rfl, hB1⟩
 rw [List.nil_append] at hB1
 simp (disch := first | assumption | omega) only [go_sem, Nat.reduceEqDiff, ↓reduceIte]
 refine (bstring_ok hB1 (by omega)).mono ?_
 rintro v σ2 ⟨rfl, rfl⟩
 simp (disch := first | assumption | omega) only [go_sem, ↓reduceIte]
 exact retC_by ((hB1.over hbb).drop.trans (Drop.set hc)) (.refl _) ⟨rfl, rfl⟩
theorem SDrop.cong {σ σ' : ASt} {b : Nat} {c d : List AV} (h : SDrop σ σ') (he : Go.A.deeps c = d) : SDrop (σ.set b (some (.obj c))) (σ'.set b (some (.obj d))) := fun x => by
 by_cases hx : x = b
 ·subst hx
  exact .inr (.inr ⟨c, by rw [ASt.set_same], by rw [ASt.set_same, he]⟩)
 ·rw [ASt.set_ne hx, ASt.set_ne hx]
  exact h x
theorem set_mid {σ : ASt} {b c : Nat} {X Y Z : Option Role} (h : b ≠ c) : ((σ.set b X).set c Y).set b Z = (σ.set b Z).set c Y := by
 funext x
 simp only [ASt.set]
 by_cases h1 : x = b
 ·subst h1; simp [h]
 ·simp [h1]
end Go.A
namespace Go.A
open Go.Proofs
/-! 10: tabular/expr.Same -/
/-! 36: slices.EqualFunc[[]tabular/expr.Node,[]tabular/expr.Node,tabular/expr.Node,tabular/expr.Node] -/
/-! 37: tabular/expr.Map -/
def c37_18 : ACode := .seq (.ops [ oq 31 (.bin .lss (.t 30) (.t 29))]) (.seq (.cond (.t 31) .skip (.exit 0)) (.seq (.block 1 (.seq (.ops [ oq 32 (.mv (.t 30)), oq 33 (.ia 12 (.t 28) (.t 30)), oq 34 (.ld (some 12) (.t 33)), oe 7 (.alloc [(.int .i64 0), (.int .i64 0), (.str []), (.int .i64 0), (.int .i64 0), (.bool false), (.bool false), (.int .i64 0), (.int .i64 0), (.bool false), (.bool false), (.sl .full [])]), oq 6 (.mv (.t 32)), oz (.store 12 (.t 7) (.t 34))]) (.ops [ oq 35 (.mv (.t 5)), oq 36 (.mv (.t 6)), oq 37 (.ld (some 12) (.t 7)), oq 38 (.mv (.t 1)), oe 39 (.call 37 [(.t 37), (.t 38)]), oq 40 (.ia 12 (.t 35) (.t 36)), oz (.store 12 (.t 40) (.t 39))]))) (.ops [ oq 41 (.bin .add (.t 30) (.v (.int .i64 1))), oq 30 (.mv (.t 41))])))
def c37_22 : ACode := .ops [ oq 42 (.mv (.t 5)), oq 43 (.fa 11 (.t 2)), oz (.store 1 (.t 43) (.t 42))]
def c37_31 : ACode := .seq (.ops [ oe 2 (.box (.t 0)), oe 4 (.alloc [(.int .i64 0), (.int .i64 0), (.str []), (.int .i64 0), (.int .i64 0), (.bool false), (.bool false), (.int .i64 0), (.int .i64 0), (.bool false), (.bool false), (.sl .full [])])]) (.seq (.seq (.ops [ oq 8 (.fa 0 (.t 2)), oq 9 (.ld none (.t 8)), oq 10 (.bin .eql (.t 9) (.v (.int .i64 5))), oq 11 (.mv (.t 10)), ⟨some 12, some (11, false), .q (.fa 0 (.t 2)), []⟩, ⟨some 13, some (11, false), .q (.ld none (.t 12)), []⟩, ⟨some 14, some (11, false), .q (.bin .eql (.t 13) (.v (.int .i64 6))), []⟩, oq 15 (.pick (.t 11) (.v (.bool true)) (.t 14))]) (.cond (.t 15) (.seq (.ops [ oq 16 (.mv (.t 1)), oq 17 (.ld (some 12) (.t 2)), oe 18 (.callv (.t 16) [(.t 17)]), oz (.store 12 (.t 4) (.t 18))]) .ret) .skip)) (.seq (.seq (.ops [ oq 19 (.fa 11 (.t 2)), oq 20 (.ld none (.t 19)), oq 21 (.len (.t 20)), oq 22 (.bin .gtr (.t 21) (.v (.int .i64 0)))]) (.cond (.t 22) (.seq (.ops [ oq 23 (.fa 11 (.t 2)), oq 24 (.ld none (.t 23)), oq 25 (.len (.t 24)), oe 26 (.mkb 30 104 [(.int .i64 0), (.int .i64 0), (.str []), (.int .i64 0), (.int .i64 0), (.bool false), (.bool false), (.int .i64 0), (.int .i64 0), (.bool false), (.bool false), (.sl .full [])] (.t 25) (.t 25)), oq 5 (.mv (.t 26))]) (.seq (.seq (.ops [ oq 27 (.fa 11 (.t 2)), oq 28 (.ld none (.t 27)), oq 29 (.len (.t 28)), oq 30 (.mv (.v (.int .i64 0)))]) (.block 0 (.loop c37_18))) c37_22)) .skip)) (.seq (.ops [ oq 44 (.ld (some 12) (.t 2)), oz (.store 12 (.t 4) (.t 44))]) .ret)))
@[go_sem] def c37_18_wp := wp_of c37_18.eq_1
@[go_sem] def c37_22_wp := wp_of c37_22.eq_1
@[go_sem] def c37_31_wp := wp_of c37_31.eq_1
def c37 : AFn := ⟨45, [.c 4 (some 12)], c37_31⟩
theorem c37_ok : compF Tryz.prog Tryz.f37 = some c37 := by kernel_rfl
theorem a37 {args : List AV} {σ : ASt} {R : AV → ASt → Prop} (hl : args.length ≤ 45) (h : c37_31.wp Tryz.prog (RetQ [.c 4 (some 12)] R) (init args) σ) : ACalls Tryz.prog 37 args σ R := acalls_of Tryz.func37 c37_ok hl h
end Go.A
