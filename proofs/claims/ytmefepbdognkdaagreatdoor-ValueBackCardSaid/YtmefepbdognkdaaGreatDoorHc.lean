/- The library's contracts that decimals call, for the abstract walk. -/
import Derived.Test.YtmefepbdognkdaaGreatDoorWz
import Derived.Test.YtmefepbdognkdaaGreatDoorHb
import Derived.Lib.ItoaMem
import Derived.Lib.AppendIntMem
import Derived.BigCall
import Derived.BigGuard
import Derived.Test.YtmefepbdognkdaaGreatDoorCodeH
namespace Go.A
open Go.Proofs Go.Shelf Go.RowKit Go.Sort
set_option linter.unusedSimpArgs false
set_option linter.unusedVariables false

set_option maxHeartbeats 4000000 in
set_option maxRecDepth 100000 in
theorem fmtU_small (u : Nat) (hu : u < 100) (w : World) : Calls Tryz.prog 161 #[.int .u64 u, .int .i64 10] w fun e w' => e = .returned (.string ⟨(Lib.decDigits u).toArray⟩) ∧ Ext w w' := by
  have iu : (u : Int) < 100 := by omega
  go_enter Tryz.func161, Tryz.ntmps161
  go_wp2_with (go_at_call 170; refine (Tryz.internal_strconv_small u hu _).mono ?_; rintro e w' ⟨rfl, rfl⟩)
  go_ret
  exact ⟨rfl, Ext.refl _⟩
set_option maxHeartbeats 12800000 in
set_option maxRecDepth 100000 in
theorem fmtU_big (u : Nat) (hu : 100 ≤ u) (hu64 : u < 18446744073709551616) (w : World) (htab : Lib.TabIs Tryz.prog w "internal/strconv.uint64pow10" .u64 Lib.pow10Tab) :
    Calls Tryz.prog 161 #[.int .u64 u, .int .i64 10] w fun e w' => e = .returned (.string ⟨(Lib.decDigits u).toArray⟩) ∧ Ext w w' := by
  have hu1 : 1 ≤ u := by omega
  have hnd20 : Lib.nDigits u ≤ 20 := by have := Lib.numDigits_eq u hu1 hu64; split at this <;> omega
  have hal : Tryz.prog.arrayLen 196 = 24 := by kernel_rfl
  have hsl : ∀ W, (Instr.sliceAt 196 (.pointer (some ⟨w.heap.size, 0, none⟩)) none (some (.int .i64 (Lib.nDigits u : Int))) none).run Tryz.prog W = .ok (.slice (some ⟨w.heap.size, 0, none⟩) (Lib.nDigits u) 24) W := fun W => by
    rw [run_sliceAt_array_h W 196 ⟨w.heap.size, 0, none⟩ (by kernel_rfl) .i64 (Lib.nDigits u : Int) (by omega) (by rw [hal]; omega)]
    rw [hal]
    rfl
  have hH0 := Lib.holds_zero0 w 196 (Lib.nDigits u) (by omega)
  have hfmt := Tryz.internal_strconv_formatBase10 w.heap.size 0 24 u (Array.replicate (Lib.nDigits u) 0) (w.alloc (.cells Lib.zeros24 196)) hH0 (by rw [Array.size_replicate]; exact Lib.lt_pow_nDigits u) hu64 (by rw [Array.size_replicate]; omega)
  rw [Array.size_replicate] at hfmt
  have HH0 := Lib.hid hH0
  have iu : (100 : Int) ≤ (u : Int) := by omega
  clear hH0 hal
  go_enter Tryz.func161, Tryz.ntmps161
  go_wp2_with (first
    | (go_at_call 171; refine (Tryz.internal_strconv_numDigits u hu1 hu64 _ (Lib.tabIs_alloc htab _)).mono ?_; rintro e w' ⟨rfl, rfl⟩))
  go_at_call 172
  refine hfmt.mono ?_
  rintro e w' ⟨rfl, k, v', dk, rfl, hF⟩
  have hcv : (convert 59 9 (.slice (some ⟨w.heap.size, 0, none⟩) (Lib.nDigits u) 24)).run Tryz.prog ((putRow (fun (b : UInt8) => Value.int .u8 (b.toNat : Int)) (w.alloc (.cells Lib.zeros24 196)) w.heap.size 0 dk).drewN k) = .ok (.string ⟨(Lib.decDigits u).toArray⟩) ((putRow (fun (b : UInt8) => Value.int .u8 (b.toNat : Int)) (w.alloc (.cells Lib.zeros24 196)) w.heap.size 0 dk).drewN k) := by
    have h := run_convert_bytes_back (P := Tryz.prog) ((putRow (fun (b : UInt8) => Value.int .u8 (b.toNat : Int)) (w.alloc (.cells Lib.zeros24 196)) w.heap.size 0 dk).drewN k) 59 9 5 ⟨w.heap.size, 0, none⟩ 24 (Lib.decDigits u) Tryz.underlying59 Tryz.underlying5 Tryz.underlying9 (fun j hj => by
      rw [Lib.row_is_numeral hF j hj, Lib.add_plain, World.cell?_drewN]
      exact cell?_putRow (fun (b : UInt8) => Value.int .u8 (b.toNat : Int)) _ w.heap.size 0 _ dk HH0.out (by rw [hF.size, Array.size_replicate]) j (by rw [hF.size]; rw [Lib.decDigits_length] at hj; exact hj))
    rw [Lib.decDigits_length] at h
    exact h
  go_wp2
  go_ret
  obtain ⟨os, eo⟩ := Lib.fin_at w (.cells Lib.zeros24 196) dk k 0
  refine ⟨rfl, ?_⟩
  rw [eo]
  exact ext_grow w k os

theorem ifmt_ok {σ : ASt} (h : Tab σ) {u : Nat} (hu : u < 18446744073709551616) : ACalls Tryz.prog 161 [.int .u64 u, .int .i64 10] σ fun v σ' => v = .str (Lib.decDigits u) ∧ σ' = σ := by
  refine ACalls.of_ext (u := .string ⟨(Lib.decDigits u).toArray⟩) (fun w vs hs ha => ?_) fun w => .str _
  cases ha with
  | cons h1 h2 =>
  cases h2 with
  | cons h2 h3 =>
  cases h1; cases h2; cases h3
  by_cases hs2 : u < 100
  · exact fmtU_small u hs2 w
  · exact fmtU_big u (by omega) hu w (tabIs_of hs (by kernel_rfl) h)
theorem fmt_ok {σ : ASt} (h : Tab σ) {u : Nat} (hu : u < 18446744073709551616) : ACalls Tryz.prog 146 [.int .u64 u, .int .i64 10] σ fun v σ' => v = .str (Lib.decDigits u) ∧ σ' = σ := by
  refine a146 (by simp) ?_
  simp (disch := first | assumption | omega | (simp only [List.length_append, List.length_cons, List.length_nil]; omega)) only [go_sem, reduceCtorEq, Nat.reduceEqDiff, Nat.reduceAdd, Nat.reduceSub, Nat.reduceMul, Nat.reduceLeDiff, Int.reduceLT, Int.reduceLE, Int.reduceEq, ↓reduceIte, Int.reduceNeg, Int.reduceAdd, Int.reduceSub, Int.reduceMul, true_imp_iff, forall_const, Nat.mul_one, Int.reduceToNat, Nat.reducePow, Int.reducePow, Bool.true_and, Bool.false_and, Bool.and_false]
  refine (ifmt_ok h hu).mono ?_
  rintro v σ' ⟨rfl, rfl⟩
  simp (disch := first | assumption | omega | (simp only [List.length_append, List.length_cons, List.length_nil]; omega)) only [go_sem, reduceCtorEq, Nat.reduceEqDiff, Nat.reduceAdd, Nat.reduceSub, Nat.reduceMul, Nat.reduceLeDiff, Int.reduceLT, Int.reduceLE, Int.reduceEq, ↓reduceIte, Int.reduceNeg, Int.reduceAdd, Int.reduceSub, Int.reduceMul, true_imp_iff, forall_const, Nat.mul_one, Int.reduceToNat, Nat.reducePow, Int.reducePow, Bool.true_and, Bool.false_and, Bool.and_false]
  exact retC_by (Drop.refl _) (.refl _) ⟨rfl, rfl⟩
theorem mul64_ok (x y : Nat) (hx : x < 18446744073709551616) (hy : y < 18446744073709551616) : Pure Tryz.prog 122 [.int .u64 x, .int .u64 y] (.tuple [.int .u64 ((x * y / 18446744073709551616 : Nat) : Int), .int .u64 ((x * y % 18446744073709551616 : Nat) : Int)]) := by
  intro σ
  refine ACalls.of_ext (u := .tuple #[.int .u64 ((x * y / 18446744073709551616 : Nat) : Int), .int .u64 ((x * y % 18446744073709551616 : Nat) : Int)]) (fun w vs hs ha => ?_) fun w => .tuple (.cons (.int _ _) (.cons (.int _ _) .nil))
  cases ha with
  | cons h1 h2 =>
  cases h2 with
  | cons h2 h3 =>
  cases h1; cases h2; cases h3
  exact (Tryz.bits_Mul64 x y hx hy w).mono fun e w' ⟨he, hw⟩ => ⟨he, Ext.of_eq hw⟩
theorem cutPrefix_ok (s p : List UInt8) : Pure Tryz.prog 110 [.str s, .str p] (.tuple [.str (Lib.trimPrefix s p), .bool (Lib.hasPrefix s p)]) := by
  intro σ
  refine ACalls.of_ext (u := .tuple #[.string ⟨(Lib.trimPrefix s p).toArray⟩, .bool (Lib.hasPrefix s p)]) (fun w vs hs ha => ?_) fun w => .tuple (.cons (.str _) (.cons (.bool _) .nil))
  cases ha with
  | cons h1 h2 =>
  cases h2 with
  | cons h2 h3 =>
  cases h1; cases h2; cases h3
  exact (Tryz.strings_CutPrefix ⟨⟨s⟩⟩ ⟨⟨p⟩⟩ w).mono fun e w' ⟨he, hw⟩ => ⟨he, Ext.of_eq hw⟩
theorem trimRight_ok (s : List UInt8) (c : UInt8) (hc : c.toNat < 128) (hsl : s.length ≤ 9223372036854775807) : Pure Tryz.prog 147 [.str s, .str [c]] (.str (Lib.trimRightB s c)) := by
  intro σ
  refine ACalls.of_ext (u := .string ⟨(Lib.trimRightB s c).toArray⟩) (fun w vs hs ha => ?_) fun w => .str _
  cases ha with
  | cons h1 h2 =>
  cases h2 with
  | cons h2 h3 =>
  cases h1; cases h2; cases h3
  exact (Tryz.strings_TrimRight_one ⟨⟨s⟩⟩ c hc w (by simpa [ByteArray.size] using hsl)).mono fun e w' ⟨he, hw⟩ => ⟨he, Ext.of_eq hw⟩
theorem sindex_ok (s : List UInt8) (c : UInt8) : Pure Tryz.prog 166 [.str s, .str [c]] (.int .i64 (Lib.indexByte s c)) := by
  intro σ
  refine ACalls.of_ext (u := .int .i64 (Lib.indexByte s c)) (fun w vs hs ha => ?_) fun w => .int _ _
  cases ha with
  | cons h1 h2 =>
  cases h2 with
  | cons h2 h3 =>
  cases h1; cases h2; cases h3
  exact (Tryz.stringslite_Index_one ⟨⟨s⟩⟩ c w).mono fun e w' ⟨he, hw⟩ => ⟨he, Ext.of_eq hw⟩
/-- strings.Cut at one byte. -/
theorem cutc_ok (l : List UInt8) (c : UInt8) (hl : l.length ≤ 1000000000) : Pure Tryz.prog 144 [.str l, .str [c]] (.tuple [.str (Lib.cut l [c]).1, .str (Lib.cut l [c]).2.1, .bool (Lib.cut l [c]).2.2]) := by
  have h1 : Pure Tryz.prog 153 [.str l, .str [c]] (.tuple [.str (Lib.cut l [c]).1, .str (Lib.cut l [c]).2.1, .bool (Lib.cut l [c]).2.2]) := by
    intro σ
    have hi := sindex_ok l c
    have hr := Lib.index_room l [c]
    unfold Lib.cut
    rw [Lib.index_one] at hr ⊢
    have hg := Lib.indexByte_ge l c
    refine a153 (by simp) ?_
    by_cases h0 : 0 ≤ Lib.indexByte l c
    · obtain ⟨i, e⟩ : ∃ i : Nat, Lib.indexByte l c = i := ⟨(Lib.indexByte l c).toNat, by omega⟩
      rw [e] at hi hr ⊢
      have hr := hr (by omega)
      simp only [List.length_cons, List.length_nil] at hr
      rw [if_pos (by omega)]
      have e1 : (0 : Int) ≤ i := by omega
      have e2 : ((i : Int) + 1).toNat = i + 1 := by omega
      have e3 : (i : Int) ≤ l.length := by omega
      have e4 : (i : Int) + 1 ≤ l.length := by omega
      simp (disch := first | assumption | omega | (simp only [List.length_append, List.length_cons, List.length_nil]; omega)) only [go_sem, reduceCtorEq, Nat.reduceEqDiff, Nat.reduceAdd, Nat.reduceSub, Nat.reduceMul, Nat.reduceLeDiff, Int.reduceLT, Int.reduceLE, Int.reduceEq, ↓reduceIte, Int.reduceNeg, Int.reduceAdd, Int.reduceSub, Int.reduceMul, true_imp_iff, forall_const, Nat.mul_one, Int.reduceToNat, Nat.reducePow, Int.reducePow, Bool.true_and, Bool.false_and, Bool.and_false]
      refine hi.use ?_
      simp (disch := first | assumption | omega | (simp only [List.length_append, List.length_cons, List.length_nil]; omega)) only [go_sem, reduceCtorEq, Nat.reduceEqDiff, Nat.reduceAdd, Nat.reduceSub, Nat.reduceMul, Nat.reduceLeDiff, Int.reduceLT, Int.reduceLE, Int.reduceEq, ↓reduceIte, Int.reduceNeg, Int.reduceAdd, Int.reduceSub, Int.reduceMul, true_imp_iff, forall_const, Nat.mul_one, Int.reduceToNat, Nat.reducePow, Int.reducePow, Bool.true_and, Bool.false_and, Bool.and_false, e1, e2, e3, e4, List.take_length]
      exact retC_by (by repeat' (first | exact Drop.refl _ | with_reducible refine Drop.off ?_ (by assumption))) (.refl _) ⟨rfl, rfl⟩
    · have e : Lib.indexByte l c = -1 := by omega
      rw [e] at hi ⊢
      rw [if_neg (by omega)]
      simp (disch := first | assumption | omega | (simp only [List.length_append, List.length_cons, List.length_nil]; omega)) only [go_sem, reduceCtorEq, Nat.reduceEqDiff, Nat.reduceAdd, Nat.reduceSub, Nat.reduceMul, Nat.reduceLeDiff, Int.reduceLT, Int.reduceLE, Int.reduceEq, ↓reduceIte, Int.reduceNeg, Int.reduceAdd, Int.reduceSub, Int.reduceMul, true_imp_iff, forall_const, Nat.mul_one, Int.reduceToNat, Nat.reducePow, Int.reducePow, Bool.true_and, Bool.false_and, Bool.and_false]
      refine hi.use ?_
      simp (disch := first | assumption | omega | (simp only [List.length_append, List.length_cons, List.length_nil]; omega)) only [go_sem, reduceCtorEq, Nat.reduceEqDiff, Nat.reduceAdd, Nat.reduceSub, Nat.reduceMul, Nat.reduceLeDiff, Int.reduceLT, Int.reduceLE, Int.reduceEq, ↓reduceIte, Int.reduceNeg, Int.reduceAdd, Int.reduceSub, Int.reduceMul, true_imp_iff, forall_const, Nat.mul_one, Int.reduceToNat, Nat.reducePow, Int.reducePow, Bool.true_and, Bool.false_and, Bool.and_false]
      exact retC_by (by repeat' (first | exact Drop.refl _ | with_reducible refine Drop.off ?_ (by assumption))) (.refl _) ⟨rfl, rfl⟩
  intro σ
  refine a144 (by simp) ?_
  simp (disch := first | assumption | omega | (simp only [List.length_append, List.length_cons, List.length_nil]; omega)) only [go_sem, reduceCtorEq, Nat.reduceEqDiff, Nat.reduceAdd, Nat.reduceSub, Nat.reduceMul, Nat.reduceLeDiff, Int.reduceLT, Int.reduceLE, Int.reduceEq, ↓reduceIte, Int.reduceNeg, Int.reduceAdd, Int.reduceSub, Int.reduceMul, true_imp_iff, forall_const, Nat.mul_one, Int.reduceToNat, Nat.reducePow, Int.reducePow, Bool.true_and, Bool.false_and, Bool.and_false]
  refine h1.use ?_
  simp (disch := first | assumption | omega | (simp only [List.length_append, List.length_cons, List.length_nil]; omega)) only [go_sem, reduceCtorEq, Nat.reduceEqDiff, Nat.reduceAdd, Nat.reduceSub, Nat.reduceMul, Nat.reduceLeDiff, Int.reduceLT, Int.reduceLE, Int.reduceEq, ↓reduceIte, Int.reduceNeg, Int.reduceAdd, Int.reduceSub, Int.reduceMul, true_imp_iff, forall_const, Nat.mul_one, Int.reduceToNat, Nat.reducePow, Int.reducePow, Bool.true_and, Bool.false_and, Bool.and_false]
  exact retC_by (by repeat' (first | exact Drop.refl _ | with_reducible refine Drop.off ?_ (by assumption))) (.refl _) ⟨rfl, rfl⟩
/-- Div64 of a number of 64 bits. -/
theorem div64_ok (lo y : Nat) (hl : lo < 18446744073709551616) (hy : 0 < y) (hy2 : y < 18446744073709551616) : Pure Tryz.prog 152 [.int .u64 0, .int .u64 lo, .int .u64 y] (.tuple [.int .u64 ((lo / y : Nat) : Int), .int .u64 ((lo % y : Nat) : Int)]) := by
  intro σ
  have hy0 : (y : Int) ≠ 0 := by omega
  have hy1 : ¬ (y : Int) ≤ 0 := by omega
  have d1 : IntKind.u64.wrap ((lo : Int).tdiv y) = ((lo / y : Nat) : Int) := by
    have := Nat.div_le_self lo y
    rw [Int.tdiv_eq_ediv_of_nonneg (by omega), ← Int.natCast_ediv, IntKind.wrap_u64]
    generalize lo / y = q at *
    omega
  have d2 : (lo : Int).tmod y = ((lo % y : Nat) : Int) := by
    rw [Int.tmod_eq_emod_of_nonneg (by omega), ← Int.natCast_emod]
  refine a152 (by simp) ?_
  simp (disch := first | assumption | omega | (simp only [List.length_append, List.length_cons, List.length_nil]; omega)) only [go_sem, reduceCtorEq, Nat.reduceEqDiff, Nat.reduceAdd, Nat.reduceSub, Nat.reduceMul, Nat.reduceLeDiff, Int.reduceLT, Int.reduceLE, Int.reduceEq, ↓reduceIte, Int.reduceNeg, Int.reduceAdd, Int.reduceSub, Int.reduceMul, true_imp_iff, forall_const, Nat.mul_one, Int.reduceToNat, Nat.reducePow, Int.reducePow, Bool.true_and, Bool.false_and, Bool.and_false, hy0, hy1, d1, d2]
  exact retC_by (by repeat' (first | exact Drop.refl _ | with_reducible refine Drop.off ?_ (by assumption))) (.refl _) ⟨rfl, rfl⟩
end Go.A
