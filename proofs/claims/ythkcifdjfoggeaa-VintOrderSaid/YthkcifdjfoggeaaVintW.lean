/- The writer's methods and the references' writings, walked. -/
import Derived.Test.YthkcifdjfoggeaaRows
import Derived.Test.YthkcifdjfoggeaaReg
import Derived.Test.YthkcifdjfoggeaaVintM
import Derived.WalkSpells
import Derived.WalkLawsBesides
import Derived.Handy
import Derived.Lib.Hide
namespace Go.Proofs.Ythkcifdjfoggeaa
open Go.RowKit Go.BigFrame Go.Vint

theorem strOne (w : World) (a : Addr) (c : Nat) (h : w.cell? a = some (.int .u8 (numOf? (w.cell? a)))) : (convert 23 9 (.slice (some a) 1 c)).run Try.prog w = .ok (.string (bs [u8Of (numOf? (w.cell? a))])) w :=
  run_str_one Try.underlying23 Try.underlying5 Try.underlying9 w a c h

theorem etBytes : ElemType Try.prog 23 5 1 1 := elemType_mk (z := .int .u8 0) Try.underlying23 (by kernel_rfl) rfl (by omega)

set_option maxRecDepth 100000 in
set_option maxHeartbeats 400000 in
theorem refUint (k : Nat) : ∀ (u : Int) (w : World), u ≤ k → 0 ≤ u → u ≤ 18446744073709551615 →
    Calls Try.prog 30 #[.int .u64 u] w fun e w' => e = .returned (.string (bs (uintB u.toNat))) ∧ Ext w w' := by
  induction k with
  | zero =>
    intro u w hk h0 hu
    have hlt : u < 128 := by omega
    have hstr := strOne
    have hfin := Lib.hid (uintB_i h0 hlt)
    go_enter Try.func30, Try.ntmps30
    go_wp2
    go_ret
    exact ⟨by rw [hfin.out]; rfl, (Ext.refl _).alloc _⟩
  | succ k ih =>
    intro u w hk h0 hu
    have hstr := strOne
    by_cases hlt : u < 128
    · have hfin := Lib.hid (uintB_i h0 hlt)
      go_enter Try.func30, Try.ntmps30
      go_wp2
      go_ret
      exact ⟨by rw [hfin.out]; rfl, (Ext.refl _).alloc _⟩
    · have IH := Lib.hid ih; clear ih
      have hlen := uintB_le (u := u / 128) (by omega)
      have hfin : Hid (bs [u8Of (128 + u % 128)] ++ bs (uintB (u / 128).toNat) = bs (uintB u.toNat)) := by
        unfold Hid; rw [bs_append, uintB_j (u := u) (by omega)]; rfl
      go_enter Try.func30, Try.ntmps30
      go_wp2_with fail
      refine wp_region_blind [0,1,2,3,6,7] 5 (by kernel_rfl) (by kernel_rfl) ?_
      simp only [regPick, List.getElem?_cons_succ, List.getElem?_cons_zero]
      repeat go_big_quiet_step (fail)
      refine wpQuiet_nil ?_
      refine wpAny_fork 4 8 (by kernel_rfl) ?_ ?_
      all_goals simp only [regPick, List.getElem?_cons_succ, List.getElem?_cons_zero]
      · go_wp2_with fail
        refine wpAny_fork 5 8 (by kernel_rfl) ?_ ?_
        all_goals simp only [regPick, List.getElem?_cons_succ, List.getElem?_cons_zero]
        · go_wp2_with fail
          refine wpAny_tail [8,9,10] (by kernel_rfl) ?_
          simp only [regPick, List.getElem?_cons_succ, List.getElem?_cons_zero]
          go_wp2_with (go_at_call 30; refine (IH.out _ _ (by omega) (by omega) (by omega)).mono ?_; rintro e w' ⟨rfl, x, rfl⟩)
          go_ret
          exact ⟨by rw [← hfin.out]; rfl, by repeat (first | exact Ext.refl _ | refine Ext.alloc ?_ _ | refine Ext.more ?_ _ | refine Ext.drew ?_)⟩
        · go_wp2_with (go_at_call 30; refine (IH.out _ _ (by omega) (by omega) (by omega)).mono ?_; rintro e w' ⟨rfl, x, rfl⟩)
          refine wpAny_tail [5,9,10] (by kernel_rfl) ?_
          simp only [regPick, List.getElem?_cons_succ, List.getElem?_cons_zero]
          go_wp2_with fail
          go_ret
          exact ⟨by rw [← hfin.out]; rfl, by repeat (first | exact Ext.refl _ | refine Ext.alloc ?_ _ | refine Ext.more ?_ _ | refine Ext.drew ?_)⟩
      · go_wp2_with (go_at_call 30; refine (IH.out _ _ (by omega) (by omega) (by omega)).mono ?_; rintro e w' ⟨rfl, x, rfl⟩)
        refine wpAny_tail [4,5,9,10] (by kernel_rfl) ?_
        simp only [regPick, List.getElem?_cons_succ, List.getElem?_cons_zero]
        go_wp2_with fail
        go_ret
        exact ⟨by rw [← hfin.out]; rfl, by repeat (first | exact Ext.refl _ | refine Ext.alloc ?_ _ | refine Ext.more ?_ _ | refine Ext.drew ?_)⟩

theorem refUint_any (u : Int) (w : World) (h0 : 0 ≤ u) (hu : u ≤ 18446744073709551615) :
    Calls Try.prog 30 #[.int .u64 u] w fun e w' => e = .returned (.string (bs (uintB u.toNat))) ∧ Ext w w' :=
  refUint u.toNat u w (by omega) h0 hu

set_option maxRecDepth 100000 in
set_option maxHeartbeats 400000 in
theorem wUint (u : Int) (w : World) (b : Nat) (v : Value) (base : Nat) (l : List UInt8) (h0 : 0 ≤ u) (hu : u ≤ 18446744073709551615) (hb : BufAt w 25 5 b v base l) (hbase : base ≤ w.heap.size) (hl : l.length ≤ 1000000000) :
    Calls Try.prog 40 #[.pointer (some ⟨b, 0, none⟩), .int .u64 u] w fun e w' => e = .returned (.tuple #[]) ∧ Wrote w w' 25 5 b v base (l ++ uintB u.toNat) := by
  go_enter Try.func40, Try.ntmps40
  go_wp2_with fail
  go_loopw [1] (fun t wr => ∃ (k : Int) (l1 : List UInt8), t = .int .u64 k ∧ 0 ≤ k ∧ k ≤ 18446744073709551615 ∧ Wrote w wr 25 5 b v base l1 ∧ l1 ++ uintB k.toNat = l ++ uintB u.toNat) (fun t _ => (intOf t).toNat)
  case atStart => exact ⟨u, l, rfl, h0, hu, Wrote.refl hb, rfl⟩
  case round =>
    obtain ⟨k, l1, rfl, hk0, hk1, hW, heq⟩ := hrel
    obtain ⟨v1, hb1, hn1, hr1⟩ := hW
    have hll : l1.length ≤ 1000000010 := by
      have h1 := congrArg List.length heq
      have h2 := uintB_le hu
      simp only [List.length_append] at h1
      omega
    have HE := Lib.hid heq; clear heq
    have hcell := hb1.cell?
    have hfz := hb1.frozen?
    obtain ⟨n1, hown1⟩ := hb1.own
    have hnl : n1 ≤ 1000000010 := by rw [ownsRow_len hown1]; exact hll
    by_cases hlt : k ≤ 127
    · have hfin : Hid (l1 ++ [u8Of k] = l ++ uintB u.toNat) := by
        unfold Hid; rw [← HE.out, uintB_i (u := k) (by omega) (by omega)]
      go_wp2_with (at_builtin; refine wpList_append_reads _ rfl (.tmp 24) (.tmp 27) rfl etBytes (v := v1) rfl (hown1.alloc _) rfl (Reads.fresh _ 1 1 5 [_] rfl) ?c1 ?c2 ?c3 ?c4 (fun A2 c2 w2 hown2 hg2 hat2 => have hc2 := (hb1.grown_alloc hg2).1; have hf2 := (hb1.grown_alloc hg2).2; ?_))
      case c1 => simp [Value.oneCell']
      case c2 => omega
      case c3 => unfold maxLen; omega
      case c4 => have := hn1.size; simp; omega
      go_end0
      exact ⟨rfl, by rw [← hfin.out]; exact Wrote.step hn1 hr1 (Wrote.append_alloc hb1 hown2 hg2 hat2 (by simp [byteCellsV, u8Of]; omega))⟩
    · have hfin : Hid (l1 ++ [u8Of (128 + k % 128)] ++ uintB (k / 128).toNat = l ++ uintB u.toNat) := by
        unfold Hid; rw [← HE.out, uintB_j (u := k) (by omega)]; simp
      have hor := Lib.hid (or_128 k)
      go_wp2_with (at_builtin; refine wpList_append_reads _ rfl (.tmp 12) (.tmp 16) rfl etBytes (v := v1) rfl (hown1.alloc _) rfl (Reads.fresh _ 1 1 5 [_] rfl) ?c1 ?c2 ?c3 ?c4 (fun A2 c2 w2 hown2 hg2 hat2 => have hc2 := (hb1.grown_alloc hg2).1; have hf2 := (hb1.grown_alloc hg2).2; ?_))
      case c1 => simp [Value.oneCell']
      case c2 => omega
      case c3 => unfold maxLen; omega
      case c4 => have := hn1.size; simp; omega
      go_roundw
      case rel =>
        rw [hor.out] at hown2 hg2 hat2
        exact ⟨k / 128, l1 ++ [u8Of (128 + k % 128)], rfl, by omega, by omega, Wrote.step hn1 hr1 (Wrote.append_alloc hb1 hown2 hg2 hat2 (by simp [byteCellsV, u8Of]; omega)), hfin.out⟩
      case measure => simp [intOf]; omega

theorem refUint_eq (u : Int) (m : List UInt8) (w : World) (hm : Hid (uintB u.toNat = m)) (h0 : 0 ≤ u) (hu : u ≤ 18446744073709551615) :
    Calls Try.prog 30 #[.int .u64 u] w fun e w' => e = .returned (.string (bs m)) ∧ Ext w w' := by
  rw [← hm.out]; exact refUint_any u w h0 hu
end Go.Proofs.Ythkcifdjfoggeaa
