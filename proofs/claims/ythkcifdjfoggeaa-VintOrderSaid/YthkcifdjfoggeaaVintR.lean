/- The reader's methods, walked. -/
import Derived.Test.YthkcifdjfoggeaaVintW
import Derived.Test.YthkcifdjfoggeaaRegMore
set_option maxRecDepth 100000
set_option maxHeartbeats 400000
namespace Go.Proofs.Ythkcifdjfoggeaa
open Go.RowKit Go.BigFrame Go.Vint

theorem vRead_any (s : ByteArray) (w : World) :
    Calls Try.prog 27 #[.string s] w fun e w' => e = .returned (.pointer (some ⟨w.heap.size, 0, none⟩)) ∧ RdAt w' 82 w.heap.size s 0 0 ∧ Ext w w' := by
  go_enter Try.func27, Try.ntmps27
  go_wp2_with fail
  go_ret
  exact ⟨rfl, heap_alloc_new _ _, (Ext.refl _).alloc _⟩

theorem rErr_any (b : Nat) (s : ByteArray) (p : Nat) (err : Int) (w : World) (h : RdAt w 82 b s p err) :
    Calls Try.prog 37 #[.pointer (some ⟨b, 0, none⟩)] w fun e w' => e = .returned (.int .i64 err) ∧ w = w' := by
  have h2 := h.cell2
  go_enter Try.func37, Try.ntmps37
  go_wp2_with fail
  go_ret
  exact ⟨rfl, rfl⟩

theorem rAt_any (b : Nat) (s : ByteArray) (p : Nat) (err : Int) (w : World) (h : RdAt w 82 b s p err) :
    Calls Try.prog 47 #[.pointer (some ⟨b, 0, none⟩)] w fun e w' => e = .returned (.int .i64 p) ∧ w = w' := by
  have h1 := h.cell1
  go_enter Try.func47, Try.ntmps47
  go_wp2_with fail
  go_ret
  exact ⟨rfl, rfl⟩

/-- The first error stays. -/
def firstErr (err e : Int) : Int := if err = 0 then e else err

theorem rFail_any (b : Nat) (s : ByteArray) (p : Nat) (err e0 : Int) (w : World) (h : RdAt w 82 b s p err) :
    Calls Try.prog 48 #[.pointer (some ⟨b, 0, none⟩), .int .i64 e0] w fun e w' => e = .returned (.tuple #[]) ∧ RdAt w' 82 b s p (firstErr err e0) ∧ Only w w' b := by
  have h2 := h.cell2
  have hf := h.frozen 2
  by_cases he : err = 0
  · subst he
    go_enter Try.func48, Try.ntmps48
    go_wp2_with fail
    go_end0
    exact ⟨rfl, h.set2 e0, (Only.refl _ _).setCell _ _⟩
  · have hf : Hid (firstErr err e0 = err) := by simp [Hid, firstErr, he]
    have hb : (err == 0) = false := by simp [he]
    go_enter Try.func48, Try.ntmps48
    go_wp2_with fail
    go_end0
    exact ⟨rfl, by rw [hf.out]; exact h, Only.refl _ _⟩

theorem rDone_any (b : Nat) (s : ByteArray) (p : Nat) (err : Int) (w : World) (hR : RdAt w 82 b s p err) (hs : s.size ≤ 9223372036854775807) (hp : p ≤ s.size) :
    Calls Try.prog 29 #[.pointer (some ⟨b, 0, none⟩)] w fun e w' => e = .returned (.int .i64 (if p < s.size then firstErr err 3 else err)) ∧ RdAt w' 82 b s p (if p < s.size then firstErr err 3 else err) ∧ Only w w' b := by
  have h0 := hR.cell0
  have h1 := hR.cell1
  have h2 := hR.cell2
  by_cases hlt : p < s.size
  · have hif : Hid ((if p < s.size then firstErr err 3 else err) = firstErr err 3) := if_pos hlt
    go_enter Try.func29, Try.ntmps29
    go_wp2_with fail
    refine wp_region_gate_draws [0,1,2,3,4,5,6,7,8,9] [] (by kernel_rfl) (by kernel_rfl) ?_
    simp only [regPick, List.getElem?_cons_succ, List.getElem?_cons_zero]
    repeat go_big_quiet_step (fail)
    refine wpQuiet_nil ?_
    rintro _ ⟨nq, rfl⟩
    go_wp2_with fail
    refine (rFail_any _ _ _ _ _ _ (hR.drewN nq)).mono ?_
    rintro e w2 ⟨rfl, hr2, ho2⟩
    have h22 := hr2.cell2
    go_wp2_with fail
    go_ret
    exact ⟨rfl, hr2, (Only.of_ext ((Ext.refl _).drewN nq) b).trans ho2⟩
  · have hif : Hid ((if p < s.size then firstErr err 3 else err) = err) := if_neg hlt
    go_enter Try.func29, Try.ntmps29
    go_wp2_with fail
    refine wp_region_gate_draws [0,1,2,3,4,5,6,7,8,9] [] (by kernel_rfl) (by kernel_rfl) ?_
    simp only [regPick, List.getElem?_cons_succ, List.getElem?_cons_zero]
    repeat go_big_quiet_step (fail)
    refine wpQuiet_nil ?_
    rintro _ ⟨nq, rfl⟩
    go_wp2_with fail
    go_ret
    exact ⟨rfl, hR.drewN nq, (Only.refl _ _).drewN nq⟩

theorem rUint_any (b : Nat) (s : ByteArray) (p : Nat) (err : Int) (w : World) (hR : RdAt w 82 b s p err) (hs : s.size ≤ 9223372036854775000) (hp : p ≤ s.size) :
    Calls Try.prog 28 #[.pointer (some ⟨b, 0, none⟩)] w fun e w' => e = .returned (.int .u64 (readU s.data.toList p err).1) ∧ RdAt w' 82 b s (readU s.data.toList p err).2.1 (readU s.data.toList p err).2.2 ∧ Only w w' b := by
  by_cases he : err = 0
  · subst he
    obtain ⟨z, hz⟩ : ∃ z, Hid (readU s.data.toList p 0 = z) := ⟨_, rfl⟩
    rw [hz.out]
    go_enter Try.func28, Try.ntmps28
    go_wp2_with fail
    go_loopw [3, 4] (fun t i wr => ∃ (k U : Nat), i = .int .i64 k ∧ t = .int .u64 U ∧ k ≤ 9 ∧ p + k ≤ s.size ∧ U < 128 ^ k ∧ RdAt wr 82 b s p 0 ∧ Only w wr b ∧ Hid (scan 0 0 (s.data.toList.drop p) = scan k U (s.data.toList.drop (p + k)))) (fun _ i _ => 10 - (intOf i).toNat)
    case atStart => exact ⟨0, 0, rfl, rfl, by omega, by omega, by omega, hR, Only.refl _ _, rfl⟩
    case round =>
      obtain ⟨k, U, rfl, rfl, hk, hpk, hU, hRr, hOr, hsc⟩ := hrel
      have hc0 := hRr.cell0
      have hc1 := hRr.cell1
      have hc2 := hRr.cell2
      by_cases hlt : p + k < s.size
      · obtain ⟨c, hc⟩ : ∃ c : UInt8, Hid (s.data.toList[p + k]? = some c) := ⟨s.data.toList[p + k]'(by rw [size_list]; omega), by simp [Hid]⟩
        have hix := fun w' : World => index_at (P := Try.prog) 9 Try.underlying9 w' hlt hc.out
        have hf1 := hRr.frozen 1
        have hst := scan_step (U := U) hc.out
        by_cases hb : (k = 9 ∧ 1 < c.toNat) ∨ (0 < k ∧ c.toNat = 0)
        · rw [if_pos hb] at hst
          have hzz := hz.out.symm.trans (readU_of (hsc.out.trans hst))
          clear hst
          subst hzz
          rcases hb with ⟨rfl, hb2⟩ | ⟨hb1, hb2⟩
          · have hb3 : (1 : Int) < c.toNat := by omega
            have hix9 : ∀ w' : World, (Instr.index 9 (.string s) (.int .i64 ((p : Int) + 9))).run Try.prog w' = .ok (.int .u8 (c.toNat : Int)) w' := hix
            go_wp2_with fail
            refine wp_region_gate_draws [0,1,2,3,4,5,6,7,8,9,10,11] [] (by kernel_rfl) (by kernel_rfl) ?_
            simp only [regPick, List.getElem?_cons_succ, List.getElem?_cons_zero]
            repeat go_big_quiet_step (fail)
            refine wpQuiet_nil ?_
            rintro _ ⟨nq, rfl⟩
            go_wp2_with fail
            refine wp_region_gate_draws [0,1,2,3,4,5,6,7,8,9,10,11] [] (by kernel_rfl) (by kernel_rfl) ?_
            simp only [regPick, List.getElem?_cons_succ, List.getElem?_cons_zero]
            repeat go_big_quiet_step (fail)
            refine wpQuiet_nil ?_
            rintro _ ⟨nq, rfl⟩
            go_wp2_with (go_at_call 48; refine (rFail_any _ _ _ _ 3 _ (hRr.drewN _)).mono ?_; rintro e w2 ⟨rfl, hr2, ho2⟩)
            all_goals go_ret
            all_goals exact ⟨rfl, hr2, (hOr.drewN _).trans ho2⟩
          · have hb3 : (c.toNat : Int) = 0 := by omega
            have hb4 : (0 : Int) < k := by omega
            go_wp2_with fail
            refine wp_region_gate_draws [0,1,2,3,4,5,6,7,8,9,10,11] [] (by kernel_rfl) (by kernel_rfl) ?_
            simp only [regPick, List.getElem?_cons_succ, List.getElem?_cons_zero]
            repeat go_big_quiet_step (fail)
            refine wpQuiet_nil ?_
            rintro _ ⟨nq, rfl⟩
            go_wp2_with fail
            refine wp_region_gate_draws [0,1,2,3,4,5,6,7,8,9,10,11] [] (by kernel_rfl) (by kernel_rfl) ?_
            simp only [regPick, List.getElem?_cons_succ, List.getElem?_cons_zero]
            repeat go_big_quiet_step (fail)
            refine wpQuiet_nil ?_
            rintro _ ⟨nq, rfl⟩
            go_wp2_with (go_at_call 48; refine (rFail_any _ _ _ _ 3 _ (hRr.drewN _)).mono ?_; rintro e w2 ⟨rfl, hr2, ho2⟩)
            all_goals go_ret
            all_goals exact ⟨rfl, hr2, (hOr.drewN _).trans ho2⟩
        · rw [if_neg hb] at hst
          have hb1 : k = 9 → (c.toNat : Int) ≤ 1 := fun h => by omega
          obtain ⟨V, hV⟩ : ∃ V, Hid (U + c.toNat % 128 * 128 ^ k = V) := ⟨_, rfl⟩
          have hor0 := or_shift hk hU hb1
          rw [hV.out] at hor0 hst
          by_cases hk9 : k = 9
          · subst hk9
            rw [show (2 : Int) ^ (7 * 9) = 9223372036854775808 from by decide] at hor0
            have hor := Lib.hid hor0; clear hor0
            have hb2 : (c.toNat : Int) ≤ 1 := by omega
            have hb3 : ((c.toNat : Int) == 0) = false := by simp; omega
            have hix9 : ∀ w' : World, (Instr.index 9 (.string s) (.int .i64 ((p : Int) + 9))).run Try.prog w' = .ok (.int .u8 (c.toNat : Int)) w' := hix
            by_cases hc8 : (c.toNat : Int) < 128
            · rw [if_pos (show c.toNat < 128 by omega)] at hst
              have hzz := hz.out.symm.trans (readU_of (hsc.out.trans hst))
              clear hst
              subst hzz
              go_wp2_with fail
              refine wp_region_gate_draws [0,1,2,3,4,5,6,7,8,9,10,11] [] (by kernel_rfl) (by kernel_rfl) ?_
              simp only [regPick, List.getElem?_cons_succ, List.getElem?_cons_zero]
              repeat go_big_quiet_step (fail)
              refine wpQuiet_nil ?_
              rintro _ ⟨nq, rfl⟩
              go_wp2_with fail
              refine wp_region_gate_draws [0,1,2,3,4,5,6,7,8,9,10,11] [] (by kernel_rfl) (by kernel_rfl) ?_
              simp only [regPick, List.getElem?_cons_succ, List.getElem?_cons_zero]
              repeat go_big_quiet_step (fail)
              refine wpQuiet_nil ?_
              rintro _ ⟨nq, rfl⟩
              go_wp2_with fail
              go_ret
              exact ⟨congrArg (fun i => Ending.returned (.int .u64 i)) hor.out, (hRr.drewN _).set1' (by omega), (hOr.drewN _).setCell _ _⟩
            · exact absurd (hb1 rfl) (by omega)
          · have hk9' : ¬ (k : Int) = 9 := by omega
            have hor := Lib.hid hor0; clear hor0
            by_cases hk0 : (0 : Int) < k
            · have hb3 : ((c.toNat : Int) == 0) = false := by simp; omega
              by_cases hc8 : (c.toNat : Int) < 128
              · rw [if_pos (show c.toNat < 128 by omega)] at hst
                have hzz := hz.out.symm.trans (readU_of (hsc.out.trans hst))
                clear hst
                subst hzz
                go_wp2_with fail
                refine wp_region_gate_draws [0,1,2,3,4,5,6,7,8,9,10,11] [] (by kernel_rfl) (by kernel_rfl) ?_
                simp only [regPick, List.getElem?_cons_succ, List.getElem?_cons_zero]
                repeat go_big_quiet_step (fail)
                refine wpQuiet_nil ?_
                rintro _ ⟨nq, rfl⟩
                go_wp2_with fail
                refine wp_region_gate_draws [0,1,2,3,4,5,6,7,8,9,10,11] [] (by kernel_rfl) (by kernel_rfl) ?_
                simp only [regPick, List.getElem?_cons_succ, List.getElem?_cons_zero]
                repeat go_big_quiet_step (fail)
                refine wpQuiet_nil ?_
                rintro _ ⟨nq, rfl⟩
                go_wp2_with fail
                go_ret
                exact ⟨congrArg (fun i => Ending.returned (.int .u64 i)) hor.out, (hRr.drewN _).set1' (by omega), (hOr.drewN _).setCell _ _⟩
              · rw [if_neg (show ¬ c.toNat < 128 by omega)] at hst
                go_wp2_with fail
                refine wp_region_gate_draws [0,1,2,3,4,5,6,7,8,9,10,11] [] (by kernel_rfl) (by kernel_rfl) ?_
                simp only [regPick, List.getElem?_cons_succ, List.getElem?_cons_zero]
                repeat go_big_quiet_step (fail)
                refine wpQuiet_nil ?_
                rintro _ ⟨nq, rfl⟩
                go_wp2_with fail
                refine wp_region_gate_draws [0,1,2,3,4,5,6,7,8,9,10,11] [] (by kernel_rfl) (by kernel_rfl) ?_
                simp only [regPick, List.getElem?_cons_succ, List.getElem?_cons_zero]
                repeat go_big_quiet_step (fail)
                refine wpQuiet_nil ?_
                rintro _ ⟨nq, rfl⟩
                go_wp2_with fail
                go_roundw
                case rel => exact ⟨k + 1, _, by go_num, by rw [hor.out], by omega, by omega, by rw [← hV.out]; exact or_shift_bd hU, hRr.drewN _, hOr.drewN _, hsc.out.trans hst⟩
                case measure => simp [intOf]; omega
            · clear hb
              by_cases hc8 : (c.toNat : Int) < 128
              · rw [if_pos (show c.toNat < 128 by omega)] at hst
                have hzz := hz.out.symm.trans (readU_of (hsc.out.trans hst))
                clear hst
                subst hzz
                go_wp2_with fail
                refine wp_region_gate_draws [0,1,2,3,4,5,6,7,8,9,10,11] [] (by kernel_rfl) (by kernel_rfl) ?_
                simp only [regPick, List.getElem?_cons_succ, List.getElem?_cons_zero]
                repeat go_big_quiet_step (fail)
                refine wpQuiet_nil ?_
                rintro _ ⟨nq, rfl⟩
                go_wp2_with fail
                refine wp_region_gate_draws [0,1,2,3,4,5,6,7,8,9,10,11] [] (by kernel_rfl) (by kernel_rfl) ?_
                simp only [regPick, List.getElem?_cons_succ, List.getElem?_cons_zero]
                repeat go_big_quiet_step (fail)
                refine wpQuiet_nil ?_
                rintro _ ⟨nq, rfl⟩
                go_wp2_with fail
                go_ret
                exact ⟨congrArg (fun i => Ending.returned (.int .u64 i)) hor.out, (hRr.drewN _).set1' (by omega), (hOr.drewN _).setCell _ _⟩
              · rw [if_neg (show ¬ c.toNat < 128 by omega)] at hst
                go_wp2_with fail
                refine wp_region_gate_draws [0,1,2,3,4,5,6,7,8,9,10,11] [] (by kernel_rfl) (by kernel_rfl) ?_
                simp only [regPick, List.getElem?_cons_succ, List.getElem?_cons_zero]
                repeat go_big_quiet_step (fail)
                refine wpQuiet_nil ?_
                rintro _ ⟨nq, rfl⟩
                go_wp2_with fail
                refine wp_region_gate_draws [0,1,2,3,4,5,6,7,8,9,10,11] [] (by kernel_rfl) (by kernel_rfl) ?_
                simp only [regPick, List.getElem?_cons_succ, List.getElem?_cons_zero]
                repeat go_big_quiet_step (fail)
                refine wpQuiet_nil ?_
                rintro _ ⟨nq, rfl⟩
                go_wp2_with fail
                go_roundw
                case rel => exact ⟨k + 1, _, by go_num, by rw [hor.out], by omega, by omega, by rw [← hV.out]; exact or_shift_bd hU, hRr.drewN _, hOr.drewN _, hsc.out.trans hst⟩
                case measure => simp [intOf]; omega
      · have hst := scan_stop (U := U) (l := s.data.toList) (p := p) (k := k) (by rw [size_list]; omega)
        have hzz := hz.out.symm.trans (readU_of (hsc.out.trans hst))
        clear hst
        subst hzz
        go_wp2_with fail
        refine wp_region_gate_draws [0,1,2,3,4,5,6,7,8,9,10,11] [] (by kernel_rfl) (by kernel_rfl) ?_
        simp only [regPick, List.getElem?_cons_succ, List.getElem?_cons_zero]
        repeat go_big_quiet_step (fail)
        refine wpQuiet_nil ?_
        rintro _ ⟨nq, rfl⟩
        go_wp2_with (go_at_call 48; refine (rFail_any _ _ _ _ 2 _ (hRr.drewN _)).mono ?_; rintro e w2 ⟨rfl, hr2, ho2⟩)
        go_ret
        exact ⟨rfl, hr2, (hOr.drewN _).trans ho2⟩
  · have hrd : readU s.data.toList p err = (0, p, err) := by simp [readU, he]
    have hb : (err == 0) = false := by simp [he]
    have hc2 := hR.cell2
    rw [hrd]
    go_enter Try.func28, Try.ntmps28
    go_wp2_with fail
    go_loopw [3, 4] (fun t i wr => i = .int .i64 0 ∧ t = .int .u64 0 ∧ wr = w) (fun _ i _ => 0)
    case atStart => exact ⟨rfl, rfl, rfl⟩
    case round =>
      obtain ⟨rfl, rfl, rfl⟩ := hrel
      go_wp2_with fail
      go_ret
      exact ⟨rfl, hR, Only.refl _ _⟩
end Go.Proofs.Ythkcifdjfoggeaa
