/- The reference's writing of spans, walked. -/
import Derived.Test.YthkcifdjfoggeaaVintY
set_option maxRecDepth 100000
set_option maxHeartbeats 400000
namespace Go.Proofs.Ythkcifdjfoggeaa
open Go.RowKit Go.BigFrame Go.Vint

theorem refSpans_any (A : Option Addr) (c : Nat) (L : List (Int × Int)) (w : World) (hr : ReadsS w A c L) (hL : Rises (flat L)) (hlL : L.length ≤ 1000) :
    Calls Try.prog 34 #[.slice A L.length c] w fun e w' => e = .returned (.string (bs (spansB L))) ∧ Ext w w' := by
  have hlen : (uintB L.length).length ≤ 10 := uintB_le (u := (L.length : Int)) (by omega)
  have HG := Lib.hid (gaps_bd hL)
  have HL := Lib.hid hL; clear hL
  have HR := Lib.hid hr; clear hr
  go_enter Try.func34, Try.ntmps34
  go_wp2_with (go_at_call 30; refine (refUint_any _ _ (by omega) (by omega)).mono ?_; rintro e w1 ⟨rfl, x, rfl⟩; rw [Int.toNat_natCast])
  go_loopw [3, 13] (fun s t wr => ∃ (k : Nat) (l : List UInt8), t = .int .i64 k ∧ k ≤ L.length ∧ Ext w wr ∧ s = .string (bs l) ∧ Hid (l = uintB L.length ++ numsB ((gaps (flat L)).take (k * 2)))) (fun _ t _ => L.length - (intOf t).toNat)
  case atStart => exact ⟨0, _, rfl, by omega, ⟨x, rfl⟩, rfl, by simp [Hid, numsB]⟩
  case round =>
    obtain ⟨k, l, rfl, hk, hE, rfl, hl⟩ := hrel
    by_cases hlt : k < L.length
    · have hll : l.length ≤ 20010 := by
        have := numsB_len ((gaps (flat L)).take (k * 2)) (fun x hx => HG.out x (List.mem_of_mem_take hx))
        have h2 : ((gaps (flat L)).take (k * 2)).length ≤ k * 2 := List.length_take_le _ _
        rw [hl.out, List.length_append]; omega
      have hR : ReadsS wr A c L := HR.out.ext hE
      obtain ⟨bk, ok, x, rfl, hbk, hx, hcx, hcy⟩ := hR.at_ hlt
      obtain ⟨x1, x2⟩ := x
      have hxb := flat_at HL.out hx
      simp only at hcx hcy hxb
      have Hx := Lib.hid hx; clear hx
      have HR1 := Lib.hid hR; clear hR
      have HE := Lib.hid hE; clear hE
      rcases k with _ | k
      · obtain ⟨m1, hm1⟩ : ∃ m, Hid (uintB x1.toNat = m) := ⟨_, rfl⟩
        obtain ⟨m2, hm2⟩ : ∃ m, Hid (uintB (x2 - x1 - 1).toNat = m) := ⟨_, rfl⟩
        have hl1 : m1.length ≤ 10 := by rw [← hm1.out]; exact uintB_le (by omega)
        have hl2 : m2.length ≤ 10 := by rw [← hm2.out]; exact uintB_le (by omega)
        have hnext : Hid (l ++ (m1 ++ m2) = uintB L.length ++ numsB ((gaps (flat L)).take ((0 + 1) * 2))) := by
          unfold Hid; rw [spans_zero Hx.out, hl.out, ← hm1.out, ← hm2.out, List.append_assoc]
        simp only [Nat.zero_mul, Nat.add_zero] at hcx hcy
        go_wp2_with fail
        refine wp_region_more [0,1,2,3,4,5,6,7,8,9,10,11,12] (by kernel_rfl) (by kernel_rfl) ?_
        simp only [regPick, List.getElem?_cons_succ, List.getElem?_cons_zero]
        repeat go_big_quiet_step ((go_at_call 30; first | exact Calls.quiet_more (refUint_eq _ _ _ hm1 (by omega) (by omega)) | exact Calls.quiet_more (refUint_eq _ _ _ hm2 (by omega) (by omega))))
        refine wpQuiet_nil ?_
        intro y
        go_wp2_with fail
        go_roundw
        case rel => exact ⟨0 + 1, _, by go_num, by omega, (HE.out.alloc _).more y, by rw [bs_append, bs_append], hnext⟩
        case measure => simp [intOf]; omega
      · obtain ⟨bk', ok', y, hA, _, hy, hcx', hcy'⟩ := HR1.out.at_ (k := k) (by omega)
        injection hA with hA
        injection hA with hA1 hA2
        subst hA1 hA2
        obtain ⟨y1, y2⟩ := y
        have hxy := flat_next HL.out hy Hx.out
        have hyb := flat_at HL.out hy
        simp only at hcx' hcy' hxy hyb
        obtain ⟨m1, hm1⟩ : ∃ m, Hid (uintB (x1 - y2 - 1).toNat = m) := ⟨_, rfl⟩
        obtain ⟨m2, hm2⟩ : ∃ m, Hid (uintB (x2 - x1 - 1).toNat = m) := ⟨_, rfl⟩
        have hl1 : m1.length ≤ 10 := by rw [← hm1.out]; exact uintB_le (by omega)
        have hl2 : m2.length ≤ 10 := by rw [← hm2.out]; exact uintB_le (by omega)
        have hnext : Hid (l ++ (m1 ++ m2) = uintB L.length ++ numsB ((gaps (flat L)).take ((k + 1 + 1) * 2))) := by
          unfold Hid; rw [spans_succ hy Hx.out, hl.out, ← hm1.out, ← hm2.out, List.append_assoc]
        clear hy
        go_wp2_with fail
        refine wp_region_gate_draws [0,1,2,3,4,5,6,7,8,9,10] [] (by kernel_rfl) (by kernel_rfl) ?_
        simp only [regPick, List.getElem?_cons_succ, List.getElem?_cons_zero]
        repeat go_big_quiet_step (fail)
        refine wpQuiet_nil ?_
        rintro _ ⟨nq, rfl⟩
        go_wp2_with fail
        refine wp_region_more [0,1,2,3,4,5,6,7,8,9,10,11,12] (by kernel_rfl) (by kernel_rfl) ?_
        simp only [regPick, List.getElem?_cons_succ, List.getElem?_cons_zero]
        repeat go_big_quiet_step ((go_at_call 30; first | exact Calls.quiet_more (refUint_eq _ _ _ hm1 (by omega) (by omega)) | exact Calls.quiet_more (refUint_eq _ _ _ hm2 (by omega) (by omega))))
        refine wpQuiet_nil ?_
        intro z
        go_wp2_with fail
        go_roundw
        case rel => exact ⟨k + 1 + 1, _, by go_num, by omega, (by repeat (first | exact HE.out | refine Ext.more ?_ _ | refine Ext.alloc ?_ _ | refine Ext.drewN ?_ _ | refine Ext.drew ?_)), by rw [bs_append, bs_append], hnext⟩
        case measure => simp [intOf]; omega
    · obtain rfl : k = L.length := by omega
      have hfin : Hid (l = spansB L) := by
        unfold Hid spansB
        rw [hl.out, List.take_of_length_le (by rw [gaps_length, flat_length]; omega)]
      go_wp2_with fail
      go_ret
      exact ⟨by rw [← hfin.out]; rfl, hE⟩

theorem etU64s : ElemType Try.prog 29 28 1 8 := elemType_mk (z := .int .u64 0) Try.underlying29 (by kernel_rfl) rfl (by omega)

theorem rising_any (A : Option Addr) (c : Nat) (L : List Int) (w : World) (hr : ReadsU w A c L) (hL : ∀ x ∈ L, 0 ≤ x ∧ x ≤ 18446744073709551615) (hlL : L.length ≤ 9223372036854775807) :
    Calls Try.prog 24 #[.slice A L.length c] w fun e w' => ∃ A' c', e = .returned (.slice A' (risingL L).length c') ∧ w'.ownsRow w.heap.size 28 1 (.slice A' (risingL L).length c') (risingL L).length (u64Cells (risingL L)) ∧ Ext w w' := by
  have HL := Lib.hid hL; clear hL
  have HR := Lib.hid hr; clear hr
  go_enter Try.func24, Try.ntmps24
  go_wp2_with fail
  go_loopw [3, 4] (fun s t wr => ∃ (k : Nat) (out : List Int) (n : Nat) (A' : Option Addr) (c' : Nat), t = .int .i64 k ∧ s = .slice A' n c' ∧ k ≤ L.length ∧ k ≤ 20 ∧ n ≤ k ∧ Hid (out.length = n) ∧
    Hid (wr.ownsRow w.heap.size 28 1 (.slice A' n c') n (u64Cells out)) ∧ Ext w wr ∧ Hid (out = (L.take k).foldl riseStep [])) (fun _ t _ => L.length - (intOf t).toNat)
  case atStart => exact ⟨0, [], 0, _, _, rfl, rfl, by omega, by omega, by simp, rfl, World.ownsRow_made w #[] 0 (Nat.le_refl _) (by unfold maxLen; omega) rfl, (Ext.refl _).alloc _, rfl⟩
  case round =>
    obtain ⟨k, out, n, A', c', rfl, rfl, hk, hk20, hok, hn, hown, hE, hout⟩ := hrel
    by_cases hlt : k < L.length ∧ k < 20
    · obtain ⟨hlt, hlt20⟩ := hlt
      have hR : ReadsU wr A c L := HR.out.ext hE
      obtain ⟨bk, ok, x, rfl, hbk, hx, hcx⟩ := hR.at_ hlt
      have hxb := HL.out x (List.mem_of_getElem? hx)
      have hnext : Hid ((L.take (k + 1)).foldl riseStep [] = riseStep out x) := by unfold Hid; rw [risingL_snoc hx hlt20, hout.out]
      clear hx
      have HR1 := Lib.hid hR; clear hR
      have HE := Lib.hid hE; clear hE
      rcases n with _ | m
      · have hst : Hid (riseStep out x = [x]) := by
          have : out = [] := List.eq_nil_of_length_eq_zero hn.out
          unfold Hid riseStep; simp [this]
        have hout0 : Hid (u64Cells out = []) := by
          have : out = [] := List.eq_nil_of_length_eq_zero hn.out
          unfold Hid; rw [this]; rfl
        go_wp2_with fail
        refine wp_region_gate_draws [0,1,2,3,4,5,6,7,8,9,10,11,12,13,14,15] [] (by kernel_rfl) (by kernel_rfl) ?_
        simp only [regPick, List.getElem?_cons_succ, List.getElem?_cons_zero]
        repeat go_big_quiet_step (fail)
        refine wpQuiet_nil ?_
        rintro _ ⟨nq, rfl⟩
        go_wp2_with (at_builtin; refine wpList_append_reads _ rfl (.tmp 32) (.tmp 37) rfl etU64s (v := .slice A' 0 c') rfl (ownsRow_ext hown.out ?e1) rfl (Reads.fresh_ext (W := wr) 1 1 28 [.int .u64 x] rfl ?e2) ?c1 ?c2 ?c3 ?c4 (fun A2 c2 w2 hown2 hg2 hat2 => ?_))
        case e1 => (repeat (first | exact HE.out | exact Ext.refl _ | exact Ext.alloc_drewN _ _ _ | exact Ext.alloc_drew _ _ | refine Ext.more ?_ _ | refine Ext.alloc ?_ _ | refine Ext.drewN ?_ _ | refine Ext.drew ?_))
        case e2 => (repeat (first | exact HE.out | exact Ext.refl _ | exact Ext.alloc_drewN _ _ _ | exact Ext.alloc_drew _ _ | refine Ext.more ?_ _ | refine Ext.alloc ?_ _ | refine Ext.drewN ?_ _ | refine Ext.drew ?_))
        case c1 => simp [Value.oneCell']
        case c2 => omega
        case c3 => unfold maxLen; omega
        case c4 => have := HE.out.size; simp; omega
        have hE2 : Ext w w2 := Ext.owned (by (repeat (first | exact HE.out | exact Ext.refl _ | exact Ext.alloc_drewN _ _ _ | exact Ext.alloc_drew _ _ | refine Ext.more ?_ _ | refine Ext.alloc ?_ _ | refine Ext.drewN ?_ _ | refine Ext.drew ?_))) hown.out hg2 (Nat.le_refl _)
        go_roundw
        case rel => exact ⟨k + 1, [x], 1, A2, c2, by go_num, rfl, by omega, by omega, by omega, rfl, by rw [hout0.out] at hown2; exact hown2, hE2, by rw [hnext.out, hst.out]; rfl⟩
        case measure => simp [intOf]; omega
      · obtain ⟨bo, oo, z, rfl, hbo, hoz, hco⟩ : ∃ bo oo z, A' = some ⟨bo, oo, none⟩ ∧ bo < wr.heap.size ∧ Hid (out[m]? = some z) ∧ wr.cell? ⟨bo, oo + m, none⟩ = some (.int .u64 z) := by
          obtain ⟨_, A1, c1, hv, _, h2⟩ := Reads.of_own hown.out
          injection hv with h1 _ _
          subst h1
          obtain ⟨bo, oo, rfl, hbo, h3⟩ := h2 (by omega)
          have hz : out[m]? = some (out[m]'(by have := hn.out; omega)) := List.getElem?_eq_getElem _
          exact ⟨bo, oo, _, rfl, hbo, hz, h3 _ _ (u64Cells_get hz)⟩
        have hlast : Hid (out.getLast? = some z) := by
          unfold Hid; rw [List.getLast?_eq_getElem?, ← hoz.out]; congr 1; have := hn.out; omega
        have hnn : Hid (out ≠ []) := by unfold Hid; intro h0; have := hn.out; rw [h0] at this; simp at this
        have hne : ((m : Int) + 1 == 0) = false := by rw [beq_eq_false_iff_ne]; omega
        by_cases hzx : z < x
        · have hst : Hid (riseStep out x = out ++ [x]) := by unfold Hid riseStep; rw [hlast.out]; simp [hzx]
          go_wp2_with fail
          refine wp_region_gate_draws [0,1,2,3,4,5,6,7,8,9,10,11,12,13,14,15] [] (by kernel_rfl) (by kernel_rfl) ?_
          simp only [regPick, List.getElem?_cons_succ, List.getElem?_cons_zero]
          repeat go_big_quiet_step (fail)
          refine wpQuiet_nil ?_
          rintro _ ⟨nq, rfl⟩
          go_wp2_with (at_builtin; refine wpList_append_reads _ rfl (.tmp 32) (.tmp 37) rfl etU64s (v := .slice (some ⟨bo, oo, none⟩) (m + 1) c') rfl (ownsRow_ext hown.out ?e1) rfl (Reads.fresh_ext (W := wr) 1 1 28 [.int .u64 x] rfl ?e2) ?c1 ?c2 ?c3 ?c4 (fun A2 c2 w2 hown2 hg2 hat2 => ?_))
          case e1 => (repeat (first | exact HE.out | exact Ext.refl _ | exact Ext.alloc_drewN _ _ _ | exact Ext.alloc_drew _ _ | refine Ext.more ?_ _ | refine Ext.alloc ?_ _ | refine Ext.drewN ?_ _ | refine Ext.drew ?_))
          case e2 => (repeat (first | exact HE.out | exact Ext.refl _ | exact Ext.alloc_drewN _ _ _ | exact Ext.alloc_drew _ _ | refine Ext.more ?_ _ | refine Ext.alloc ?_ _ | refine Ext.drewN ?_ _ | refine Ext.drew ?_))
          case c1 => simp [Value.oneCell']
          case c2 => omega
          case c3 => unfold maxLen; omega
          case c4 => have := HE.out.size; simp; omega
          have hE2 : Ext w w2 := Ext.owned (by (repeat (first | exact HE.out | exact Ext.refl _ | exact Ext.alloc_drewN _ _ _ | exact Ext.alloc_drew _ _ | refine Ext.more ?_ _ | refine Ext.alloc ?_ _ | refine Ext.drewN ?_ _ | refine Ext.drew ?_))) hown.out hg2 (Nat.le_refl _)
          go_roundw
          case rel => exact ⟨k + 1, out ++ [x], m + 1 + 1, A2, c2, by go_num, rfl, by omega, by omega, by omega, by rw [List.length_append, hn.out]; rfl, by simpa [Hid, u64Cells] using hown2, hE2, by rw [hnext.out, hst.out]; rfl⟩
          case measure => simp [intOf]; omega
        · have hst : Hid (riseStep out x = out) := by unfold Hid riseStep; rw [hlast.out]; simp [hzx, hnn.out]
          go_wp2_with fail
          refine wp_region_gate_draws [0,1,2,3,4,5,6,7,8,9,10,11,12,13,14,15] [] (by kernel_rfl) (by kernel_rfl) ?_
          simp only [regPick, List.getElem?_cons_succ, List.getElem?_cons_zero]
          repeat go_big_quiet_step (fail)
          refine wpQuiet_nil ?_
          rintro _ ⟨nq, rfl⟩
          go_wp2_with fail
          go_roundw
          case rel => exact ⟨k + 1, out, m + 1, _, c', by go_num, rfl, by omega, by omega, by omega, hn, ownsRow_ext hown.out ((Ext.refl _).drewN nq), HE.out.drewN nq, by rw [hnext.out, hst.out]; rfl⟩
          case measure => simp [intOf]; omega
    · have hfin : Hid (out = risingL L) := by
        unfold Hid risingL
        rw [hout.out]
        rcases Nat.lt_or_ge k 20 with h | h
        · have : k = L.length := by omega
          subst this
          rw [List.take_of_length_le (by omega), List.take_of_length_le (by omega)]
        · have : k = 20 := by omega
          subst this; rfl
      have hfn : Hid (n = (risingL L).length) := by unfold Hid; rw [← hfin.out, hn.out]
      rcases Nat.lt_or_ge k L.length with h1 | h1
      all_goals
        go_wp2_with fail
        go_ret
        refine ⟨A', c', by rw [← hfn.out]; rfl, by rw [← hfn.out, ← hfin.out]; exact hown.out, hE⟩
end Go.Proofs.Ythkcifdjfoggeaa
