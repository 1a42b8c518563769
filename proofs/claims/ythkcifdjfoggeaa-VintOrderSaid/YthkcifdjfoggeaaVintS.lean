/- The law's spans, and what is told of them, walked. -/
import Derived.Test.YthkcifdjfoggeaaVintZ
set_option maxRecDepth 100000
set_option maxHeartbeats 400000
namespace Go.Proofs.Ythkcifdjfoggeaa
open Go.RowKit Go.BigFrame Go.Vint

theorem etSpans : ElemType Try.prog 43 46 2 16 := elemType_mk (z := .agg #[.int .u64 0, .int .u64 0]) Try.underlying43 (by kernel_rfl) rfl (by omega)
theorem etRSpans : ElemType Try.prog 49 51 2 16 := elemType_mk (z := .agg #[.int .u64 0, .int .u64 0]) Try.underlying49 (by kernel_rfl) rfl (by omega)

theorem spans_any (A : Option Addr) (c : Nat) (L : List Int) (w : World) (hr : ReadsU w A c L) (hL : ∀ x ∈ L, 0 ≤ x ∧ x ≤ 18446744073709551615) (hlL : L.length ≤ 9223372036854775807) :
    Calls Try.prog 20 #[.slice A L.length c] w fun e w' => ∃ A' c', e = .returned (.slice A' (spansL L).length c') ∧ w'.ownsRow w.heap.size 46 2 (.slice A' (spansL L).length c') (spansL L).length (u64Cells (flat (spansL L))) ∧ Ext w w' := by
  have HL := Lib.hid hL
  go_enter Try.func20, Try.ntmps20
  go_wp2_with (go_at_call 24; refine (rising_any _ _ L _ hr hL hlL).mono ?_; rintro e w1 ⟨A1, c1, rfl, hown1, hE1⟩; obtain ⟨n1, hn1⟩ : ∃ n, Hid ((risingL L).length = n) := ⟨_, rfl⟩; rw [hn1.out] at hown1 ⊢)
  have hR1 : Hid (Reads w1 1 (.slice A1 n1 c1) n1 (u64Cells (risingL L))) := Reads.of_own hown1
  clear hown1
  have HE0 := Lib.hid hE1
  have h20 : n1 ≤ 20 := by rw [← hn1.out]; exact risingL_len L
  go_loopw [3, 4] (fun s t wr => ∃ (k : Nat) (n : Nat) (A' : Option Addr) (c' : Nat), t = .int .i64 ↑(2 * k) ∧ s = .slice A' n c' ∧ n = k ∧ 2 * k ≤ n1 ∧
    Hid (wr.ownsRow w1.heap.size 46 2 (.slice A' n c') n (u64Cells (flat ((spansL L).take k)))) ∧ Hid (Ext w1 wr)) (fun _ t _ => 20 - (intOf t).toNat)
  case atStart => exact ⟨0, 0, _, _, rfl, rfl, rfl, by omega, World.ownsRow_made w1 #[] 0 (Nat.le_refl _) (by unfold maxLen; omega) rfl, (Ext.refl _).alloc _⟩
  case round =>
    obtain ⟨k, n, A', c', rfl, rfl, rfl, hk, hown, hE⟩ := hrel
    have HE := hE
    by_cases hlt : 2 * n + 1 < n1
    · have hR := hR1.out.ext hE.out
      obtain ⟨h1, A2, c2, hv, _, h2⟩ := hR
      injection hv with h3 _ h4
      subst h3 h4
      obtain ⟨b1, o1, rfl, hb1, hcl⟩ := h2 (by omega)
      clear h2
      have hl1 : n1 = (risingL L).length := hn1.out.symm
      have hx : (risingL L)[2 * n]? = some ((risingL L)[2 * n]'(by omega)) := List.getElem?_eq_getElem _
      have hy : (risingL L)[2 * n + 1]? = some ((risingL L)[2 * n + 1]'(by omega)) := List.getElem?_eq_getElem _
      have hcx := hcl _ _ (u64Cells_get hx)
      have hcy := hcl _ _ (u64Cells_get hy)
      generalize (risingL L)[2 * n]'_ = x at hx hcx
      generalize (risingL L)[2 * n + 1]'_ = y at hy hcy
      have hsn : Hid ((spansL L).take (n + 1) = (spansL L).take n ++ [(x, y)]) := by
        unfold Hid spansL; rw [List.take_add_one, pairs_get _ hx hy]; rfl
      clear hcl hx hy h1 hl1
      go_wp2_with fail
      refine wp_region_mix_draws [0] [1,2,3,4,5,6,7,8,9,10] [11,12,13] (by kernel_rfl) (by kernel_rfl) ?_
      simp only [regPick, List.getElem?_cons_succ, List.getElem?_cons_zero]
      repeat go_big_quiet_step (fail)
      refine wpQuiet_nil ?_
      repeat go_big_quiet_step (fail)
      refine wpQuiet_nil ?_
      rintro _ ⟨nq, rfl⟩
      go_wp2_with (at_builtin; refine wpList_append_reads _ rfl (.tmp 15) (.tmp 26) rfl etSpans (v := (.slice A' n c')) rfl (ownsRow_ext hown.out ?e12) rfl (Reads.fresh_at (W := wr) 2 1 46 [.int .u64 x, .int .u64 y] rfl ?e22 ?e32) ?c12 ?c22 ?c32 ?c42 (fun A2 c2 w2 hown2 hg2 hat2 => ?_))
      case e12 => (repeat (first | exact HE.out | exact Ext.refl _ | exact Ext.alloc_drewN _ _ _ | exact Ext.alloc_drew _ _ | refine Ext.more ?_ _ | refine Ext.alloc ?_ _ | refine Ext.drewN ?_ _ | refine Ext.drew ?_))
      case e22 => (repeat (first | exact HE.out | exact Ext.refl _ | exact Ext.alloc_drewN _ _ _ | exact Ext.alloc_drew _ _ | refine Ext.more ?_ _ | refine Ext.alloc ?_ _ | refine Ext.drewN ?_ _ | refine Ext.drew ?_))
      case e32 => first | rfl | simp
      case c12 => simp [Value.oneCell']
      case c22 => omega
      case c32 => unfold maxLen; omega
      case c42 => exact Ext.size (by (repeat (first | exact HE.out | exact Ext.refl _ | exact Ext.alloc_drewN _ _ _ | exact Ext.alloc_drew _ _ | refine Ext.more ?_ _ | refine Ext.alloc ?_ _ | refine Ext.drewN ?_ _ | refine Ext.drew ?_)))
      have hE2 : Ext w1 w2 := Ext.owned (by (repeat (first | exact HE.out | exact Ext.refl _ | exact Ext.alloc_drewN _ _ _ | exact Ext.alloc_drew _ _ | refine Ext.more ?_ _ | refine Ext.alloc ?_ _ | refine Ext.drewN ?_ _ | refine Ext.drew ?_))) hown.out hg2 (Nat.le_refl _)
      go_roundw
      case rel => exact ⟨n + 1, n + 1, A2, c2, by go_num, rfl, rfl, by omega, by rw [hsn.out, flat_snoc]; exact hown2, hE2⟩
      case measure => simp [intOf]; omega
    · go_wp2_with fail
      go_ret
      have hn : n = n1 / 2 := by omega
      have hf : Hid ((spansL L).length = n) := by unfold Hid spansL; rw [pairs_length, hn1.out]; exact hn.symm
      refine ⟨A', c', by rw [hf.out]; rfl, ?_, HE0.out.trans HE.out⟩
      have := ownsRow_base hown.out (HE0.out.size)
      rwa [List.take_of_length_le (by rw [hf.out]; omega), ← hf.out] at this

theorem told_any (A : Option Addr) (c : Nat) (L : List (Int × Int)) (w : World) (hr : ReadsS w A c L) (hlL : L.length ≤ 1000) :
    Calls Try.prog 21 #[.slice A L.length c] w fun e w' => ∃ A' c', e = .returned (.slice A' L.length c') ∧ w'.ownsRow w.heap.size 51 2 (.slice A' L.length c') L.length (u64Cells (flat L)) ∧ Ext w w' := by
  have HR := Lib.hid hr; clear hr
  go_enter Try.func21, Try.ntmps21
  go_wp2_with fail
  go_loopw [3, 9] (fun s t wr => ∃ (k n : Nat) (A' : Option Addr) (c' : Nat), t = .int .i64 k ∧ s = .slice A' n c' ∧ n = k ∧ k ≤ L.length ∧
    Hid (wr.ownsRow w.heap.size 51 2 (.slice A' n c') n (u64Cells (flat (L.take k)))) ∧ Hid (Ext w wr)) (fun _ t _ => L.length - (intOf t).toNat)
  case atStart => exact ⟨0, 0, _, _, rfl, rfl, rfl, by omega, World.ownsRow_made w #[] 0 (Nat.le_refl _) (by unfold maxLen; omega) rfl, (Ext.refl _).alloc _⟩
  case round =>
    obtain ⟨k, n, A', c', rfl, rfl, rfl, hk, hown, HE⟩ := hrel
    by_cases hlt : n < L.length
    · have hR : ReadsS wr A c L := HR.out.ext HE.out
      obtain ⟨bk, ok, x, rfl, hbk, hx, hcx, hcy⟩ := hR.at_ hlt
      obtain ⟨x1, x2⟩ := x
      simp only at hcx hcy
      have hsn : Hid (L.take (n + 1) = L.take n ++ [(x1, x2)]) := by unfold Hid; rw [List.take_add_one, hx]; rfl
      clear hx hR
      go_wp2_with (at_builtin; refine wpList_append_reads _ rfl (.tmp 13) (.tmp 15) rfl etRSpans (v := (.slice A' n c')) rfl (ownsRow_ext hown.out ?e12) rfl (Reads.fresh_at (W := (wr.alloc (.cells #[.int .u64 x1, .int .u64 x2] 46))) 2 1 51 [.int .u64 x1, .int .u64 x2] rfl ?e22 ?e32) ?c12 ?c22 ?c32 ?c42 (fun A2 c2 w2 hown2 hg2 hat2 => ?_))
      case e12 => (repeat (first | exact HE.out | exact Ext.refl _ | exact Ext.alloc_drewN _ _ _ | exact Ext.alloc_drew _ _ | refine Ext.more ?_ _ | refine Ext.alloc ?_ _ | refine Ext.drewN ?_ _ | refine Ext.drew ?_))
      case e22 => (repeat (first | exact HE.out | exact Ext.refl _ | exact Ext.alloc_drewN _ _ _ | exact Ext.alloc_drew _ _ | refine Ext.more ?_ _ | refine Ext.alloc ?_ _ | refine Ext.drewN ?_ _ | refine Ext.drew ?_))
      case e32 => first | rfl | simp
      case c12 => simp [Value.oneCell']
      case c22 => omega
      case c32 => unfold maxLen; omega
      case c42 => exact Ext.size (by (repeat (first | exact HE.out | exact Ext.refl _ | exact Ext.alloc_drewN _ _ _ | exact Ext.alloc_drew _ _ | refine Ext.more ?_ _ | refine Ext.alloc ?_ _ | refine Ext.drewN ?_ _ | refine Ext.drew ?_)))
      have hE2 : Ext w w2 := Ext.owned (by (repeat (first | exact HE.out | exact Ext.refl _ | exact Ext.alloc_drewN _ _ _ | exact Ext.alloc_drew _ _ | refine Ext.more ?_ _ | refine Ext.alloc ?_ _ | refine Ext.drewN ?_ _ | refine Ext.drew ?_))) hown.out hg2 (Nat.le_refl _)
      go_roundw
      case rel => exact ⟨n + 1, n + 1, A2, c2, by go_num, rfl, rfl, by omega, by rw [hsn.out, flat_snoc]; exact hown2, hE2⟩
      case measure => simp [intOf]; omega
    · obtain rfl : n = L.length := by omega
      go_wp2_with fail
      go_ret
      refine ⟨A', c', rfl, ?_, HE.out⟩
      have := hown.out
      rwa [List.take_of_length_le (Nat.le_refl _)] at this
end Go.Proofs.Ythkcifdjfoggeaa
