/- The references' writings of lists, walked. -/
import Derived.Test.YthkcifdjfoggeaaVintX
set_option maxRecDepth 100000
set_option maxHeartbeats 400000
namespace Go.Proofs.Ythkcifdjfoggeaa
open Go.RowKit Go.BigFrame Go.Vint

theorem refRising_any (A : Option Addr) (c : Nat) (L : List Int) (w : World) (hr : ReadsU w A c L) (hL : Rises L) (hlL : L.length ≤ 1000) :
    Calls Try.prog 32 #[.slice A L.length c] w fun e w' => e = .returned (.string (bs (risingB L))) ∧ Ext w w' := by
  have hlen : (uintB L.length).length ≤ 10 := uintB_le (u := (L.length : Int)) (by omega)
  have HG := Lib.hid (gaps_bd hL)
  have HL := Lib.hid hL; clear hL
  have HR := Lib.hid hr; clear hr
  go_enter Try.func32, Try.ntmps32
  go_wp2_with (go_at_call 30; refine (refUint_any _ _ (by omega) (by omega)).mono ?_; rintro e w1 ⟨rfl, x, rfl⟩; rw [Int.toNat_natCast])
  go_loopw [3, 12] (fun s t wr => ∃ (k : Nat) (l : List UInt8), t = .int .i64 k ∧ k ≤ L.length ∧ Ext w wr ∧ s = .string (bs l) ∧ Hid (l = uintB L.length ++ numsB ((gaps L).take k))) (fun _ t _ => L.length - (intOf t).toNat)
  case atStart => exact ⟨0, _, rfl, by omega, ⟨x, rfl⟩, rfl, by simp [Hid, numsB]⟩
  case round =>
    obtain ⟨k, l, rfl, hk, hE, rfl, hl⟩ := hrel
    by_cases hlt : k < L.length
    · have hll : l.length ≤ 10010 := by
        have := numsB_len ((gaps L).take k) (fun x hx => HG.out x (List.mem_of_mem_take hx))
        have h2 : ((gaps L).take k).length ≤ k := List.length_take_le _ _
        rw [hl.out, List.length_append]; omega
      have hR : ReadsU wr A c L := HR.out.ext hE
      obtain ⟨bk, ok, x, rfl, hbk, hx, hcx⟩ := hR.at_ hlt
      have hxb := HL.out.at_ hx
      have Hx := Lib.hid hx; clear hx
      have HR1 := Lib.hid hR; clear hR
      have HE := Lib.hid hE; clear hE
      rcases k with _ | k
      · have hnext : Hid (l ++ uintB x.toNat = uintB L.length ++ numsB ((gaps L).take (0 + 1))) := by
          unfold Hid; rw [numsB_snoc (gaps_zero Hx.out), hl.out, List.append_assoc]
        have hu := uintB_le hxb.2
        rw [Nat.add_zero] at hcx
        go_wp2_with (go_at_call 30; refine (refUint_any _ _ (by omega) (by omega)).mono ?_; rintro e w2 ⟨rfl, y, rfl⟩)
        go_roundw
        case rel => exact ⟨0 + 1, _, by go_num, by omega, HE.out.more y, by rw [bs_append], hnext⟩
        case measure => simp [intOf]; omega
      · obtain ⟨bk', ok', y, hA, _, hy, hcy⟩ := HR1.out.at_ (k := k) (by omega)
        injection hA with hA
        injection hA with hA1 hA2
        subst hA1 hA2
        have hyb := HL.out.at_ hy
        have hxy := HL.out.2 k y x hy Hx.out
        obtain ⟨m, hm⟩ : ∃ m, Hid (uintB (x - y - 1).toNat = m) := ⟨_, rfl⟩
        have hnext : Hid (l ++ m = uintB L.length ++ numsB ((gaps L).take (k + 1 + 1))) := by
          unfold Hid; rw [← hm.out, numsB_snoc (gaps_succ hy Hx.out), hl.out, List.append_assoc]
        have hu : m.length ≤ 10 := by rw [← hm.out]; exact uintB_le (by omega)
        clear hy
        go_wp2_with (go_at_call 30; refine (refUint_any _ _ (by omega) (by omega)).mono ?_; rw [hm.out]; rintro e w2 ⟨rfl, z, rfl⟩)
        go_roundw
        case rel => exact ⟨k + 1 + 1, _, by go_num, by omega, HE.out.more z, by rw [bs_append], hnext⟩
        case measure => simp [intOf]; omega
    · obtain rfl : k = L.length := by omega
      have hfin : Hid (l = risingB L) := by
        unfold Hid risingB
        rw [hl.out, List.take_of_length_le (by rw [gaps_length]; omega)]
      go_wp2_with fail
      go_ret
      exact ⟨by rw [← hfin.out]; rfl, hE⟩

theorem wSpans (A : Option Addr) (c : Nat) (L : List (Int × Int)) (w : World) (b : Nat) (v : Value) (base : Nat) (l : List UInt8) (hr : ReadsS w A c L) (hL : Rises (flat L)) (hlL : L.length ≤ 1000) (hfar : Far A b v.ownBlock)
    (hb : BufAt w 25 5 b v base l) (hbase : base ≤ w.heap.size) (hl : l.length ≤ 900000000) :
    Calls Try.prog 46 #[.pointer (some ⟨b, 0, none⟩), .slice A L.length c] w fun e w' => e = .returned (.tuple #[]) ∧ Wrote w w' 25 5 b v base (l ++ spansB L) := by
  have hlen : (uintB L.length).length ≤ 10 := uintB_le (u := (L.length : Int)) (by omega)
  have HG := Lib.hid (gaps_bd hL)
  have HL := Lib.hid hL; clear hL
  have HR := Lib.hid hr; clear hr
  have HF := Lib.hid hfar; clear hfar
  go_enter Try.func46, Try.ntmps46
  go_wp2_with (go_at_call 40; refine (wUint _ _ _ _ _ _ (by omega) (by omega) hb hbase (by omega)).mono ?_; rintro e w1 ⟨rfl, hW1⟩; rw [Int.toNat_natCast] at hW1)
  go_loopw [4, 14] (fun s t wr => ∃ (k : Nat) (e : Int), t = .int .i64 k ∧ s = .int .u64 e ∧ k ≤ L.length ∧ Hid (EndOf L k e) ∧ Wrote w wr 25 5 b v base (l ++ uintB L.length ++ numsB ((gaps (flat L)).take (k * 2)))) (fun _ t _ => L.length - (intOf t).toNat)
  case atStart => exact ⟨0, 0, rfl, rfl, by omega, .inl ⟨rfl, rfl⟩, by simpa [numsB] using hW1⟩
  case round =>
    obtain ⟨k, e, rfl, rfl, hk, hE, hW⟩ := hrel
    clear hW1
    by_cases hlt : k < L.length
    · have HW := Lib.hid hW; clear hW
      obtain ⟨v1, hb1, hn1, hr1⟩ := HW.out
      have hR : ReadsS wr A c L := HR.out.near hn1 HF.out
      have hsz := hn1.size
      have hll : (l ++ uintB L.length ++ numsB ((gaps (flat L)).take (k * 2))).length ≤ 950000000 := by
        have := numsB_len ((gaps (flat L)).take (k * 2)) (fun x hx => HG.out x (List.mem_of_mem_take hx))
        have h2 : ((gaps (flat L)).take (k * 2)).length ≤ k * 2 := List.length_take_le _ _
        simp only [List.length_append]; omega
      obtain ⟨bk, ok, x, rfl, hbk, hx, hcx, hcy⟩ := hR.at_ hlt
      obtain ⟨x1, x2⟩ := x
      have hxb := flat_at HL.out hx
      simp only at hcx hcy hxb
      have Hx := Lib.hid hx; clear hx
      have HR1 := Lib.hid hR; clear hR
      rcases k with _ | k
      · have hnext := Lib.hid (spans_zero Hx.out)
        simp only [Nat.zero_mul, Nat.add_zero] at hcx hcy
        go_wp2_with fail
        refine (wUint _ _ _ _ _ _ (by omega) (by omega) (hb1.ext ((Ext.refl _).alloc _)) (by simp; omega) (by omega)).mono ?_
        rintro e w2 ⟨rfl, v2, hb2, hn2, hr2⟩
        obtain ⟨hbx, hgb, hgv⟩ := hb1.boxed hn2 hr2
        have hq0 := cell_of_heap hbx 0
        have hq1 := cell_of_heap hbx 1
        simp at hq0 hq1
        have Hbx := Lib.hid hbx; clear hbx
        have hs2 := hn2.size
        simp only [World.size_alloc] at hs2
        have hll2 : (l ++ uintB L.length ++ numsB ((gaps (flat L)).take (0 * 2)) ++ uintB x1.toNat).length ≤ 960000000 := by
          have := uintB_le (u := x1) (by omega)
          rw [List.length_append]; omega
        go_wp2_with fail
        refine (wUint _ _ _ _ _ _ (by omega) (by omega) hb2 (by omega) (by omega)).mono ?_
        rintro e w3 ⟨rfl, hW3⟩
        have hWW := Wrote.step hn1 hr1 (Wrote.ext_left ((Ext.refl _).alloc _) (Wrote.step hn2 hr2 hW3))
        obtain ⟨v3, hb3, hn3, hr3⟩ := hW3
        have hz1 := cell_of_heap (hn3.heap_keep Hbx.out hgb hgv) 1
        simp at hz1
        go_wp2_with fail
        go_roundw
        case rel => exact ⟨0 + 1, x2, by go_num, rfl, by omega, .inr ⟨0, _, rfl, Hx.out, rfl⟩, by rw [hnext.out, ← List.append_assoc, ← List.append_assoc]; exact hWW⟩
        case measure => simp [intOf]; omega
      · obtain ⟨p, hp, he⟩ : ∃ p, L[k]? = some p ∧ e = p.2 := by
          rcases hE.out with ⟨h0, _⟩ | ⟨j, p, hj, hp, he⟩
          · omega
          · obtain rfl : j = k := by omega
            exact ⟨p, hp, he⟩
        have hpx := flat_next HL.out hp Hx.out
        have hpb := flat_at HL.out hp
        have hnext := Lib.hid (spans_succ hp Hx.out)
        rw [← he] at hnext hpx hpb
        clear hp he
        simp only at hpx
        go_wp2_with fail
        refine (wUint _ _ _ _ _ _ (by omega) (by omega) (hb1.ext ((Ext.refl _).alloc _)) (by simp; omega) (by omega)).mono ?_
        rintro e' w2 ⟨rfl, v2, hb2, hn2, hr2⟩
        obtain ⟨hbx, hgb, hgv⟩ := hb1.boxed hn2 hr2
        have hq0 := cell_of_heap hbx 0
        have hq1 := cell_of_heap hbx 1
        simp at hq0 hq1
        have Hbx := Lib.hid hbx; clear hbx
        have hs2 := hn2.size
        simp only [World.size_alloc] at hs2
        have hll2 : (l ++ uintB L.length ++ numsB ((gaps (flat L)).take ((k + 1) * 2)) ++ uintB (x1 - e - 1).toNat).length ≤ 960000000 := by
          have := uintB_le (u := x1 - e - 1) (by omega)
          rw [List.length_append]; omega
        go_wp2_with fail
        refine (wUint _ _ _ _ _ _ (by omega) (by omega) hb2 (by omega) (by omega)).mono ?_
        rintro e' w3 ⟨rfl, hW3⟩
        have hWW := Wrote.step hn1 hr1 (Wrote.ext_left ((Ext.refl _).alloc _) (Wrote.step hn2 hr2 hW3))
        obtain ⟨v3, hb3, hn3, hr3⟩ := hW3
        have hz1 := cell_of_heap (hn3.heap_keep Hbx.out hgb hgv) 1
        simp at hz1
        go_wp2_with fail
        go_roundw
        case rel => exact ⟨k + 1 + 1, x2, by go_num, rfl, by omega, .inr ⟨k + 1, _, rfl, Hx.out, rfl⟩, by rw [hnext.out, ← List.append_assoc, ← List.append_assoc]; exact hWW⟩
        case measure => simp [intOf]; omega
    · obtain rfl : k = L.length := by omega
      have hfin : Hid (l ++ uintB L.length ++ numsB ((gaps (flat L)).take (L.length * 2)) = l ++ spansB L) := by
        unfold Hid spansB
        rw [List.take_of_length_le (by rw [gaps_length, flat_length]; omega)]; simp
      go_wp2_with fail
      go_end0
      exact ⟨rfl, by rw [← hfin.out]; exact hW⟩
end Go.Proofs.Ythkcifdjfoggeaa
