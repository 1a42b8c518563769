/- The law's put, walked. -/
import Derived.Test.YthkcifdjfoggeaaVintS
set_option maxRecDepth 100000
set_option maxHeartbeats 400000
namespace Go.Proofs.Ythkcifdjfoggeaa
open Go.RowKit Go.BigFrame Go.Vint

/-- What is written for a thing. -/
def thingB (kind n u : Int) (s : List UInt8) (L : List Int) : List UInt8 :=
  if kind = 1 then uintB u.toNat else if kind = 2 then uintB (foldI n).toNat else if kind = 3 then textB (s.take 200)
  else if kind = 4 then risingB (risingL L) else if kind = 5 then spansB (spansL L) else []

theorem put_any (kind n u : Int) (s : ByteArray) (A : Option Addr) (c : Nat) (L : List Int) (w : World) (b : Nat) (v : Value) (base : Nat) (l : List UInt8)
    (hk1 : -9223372036854775808 ≤ kind) (hk2 : kind ≤ 9223372036854775807) (hn1 : -9223372036854775808 ≤ n) (hn2 : n ≤ 9223372036854775807) (hu1 : 0 ≤ u) (hu2 : u ≤ 18446744073709551615) (hs : s.size ≤ 9223372036854775807)
    (hr : ReadsU w A c L) (hL : ∀ x ∈ L, 0 ≤ x ∧ x ≤ 18446744073709551615) (hlL : L.length ≤ 9223372036854775807) (hfar : L ≠ [] → Far A b v.ownBlock)
    (hb : BufAt w 25 5 b v base l) (hbase : base ≤ w.heap.size) (hl : l.length ≤ 800000000) :
    Calls Try.prog 10 #[.pointer (some ⟨b, 0, none⟩), .agg #[.int .i64 kind, .int .i64 n, .int .u64 u, .string s, .slice A L.length c]] w
      fun e w' => e = .returned (.string (bs (thingB kind n u s.data.toList L))) ∧ Wrote w w' 25 5 b v base (l ++ thingB kind n u s.data.toList L) := by
  have hcs := cutS_size s 200
  have hcl := Lib.hid (cutS_list s 200)
  have hbl := hb.lt
  have hvl := Lib.hid (fun g (h : v.ownBlock = some g) => hb.row_lt h)
  have HF := Lib.hid hfar; clear hfar
  have HR := Lib.hid hr; clear hr
  have HL := Lib.hid hL; clear hL
  have HB := Lib.hid hb; clear hb
  by_cases h1 : kind = 1
  · subst h1
    have hB : Hid (thingB 1 n u s.data.toList L = uintB u.toNat) := by simp [Hid, thingB]
    go_enter Try.func10, Try.ntmps10
    go_wp2_with (go_at_call 13; refine (Cut_any _ _ _ hs (by omega) (by omega)).mono ?_; rintro e w1 ⟨rfl, rfl⟩)
    refine (wUint _ _ _ _ _ _ hu1 hu2 (HB.out.ext ((Ext.refl _).alloc _)) (by simp; omega) (by omega)).mono ?_
    rintro e w2 ⟨rfl, v2, hb2, hn2, hr2⟩
    obtain ⟨hbx, hgb, hgv⟩ := HB.out.boxed hn2 hr2
    have hq := cell_of_heap hbx 2
    simp at hq
    go_wp2_with (go_at_call 30; refine (refUint_any _ _ hu1 hu2).mono ?_; rintro e w3 ⟨rfl, x3, rfl⟩)
    go_ret
    exact ⟨by rw [hB.out]; rfl, by rw [hB.out]; exact (Wrote.ext_left ((Ext.refl _).alloc _) ⟨v2, hb2, hn2, hr2⟩).ext ⟨x3, rfl⟩⟩
  by_cases h2 : kind = 2
  · subst h2
    have hB : Hid (thingB 2 n u s.data.toList L = uintB (foldI n).toNat) := by simp [Hid, thingB]
    have hfb := foldI_bd hn1 hn2
    go_enter Try.func10, Try.ntmps10
    go_wp2_with (go_at_call 13; refine (Cut_any _ _ _ hs (by omega) (by omega)).mono ?_; rintro e w1 ⟨rfl, rfl⟩)
    refine (wInt _ _ _ _ _ _ hn1 hn2 (HB.out.ext ((Ext.refl _).alloc _)) (by simp; omega) (by omega)).mono ?_
    rintro e w2 ⟨rfl, v2, hb2, hn2, hr2⟩
    obtain ⟨hbx, hgb, hgv⟩ := HB.out.boxed hn2 hr2
    have hq := cell_of_heap hbx 1
    simp at hq
    go_wp2_with (first
      | (go_at_call 42; refine (fold_any _ _ (by omega) (by omega)).mono ?_; rintro e w3 ⟨rfl, rfl⟩)
      | (go_at_call 30; refine (refUint_any _ _ hfb.1 hfb.2).mono ?_; rintro e w3 ⟨rfl, x3, rfl⟩))
    go_ret
    exact ⟨by rw [hB.out]; rfl, by rw [hB.out]; exact (Wrote.ext_left ((Ext.refl _).alloc _) ⟨v2, hb2, hn2, hr2⟩).ext ⟨x3, rfl⟩⟩
  by_cases h3 : kind = 3
  · subst h3
    have hB : Hid (thingB 3 n u s.data.toList L = textB (s.data.toList.take 200)) := by simp [Hid, thingB]
    go_enter Try.func10, Try.ntmps10
    go_wp2_with (go_at_call 13; refine (Cut_any _ _ _ hs (by omega) (by omega)).mono ?_; rintro e w1 ⟨rfl, rfl⟩)
    refine (wText _ _ _ _ _ _ (by omega) (HB.out.ext ((Ext.refl _).alloc _)) (by simp; omega) (by omega)).mono ?_
    rintro e w2 ⟨rfl, v2, hb2, hn2, hr2⟩
    obtain ⟨hbx, hgb, hgv⟩ := HB.out.boxed hn2 hr2
    have hq := cell_of_heap hbx 3
    simp at hq
    go_wp2_with (go_at_call 44; refine (refText_any _ _ (by omega)).mono ?_; rintro e w3 ⟨rfl, x3, rfl⟩)
    go_ret
    have hl2 : textB (cutS s 200).data.toList = textB (s.data.toList.take 200) := by rw [hcl.out]
    exact ⟨by rw [hB.out, ← hl2]; rfl, by rw [hB.out, ← hl2]; exact (Wrote.ext_left ((Ext.refl _).alloc _) ⟨v2, hb2, hn2, hr2⟩).ext ⟨x3, rfl⟩⟩
  by_cases h4 : kind = 4
  · subst h4
    have hB : Hid (thingB 4 n u s.data.toList L = risingB (risingL L)) := by simp [Hid, thingB]
    have hRL := Lib.hid (risingL_rises HL.out)
    have h20 := risingL_len L
    go_enter Try.func10, Try.ntmps10
    go_wp2_with (go_at_call 13; refine (Cut_any _ _ _ hs (by omega) (by omega)).mono ?_; rintro e w1 ⟨rfl, rfl⟩)
    refine (rising_any _ _ L _ (HR.out.ext ((Ext.refl _).alloc _)) HL.out hlL).mono ?_
    rintro e w2 ⟨A2, c2, rfl, hown2, x2, rfl⟩
    go_wp2_with fail
    refine (wRising _ _ _ _ _ _ _ _ (Reads.of_own hown2) hRL.out (by omega) (Far.of_own hown2 (by simp; omega) (fun g hg => by have := hvl.out g hg; simp; omega)) ((HB.out.ext ((Ext.refl _).alloc _)).ext ⟨x2, rfl⟩) (by simp [World.size_more]; omega) (by omega)).mono ?_
    rintro e w3 ⟨rfl, v3, hb3, hn3, hr3⟩
    have hbx := hn3.heap_keep (World.heap_more_some _ x2 (heap_alloc_new w _)) (by omega) (fun e => by have := hvl.out _ e; omega)
    have hq := cell_of_heap hbx 4
    simp at hq
    have hR3 : ReadsU w3 A c L := ((HR.out.ext ((Ext.refl _).alloc _)).ext ⟨x2, rfl⟩).near' hn3 HF.out
    go_wp2_with fail
    refine (rising_any _ _ L _ hR3 HL.out hlL).mono ?_
    rintro e w4 ⟨A4, c4, rfl, hown4, hE4⟩
    go_wp2_with (go_at_call 32; refine (refRising_any _ _ _ _ (Reads.of_own hown4) hRL.out (by omega)).mono ?_; rintro e w5 ⟨rfl, x5, rfl⟩)
    go_ret
    exact ⟨by rw [hB.out]; rfl, by rw [hB.out]; exact (Wrote.ext_left (((Ext.refl _).alloc _).more x2) ⟨v3, hb3, hn3, hr3⟩).ext (hE4.more x5)⟩
  by_cases h5 : kind = 5
  · subst h5
    have hB : Hid (thingB 5 n u s.data.toList L = spansB (spansL L)) := by simp [Hid, thingB]
    have hRL := Lib.hid (flat_pairs_rises (risingL_rises HL.out))
    have h20 := spansL_len L
    go_enter Try.func10, Try.ntmps10
    go_wp2_with (go_at_call 13; refine (Cut_any _ _ _ hs (by omega) (by omega)).mono ?_; rintro e w1 ⟨rfl, rfl⟩)
    refine (spans_any _ _ L _ (HR.out.ext ((Ext.refl _).alloc _)) HL.out hlL).mono ?_
    rintro e w2 ⟨A2, c2, rfl, hown2, x2, rfl⟩
    go_wp2_with fail
    refine (wSpans _ _ _ _ _ _ _ _ (Reads.of_own hown2) hRL.out (by omega) (Far.of_own hown2 (by simp; omega) (fun g hg => by have := hvl.out g hg; simp; omega)) ((HB.out.ext ((Ext.refl _).alloc _)).ext ⟨x2, rfl⟩) (by simp [World.size_more]; omega) (by omega)).mono ?_
    rintro e w3 ⟨rfl, v3, hb3, hn3, hr3⟩
    have hbx := hn3.heap_keep (World.heap_more_some _ x2 (heap_alloc_new w _)) (by omega) (fun e => by have := hvl.out _ e; omega)
    have hq := cell_of_heap hbx 4
    simp at hq
    have hR3 : ReadsU w3 A c L := ((HR.out.ext ((Ext.refl _).alloc _)).ext ⟨x2, rfl⟩).near' hn3 HF.out
    go_wp2_with fail
    refine (spans_any _ _ L _ hR3 HL.out hlL).mono ?_
    rintro e w4 ⟨A4, c4, rfl, hown4, hE4⟩
    go_wp2_with fail
    refine (told_any _ _ _ _ (Reads.of_own hown4) (by omega)).mono ?_
    rintro e w5 ⟨A5, c5, rfl, hown5, hE5⟩
    go_wp2_with (go_at_call 34; refine (refSpans_any _ _ _ _ (Reads.of_own hown5) hRL.out (by omega)).mono ?_; rintro e w6 ⟨rfl, x6, rfl⟩)
    go_ret
    exact ⟨by rw [hB.out]; rfl, by rw [hB.out]; exact (Wrote.ext_left (((Ext.refl _).alloc _).more x2) ⟨v3, hb3, hn3, hr3⟩).ext ((hE4.trans hE5).more x6)⟩
  · have hB : Hid (thingB kind n u s.data.toList L = []) := by simp [Hid, thingB, h1, h2, h3, h4, h5]
    have e1 : (kind == 1) = false := by simp [h1]
    have e2 : (kind == 2) = false := by simp [h2]
    have e3 : (kind == 3) = false := by simp [h3]
    have e4 : (kind == 4) = false := by simp [h4]
    have e5 : (kind == 5) = false := by simp [h5]
    clear h1 h2 h3 h4 h5
    go_enter Try.func10, Try.ntmps10
    go_wp2_with (go_at_call 13; refine (Cut_any _ _ _ hs (by omega) (by omega)).mono ?_; rintro e w1 ⟨rfl, rfl⟩)
    go_ret
    exact ⟨by rw [hB.out]; rfl, by rw [hB.out, List.append_nil]; exact (Wrote.refl HB.out).ext ((Ext.refl _).alloc _)⟩
end Go.Proofs.Ythkcifdjfoggeaa
