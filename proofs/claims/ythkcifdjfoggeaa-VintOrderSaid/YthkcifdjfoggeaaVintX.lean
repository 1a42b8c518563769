/- The writer's other methods, and the references' writings, walked. -/
import Derived.Test.YthkcifdjfoggeaaVintW
import Derived.Test.YthkcifdjfoggeaaRegMore
namespace Go.Proofs.Ythkcifdjfoggeaa
open Go.RowKit Go.BigFrame Go.Vint

set_option maxRecDepth 100000 in
set_option maxHeartbeats 400000 in
theorem fold_any (n : Int) (w : World) (h1 : -9223372036854775808 ≤ n) (h2 : n ≤ 9223372036854775807) :
    Calls Try.prog 42 #[.int .i64 n] w fun e w' => e = .returned (.int .u64 (foldI n)) ∧ w = w' := by
  by_cases h : n < 0
  · have hf : Hid (foldI n = 2 * (-(n + 1)) + 1) := by unfold Hid foldI; rw [if_pos h]
    go_enter Try.func42, Try.ntmps42
    go_wp2
    go_ret
    exact ⟨by rw [hf.out]; rfl, rfl⟩
  · have hf : Hid (foldI n = 2 * n) := by unfold Hid foldI; rw [if_neg h]
    go_enter Try.func42, Try.ntmps42
    go_wp2
    go_ret
    exact ⟨by rw [hf.out]; rfl, rfl⟩

set_option maxRecDepth 100000 in
set_option maxHeartbeats 400000 in
theorem wInt (n : Int) (w : World) (b : Nat) (v : Value) (base : Nat) (l : List UInt8) (h1 : -9223372036854775808 ≤ n) (h2 : n ≤ 9223372036854775807) (hb : BufAt w 25 5 b v base l) (hbase : base ≤ w.heap.size) (hl : l.length ≤ 1000000000) :
    Calls Try.prog 41 #[.pointer (some ⟨b, 0, none⟩), .int .i64 n] w fun e w' => e = .returned (.tuple #[]) ∧ Wrote w w' 25 5 b v base (l ++ uintB (foldI n).toNat) := by
  have hf := Lib.hid (fold_bits n h1 h2)
  have hbd := foldI_bd h1 h2
  go_enter Try.func41, Try.ntmps41
  go_wp2_with (go_at_call 40; rw [hf.out]; refine (wUint _ _ _ _ _ _ hbd.1 hbd.2 hb hbase hl).mono ?_; rintro e w' ⟨rfl, hW⟩)
  go_end0
  exact ⟨rfl, hW⟩

set_option maxRecDepth 100000 in
set_option maxHeartbeats 400000 in
theorem wBytes (w : World) (b : Nat) (v : Value) (base : Nat) (l : List UInt8) (hb : BufAt w 25 5 b v base l) :
    Calls Try.prog 12 #[.pointer (some ⟨b, 0, none⟩)] w fun e w' => e = .returned (.string (bs l)) ∧ w = w' := by
  have hcell := hb.cell?
  have hconv := run_str_reads (P := Try.prog) Try.underlying23 Try.underlying5 Try.underlying9 (Reads.of_own hb.own.choose_spec)
  go_enter Try.func12, Try.ntmps12
  go_wp2_with fail
  go_ret
  exact ⟨rfl, rfl⟩

/-- The first bytes. -/
def cutS (s : ByteArray) (n : Nat) : ByteArray := s.extract 0 n
theorem cutS_list (s : ByteArray) (n : Nat) : (cutS s n).data.toList = s.data.toList.take n := by
  simp [cutS]
theorem cutS_all {s : ByteArray} {n : Nat} (h : s.size ≤ n) : cutS s n = s := by
  apply ByteArray.ext
  apply Array.ext'
  rw [cutS_list, List.take_of_length_le (by rw [size_list]; exact h)]
theorem cutS_size (s : ByteArray) (n : Nat) : (cutS s n).size ≤ n := by
  rw [← size_list, cutS_list]; simp only [List.length_take]; omega

set_option maxRecDepth 100000 in
set_option maxHeartbeats 400000 in
theorem Cut_any (s : ByteArray) (n : Int) (w : World) (hs : s.size ≤ 9223372036854775807) (h0 : 0 ≤ n) (hn : n ≤ 100000) :
    Calls Try.prog 13 #[.string s, .int .i64 n] w fun e w' => e = .returned (.string (cutS s n.toNat)) ∧ w = w' := by
  by_cases h : n < s.size
  · go_enter Try.func13, Try.ntmps13
    go_wp2_with fail
    go_ret
    exact ⟨rfl, rfl⟩
  · have hc := Lib.hid (cutS_all (s := s) (n := n.toNat) (by omega))
    go_enter Try.func13, Try.ntmps13
    go_wp2_with fail
    go_ret
    exact ⟨by rw [hc.out]; rfl, rfl⟩

set_option maxRecDepth 100000 in
set_option maxHeartbeats 400000 in
theorem refText_any (s : ByteArray) (w : World) (hs : s.size ≤ 1000000) :
    Calls Try.prog 44 #[.string s] w fun e w' => e = .returned (.string (bs (textB s.data.toList))) ∧ Ext w w' := by
  have hlen : (uintB s.size).length ≤ 10 := uintB_le (u := (s.size : Int)) (by omega)
  have hf : Hid (bs (uintB s.size) ++ s = bs (textB s.data.toList)) := by
    unfold Hid textB; rw [size_list, ← bs_append, bs_of]
  go_enter Try.func44, Try.ntmps44
  go_wp2_with (go_at_call 30; refine (refUint_any _ _ (by omega) (by omega)).mono ?_; rintro e w' ⟨rfl, x, rfl⟩)
  go_ret
  exact ⟨by rw [← hf.out]; rfl, ⟨x, rfl⟩⟩

set_option maxRecDepth 100000 in
set_option maxHeartbeats 400000 in
theorem wText (s : ByteArray) (w : World) (b : Nat) (v : Value) (base : Nat) (l : List UInt8) (hs : s.size ≤ 1000000) (hb : BufAt w 25 5 b v base l) (hbase : base ≤ w.heap.size) (hl : l.length ≤ 900000000) :
    Calls Try.prog 43 #[.pointer (some ⟨b, 0, none⟩), .string s] w fun e w' => e = .returned (.tuple #[]) ∧ Wrote w w' 25 5 b v base (l ++ textB s.data.toList) := by
  have hlen : (uintB s.size).length ≤ 10 := uintB_le (u := (s.size : Int)) (by omega)
  have hsl := Lib.hid (size_list s)
  go_enter Try.func43, Try.ntmps43
  go_wp2_with (first
    | (go_at_call 40; refine (wUint _ _ _ _ _ _ (by omega) (by omega) hb hbase (by omega)).mono ?_; rintro e w' ⟨rfl, v1, hb1, hn1, hr1⟩; rw [Int.toNat_natCast] at hb1; have hc1 := hb1.cell?; have hf1 := hb1.frozen?; obtain ⟨n1, hown1⟩ := hb1.own; have hnl := Lib.hid (ownsRow_len hown1))
    | (at_builtin; refine wpList_append_str _ rfl (.tmp 13) (.tmp 14) rfl etBytes Try.underlying9 (by kernel_rfl) (v := v1) rfl hown1 (str := s) rfl ?c1 ?c2 (fun A2 c2 w2 hown2 hg2 hat2 => have hc2 := (hb1.grown hg2).1; have hf2 := (hb1.grown hg2).2; ?_)))
  case c1 => rw [hnl.out, List.length_append]; omega
  case c2 => have := hn1.size; omega
  go_end0
  exact ⟨rfl, by
    have := Wrote.append_str (l' := s.data.toList) hb1 hown2 hg2 hat2 (byteCellsV_append _ _).symm
    rw [show l ++ textB s.data.toList = l ++ uintB s.size ++ s.data.toList from by rw [textB, hsl.out]; simp]
    exact Wrote.step hn1 hr1 this⟩

set_option maxRecDepth 100000 in
set_option maxHeartbeats 400000 in
theorem wRising (A : Option Addr) (c : Nat) (L : List Int) (w : World) (b : Nat) (v : Value) (base : Nat) (l : List UInt8) (hr : ReadsU w A c L) (hL : Rises L) (hlL : L.length ≤ 1000) (hfar : Far A b v.ownBlock)
    (hb : BufAt w 25 5 b v base l) (hbase : base ≤ w.heap.size) (hl : l.length ≤ 900000000) :
    Calls Try.prog 45 #[.pointer (some ⟨b, 0, none⟩), .slice A L.length c] w fun e w' => e = .returned (.tuple #[]) ∧ Wrote w w' 25 5 b v base (l ++ risingB L) := by
  have hlen : (uintB L.length).length ≤ 10 := uintB_le (u := (L.length : Int)) (by omega)
  have HG := Lib.hid (gaps_bd hL)
  have HL := Lib.hid hL; clear hL
  have HR := Lib.hid hr; clear hr
  have HF := Lib.hid hfar; clear hfar
  go_enter Try.func45, Try.ntmps45
  go_wp2_with (go_at_call 40; refine (wUint _ _ _ _ _ _ (by omega) (by omega) hb hbase (by omega)).mono ?_; rintro e w1 ⟨rfl, hW1⟩; rw [Int.toNat_natCast] at hW1)
  go_loopw [13] (fun t wr => ∃ k : Nat, t = .int .i64 k ∧ k ≤ L.length ∧ Wrote w wr 25 5 b v base (l ++ uintB L.length ++ numsB ((gaps L).take k))) (fun t _ => L.length - (intOf t).toNat)
  case atStart => exact ⟨0, rfl, by omega, by simpa [numsB] using hW1⟩
  case round =>
    obtain ⟨k, rfl, hk, hW⟩ := hrel
    clear hW1
    by_cases hlt : k < L.length
    · have HW := Lib.hid hW; clear hW
      obtain ⟨v1, hb1, hn1, hr1⟩ := HW.out
      have hR : ReadsU wr A c L := HR.out.near hn1 HF.out
      have hsz := hn1.size
      have hll : (l ++ uintB L.length ++ numsB ((gaps L).take k)).length ≤ 950000000 := by
        have := numsB_len ((gaps L).take k) (fun x hx => HG.out x (List.mem_of_mem_take hx))
        have h2 : ((gaps L).take k).length ≤ k := List.length_take_le _ _
        simp only [List.length_append]; omega
      obtain ⟨bk, ok, x, rfl, hbk, hx, hcx⟩ := hR.at_ hlt
      have hxb := HL.out.at_ hx
      have Hx := Lib.hid hx; clear hx
      have HR1 := Lib.hid hR; clear hR
      rcases k with _ | k
      · have hnext : Hid (numsB ((gaps L).take (0 + 1)) = numsB ((gaps L).take 0) ++ uintB x.toNat) := numsB_snoc (gaps_zero Hx.out)
        rw [Nat.add_zero] at hcx
        go_wp2_with (go_at_call 40; refine (wUint _ _ _ _ _ _ (by omega) (by omega) hb1 (by omega) (by omega)).mono ?_; rintro e w2 ⟨rfl, hW2⟩)
        go_roundw
        case rel => exact ⟨0 + 1, by go_num, by omega, by rw [hnext.out, ← List.append_assoc]; exact Wrote.step hn1 hr1 hW2⟩
        case measure => simp [intOf]; omega
      · obtain ⟨bk', ok', y, hA, _, hy, hcy⟩ := HR1.out.at_ (k := k) (by omega)
        injection hA with hA
        injection hA with hA1 hA2
        subst hA1 hA2
        have hyb := HL.out.at_ hy
        have hxy := HL.out.2 k y x hy Hx.out
        have hnext : Hid (numsB ((gaps L).take (k + 1 + 1)) = numsB ((gaps L).take (k + 1)) ++ uintB (x - y - 1).toNat) := numsB_snoc (gaps_succ hy Hx.out)
        clear hy
        go_wp2_with (go_at_call 40; refine (wUint _ _ _ _ _ _ (by omega) (by omega) hb1 (by omega) (by omega)).mono ?_; rintro e w2 ⟨rfl, hW2⟩)
        go_roundw
        case rel => exact ⟨k + 1 + 1, by go_num, by omega, by rw [hnext.out, ← List.append_assoc]; exact Wrote.step hn1 hr1 hW2⟩
        case measure => simp [intOf]; omega
    · obtain rfl : k = L.length := by omega
      have hfin : Hid (l ++ uintB L.length ++ numsB ((gaps L).take L.length) = l ++ risingB L) := by
        unfold Hid risingB
        rw [List.take_of_length_le (by rw [gaps_length]; omega)]; simp
      go_wp2_with fail
      go_end0
      exact ⟨rfl, by rw [← hfin.out]; exact hW⟩
end Go.Proofs.Ythkcifdjfoggeaa
