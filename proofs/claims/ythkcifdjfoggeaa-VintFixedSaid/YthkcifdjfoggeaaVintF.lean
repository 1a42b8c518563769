/- Numbers as four and eight bytes: the reference's bytes, walked. -/
import Derived.Test.YthkcifdjfoggeaaVintK
set_option maxRecDepth 100000
set_option maxHeartbeats 400000
namespace Go.Vint
open Go.RowKit Go.BigFrame
/-- So many bytes of a number, the lowest first. -/
def lowB : Int → Nat → List UInt8
  | _, 0 => []
  | v, n + 1 => u8Of (v % 256) :: lowB (v / 256) n
theorem lowB_length (n : Nat) : ∀ v, (lowB v n).length = n := by
  induction n with
  | zero => intro v; rfl
  | succ n ih => intro v; simp [lowB, ih]
/-- A block's cells are bytes, as far as the list goes; none is frozen. -/
structure CellsAt (w : World) (b : Nat) (l : List UInt8) : Prop where
  cell : ∀ j c, l[j]? = some c → w.cell? ⟨b, j, none⟩ = some (.int .u8 (c.toNat : Int))
  free : ∀ j, j < l.length → w.frozen? ⟨b, j, none⟩ = false
  lt : b < w.heap.size
theorem CellsAt.ext {w w' : World} {b : Nat} {l : List UInt8} (h : CellsAt w b l) (he : Ext w w') : CellsAt w' b l :=
  ⟨fun j c hj => he.cell (h.cell j c hj), fun j hj => (he.frozen h.lt).trans (h.free j hj), Nat.lt_of_lt_of_le h.lt he.size⟩
/-- Bytes of a number are set into a list. -/
def putB (l : List UInt8) (o : Nat) (v : Int) : Nat → List UInt8
  | 0 => l
  | k + 1 => (putB l o v k).set (o + k) (u8Of (v / 256 ^ k % 256))
theorem putB_length (l : List UInt8) (o : Nat) (v : Int) (k : Nat) : (putB l o v k).length = l.length := by
  induction k with
  | zero => rfl
  | succ k ih => simp [putB, ih]
theorem u8Of_toNat {n : Int} (h0 : 0 ≤ n) (h : n < 256) : ((u8Of n).toNat : Int) = n := by
  unfold u8Of
  rw [UInt8.toNat_ofNat']
  omega
theorem CellsAt.set {w : World} {b : Nat} {l : List UInt8} (h : CellsAt w b l) {j : Nat} (hj : j < l.length) {x : Int} (h0 : 0 ≤ x) (hx : x < 256) : CellsAt (w.setCell ⟨b, j, none⟩ (.int .u8 x)) b (l.set j (u8Of x)) := by
  refine ⟨fun i c hi => ?_, fun i hi => ?_, by simpa [World.setCell] using h.lt⟩
  · by_cases e : i = j
    · subst e
      rw [List.getElem?_set_self hj] at hi
      injection hi with hi
      subst hi
      rw [u8Of_toNat h0 hx]
      exact World.cell?_setCell_same _ _ _ (h.cell i _ (List.getElem?_eq_getElem hj))
    · rw [List.getElem?_set_ne (Ne.symm e)] at hi
      rw [World.cell?_setCell_other _ _ _ _ (by intro e2; injection e2 with _ e3; exact e e3.symm)]
      exact h.cell i c hi
  · simp only [List.length_set] at hi
    rw [World.frozen?_setCell]
    exact h.free i hi
theorem or4 (x0 x1 x2 x3 : UInt8) : bits BinOp.or IntKind.u32 (bits BinOp.or IntKind.u32 (bits BinOp.or IntKind.u32 ((x0.toNat : Int) % 4294967296) ((x1.toNat : Int) % 4294967296 * 256 % 4294967296)) ((x2.toNat : Int) % 4294967296 * 65536 % 4294967296)) ((x3.toNat : Int) % 4294967296 * 16777216 % 4294967296)
    = x0.toNat + 256 * x1.toNat + 65536 * x2.toNat + 16777216 * x3.toNat := by
  have h0 : x0.toNat < 256 := x0.toNat_lt
  have h1 : x1.toNat < 256 := x1.toNat_lt
  have h2 : x2.toNat < 256 := x2.toNat_lt
  have h3 : x3.toNat < 256 := x3.toNat_lt
  have e0 : (x0.toNat : Int) % 4294967296 = ((x0.toNat : Nat) : Int) := by omega
  have e1 : (x1.toNat : Int) % 4294967296 * 256 % 4294967296 = ((256 * x1.toNat : Nat) : Int) := by omega
  have e2 : (x2.toNat : Int) % 4294967296 * 65536 % 4294967296 = ((65536 * x2.toNat : Nat) : Int) := by omega
  have e3 : (x3.toNat : Int) % 4294967296 * 16777216 % 4294967296 = ((16777216 * x3.toNat : Nat) : Int) := by omega
  have j1 : x0.toNat ||| 256 * x1.toNat = x0.toNat + 256 * x1.toNat := by rw [Nat.or_comm, nat_join 8 _ _ (by omega) (by omega), Nat.add_comm]
  have j2 : x0.toNat + 256 * x1.toNat ||| 65536 * x2.toNat = x0.toNat + 256 * x1.toNat + 65536 * x2.toNat := by rw [Nat.or_comm, nat_join 16 _ _ (by omega) (by omega), Nat.add_comm]
  have j3 : x0.toNat + 256 * x1.toNat + 65536 * x2.toNat ||| 16777216 * x3.toNat = x0.toNat + 256 * x1.toNat + 65536 * x2.toNat + 16777216 * x3.toNat := by rw [Nat.or_comm, nat_join 24 _ _ (by omega) (by omega), Nat.add_comm]
  rw [e0, e1, e2, e3, u32_or_nat _ _ (by omega) (by omega), j1, u32_or_nat _ _ (by omega) (by omega), j2, u32_or_nat _ _ (by omega) (by omega), j3]
  omega
theorem sum4_bd (x0 x1 x2 x3 : UInt8) : 0 ≤ (x0.toNat : Int) + 256 * x1.toNat + 65536 * x2.toNat + 16777216 * x3.toNat ∧ (x0.toNat : Int) + 256 * x1.toNat + 65536 * x2.toNat + 16777216 * x3.toNat ≤ 4294967295 := by
  have h0 : x0.toNat < 256 := x0.toNat_lt
  have h1 : x1.toNat < 256 := x1.toNat_lt
  have h2 : x2.toNat < 256 := x2.toNat_lt
  have h3 : x3.toNat < 256 := x3.toNat_lt
  omega
theorem or_hi {a b : Int} (ha0 : 0 ≤ a) (ha : a ≤ 4294967295) (hb0 : 0 ≤ b) (hb : b ≤ 4294967295) : bits BinOp.or IntKind.u64 a (b * 4294967296) = a + b * 4294967296 := by
  obtain ⟨a, rfl⟩ := Int.eq_ofNat_of_zero_le ha0
  obtain ⟨b, rfl⟩ := Int.eq_ofNat_of_zero_le hb0
  rw [show (b : Int) * 4294967296 = ((b * 4294967296 : Nat) : Int) from by omega, u64_or_nat _ _ (by omega) (by omega), Nat.or_comm, nat_join 32 _ _ (by omega) (by omega)]
  omega
end Go.Vint
namespace Go.Proofs.Ythkcifdjfoggeaa
open Go.RowKit Go.BigFrame Go.Vint
theorem Low_any (v : Int) (n : Nat) (w : World) (h0 : 0 ≤ v) (hv : v ≤ 18446744073709551615) (hn : n ≤ 1000) :
    Calls Try.prog 15 #[.int .u64 v, .int .i64 n] w fun e w' => e = .returned (.string (bs (lowB v n))) ∧ Ext w w' := by
  have hstr := strOne
  obtain ⟨m, hm⟩ : ∃ m, Hid (lowB v n = m) := ⟨_, rfl⟩
  rw [hm.out]
  go_enter Try.func15, Try.ntmps15
  go_wp2_with fail
  go_loopw [0, 5, 6] (fun t s i wr => ∃ (k : Nat) (y : Int) (l : List UInt8), i = .int .i64 k ∧ t = .int .u64 y ∧ s = .string (bs l) ∧ k ≤ n ∧ 0 ≤ y ∧ y ≤ 18446744073709551615 ∧ l.length = k ∧ Ext w wr ∧ Hid (l ++ lowB y (n - k) = m)) (fun _ _ i _ => n - (intOf i).toNat)
  case atStart => exact ⟨0, v, [], rfl, rfl, rfl, by omega, h0, hv, rfl, Ext.refl _, by simpa [Hid] using hm.out⟩
  case round =>
    obtain ⟨k, y, l, rfl, rfl, rfl, hk, hy0, hy, hl, hE, hL⟩ := hrel
    by_cases hlt : k < n
    · have hnext : Hid (l ++ [u8Of (y % 256)] ++ lowB (y / 256) (n - (k + 1)) = m) := by
        unfold Hid
        rw [← hL.out, show n - k = (n - (k + 1)) + 1 by omega]
        simp [lowB]
      have HE := Lib.hid hE; clear hE
      go_wp2_with fail
      go_roundw
      case rel => exact ⟨k + 1, y / 256, l ++ [u8Of (y % 256)], by go_num, rfl, by rw [← bs_append], by omega, by omega, by omega, by simp [hl], by (repeat (first | exact HE.out | exact Ext.refl _ | exact Ext.alloc_drewN _ _ _ | exact Ext.alloc_drew _ _ | refine Ext.more ?_ _ | refine Ext.alloc ?_ _ | refine Ext.drewN ?_ _ | refine Ext.drew ?_)), hnext⟩
      case measure => simp [intOf]; omega
    · obtain rfl : k = n := by omega
      have hfin : Hid (l = m) := by
        have := hL.out
        rw [Nat.sub_self] at this
        unfold Hid
        simpa [lowB] using this
      go_wp2_with fail
      go_ret
      exact ⟨by rw [← hfin.out]; rfl, hE⟩

theorem PutU32_any (b o n c : Nat) (v : Int) (l : List UInt8) (w : World) (h : CellsAt w b l) (ho : o + 4 ≤ l.length) (hn : 4 ≤ n) (h0 : 0 ≤ v) (hv : v ≤ 4294967295) :
    Calls Try.prog 14 #[.slice (some ⟨b, o, none⟩) n c, .int .u32 v] w fun e w' => e = .returned (.tuple #[]) ∧ CellsAt w' b (putB l o v 4) ∧ Only w w' b := by
  have H := Lib.hid h; clear h
  go_enter Try.func14, Try.ntmps14
  go_wp2_with fail
  go_loopw [5] (fun i wr => ∃ (k : Nat), i = .int .i64 k ∧ k ≤ 4 ∧ CellsAt wr b (putB l o v k) ∧ Only w wr b) (fun i _ => 4 - (intOf i).toNat)
  case atStart => exact ⟨0, rfl, by omega, H.out, Only.refl _ _⟩
  case round =>
    obtain ⟨k, rfl, hk, hC, hO⟩ := hrel
    by_cases hlt : k < 4
    · have hfr := hC.free (o + k) (by rw [putB_length]; omega)
      have hcell := hC.cell (o + k) _ (List.getElem?_eq_getElem (by rw [putB_length]; omega))
      generalize (putB l o v k)[o + k]'(by rw [putB_length]; omega) = x0 at hcell
      have hp : (2 : Int) ^ (8 * k) = 256 ^ k := by rw [Int.pow_mul]; rfl
      have hnext : CellsAt (wr.setCell ⟨b, o + k, none⟩ (.int .u8 (v / 2 ^ (8 * k) % 256))) b (putB l o v (k + 1)) := by
        rw [hp]
        exact hC.set (by rw [putB_length]; omega) (by omega) (by omega)
      have HN := Lib.hid hnext; clear hnext
      clear hp
      have HC := Lib.hid hC; clear hC
      go_wp2_with fail
      go_roundw
      case rel => exact ⟨k + 1, by go_num, by omega, HN.out, hO.setCell _ _⟩
      case measure => simp [intOf]; omega
    · obtain rfl : k = 4 := by omega
      go_wp2_with fail
      go_end0
      exact ⟨rfl, hC, hO⟩

theorem U32_any (b o n c : Nat) (x0 x1 x2 x3 : UInt8) (l : List UInt8) (w : World) (h : CellsAt w b l) (e0 : l[o]? = some x0) (e1 : l[o + 1]? = some x1) (e2 : l[o + 2]? = some x2) (e3 : l[o + 3]? = some x3) (hn : 4 ≤ n) :
    Calls Try.prog 16 #[.slice (some ⟨b, o, none⟩) n c] w fun e w' => e = .returned (.int .u32 (x0.toNat + 256 * x1.toNat + 65536 * x2.toNat + 16777216 * x3.toNat)) ∧ Ext w w' := by
  have c0 := h.cell _ _ e0
  have c1 := h.cell _ _ e1
  have c2 := h.cell _ _ e2
  have c3 := h.cell _ _ e3
  clear e0 e1 e2 e3
  go_enter Try.func16, Try.ntmps16
  go_wp2_with fail
  refine wp_region_gate_draws [0,1,2,3,4,5,6,7,8,9,10,11,12,13,14,15,16,17,18,19,20,21,22] [] (by kernel_rfl) (by kernel_rfl) ?_
  simp only [regPick, List.getElem?_cons_succ, List.getElem?_cons_zero]
  repeat go_big_quiet_step (fail)
  refine wpQuiet_nil ?_
  rintro _ ⟨nq, rfl⟩
  go_wp2_with fail
  go_ret
  exact ⟨congrArg (fun i => Ending.returned (.int .u32 i)) (or4 x0 x1 x2 x3), (Ext.refl _).drewN _⟩

theorem PutU64_any (b o n c : Nat) (v : Int) (l : List UInt8) (w : World) (h : CellsAt w b l) (ho : o + 8 ≤ l.length) (hn : 8 ≤ n) (hc : n ≤ c) (h0 : 0 ≤ v) (hv : v ≤ 18446744073709551615) :
    Calls Try.prog 17 #[.slice (some ⟨b, o, none⟩) n c, .int .u64 v] w fun e w' => e = .returned (.tuple #[]) ∧ CellsAt w' b (putB (putB l o (v % 4294967296) 4) (o + 4) (v / 4294967296) 4) ∧ Only w w' b := by
  go_enter Try.func17, Try.ntmps17
  go_wp2_with fail
  refine (PutU32_any b o n c (v % 4294967296) l w h (by omega) (by omega) (by omega) (by omega)).mono ?_
  rintro e w2 ⟨rfl, hC2, hO2⟩
  go_wp2_with fail
  refine (PutU32_any b (o + 4) (n - 4) (c - 4) (v / 4294967296) _ w2 hC2 (by rw [putB_length]; omega) (by omega) (by omega) (by omega)).mono ?_
  rintro e w3 ⟨rfl, hC3, hO3⟩
  go_wp2_with fail
  go_end0
  exact ⟨rfl, hC3, hO2.trans hO3⟩

theorem U32_eq (b o n c : Nat) (x0 x1 x2 x3 : UInt8) (l : List UInt8) (A : Int) (w : World) (hA : Hid ((x0.toNat : Int) + 256 * x1.toNat + 65536 * x2.toNat + 16777216 * x3.toNat = A)) (h : CellsAt w b l) (e0 : l[o]? = some x0) (e1 : l[o + 1]? = some x1) (e2 : l[o + 2]? = some x2) (e3 : l[o + 3]? = some x3) (hn : 4 ≤ n) :
    Calls Try.prog 16 #[.slice (some ⟨b, o, none⟩) n c] w fun e w' => e = .returned (.int .u32 A) ∧ Ext w w' := by
  rw [← hA.out]; exact U32_any b o n c x0 x1 x2 x3 l w h e0 e1 e2 e3 hn

theorem U64_any (b o n c : Nat) (x0 x1 x2 x3 x4 x5 x6 x7 : UInt8) (l : List UInt8) (A B : Int) (w : World) (hA : Hid ((x0.toNat : Int) + 256 * x1.toNat + 65536 * x2.toNat + 16777216 * x3.toNat = A)) (hB : Hid ((x4.toNat : Int) + 256 * x5.toNat + 65536 * x6.toNat + 16777216 * x7.toNat = B))
    (h : CellsAt w b l) (e0 : l[o]? = some x0) (e1 : l[o + 1]? = some x1) (e2 : l[o + 2]? = some x2) (e3 : l[o + 3]? = some x3) (e4 : l[o + 4]? = some x4) (e5 : l[o + 4 + 1]? = some x5) (e6 : l[o + 4 + 2]? = some x6) (e7 : l[o + 4 + 3]? = some x7) (hn : 8 ≤ n) (hc : n ≤ c) :
    Calls Try.prog 18 #[.slice (some ⟨b, o, none⟩) n c] w fun e w' => e = .returned (.int .u64 (A + B * 4294967296)) ∧ Ext w w' := by
  obtain ⟨hA0, hA1⟩ := sum4_bd x0 x1 x2 x3
  obtain ⟨hB0, hB1⟩ := sum4_bd x4 x5 x6 x7
  rw [hA.out] at hA0 hA1
  rw [hB.out] at hB0 hB1
  have hor := Lib.hid (or_hi hA0 hA1 hB0 hB1)
  have HU1 := Lib.hid (fun x : Extra => Calls.quiet_more (U32_eq b o n c x0 x1 x2 x3 l A (w.more x) hA (h.ext ⟨x, rfl⟩) e0 e1 e2 e3 (by omega)))
  have HU2 := Lib.hid (fun x : Extra => Calls.quiet_more (U32_eq b (o + 4) (n - 4) (c - 4) x4 x5 x6 x7 l B (w.more x) hB (h.ext ⟨x, rfl⟩) e4 e5 e6 e7 (by omega)))
  clear e0 e1 e2 e3 e4 e5 e6 e7 hA hB h
  go_enter Try.func18, Try.ntmps18
  go_wp2_with fail
  refine wp_region_more [0,1,2,3,4,5,6,7,8,9] (by kernel_rfl) (by kernel_rfl) ?_
  simp only [regPick, List.getElem?_cons_succ, List.getElem?_cons_zero]
  repeat go_big_quiet_step ((go_at_call 16; first | with_reducible exact HU1.out _ | with_reducible exact HU2.out _))
  refine wpQuiet_nil ?_
  intro y
  go_wp2_with fail
  go_ret
  exact ⟨congrArg (fun i => Ending.returned (.int .u64 i)) hor.out, ⟨y, rfl⟩⟩
end Go.Proofs.Ythkcifdjfoggeaa
