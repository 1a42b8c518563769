/- awake, walked. -/
import Derived.Test.YthkcifdjfoggeaaVintP
import Derived.Test.YthkcifdjfoggeaaVintR
set_option maxRecDepth 100000
set_option maxHeartbeats 400000
namespace Go
open Go.RowKit Go.BigFrame
theorem BufAt.start (w : World) (T e : TypeId) : BufAt (w.alloc (.cells #[.slice none 0 0] T)) T e w.heap.size (.slice none 0 0) (w.heap.size + 1) [] :=
  ⟨heap_alloc_new _ _, ⟨0, rfl, .inl ⟨rfl, rfl⟩⟩, nofun⟩
theorem Wrote.toExt {a w w' : World} {T e : TypeId} {b : Nat} {v : Value} {base : Nat} {l0 l : List UInt8} (hW : Wrote w w' T e b v base l) (hB : BufAt w T e b v base l0) (he : Ext a w) (h1 : a.heap.size ≤ b) (h2 : a.heap.size ≤ base) :
    Ext a w' ∧ ∃ v', BufAt w' T e b v' base l ∧ Hid (∀ g, v'.ownBlock = some g → g < w'.heap.size) := by
  obtain ⟨v', hb, hn, hr⟩ := hW
  obtain ⟨n, hown⟩ := hB.own
  exact ⟨hn.ext he h1 (fun g hg => Nat.le_trans h2 (hown.lt g hg).1), v', hb, fun g hg => hb.row_lt hg⟩
end Go
namespace Go.Vint
theorem rises_569 : Rises [5, 6, 9] := by
  refine ⟨by simp, fun k x y hx hy => ?_⟩
  rcases k with _ | _ | _ | k <;> simp at hx hy <;> omega
theorem rises_2578 : Rises (flat [(2, 5), (7, 8)]) := by
  refine ⟨by simp [flat], fun k x y hx hy => ?_⟩
  rcases k with _ | _ | _ | _ | k <;> simp [flat] at hx hy <;> omega
theorem uintB_300 : uintB 300 = [172, 2] := by rw [uintB_big (by omega), uintB_small (by omega)]; decide
theorem awakeL : uintB (300 : Int).toNat ++ uintB (foldI (-1)).toNat ++ risingB [5, 6, 9] ++ spansB [(2, 5), (7, 8)] = [172, 2, 1, 3, 5, 0, 2, 2, 2, 2, 1, 0] := by
  have h : ∀ u : Nat, u < 128 → uintB u = [u8Of u] := fun u h => uintB_small h
  rw [show (300 : Int).toNat = 300 from rfl, uintB_300]
  simp [foldI, risingB, spansB, gaps, gapsFrom, numsB, flat, h]
  decide
theorem readAwake : readU [128, 0] 0 0 = (0, 0, 3) := by decide
end Go.Vint
namespace Go.Proofs.Ythkcifdjfoggeaa
open Go.RowKit Go.BigFrame Go.Vint

theorem awake_any (w : World) : Calls Try.prog 11 #[] w fun e w' => e = .returned (.bool true) ∧ Ext w w' := by
  have HB := BufAt.start w 25 5
  go_enter Try.func11, Try.ntmps11
  go_wp2_with fail
  refine (wUint 300 _ _ _ _ _ (by omega) (by omega) HB (by simp) (by simp)).mono ?_
  rintro e w2 ⟨rfl, hW2⟩
  obtain ⟨hE2, v2, hB2, hr2⟩ := hW2.toExt HB ((Ext.refl w).alloc _) (by omega) (by omega)
  clear hW2 HB
  go_wp2_with fail
  refine (wInt (-1) _ _ _ _ _ (by omega) (by omega) hB2 (by have := hB2.lt; omega) (by simp only [List.nil_append]; exact Nat.le_trans (uintB_le (u := 300) (by omega)) (by omega))).mono ?_
  rintro e w3 ⟨rfl, hW3⟩
  obtain ⟨hE3, v3, hB3, hr3⟩ := hW3.toExt hB2 hE2 (by omega) (by omega)
  clear hW3 hB2 hr2 hE2
  go_wp2_with fail
  refine (wRising _ _ [5, 6, 9] _ _ _ _ _ (Reads.fresh _ 1 3 28 (u64Cells [5, 6, 9]) rfl) rises_569 (by simp) (by rintro b' off h; injection h with h; injection h with h1; have := hB3.lt; exact ⟨by omega, fun hg => by have := hr3.out _ hg.symm; omega⟩) (hB3.ext ((Ext.refl _).alloc _)) (by have := hB3.lt; simp; omega) ?_).mono ?_
  · have h1 := uintB_le (u := 300) (by omega)
    have h2 := uintB_le (u := foldI (-1)) (by decide)
    simp only [List.length_append, List.length_nil]; omega
  rintro e w4 ⟨rfl, hW4⟩
  obtain ⟨hE4, v4, hB4, hr4⟩ := hW4.toExt (hB3.ext ((Ext.refl _).alloc _)) (hE3.alloc _) (by omega) (by omega)
  clear hW4 hB3 hr3 hE3
  go_wp2_with fail
  refine (wSpans _ _ [(2, 5), (7, 8)] _ _ _ _ _ (Reads.fresh _ 2 2 46 (u64Cells (flat [(2, 5), (7, 8)])) rfl) rises_2578 (by simp) (by rintro b' off h; injection h with h; injection h with h1; have := hB4.lt; exact ⟨by omega, fun hg => by have := hr4.out _ hg.symm; omega⟩) (hB4.ext ((Ext.refl _).alloc _)) (by have := hB4.lt; simp; omega) ?_).mono ?_
  · rw [show [] ++ uintB (Int.toNat 300) ++ uintB (foldI (-1)).toNat ++ risingB [5, 6, 9] = [172, 2, 1, 3, 5, 0, 2] from by
      have h : ∀ u : Nat, u < 128 → uintB u = [u8Of u] := fun u h => uintB_small h
      rw [show (300 : Int).toNat = 300 from rfl, uintB_300]
      simp [foldI, risingB, gaps, gapsFrom, numsB, h]
      decide]
    simp
  rintro e w5 ⟨rfl, hW5⟩
  obtain ⟨hE5, v5, hB5, hr5⟩ := hW5.toExt (hB4.ext ((Ext.refl _).alloc _)) (hE4.alloc _) (by omega) (by omega)
  clear hW5 hB4 hr4 hE4
  rw [List.nil_append, awakeL] at hB5
  have hb5 := hB5.lt
  go_wp2_with fail
  refine (vRead_any _ _).mono ?_
  rintro e w6 ⟨rfl, hR6, hE6⟩
  obtain ⟨b6, hb6⟩ : ∃ b, Hid (w5.heap.size = b) := ⟨_, rfl⟩
  have hwb := hE5.size
  have hwb6 : w.heap.size ≤ b6 := by rw [← hb6.out]; exact hwb
  rw [hb6.out] at hR6 ⊢
  go_wp2_with fail
  refine (rUint_any _ _ _ _ _ hR6 (by decide) (by omega)).mono ?_
  rintro e w7 ⟨rfl, hR7, hO7⟩
  have hrd : readU (ByteArray.mk #[128, 0]).data.toList 0 0 = (0, 0, 3) := by decide
  rw [hrd] at hR7 ⊢
  have hE7 : Ext w w7 := hO7.ext (hE5.trans hE6) hwb6
  have hB7 : BufAt w7 25 5 w.heap.size v5 (w.heap.size + 1) [172, 2, 1, 3, 5, 0, 2, 2, 2, 2, 1, 0] := by
    have h6 := hB5.ext hE6
    obtain ⟨n, hown⟩ := h6.own
    exact ⟨hO7.heap_keep h6.cell (by rw [← hb6.out]; omega), ⟨n, hown.kept hO7 (.inr fun e => by have := hr5.out _ e; rw [← hb6.out] at this; omega)⟩, h6.apart⟩
  clear hR6 hO7 hB5 hE5 hE6 hrd
  go_wp2_with (first
    | (go_at_call 12; refine (wBytes _ _ _ _ _ hB7).mono ?_; rintro e w8 ⟨rfl, rfl⟩)
    | (go_at_call 37; refine (rErr_any _ _ _ _ _ hR7).mono ?_; rintro e w8 ⟨rfl, rfl⟩)
    | (go_at_call 47; refine (rAt_any _ _ _ _ _ hR7).mono ?_; rintro e w8 ⟨rfl, rfl⟩))
  go_ret
  exact ⟨rfl, hE7⟩
end Go.Proofs.Ythkcifdjfoggeaa
