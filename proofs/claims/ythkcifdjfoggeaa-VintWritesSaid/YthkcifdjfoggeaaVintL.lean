/- The law VintWrites, walked. -/
import Derived.Test.YthkcifdjfoggeaaVintK
set_option maxRecDepth 100000
set_option maxHeartbeats 400000
namespace Go.Vint
open Go.RowKit Go.BigFrame
/-- A thing of the law, as it lies. -/
structure Thing where
  kind : Int
  n : Int
  u : Int
  s : ByteArray
  A : Option Addr
  c : Nat
  L : List Int
structure Thing.Ok (t : Thing) (w : World) : Prop where
  k1 : -9223372036854775808 ≤ t.kind
  k2 : t.kind ≤ 9223372036854775807
  n1 : -9223372036854775808 ≤ t.n
  n2 : t.n ≤ 9223372036854775807
  u1 : 0 ≤ t.u
  u2 : t.u ≤ 18446744073709551615
  hs : t.s.size ≤ 9223372036854775807
  hr : ReadsU w t.A t.c t.L
  hL : ∀ x ∈ t.L, 0 ≤ x ∧ x ≤ 18446744073709551615
  hl : t.L.length ≤ 9223372036854775807
theorem Thing.Ok.ext {t : Thing} {w w' : World} (h : t.Ok w) (he : Ext w w') : t.Ok w' := { h with hr := h.hr.ext he }
/-- A slice of things. -/
def ReadsT (w : World) (A : Option Addr) (T : List Thing) : Prop := ∀ (k : Nat) (t : Thing), T[k]? = some t → t.Ok w ∧ ∃ b off, A = some ⟨b, off, none⟩ ∧ b < w.heap.size ∧
  w.cell? ⟨b, off + k * 5, none⟩ = some (.int .i64 t.kind) ∧ w.cell? ⟨b, off + k * 5 + 1, none⟩ = some (.int .i64 t.n) ∧ w.cell? ⟨b, off + k * 5 + 2, none⟩ = some (.int .u64 t.u) ∧
  w.cell? ⟨b, off + k * 5 + 3, none⟩ = some (.string t.s) ∧ w.cell? ⟨b, off + k * 5 + 4, none⟩ = some (.slice t.A t.L.length t.c)
theorem ReadsT.ext {w w' : World} {A : Option Addr} {T : List Thing} (h : ReadsT w A T) (he : Ext w w') : ReadsT w' A T := by
  intro k t hk
  obtain ⟨h1, b, off, h2, h3, c0, c1, c2, c3, c4⟩ := h k t hk
  exact ⟨h1.ext he, b, off, h2, Nat.lt_of_lt_of_le h3 he.size, he.cell c0, he.cell c1, he.cell c2, he.cell c3, he.cell c4⟩
end Go.Vint
namespace Go.Proofs.Ythkcifdjfoggeaa
open Go.RowKit Go.BigFrame Go.Vint

theorem thingB_len {kind n u : Int} {s : List UInt8} {L : List Int} (hn1 : -9223372036854775808 ≤ n) (hn2 : n ≤ 9223372036854775807) (hu2 : u ≤ 18446744073709551615) (hL : ∀ x ∈ L, 0 ≤ x ∧ x ≤ 18446744073709551615) :
    (thingB kind n u s L).length ≤ 1000 := by
  have h1 := uintB_le hu2
  have h2 := uintB_le (foldI_bd hn1 hn2).2
  have h3 := risingL_rises hL
  have h3l := risingL_len L
  have h4 := flat_pairs_rises h3
  have h4l := spansL_len L
  have h5 : (uintB (s.take 200).length).length ≤ 10 := uintB_le (u := ((s.take 200).length : Int)) (by simp only [List.length_take]; omega)
  have h6 : (uintB (risingL L).length).length ≤ 10 := uintB_le (u := ((risingL L).length : Int)) (by omega)
  have h7 : (uintB (spansL L).length).length ≤ 10 := uintB_le (u := ((spansL L).length : Int)) (by omega)
  have h8 := numsB_len (gaps (risingL L)) (gaps_bd h3)
  have h9 := numsB_len (gaps (flat (spansL L))) (gaps_bd h4)
  have h10 : (flat (spansL L)).length = 2 * (spansL L).length := by
    generalize spansL L = p
    induction p with
    | nil => rfl
    | cons a r ih => simp [flat] at ih ⊢; omega
  rw [gaps_length] at h8 h9
  unfold thingB
  split; · omega
  split; · omega
  split; · simp only [textB, List.length_append, List.length_take] at h5 ⊢; omega
  split; · simp only [risingB, List.length_append]; omega
  split; · simp only [spansB, List.length_append]; omega
  simp

theorem VintWrites_any (A : Option Addr) (c : Nat) (T : List Thing) (w : World) (hr : ReadsT w A T) (hT : T.length ≤ 9223372036854775807) :
    Calls Try.prog 3 #[.slice A T.length c] w fun e w' => e = .returned (.bool true) ∧ Ext w w' := by
  have HB := BufAt.start w 25 5
  have HR := Lib.hid hr; clear hr
  go_enter Try.func3, Try.ntmps3
  go_wp2_with fail
  go_loopw [4, 5] (fun s t wr => ∃ (k : Nat) (l : List UInt8) (v : Value), t = .int .i64 k ∧ k ≤ T.length ∧ k ≤ 30 ∧ Ext w wr ∧ s = .string (bs l) ∧ l.length ≤ k * 1000 ∧ BufAt wr 25 5 w.heap.size v (w.heap.size + 1) l) (fun _ t _ => 30 - (intOf t).toNat)
  case atStart => exact ⟨0, [], _, rfl, by omega, by omega, (Ext.refl _).alloc _, rfl, by simp, HB⟩
  case round =>
    obtain ⟨k, l, v, rfl, hk, hk30, hE, rfl, hl, hB⟩ := hrel
    clear HB
    by_cases hlt : k < T.length
    · by_cases hlt30 : k < 30
      · obtain ⟨t, ht⟩ : ∃ t, T[k]? = some t := ⟨T[k], by simp [hlt]⟩
        obtain ⟨hok0, b0, off, rfl, hb0, c0, c1, c2, c3, c4⟩ := HR.out k t ht
        obtain ⟨kind, n, u, s, At, ct, L⟩ := t
        have hok := hok0.ext hE
        obtain ⟨k1, k2, n1, n2, u1, u2, hs, hrU, hL, hLl⟩ := hok
        simp only at c0 c1 c2 c3 c4 k1 k2 n1 n2 u1 u2 hs hrU hL hLl
        replace c0 := hE.cell c0
        replace c1 := hE.cell c1
        replace c2 := hE.cell c2
        replace c3 := hE.cell c3
        replace c4 := hE.cell c4
        have hfar : L ≠ [] → Far At w.heap.size v.ownBlock := hok0.hr.far (Nat.le_refl _) (fun g hg => by obtain ⟨n, hown⟩ := hB.own; have := (hown.lt g hg).1; omega)
        have hlen := thingB_len (kind := kind) (s := s.data.toList) n1 n2 u2 hL
        obtain ⟨m, hm⟩ : ∃ m, Hid (thingB kind n u s.data.toList L = m) := ⟨_, rfl⟩
        have hm1 : m.length ≤ 1000 := by rw [← hm.out]; exact hlen
        have hput := Lib.hid (put_any kind n u s At ct L wr w.heap.size v (w.heap.size + 1) l k1 k2 n1 n2 u1 u2 hs hrU hL hLl hfar hB (by have := hB.lt; omega) (by omega))
        have HB := Lib.hid hB; clear hB
        have HE := Lib.hid hE; clear hE
        clear hfar hL hrU hok0
        go_wp2_with fail
        refine hput.out.mono ?_
        rw [hm.out]
        rintro e w2 ⟨rfl, hW⟩
        obtain ⟨hE2, v2, hB2, _⟩ := hW.toExt HB.out HE.out (by omega) (by omega)
        clear hput hW
        have HB2 := Lib.hid hB2; clear hB2
        have HE2 := Lib.hid hE2; clear hE2
        go_wp2_with fail
        go_roundw
        case rel => exact ⟨k + 1, l ++ m, v2, by go_num, by omega, by omega, HE2.out, by rw [bs_append], by rw [List.length_append]; omega, HB2.out⟩
        case measure => simp [intOf]; omega
      · obtain rfl : k = 30 := by omega
        go_wp2_with fail
        refine (awake_any _).mono ?_
        rintro e w2 ⟨rfl, hE2⟩
        have hB2 := hB.ext hE2
        go_wp2_with (go_at_call 12; refine (wBytes _ _ _ _ _ hB2).mono ?_; rintro e w8 ⟨rfl, rfl⟩)
        go_ret
        exact ⟨rfl, hE.trans hE2⟩
    · obtain rfl : k = T.length := by omega
      go_wp2_with fail
      refine (awake_any _).mono ?_
      rintro e w2 ⟨rfl, hE2⟩
      have hB2 := hB.ext hE2
      go_wp2_with (go_at_call 12; refine (wBytes _ _ _ _ _ hB2).mono ?_; rintro e w8 ⟨rfl, rfl⟩)
      go_ret
      exact ⟨rfl, hE.trans hE2⟩
end Go.Proofs.Ythkcifdjfoggeaa
