/- Opening arguments: slices of numbers, things. No program in sight. -/
import Derived.Test.YthkcifdjfoggeaaVintL
import Derived.Deep.Slices
import Derived.ProofKit
namespace Go.Vint
open Go Go.RowKit Go.BigFrame Go.Deep

theorem cell_addr {w : World} {a : Addr} {v : Value} (h : w.cell? a = some v) : ∃ b off, a = ⟨b, off, none⟩ ∧ b < w.heap.size := by
  obtain ⟨b, off, sp⟩ := a
  have hsp : sp = none := by
    cases sp with
    | none => rfl
    | some s =>
      unfold World.cell? at h
      split at h <;> simp at h
  subst hsp
  refine ⟨b, off, rfl, ?_⟩
  rcases Nat.lt_or_ge b w.heap.size with hb | hb
  · exact hb
  · have : w.heap[b]? = none := by simp; omega
    simp [World.cell?, this] at h

theorem addr_zero {a : Addr} {b off : Nat} (h : a.add 0 = ⟨b, off, none⟩) : a = ⟨b, off, none⟩ := by
  simpa [Addr.add] using h

variable {H : Type} {enc : TypeId × Value → H} {P : Program} {w : World} {base : Nat} {spare : Nat → Bool} {held : Bool} {fuel : Nat} {t e : TypeId} {x : DataW H × List MemPlace}
theorem u64_bounds {n : Int} (h : (Lit.int .u64 n).wf = true) : 0 ≤ n ∧ n ≤ 18446744073709551615 := by
  simp [Lit.wf, IntKind.min, IntKind.max, IntKind.signed, IntKind.bits] at h
  omega
theorem i64_bounds {n : Int} (h : (Lit.int .i64 n).wf = true) : -9223372036854775808 ≤ n ∧ n ≤ 9223372036854775807 := by
  simp [Lit.wf, IntKind.min, IntKind.max, IntKind.signed, IntKind.bits] at h
  omega

theorem open_u64s {v : Value} (ht : P.underlying t = some (.slice e)) (he : P.underlying e = some (.int .u64)) (hc : P.cellsOf e = 1) (h : DataW.trod enc P w base spare held fuel t [v] = some x) :
    ∃ A c L, v = .slice A L.length c ∧ ReadsU w A c L ∧ (∀ x ∈ L, 0 ≤ x ∧ x ≤ 18446744073709551615) ∧ L.length ≤ 9223372036854775807 := by
  rcases open_slice1 ht hc h with ⟨hcs, _⟩ | ⟨a, len, cap, m, n, V, D, Pl, hcs, hb, hl, hm, hmm, _, hx⟩
  · injection hcs with hcs
    subst hcs
    exact ⟨none, 0, [], rfl, Reads.nil w 1, by simp, by simp⟩
  · injection hcs with hcs
    subst hcs
    have hle : len ≤ m := by rw [hmm]; split <;> omega
    have hV : ∀ i, i < len → ∃ n : Int, V i = .int .u64 n ∧ 0 ≤ n ∧ n ≤ 18446744073709551615 := fun i hi => by
      obtain ⟨n, h1, _, h2⟩ := DataW.trod_int he (hx i (by omega)).2
      injection h1 with h1
      exact ⟨n, h1, u64_bounds h2⟩
    obtain ⟨N, hN⟩ := choose_lt (α := Int) hV
    refine ⟨some a, cap, (List.range len).map N, by simp, ⟨by simp, some a, cap, rfl, by simp; exact hl, fun hn => ?_⟩, ?_, ?_⟩
    · simp only [List.length_map, List.length_range] at hn
      obtain ⟨b, off, ha, hlt⟩ := cell_addr (hx 0 (by omega)).1
      have ha := addr_zero ha
      subst ha
      refine ⟨b, off, rfl, hlt, fun j u hu => ?_⟩
      simp only [u64Cells, List.map_map] at hu
      obtain ⟨hj, hu⟩ := List.getElem?_eq_some_iff.1 hu
      simp only [List.length_map, List.length_range] at hj
      simp at hu
      have := (hx j (by omega)).1
      rw [addr_add, (hN j hj).1] at this
      rw [this, ← hu]
    · intro y hy
      simp only [List.mem_map, List.mem_range] at hy
      obtain ⟨i, hi, rfl⟩ := hy
      exact (hN i hi).2
    · simp only [List.length_map, List.length_range]
      unfold maxLen at hm; omega

instance : Inhabited Thing := ⟨⟨0, 0, 0, ⟨#[]⟩, none, 0, []⟩⟩
def Thing.cs (t : Thing) : List Value := [.int .i64 t.kind, .int .i64 t.n, .int .u64 t.u, .string t.s, .slice t.A t.L.length t.c]

/-- How a thing's type lies. -/
structure ThingType (P : Program) (T : TypeId) where
  F0 : Field
  F1 : Field
  F2 : Field
  F3 : Field
  F4 : Field
  eU : TypeId
  hT : P.underlying T = some (.struct #[F0, F1, F2, F3, F4])
  o0 : F0.offset = 0
  o1 : F1.offset = 1
  o2 : F2.offset = 2
  o3 : F3.offset = 3
  o4 : F4.offset = 4
  u0 : P.underlying F0.type = some (.int .i64)
  u1 : P.underlying F1.type = some (.int .i64)
  u2 : P.underlying F2.type = some (.int .u64)
  u3 : P.underlying F3.type = some .string
  u4 : P.underlying F4.type = some (.slice eU)
  ue : P.underlying eU = some (.int .u64)
  c0 : P.cellsOf F0.type = 1
  c1 : P.cellsOf F1.type = 1
  c2 : P.cellsOf F2.type = 1
  c3 : P.cellsOf F3.type = 1
  c4 : P.cellsOf F4.type = 1
  ce : P.cellsOf eU = 1
  cT : P.cellsOf T = 5

theorem open_thing {T : TypeId} (τ : ThingType P T) {cs : List Value} (h : DataW.trod enc P w base spare held fuel T cs = some x) : ∃ t : Thing, t.Ok w ∧ cs = t.cs := by
  obtain ⟨xs, n, _, _, hlen, hxl, hfd⟩ := DataW.trod_struct τ.hT h
  rw [τ.cT] at hlen
  obtain ⟨a0, a1, a2, a3, a4, rfl⟩ : ∃ a0 a1 a2 a3 a4, cs = [a0, a1, a2, a3, a4] := by
    match cs, hlen with
    | [a0, a1, a2, a3, a4], _ => exact ⟨a0, a1, a2, a3, a4, rfl⟩
  have hxl : xs.length = 5 := hxl
  have g0 := hfd 0 τ.F0 rfl
  have g1 := hfd 1 τ.F1 rfl
  have g2 := hfd 2 τ.F2 rfl
  have g3 := hfd 3 τ.F3 rfl
  have g4 := hfd 4 τ.F4 rfl
  rw [τ.o0, τ.c0, List.getElem?_eq_getElem (by omega)] at g0
  rw [τ.o1, τ.c1, List.getElem?_eq_getElem (by omega)] at g1
  rw [τ.o2, τ.c2, List.getElem?_eq_getElem (by omega)] at g2
  rw [τ.o3, τ.c3, List.getElem?_eq_getElem (by omega)] at g3
  rw [τ.o4, τ.c4, List.getElem?_eq_getElem (by omega)] at g4
  obtain ⟨k, e0, _, w0⟩ := DataW.trod_int τ.u0 g0
  obtain ⟨m, e1, _, w1⟩ := DataW.trod_int τ.u1 g1
  obtain ⟨u, e2, _, w2⟩ := DataW.trod_int τ.u2 g2
  obtain ⟨s, e3, _, w3⟩ := DataW.trod_string τ.u3 g3
  obtain ⟨A, c, L, e4, hr, hL, hl⟩ := open_u64s τ.u4 τ.ue τ.ce g4
  simp at e0 e1 e2 e3 e4
  subst e0 e1 e2 e3 e4
  refine ⟨⟨k, m, u, s, A, c, L⟩, ⟨(i64_bounds w0).1, (i64_bounds w0).2, (i64_bounds w1).1, (i64_bounds w1).2, (u64_bounds w2).1, (u64_bounds w2).2, ?_, hr, hL, hl⟩, rfl⟩
  unfold maxLen at w3; simp only; omega

theorem open_things {T : TypeId} (τ : ThingType P T) {v : Value} (ht : P.underlying t = some (.slice T)) (h : DataW.trod enc P w base spare held fuel t [v] = some x) :
    ∃ A c Ts, v = .slice A (List.length Ts) c ∧ ReadsT w A Ts ∧ Ts.length ≤ 9223372036854775807 := by
  rcases open_slice ht h with ⟨hcs, _⟩ | ⟨a, len, cap, m, n, D, Pl, hcs, hb, hl, hm, hmm, _, hx⟩
  · injection hcs with hcs
    subst hcs
    exact ⟨none, 0, [], rfl, fun k t hk => by simp at hk, by simp⟩
  · injection hcs with hcs
    subst hcs
    have hle : len ≤ m := by rw [hmm]; split <;> omega
    rw [τ.cT] at hx
    have hV : ∀ i, i < len → ∃ t : Thing, t.Ok w ∧ ∀ j, j < 5 → w.cell? ((a.add (i * 5)).add j) = t.cs[j]? := fun i hi => by
      obtain ⟨cs', h1, h2⟩ := hx i (by omega)
      obtain ⟨t, hok, rfl⟩ := open_thing τ h2
      exact ⟨t, hok, (World.cells?_some h1).2.2⟩
    obtain ⟨N, hN⟩ := choose_lt (α := Thing) hV
    refine ⟨some a, cap, (List.range len).map N, by simp, fun k t hk => ?_, ?_⟩
    · obtain ⟨hj, hk⟩ := List.getElem?_eq_some_iff.1 hk
      simp only [List.length_map, List.length_range] at hj
      simp at hk
      subst hk
      obtain ⟨hok, hc⟩ := hN k hj
      have c0 := hc 0 (by omega)
      have c1 := hc 1 (by omega)
      have c2 := hc 2 (by omega)
      have c3 := hc 3 (by omega)
      have c4 := hc 4 (by omega)
      obtain ⟨b, off, ha, hlt⟩ := cell_addr (((hN 0 (by omega)).2 0 (by omega)).trans rfl)
      rw [Nat.zero_mul] at ha
      have ha := addr_zero (addr_zero ha)
      subst ha
      simp only [addr_add] at c0 c1 c2 c3 c4
      exact ⟨hok, b, off, rfl, hlt, c0, c1, c2, c3, c4⟩
    · simp only [List.length_map, List.length_range]
      unfold maxLen at hm; omega
end Go.Vint
