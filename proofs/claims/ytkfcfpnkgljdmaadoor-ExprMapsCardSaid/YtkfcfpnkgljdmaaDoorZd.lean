/- A builder's copyCheck and String: what they do to the world; how it fits the abstract walk. · The library's contracts, for the abstract walk: decoding, counting, the builder. · Decoding and counting signs; what the builder writes. -/
import Derived.Test.YtkfcfpnkgljdmaaDoorBp
import Derived.Test.YtkfcfpnkgljdmaaDoorShelf
import Derived.Test.YtkfcfpnkgljdmaaDoorWa
import Derived.Test.YtkfcfpnkgljdmaaDoorZa
import Derived.Test.YtkfcfpnkgljdmaaDoorZu
import Derived.Lib.LaidU8
namespace Go.A
open Go.Proofs Go.Shelf Go.RowKit
set_option linter.unusedSimpArgs false
set_option linter.unusedVariables false

section
variable {P : Program} {ρ : Ren}
set_option maxHeartbeats 2000000 in
set_option maxRecDepth 100000 in
theorem bstr_used (L : Lays.n169 P ρ) (X : Builder.Extra P ρ) (b g cap size : Nat) (l : List UInt8) (w : World) (h0 : l ≠ []) (hc1 : w.cell? ⟨b, 1, none⟩ = some (.slice (some ⟨g, 0, none⟩) l.length cap)) (hcap : cap ≠ 0)
    (hsh : w.shape? g = some (ρ.t 5, size)) (hle : l.length ≤ size) (h63 : l.length ≤ 9223372036854775807) (hcell : ∀ j x, l[j]? = some x → w.cell? ⟨g, j, none⟩ = some (.int .u8 x.toNat)) :
    Calls P (ρ.f 169) #[.pointer (some ⟨b, 0, none⟩)] w fun e w' => e = .returned (.string ⟨l.toArray⟩) ∧ w' = w.drew.freeze ⟨g, 0, none⟩ l.length := by
  have c1 : w.drew.cell? ⟨b, 1, none⟩ = some (.slice (some ⟨g, 0, none⟩) l.length cap) := hc1
  have hSD : (Builtin.unsafeSliceData_ #[(ρ.t 37)] (ρ.t 127) #[.slice (some ⟨g, 0, none⟩) l.length cap]).run P w.drew = .ok (.pointer (some ⟨g, 0, none⟩)) w.drew :=
    Lib.run_unsafeSliceData_row _ _ _ _ _ _ hcap
  have hUS : (Builtin.unsafeString_ #[(ρ.t 127), (ρ.t 3)] (ρ.t 9) #[.pointer (some ⟨g, 0, none⟩), .int .i64 l.length]).run P w.drew = .ok (.string ⟨l.toArray⟩) (w.drew.freeze ⟨g, 0, none⟩ l.length) := by
    refine Lib.run_unsafeString_row w.drew (ρ.t 127) (ρ.t 3) (ρ.t 9) (ρ.t 5) L.t127 X.cellsByte g size hsh l h0 hle h63 ?_
    intro j x hx
    rw [addr_add', Nat.zero_add]
    exact hcell j x hx
  have mixed := L.mixed
  have t72 := L.t72; have a72 := L.a72; have z72 := L.z72; have v72 := L.v72; have u72 := run_underlying L.t72
  have t70 := L.t70; have a70 := L.a70; have z70 := L.z70; have v70 := L.v70; have u70 := run_underlying L.t70
  have t37 := L.t37; have a37 := L.a37; have z37 := L.z37; have v37 := L.v37; have u37 := run_underlying L.t37
  have t127 := L.t127; have a127 := L.a127; have z127 := L.z127; have v127 := L.v127; have u127 := run_underlying L.t127
  have t3 := L.t3; have a3 := L.a3; have z3 := L.z3; have v3 := L.v3; have u3 := run_underlying L.t3
  have t9 := L.t9; have a9 := L.a9; have z9 := L.z9; have v9 := L.v9; have u9 := run_underlying L.t9
  have t5 := X.t5; have a5 := X.a5; have z5 := X.z5; have v5 := X.v5; have u5 := run_underlying X.t5
  go_enter L.f169, Body.n169_ntmps ρ
  go_wp2
  go_region_o
  all_goals (go_wp2; go_ret; exact ⟨rfl, rfl⟩)

set_option maxHeartbeats 2000000 in
set_option maxRecDepth 100000 in
theorem bstr_nil (L : Lays.n169 P ρ) (X : Builder.Extra P ρ) (b : Nat) (w : World) (hc1 : w.cell? ⟨b, 1, none⟩ = some (.slice none 0 0)) :
    Calls P (ρ.f 169) #[.pointer (some ⟨b, 0, none⟩)] w fun e w' => e = .returned (.string ⟨#[]⟩) ∧ w' = w.drew := by
  have hUS := Any.unsafeString_none L X
  have c1 : w.drew.cell? ⟨b, 1, none⟩ = some (.slice none 0 0) := hc1
  have hSD : (Builtin.unsafeSliceData_ #[(ρ.t 37)] (ρ.t 127) #[.slice none 0 0]).run P w.drew = .ok (.pointer none) w.drew := rfl
  have mixed := L.mixed
  have t72 := L.t72; have a72 := L.a72; have z72 := L.z72; have v72 := L.v72; have u72 := run_underlying L.t72
  have t70 := L.t70; have a70 := L.a70; have z70 := L.z70; have v70 := L.v70; have u70 := run_underlying L.t70
  have t37 := L.t37; have a37 := L.a37; have z37 := L.z37; have v37 := L.v37; have u37 := run_underlying L.t37
  have t127 := L.t127; have a127 := L.a127; have z127 := L.z127; have v127 := L.v127; have u127 := run_underlying L.t127
  have t3 := L.t3; have a3 := L.a3; have z3 := L.z3; have v3 := L.v3; have u3 := run_underlying L.t3
  have t9 := L.t9; have a9 := L.a9; have z9 := L.z9; have v9 := L.v9; have u9 := run_underlying L.t9
  have t5 := X.t5; have a5 := X.a5; have z5 := X.z5; have v5 := X.v5; have u5 := run_underlying X.t5
  go_enter L.f169, Body.n169_ntmps ρ
  go_wp2
  go_region_o
  all_goals (go_wp2; go_ret; exact ⟨rfl, rfl⟩)
end

theorem size_bld : (Tryd.prog.info? 49).map (·.size) = some 2 := by kernel_rfl
theorem lies_bld : liesAt Tryd.prog Tryd.prog.depth 49 (2 / Tryd.prog.cellsOf 49) 0 49 1 = true := by kernel_rfl
set_option maxHeartbeats 1000000 in
set_option maxRecDepth 1000000 in
theorem cc_used (b : Nat) (w : World) (h0 : w.cell? ⟨b, 0, none⟩ = some (.pointer (some ⟨b, 0, none⟩))) :
    Calls Tryd.prog 38 #[.pointer (some ⟨b, 0, none⟩)] w fun e w' => e = .returned (.tuple #[]) ∧ w' = w := by
  obtain ⟨j, hj, _⟩ := Option.map_eq_some_iff.1 size_bld
  go_enter Tryd.func38, Tryd.ntmps38
  go_wp2
  rw [Lib.run_neq_ptr_same w _ Tryd.underlying46 hj]
  go_wp2
  go_end0
  exact ⟨rfl, rfl⟩
set_option maxHeartbeats 1000000 in
set_option maxRecDepth 1000000 in
theorem cc_fresh (b : Nat) (w : World) (h0 : w.cell? ⟨b, 0, none⟩ = some (.pointer none)) (hsh : w.shape? b = some (49, 2)) (hfz : w.frozen? ⟨b, 0, none⟩ = false) :
    Calls Tryd.prog 38 #[.pointer (some ⟨b, 0, none⟩)] w fun e w' => e = .returned (.tuple #[]) ∧ w' = w.setCell ⟨b, 0, none⟩ (.pointer (some ⟨b, 0, none⟩)) := by
  obtain ⟨j, hj, hjs⟩ := Option.map_eq_some_iff.1 size_bld
  go_enter Tryd.func38, Tryd.ntmps38
  go_wp2
  rw [Lib.run_to_unsafe w ⟨b, 0, none⟩ Tryd.underlying46 Tryd.underlying86 hj (by rw [hjs]; decide) hsh (Nat.zero_lt_succ 1)]
  simp only [Result.andThen]
  rw [Oper.upon_value]
  go_wp2
  rw [run_callFunc_extern Tryd.func51 (by kernel_rfl) (by kernel_rfl) (by kernel_rfl) (e := Extern.AbiNoEscape.same) (by kernel_rfl)]
  rw [Lib.run_noEscape]
  simp only [Result.andThen]
  rw [Oper.upon_value]
  go_wp2
  rw [Lib.run_from_unsafe w ⟨b, 0, none⟩ Tryd.underlying86 Tryd.underlying46 hj hsh lies_bld]
  simp only [Result.andThen]
  rw [Oper.upon_value]
  go_wp2
  go_end0
  exact ⟨rfl, rfl⟩
end Go.A
namespace Go.A
open Go.Proofs
set_option maxRecDepth 100000
set_option linter.unusedSimpArgs false
set_option linter.unusedVariables false

/-- A fresh builder is an object. -/
theorem ACalls.typ_obj {P : Program} {f : FuncId} {args : List AV} {σ : ASt} {R : AV → ASt → Prop} {b : Nat} {T : TypeId} (hb : σ b = some (.typ T [.pointer none, .slice none 0 0]))
    (h : ACalls P f args (σ.set b (some (.obj [.nilp, .sl .full []]))) R) : ACalls P f args σ R := by
  intro w vs hs ha
  have hle : ∀ {w' : World}, w' = w → Le σ w (σ.set b (some (.obj [.nilp, .sl .full []]))) w' := by
    rintro _ rfl
    refine ⟨rfl, rfl, rfl, Nat.le_refl _, fun x hx hn => ?_, fun x cs hx hn => ?_, fun x f hx hn => ?_⟩
    all_goals have hne : x ≠ b := by rintro rfl; rw [hb] at hn; cases hn
    · rw [ASt.set_ne hne]; exact ⟨hn, rfl⟩
    · rw [ASt.set_ne hne]; exact ⟨.inr hn, rfl⟩
    · rw [ASt.set_ne hne]; exact ⟨.inr ⟨f, Nat.le_refl _, hn⟩, rfl, fun _ _ => rfl⟩
  have hsim : Sim (σ.set b (some (.obj [.nilp, .sl .full []]))) w := by
    intro x q hx
    by_cases hne : x = b
    · subst hne
      rw [ASt.set_same] at hx
      injection hx with hx
      subst hx
      have h1 := hs x _ hb
      refine ⟨_, _, _, h1, .cons .nilp (.cons .slN .nil), fun o ho => ?_⟩
      have h1 : w.heap[x]? = some (.cells ⟨[.pointer none, .slice none 0 0]⟩ T (0, 0)) := h1
      simp only [World.frozen?, h1]
      simp
    · rw [ASt.set_ne hne] at hx
      exact (hs x q hx).keep (hle rfl) rfl
  exact (h w vs hsim (ha.mono (hle rfl))).mono fun e w' ⟨u, r, σ', he, hR, hl, h1, h2⟩ => ⟨u, r, σ', he, hR, (hle rfl).trans hl, h1, h2⟩

theorem copyCheck_typ {σ : ASt} {b : Nat} (h : σ b = some (.typ 49 [.pointer none, .slice none 0 0])) :
    ACalls Tryd.prog 38 [.ptr b 0] σ fun v σ' => v = .tuple [] ∧ σ' = σ.set b (some (.obj [.ptr b 0, .sl .full []])) := by
  intro w vs hs ha
  cases ha with
  | cons h1 h2 =>
  cases h1; cases h2
  have hb : w.heap[b]? = some (.cells ⟨[.pointer none, .slice none 0 0]⟩ 49 (0, 0)) := hs b _ h
  refine (cc_fresh b w (by simp [World.cell?, hb]) (by simp [World.shape?, hb]) (by simp [World.frozen?, hb])).mono ?_
  rintro e w' ⟨rfl, rfl⟩
  have hw := Wrote.setCell (o := 0) hb (.pointer (some ⟨b, 0, none⟩))
  have hle : Le σ w (σ.set b (some (.obj [.ptr b 0, .sl .full []]))) (w.setCell ⟨b, 0, none⟩ (.pointer (some ⟨b, 0, none⟩))) := by
    refine ⟨hw.os, hw.tape, hw.output, by rw [hw.size]; exact Nat.le_refl _, fun x hx hn => ?_, fun x cs hx hn => ?_, fun x f hx hn => ?_⟩
    all_goals have hne : x ≠ b := by rintro rfl; rw [h] at hn; cases hn
    · rw [ASt.set_ne hne]; exact ⟨hn, hw.other x hne⟩
    · rw [ASt.set_ne hne]; exact ⟨.inr hn, hw.other x hne⟩
    · rw [ASt.set_ne hne]; exact ⟨.inr ⟨f, Nat.le_refl _, hn⟩, shape_of_heap_eq (hw.other x hne), fun o _ => cell_of_heap_eq (hw.other x hne) o⟩
  have hro : RoleOk (σ.set b (some (.obj [.ptr b 0, .sl .full []]))) (w.setCell ⟨b, 0, none⟩ (.pointer (some ⟨b, 0, none⟩))) b (.obj [.ptr b 0, .sl .full []]) := by
    refine ⟨_, _, _, hw.new, ?_, fun o ho => ?_⟩
    · exact .cons (.ptr _ _) (.cons .slN .nil)
    · rw [hw.frozen]
      simp only [World.frozen?, hb]
      simp
  exact ⟨_, _, _, rfl, ⟨rfl, rfl⟩, hle, hw.sim hs hle hro, .tuple .nil⟩
theorem copyCheck_used {σ : ASt} {b : Nat} {x : AV} (h : σ b = some (.obj [.ptr b 0, x])) : ACalls Tryd.prog 38 [.ptr b 0] σ fun v σ' => v = .tuple [] ∧ σ' = σ := by
  intro w vs hs ha
  cases ha with
  | cons h1 h2 =>
  cases h1; cases h2
  obtain ⟨us, h3, h4, _⟩ := hs.objCell h
  cases h3 with
  | cons h5 h6 =>
  cases h5
  refine (cc_used b w (h4 0 _ rfl)).mono ?_
  rintro e w' ⟨rfl, rfl⟩
  exact ⟨_, _, _, rfl, ⟨rfl, rfl⟩, Le.refl _ _, hs, .tuple .nil⟩

theorem bstring_typ {σ : ASt} {b : Nat} (h : σ b = some (.typ 49 [.pointer none, .slice none 0 0])) : ACalls Tryd.prog 19 [.ptr b 0] σ fun v σ' => v = .str [] ∧ σ' = σ := by
  intro w vs hs ha
  cases ha with
  | cons h1 h2 =>
  cases h1; cases h2
  have hb : w.heap[b]? = some (.cells ⟨[.pointer none, .slice none 0 0]⟩ 49 (0, 0)) := hs b _ h
  refine (bstr_nil Tryd.lays169 Tryd.Builder_Extra_169 b w (by simp [World.cell?, hb])).mono ?_
  rintro e w' ⟨rfl, rfl⟩
  have hx : Ext w w.drew := Ext.drew (Ext.refl w)
  exact ⟨_, _, _, rfl, ⟨rfl, rfl⟩, ext_le hx, hs.ext hx, .str []⟩
theorem row_bytes {σ : ASt} {w : World} {b : Nat} : ∀ {l : List UInt8} {o : Nat}, Row σ w b o 1 (bytesAV l) → ∀ j x, l[j]? = some x → w.cell? ⟨b, o + j, none⟩ = some (.int .u8 x.toNat)
  | [], o, h, j, x, hj => by simp at hj
  | c :: l, o, h, j, x, hj => by
    cases h with
    | cons h1 h2 h3 =>
    cases j with
    | zero =>
      simp only [List.getElem?_cons_zero, Option.some.injEq] at hj
      subst hj
      cases h2 with
      | cons g1 g2 g3 g4 =>
      cases g3
      exact g2
    | succ j =>
      have := row_bytes (l := l) h3 j x (by simpa using hj)
      rw [show o + (j + 1) = o + 1 + j by omega]
      exact this
theorem bstring_used {σ : ASt} {b g : Nat} {p : AV} {l : List UInt8} (h0 : l ≠ []) (hl : l.length ≤ 9223372036854775807) (h : σ b = some (.obj [p, .sl (.tok g 1 5) (bytesAV l)])) (hg : σ g = some (.tok l.length)) :
    ACalls Tryd.prog 19 [.ptr b 0] σ fun v σ' => v = .str l ∧ σ' = σ := by
  intro w vs hs ha
  cases ha with
  | cons h1 h2 =>
  cases h1; cases h2
  obtain ⟨us, h3, h4, h9⟩ := hs.objCell h
  cases h3 with
  | cons h5 h6 =>
  cases h6 with
  | cons h7 h8 =>
  cases h8
  obtain ⟨c, T, fr, k1, k2, k3⟩ := hs g _ hg
  have hlen : (bytesAV l).length = l.length := by simp [bytesAV]
  generalize hbl : bytesAV l = bl at h7
  cases h7 with
  | sl r1 r2 r3 r4 r5 =>
  subst hbl
  obtain ⟨rfl, rfl, rfl, r6, r7⟩ := r4
  have hpos : 0 < l.length := List.length_pos_iff.2 h0
  subst r2
  rw [hlen] at r3
  have hc1 := h4 1 _ rfl
  rw [hlen] at hc1
  refine (bstr_used Tryd.lays169 Tryd.Builder_Extra_169 b g _ _ l w h0 hc1 (by omega) r6 (by omega) hl ?_).mono ?_
  · intro j x hj
    have := row_bytes r1 j x hj
    simpa using this
  rintro e w' ⟨rfl, rfl⟩
  have hother : ∀ x, x ≠ g → (w.drew.freeze ⟨g, 0, none⟩ l.length).heap[x]? = w.heap[x]? := by
    intro x hx
    simp only [World.freeze]
    rw [if_neg (by omega)]
    simp only [Array.getElem?_modify]
    rw [if_neg (Ne.symm hx)]
    rfl
  obtain ⟨lo, hi⟩ := fr
  have hk1 : w.drew.heap[g]? = some (.cells c T (lo, hi)) := k1
  obtain ⟨fr', hfr, hnew⟩ : ∃ fr' : Nat × Nat, fr'.2 ≤ l.length ∧ (w.drew.freeze ⟨g, 0, none⟩ l.length).heap[g]? = some (.cells c T fr') := by
    refine ⟨if lo == hi then (0, 0 + l.length) else (min lo 0, max hi (0 + l.length)), ?_, ?_⟩
    · dsimp only at k3
      split <;> dsimp only <;> omega
    · simp only [World.freeze]
      rw [if_neg (by omega)]
      simp only [Array.getElem?_modify, if_true, hk1, Option.map_some]
  have hshape : (w.drew.freeze ⟨g, 0, none⟩ l.length).shape? g = w.shape? g := by simp only [World.shape?, hnew, k1]
  have hcells : ∀ o, (w.drew.freeze ⟨g, 0, none⟩ l.length).cell? ⟨g, o, none⟩ = w.cell? ⟨g, o, none⟩ := fun o => by simp only [World.cell?, hnew, k1]
  have hle : Le σ w σ (w.drew.freeze ⟨g, 0, none⟩ l.length) := by
    refine ⟨?_, ?_, ?_, ?_, fun x hx hn => ?_, fun x cs hx hn => ?_, fun x f hx hn => ?_⟩
    · simp only [World.freeze]; split <;> rfl
    · simp only [World.freeze]; split <;> rfl
    · simp only [World.freeze]; split <;> rfl
    · simp only [World.freeze]; split
      · exact Nat.le_refl _
      · rw [Array.size_modify]; exact Nat.le_refl _
    · have hne : x ≠ g := by rintro rfl; rw [hg] at hn; cases hn
      exact ⟨hn, hother x hne⟩
    · have hne : x ≠ g := by rintro rfl; rw [hg] at hn; cases hn
      exact ⟨.inr hn, hother x hne⟩
    · by_cases hne : x = g
      · subst hne
        exact ⟨.inr ⟨f, Nat.le_refl _, hn⟩, hshape, fun o _ => hcells o⟩
      · exact ⟨.inr ⟨f, Nat.le_refl _, hn⟩, shape_of_heap_eq (hother x hne), fun o _ => cell_of_heap_eq (hother x hne) o⟩
  have hsim : Sim σ (w.drew.freeze ⟨g, 0, none⟩ l.length) := by
    intro x q hx
    by_cases hne : x = g
    · subst hne
      rw [hg] at hx
      injection hx with hx
      subst hx
      exact ⟨c, T, fr', hnew, k2, hfr⟩
    · exact (hs x q hx).keep hle (hother x hne)
  exact ⟨_, _, _, rfl, ⟨rfl, rfl⟩, hle, hsim, .str l⟩
end Go.A
