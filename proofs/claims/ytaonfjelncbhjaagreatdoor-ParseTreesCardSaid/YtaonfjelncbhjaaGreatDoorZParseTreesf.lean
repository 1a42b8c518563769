/- Part 6 of what ParseTrees leans on: Zd CodeEq Eq CodeWb Wb Hc Hd Hf CodeZe Ze CodeZg Zg CodeZw Zw CodeEb Eb CodeEc. -/
import Derived.Lib.LaidU8
import Derived.Test.YtaonfjelncbhjaaGreatDoorProg
import Derived.KernelRfl
import Derived.Lib.Replace
import Derived.Lib.ItoaMem
import Derived.Lib.AppendIntMem
import Derived.BigCall
import Derived.BigGuard
import Derived.Test.YtaonfjelncbhjaaGreatDoorZParseTreese
set_option linter.defProp false
set_option linter.unusedSimpArgs false
set_option linter.unusedVariables false
set_option maxRecDepth 100000
namespace Go.A
open Go.Proofs Go.Shelf Go.RowKit
section
variable {P : Program} {ρ : Ren}
set_option maxHeartbeats 2000000 in
theorem bstr_used (L : Lays.n169 P ρ) (X : Builder.Extra P ρ) (b g cap size : Nat) (l : List UInt8) (w : World) (h0 : l ≠ []) (hc1 : w.cell? ⟨b, 1, none⟩ = some (.slice (some ⟨g, 0, none⟩) l.length cap)) (hcap : cap ≠ 0)
  (hsh : w.shape? g = some (ρ.t 5, size)) (hle : l.length ≤ size) (h63 : l.length ≤ 9223372036854775807) (hcell : ∀ j x, l[j]? = some x → w.cell? ⟨g, j, none⟩ = some (.int .u8 x.toNat)) :
  Calls P (ρ.f 169) #[.pointer (some ⟨b, 0, none⟩)] w fun e w' => e = .returned (.string ⟨l.toArray⟩) ∧ w' = w.drew.freeze ⟨g, 0, none⟩ l.length := by
 have c1 : w.drew.cell? ⟨b, 1, none⟩ = some (.slice (some ⟨g, 0, none⟩) l.length cap) := hc1
 have hSD : (Builtin.unsafeSliceData_ #[(ρ.t 37)] (ρ.t 127) #[.slice (some ⟨g, 0, none⟩) l.length cap]).run P w.drew = .ok (.pointer (some ⟨g, 0, none⟩)) w.drew :=
  Lib.run_unsafeSliceData_row _ _ _ _ _ _ hcap
 have hUS : (Builtin.unsafeString_ #[(ρ.t 127), (ρ.t 3)] (ρ.t 9) #[.pointer (some ⟨g, 0, none⟩), .int .i64 l.length]).run P w.drew = .ok (.string ⟨l.toArray⟩) (w.drew.freeze ⟨g, 0, none⟩ l.length) := by
  refine Lib.run_unsafeString_row w.drew (ρ.t 127) (ρ.t 3) (ρ.t 9) (ρ.t 5) L.t127 X.cellsByte g size hsh l h0 hle h63 ?_
  intro j x hx
  rw [addr_add', Nat.zero_add]
  exact hcell j x hx
 have mixed := L.mixed
 have t72 := L.t72; have a72 := L.a72; have z72 := L.z72; have v72 := L.v72; have u72 := run_underlying L.t72
 have t70 := L.t70; have a70 := L.a70; have z70 := L.z70; have v70 := L.v70; have u70 := run_underlying L.t70
 have t37 := L.t37; have a37 := L.a37; have z37 := L.z37; have v37 := L.v37; have u37 := run_underlying L.t37
 have t127 := L.t127; have a127 := L.a127; have z127 := L.z127; have v127 := L.v127; have u127 := run_underlying L.t127
 have t3 := L.t3; have a3 := L.a3; have z3 := L.z3; have v3 := L.v3; have u3 := run_underlying L.t3
 have t9 := L.t9; have a9 := L.a9; have z9 := L.z9; have v9 := L.v9; have u9 := run_underlying L.t9
 have t5 := X.t5; have a5 := X.a5; have z5 := X.z5; have v5 := X.v5; have u5 := run_underlying X.t5
 go_enter L.f169, Body.n169_ntmps ρ
 go_wp2
 go_region_o
 all_goals (go_wp2; go_ret; exact ⟨rfl, rfl⟩)
set_option maxHeartbeats 2000000 in
theorem bstr_nil (L : Lays.n169 P ρ) (X : Builder.Extra P ρ) (b : Nat) (w : World) (hc1 : w.cell? ⟨b, 1, none⟩ = some (.slice none 0 0)) :
  Calls P (ρ.f 169) #[.pointer (some ⟨b, 0, none⟩)] w fun e w' => e = .returned (.string ⟨#[]⟩) ∧ w' = w.drew := by
 have hUS := Any.unsafeString_none L X
 have c1 : w.drew.cell? ⟨b, 1, none⟩ = some (.slice none 0 0) := hc1
 have hSD : (Builtin.unsafeSliceData_ #[(ρ.t 37)] (ρ.t 127) #[.slice none 0 0]).run P w.drew = .ok (.pointer none) w.drew := rfl
 have mixed := L.mixed
 have t72 := L.t72; have a72 := L.a72; have z72 := L.z72; have v72 := L.v72; have u72 := run_underlying L.t72
 have t70 := L.t70; have a70 := L.a70; have z70 := L.z70; have v70 := L.v70; have u70 := run_underlying L.t70
 have t37 := L.t37; have a37 := L.a37; have z37 := L.z37; have v37 := L.v37; have u37 := run_underlying L.t37
 have t127 := L.t127; have a127 := L.a127; have z127 := L.z127; have v127 := L.v127; have u127 := run_underlying L.t127
 have t3 := L.t3; have a3 := L.a3; have z3 := L.z3; have v3 := L.v3; have u3 := run_underlying L.t3
 have t9 := L.t9; have a9 := L.a9; have z9 := L.z9; have v9 := L.v9; have u9 := run_underlying L.t9
 have t5 := X.t5; have a5 := X.a5; have z5 := X.z5; have v5 := X.v5; have u5 := run_underlying X.t5
 go_enter L.f169, Body.n169_ntmps ρ
 go_wp2
 go_region_o
 all_goals (go_wp2; go_ret; exact ⟨rfl, rfl⟩)
end
theorem size_bld : (Tryz.prog.info? 55).map (·.size) = some 2 := by kernel_rfl
theorem lies_bld : liesAt Tryz.prog Tryz.prog.depth 55 (2 / Tryz.prog.cellsOf 55) 0 55 1 = true := by kernel_rfl
set_option maxHeartbeats 1000000 in
set_option maxRecDepth 1000000 in
theorem cc_used (b : Nat) (w : World) (h0 : w.cell? ⟨b, 0, none⟩ = some (.pointer (some ⟨b, 0, none⟩))) :
  Calls Tryz.prog 50 #[.pointer (some ⟨b, 0, none⟩)] w fun e w' => e = .returned (.tuple #[]) ∧ w' = w := by
 obtain ⟨j, hj, _⟩ := Option.map_eq_some_iff.1 size_bld
 go_enter Tryz.func50, Tryz.ntmps50
 go_wp2
 rw [Lib.run_neq_ptr_same w _ Tryz.underlying52 hj]
 go_wp2
 go_end0
 exact ⟨rfl, rfl⟩
set_option maxHeartbeats 1000000 in
set_option maxRecDepth 1000000 in
theorem cc_fresh (b : Nat) (w : World) (h0 : w.cell? ⟨b, 0, none⟩ = some (.pointer none)) (hsh : w.shape? b = some (55, 2)) (hfz : w.frozen? ⟨b, 0, none⟩ = false) :
  Calls Tryz.prog 50 #[.pointer (some ⟨b, 0, none⟩)] w fun e w' => e = .returned (.tuple #[]) ∧ w' = w.setCell ⟨b, 0, none⟩ (.pointer (some ⟨b, 0, none⟩)) := by
 obtain ⟨j, hj, hjs⟩ := Option.map_eq_some_iff.1 size_bld
 go_enter Tryz.func50, Tryz.ntmps50
 go_wp2
 rw [Lib.run_to_unsafe w ⟨b, 0, none⟩ Tryz.underlying52 Tryz.underlying109 hj (by rw [hjs]; decide) hsh (Nat.zero_lt_succ 1)]
 simp only [Result.andThen]
 rw [Oper.upon_value]
 go_wp2
 rw [run_callFunc_extern Tryz.func73 (by kernel_rfl) (by kernel_rfl) (by kernel_rfl) (e := Extern.AbiNoEscape.same) (by kernel_rfl)]
 rw [Lib.run_noEscape]
 simp only [Result.andThen]
 rw [Oper.upon_value]
 go_wp2
 rw [Lib.run_from_unsafe w ⟨b, 0, none⟩ Tryz.underlying109 Tryz.underlying52 hj hsh lies_bld]
 simp only [Result.andThen]
 rw [Oper.upon_value]
 go_wp2
 go_end0
 exact ⟨rfl, rfl⟩
end Go.A
namespace Go.A
open Go.Proofs
theorem copyCheck_typ {σ : ASt} {b : Nat} (h : σ b = some (.typ 55 [.pointer none, .slice none 0 0])) :
  ACalls Tryz.prog 50 [.ptr b 0] σ fun v σ' => v = .tuple [] ∧ σ' = σ.set b (some (.obj [.ptr b 0, .sl .full []])) := by
 intro w vs hs ha
 cases ha with
 | cons h1 h2 =>
 cases h1; cases h2
 have hb : w.heap[b]? = some (.cells ⟨[.pointer none, .slice none 0 0]⟩ 55 (0, 0)) := hs b _ h
 refine (cc_fresh b w (by simp [World.cell?, hb]) (by simp [World.shape?, hb]) (by simp [World.frozen?, hb])).mono ?_
 rintro e w' ⟨rfl, rfl⟩
 have hw := Wrote.setCell (o := 0) hb (.pointer (some ⟨b, 0, none⟩))
 have hle : Le σ w (σ.set b (some (.obj [.ptr b 0, .sl .full []]))) (w.setCell ⟨b, 0, none⟩ (.pointer (some ⟨b, 0, none⟩))) := by
  refine ⟨hw.os, hw.tape, hw.output, by rw [hw.size]; exact Nat.le_refl _, fun x hx hn => ?_, fun x cs hx hn => ?_, fun x f hx hn => ?_⟩
  all_goals have hne : x ≠ b := by rintro rfl; rw [h] at hn; cases hn
  ·rw [ASt.set_ne hne]; exact ⟨hn, hw.other x hne⟩
  ·rw [ASt.set_ne hne]; exact ⟨.inr hn, hw.other x hne⟩
  ·rw [ASt.set_ne hne]; exact ⟨.inr ⟨f, Nat.le_refl _, hn⟩, shape_of_heap_eq (hw.other x hne), fun o _ => cell_of_heap_eq (hw.other x hne) o⟩
 have hro : RoleOk (σ.set b (some (.obj [.ptr b 0, .sl .full []]))) (w.setCell ⟨b, 0, none⟩ (.pointer (some ⟨b, 0, none⟩))) b (.obj [.ptr b 0, .sl .full []]) := by
  refine ⟨_, _, _, hw.new, ?_, fun o ho => ?_⟩
  ·exact .cons (.ptr _ _) (.cons .slN .nil)
  ·rw [hw.frozen]
   simp only [World.frozen?, hb]
   simp
 exact ⟨_, _, _, rfl, ⟨rfl, rfl⟩, hle, hw.sim hs hle hro, .tuple .nil⟩
theorem copyCheck_used {σ : ASt} {b : Nat} {x : AV} (h : σ b = some (.obj [.ptr b 0, x])) : ACalls Tryz.prog 50 [.ptr b 0] σ fun v σ' => v = .tuple [] ∧ σ' = σ := by
 intro w vs hs ha
 cases ha with
 | cons h1 h2 =>
 cases h1; cases h2
 obtain ⟨us, h3, h4, _⟩ := hs.objCell h
 cases h3 with
 | cons h5 h6 =>
 cases h5
 refine (cc_used b w (h4 0 _ rfl)).mono ?_
 rintro e w' ⟨rfl, rfl⟩
 exact ⟨_, _, _, rfl, ⟨rfl, rfl⟩, Le.refl _ _, hs, .tuple .nil⟩
theorem bstring_typ {σ : ASt} {b : Nat} (h : σ b = some (.typ 55 [.pointer none, .slice none 0 0])) : ACalls Tryz.prog 17 [.ptr b 0] σ fun v σ' => v = .str [] ∧ σ' = σ := by
 intro w vs hs ha
 cases ha with
 | cons h1 h2 =>
 cases h1; cases h2
 have hb : w.heap[b]? = some (.cells ⟨[.pointer none, .slice none 0 0]⟩ 55 (0, 0)) := hs b _ h
 refine (bstr_nil Tryz.lays169 Tryz.Builder_Extra_169 b w (by simp [World.cell?, hb])).mono ?_
 rintro e w' ⟨rfl, rfl⟩
 have hx : Ext w w.drew := Ext.drew (Ext.refl w)
 exact ⟨_, _, _, rfl, ⟨rfl, rfl⟩, ext_le hx, hs.ext hx, .str []⟩
theorem row_bytes {σ : ASt} {w : World} {b : Nat} : ∀ {l : List UInt8} {o : Nat}, Row σ w b o 1 (bytesAV l) → ∀ j x, l[j]? = some x → w.cell? ⟨b, o + j, none⟩ = some (.int .u8 x.toNat)
 | [], o, h, j, x, hj => by simp at hj
 | c :: l, o, h, j, x, hj => by
   cases h with
   | cons h1 h2 h3 =>
   cases j with
   | zero =>
     simp only [List.getElem?_cons_zero, Option.some.injEq] at hj
     subst hj
     cases h2 with
     | cons g1 g2 g3 g4 =>
     cases g3
     exact g2
   | succ j =>
     have := row_bytes (l := l) h3 j x (by simpa using hj)
     rw [show o + (j + 1) = o + 1 + j by omega]
     exact this
theorem bstring_used {σ : ASt} {b g : Nat} {p : AV} {l : List UInt8} (h0 : l ≠ []) (hl : l.length ≤ 9223372036854775807) (h : σ b = some (.obj [p, .sl (.tok g 1 5) (bytesAV l)])) (hg : σ g = some (.tok l.length)) :
  ACalls Tryz.prog 17 [.ptr b 0] σ fun v σ' => v = .str l ∧ σ' = σ := by
 intro w vs hs ha
 cases ha with
 | cons h1 h2 =>
 cases h1; cases h2
 obtain ⟨us, h3, h4, h9⟩ := hs.objCell h
 cases h3 with
 | cons h5 h6 =>
 cases h6 with
 | cons h7 h8 =>
 cases h8
 obtain ⟨c, T, fr, k1, k2, k3⟩ := hs g _ hg
 have hlen : (bytesAV l).length = l.length := by simp [bytesAV]
 generalize hbl : bytesAV l = bl at h7
 cases h7 with
 | sl r1 r2 r3 r4 r5 =>
 subst hbl
 obtain ⟨rfl, rfl, rfl, r6, r7⟩ := r4
 have hpos : 0 < l.length := List.length_pos_iff.2 h0
 subst r2
 rw [hlen] at r3
 have hc1 := h4 1 _ rfl
 rw [hlen] at hc1
 refine (bstr_used Tryz.lays169 Tryz.Builder_Extra_169 b g _ _ l w h0 hc1 (by omega) r6 (by omega) hl ?_).mono ?_
 ·intro j x hj
  have := row_bytes r1 j x hj
  simpa using this
 rintro e w' ⟨rfl, rfl⟩
 have hother : ∀ x, x ≠ g → (w.drew.freeze ⟨g, 0, none⟩ l.length).heap[x]? = w.heap[x]? := by
  intro x hx
  simp only [World.freeze]
  rw [if_neg (by omega)]
  simp only [Array.getElem?_modify]
  rw [if_neg (Ne.symm hx)]
  rfl
 obtain ⟨lo, hi⟩ := fr
 have hk1 : w.drew.heap[g]? = some (.cells c T (lo, hi)) := k1
 obtain ⟨fr', hfr, hnew⟩ : ∃ fr' : Nat × Nat, fr'.2 ≤ l.length ∧ (w.drew.freeze ⟨g, 0, none⟩ l.length).heap[g]? = some (.cells c T fr') := by
  refine ⟨if lo == hi then (0, 0 + l.length) else (min lo 0, max hi (0 + l.length)), ?_, ?_⟩
  ·dsimp only at k3
   split <;> dsimp only <;> omega
  ·simp only [World.freeze]
   rw [if_neg (by omega)]
   simp only [Array.getElem?_modify, if_true, hk1, Option.map_some]
 have hshape : (w.drew.freeze ⟨g, 0, none⟩ l.length).shape? g = w.shape? g := by simp only [World.shape?, hnew, k1]
 have hcells : ∀ o, (w.drew.freeze ⟨g, 0, none⟩ l.length).cell? ⟨g, o, none⟩ = w.cell? ⟨g, o, none⟩ := fun o => by simp only [World.cell?, hnew, k1]
 have hle : Le σ w σ (w.drew.freeze ⟨g, 0, none⟩ l.length) := by
  refine ⟨?_, ?_, ?_, ?_, fun x hx hn => ?_, fun x cs hx hn => ?_, fun x f hx hn => ?_⟩
  ·simp only [World.freeze]; split <;> rfl
  ·simp only [World.freeze]; split <;> rfl
  ·simp only [World.freeze]; split <;> rfl
  ·simp only [World.freeze]; split
   ·exact Nat.le_refl _
   ·rw [Array.size_modify]; exact Nat.le_refl _
  ·have hne : x ≠ g := by rintro rfl; rw [hg] at hn; cases hn
   exact ⟨hn, hother x hne⟩
  ·have hne : x ≠ g := by rintro rfl; rw [hg] at hn; cases hn
   exact ⟨.inr hn, hother x hne⟩
  ·by_cases hne : x = g
   ·subst hne
    exact ⟨.inr ⟨f, Nat.le_refl _, hn⟩, hshape, fun o _ => hcells o⟩
   ·exact ⟨.inr ⟨f, Nat.le_refl _, hn⟩, shape_of_heap_eq (hother x hne), fun o _ => cell_of_heap_eq (hother x hne) o⟩
 have hsim : Sim σ (w.drew.freeze ⟨g, 0, none⟩ l.length) := by
  intro x q hx
  by_cases hne : x = g
  ·subst hne
   rw [hg] at hx
   injection hx with hx
   subst hx
   exact ⟨c, T, fr', hnew, k2, hfr⟩
  ·exact (hs x q hx).keep hle (hother x hne)
 exact ⟨_, _, _, rfl, ⟨rfl, rfl⟩, hle, hsim, .str l⟩
end Go.A
namespace Go.A
open Go.Proofs
/-! 28: tabular/token.Quote -/
def c28_0 : ACode := .ops [
 ⟨some 2, none, .q (.mv (.v (.str []))), []⟩]
def c28_1 : ACode := .ops [
 ⟨some 3, none, .q (.mv (.t 0)), []⟩,
 ⟨some 4, none, .e (.call 54 [(.t 3), (.v (.str [34])), (.v (.str [34, 34]))]), []⟩,
 ⟨some 5, none, .q (.bin .add (.v (.str [34])) (.t 4)), []⟩,
 ⟨some 6, none, .q (.bin .add (.t 5) (.v (.str [34]))), []⟩,
 ⟨some 2, none, .q (.mv (.t 6)), []⟩]
def c28_2 : ACode := .seq c28_1 .ret
def c28_3 : ACode := .seq c28_0 c28_2
@[go_sem] def c28_0_wp := wp_of c28_0.eq_1
@[go_sem] def c28_1_wp := wp_of c28_1.eq_1
@[go_sem] def c28_2_wp := wp_of c28_2.eq_1
@[go_sem] def c28_3_wp := wp_of c28_3.eq_1
def c28 : AFn := ⟨7, [.t 2], c28_3⟩
theorem c28_ok : compF Tryz.prog Tryz.f28 = some c28 := by kernel_rfl
theorem a28 {args : List AV} {σ : ASt} {R : AV → ASt → Prop} (hl : args.length ≤ 7) (h : c28_3.wp Tryz.prog (RetQ [.t 2] R) (init args) σ) : ACalls Tryz.prog 28 args σ R := acalls_of Tryz.func28 c28_ok hl h
end Go.A
namespace Go.A
open Go.Proofs Go.Lib
def dbl (s : List UInt8) : List UInt8 := s.flatMap fun c => if c = 34 then [34, 34] else [c]
theorem dbl_nil : dbl [] = [] := rfl
theorem dbl_q (s : List UInt8) : dbl (34 :: s) = 34 :: 34 :: dbl s := by simp [dbl]
theorem dbl_o {c : UInt8} (h : c ≠ 34) (s : List UInt8) : dbl (c :: s) = c :: dbl s := by simp [dbl, h]
theorem dbl_app (u v : List UInt8) : dbl (u ++ v) = dbl u ++ dbl v := by simp [dbl]
theorem dbl_same : ∀ u : List UInt8, 34 ∉ u → dbl u = u
 | [], _ => rfl
 | c :: u, h => by
   simp only [List.mem_cons, not_or] at h
   rw [dbl_o (fun e => h.1 e.symm), dbl_same u h.2]
theorem rep_ne {c : UInt8} (hc : c ≠ 34) (new : List UInt8) : ∀ (k : Nat) (s : List UInt8), replaceK [34] new k (c :: s) = c :: replaceK [34] new k s
 | 0, s => rfl
 | k + 1, s => by
   have hp : ([34] : List UInt8).isPrefixOf (c :: s) = false := by
    simp [List.isPrefixOf]
    exact fun h => hc h.symm
   have hi : index (c :: s) [34] = if index s [34] == -1 then -1 else index s [34] + 1 := by
    rw [index, hp]
    simp
   unfold replaceK
   rw [hi]
   have hge := index_ge s [34]
   by_cases h : index s [34] = -1
   ·have hb : (index s [34] == -1) = true := by rw [h]; rfl
    rw [if_pos hb, if_pos (by rfl), if_pos hb]
   ·have hb : ¬ (index s [34] == -1) = true := by rw [beq_iff_eq]; exact h
    rw [if_neg hb, if_neg (by rw [beq_iff_eq]; omega), if_neg hb]
    have e : (index s [34] + 1).toNat = (index s [34]).toNat + 1 := by omega
    rw [e, List.take_succ_cons]
    simp only [List.length_cons, List.length_nil, List.cons_append]
    rw [show (index s [34]).toNat + 1 + (0 + 1) = ((index s [34]).toNat + (0 + 1)) + 1 by omega, List.drop_succ_cons]
theorem rep_eq (new : List UInt8) (k : Nat) (s : List UInt8) : replaceK [34] new (k + 1) (34 :: s) = new ++ replaceK [34] new k s := by
 have hi : index (34 :: s) [34] = 0 := by
  rw [index]
  simp [List.isPrefixOf]
 rw [replaceK, hi]
 simp
theorem rep_dbl : ∀ s : List UInt8, replaceK [34] [34, 34] (s.count 34) s = dbl s
 | [] => rfl
 | c :: s => by
   by_cases hc : c = 34
   ·subst hc
    rw [List.count_cons_self, rep_eq, rep_dbl s, dbl_q]
    rfl
   ·rw [List.count_cons_of_ne (by simpa using hc), rep_ne hc, rep_dbl s, dbl_o hc]
theorem replace_dbl (s : List UInt8) : replaceAll s [34] [34, 34] = dbl s := by
 unfold replaceAll replace replaceNum
 rw [if_neg (by decide), if_pos (.inl (by omega)), count_one, rep_dbl]
theorem dbl_len (s : List UInt8) : (dbl s).length ≤ 2 * s.length := by
 induction s with
 | nil => simp [dbl]
 | cons c s ih =>
   by_cases hc : c = 34
   ·subst hc; rw [dbl_q]; simp; omega
   ·rw [dbl_o hc]; simp; omega
def MaxL (σ : ASt) : Prop := ∃ m : Int, σ 4 = some (.fix ([m].map (AV.int .i64)))
theorem replace_ok {σ : ASt} (hM : MaxL σ) (s : List UInt8) (hs : s.length ≤ 100000) : ACalls Tryz.prog 54 [.str s, .str [34], .str [34, 34]] σ fun v σ' => v = .str (dbl s) ∧ σ' = σ := by
 obtain ⟨m, hm⟩ := hM
 refine ACalls.of_below (u := .string ⟨⟨dbl s⟩⟩) (fun w vs hsim ha => ?_) fun w => .str _
 cases ha with
 | cons h1 h2 =>
 cases h2 with
 | cons h2 h3 =>
 cases h3 with
 | cons h3 h4 =>
 cases h1; cases h2; cases h3; cases h4
 have hcell := fix_ints hsim hm 0 m rfl
 have e1 : (⟨⟨s⟩⟩ : ByteArray).size = s.length := rfl
 have e2 : (⟨⟨[34, 34]⟩⟩ : ByteArray).size = 2 := rfl
 have hcb : countB ⟨⟨s⟩⟩ ⟨⟨[34]⟩⟩ ≤ s.length := by
  show count s [34] ≤ s.length
  rw [count_one]
  exact List.count_le_length
 refine (Tryz.strings_ReplaceAll ⟨⟨s⟩⟩ ⟨⟨[34]⟩⟩ ⟨⟨[34, 34]⟩⟩ m w (by rw [e1]; omega) hcell (by decide) (by rw [e1, e2]; omega)).mono ?_
 rintro e w' ⟨rfl, hb⟩
 refine ⟨?_, hb⟩
 show _ = Ending.returned (.string ⟨⟨dbl s⟩⟩)
 rw [← replace_dbl]
theorem tquote_ok {σ : ASt} (hM : MaxL σ) (s : List UInt8) (hs : s.length ≤ 100000) : ACalls Tryz.prog 28 [.str s] σ fun v σ' => v = .str (34 :: dbl s ++ [34]) ∧ σ' = σ := by
 have hl := dbl_len s
 refine a28 (by simp) ?_
 simp (disch := first | assumption | omega) only [go_sem, reduceCtorEq, ↓reduceIte]
 refine (replace_ok hM s hs).mono ?_
 rintro v σ' ⟨rfl, rfl⟩
 have e1 : binS .add [34] (dbl s) = some (.str (34 :: dbl s)) := binS_add (by simp; omega)
 have e2 : binS .add (34 :: dbl s) [34] = some (.str (34 :: dbl s ++ [34])) := binS_add (by simp; omega)
 simp (disch := first | assumption | omega) only [go_sem, ↓reduceIte, e1, e2]
 exact retC_by (Drop.refl _) (.refl _) ⟨rfl, rfl⟩
end Go.A
namespace Go.A
open Go.Proofs
/-! 31: (tabular/addr.Ref).Text -/
def c31_0 : ACode := .ops [
 ⟨some 1, none, .e (.box (.t 0)), []⟩,
 ⟨some 2, none, .q (.mv (.v (.str []))), []⟩]
def c31_1 : ACode := .ops [
 ⟨some 3, none, .q (.fa 3 (.t 1)), []⟩,
 ⟨some 4, none, .q (.ld none (.t 3)), []⟩,
 ⟨some 6, none, .q (.fa 1 (.t 1)), []⟩,
 ⟨some 7, none, .q (.ld none (.t 6)), []⟩,
 ⟨some 10, none, .q (.fa 2 (.t 1)), []⟩,
 ⟨some 11, none, .q (.ld none (.t 10)), []⟩,
 ⟨some 14, none, .q (.fa 0 (.t 1)), []⟩,
 ⟨some 15, none, .q (.ld none (.t 14)), []⟩,
 ⟨some 16, none, .q (.bin .add (.t 15) (.v (.int .i64 1))), []⟩,
 ⟨some 5, none, .e (.call 57 [(.t 4)]), [⟨none, .ld none (.t 6), 7⟩, ⟨none, .ld none (.t 10), 11⟩, ⟨none, .ld none (.t 14), 15⟩]⟩,
 ⟨some 8, none, .e (.call 58 [(.t 7)]), [⟨none, .ld none (.t 10), 11⟩, ⟨none, .ld none (.t 14), 15⟩]⟩,
 ⟨some 9, none, .q (.bin .add (.t 5) (.t 8)), []⟩,
 ⟨some 12, none, .e (.call 57 [(.t 11)]), [⟨none, .ld none (.t 14), 15⟩]⟩,
 ⟨some 13, none, .q (.bin .add (.t 9) (.t 12)), []⟩,
 ⟨some 17, none, .e (.call 59 [(.t 16)]), []⟩,
 ⟨some 18, none, .q (.bin .add (.t 13) (.t 17)), []⟩,
 ⟨some 2, none, .q (.mv (.t 18)), []⟩]
def c31_2 : ACode := .seq c31_1 .ret
def c31_3 : ACode := .seq c31_0 c31_2
@[go_sem] def c31_0_wp := wp_of c31_0.eq_1
@[go_sem] def c31_1_wp := wp_of c31_1.eq_1
@[go_sem] def c31_2_wp := wp_of c31_2.eq_1
@[go_sem] def c31_3_wp := wp_of c31_3.eq_1
def c31 : AFn := ⟨19, [.t 2], c31_3⟩
theorem c31_ok : compF Tryz.prog Tryz.f31 = some c31 := by kernel_rfl
theorem a31 {args : List AV} {σ : ASt} {R : AV → ASt → Prop} (hl : args.length ≤ 19) (h : c31_3.wp Tryz.prog (RetQ [.t 2] R) (init args) σ) : ACalls Tryz.prog 31 args σ R := acalls_of Tryz.func31 c31_ok hl h
/-! 32: (tabular/addr.Area).Text -/
def c32_0 : ACode := .ops [
 ⟨some 1, none, .e (.box (.t 0)), []⟩,
 ⟨some 2, none, .q (.mv (.v (.str []))), []⟩]
def c32_1 : ACode := .ops [
 ⟨some 3, none, .q (.fa 0 (.t 1)), []⟩,
 ⟨some 4, none, .q (.ld (some 4) (.t 3)), []⟩,
 ⟨some 7, none, .q (.fa 4 (.t 1)), []⟩,
 ⟨some 8, none, .q (.ld (some 4) (.t 7)), []⟩,
 ⟨some 5, none, .e (.call 31 [(.t 4)]), [⟨none, .ld (some 4) (.t 7), 8⟩]⟩,
 ⟨some 6, none, .q (.bin .add (.t 5) (.v (.str [58]))), []⟩,
 ⟨some 9, none, .e (.call 31 [(.t 8)]), []⟩,
 ⟨some 10, none, .q (.bin .add (.t 6) (.t 9)), []⟩,
 ⟨some 2, none, .q (.mv (.t 10)), []⟩]
def c32_2 : ACode := .seq c32_1 .ret
def c32_3 : ACode := .seq c32_0 c32_2
@[go_sem] def c32_0_wp := wp_of c32_0.eq_1
@[go_sem] def c32_1_wp := wp_of c32_1.eq_1
@[go_sem] def c32_2_wp := wp_of c32_2.eq_1
@[go_sem] def c32_3_wp := wp_of c32_3.eq_1
def c32 : AFn := ⟨11, [.t 2], c32_3⟩
theorem c32_ok : compF Tryz.prog Tryz.f32 = some c32 := by kernel_rfl
theorem a32 {args : List AV} {σ : ASt} {R : AV → ASt → Prop} (hl : args.length ≤ 11) (h : c32_3.wp Tryz.prog (RetQ [.t 2] R) (init args) σ) : ACalls Tryz.prog 32 args σ R := acalls_of Tryz.func32 c32_ok hl h
/-! 57: tabular/addr.dollar -/
def c57_0 : ACode := .ops [
 ⟨some 2, none, .q (.mv (.v (.str []))), []⟩]
def c57_1 : ACode := .ops [
 ⟨some 3, none, .q (.mv (.t 0)), []⟩]
def c57_2 : ACode := .ops [
 ⟨some 2, none, .q (.mv (.v (.str [36]))), []⟩]
def c57_3 : ACode := .seq c57_2 .ret
def c57_4 : ACode := .cond (.t 3) c57_3 .skip
def c57_5 : ACode := .seq c57_1 c57_4
def c57_6 : ACode := .ops [
 ⟨some 2, none, .q (.mv (.v (.str []))), []⟩]
def c57_7 : ACode := .seq c57_6 .ret
def c57_8 : ACode := .seq c57_5 c57_7
def c57_9 : ACode := .seq c57_0 c57_8
@[go_sem] def c57_0_wp := wp_of c57_0.eq_1
@[go_sem] def c57_1_wp := wp_of c57_1.eq_1
@[go_sem] def c57_2_wp := wp_of c57_2.eq_1
@[go_sem] def c57_3_wp := wp_of c57_3.eq_1
@[go_sem] def c57_4_wp := wp_of c57_4.eq_1
@[go_sem] def c57_5_wp := wp_of c57_5.eq_1
@[go_sem] def c57_6_wp := wp_of c57_6.eq_1
@[go_sem] def c57_7_wp := wp_of c57_7.eq_1
@[go_sem] def c57_8_wp := wp_of c57_8.eq_1
@[go_sem] def c57_9_wp := wp_of c57_9.eq_1
def c57 : AFn := ⟨4, [.t 2], c57_9⟩
theorem c57_ok : compF Tryz.prog Tryz.f57 = some c57 := by kernel_rfl
theorem a57 {args : List AV} {σ : ASt} {R : AV → ASt → Prop} (hl : args.length ≤ 4) (h : c57_9.wp Tryz.prog (RetQ [.t 2] R) (init args) σ) : ACalls Tryz.prog 57 args σ R := acalls_of Tryz.func57 c57_ok hl h
end Go.A
namespace Go.A
open Go.Proofs
theorem dollar_ok (b : Bool) : Pure Tryz.prog 57 [.bool b] (.str (dolP b)) := by
 intro σ
 refine a57 (by simp) ?_
 cases b
 ·simp (disch := first | assumption | omega) only [go_sem, reduceCtorEq, ↓reduceIte]
  exact retC_by (Drop.refl _) (.refl _) ⟨rfl, rfl⟩
 ·simp (disch := first | assumption | omega) only [go_sem, reduceCtorEq, ↓reduceIte]
  exact retC_by (Drop.refl _) (.refl _) ⟨rfl, rfl⟩
theorem text_ok {σ : ASt} (ht : Tab σ) {r : Ref} (hg : r.good = true) : ACalls Tryz.prog 31 [refAV r] σ fun v σ' => v = .str (textP r) ∧ σ' = σ := by
 have hg' := hg
 simp only [Ref.good, decide_eq_true_eq] at hg'
 obtain ⟨g1, g2, g3, g4⟩ := hg'
 have hi := itoa_num g1 g2
 have hl := letters_len r.col
 have hn := (num_facts g1 g2).2.2.2.1
 have hd1 : (dolP r.absCol).length ≤ 1 := by unfold dolP; split <;> simp
 have hd2 : (dolP r.absRow).length ≤ 1 := by unfold dolP; split <;> simp
 obtain ⟨l, hlq⟩ : ∃ l, textP r = l := ⟨_, rfl⟩
 rw [hlq]
 unfold textP at hlq
 refine a31 (by simp) ?_
 simp (disch := first | assumption | omega | (simp only [List.length_append, List.length_cons, List.length_nil]; omega)) only [go_sem, refAV]
 refine boxC_by rfl fun b hb => ?_
 simp (disch := first | assumption | omega | (simp only [List.length_append, List.length_cons, List.length_nil]; omega)) only [go_sem, Nat.reduceEqDiff, ↓reduceIte]
 refine (dollar_ok _).use ?_
 simp (disch := first | assumption | omega | (simp only [List.length_append, List.length_cons, List.length_nil]; omega)) only [go_sem, Nat.reduceEqDiff, ↓reduceIte]
 refine (letters_ok _).use ?_
 simp (disch := first | assumption | omega | (simp only [List.length_append, List.length_cons, List.length_nil]; omega)) only [go_sem, Nat.reduceEqDiff, ↓reduceIte]
 refine (dollar_ok _).use ?_
 simp (disch := first | assumption | omega | (simp only [List.length_append, List.length_cons, List.length_nil]; omega)) only [go_sem, Nat.reduceEqDiff, ↓reduceIte]
 refine (itoa_ok (ht.set hb) (by omega) (by omega)).mono ?_
 rintro v σ' ⟨rfl, rfl⟩
 rw [hi]
 simp (disch := first | assumption | omega | (simp only [List.length_append, List.length_cons, List.length_nil]; omega)) only [go_sem, Nat.reduceEqDiff, ↓reduceIte, hlq]
 exact retC_by (by repeat' (first | exact Drop.refl _ | with_reducible refine Drop.off ?_ (by assumption))) (.refl _) ⟨rfl, rfl⟩
theorem atext_ok {σ : ASt} (ht : Tab σ) {a b : Ref} (ha : a.good = true) (hb : b.good = true) : ACalls Tryz.prog 32 [areaAV a b] σ fun v σ' => v = .str (textP a ++ [58] ++ textP b) ∧ σ' = σ := by
 have l1 := text_len ha
 have l2 := text_len hb
 refine a32 (by simp) ?_
 simp (disch := first | assumption | omega) only [go_sem, areaAV]
 refine boxC_by rfl fun b0 hb0 => ?_
 simp (disch := first | assumption | omega) only [go_sem, Nat.reduceEqDiff, Nat.reduceAdd, Nat.reduceLeDiff, ↓reduceIte]
 refine (text_ok (ht.set hb0) ha).mono ?_
 rintro v σ' ⟨rfl, rfl⟩
 have e1 : binS .add (textP a) [58] = some (.str (textP a ++ [58])) := binS_add (by simp only [List.length_cons, List.length_nil]; omega)
 have e2 : binS .add (textP a ++ [58]) (textP b) = some (.str (textP a ++ [58] ++ textP b)) := binS_add (by simp only [List.length_append, List.length_cons, List.length_nil]; omega)
 simp (disch := first | assumption | omega) only [go_sem, Nat.reduceEqDiff, Nat.reduceAdd, Nat.reduceLeDiff, ↓reduceIte, e1]
 refine (text_ok (ht.set hb0) hb).mono ?_
 rintro v σ' ⟨rfl, rfl⟩
 simp (disch := first | assumption | omega) only [go_sem, Nat.reduceEqDiff, ↓reduceIte, e2]
 exact retC_by (by repeat' (first | exact Drop.refl _ | with_reducible refine Drop.off ?_ (by assumption))) (.refl _) ⟨rfl, rfl⟩
end Go.A
namespace Go.A
open Go.Proofs Go.Shelf Go.RowKit Go.Sort
set_option maxHeartbeats 4000000 in
theorem fmtU_small (u : Nat) (hu : u < 100) (w : World) : Calls Tryz.prog 74 #[.int .u64 u, .int .i64 10] w fun e w' => e = .returned (.string ⟨(Lib.decDigits u).toArray⟩) ∧ Ext w w' := by
 have iu : (u : Int) < 100 := by omega
 go_enter Tryz.func74, Tryz.ntmps74
 go_wp2_with (go_at_call 93; refine (Tryz.internal_strconv_small u hu _).mono ?_; rintro e w' ⟨rfl, rfl⟩)
 go_ret
 exact ⟨rfl, Ext.refl _⟩
set_option maxHeartbeats 12800000 in
theorem fmtU_big (u : Nat) (hu : 100 ≤ u) (hu64 : u < 18446744073709551616) (w : World) (htab : Lib.TabIs Tryz.prog w "internal/strconv.uint64pow10" .u64 Lib.pow10Tab) :
  Calls Tryz.prog 74 #[.int .u64 u, .int .i64 10] w fun e w' => e = .returned (.string ⟨(Lib.decDigits u).toArray⟩) ∧ Ext w w' := by
 have hu1 : 1 ≤ u := by omega
 have hnd20 : Lib.nDigits u ≤ 20 := by have := Lib.numDigits_eq u hu1 hu64; split at this <;> omega
 have hal : Tryz.prog.arrayLen 130 = 24 := by kernel_rfl
 have hsl : ∀ W, (Instr.sliceAt 130 (.pointer (some ⟨w.heap.size, 0, none⟩)) none (some (.int .i64 (Lib.nDigits u : Int))) none).run Tryz.prog W = .ok (.slice (some ⟨w.heap.size, 0, none⟩) (Lib.nDigits u) 24) W := fun W => by
  rw [run_sliceAt_array_h W 130 ⟨w.heap.size, 0, none⟩ (by kernel_rfl) .i64 (Lib.nDigits u : Int) (by omega) (by rw [hal]; omega)]
  rw [hal]
  rfl
 have hH0 := Lib.holds_zero0 w 130 (Lib.nDigits u) (by omega)
 have hfmt := Tryz.internal_strconv_formatBase10 w.heap.size 0 24 u (Array.replicate (Lib.nDigits u) 0) (w.alloc (.cells Lib.zeros24 130)) hH0 (by rw [Array.size_replicate]; exact Lib.lt_pow_nDigits u) hu64 (by rw [Array.size_replicate]; omega)
 rw [Array.size_replicate] at hfmt
 have HH0 := Lib.hid hH0
 have iu : (100 : Int) ≤ (u : Int) := by omega
 clear hH0 hal
 go_enter Tryz.func74, Tryz.ntmps74
 go_wp2_with (first
  | (go_at_call 94; refine (Tryz.internal_strconv_numDigits u hu1 hu64 _ (Lib.tabIs_alloc htab _)).mono ?_; rintro e w' ⟨rfl, rfl⟩))
 go_at_call 95
 refine hfmt.mono ?_
 rintro e w' ⟨rfl, k, v', dk, rfl, hF⟩
 have hcv : (convert 53 9 (.slice (some ⟨w.heap.size, 0, none⟩) (Lib.nDigits u) 24)).run Tryz.prog ((putRow (fun (b : UInt8) => Value.int .u8 (b.toNat : Int)) (w.alloc (.cells Lib.zeros24 130)) w.heap.size 0 dk).drewN k) = .ok (.string ⟨(Lib.decDigits u).toArray⟩) ((putRow (fun (b : UInt8) => Value.int .u8 (b.toNat : Int)) (w.alloc (.cells Lib.zeros24 130)) w.heap.size 0 dk).drewN k) := by
  have h := run_convert_bytes_back (P := Tryz.prog) ((putRow (fun (b : UInt8) => Value.int .u8 (b.toNat : Int)) (w.alloc (.cells Lib.zeros24 130)) w.heap.size 0 dk).drewN k) 53 9 5 ⟨w.heap.size, 0, none⟩ 24 (Lib.decDigits u) Tryz.underlying53 Tryz.underlying5 Tryz.underlying9 (fun j hj => by
   rw [Lib.row_is_numeral hF j hj, Lib.add_plain, World.cell?_drewN]
   exact cell?_putRow (fun (b : UInt8) => Value.int .u8 (b.toNat : Int)) _ w.heap.size 0 _ dk HH0.out (by rw [hF.size, Array.size_replicate]) j (by rw [hF.size]; rw [Lib.decDigits_length] at hj; exact hj))
  rw [Lib.decDigits_length] at h
  exact h
 go_wp2
 go_ret
 obtain ⟨os, eo⟩ := Lib.fin_at w (.cells Lib.zeros24 130) dk k 0
 refine ⟨rfl, ?_⟩
 rw [eo]
 exact ext_grow w k os
theorem ifmt_ok {σ : ASt} (h : Tab σ) {u : Nat} (hu : u < 18446744073709551616) : ACalls Tryz.prog 74 [.int .u64 u, .int .i64 10] σ fun v σ' => v = .str (Lib.decDigits u) ∧ σ' = σ := by
 refine ACalls.of_ext (u := .string ⟨(Lib.decDigits u).toArray⟩) (fun w vs hs ha => ?_) fun w => .str _
 cases ha with
 | cons h1 h2 =>
 cases h2 with
 | cons h2 h3 =>
 cases h1; cases h2; cases h3
 by_cases hs2 : u < 100
 ·exact fmtU_small u hs2 w
 ·exact fmtU_big u (by omega) hu w (tabIs_of hs (by kernel_rfl) h)
theorem fmt_ok {σ : ASt} (h : Tab σ) {u : Nat} (hu : u < 18446744073709551616) : ACalls Tryz.prog 52 [.int .u64 u, .int .i64 10] σ fun v σ' => v = .str (Lib.decDigits u) ∧ σ' = σ := by
 refine a52 (by simp) ?_
 simp (disch := first | assumption | omega) only [go_sem, reduceCtorEq, Nat.reduceEqDiff, ↓reduceIte]
 refine (ifmt_ok h hu).mono ?_
 rintro v σ' ⟨rfl, rfl⟩
 simp (disch := first | assumption | omega) only [go_sem, ↓reduceIte]
 exact retC_by (Drop.refl _) (.refl _) ⟨rfl, rfl⟩
theorem cutPrefix_ok (s p : List UInt8) : Pure Tryz.prog 107 [.str s, .str p] (.tuple [.str (Lib.trimPrefix s p), .bool (Lib.hasPrefix s p)]) := by
 intro σ
 refine ACalls.of_ext (u := .tuple #[.string ⟨(Lib.trimPrefix s p).toArray⟩, .bool (Lib.hasPrefix s p)]) (fun w vs hs ha => ?_) fun w => .tuple (.cons (.str _) (.cons (.bool _) .nil))
 cases ha with
 | cons h1 h2 =>
 cases h2 with
 | cons h2 h3 =>
 cases h1; cases h2; cases h3
 exact (Tryz.strings_CutPrefix ⟨⟨s⟩⟩ ⟨⟨p⟩⟩ w).mono fun e w' ⟨he, hw⟩ => ⟨he, Ext.of_eq hw⟩
theorem trimRight_ok (s : List UInt8) (c : UInt8) (hc : c.toNat < 128) (hsl : s.length ≤ 9223372036854775807) : Pure Tryz.prog 53 [.str s, .str [c]] (.str (Lib.trimRightB s c)) := by
 intro σ
 refine ACalls.of_ext (u := .string ⟨(Lib.trimRightB s c).toArray⟩) (fun w vs hs ha => ?_) fun w => .str _
 cases ha with
 | cons h1 h2 =>
 cases h2 with
 | cons h2 h3 =>
 cases h1; cases h2; cases h3
 exact (Tryz.strings_TrimRight_one ⟨⟨s⟩⟩ c hc w (by simpa [ByteArray.size] using hsl)).mono fun e w' ⟨he, hw⟩ => ⟨he, Ext.of_eq hw⟩
theorem sindex_ok (s : List UInt8) (c : UInt8) : Pure Tryz.prog 106 [.str s, .str [c]] (.int .i64 (Lib.indexByte s c)) := by
 intro σ
 refine ACalls.of_ext (u := .int .i64 (Lib.indexByte s c)) (fun w vs hs ha => ?_) fun w => .int _ _
 cases ha with
 | cons h1 h2 =>
 cases h2 with
 | cons h2 h3 =>
 cases h1; cases h2; cases h3
 exact (Tryz.stringslite_Index_one ⟨⟨s⟩⟩ c w).mono fun e w' ⟨he, hw⟩ => ⟨he, Ext.of_eq hw⟩
theorem cutc_ok (l : List UInt8) (c : UInt8) (hl : l.length ≤ 1000000000) : Pure Tryz.prog 83 [.str l, .str [c]] (.tuple [.str (Lib.cut l [c]).1, .str (Lib.cut l [c]).2.1, .bool (Lib.cut l [c]).2.2]) := by
 have h1 : Pure Tryz.prog 103 [.str l, .str [c]] (.tuple [.str (Lib.cut l [c]).1, .str (Lib.cut l [c]).2.1, .bool (Lib.cut l [c]).2.2]) := by
  intro σ
  have hi := sindex_ok l c
  have hr := Lib.index_room l [c]
  unfold Lib.cut
  rw [Lib.index_one] at hr ⊢
  have hg := Lib.indexByte_ge l c
  refine a103 (by simp) ?_
  by_cases h0 : 0 ≤ Lib.indexByte l c
  ·obtain ⟨i, e⟩ : ∃ i : Nat, Lib.indexByte l c = i := ⟨(Lib.indexByte l c).toNat, by omega⟩
   rw [e] at hi hr ⊢
   have hr := hr (by omega)
   simp only [List.length_cons, List.length_nil] at hr
   rw [if_pos (by omega)]
   have e1 : (0 : Int) ≤ i := by omega
   have e2 : ((i : Int) + 1).toNat = i + 1 := by omega
   have e3 : (i : Int) ≤ l.length := by omega
   have e4 : (i : Int) + 1 ≤ l.length := by omega
   simp (disch := first | assumption | omega) only [go_sem, reduceCtorEq, Nat.reduceEqDiff, ↓reduceIte]
   refine hi.use ?_
   simp (disch := first | assumption | omega) only [go_sem, reduceCtorEq, Nat.reduceEqDiff, ↓reduceIte, e1, e2, List.take_length]
   exact retC_by (by repeat' (first | exact Drop.refl _ | with_reducible refine Drop.off ?_ (by assumption))) (.refl _) ⟨rfl, rfl⟩
  ·have e : Lib.indexByte l c = -1 := by omega
   rw [e] at hi ⊢
   rw [if_neg (by omega)]
   simp (disch := first | assumption | omega) only [go_sem, reduceCtorEq, Nat.reduceEqDiff, ↓reduceIte]
   refine hi.use ?_
   simp (disch := first | assumption | omega) only [go_sem, reduceCtorEq, Nat.reduceEqDiff, Int.reduceLE, ↓reduceIte, Int.reduceNeg]
   exact retC_by (by repeat' (first | exact Drop.refl _ | with_reducible refine Drop.off ?_ (by assumption))) (.refl _) ⟨rfl, rfl⟩
 intro σ
 refine a83 (by simp) ?_
 simp (disch := first | assumption | omega) only [go_sem, reduceCtorEq, Nat.reduceEqDiff, ↓reduceIte]
 refine h1.use ?_
 simp (disch := first | assumption | omega) only [go_sem, Nat.reduceEqDiff, ↓reduceIte]
 exact retC_by (by repeat' (first | exact Drop.refl _ | with_reducible refine Drop.off ?_ (by assumption))) (.refl _) ⟨rfl, rfl⟩
end Go.A
namespace Go.A
open Go.Proofs
def resAV (o : Option Int) : AV := .tuple [.int .i64 (o.getD 0), .bool o.isSome]
theorem size_ok (a : Int) (h0 : -9223372036854775808 ≤ a) (h1 : a ≤ 9223372036854775807) : Pure Tryz.prog 51 [.int .i64 a] (.int .u64 (a.natAbs : Nat)) := by
 intro σ
 refine a51 (by simp) ?_
 by_cases h : a < 0
 ·have e : IntKind.u64.wrap (IntKind.i64.wrap (0 - a)) = ((a.natAbs : Nat) : Int) := by rw [IntKind.wrap_u64, IntKind.wrap_i64]; omega
  simp (disch := first | assumption | omega) only [go_sem, reduceCtorEq, ↓reduceIte, h, e]
  exact retC_by (by repeat' (first | exact Drop.refl _ | with_reducible refine Drop.off ?_ (by assumption))) (.refl _) ⟨rfl, rfl⟩
 ·have e : IntKind.u64.wrap a = ((a.natAbs : Nat) : Int) := by rw [IntKind.wrap_u64]; omega
  simp (disch := first | assumption | omega) only [go_sem, reduceCtorEq, ↓reduceIte, h, e]
  exact retC_by (by repeat' (first | exact Drop.refl _ | with_reducible refine Drop.off ?_ (by assumption))) (.refl _) ⟨rfl, rfl⟩
theorem made_ok (m : Bool) (lo : Nat) (h : lo < 18446744073709551616) : Pure Tryz.prog 108 [.bool m, .int .u64 0, .int .u64 lo] (resAV (madeP m lo)) := by
 intro σ
 refine a108 (by simp) ?_
 unfold madeP
 by_cases hm : lo ≤ 999999999999999999
 ·have g1 : ¬ (999999999999999999 : Int) < lo := by omega
  have e1 : IntKind.i64.wrap (lo : Int) = lo := by rw [IntKind.wrap_i64]; omega
  have e2 : IntKind.i64.wrap (-(lo : Int)) = -lo := by rw [IntKind.wrap_i64]; omega
  rw [if_pos hm]
  cases m
  ·simp (disch := first | assumption | omega) only [go_sem, reduceCtorEq, Nat.reduceEqDiff, Int.reduceLT, ↓reduceIte, g1, e1]
   exact retC_by (by repeat' (first | exact Drop.refl _ | with_reducible refine Drop.off ?_ (by assumption))) (.refl _) ⟨rfl, rfl⟩
  ·simp (disch := first | assumption | omega) only [go_sem, reduceCtorEq, Nat.reduceEqDiff, Int.reduceLT, ↓reduceIte, g1, e1]
   refine retC_by (by repeat' (first | exact Drop.refl _ | with_reducible refine Drop.off ?_ (by assumption))) (.refl _) ⟨?_, rfl⟩
   rw [show (0 : Int) - lo = -lo by omega]
   rfl
 ·have g1 : (999999999999999999 : Int) < lo := by omega
  rw [if_neg hm]
  simp (disch := first | assumption | omega) only [go_sem, Nat.reduceEqDiff, Int.reduceLT, ↓reduceIte, g1]
  exact retC_by (by repeat' (first | exact Drop.refl _ | with_reducible refine Drop.off ?_ (by assumption))) (.refl _) ⟨rfl, rfl⟩
end Go.A
namespace Go.A
open Go.Proofs
theorem dtext_ok {σ : ASt} (h : Tab σ) {a : Int} (ha : a.natAbs ≤ 999999999999999999) : ACalls Tryz.prog 27 [.int .i64 a] σ fun v σ' => v = .str (textD a) ∧ σ' = σ := by
 have hS := size_ok a (by omega) (by omega)
 obtain ⟨T, hT⟩ : ∃ T, textD a = T := ⟨_, rfl⟩
 rw [hT]
 unfold textD placesP at hT
 obtain ⟨s, hs⟩ : ∃ s, a.natAbs = s := ⟨_, rfl⟩
 rw [hs] at hS hT ha
 have hd : (s : Int).tdiv 10000 = ((s / 10000 : Nat) : Int) := by rw [Int.tdiv_eq_ediv_of_nonneg (by omega)]; rfl
 have hm : (s : Int).tmod 10000 = ((s % 10000 : Nat) : Int) := by rw [Int.tmod_eq_emod_of_nonneg (by omega)]; rfl
 have hp : s % 10000 < 10000 := Nat.mod_lt _ (by omega)
 have hw : s / 10000 ≤ 99999999999999 := by omega
 obtain ⟨p, hpp⟩ : ∃ p, s % 10000 = p := ⟨_, rfl⟩
 obtain ⟨q, hqq⟩ : ∃ q, s / 10000 = q := ⟨_, rfl⟩
 rw [hpp] at hp hm hT
 rw [hqq] at hd hw hT
 have hqw : IntKind.u64.wrap (q : Int) = q := by rw [IntKind.wrap_u64]; omega
 refine a27 (by simp) ?_
 simp (disch := first | assumption | omega) only [go_sem, reduceCtorEq, ↓reduceIte]
 refine hS.use ?_
 simp (disch := first | assumption | omega) only [go_sem, ↓reduceIte, hd, hqw]
 refine (fmt_ok h (u := q) (by omega)).mono ?_
 rintro v σ' ⟨rfl, rfl⟩
 simp (disch := first | assumption | omega) only [go_sem, Nat.reduceEqDiff, ↓reduceIte, hm]
 have hql : (Lib.decDigits q).length ≤ 15 := dd_len 14 q (by omega)
 by_cases h0 : p = 0
 ·subst h0
  rw [if_pos rfl, List.append_nil] at hT
  have g0 : ¬ (0 : Int) < ((0 : Nat) : Int) := by omega
  simp (disch := first | assumption | omega) only [go_sem, reduceCtorEq, Int.reduceLT, ↓reduceIte]
  by_cases hn : a < 0
  ·have e1 : binS .add [45] (Lib.decDigits q) = some (.str T) := by rw [binS_add (by simp; omega), ← hT, if_pos hn]
   simp (disch := first | assumption | omega) only [go_sem, Nat.reduceEqDiff, ↓reduceIte, hn, e1]
   exact retC_by (by repeat' (first | exact Drop.refl _ | with_reducible refine Drop.off ?_ (by assumption))) (.refl _) ⟨rfl, rfl⟩
  ·rw [if_neg hn, List.nil_append] at hT
   subst hT
   simp (disch := first | assumption | omega) only [go_sem, Nat.reduceEqDiff, ↓reduceIte, hn]
   exact retC_by (by repeat' (first | exact Drop.refl _ | with_reducible refine Drop.off ?_ (by assumption))) (.refl _) ⟨rfl, rfl⟩
 ·rw [if_neg h0] at hT
  have g0 : (0 : Int) < (p : Int) := by omega
  have hDl : (Lib.decDigits (10000 + p)).length ≤ 5 := dd_len 4 _ (by omega)
  have hD1 : 1 ≤ (Lib.decDigits (10000 + p)).length := List.length_pos_iff.2 (dd_len_pos _)
  have hF := fmt_ok h (u := 10000 + p) (by omega)
  rw [show (((10000 + p : Nat) : Int)) = (10000 : Int) + p by omega] at hF
  have htl : (Lib.decDigits (10000 + p)).tail.length ≤ 4 := by rw [List.length_tail]; omega
  rw [← List.drop_one] at hT htl
  generalize Lib.decDigits (10000 + p) = D at *
  have hR := trimRight_ok (D.drop 1) 48 (by decide) (by omega)
  have hRl : (Lib.trimRightB (D.drop 1) 48).length ≤ 4 := by
   have := congrArg List.length (trim_back 48 (D.drop 1))
   rw [List.length_append] at this
   omega
  generalize Lib.trimRightB (D.drop 1) 48 = X at *
  have e1 : binS .add [46] X = some (.str (46 :: X)) := binS_add (by simp; omega)
  have e2 : binS .add (Lib.decDigits q) (46 :: X) = some (.str (Lib.decDigits q ++ 46 :: X)) := binS_add (by simp; omega)
  have g5 : (1 : Int) ≤ D.length := by omega
  simp (disch := first | assumption | omega) only [go_sem, Nat.reduceEqDiff, ↓reduceIte, g0]
  refine hF.mono ?_
  rintro v σ' ⟨rfl, rfl⟩
  simp (disch := first | assumption | omega) only [go_sem, ↓reduceIte, Int.reduceToNat, List.take_length]
  refine hR.use ?_
  simp (disch := first | assumption | omega) only [go_sem, reduceCtorEq, Nat.reduceEqDiff, ↓reduceIte, e1, e2]
  by_cases hn : a < 0
  ·have e3 : binS .add [45] (Lib.decDigits q ++ 46 :: X) = some (.str T) := by rw [binS_add (by simp; omega), ← hT, if_pos hn]
   simp (disch := first | assumption | omega) only [go_sem, Nat.reduceEqDiff, ↓reduceIte, hn, e3]
   exact retC_by (by repeat' (first | exact Drop.refl _ | with_reducible refine Drop.off ?_ (by assumption))) (.refl _) ⟨rfl, rfl⟩
  ·rw [if_neg hn, List.nil_append] at hT
   subst hT
   simp (disch := first | assumption | omega) only [go_sem, Nat.reduceEqDiff, ↓reduceIte, hn]
   exact retC_by (by repeat' (first | exact Drop.refl _ | with_reducible refine Drop.off ?_ (by assumption))) (.refl _) ⟨rfl, rfl⟩
end Go.A
namespace Go.A
open Go.Proofs
theorem prefix_minus (s : List UInt8) : Lib.hasPrefix s [45] = decide (s.head? = some 45) := by
 unfold Lib.hasPrefix
 cases s with
 | nil => rfl
 | cons c l =>
   simp only [List.isPrefixOf, Bool.and_true, List.head?_cons, Option.some.injEq]
   by_cases h : c = 45
   ·subst h; rfl
   ·have h1 : (45 == c) = false := by simpa using fun e => h e.symm
    rw [h1]; simp [h]
theorem trim_minus (s : List UInt8) : Lib.trimPrefix s [45] = if s.head? = some 45 then s.drop 1 else s := by
 unfold Lib.trimPrefix
 rw [prefix_minus]
 by_cases h : s.head? = some 45
 ·simp [h]
 ·simp [h]
theorem cut_len (l : List UInt8) (c : UInt8) : (Lib.cut l [c]).1.length + (Lib.cut l [c]).2.1.length ≤ l.length := by
 unfold Lib.cut
 split
 ·have := Lib.index_room l [c] (by assumption)
  simp at this ⊢
  omega
 ·simp
set_option maxHeartbeats 1000000 in
theorem dparse_ok (s : List UInt8) (hs : s.length ≤ 100000) : Pure Tryz.prog 89 [.str s] (resAV (parseD s)) := by
 intro σ
 have hP := cutPrefix_ok s [45]
 rw [prefix_minus, trim_minus] at hP
 obtain ⟨R, hR⟩ : ∃ R, parseD s = R := ⟨_, rfl⟩
 rw [hR]
 unfold parseD at hR
 dsimp only at hR
 generalize hm : decide (s.head? = some 45) = minus at *
 have hbl : (if s.head? = some 45 then s.drop 1 else s).length ≤ 100000 := by
  split
  ·rw [List.length_drop]; omega
  ·exact hs
 generalize (if s.head? = some 45 then s.drop 1 else s) = body at *
 have hC := cutc_ok body 46 (by omega)
 have hCl := cut_len body 46
 have hnf : (Lib.cut body [46]).2.2 = false → (Lib.cut body [46]).2.1 = [] := by
  unfold Lib.cut
  split <;> simp
 generalize (Lib.cut body [46]).1 = whole at *
 generalize (Lib.cut body [46]).2.1 = part at *
 generalize (Lib.cut body [46]).2.2 = dot at *
 unfold parseQ at hR
 obtain ⟨F, hF⟩ : ∃ F, F = ACode.wp Tryz.prog c89_32 := ⟨_, rfl⟩
 have fin : ∀ (a : AFr), part.length ≤ 4 → (accP 0 (whole ++ part ++ List.replicate (4 - part.length) 48)).bind (madeP minus) = R → (a 5 = .bool minus ∧ a 6 = .str whole ∧ a 7 = .str part) → F (RetQ [.t 2, .t 3] fun v σ' => v = resAV R ∧ σ' = σ) a σ := by
  intro a hp4 hacc hf
  rw [hF]
  have hl2 : whole.length + part.length ≤ 9223372036854775807 := by omega
  have g4 : (part.length : Int) ≤ 4 := by omega
  have e0 : ([48, 48, 48, 48] : List UInt8).drop part.length = List.replicate (4 - part.length) 48 := by
   have : part.length = 0 ∨ part.length = 1 ∨ part.length = 2 ∨ part.length = 3 ∨ part.length = 4 := by omega
   rcases this with h | h | h | h | h <;> rw [h] <;> rfl
  have e1 : binS .add (whole ++ part) (List.replicate (4 - part.length) 48) = some (.str (whole ++ part ++ List.replicate (4 - part.length) 48)) := binS_add (by simp; omega)
  obtain ⟨M, hM⟩ : ∃ M, whole ++ part ++ List.replicate (4 - part.length) 48 = M := ⟨_, rfl⟩
  rw [hM] at hacc e1
  have hMl : M.length ≤ 1000000 := by rw [← hM]; simp; omega
  simp (disch := first | assumption | omega | (simp only [List.length_append, List.length_cons, List.length_nil]; omega)) only [go_sem, Nat.reduceEqDiff, Nat.reduceAdd, ↓reduceIte, Int.reduceToNat, hf, e0, e1]
  refine s2b_shr ?_
  simp (disch := first | assumption | omega | (simp only [List.length_append, List.length_cons, List.length_nil]; omega)) only [go_sem, ↓reduceIte]
  refine wp_loop_on (fun (i : Nat) a σ' => i ≤ M.length ∧ (∃ n : Nat, n ≤ 999999999999999999 ∧ accP 0 M = accP n (M.drop i) ∧ a 9 = .int .u64 n) ∧ (a 5 = .bool minus ∧ a 44 = .sl .shr (bytesAV M) ∧ a 45 = .int .i64 M.length ∧ a 46 = .int .i64 i) ∧ σ' = σ) (fun i => M.length - i) 0 ⟨Nat.zero_le _, ⟨0, by omega, rfl, ?_⟩, ?_, rfl⟩ ?_
  ·simp (disch := first | assumption | omega | (simp only [List.length_append, List.length_cons, List.length_nil]; omega)) only [go_sem, Nat.reduceEqDiff, ↓reduceIte]
  ·simp (disch := first | assumption | omega | (simp only [List.length_append, List.length_cons, List.length_nil]; omega)) only [go_sem, Nat.reduceEqDiff, ↓reduceIte, hf]
  rintro i a σ1 ⟨hi, ⟨n, hn, hac, hf9⟩, hf, rfl⟩
  rw [hac] at hacc
  by_cases hlt : i < M.length
  ·have hidx : M[i]? = some (M[i]'hlt) := List.getElem?_eq_getElem hlt
   rw [List.drop_eq_getElem_cons hlt] at hac hacc
   obtain ⟨c, hc⟩ : ∃ c, M[i]'hlt = c := ⟨_, rfl⟩
   rw [hc] at hidx hac hacc
   have hlt' : (i : Int) < M.length := by omega
   have hcb : c.toNat < 256 := c.toNat_lt
   rw [accP] at hac hacc
   by_cases h1 : c.toNat < 48
   ·have h1' : (c.toNat : Int) < 48 := by omega
    rw [if_pos (by omega)] at hacc
    subst hacc
    simp (disch := first | assumption | omega | (simp only [List.length_append, List.length_cons, List.length_nil]; omega)) only [go_sem, Nat.reduceEqDiff, ↓reduceIte, hf, hlt', hidx, h1']
    exact retC_by (by repeat' (first | exact Drop.refl _ | with_reducible refine Drop.off ?_ (by assumption))) (.refl _) ⟨rfl, rfl⟩
   have h1' : ¬ (c.toNat : Int) < 48 := by omega
   by_cases h2 : 57 < c.toNat
   ·have h2' : (57 : Int) < c.toNat := by omega
    rw [if_pos (by omega)] at hacc
    subst hacc
    simp (disch := first | assumption | omega | (simp only [List.length_append, List.length_cons, List.length_nil]; omega)) only [go_sem, Nat.reduceEqDiff, ↓reduceIte, hf, hlt', hidx, h1', h2']
    exact retC_by (by repeat' (first | exact Drop.refl _ | with_reducible refine Drop.off ?_ (by assumption))) (.refl _) ⟨rfl, rfl⟩
   have h2' : ¬ (57 : Int) < c.toNat := by omega
   by_cases h3 : 99999999999999999 < n
   ·have h3' : (99999999999999999 : Int) < n := by omega
    rw [if_pos (by omega)] at hacc
    subst hacc
    simp (disch := first | assumption | omega | (simp only [List.length_append, List.length_cons, List.length_nil]; omega)) only [go_sem, Nat.reduceEqDiff, ↓reduceIte, hf, hf9, hlt', hidx, h1', h2', h3']
    exact retC_by (by repeat' (first | exact Drop.refl _ | with_reducible refine Drop.off ?_ (by assumption))) (.refl _) ⟨rfl, rfl⟩
   have h3' : ¬ (99999999999999999 : Int) < n := by omega
   rw [if_neg (by omega)] at hac hacc
   obtain ⟨n2, hn2⟩ : ∃ n2 : Nat, 10 * n + (c.toNat - 48) = n2 := ⟨_, rfl⟩
   rw [hn2] at hac hacc
   have e2 : 10 * (n : Int) + ((c.toNat : Int) - 48) = n2 := by omega
   simp (disch := first | assumption | omega | (simp only [List.length_append, List.length_cons, List.length_nil]; omega)) only [go_sem, Nat.reduceEqDiff, ↓reduceIte, hf, hf9, hlt', hidx, h1', h2', h3', e2]
   exact ⟨i + 1, by omega, by omega, ⟨n2, by omega, hac, rfl⟩, rfl⟩
  ·have hlt' : ¬ (i : Int) < M.length := by omega
   rw [List.drop_eq_nil_of_le (by omega), accP, Option.bind_some] at hacc
   subst hacc
   have hMd := made_ok minus n (by omega)
   simp (disch := first | assumption | omega | (simp only [List.length_append, List.length_cons, List.length_nil]; omega)) only [go_sem, Nat.reduceEqDiff, ↓reduceIte, hf, hf9, hlt']
   refine hMd.use ?_
   simp only [resAV]
   simp (disch := first | assumption | omega | (simp only [List.length_append, List.length_cons, List.length_nil]; omega)) only [go_sem, Nat.reduceEqDiff, ↓reduceIte]
   exact retC_by (by repeat' (first | exact Drop.refl _ | with_reducible refine Drop.off ?_ (by assumption))) (.refl _) ⟨rfl, rfl⟩
 refine a89 (by simp) ?_
 simp (disch := first | assumption | omega | (simp only [List.length_append, List.length_cons, List.length_nil]; omega)) only [go_sem, reduceCtorEq, ↓reduceIte]
 refine hP.use ?_
 simp (disch := first | assumption | omega | (simp only [List.length_append, List.length_cons, List.length_nil]; omega)) only [go_sem, Nat.reduceEqDiff, ↓reduceIte]
 refine hC.use ?_
 by_cases hw : whole = []
 ·subst hw
  rw [if_pos (.inl rfl)] at hR
  subst hR
  simp (disch := first | assumption | omega | (simp only [List.length_append, List.length_cons, List.length_nil]; omega)) only [go_sem, Nat.reduceEqDiff, ↓reduceIte, ←hF]
  exact retC_by (by repeat' (first | exact Drop.refl _ | with_reducible refine Drop.off ?_ (by assumption))) (.refl _) ⟨rfl, rfl⟩
 cases dot with
 | false =>
   have hp := hnf rfl
   subst hp
   rw [if_neg (by rintro (h | ⟨h, _⟩) <;> contradiction)] at hR
   simp (disch := first | assumption | omega | (simp only [List.length_append, List.length_cons, List.length_nil]; omega)) only [go_sem, Nat.reduceEqDiff, ↓reduceIte, hw, ←hF]
   refine fin _ (by simp) hR ?_
   simp (disch := first | assumption | omega | (simp only [List.length_append, List.length_cons, List.length_nil]; omega)) only [go_sem, Nat.reduceEqDiff, ↓reduceIte]
 | true =>
   by_cases hp : part = []
   ·subst hp
    rw [if_pos (.inr ⟨rfl, .inl rfl⟩)] at hR
    subst hR
    simp (disch := first | assumption | omega | (simp only [List.length_append, List.length_cons, List.length_nil]; omega)) only [go_sem, Nat.reduceEqDiff, ↓reduceIte, hw, ←hF]
    exact retC_by (by repeat' (first | exact Drop.refl _ | with_reducible refine Drop.off ?_ (by assumption))) (.refl _) ⟨rfl, rfl⟩
   by_cases h4 : 4 < part.length
   ·have h4' : (4 : Int) < part.length := by omega
    rw [if_pos (.inr ⟨rfl, .inr h4⟩)] at hR
    subst hR
    simp (disch := first | assumption | omega | (simp only [List.length_append, List.length_cons, List.length_nil]; omega)) only [go_sem, Nat.reduceEqDiff, ↓reduceIte, hw, hp, h4', ←hF]
    exact retC_by (by repeat' (first | exact Drop.refl _ | with_reducible refine Drop.off ?_ (by assumption))) (.refl _) ⟨rfl, rfl⟩
   ·have h4' : ¬ (4 : Int) < part.length := by omega
    rw [if_neg (by rintro (h | ⟨_, h | h⟩) <;> contradiction)] at hR
    simp (disch := first | assumption | omega | (simp only [List.length_append, List.length_cons, List.length_nil]; omega)) only [go_sem, Nat.reduceEqDiff, ↓reduceIte, hw, hp, h4', ←hF]
    refine fin _ (by omega) hR ?_
    simp (disch := first | assumption | omega | (simp only [List.length_append, List.length_cons, List.length_nil]; omega)) only [go_sem, Nat.reduceEqDiff, ↓reduceIte]
theorem textD_len {a : Int} (ha : a.natAbs ≤ 999999999999999999) : (textD a).length ≤ 100 := by
 have h1 : (Lib.decDigits (a.natAbs / 10000)).length ≤ 15 := dd_len 14 _ (by omega)
 have h2 : (placesP (a.natAbs % 10000)).length ≤ 10 := by
  unfold placesP
  split
  ·simp
  ·rw [dd_four (by omega)]
   have := congrArg List.length (trim_back 48 (fourP (a.natAbs % 10000)))
   rw [List.length_append] at this
   have e4 : (fourP (a.natAbs % 10000)).length = 4 := rfl
   simp
   omega
 unfold textD
 simp only [List.length_append]
 split <;> simp <;> omega
theorem whole_ok {a : Int} (ha : a.natAbs ≤ 999999999999999999) : Pure Tryz.prog 55 [.int .i64 a] (.int .i64 (a.tdiv 10000)) := by
 intro σ
 have hqb : (a.tdiv 10000).natAbs ≤ a.natAbs := by rw [Int.natAbs_tdiv]; exact Nat.div_le_self _ _
 have e : IntKind.i64.wrap (a.tdiv 10000) = a.tdiv 10000 := by rw [IntKind.wrap_i64]; omega
 refine a55 (by simp) ?_
 simp (disch := first | assumption | omega) only [go_sem, reduceCtorEq, ↓reduceIte, e]
 exact retC_by (by repeat' (first | exact Drop.refl _ | with_reducible refine Drop.off ?_ (by assumption))) (.refl _) ⟨rfl, rfl⟩
theorem lcut_ok (s : List UInt8) (n : Nat) : Pure Tryz.prog 6 [.str s, .int .i64 n] (.str (s.take n)) := by
 intro σ
 refine a6 (by simp) ?_
 by_cases h : n < s.length
 ·have h' : (n : Int) < s.length := by omega
  have g0 : (0 : Int) ≤ n := by omega
  have g1 : (n : Int) ≤ s.length := by omega
  simp (disch := first | assumption | omega) only [go_sem, reduceCtorEq, Nat.reduceEqDiff, ↓reduceIte, h']
  exact retC_by (by repeat' (first | exact Drop.refl _ | with_reducible refine Drop.off ?_ (by assumption))) (.refl _) ⟨rfl, rfl⟩
 ·have h' : ¬ (n : Int) < s.length := by omega
  rw [List.take_of_length_le (by omega)]
  simp (disch := first | assumption | omega) only [go_sem, reduceCtorEq, Nat.reduceEqDiff, ↓reduceIte, h']
  exact retC_by (by repeat' (first | exact Drop.refl _ | with_reducible refine Drop.off ?_ (by assumption))) (.refl _) ⟨rfl, rfl⟩
end Go.A
namespace Go.A
open Go.Proofs
/-! 40: tabular/token.word -/
def c40_0 : ACode := .ops [
 ⟨some 2, none, .q (.mv (.v (.bool false))), []⟩]
def c40_1 : ACode := .ops [
 ⟨some 3, none, .q (.mv (.t 0)), []⟩,
 ⟨some 4, none, .q (.bin .geq (.t 3) (.v (.int .u8 48))), []⟩,
 ⟨some 5, none, .q (.mv (.t 4)), []⟩,
 ⟨some 6, some (5, true), .q (.mv (.t 0)), []⟩,
 ⟨some 7, some (5, true), .q (.bin .leq (.t 6) (.v (.int .u8 57))), []⟩,
 ⟨some 8, none, .q (.pick (.t 5) (.t 7) (.v (.bool false))), []⟩,
 ⟨some 9, none, .q (.mv (.t 8)), []⟩,
 ⟨some 10, some (9, false), .q (.mv (.t 0)), []⟩,
 ⟨some 11, some (9, false), .q (.bin .geq (.t 10) (.v (.int .u8 97))), []⟩,
 ⟨some 12, some (9, false), .q (.mv (.t 11)), []⟩,
 ⟨some 13, some (12, true), .q (.mv (.t 0)), []⟩,
 ⟨some 14, some (12, true), .q (.bin .leq (.t 13) (.v (.int .u8 122))), []⟩,
 ⟨some 15, some (9, false), .q (.pick (.t 12) (.t 14) (.v (.bool false))), []⟩,
 ⟨some 16, none, .q (.pick (.t 9) (.v (.bool true)) (.t 15)), []⟩,
 ⟨some 17, none, .q (.mv (.t 16)), []⟩,
 ⟨some 18, some (17, false), .q (.mv (.t 0)), []⟩,
 ⟨some 19, some (17, false), .q (.bin .geq (.t 18) (.v (.int .u8 65))), []⟩,
 ⟨some 20, some (17, false), .q (.mv (.t 19)), []⟩,
 ⟨some 21, some (20, true), .q (.mv (.t 0)), []⟩,
 ⟨some 22, some (20, true), .q (.bin .leq (.t 21) (.v (.int .u8 90))), []⟩,
 ⟨some 23, some (17, false), .q (.pick (.t 20) (.t 22) (.v (.bool false))), []⟩,
 ⟨some 24, none, .q (.pick (.t 17) (.v (.bool true)) (.t 23)), []⟩,
 ⟨some 25, none, .q (.mv (.t 24)), []⟩,
 ⟨some 26, some (25, false), .q (.mv (.t 0)), []⟩,
 ⟨some 27, some (25, false), .q (.bin .eql (.t 26) (.v (.int .u8 95))), []⟩,
 ⟨some 28, none, .q (.pick (.t 25) (.v (.bool true)) (.t 27)), []⟩,
 ⟨some 29, none, .q (.mv (.t 28)), []⟩,
 ⟨some 30, some (29, false), .q (.mv (.t 0)), []⟩,
 ⟨some 31, some (29, false), .q (.bin .eql (.t 30) (.v (.int .u8 36))), []⟩,
 ⟨some 32, none, .q (.pick (.t 29) (.v (.bool true)) (.t 31)), []⟩,
 ⟨some 33, none, .q (.mv (.t 32)), []⟩,
 ⟨some 34, some (33, false), .q (.mv (.t 0)), []⟩,
 ⟨some 35, some (33, false), .q (.bin .eql (.t 34) (.v (.int .u8 46))), []⟩,
 ⟨some 36, none, .q (.pick (.t 33) (.v (.bool true)) (.t 35)), []⟩,
 ⟨some 2, none, .q (.mv (.t 36)), []⟩]
def c40_2 : ACode := .seq c40_1 .ret
def c40_3 : ACode := .seq c40_0 c40_2
@[go_sem] def c40_0_wp := wp_of c40_0.eq_1
@[go_sem] def c40_1_wp := wp_of c40_1.eq_1
@[go_sem] def c40_2_wp := wp_of c40_2.eq_1
@[go_sem] def c40_3_wp := wp_of c40_3.eq_1
def c40 : AFn := ⟨37, [.t 2], c40_3⟩
theorem c40_ok : compF Tryz.prog Tryz.f40 = some c40 := by kernel_rfl
theorem a40 {args : List AV} {σ : ASt} {R : AV → ASt → Prop} (hl : args.length ≤ 37) (h : c40_3.wp Tryz.prog (RetQ [.t 2] R) (init args) σ) : ACalls Tryz.prog 40 args σ R := acalls_of Tryz.func40 c40_ok hl h
/-! 56: tabular/token.Errors -/
def c56_0 : ACode := .ops [
 ⟨some 0, none, .q (.mv (.v (.sl .full []))), []⟩]
def c56_1 : ACode := .ops [
 ⟨some 1, none, .q (.bsl 1 [(.v (.str [35, 68, 73, 86, 47, 48, 33])), (.v (.str [35, 78, 85, 77, 33])), (.v (.str [35, 86, 65, 76, 85, 69, 33])), (.v (.str [35, 82, 69, 70, 33])), (.v (.str [35, 78, 47, 65])), (.v (.str [35, 78, 65, 77, 69, 63])), (.v (.str [35, 67, 89, 67, 76, 69, 33]))]), []⟩,
 ⟨some 0, none, .q (.mv (.t 1)), []⟩]
def c56_2 : ACode := .seq c56_1 .ret
def c56_3 : ACode := .seq c56_0 c56_2
@[go_sem] def c56_0_wp := wp_of c56_0.eq_1
@[go_sem] def c56_1_wp := wp_of c56_1.eq_1
@[go_sem] def c56_2_wp := wp_of c56_2.eq_1
@[go_sem] def c56_3_wp := wp_of c56_3.eq_1
def c56 : AFn := ⟨2, [.t 0], c56_3⟩
theorem c56_ok : compF Tryz.prog Tryz.f56 = some c56 := by kernel_rfl
theorem a56 {args : List AV} {σ : ASt} {R : AV → ASt → Prop} (hl : args.length ≤ 2) (h : c56_3.wp Tryz.prog (RetQ [.t 0] R) (init args) σ) : ACalls Tryz.prog 56 args σ R := acalls_of Tryz.func56 c56_ok hl h
/-! 62: tabular/token.isNum -/
def c62_0 : ACode := .ops [
 ⟨some 2, none, .q (.mv (.v (.bool false))), []⟩]
def c62_1 : ACode := .ops [
 ⟨some 9, none, .q (.mv (.t 0)), []⟩,
 ⟨some 10, none, .e (.call 83 [(.t 9), (.v (.str [46]))]), []⟩,
 ⟨some 8, none, .q (.mv (.t 10)), []⟩,
 ⟨some 11, none, .q (.ext 0 (.t 8)), []⟩,
 ⟨some 12, none, .q (.ext 1 (.t 8)), []⟩,
 ⟨some 13, none, .q (.ext 2 (.t 8)), []⟩,
 ⟨some 3, none, .q (.mv (.t 11)), []⟩,
 ⟨some 4, none, .q (.mv (.t 12)), []⟩,
 ⟨some 5, none, .q (.mv (.t 13)), []⟩]
def c62_2 : ACode := .ops [
 ⟨some 14, none, .q (.mv (.t 3)), []⟩,
 ⟨some 15, none, .q (.bin .eql (.t 14) (.v (.str []))), []⟩,
 ⟨some 16, none, .q (.mv (.t 15)), []⟩,
 ⟨some 17, some (16, false), .q (.mv (.t 5)), []⟩,
 ⟨some 18, some (16, false), .q (.mv (.t 17)), []⟩,
 ⟨some 19, some (18, true), .q (.mv (.t 4)), []⟩,
 ⟨some 20, some (18, true), .q (.bin .eql (.t 19) (.v (.str []))), []⟩,
 ⟨some 21, some (18, true), .q (.mv (.t 20)), []⟩,
 ⟨some 22, some (21, false), .q (.mv (.t 4)), []⟩,
 ⟨some 23, some (21, false), .q (.lenS (.t 22)), []⟩,
 ⟨some 24, some (21, false), .q (.bin .gtr (.t 23) (.v (.int .i64 4))), []⟩,
 ⟨some 25, some (18, true), .q (.pick (.t 21) (.v (.bool true)) (.t 24)), []⟩,
 ⟨some 26, some (16, false), .q (.pick (.t 18) (.t 25) (.v (.bool false))), []⟩,
 ⟨some 27, none, .q (.pick (.t 16) (.v (.bool true)) (.t 26)), []⟩]
def c62_3 : ACode := .ops [
 ⟨some 2, none, .q (.mv (.v (.bool false))), []⟩]
def c62_4 : ACode := .seq c62_3 .ret
def c62_5 : ACode := .cond (.t 27) c62_4 .skip
def c62_6 : ACode := .seq c62_2 c62_5
def c62_7 : ACode := .ops [
 ⟨some 28, none, .q (.mv (.t 3)), []⟩,
 ⟨some 29, none, .q (.mv (.t 4)), []⟩,
 ⟨some 30, none, .q (.bin .add (.t 28) (.t 29)), []⟩,
 ⟨some 31, none, .e (.s2b (.t 30)), []⟩,
 ⟨some 32, none, .q (.len (.t 31)), []⟩,
 ⟨some 33, none, .q (.mv (.v (.int .i64 0))), []⟩]
def c62_8 : ACode := .ops [
 ⟨some 34, none, .q (.bin .lss (.t 33) (.t 32)), []⟩]
def c62_9 : ACode := .cond (.t 34) .skip (.exit 0)
def c62_10 : ACode := .ops [
 ⟨some 35, none, .q (.ia 1 (.t 31) (.t 33)), []⟩,
 ⟨some 36, none, .q (.ld none (.t 35)), []⟩,
 ⟨some 7, none, .q (.mv (.t 36)), []⟩]
def c62_11 : ACode := .ops [
 ⟨some 37, none, .q (.mv (.t 7)), []⟩,
 ⟨some 38, none, .e (.call 84 [(.t 37)]), []⟩,
 ⟨some 39, none, .q (.un .not (.t 38)), []⟩]
def c62_12 : ACode := .ops [
 ⟨some 2, none, .q (.mv (.v (.bool false))), []⟩]
def c62_13 : ACode := .seq c62_12 .ret
def c62_14 : ACode := .cond (.t 39) c62_13 .skip
def c62_15 : ACode := .seq c62_11 c62_14
def c62_16 : ACode := .seq c62_10 c62_15
def c62_17 : ACode := .block 1 c62_16
def c62_18 : ACode := .ops [
 ⟨some 40, none, .q (.bin .add (.t 33) (.v (.int .i64 1))), []⟩,
 ⟨some 33, none, .q (.mv (.t 40)), []⟩]
def c62_19 : ACode := .seq c62_17 c62_18
def c62_20 : ACode := .seq c62_9 c62_19
def c62_21 : ACode := .seq c62_8 c62_20
def c62_22 : ACode := .loop c62_21
def c62_23 : ACode := .block 0 c62_22
def c62_24 : ACode := .seq c62_7 c62_23
def c62_25 : ACode := .ops [
 ⟨some 2, none, .q (.mv (.v (.bool true))), []⟩]
def c62_26 : ACode := .seq c62_25 .ret
def c62_27 : ACode := .seq c62_24 c62_26
def c62_28 : ACode := .seq c62_6 c62_27
def c62_29 : ACode := .seq c62_1 c62_28
def c62_30 : ACode := .seq c62_0 c62_29
@[go_sem] def c62_0_wp := wp_of c62_0.eq_1
@[go_sem] def c62_1_wp := wp_of c62_1.eq_1
@[go_sem] def c62_2_wp := wp_of c62_2.eq_1
@[go_sem] def c62_3_wp := wp_of c62_3.eq_1
@[go_sem] def c62_4_wp := wp_of c62_4.eq_1
@[go_sem] def c62_5_wp := wp_of c62_5.eq_1
@[go_sem] def c62_6_wp := wp_of c62_6.eq_1
@[go_sem] def c62_7_wp := wp_of c62_7.eq_1
@[go_sem] def c62_8_wp := wp_of c62_8.eq_1
@[go_sem] def c62_9_wp := wp_of c62_9.eq_1
@[go_sem] def c62_10_wp := wp_of c62_10.eq_1
@[go_sem] def c62_11_wp := wp_of c62_11.eq_1
@[go_sem] def c62_12_wp := wp_of c62_12.eq_1
@[go_sem] def c62_13_wp := wp_of c62_13.eq_1
@[go_sem] def c62_14_wp := wp_of c62_14.eq_1
@[go_sem] def c62_15_wp := wp_of c62_15.eq_1
@[go_sem] def c62_16_wp := wp_of c62_16.eq_1
@[go_sem] def c62_17_wp := wp_of c62_17.eq_1
@[go_sem] def c62_18_wp := wp_of c62_18.eq_1
@[go_sem] def c62_19_wp := wp_of c62_19.eq_1
@[go_sem] def c62_20_wp := wp_of c62_20.eq_1
@[go_sem] def c62_21_wp := wp_of c62_21.eq_1
@[go_sem] def c62_22_wp := wp_of c62_22.eq_1
@[go_sem] def c62_23_wp := wp_of c62_23.eq_1
@[go_sem] def c62_24_wp := wp_of c62_24.eq_1
@[go_sem] def c62_25_wp := wp_of c62_25.eq_1
@[go_sem] def c62_26_wp := wp_of c62_26.eq_1
@[go_sem] def c62_27_wp := wp_of c62_27.eq_1
@[go_sem] def c62_28_wp := wp_of c62_28.eq_1
@[go_sem] def c62_29_wp := wp_of c62_29.eq_1
@[go_sem] def c62_30_wp := wp_of c62_30.eq_1
def c62 : AFn := ⟨41, [.t 2], c62_30⟩
theorem c62_ok : compF Tryz.prog Tryz.f62 = some c62 := by kernel_rfl
theorem a62 {args : List AV} {σ : ASt} {R : AV → ASt → Prop} (hl : args.length ≤ 41) (h : c62_30.wp Tryz.prog (RetQ [.t 2] R) (init args) σ) : ACalls Tryz.prog 62 args σ R := acalls_of Tryz.func62 c62_ok hl h
/-! 63: tabular/token.isRef -/
def c63_0 : ACode := .ops [
 ⟨some 2, none, .q (.mv (.v (.bool false))), []⟩]
def c63_1 : ACode := .ops [
 ⟨some 6, none, .q (.mv (.t 0)), []⟩,
 ⟨some 7, none, .e (.call 85 [(.t 6)]), []⟩,
 ⟨some 5, none, .q (.mv (.t 7)), []⟩,
 ⟨some 8, none, .q (.ext 0 (.t 5)), []⟩,
 ⟨some 9, none, .q (.ext 1 (.t 5)), []⟩,
 ⟨some 3, none, .e (.alloc [(.int .i64 0), (.int .i64 0), (.bool false), (.bool false)]), []⟩,
 ⟨none, none, .e (.store 4 (.t 3) (.t 8)), []⟩,
 ⟨some 4, none, .q (.mv (.t 9)), []⟩]
def c63_2 : ACode := .ops [
 ⟨some 10, none, .q (.mv (.t 4)), []⟩,
 ⟨some 2, none, .q (.mv (.t 10)), []⟩]
def c63_3 : ACode := .seq c63_2 .ret
def c63_4 : ACode := .seq c63_1 c63_3
def c63_5 : ACode := .seq c63_0 c63_4
@[go_sem] def c63_0_wp := wp_of c63_0.eq_1
@[go_sem] def c63_1_wp := wp_of c63_1.eq_1
@[go_sem] def c63_2_wp := wp_of c63_2.eq_1
@[go_sem] def c63_3_wp := wp_of c63_3.eq_1
@[go_sem] def c63_4_wp := wp_of c63_4.eq_1
@[go_sem] def c63_5_wp := wp_of c63_5.eq_1
def c63 : AFn := ⟨11, [.t 2], c63_5⟩
theorem c63_ok : compF Tryz.prog Tryz.f63 = some c63 := by kernel_rfl
theorem a63 {args : List AV} {σ : ASt} {R : AV → ASt → Prop} (hl : args.length ≤ 11) (h : c63_5.wp Tryz.prog (RetQ [.t 2] R) (init args) σ) : ACalls Tryz.prog 63 args σ R := acalls_of Tryz.func63 c63_ok hl h
/-! 64: tabular/token.great -/
def c64_0 : ACode := .ops [
 ⟨some 2, none, .q (.mv (.v (.str []))), []⟩]
def c64_1 : ACode := .ops [
 ⟨some 6, none, .q (.mv (.t 0)), []⟩,
 ⟨some 7, none, .e (.s2b (.t 6)), []⟩,
 ⟨some 3, none, .q (.mv (.t 7)), []⟩]
def c64_2 : ACode := .ops [
 ⟨some 8, none, .q (.mv (.t 3)), []⟩,
 ⟨some 9, none, .q (.len (.t 8)), []⟩,
 ⟨some 10, none, .q (.mv (.v (.int .i64 0))), []⟩]
def c64_3 : ACode := .ops [
 ⟨some 11, none, .q (.bin .lss (.t 10) (.t 9)), []⟩]
def c64_4 : ACode := .cond (.t 11) .skip (.exit 0)
def c64_5 : ACode := .ops [
 ⟨some 12, none, .q (.mv (.t 10)), []⟩,
 ⟨some 13, none, .q (.ia 1 (.t 8) (.t 10)), []⟩,
 ⟨some 14, none, .q (.ld none (.t 13)), []⟩,
 ⟨some 4, none, .q (.mv (.t 12)), []⟩,
 ⟨some 5, none, .q (.mv (.t 14)), []⟩]
def c64_6 : ACode := .ops [
 ⟨some 15, none, .q (.mv (.t 5)), []⟩,
 ⟨some 16, none, .q (.bin .geq (.t 15) (.v (.int .u8 97))), []⟩,
 ⟨some 17, none, .q (.mv (.t 16)), []⟩,
 ⟨some 18, some (17, true), .q (.mv (.t 5)), []⟩,
 ⟨some 19, some (17, true), .q (.bin .leq (.t 18) (.v (.int .u8 122))), []⟩,
 ⟨some 20, none, .q (.pick (.t 17) (.t 19) (.v (.bool false))), []⟩]
def c64_7 : ACode := .ops [
 ⟨some 21, none, .q (.mv (.t 3)), []⟩,
 ⟨some 22, none, .q (.mv (.t 4)), []⟩,
 ⟨some 23, none, .q (.mv (.t 5)), []⟩,
 ⟨some 24, none, .q (.bin .sub (.t 23) (.v (.int .u8 32))), []⟩,
 ⟨some 25, none, .q (.ia 1 (.t 21) (.t 22)), []⟩,
 ⟨none, none, .e (.store 1 (.t 25) (.t 24)), []⟩]
def c64_8 : ACode := .cond (.t 20) c64_7 .skip
def c64_9 : ACode := .seq c64_6 c64_8
def c64_10 : ACode := .seq c64_5 c64_9
def c64_11 : ACode := .block 1 c64_10
def c64_12 : ACode := .ops [
 ⟨some 26, none, .q (.bin .add (.t 10) (.v (.int .i64 1))), []⟩,
 ⟨some 10, none, .q (.mv (.t 26)), []⟩]
def c64_13 : ACode := .seq c64_11 c64_12
def c64_14 : ACode := .seq c64_4 c64_13
def c64_15 : ACode := .seq c64_3 c64_14
def c64_16 : ACode := .loop c64_15
def c64_17 : ACode := .block 0 c64_16
def c64_18 : ACode := .seq c64_2 c64_17
def c64_19 : ACode := .ops [
 ⟨some 27, none, .q (.mv (.t 3)), []⟩,
 ⟨some 28, none, .q (.b2s (.t 27)), []⟩,
 ⟨some 2, none, .q (.mv (.t 28)), []⟩]
def c64_20 : ACode := .seq c64_19 .ret
def c64_21 : ACode := .seq c64_18 c64_20
def c64_22 : ACode := .seq c64_1 c64_21
def c64_23 : ACode := .seq c64_0 c64_22
@[go_sem] def c64_0_wp := wp_of c64_0.eq_1
@[go_sem] def c64_1_wp := wp_of c64_1.eq_1
@[go_sem] def c64_2_wp := wp_of c64_2.eq_1
@[go_sem] def c64_3_wp := wp_of c64_3.eq_1
@[go_sem] def c64_4_wp := wp_of c64_4.eq_1
@[go_sem] def c64_5_wp := wp_of c64_5.eq_1
@[go_sem] def c64_6_wp := wp_of c64_6.eq_1
@[go_sem] def c64_7_wp := wp_of c64_7.eq_1
@[go_sem] def c64_8_wp := wp_of c64_8.eq_1
@[go_sem] def c64_9_wp := wp_of c64_9.eq_1
@[go_sem] def c64_10_wp := wp_of c64_10.eq_1
@[go_sem] def c64_11_wp := wp_of c64_11.eq_1
@[go_sem] def c64_12_wp := wp_of c64_12.eq_1
@[go_sem] def c64_13_wp := wp_of c64_13.eq_1
@[go_sem] def c64_14_wp := wp_of c64_14.eq_1
@[go_sem] def c64_15_wp := wp_of c64_15.eq_1
@[go_sem] def c64_16_wp := wp_of c64_16.eq_1
@[go_sem] def c64_17_wp := wp_of c64_17.eq_1
@[go_sem] def c64_18_wp := wp_of c64_18.eq_1
@[go_sem] def c64_19_wp := wp_of c64_19.eq_1
@[go_sem] def c64_20_wp := wp_of c64_20.eq_1
@[go_sem] def c64_21_wp := wp_of c64_21.eq_1
@[go_sem] def c64_22_wp := wp_of c64_22.eq_1
@[go_sem] def c64_23_wp := wp_of c64_23.eq_1
def c64 : AFn := ⟨29, [.t 2], c64_23⟩
theorem c64_ok : compF Tryz.prog Tryz.f64 = some c64 := by kernel_rfl
theorem a64 {args : List AV} {σ : ASt} {R : AV → ASt → Prop} (hl : args.length ≤ 29) (h : c64_23.wp Tryz.prog (RetQ [.t 2] R) (init args) σ) : ACalls Tryz.prog 64 args σ R := acalls_of Tryz.func64 c64_ok hl h
/-! 65: tabular/token.isName -/
def c65_0 : ACode := .ops [
 ⟨some 2, none, .q (.mv (.v (.bool false))), []⟩]
def c65_1 : ACode := .ops [
 ⟨some 4, none, .q (.mv (.t 0)), []⟩,
 ⟨some 5, none, .q (.lenS (.t 4)), []⟩,
 ⟨some 6, none, .q (.mv (.v (.int .i64 0))), []⟩]
def c65_2 : ACode := .ops [
 ⟨some 7, none, .q (.bin .lss (.t 6) (.t 5)), []⟩]
def c65_3 : ACode := .cond (.t 7) .skip (.exit 0)
def c65_4 : ACode := .ops [
 ⟨some 8, none, .q (.mv (.t 6)), []⟩,
 ⟨some 3, none, .q (.mv (.t 8)), []⟩]
def c65_5 : ACode := .ops [
 ⟨some 9, none, .q (.mv (.t 0)), []⟩,
 ⟨some 10, none, .q (.mv (.t 3)), []⟩,
 ⟨some 11, none, .q (.idx (.t 9) (.t 10)), []⟩,
 ⟨some 12, none, .e (.call 40 [(.t 11)]), []⟩,
 ⟨some 13, none, .q (.un .not (.t 12)), []⟩,
 ⟨some 14, none, .q (.mv (.t 13)), []⟩,
 ⟨some 15, some (14, false), .q (.mv (.t 0)), []⟩,
 ⟨some 16, some (14, false), .q (.mv (.t 3)), []⟩,
 ⟨some 17, some (14, false), .q (.idx (.t 15) (.t 16)), []⟩,
 ⟨some 18, some (14, false), .q (.bin .eql (.t 17) (.v (.int .u8 36))), []⟩,
 ⟨some 19, none, .q (.pick (.t 14) (.v (.bool true)) (.t 18)), []⟩,
 ⟨some 20, none, .q (.mv (.t 19)), []⟩,
 ⟨some 21, some (20, false), .q (.mv (.t 3)), []⟩,
 ⟨some 22, some (20, false), .q (.bin .eql (.t 21) (.v (.int .i64 0))), []⟩,
 ⟨some 23, some (20, false), .q (.mv (.t 22)), []⟩,
 ⟨some 24, some (23, true), .q (.mv (.t 0)), []⟩,
 ⟨some 25, some (23, true), .q (.mv (.t 3)), []⟩,
 ⟨some 26, some (23, true), .q (.idx (.t 24) (.t 25)), []⟩,
 ⟨some 27, some (23, true), .e (.call 84 [(.t 26)]), []⟩,
 ⟨some 28, some (23, true), .q (.mv (.t 27)), []⟩,
 ⟨some 29, some (28, false), .q (.mv (.t 0)), []⟩,
 ⟨some 30, some (28, false), .q (.mv (.t 3)), []⟩,
 ⟨some 31, some (28, false), .q (.idx (.t 29) (.t 30)), []⟩,
 ⟨some 32, some (28, false), .q (.bin .eql (.t 31) (.v (.int .u8 46))), []⟩,
 ⟨some 33, some (23, true), .q (.pick (.t 28) (.v (.bool true)) (.t 32)), []⟩,
 ⟨some 34, some (20, false), .q (.pick (.t 23) (.t 33) (.v (.bool false))), []⟩,
 ⟨some 35, none, .q (.pick (.t 20) (.v (.bool true)) (.t 34)), []⟩]
def c65_6 : ACode := .ops [
 ⟨some 2, none, .q (.mv (.v (.bool false))), []⟩]
def c65_7 : ACode := .seq c65_6 .ret
def c65_8 : ACode := .cond (.t 35) c65_7 .skip
def c65_9 : ACode := .seq c65_5 c65_8
def c65_10 : ACode := .seq c65_4 c65_9
def c65_11 : ACode := .block 1 c65_10
def c65_12 : ACode := .ops [
 ⟨some 36, none, .q (.bin .add (.t 6) (.v (.int .i64 1))), []⟩,
 ⟨some 6, none, .q (.mv (.t 36)), []⟩]
def c65_13 : ACode := .seq c65_11 c65_12
def c65_14 : ACode := .seq c65_3 c65_13
def c65_15 : ACode := .seq c65_2 c65_14
def c65_16 : ACode := .loop c65_15
def c65_17 : ACode := .block 0 c65_16
def c65_18 : ACode := .seq c65_1 c65_17
def c65_19 : ACode := .ops [
 ⟨some 37, none, .q (.mv (.t 0)), []⟩,
 ⟨some 38, none, .q (.bin .neq (.t 37) (.v (.str []))), []⟩,
 ⟨some 2, none, .q (.mv (.t 38)), []⟩]
def c65_20 : ACode := .seq c65_19 .ret
def c65_21 : ACode := .seq c65_18 c65_20
def c65_22 : ACode := .seq c65_0 c65_21
@[go_sem] def c65_0_wp := wp_of c65_0.eq_1
@[go_sem] def c65_1_wp := wp_of c65_1.eq_1
@[go_sem] def c65_2_wp := wp_of c65_2.eq_1
@[go_sem] def c65_3_wp := wp_of c65_3.eq_1
@[go_sem] def c65_4_wp := wp_of c65_4.eq_1
@[go_sem] def c65_5_wp := wp_of c65_5.eq_1
@[go_sem] def c65_6_wp := wp_of c65_6.eq_1
@[go_sem] def c65_7_wp := wp_of c65_7.eq_1
@[go_sem] def c65_8_wp := wp_of c65_8.eq_1
@[go_sem] def c65_9_wp := wp_of c65_9.eq_1
@[go_sem] def c65_10_wp := wp_of c65_10.eq_1
@[go_sem] def c65_11_wp := wp_of c65_11.eq_1
@[go_sem] def c65_12_wp := wp_of c65_12.eq_1
@[go_sem] def c65_13_wp := wp_of c65_13.eq_1
@[go_sem] def c65_14_wp := wp_of c65_14.eq_1
@[go_sem] def c65_15_wp := wp_of c65_15.eq_1
@[go_sem] def c65_16_wp := wp_of c65_16.eq_1
@[go_sem] def c65_17_wp := wp_of c65_17.eq_1
@[go_sem] def c65_18_wp := wp_of c65_18.eq_1
@[go_sem] def c65_19_wp := wp_of c65_19.eq_1
@[go_sem] def c65_20_wp := wp_of c65_20.eq_1
@[go_sem] def c65_21_wp := wp_of c65_21.eq_1
@[go_sem] def c65_22_wp := wp_of c65_22.eq_1
def c65 : AFn := ⟨39, [.t 2], c65_22⟩
theorem c65_ok : compF Tryz.prog Tryz.f65 = some c65 := by kernel_rfl
theorem a65 {args : List AV} {σ : ASt} {R : AV → ASt → Prop} (hl : args.length ≤ 39) (h : c65_22.wp Tryz.prog (RetQ [.t 2] R) (init args) σ) : ACalls Tryz.prog 65 args σ R := acalls_of Tryz.func65 c65_ok hl h
/-! 68: tabular/token.alike -/
def c68_0 : ACode := .ops [
 ⟨some 2, none, .q (.mv (.v (.str []))), []⟩]
def c68_1 : ACode := .ops [
 ⟨some 3, none, .q (.mv (.t 0)), []⟩]
def c68_2 : ACode := .ops [
 ⟨some 5, none, .q (.bin .eql (.t 3) (.v (.int .i32 8804))), []⟩,
 ⟨some 4, none, .q (.mv (.t 5)), []⟩]
def c68_3 : ACode := .ops [
 ⟨some 2, none, .q (.mv (.v (.str [60, 61]))), []⟩]
def c68_4 : ACode := .seq c68_3 .ret
def c68_5 : ACode := .ops [
 ⟨some 7, none, .q (.bin .eql (.t 3) (.v (.int .i32 8805))), []⟩,
 ⟨some 6, none, .q (.mv (.t 7)), []⟩]
def c68_6 : ACode := .ops [
 ⟨some 2, none, .q (.mv (.v (.str [62, 61]))), []⟩]
def c68_7 : ACode := .seq c68_6 .ret
def c68_8 : ACode := .ops [
 ⟨some 9, none, .q (.bin .eql (.t 3) (.v (.int .i32 8800))), []⟩,
 ⟨some 8, none, .q (.mv (.t 9)), []⟩]
def c68_9 : ACode := .ops [
 ⟨some 2, none, .q (.mv (.v (.str [60, 62]))), []⟩]
def c68_10 : ACode := .seq c68_9 .ret
def c68_11 : ACode := .ops [
 ⟨some 11, none, .q (.bin .eql (.t 3) (.v (.int .i32 215))), []⟩,
 ⟨some 10, none, .q (.mv (.t 11)), []⟩]
def c68_12 : ACode := .ops [
 ⟨some 2, none, .q (.mv (.v (.str [42]))), []⟩]
def c68_13 : ACode := .seq c68_12 .ret
def c68_14 : ACode := .ops [
 ⟨some 13, none, .q (.bin .eql (.t 3) (.v (.int .i32 247))), []⟩,
 ⟨some 12, none, .q (.mv (.t 13)), []⟩]
def c68_15 : ACode := .ops [
 ⟨some 2, none, .q (.mv (.v (.str [47]))), []⟩]
def c68_16 : ACode := .seq c68_15 .ret
def c68_17 : ACode := .ops [
 ⟨some 15, none, .q (.bin .eql (.t 3) (.v (.int .i32 8722))), []⟩,
 ⟨some 14, none, .q (.mv (.t 15)), []⟩]
def c68_18 : ACode := .ops [
 ⟨some 2, none, .q (.mv (.v (.str [45]))), []⟩]
def c68_19 : ACode := .seq c68_18 .ret
def c68_20 : ACode := .cond (.t 14) c68_19 .skip
def c68_21 : ACode := .seq c68_17 c68_20
def c68_22 : ACode := .cond (.t 12) c68_16 c68_21
def c68_23 : ACode := .seq c68_14 c68_22
def c68_24 : ACode := .cond (.t 10) c68_13 c68_23
def c68_25 : ACode := .seq c68_11 c68_24
def c68_26 : ACode := .cond (.t 8) c68_10 c68_25
def c68_27 : ACode := .seq c68_8 c68_26
def c68_28 : ACode := .cond (.t 6) c68_7 c68_27
def c68_29 : ACode := .seq c68_5 c68_28
def c68_30 : ACode := .cond (.t 4) c68_4 c68_29
def c68_31 : ACode := .seq c68_2 c68_30
def c68_32 : ACode := .block 0 c68_31
def c68_33 : ACode := .seq c68_1 c68_32
def c68_34 : ACode := .ops [
 ⟨some 2, none, .q (.mv (.v (.str []))), []⟩]
def c68_35 : ACode := .seq c68_34 .ret
def c68_36 : ACode := .seq c68_33 c68_35
def c68_37 : ACode := .seq c68_0 c68_36
@[go_sem] def c68_0_wp := wp_of c68_0.eq_1
@[go_sem] def c68_1_wp := wp_of c68_1.eq_1
@[go_sem] def c68_2_wp := wp_of c68_2.eq_1
@[go_sem] def c68_3_wp := wp_of c68_3.eq_1
@[go_sem] def c68_4_wp := wp_of c68_4.eq_1
@[go_sem] def c68_5_wp := wp_of c68_5.eq_1
@[go_sem] def c68_6_wp := wp_of c68_6.eq_1
@[go_sem] def c68_7_wp := wp_of c68_7.eq_1
@[go_sem] def c68_8_wp := wp_of c68_8.eq_1
@[go_sem] def c68_9_wp := wp_of c68_9.eq_1
@[go_sem] def c68_10_wp := wp_of c68_10.eq_1
@[go_sem] def c68_11_wp := wp_of c68_11.eq_1
@[go_sem] def c68_12_wp := wp_of c68_12.eq_1
@[go_sem] def c68_13_wp := wp_of c68_13.eq_1
@[go_sem] def c68_14_wp := wp_of c68_14.eq_1
@[go_sem] def c68_15_wp := wp_of c68_15.eq_1
@[go_sem] def c68_16_wp := wp_of c68_16.eq_1
@[go_sem] def c68_17_wp := wp_of c68_17.eq_1
@[go_sem] def c68_18_wp := wp_of c68_18.eq_1
@[go_sem] def c68_19_wp := wp_of c68_19.eq_1
@[go_sem] def c68_20_wp := wp_of c68_20.eq_1
@[go_sem] def c68_21_wp := wp_of c68_21.eq_1
@[go_sem] def c68_22_wp := wp_of c68_22.eq_1
@[go_sem] def c68_23_wp := wp_of c68_23.eq_1
@[go_sem] def c68_24_wp := wp_of c68_24.eq_1
@[go_sem] def c68_25_wp := wp_of c68_25.eq_1
@[go_sem] def c68_26_wp := wp_of c68_26.eq_1
@[go_sem] def c68_27_wp := wp_of c68_27.eq_1
@[go_sem] def c68_28_wp := wp_of c68_28.eq_1
@[go_sem] def c68_29_wp := wp_of c68_29.eq_1
@[go_sem] def c68_30_wp := wp_of c68_30.eq_1
@[go_sem] def c68_31_wp := wp_of c68_31.eq_1
@[go_sem] def c68_32_wp := wp_of c68_32.eq_1
@[go_sem] def c68_33_wp := wp_of c68_33.eq_1
@[go_sem] def c68_34_wp := wp_of c68_34.eq_1
@[go_sem] def c68_35_wp := wp_of c68_35.eq_1
@[go_sem] def c68_36_wp := wp_of c68_36.eq_1
@[go_sem] def c68_37_wp := wp_of c68_37.eq_1
def c68 : AFn := ⟨16, [.t 2], c68_37⟩
theorem c68_ok : compF Tryz.prog Tryz.f68 = some c68 := by kernel_rfl
theorem a68 {args : List AV} {σ : ASt} {R : AV → ASt → Prop} (hl : args.length ≤ 16) (h : c68_37.wp Tryz.prog (RetQ [.t 2] R) (init args) σ) : ACalls Tryz.prog 68 args σ R := acalls_of Tryz.func68 c68_ok hl h
/-! 84: tabular/token.digit -/
def c84_0 : ACode := .ops [
 ⟨some 2, none, .q (.mv (.v (.bool false))), []⟩]
def c84_1 : ACode := .ops [
 ⟨some 3, none, .q (.mv (.t 0)), []⟩,
 ⟨some 4, none, .q (.bin .geq (.t 3) (.v (.int .u8 48))), []⟩,
 ⟨some 5, none, .q (.mv (.t 4)), []⟩,
 ⟨some 6, some (5, true), .q (.mv (.t 0)), []⟩,
 ⟨some 7, some (5, true), .q (.bin .leq (.t 6) (.v (.int .u8 57))), []⟩,
 ⟨some 8, none, .q (.pick (.t 5) (.t 7) (.v (.bool false))), []⟩,
 ⟨some 2, none, .q (.mv (.t 8)), []⟩]
def c84_2 : ACode := .seq c84_1 .ret
def c84_3 : ACode := .seq c84_0 c84_2
@[go_sem] def c84_0_wp := wp_of c84_0.eq_1
@[go_sem] def c84_1_wp := wp_of c84_1.eq_1
@[go_sem] def c84_2_wp := wp_of c84_2.eq_1
@[go_sem] def c84_3_wp := wp_of c84_3.eq_1
def c84 : AFn := ⟨9, [.t 2], c84_3⟩
theorem c84_ok : compF Tryz.prog Tryz.f84 = some c84 := by kernel_rfl
theorem a84 {args : List AV} {σ : ASt} {R : AV → ASt → Prop} (hl : args.length ≤ 9) (h : c84_3.wp Tryz.prog (RetQ [.t 2] R) (init args) σ) : ACalls Tryz.prog 84 args σ R := acalls_of Tryz.func84 c84_ok hl h
end Go.A
namespace Go.A
open Go.Proofs Go.Lib
theorem word_ok (c : UInt8) : Pure Tryz.prog 40 [.int .u8 c.toNat] (.bool (wordB c)) := by
 intro σ
 refine a40 (by simp) ?_
 have hc := c.toNat_lt
 unfold wordB
 repeat' (first | (simp (disch := first | assumption | omega) only [go_sem, reduceCtorEq, Nat.reduceEqDiff, ↓reduceIte]) | with_reducible refine gC_d (fun h => ?_) (fun h => ?_) | with_reducible refine gC_dn (fun h => ?_) (fun h => ?_) | with_reducible refine condC_d (fun h => ?_) (fun h => ?_) | with_reducible refine condC_n (fun h => ?_) (fun h => ?_) | with_reducible refine condC_b (fun h => ?_) (fun h => ?_) | with_reducible refine boxC_by ?_ fun b hb => ?_)
 all_goals refine retC_by (Drop.refl _) (.refl _) ⟨?_, rfl⟩
 all_goals (simp only [resV_one]) <;> (congr 1) <;> (rw [Bool.eq_iff_iff]; simp only [decide_eq_true_eq]; omega)
theorem digit_ok (c : UInt8) : Pure Tryz.prog 84 [.int .u8 c.toNat] (.bool (digB c)) := by
 intro σ
 refine a84 (by simp) ?_
 have hc := c.toNat_lt
 unfold digB
 repeat' (first | (simp (disch := first | assumption | omega) only [go_sem, reduceCtorEq, Nat.reduceEqDiff, ↓reduceIte]) | with_reducible refine gC_d (fun h => ?_) (fun h => ?_) | with_reducible refine gC_dn (fun h => ?_) (fun h => ?_) | with_reducible refine condC_d (fun h => ?_) (fun h => ?_) | with_reducible refine condC_n (fun h => ?_) (fun h => ?_) | with_reducible refine condC_b (fun h => ?_) (fun h => ?_) | with_reducible refine boxC_by ?_ fun b hb => ?_)
 all_goals refine retC_by (Drop.refl _) (.refl _) ⟨?_, rfl⟩
 all_goals (simp only [resV_one]) <;> (congr 1) <;> (rw [Bool.eq_iff_iff]; simp only [decide_eq_true_eq]; omega)
theorem alike_ok (c : Int) : Pure Tryz.prog 68 [.int .i32 c] (.str (alikeP c)) := by
 intro σ
 refine a68 (by simp) ?_
 unfold alikeP
 by_cases h1 : c = 8804
 ·simp (disch := first | assumption | omega) only [go_sem, reduceCtorEq, ↓reduceIte, h1]; exact retC_by (Drop.refl _) (.refl _) ⟨by simp [resV_one], rfl⟩
 by_cases h2 : c = 8805
 ·simp (disch := first | assumption | omega) only [go_sem, reduceCtorEq, Nat.reduceEqDiff, Int.reduceEq, ↓reduceIte, h2]; exact retC_by (Drop.refl _) (.refl _) ⟨by simp [resV_one], rfl⟩
 by_cases h3 : c = 8800
 ·simp (disch := first | assumption | omega) only [go_sem, reduceCtorEq, Nat.reduceEqDiff, Int.reduceEq, ↓reduceIte, h3]; exact retC_by (Drop.refl _) (.refl _) ⟨by simp [resV_one], rfl⟩
 by_cases h4 : c = 215
 ·simp (disch := first | assumption | omega) only [go_sem, reduceCtorEq, Nat.reduceEqDiff, Int.reduceEq, ↓reduceIte, h4]; exact retC_by (Drop.refl _) (.refl _) ⟨by simp [resV_one], rfl⟩
 by_cases h5 : c = 247
 ·simp (disch := first | assumption | omega) only [go_sem, reduceCtorEq, Nat.reduceEqDiff, Int.reduceEq, ↓reduceIte, h5]; exact retC_by (Drop.refl _) (.refl _) ⟨by simp [resV_one], rfl⟩
 by_cases h6 : c = 8722
 ·simp (disch := first | assumption | omega) only [go_sem, reduceCtorEq, Nat.reduceEqDiff, Int.reduceEq, ↓reduceIte, h6]; exact retC_by (Drop.refl _) (.refl _) ⟨by simp [resV_one], rfl⟩
 simp (disch := first | assumption | omega) only [go_sem, reduceCtorEq, Nat.reduceEqDiff, ↓reduceIte, h1, h2, h3, h4, h5, h6]
 exact retC_by (Drop.refl _) (.refl _) ⟨by simp [resV_one], rfl⟩
theorem isRef_ok (l : List UInt8) (hl : l.length ≤ 9223372036854775000) : Pure Tryz.prog 63 [.str l] (.bool (refB l)) := by
 intro σ
 refine a63 (by simp) ?_
 simp (disch := first | assumption | omega) only [go_sem, reduceCtorEq, ↓reduceIte]
 refine (parse_ok l hl).use ?_
 unfold refB
 obtain ⟨⟨⟨row, col, ar, ac⟩, ok⟩, hq⟩ : ∃ q, parseP l = q := ⟨_, rfl⟩
 rw [hq]
 simp (disch := first | assumption | omega) only [go_sem, Nat.reduceEqDiff, ↓reduceIte, refAV]
 refine allocC_by fun b hb => ?_
 simp (disch := first | assumption | omega) only [go_sem, Nat.reduceEqDiff, Nat.reduceAdd, Nat.reduceLeDiff, ↓reduceIte, Bool.true_and]
 exact retC_by (by repeat' (first | exact Drop.refl _ | with_reducible refine Drop.off ?_ (by assumption))) (.refl _) ⟨rfl, rfl⟩
theorem tgreat_ok (l : List UInt8) (hl : l.length < 4611686018427387904) : Pure Tryz.prog 64 [.str l] (.str (greatP l)) := by
 intro σ
 refine a64 (by simp) ?_
 simp (disch := first | assumption | omega) only [go_sem, reduceCtorEq, ↓reduceIte]
 refine s2b_own fun b cp hb hcp => ?_
 simp (disch := first | assumption | omega) only [go_sem, ↓reduceIte]
 refine wp_loop_on (fun (i : Nat) a σ' => i ≤ l.length ∧ (a 3 = .msl b 0 l.length cp ∧ a 8 = .msl b 0 l.length cp ∧ a 9 = .int .i64 l.length ∧ a 10 = .int .i64 i) ∧ σ' = σ.set b (some (.obj (bytesAV (greatP (l.take i) ++ l.drop i)))))
  (fun i => l.length - i) 0 ⟨Nat.zero_le _, ?_, by simp [greatP]⟩ ?_
 ·simp (disch := first | assumption | omega) only [go_sem, Nat.reduceEqDiff, ↓reduceIte]
 rintro i a σ1 ⟨hi, hf, rfl⟩
 obtain ⟨m, hm⟩ : ∃ m, greatP (l.take i) ++ l.drop i = m := ⟨_, rfl⟩
 have hml : m.length = l.length := by rw [← hm]; simp [greatP]; omega
 have hgl : (greatP (l.take i)).length = i := by simp [greatP]; omega
 rw [hm]
 by_cases hlt : i < l.length
 ·have hidx : m[i]? = some (l[i]'hlt) := by rw [← hm, List.getElem?_append_right (by omega), hgl]; simp
  obtain ⟨c, hc⟩ : ∃ c, l[i]'hlt = c := ⟨_, rfl⟩
  rw [hc] at hidx
  have hcb := u8_lt c
  have hi2 : (i : Int) < l.length := by omega
  have hle : i + 1 ≤ m.length := by omega
  have hnext : greatP (l.take (i + 1)) ++ l.drop (i + 1) = m.set i (greatC c) := by
   rw [← hm, List.take_succ_eq_append_getElem hlt, hc, List.set_append_right _ _ (by omega), hgl, Nat.sub_self]
   simp only [greatP, List.map_append, List.map_cons, List.map_nil, List.append_assoc, List.singleton_append]
   rw [List.drop_eq_getElem_cons hlt]
   rfl
  by_cases hg : 97 ≤ c.toNat ∧ c.toNat ≤ 122
  ·have g1 : (97 : Int) ≤ c.toNat := by omega
   have g2 : (c.toNat : Int) ≤ 122 := by omega
   have hgc : greatC c = UInt8.ofNat (c.toNat - 32) := by unfold greatC; rw [if_pos hg]
   have hw := set_bytes (l := m) (i := i) (m := (c.toNat : Int) - 32) (by omega)
   have hw0 : (c.toNat : Int) - 32 = ((UInt8.ofNat (c.toNat - 32)).toNat : Int) := by rw [u8_nat (by omega)]; omega
   rw [hw0, bytes_set] at hw
   simp (disch := first | assumption | omega) only [go_sem, Nat.reduceEqDiff, ↓reduceIte, Nat.mul_one, Bool.true_and, hf, hi2, hidx, g1, g2, hle, hw0, hw]
   refine ⟨i + 1, by omega, by omega, ?_, by rw [hnext, hgc]⟩
   simp (disch := first | assumption | omega) only [go_sem]
  ·have hgc : greatC c = c := by unfold greatC; rw [if_neg hg]
   have hms : m.set i c = m := by
    apply List.ext_getElem?
    intro j
    rw [List.getElem?_set]
    split
    ·rename_i h; subst h; rw [hidx]; split <;> first | rfl | omega
    ·rfl
   by_cases g1 : (97 : Int) ≤ c.toNat
   ·have g2 : ¬ (c.toNat : Int) ≤ 122 := by omega
    simp (disch := first | assumption | omega) only [go_sem, Nat.reduceEqDiff, ↓reduceIte, Nat.mul_one, hf, hi2, hidx, g1, g2]
    refine ⟨i + 1, by omega, by omega, ?_, by rw [hnext, hgc, hms]⟩
    simp (disch := first | assumption | omega) only [go_sem]
   ·simp (disch := first | assumption | omega) only [go_sem, Nat.reduceEqDiff, ↓reduceIte, Nat.mul_one, hf, hi2, hidx, g1]
    refine ⟨i + 1, by omega, by omega, ?_, by rw [hnext, hgc, hms]⟩
    simp (disch := first | assumption | omega) only [go_sem]
 ·have hi2 : ¬ (i : Int) < l.length := by omega
  have hle2 : l.length ≤ m.length := by omega
  have htk := bytes_all hml
  simp (disch := first | assumption | omega) only [go_sem, Nat.reduceEqDiff, ↓reduceIte, hf, hi2, hle2, htk]
  refine retC_by (by repeat' (first | exact Drop.refl _ | with_reducible refine Drop.off ?_ (by assumption))) (.refl _) ⟨?_, rfl⟩
  rw [← hm, List.take_of_length_le (by omega), List.drop_eq_nil_of_le (by omega), List.append_nil]
  rfl
theorem errs_ok : Pure Tryz.prog 56 [] (.sl .full (errTexts.map AV.str)) := by
 intro σ
 refine a56 (by simp) ?_
 simp (disch := first | assumption | omega) only [go_sem, ↓reduceIte, Bool.true_and]
 exact retC_by (by repeat' (first | exact Drop.refl _ | with_reducible refine Drop.off ?_ (by assumption))) (.refl _) ⟨rfl, rfl⟩
theorem index_dot : ∀ l : List UInt8, (cutDot l).2 = none ∧ indexByte l 46 = -1 ∧ (cutDot l).1 = l ∨ ∃ (i : Nat) (p : List UInt8), indexByte l 46 = i ∧ i < l.length ∧ cutDot l = (l.take i, some p) ∧ p = l.drop (i + 1)
 | [] => .inl ⟨rfl, rfl, rfl⟩
 | c :: l => by
   unfold indexByte cutDot
   by_cases hc : c.toNat = 46
   ·have : c = 46 := by apply UInt8.toNat_inj.1; simpa using hc
    subst this
    exact .inr ⟨0, l, by simp, by simp, by simp, by simp⟩
   ·have hne : ¬ (c == 46) = true := by
     intro h
     rw [beq_iff_eq] at h
     subst h
     exact hc rfl
    rw [if_neg hc, if_neg hne]
    rcases index_dot l with ⟨h1, h2, h3⟩ | ⟨i, p, h1, h2, h3, h4⟩
    ·exact .inl ⟨h1, by rw [h2]; rfl, by rw [h3]⟩
    ·refine .inr ⟨i + 1, p, ?_, by simpa using h2, ?_, by simpa using h4⟩
     ·rw [h1, if_neg (by rw [beq_iff_eq]; omega)]; rfl
     ·rw [h3]; rfl
theorem cutdot_ok (l : List UInt8) (hl : l.length ≤ 1000000000) : Pure Tryz.prog 83 [.str l, .str [46]] (.tuple [.str (cutDot l).1, .str ((cutDot l).2.getD []), .bool (cutDot l).2.isSome]) := by
 have h1 : Pure Tryz.prog 103 [.str l, .str [46]] (.tuple [.str (cutDot l).1, .str ((cutDot l).2.getD []), .bool (cutDot l).2.isSome]) := by
  intro σ
  refine a103 (by simp) ?_
  rcases index_dot l with ⟨h1, h2, h3⟩ | ⟨i, p, h1, h2, h3, h4⟩
  ·rw [h1, h3]
   simp (disch := first | assumption | omega) only [go_sem, reduceCtorEq, Nat.reduceEqDiff, ↓reduceIte]
   refine (index_ok l 46).use ?_
   rw [h2]
   simp (disch := first | assumption | omega) only [go_sem, reduceCtorEq, Nat.reduceEqDiff, Int.reduceLE, ↓reduceIte, Int.reduceNeg]
   exact retC_by (by repeat' (first | exact Drop.refl _ | with_reducible refine Drop.off ?_ (by assumption))) (.refl _) ⟨rfl, rfl⟩
  ·rw [h3]
   subst h4
   have e1 : (0 : Int) ≤ i := by omega
   have e2 : ((i : Int) + 1).toNat = i + 1 := by omega
   simp (disch := first | assumption | omega) only [go_sem, reduceCtorEq, Nat.reduceEqDiff, ↓reduceIte]
   refine (index_ok l 46).use ?_
   rw [h1]
   simp (disch := first | assumption | omega) only [go_sem, reduceCtorEq, Nat.reduceEqDiff, ↓reduceIte, e1, e2, List.take_length]
   exact retC_by (by repeat' (first | exact Drop.refl _ | with_reducible refine Drop.off ?_ (by assumption))) (.refl _) ⟨rfl, rfl⟩
 intro σ
 refine a83 (by simp) ?_
 simp (disch := first | assumption | omega) only [go_sem, reduceCtorEq, Nat.reduceEqDiff, ↓reduceIte]
 refine h1.use ?_
 simp (disch := first | assumption | omega) only [go_sem, Nat.reduceEqDiff, ↓reduceIte]
 exact retC_by (by repeat' (first | exact Drop.refl _ | with_reducible refine Drop.off ?_ (by assumption))) (.refl _) ⟨rfl, rfl⟩
theorem cutDot_len (l : List UInt8) : (cutDot l).1.length + ((cutDot l).2.getD []).length ≤ l.length := by
 rcases index_dot l with ⟨h1, h2, h3⟩ | ⟨i, p, h1, h2, h3, h4⟩
 ·rw [h1, h3]; simp
 ·rw [h3, h4]; simp; omega
theorem isNum_ok (l : List UInt8) (hl : l.length ≤ 1000000000) : Pure Tryz.prog 62 [.str l] (.bool (numB l)) := by
 intro σ
 have hcd := cutdot_ok l hl
 have hlen := cutDot_len l
 obtain ⟨R, hR⟩ : ∃ R, numB l = R := ⟨_, rfl⟩
 rw [hR]
 refine a62 (by simp) ?_
 unfold numB at hR
 obtain ⟨⟨w, q⟩, hC⟩ : ∃ C, cutDot l = C := ⟨_, rfl⟩
 rw [hC] at hcd hlen hR
 dsimp only at hcd hlen
 obtain ⟨F, hF⟩ : ∃ F, F = ACode.wp Tryz.prog c62_27 := ⟨_, rfl⟩
 have fin : ∀ (p : List UInt8) (a : AFr), w.length + p.length ≤ l.length → (w ++ p).all digB = R → (a 3 = .str w ∧ a 4 = .str p) → F (RetQ [.t 2] fun v σ' => v = .bool R ∧ σ' = σ) a σ := by
  intro p a hlp hwp hf
  rw [hF]
  have hl2 : w.length + p.length ≤ 9223372036854775807 := by omega
  simp (disch := first | assumption | omega) only [go_sem, Nat.reduceEqDiff, ↓reduceIte, hf]
  refine s2b_shr ?_
  obtain ⟨m, hm⟩ : ∃ m, w ++ p = m := ⟨_, rfl⟩
  rw [hm] at hwp ⊢
  have hml : m.length ≤ 1000000000 := by rw [← hm]; simp; omega
  simp (disch := first | assumption | omega) only [go_sem, ↓reduceIte]
  refine wp_loop_on (fun (i : Nat) a σ' => i ≤ m.length ∧ (m.take i).all digB = true ∧ (a 31 = .sl .shr (bytesAV m) ∧ a 32 = .int .i64 m.length ∧ a 33 = .int .i64 i) ∧ σ' = σ) (fun i => m.length - i) 0 ⟨Nat.zero_le _, rfl, ?_, rfl⟩ ?_
  ·simp (disch := first | assumption | omega) only [go_sem, Nat.reduceEqDiff, ↓reduceIte]
  rintro i a σ1 ⟨hi, hall, hf, rfl⟩
  by_cases hlt : i < m.length
  ·have hidx : m[i]? = some (m[i]'hlt) := List.getElem?_eq_getElem hlt
   obtain ⟨c, hc⟩ : ∃ c, m[i]'hlt = c := ⟨_, rfl⟩
   rw [hc] at hidx
   have hlt' : (i : Int) < m.length := by omega
   simp (disch := first | assumption | omega) only [go_sem, Nat.reduceEqDiff, ↓reduceIte, hf, hlt', hidx]
   refine (digit_ok c).use ?_
   obtain ⟨d, hd⟩ : ∃ d, digB c = d := ⟨_, rfl⟩
   rw [hd]
   have hnx : (m.take (i + 1)).all digB = d := by
    rw [List.take_succ_eq_append_getElem hlt, hc, List.all_append, hall]
    simp [hd]
   cases d
   ·simp (disch := first | assumption | omega) only [go_sem, ↓reduceIte]
    have : m.all digB = false := by
     have h1 := congrArg (fun x => x && (m.drop (i + 1)).all digB) hnx
     simp only [← List.all_append, List.take_append_drop, Bool.false_and] at h1
     exact h1
    rw [this] at hwp
    subst hwp
    exact retC_by (by repeat' (first | exact Drop.refl _ | with_reducible refine Drop.off ?_ (by assumption))) (.refl _) ⟨rfl, rfl⟩
   ·simp (disch := first | assumption | omega) only [go_sem, Nat.reduceEqDiff, ↓reduceIte, hf]
    exact ⟨i + 1, by omega, by omega, hnx, rfl⟩
  ·have hlt' : ¬ (i : Int) < m.length := by omega
   rw [List.take_of_length_le (by omega), hwp] at hall
   subst hall
   simp (disch := first | assumption | omega) only [go_sem, ↓reduceIte, hf, hlt']
   exact retC_by (by repeat' (first | exact Drop.refl _ | with_reducible refine Drop.off ?_ (by assumption))) (.refl _) ⟨rfl, rfl⟩
 simp (disch := first | assumption | omega) only [go_sem, reduceCtorEq, ↓reduceIte]
 refine hcd.use ?_
 by_cases hw : w = []
 ·have : R = false := by
   rw [← hR]
   cases q <;> simp [hw]
  subst hw this
  simp (disch := first | assumption | omega) only [go_sem, Nat.reduceEqDiff, ↓reduceIte, ←hF]
  exact retC_by (by repeat' (first | exact Drop.refl _ | with_reducible refine Drop.off ?_ (by assumption))) (.refl _) ⟨rfl, rfl⟩
 cases q with
 | none =>
   simp (disch := first | assumption | omega) only [go_sem, Nat.reduceEqDiff, ↓reduceIte, hw, Option.isSome_none, Option.getD_none, ←hF]
   refine fin [] _ (by simpa using hlen) (by rw [← hR]; simp [hw]) ?_
   simp (disch := first | assumption | omega) only [go_sem, Nat.reduceEqDiff, ↓reduceIte]
 | some p =>
   dsimp only [Option.getD_some] at hlen
   by_cases hp : p = []
   ·have : R = false := by rw [← hR]; simp [hp]
    subst hp this
    simp (disch := first | assumption | omega) only [go_sem, Nat.reduceEqDiff, ↓reduceIte, hw, Option.getD_some, Option.isSome_some, ←hF]
    exact retC_by (by repeat' (first | exact Drop.refl _ | with_reducible refine Drop.off ?_ (by assumption))) (.refl _) ⟨rfl, rfl⟩
   by_cases h4 : 4 < p.length
   ·have : R = false := by rw [← hR]; simp [hp, show ¬ p.length ≤ 4 by omega]
    subst this
    have h4' : (4 : Int) < p.length := by omega
    simp (disch := first | assumption | omega) only [go_sem, Nat.reduceEqDiff, ↓reduceIte, hw, hp, h4', Option.getD_some, Option.isSome_some, ←hF]
    exact retC_by (by repeat' (first | exact Drop.refl _ | with_reducible refine Drop.off ?_ (by assumption))) (.refl _) ⟨rfl, rfl⟩
   ·have h4' : ¬ (4 : Int) < p.length := by omega
    simp (disch := first | assumption | omega) only [go_sem, Nat.reduceEqDiff, ↓reduceIte, hw, hp, h4', Option.getD_some, Option.isSome_some, ←hF]
    refine fin p _ hlen (by rw [← hR]; simp [hw, hp, show p.length ≤ 4 by omega]) ?_
    simp (disch := first | assumption | omega) only [go_sem, Nat.reduceEqDiff, ↓reduceIte]
theorem isName_ok (l : List UInt8) (hl : l.length ≤ 1000000000) : Pure Tryz.prog 65 [.str l] (.bool (nameB l)) := by
 intro σ
 refine a65 (by simp) ?_
 obtain ⟨R, hR⟩ : ∃ R, nameB l = R := ⟨_, rfl⟩
 rw [hR]
 unfold nameB at hR
 simp (disch := first | assumption | omega) only [go_sem, reduceCtorEq, ↓reduceIte]
 refine wp_loop_on (fun (i : Nat) a σ' => i ≤ l.length ∧ (l.take i).all (fun c => wordB c && decide (c.toNat ≠ 36)) = true ∧ (0 < i → ((l.head?.map fun c => digB c || decide (c.toNat = 46)).getD false) = false) ∧ (a 0 = .str l ∧ a 5 = .int .i64 l.length ∧ a 6 = .int .i64 i) ∧ σ' = σ) (fun i => l.length - i) 0 ⟨Nat.zero_le _, rfl, by omega, ?_, rfl⟩ ?_
 ·simp (disch := first | assumption | omega) only [go_sem, reduceCtorEq, Nat.reduceEqDiff, ↓reduceIte]
 rintro i a σ1 ⟨hi, hall, hfst, hf, rfl⟩
 by_cases hlt : i < l.length
 ·have hidx : l[i]? = some (l[i]'hlt) := List.getElem?_eq_getElem hlt
  obtain ⟨c, hc⟩ : ∃ c, l[i]'hlt = c := ⟨_, rfl⟩
  rw [hc] at hidx
  have hlt' : (i : Int) < l.length := by omega
  have hstep : (l.take (i + 1)).all (fun c => wordB c && decide (c.toNat ≠ 36)) = (wordB c && decide (c.toNat ≠ 36)) := by
   rw [List.take_succ_eq_append_getElem hlt, hc, List.all_append, hall]
   simp
  have hno : (wordB c && decide (c.toNat ≠ 36)) = false → R = false := by
   intro h
   rw [h] at hstep
   have h1 := congrArg (fun x => x && (l.drop (i + 1)).all (fun c => wordB c && decide (c.toNat ≠ 36))) hstep
   simp only [← List.all_append, List.take_append_drop, Bool.false_and] at h1
   rw [← hR, h1]
   simp
  simp (disch := first | assumption | omega) only [go_sem, reduceCtorEq, Nat.reduceEqDiff, ↓reduceIte, hf, hlt', hidx]
  refine (word_ok c).use ?_
  cases hwd : wordB c with
  | false =>
    obtain rfl := hno (by rw [hwd]; rfl)
    simp (disch := first | assumption | omega) only [go_sem, Nat.reduceEqDiff, ↓reduceIte]
    exact retC_by (by repeat' (first | exact Drop.refl _ | with_reducible refine Drop.off ?_ (by assumption))) (.refl _) ⟨rfl, rfl⟩
  | true =>
  by_cases h36 : (c.toNat : Int) = 36
  ·obtain rfl := hno (by rw [hwd]; simp; omega)
   simp (disch := first | assumption | omega) only [go_sem, reduceCtorEq, Nat.reduceEqDiff, ↓reduceIte, hf, hidx, h36]
   exact retC_by (by repeat' (first | exact Drop.refl _ | with_reducible refine Drop.off ?_ (by assumption))) (.refl _) ⟨rfl, rfl⟩
  have hok : (l.take (i + 1)).all (fun c => wordB c && decide (c.toNat ≠ 36)) = true := by rw [hstep, hwd]; simp; omega
  by_cases h0 : i = 0
  ·subst h0
   have hhd : l.head? = some c := by
    rw [List.head?_eq_getElem?]; exact hidx
   simp (disch := first | assumption | omega) only [go_sem, reduceCtorEq, Nat.reduceEqDiff, ↓reduceIte, hf, hidx, h36]
   refine (digit_ok c).use ?_
   cases hdg : digB c with
   | true =>
     have : R = false := by rw [← hR, hhd]; simp [hdg]
     subst this
     simp (disch := first | assumption | omega) only [go_sem, Nat.reduceEqDiff, ↓reduceIte]
     exact retC_by (by repeat' (first | exact Drop.refl _ | with_reducible refine Drop.off ?_ (by assumption))) (.refl _) ⟨rfl, rfl⟩
   | false =>
     by_cases h46 : (c.toNat : Int) = 46
     ·have : R = false := by rw [← hR, hhd]; simp; intro _ _ _; omega
      subst this
      simp (disch := first | assumption | omega) only [go_sem, reduceCtorEq, Nat.reduceEqDiff, ↓reduceIte, hf, hidx, h46]
      exact retC_by (by repeat' (first | exact Drop.refl _ | with_reducible refine Drop.off ?_ (by assumption))) (.refl _) ⟨rfl, rfl⟩
     ·simp (disch := first | assumption | omega) only [go_sem, reduceCtorEq, Nat.reduceEqDiff, ↓reduceIte, Int.reduceAdd, hf, hidx, h46]
      refine ⟨0 + 1, by omega, by omega, hok, ?_, rfl⟩
      intro _
      rw [hhd]
      simp [hdg]
      omega
  ·have h0' : ¬ (i : Int) = 0 := by omega
   simp (disch := first | assumption | omega) only [go_sem, reduceCtorEq, Nat.reduceEqDiff, ↓reduceIte, hf, hidx, h36, h0']
   exact ⟨i + 1, by omega, by omega, hok, fun _ => hfst (by omega), rfl⟩
 ·have hlt' : ¬ (i : Int) < l.length := by omega
  rw [List.take_of_length_le (by omega)] at hall
  have : R = decide (l ≠ []) := by
   rw [← hR, hall]
   by_cases hne : l = []
   ·subst hne; rfl
   ·have hpos := List.length_pos_iff.2 hne
    rw [hfst (by omega)]
    simp
  subst this
  simp (disch := first | assumption | omega) only [go_sem, reduceCtorEq, ↓reduceIte, hf, hlt']
  exact retC_by (by repeat' (first | exact Drop.refl _ | with_reducible refine Drop.off ?_ (by assumption))) (.refl _) ⟨by simp [resV_one], rfl⟩
end Go.A
namespace Go.A
open Go.Proofs
/-! 33: (*strings.Builder).WriteByte -/
def c33_0 : ACode := .ops [
 ⟨some 4, none, .q (.mv (.v .nili)), []⟩]
def c33_1 : ACode := .ops [
 ⟨some 5, none, .q (.mv (.t 0)), []⟩,
 ⟨some 6, none, .e (.call 50 [(.t 5)]), []⟩]
def c33_2 : ACode := .ops [
 ⟨some 7, none, .q (.mv (.t 0)), []⟩,
 ⟨some 8, none, .q (.mv (.t 0)), []⟩,
 ⟨some 9, none, .q (.nc (.t 8)), []⟩,
 ⟨some 10, none, .q (.fa 1 (.t 9)), []⟩,
 ⟨some 11, none, .q (.ld none (.t 10)), []⟩,
 ⟨some 12, none, .q (.mv (.t 1)), []⟩,
 ⟨some 13, none, .q (.bsl 1 [(.t 12)]), []⟩,
 ⟨some 14, none, .e (.app 5 1 1 [(.int .u8 0)] (.t 11) (.t 13)), []⟩,
 ⟨some 15, none, .q (.nc (.t 7)), []⟩,
 ⟨some 16, none, .q (.fa 1 (.t 15)), []⟩,
 ⟨none, none, .e (.store 1 (.t 16) (.t 14)), []⟩]
def c33_3 : ACode := .ops [
 ⟨some 4, none, .q (.mv (.v .nili)), []⟩]
def c33_4 : ACode := .seq c33_3 .ret
def c33_5 : ACode := .seq c33_2 c33_4
def c33_6 : ACode := .seq c33_1 c33_5
def c33_7 : ACode := .seq c33_0 c33_6
@[go_sem] def c33_0_wp := wp_of c33_0.eq_1
@[go_sem] def c33_1_wp := wp_of c33_1.eq_1
@[go_sem] def c33_2_wp := wp_of c33_2.eq_1
@[go_sem] def c33_3_wp := wp_of c33_3.eq_1
@[go_sem] def c33_4_wp := wp_of c33_4.eq_1
@[go_sem] def c33_5_wp := wp_of c33_5.eq_1
@[go_sem] def c33_6_wp := wp_of c33_6.eq_1
@[go_sem] def c33_7_wp := wp_of c33_7.eq_1
def c33 : AFn := ⟨17, [.t 4], c33_7⟩
theorem c33_ok : compF Tryz.prog Tryz.f33 = some c33 := by kernel_rfl
theorem a33 {args : List AV} {σ : ASt} {R : AV → ASt → Prop} (hl : args.length ≤ 17) (h : c33_7.wp Tryz.prog (RetQ [.t 4] R) (init args) σ) : ACalls Tryz.prog 33 args σ R := acalls_of Tryz.func33 c33_ok hl h
/-! 66: (*strings.Builder).WriteRune -/
def c66_0 : ACode := .ops [
 ⟨some 4, none, .q (.mv (.v (.int .i64 0))), []⟩,
 ⟨some 5, none, .q (.mv (.v .nili)), []⟩]
def c66_1 : ACode := .ops [
 ⟨some 7, none, .q (.mv (.t 0)), []⟩,
 ⟨some 8, none, .e (.call 50 [(.t 7)]), []⟩]
def c66_2 : ACode := .ops [
 ⟨some 9, none, .q (.mv (.t 0)), []⟩,
 ⟨some 10, none, .q (.nc (.t 9)), []⟩,
 ⟨some 11, none, .q (.fa 1 (.t 10)), []⟩,
 ⟨some 12, none, .q (.ld none (.t 11)), []⟩,
 ⟨some 13, none, .q (.len (.t 12)), []⟩,
 ⟨some 6, none, .q (.mv (.t 13)), []⟩]
def c66_3 : ACode := .ops [
 ⟨some 14, none, .q (.mv (.t 0)), []⟩,
 ⟨some 15, none, .q (.mv (.t 0)), []⟩,
 ⟨some 16, none, .q (.nc (.t 15)), []⟩,
 ⟨some 17, none, .q (.fa 1 (.t 16)), []⟩,
 ⟨some 18, none, .q (.ld none (.t 17)), []⟩,
 ⟨some 19, none, .q (.mv (.t 1)), []⟩,
 ⟨some 20, none, .e (.call 86 [(.t 18), (.t 19)]), []⟩,
 ⟨some 21, none, .q (.nc (.t 14)), []⟩,
 ⟨some 22, none, .q (.fa 1 (.t 21)), []⟩,
 ⟨none, none, .e (.store 1 (.t 22) (.t 20)), []⟩]
def c66_4 : ACode := .ops [
 ⟨some 23, none, .q (.mv (.t 0)), []⟩,
 ⟨some 24, none, .q (.nc (.t 23)), []⟩,
 ⟨some 25, none, .q (.fa 1 (.t 24)), []⟩,
 ⟨some 26, none, .q (.ld none (.t 25)), []⟩,
 ⟨some 27, none, .q (.len (.t 26)), []⟩,
 ⟨some 28, none, .q (.mv (.t 6)), []⟩,
 ⟨some 29, none, .q (.bin .sub (.t 27) (.t 28)), []⟩,
 ⟨some 4, none, .q (.mv (.t 29)), []⟩,
 ⟨some 5, none, .q (.mv (.v .nili)), []⟩]
def c66_5 : ACode := .seq c66_4 .ret
def c66_6 : ACode := .seq c66_3 c66_5
def c66_7 : ACode := .seq c66_2 c66_6
def c66_8 : ACode := .seq c66_1 c66_7
def c66_9 : ACode := .seq c66_0 c66_8
@[go_sem] def c66_0_wp := wp_of c66_0.eq_1
@[go_sem] def c66_1_wp := wp_of c66_1.eq_1
@[go_sem] def c66_2_wp := wp_of c66_2.eq_1
@[go_sem] def c66_3_wp := wp_of c66_3.eq_1
@[go_sem] def c66_4_wp := wp_of c66_4.eq_1
@[go_sem] def c66_5_wp := wp_of c66_5.eq_1
@[go_sem] def c66_6_wp := wp_of c66_6.eq_1
@[go_sem] def c66_7_wp := wp_of c66_7.eq_1
@[go_sem] def c66_8_wp := wp_of c66_8.eq_1
@[go_sem] def c66_9_wp := wp_of c66_9.eq_1
def c66 : AFn := ⟨30, [.t 4, .t 5], c66_9⟩
theorem c66_ok : compF Tryz.prog Tryz.f66 = some c66 := by kernel_rfl
theorem a66 {args : List AV} {σ : ASt} {R : AV → ASt → Prop} (hl : args.length ≤ 30) (h : c66_9.wp Tryz.prog (RetQ [.t 4, .t 5] R) (init args) σ) : ACalls Tryz.prog 66 args σ R := acalls_of Tryz.func66 c66_ok hl h
/-! 86: unicode/utf8.AppendRune -/
def c86_0 : ACode := .ops [
 ⟨some 4, none, .q (.mv (.v (.sl .full []))), []⟩]
def c86_1 : ACode := .ops [
 ⟨some 5, none, .q (.mv (.t 1)), []⟩,
 ⟨some 6, none, .q (.conv .u32 (.t 5)), []⟩,
 ⟨some 7, none, .q (.bin .leq (.t 6) (.v (.int .u32 127))), []⟩]
def c86_2 : ACode := .ops [
 ⟨some 8, none, .q (.mv (.t 0)), []⟩,
 ⟨some 9, none, .q (.mv (.t 1)), []⟩,
 ⟨some 10, none, .q (.conv .u8 (.t 9)), []⟩,
 ⟨some 11, none, .q (.bsl 1 [(.t 10)]), []⟩,
 ⟨some 12, none, .e (.app 5 1 1 [(.int .u8 0)] (.t 8) (.t 11)), []⟩,
 ⟨some 4, none, .q (.mv (.t 12)), []⟩]
def c86_3 : ACode := .seq c86_2 .ret
def c86_4 : ACode := .cond (.t 7) c86_3 .skip
def c86_5 : ACode := .seq c86_1 c86_4
def c86_6 : ACode := .ops [
 ⟨some 13, none, .q (.mv (.t 0)), []⟩,
 ⟨some 14, none, .q (.mv (.t 1)), []⟩,
 ⟨some 15, none, .e (.call 105 [(.t 13), (.t 14)]), []⟩,
 ⟨some 4, none, .q (.mv (.t 15)), []⟩]
def c86_7 : ACode := .seq c86_6 .ret
def c86_8 : ACode := .seq c86_5 c86_7
def c86_9 : ACode := .seq c86_0 c86_8
@[go_sem] def c86_0_wp := wp_of c86_0.eq_1
@[go_sem] def c86_1_wp := wp_of c86_1.eq_1
@[go_sem] def c86_2_wp := wp_of c86_2.eq_1
@[go_sem] def c86_3_wp := wp_of c86_3.eq_1
@[go_sem] def c86_4_wp := wp_of c86_4.eq_1
@[go_sem] def c86_5_wp := wp_of c86_5.eq_1
@[go_sem] def c86_6_wp := wp_of c86_6.eq_1
@[go_sem] def c86_7_wp := wp_of c86_7.eq_1
@[go_sem] def c86_8_wp := wp_of c86_8.eq_1
@[go_sem] def c86_9_wp := wp_of c86_9.eq_1
def c86 : AFn := ⟨16, [.t 4], c86_9⟩
theorem c86_ok : compF Tryz.prog Tryz.f86 = some c86 := by kernel_rfl
theorem a86 {args : List AV} {σ : ASt} {R : AV → ASt → Prop} (hl : args.length ≤ 16) (h : c86_9.wp Tryz.prog (RetQ [.t 4] R) (init args) σ) : ACalls Tryz.prog 86 args σ R := acalls_of Tryz.func86 c86_ok hl h
/-! 105: unicode/utf8.appendRuneNonASCII -/
def c105_0 : ACode := .ops [
 ⟨some 4, none, .q (.mv (.v (.sl .full []))), []⟩]
def c105_1 : ACode := .ops [
 ⟨some 6, none, .q (.mv (.t 1)), []⟩,
 ⟨some 7, none, .q (.conv .u32 (.t 6)), []⟩,
 ⟨some 5, none, .q (.mv (.t 7)), []⟩]
def c105_2 : ACode := .ops [
 ⟨some 12, none, .q (.mv (.t 5)), []⟩,
 ⟨some 13, none, .q (.bin .leq (.t 12) (.v (.int .u32 2047))), []⟩,
 ⟨some 11, none, .q (.mv (.t 13)), []⟩]
def c105_3 : ACode := .ops [
 ⟨some 14, none, .q (.mv (.t 0)), []⟩,
 ⟨some 15, none, .q (.mv (.t 1)), []⟩,
 ⟨some 16, none, .q (.bin .shr (.t 15) (.v (.int .u64 6))), []⟩,
 ⟨some 17, none, .q (.conv .u8 (.t 16)), []⟩,
 ⟨some 18, none, .q (.bin .or (.v (.int .u8 192)) (.t 17)), []⟩,
 ⟨some 19, none, .q (.mv (.t 1)), []⟩,
 ⟨some 20, none, .q (.conv .u8 (.t 19)), []⟩,
 ⟨some 21, none, .q (.bin .and (.t 20) (.v (.int .u8 63))), []⟩,
 ⟨some 22, none, .q (.bin .or (.v (.int .u8 128)) (.t 21)), []⟩,
 ⟨some 23, none, .q (.bsl 1 [(.t 18), (.t 22)]), []⟩,
 ⟨some 24, none, .e (.app 5 1 1 [(.int .u8 0)] (.t 14) (.t 23)), []⟩,
 ⟨some 4, none, .q (.mv (.t 24)), []⟩]
def c105_4 : ACode := .seq c105_3 .ret
def c105_5 : ACode := .ops [
 ⟨some 26, none, .q (.mv (.t 5)), []⟩,
 ⟨some 27, none, .q (.bin .lss (.t 26) (.v (.int .u32 55296))), []⟩,
 ⟨some 25, none, .q (.mv (.t 27)), []⟩]
def c105_6 : ACode := .ops [
 ⟨some 28, none, .q (.mv (.t 5)), []⟩,
 ⟨some 29, none, .q (.bin .lss (.v (.int .u32 57343)) (.t 28)), []⟩,
 ⟨some 30, none, .q (.mv (.t 29)), []⟩,
 ⟨some 31, some (30, true), .q (.mv (.t 5)), []⟩,
 ⟨some 32, some (30, true), .q (.bin .leq (.t 31) (.v (.int .u32 65535))), []⟩,
 ⟨some 33, none, .q (.pick (.t 30) (.t 32) (.v (.bool false))), []⟩,
 ⟨some 25, none, .q (.mv (.t 33)), []⟩]
def c105_7 : ACode := .cond (.t 25) .skip c105_6
def c105_8 : ACode := .seq c105_5 c105_7
def c105_9 : ACode := .ops [
 ⟨some 34, none, .q (.mv (.t 0)), []⟩,
 ⟨some 35, none, .q (.mv (.t 1)), []⟩,
 ⟨some 36, none, .q (.bin .shr (.t 35) (.v (.int .u64 12))), []⟩,
 ⟨some 37, none, .q (.conv .u8 (.t 36)), []⟩,
 ⟨some 38, none, .q (.bin .or (.v (.int .u8 224)) (.t 37)), []⟩,
 ⟨some 39, none, .q (.mv (.t 1)), []⟩,
 ⟨some 40, none, .q (.bin .shr (.t 39) (.v (.int .u64 6))), []⟩,
 ⟨some 41, none, .q (.conv .u8 (.t 40)), []⟩,
 ⟨some 42, none, .q (.bin .and (.t 41) (.v (.int .u8 63))), []⟩,
 ⟨some 43, none, .q (.bin .or (.v (.int .u8 128)) (.t 42)), []⟩,
 ⟨some 44, none, .q (.mv (.t 1)), []⟩,
 ⟨some 45, none, .q (.conv .u8 (.t 44)), []⟩,
 ⟨some 46, none, .q (.bin .and (.t 45) (.v (.int .u8 63))), []⟩,
 ⟨some 47, none, .q (.bin .or (.v (.int .u8 128)) (.t 46)), []⟩,
 ⟨some 48, none, .q (.bsl 1 [(.t 38), (.t 43), (.t 47)]), []⟩,
 ⟨some 49, none, .e (.app 5 1 1 [(.int .u8 0)] (.t 34) (.t 48)), []⟩,
 ⟨some 4, none, .q (.mv (.t 49)), []⟩]
def c105_10 : ACode := .seq c105_9 .ret
def c105_11 : ACode := .ops [
 ⟨some 51, none, .q (.mv (.t 5)), []⟩,
 ⟨some 52, none, .q (.bin .gtr (.t 51) (.v (.int .u32 65535))), []⟩,
 ⟨some 53, none, .q (.mv (.t 52)), []⟩,
 ⟨some 54, some (53, true), .q (.mv (.t 5)), []⟩,
 ⟨some 55, some (53, true), .q (.bin .leq (.t 54) (.v (.int .u32 1114111))), []⟩,
 ⟨some 56, none, .q (.pick (.t 53) (.t 55) (.v (.bool false))), []⟩,
 ⟨some 50, none, .q (.mv (.t 56)), []⟩]
def c105_12 : ACode := .ops [
 ⟨some 57, none, .q (.mv (.t 0)), []⟩,
 ⟨some 58, none, .q (.mv (.t 1)), []⟩,
 ⟨some 59, none, .q (.bin .shr (.t 58) (.v (.int .u64 18))), []⟩,
 ⟨some 60, none, .q (.conv .u8 (.t 59)), []⟩,
 ⟨some 61, none, .q (.bin .or (.v (.int .u8 240)) (.t 60)), []⟩,
 ⟨some 62, none, .q (.mv (.t 1)), []⟩,
 ⟨some 63, none, .q (.bin .shr (.t 62) (.v (.int .u64 12))), []⟩,
 ⟨some 64, none, .q (.conv .u8 (.t 63)), []⟩,
 ⟨some 65, none, .q (.bin .and (.t 64) (.v (.int .u8 63))), []⟩,
 ⟨some 66, none, .q (.bin .or (.v (.int .u8 128)) (.t 65)), []⟩,
 ⟨some 67, none, .q (.mv (.t 1)), []⟩,
 ⟨some 68, none, .q (.bin .shr (.t 67) (.v (.int .u64 6))), []⟩,
 ⟨some 69, none, .q (.conv .u8 (.t 68)), []⟩,
 ⟨some 70, none, .q (.bin .and (.t 69) (.v (.int .u8 63))), []⟩,
 ⟨some 71, none, .q (.bin .or (.v (.int .u8 128)) (.t 70)), []⟩,
 ⟨some 72, none, .q (.mv (.t 1)), []⟩,
 ⟨some 73, none, .q (.conv .u8 (.t 72)), []⟩,
 ⟨some 74, none, .q (.bin .and (.t 73) (.v (.int .u8 63))), []⟩,
 ⟨some 75, none, .q (.bin .or (.v (.int .u8 128)) (.t 74)), []⟩,
 ⟨some 76, none, .q (.bsl 1 [(.t 61), (.t 66), (.t 71), (.t 75)]), []⟩,
 ⟨some 77, none, .e (.app 5 1 1 [(.int .u8 0)] (.t 57) (.t 76)), []⟩,
 ⟨some 4, none, .q (.mv (.t 77)), []⟩]
def c105_13 : ACode := .seq c105_12 .ret
def c105_14 : ACode := .ops [
 ⟨some 8, none, .q (.mv (.t 0)), []⟩,
 ⟨some 9, none, .q (.bsl 1 [(.v (.int .u8 239)), (.v (.int .u8 191)), (.v (.int .u8 189))]), []⟩,
 ⟨some 10, none, .e (.app 5 1 1 [(.int .u8 0)] (.t 8) (.t 9)), []⟩,
 ⟨some 4, none, .q (.mv (.t 10)), []⟩]
def c105_15 : ACode := .seq c105_14 .ret
def c105_16 : ACode := .cond (.t 50) c105_13 c105_15
def c105_17 : ACode := .seq c105_11 c105_16
def c105_18 : ACode := .cond (.t 25) c105_10 c105_17
def c105_19 : ACode := .seq c105_8 c105_18
def c105_20 : ACode := .cond (.t 11) c105_4 c105_19
def c105_21 : ACode := .seq c105_2 c105_20
def c105_22 : ACode := .block 0 c105_21
def c105_23 : ACode := .seq c105_1 c105_22
def c105_24 : ACode := .seq c105_0 c105_23
@[go_sem] def c105_0_wp := wp_of c105_0.eq_1
@[go_sem] def c105_1_wp := wp_of c105_1.eq_1
@[go_sem] def c105_2_wp := wp_of c105_2.eq_1
@[go_sem] def c105_3_wp := wp_of c105_3.eq_1
@[go_sem] def c105_4_wp := wp_of c105_4.eq_1
@[go_sem] def c105_5_wp := wp_of c105_5.eq_1
@[go_sem] def c105_6_wp := wp_of c105_6.eq_1
@[go_sem] def c105_7_wp := wp_of c105_7.eq_1
@[go_sem] def c105_8_wp := wp_of c105_8.eq_1
@[go_sem] def c105_9_wp := wp_of c105_9.eq_1
@[go_sem] def c105_10_wp := wp_of c105_10.eq_1
@[go_sem] def c105_11_wp := wp_of c105_11.eq_1
@[go_sem] def c105_12_wp := wp_of c105_12.eq_1
@[go_sem] def c105_13_wp := wp_of c105_13.eq_1
@[go_sem] def c105_16_wp := wp_of c105_16.eq_1
@[go_sem] def c105_17_wp := wp_of c105_17.eq_1
@[go_sem] def c105_18_wp := wp_of c105_18.eq_1
@[go_sem] def c105_19_wp := wp_of c105_19.eq_1
@[go_sem] def c105_20_wp := wp_of c105_20.eq_1
@[go_sem] def c105_21_wp := wp_of c105_21.eq_1
@[go_sem] def c105_22_wp := wp_of c105_22.eq_1
@[go_sem] def c105_23_wp := wp_of c105_23.eq_1
@[go_sem] def c105_24_wp := wp_of c105_24.eq_1
def c105 : AFn := ⟨78, [.t 4], c105_24⟩
theorem c105_ok : compF Tryz.prog Tryz.f105 = some c105 := by kernel_rfl
theorem a105 {args : List AV} {σ : ASt} {R : AV → ASt → Prop} (hl : args.length ≤ 78) (h : c105_24.wp Tryz.prog (RetQ [.t 4] R) (init args) σ) : ACalls Tryz.prog 105 args σ R := acalls_of Tryz.func105 c105_ok hl h
end Go.A
namespace Go.A
theorem ne_of_role {σ : ASt} {b c : Nat} {r : Role} (h : σ b = some r) (k : σ c = none) : b ≠ c ∧ c ≠ b := by
 constructor <;> rintro rfl <;> rw [h] at k <;> cases k
def GO (σ0 : ASt) (b : Nat) (cs : SK → List AV) (n s : Nat) (σ : ASt) : Prop := ∃ k, Grown (σ0.set b (some (.obj (cs k)))) σ k n s
theorem GO.cell {σ0 σ : ASt} {b n s : Nat} {k : SK} {cs : SK → List AV} (h : Grown (σ0.set b (some (.obj (cs k)))) σ k n s) : σ b = some (.obj (cs k)) := h.at (ASt.set_same _ _ _)
theorem GO.add {σ0 σ : ASt} {b c n s : Nat} {cs : SK → List AV} {r : Role} (h : GO σ0 b cs n s σ) (hc : σ c = none) : GO (σ0.set c (some r)) b cs n s (σ.set c (some r)) ∧ c ≠ b ∧ σ0 c = none := by
 obtain ⟨k, hg⟩ := h
 have hb := GO.cell hg
 have hcb : c ≠ b := by rintro rfl; rw [hb] at hc; cases hc
 have h0 : σ0 c = none := by
  rcases hg with ⟨_, _, rfl⟩ | ⟨t, T, _, _, rfl⟩
  ·rwa [ASt.set_ne hcb] at hc
  ·obtain ⟨_, _, hc⟩ := set_none hc
   rwa [ASt.set_ne hcb] at hc
 refine ⟨⟨k, ?_⟩, hcb, h0⟩
 rcases hg with ⟨h1, h2, rfl⟩ | ⟨t, T, h1, h2, rfl⟩
 ·exact .inl ⟨h1, h2, set_swap (Ne.symm hcb)⟩
 ·obtain ⟨h3, h4, _⟩ := set_none hc
  obtain ⟨h5, h6, h7⟩ := set_none h2
  refine .inr ⟨t, T, h1, ?_, ?_⟩
  ·rw [ASt.set_ne h5, ASt.set_ne (Ne.symm h3)]; exact h7
  ·rw [set_swap h4, set_swap (Ne.symm hcb)]
theorem GO.off {σ0 σ : ASt} {b c n s : Nat} {cs : SK → List AV} {r : Role} (h : GO (σ0.set c (some r)) b cs n s σ) (hcb : c ≠ b) (hc : σ0 c = none) : ∃ σ', Drop σ σ' ∧ GO σ0 b cs n s σ' := by
 obtain ⟨k, hg⟩ := h
 rcases hg with ⟨h1, h2, rfl⟩ | ⟨t, T, h1, h2, rfl⟩
 ·refine ⟨σ0.set b (some (.obj (cs k))), ?_, ⟨k, .inl ⟨h1, h2, rfl⟩⟩⟩
  rw [set_swap hcb]
  exact Drop.set (by rw [ASt.set_ne hcb]; exact hc)
 ·obtain ⟨h3, h4, h5⟩ := set_none h2
  obtain ⟨h6, h7, h8⟩ := set_none h5
  have e : ((σ0.set c (some r)).set b (some (.obj (cs k)))).set t (some (.tok (n * s))) = ((σ0.set b (some (.obj (cs k)))).set t (some (.tok (n * s)))).set c (some r) := by
   rw [set_swap hcb, set_swap h7]
  refine ⟨(σ0.set b (some (.obj (cs k)))).set t (some (.tok (n * s))), ?_, ⟨k, .inr ⟨t, T, h1, ?_, rfl⟩⟩⟩
  ·rw [e]
   exact Drop.set (by rw [ASt.set_ne h7, ASt.set_ne hcb]; exact hc)
  ·rw [ASt.set_ne h3]; exact h8
theorem GO.at {σ0 σ : ASt} {b n s x : Nat} {cs : SK → List AV} {r : Role} (h : GO σ0 b cs n s σ) (hx : x ≠ b) (h0 : σ0 x = some r) : σ x = some r := by
 obtain ⟨k, hg⟩ := h
 exact hg.at (by rw [ASt.set_ne hx]; exact h0)
inductive Over (τ : ASt) : ASt → Prop
 | refl : Over τ τ
 | set {σ : ASt} (c : Nat) (r : Role) : Over τ σ → σ c = none → Over τ (σ.set c (some r))
theorem Over.at {τ σ : ASt} (h : Over τ σ) {x : Nat} {r : Role} (hx : τ x = some r) : σ x = some r := by
 induction h with
 | refl => exact hx
 | set c q h hc ih =>
   have : x ≠ c := by rintro rfl; rw [ih] at hc; cases hc
   rw [ASt.set_ne this]; exact ih
theorem Over.drop {τ σ : ASt} (h : Over τ σ) : Drop σ τ := by
 induction h with
 | refl => exact Drop.refl _
 | set c q h hc ih =>
   intro x
   by_cases hx : x = c
   ·subst hx
    rcases ih x with h1 | h1
    ·exact .inr (h1.trans hc)
    ·exact .inr h1
   ·rcases ih x with h1 | h1
    ·exact .inl (by rw [ASt.set_ne hx]; exact h1)
    ·exact .inr h1
theorem Over.trans {τ σ ρ : ASt} (h : Over τ σ) (k : Over σ ρ) : Over τ ρ := by
 induction k with
 | refl => exact h
 | set c r _ hc ih => exact .set c r ih hc
theorem GO.over {σ0 τ σ : ASt} {b n s : Nat} {cs : SK → List AV} (h : GO σ0 b cs n s τ) (ho : Over τ σ) :
  ∃ σ0', GO σ0' b cs n s σ ∧ Over σ0 σ0' ∧ ∀ cs' n' σ', GO σ0' b cs' n' s σ' → ∃ σ'', Drop σ' σ'' ∧ GO σ0 b cs' n' s σ'' := by
 induction ho with
 | refl => exact ⟨σ0, h, .refl, fun cs' n' σ' h' => ⟨σ', Drop.refl _, h'⟩⟩
 | set c r ho hc ih =>
   obtain ⟨σ0', h1, h2, h3⟩ := ih
   obtain ⟨h4, h5, h6⟩ := h1.add (r := r) hc
   refine ⟨σ0'.set c (some r), h4, .set c r h2 h6, fun cs' n' σ' h' => ?_⟩
   obtain ⟨σ1, h7, h8⟩ := h'.off h5 h6
   obtain ⟨σ2, h9, h10⟩ := h3 _ _ _ h8
   exact ⟨σ2, h7.trans h9, h10⟩
def BW (T U : TypeId) (σ0 : ASt) (b : Nat) (l : List UInt8) (σ : ASt) : Prop :=
 (l = [] ∧ σ = σ0.set b (some (.typ T [.pointer none, .slice none 0 0]))) ∨ (l ≠ [] ∧ ∃ k, GrownT U (σ0.set b (some (.obj [.ptr b 0, .sl k (bytesAV l)]))) σ k l.length 1)
theorem BW.over {T U : TypeId} {σ0 σ : ASt} {b : Nat} {l : List UInt8} (h : BW T U σ0 b l σ) (hb : σ0 b = none) : Over σ0 σ := by
 rcases h with ⟨_, rfl⟩ | ⟨_, k, h1 | ⟨g, _, hg, rfl⟩⟩
 ·exact .set b _ .refl hb
 ·obtain ⟨_, _, rfl⟩ := h1
  exact .set b _ .refl hb
 ·exact .set g _ (.set b _ .refl hb) hg
theorem BW.iter {T U : TypeId} {σ0 σ : ASt} {b it : Nat} {l : List UInt8} {r r' : Role} (h : BW T U (σ0.set it (some r)) b l σ) (hb : it ≠ b) : BW T U (σ0.set it (some r')) b l (σ.set it (some r')) ∧ σ it = some r := by
 rcases h with ⟨h0, rfl⟩ | ⟨h0, k, h1 | ⟨g, h1, hg, rfl⟩⟩
 ·refine ⟨.inl ⟨h0, ?_⟩, by rw [ASt.set_ne hb, ASt.set_same]⟩
  rw [← set_swap hb, ASt.set_set]
 ·obtain ⟨h1, h2, rfl⟩ := h1
  refine ⟨.inr ⟨h0, k, .inl ⟨h1, h2, ?_⟩⟩, by rw [ASt.set_ne hb, ASt.set_same]⟩
  rw [← set_swap hb, ASt.set_set]
 ·obtain ⟨h3, h4, h5⟩ := set_none hg
  obtain ⟨h6, h7, h8⟩ := set_none h5
  refine ⟨.inr ⟨h0, k, .inr ⟨g, h1, ?_, ?_⟩⟩, by rw [ASt.set_ne h7, ASt.set_ne hb, ASt.set_same]⟩
  ·rw [ASt.set_ne h3, ASt.set_ne h6]; exact h8
  ·rw [← set_swap h7, ← set_swap hb, ASt.set_set]
end Go.A
namespace Go.A
open Go.Proofs Go.Lib
abbrev BD := BW 55 5
abbrev GT := GrownT 5
theorem cc_ok {σ0 σ : ASt} {b : Nat} {l : List UInt8} (h : BD σ0 b l σ) : ACalls Tryz.prog 50 [.ptr b 0] σ fun v σ' => v = .tuple [] ∧ ∃ k, GT (σ0.set b (some (.obj [.ptr b 0, .sl k (bytesAV l)]))) σ' k l.length 1 := by
 rcases h with ⟨rfl, rfl⟩ | ⟨h0, k, hg⟩
 ·refine (copyCheck_typ (ASt.set_same _ _ _)).mono ?_
  rintro v σ' ⟨rfl, rfl⟩
  exact ⟨rfl, .full, .inl ⟨rfl, rfl, by rw [ASt.set_set]; rfl⟩⟩
 ·refine (copyCheck_used (hg.at (ASt.set_same _ _ _))).mono ?_
  rintro v σ' ⟨rfl, rfl⟩
  exact ⟨rfl, k, hg⟩
theorem bytesAV_app (l m : List UInt8) : bytesAV l ++ bytesAV m = bytesAV (l ++ m) := by simp [bytesAV]
theorem bytesAV_len (l : List UInt8) : (bytesAV l).length = l.length := by simp [bytesAV]
theorem bytes_leaves (l : List UInt8) : leaves ((bytesAV l).flatMap AV.cells) = true := by unfold bytesAV; exact leaves_map (fun _ => rfl) l
theorem bytes_well (l : List UInt8) : wellSz 1 (bytesAV l) = true := by unfold bytesAV; exact wellSz_map (f := fun c : UInt8 => AV.int .u8 c.toNat) (fun _ => ⟨rfl, rfl⟩) l
theorem appB_by {σ σ0 : ASt} {k k2 : SK} {l m : List UInt8} {ys z : List AV} {K : AV → ASt → Prop} (h : GT σ0 σ k l.length 1) (hy : ys = bytesAV m) (hl : l.length + m.length ≤ 4611686018427)
  (hK : ∀ k' σ', GT σ0 σ' k' (l ++ m).length 1 → K (.sl k' (bytesAV (l ++ m))) σ') : appC 5 1 1 z (.sl k (bytesAV l)) (.sl k2 ys) σ K := by
 subst hy
 refine appCT_by (by rw [bytesAV_len]; exact h) (bytes_well m) (bytes_leaves m) (by simp only [bytesAV_len]; omega) (by simp only [bytesAV_len]; omega) fun k' σ' hg => ?_
 rw [bytesAV_app] at hg ⊢
 rw [bytesAV_len] at hg
 exact hK k' σ' hg
theorem writeByte_ok {σ0 σ : ASt} {b : Nat} {l : List UInt8} (h : BD σ0 b l σ) (c : UInt8) (hl : l.length ≤ 1000000000) :
  ACalls Tryz.prog 33 [.ptr b 0, .int .u8 c.toNat] σ fun v σ' => v = .nili ∧ BD σ0 b (l ++ [c]) σ' := by
 refine a33 (by simp) ?_
 simp (disch := first | assumption | omega) only [go_sem, reduceCtorEq, ↓reduceIte]
 refine (cc_ok h).mono ?_
 rintro v σ1 ⟨rfl, k, hg⟩
 have hb := hg.at (ASt.set_same _ _ _)
 simp (disch := first | assumption | omega) only [go_sem, reduceCtorEq, Nat.reduceEqDiff, ↓reduceIte, Bool.true_and, hb]
 refine appB_by (m := [c]) hg rfl (by simp; omega) fun k' σ' hg' => ?_
 have hb' := hg'.at (ASt.set_same _ _ _)
 simp (disch := first | assumption | omega) only [go_sem, Nat.reduceEqDiff, Nat.reduceAdd, Nat.reduceLeDiff, ↓reduceIte, Bool.true_and, hb']
 exact retC_by (Drop.refl _) (.refl _) ⟨rfl, .inr ⟨by simp, k', hg'.obj⟩⟩
theorem or_a : ∀ y : Int, 0 ≤ y → y < 64 → ((BitVec.ofInt 8 128 ||| BitVec.ofInt 8 y).toNat : Int) = 128 + y := by
 have key : ∀ n : Fin 64, ((BitVec.ofInt 8 128 ||| BitVec.ofInt 8 ((n.val : Nat) : Int)).toNat : Int) = 128 + ((n.val : Nat) : Int) := by decide
 intro y h0 h1
 have := key ⟨y.toNat, by omega⟩
 rwa [Int.toNat_of_nonneg h0] at this
theorem or_b : ∀ y : Int, 0 ≤ y → y < 32 → ((BitVec.ofInt 8 192 ||| BitVec.ofInt 8 y).toNat : Int) = 192 + y := by
 have key : ∀ n : Fin 32, ((BitVec.ofInt 8 192 ||| BitVec.ofInt 8 ((n.val : Nat) : Int)).toNat : Int) = 192 + ((n.val : Nat) : Int) := by decide
 intro y h0 h1
 have := key ⟨y.toNat, by omega⟩
 rwa [Int.toNat_of_nonneg h0] at this
theorem or_c : ∀ y : Int, 0 ≤ y → y < 16 → ((BitVec.ofInt 8 224 ||| BitVec.ofInt 8 y).toNat : Int) = 224 + y := by
 have key : ∀ n : Fin 16, ((BitVec.ofInt 8 224 ||| BitVec.ofInt 8 ((n.val : Nat) : Int)).toNat : Int) = 224 + ((n.val : Nat) : Int) := by decide
 intro y h0 h1
 have := key ⟨y.toNat, by omega⟩
 rwa [Int.toNat_of_nonneg h0] at this
theorem or_d : ∀ y : Int, 0 ≤ y → y < 8 → ((BitVec.ofInt 8 240 ||| BitVec.ofInt 8 y).toNat : Int) = 240 + y := by
 have key : ∀ n : Fin 8, ((BitVec.ofInt 8 240 ||| BitVec.ofInt 8 ((n.val : Nat) : Int)).toNat : Int) = 240 + ((n.val : Nat) : Int) := by decide
 intro y h0 h1
 have := key ⟨y.toNat, by omega⟩
 rwa [Int.toNat_of_nonneg h0] at this
theorem and_63 (y : Int) : ((BitVec.ofInt 8 (y % 256) &&& BitVec.ofInt 8 63).toNat : Int) = y % 64 := by
 have key : ∀ n : Fin 256, ((BitVec.ofInt 8 ((n.val : Nat) : Int) &&& BitVec.ofInt 8 63).toNat : Int) = ((n.val : Nat) : Int) % 64 := by decide
 have := key ⟨(y % 256).toNat, by omega⟩
 rw [Int.toNat_of_nonneg (by omega)] at this
 rw [this]
 omega
theorem wrap_8 (y : Int) : IntKind.wrap .u8 y = y % 256 := IntKind.wrap_u8 y
theorem encAV (r : Int) : (encodeRuneZ r).map (AV.int .u8) = bytesAV (encodeRune r) := by
 unfold bytesAV encodeRune
 rw [List.map_map]
 apply List.map_congr_left
 intro x hx
 obtain ⟨h0, h1⟩ := encodeRuneZ_byte r x hx
 simp [Function.comp]
 omega
theorem enc_len (r : Int) : (encodeRune r).length ≤ 4 := by
 have := encodeRuneZ_length r
 simp [encodeRune]
 omega
def RuneOk (r : Int) : Prop := 0 ≤ r ∧ r ≤ 1114111 ∧ ¬ (55296 ≤ r ∧ r ≤ 57343)
set_option maxHeartbeats 1000000 in
theorem appendRuneN_ok {σ0 σ : ASt} {k : SK} {l : List UInt8} (h : GT σ0 σ k l.length 1) {r : Int} (hr : RuneOk r) (h128 : 127 < r) (hl : l.length ≤ 1000000000) :
  ACalls Tryz.prog 105 [.sl k (bytesAV l), .int .i32 r] σ fun v σ' => ∃ k', v = .sl k' (bytesAV (l ++ encodeRune r)) ∧ GT σ0 σ' k' (l ++ encodeRune r).length 1 := by
 obtain ⟨r0, r1, r2⟩ := hr
 have hel := enc_len r
 have hea := encAV r
 have w1 := wrap_8 r
 have w2 := wrap_8 (r / 64)
 have w3 := wrap_8 (r / 4096)
 have a1 := and_63 r
 have a2 := and_63 (r / 64)
 have a3 := and_63 (r / 4096)
 have o1 := or_a (r % 64) (by omega) (by omega)
 have o2 := or_a (r / 64 % 64) (by omega) (by omega)
 have o3 := or_a (r / 4096 % 64) (by omega) (by omega)
 refine a105 (by simp) ?_
 by_cases c1 : r ≤ 2047
 ·have o4 := or_b (r / 64) (by omega) (by omega)
  have e : [AV.int .u8 ((BitVec.ofInt 8 192 ||| BitVec.ofInt 8 (r / 64)).toNat : Int), AV.int .u8 ((BitVec.ofInt 8 128 ||| BitVec.ofInt 8 ((BitVec.ofInt 8 (r % 256) &&& BitVec.ofInt 8 63).toNat : Int)).toNat : Int)] = [192 + r / 64, 128 + r % 64].map (AV.int .u8) := by
   rw [a1, o1, o4]; rfl
  rw [encodeRuneZ_two (by omega) c1] at hea
  simp (disch := first | assumption | omega) only [go_sem, reduceCtorEq, Nat.reduceEqDiff, ↓reduceIte, Int.reduceToNat, Int.reducePow, Bool.true_and, c1, w1]
  refine appB_by (m := encodeRune r) h (e.trans hea) (by omega) fun k' σ' hg' => ?_
  rw [List.length_append] at hg'
  simp (disch := first | assumption | omega) only [go_sem, ↓reduceIte]
  exact retC_by (Drop.refl _) (.refl _) ⟨k', rfl, hg'⟩
 by_cases c2 : r < 55296
 ·have o4 := or_c (r / 4096) (by omega) (by omega)
  have e : [AV.int .u8 ((BitVec.ofInt 8 224 ||| BitVec.ofInt 8 (r / 4096)).toNat : Int), AV.int .u8 ((BitVec.ofInt 8 128 ||| BitVec.ofInt 8 ((BitVec.ofInt 8 (r / 64 % 256) &&& BitVec.ofInt 8 63).toNat : Int)).toNat : Int),
   AV.int .u8 ((BitVec.ofInt 8 128 ||| BitVec.ofInt 8 ((BitVec.ofInt 8 (r % 256) &&& BitVec.ofInt 8 63).toNat : Int)).toNat : Int)] = [224 + r / 4096, 128 + r / 64 % 64, 128 + r % 64].map (AV.int .u8) := by
   rw [a1, a2, o1, o2, o4]; rfl
  rw [encodeRuneZ_three (by omega)] at hea
  simp (disch := first | assumption | omega) only [go_sem, reduceCtorEq, Nat.reduceEqDiff, ↓reduceIte, Int.reduceToNat, Int.reducePow, Bool.true_and, c1, c2, w1, w2]
  refine appB_by (m := encodeRune r) h (e.trans hea) (by omega) fun k' σ' hg' => ?_
  rw [List.length_append] at hg'
  simp (disch := first | assumption | omega) only [go_sem, ↓reduceIte]
  exact retC_by (Drop.refl _) (.refl _) ⟨k', rfl, hg'⟩
 have c3 : 57343 < r := by omega
 by_cases c4 : r ≤ 65535
 ·have o4 := or_c (r / 4096) (by omega) (by omega)
  have e : [AV.int .u8 ((BitVec.ofInt 8 224 ||| BitVec.ofInt 8 (r / 4096)).toNat : Int), AV.int .u8 ((BitVec.ofInt 8 128 ||| BitVec.ofInt 8 ((BitVec.ofInt 8 (r / 64 % 256) &&& BitVec.ofInt 8 63).toNat : Int)).toNat : Int),
   AV.int .u8 ((BitVec.ofInt 8 128 ||| BitVec.ofInt 8 ((BitVec.ofInt 8 (r % 256) &&& BitVec.ofInt 8 63).toNat : Int)).toNat : Int)] = [224 + r / 4096, 128 + r / 64 % 64, 128 + r % 64].map (AV.int .u8) := by
   rw [a1, a2, o1, o2, o4]; rfl
  rw [encodeRuneZ_three (by omega)] at hea
  simp (disch := first | assumption | omega) only [go_sem, reduceCtorEq, Nat.reduceEqDiff, ↓reduceIte, Int.reduceToNat, Int.reducePow, Bool.true_and, c1, c2, c3, c4, w1, w2]
  refine appB_by (m := encodeRune r) h (e.trans hea) (by omega) fun k' σ' hg' => ?_
  rw [List.length_append] at hg'
  simp (disch := first | assumption | omega) only [go_sem, ↓reduceIte]
  exact retC_by (Drop.refl _) (.refl _) ⟨k', rfl, hg'⟩
 ·have c5 : 65535 < r := by omega
  have o4 := or_d (r / 262144) (by omega) (by omega)
  have e : [AV.int .u8 ((BitVec.ofInt 8 240 ||| BitVec.ofInt 8 (r / 262144)).toNat : Int), AV.int .u8 ((BitVec.ofInt 8 128 ||| BitVec.ofInt 8 ((BitVec.ofInt 8 (r / 4096 % 256) &&& BitVec.ofInt 8 63).toNat : Int)).toNat : Int),
   AV.int .u8 ((BitVec.ofInt 8 128 ||| BitVec.ofInt 8 ((BitVec.ofInt 8 (r / 64 % 256) &&& BitVec.ofInt 8 63).toNat : Int)).toNat : Int), AV.int .u8 ((BitVec.ofInt 8 128 ||| BitVec.ofInt 8 ((BitVec.ofInt 8 (r % 256) &&& BitVec.ofInt 8 63).toNat : Int)).toNat : Int)] = [240 + r / 262144, 128 + r / 4096 % 64, 128 + r / 64 % 64, 128 + r % 64].map (AV.int .u8) := by
   rw [a1, a2, a3, o1, o2, o3, o4]; rfl
  rw [encodeRuneZ_four (by omega) (by omega)] at hea
  simp (disch := first | assumption | omega) only [go_sem, reduceCtorEq, Nat.reduceEqDiff, ↓reduceIte, Int.reduceToNat, Int.reducePow, Bool.true_and, c1, c2, c3, c4, c5, w1, w2, w3]
  refine appB_by (m := encodeRune r) h (e.trans hea) (by omega) fun k' σ' hg' => ?_
  rw [List.length_append] at hg'
  simp (disch := first | assumption | omega) only [go_sem, ↓reduceIte]
  exact retC_by (Drop.refl _) (.refl _) ⟨k', rfl, hg'⟩
theorem appendRune_ok {σ0 σ : ASt} {k : SK} {l : List UInt8} (h : GT σ0 σ k l.length 1) {r : Int} (hr : RuneOk r) (hl : l.length ≤ 1000000000) :
  ACalls Tryz.prog 86 [.sl k (bytesAV l), .int .i32 r] σ fun v σ' => ∃ k', v = .sl k' (bytesAV (l ++ encodeRune r)) ∧ GT σ0 σ' k' (l ++ encodeRune r).length 1 := by
 obtain ⟨r0, r1, r2⟩ := hr
 have hel := enc_len r
 have hea := encAV r
 refine a86 (by simp) ?_
 by_cases c1 : r ≤ 127
 ·rw [encodeRuneZ_one r0 c1] at hea
  simp (disch := first | assumption | omega) only [go_sem, reduceCtorEq, Nat.reduceEqDiff, ↓reduceIte, Bool.true_and, c1]
  refine appB_by (m := encodeRune r) h hea (by omega) fun k' σ' hg' => ?_
  rw [List.length_append] at hg'
  simp (disch := first | assumption | omega) only [go_sem, ↓reduceIte]
  exact retC_by (Drop.refl _) (.refl _) ⟨k', rfl, hg'⟩
 ·simp (disch := first | assumption | omega) only [go_sem, reduceCtorEq, Nat.reduceEqDiff, ↓reduceIte, c1]
  refine (appendRuneN_ok h ⟨r0, r1, r2⟩ (by omega) hl).mono ?_
  rintro v σ' ⟨k', rfl, hg'⟩
  rw [List.length_append] at hg'
  simp (disch := first | assumption | omega) only [go_sem, ↓reduceIte]
  exact retC_by (Drop.refl _) (.refl _) ⟨k', rfl, hg'⟩
theorem writeRune_ok {σ0 σ : ASt} {b : Nat} {l : List UInt8} (h : BD σ0 b l σ) {r : Int} (hr : RuneOk r) (hl : l.length ≤ 1000000000) :
  ACalls Tryz.prog 66 [.ptr b 0, .int .i32 r] σ fun v σ' => BD σ0 b (l ++ encodeRune r) σ' := by
 refine a66 (by simp) ?_
 have hel := enc_len r
 have hne : encodeRune r ≠ [] := by
  intro h
  have := encodeRuneZ_length r
  have h2 := congrArg List.length h
  simp [encodeRune] at h2
  rw [h2] at this
  simp at this
 simp (disch := first | assumption | omega) only [go_sem, reduceCtorEq, ↓reduceIte]
 refine (cc_ok h).mono ?_
 rintro v σ1 ⟨rfl, k, hg⟩
 have hb := hg.at (ASt.set_same _ _ _)
 have hbl := bytesAV_len l
 simp (disch := first | assumption | omega) only [go_sem, reduceCtorEq, Nat.reduceEqDiff, ↓reduceIte, hb, hbl]
 refine (appendRune_ok hg hr hl).mono ?_
 rintro v σ' ⟨k', rfl, hg'⟩
 have hb' := hg'.at (ASt.set_same _ _ _)
 have hbl' := bytesAV_len (l ++ encodeRune r)
 have hll : (l ++ encodeRune r).length ≤ 1000000004 := by simp; omega
 simp (disch := first | assumption | omega) only [go_sem, reduceCtorEq, Nat.reduceEqDiff, Nat.reduceAdd, Nat.reduceLeDiff, ↓reduceIte, Bool.true_and, hb', hbl']
 exact retC_by (Drop.refl _) (.refl _) (.inr ⟨by simp [hne], k', hg'.obj⟩)
theorem bstring_ok {σ0 σ : ASt} {b : Nat} {l : List UInt8} (h : BD σ0 b l σ) (hl : l.length ≤ 1000000000) : ACalls Tryz.prog 17 [.ptr b 0] σ fun v σ' => v = .str l ∧ σ' = σ := by
 rcases h with ⟨rfl, rfl⟩ | ⟨h0, k, hg⟩
 ·exact bstring_typ (ASt.set_same _ _ _)
 ·have hb := hg.at (ASt.set_same _ _ _)
  rcases hg with ⟨_, h1, _⟩ | ⟨g, rfl, hg, rfl⟩
  ·exact absurd (List.eq_nil_of_length_eq_zero h1) h0
  ·refine bstring_used h0 (by omega) hb (by rw [ASt.set_same, Nat.mul_one])
end Go.A
namespace Go.A
open Go.Proofs
/-! 26: (*strings.Builder).WriteString -/
def c26_0 : ACode := .ops [
 ⟨some 4, none, .q (.mv (.v (.int .i64 0))), []⟩,
 ⟨some 5, none, .q (.mv (.v .nili)), []⟩]
def c26_1 : ACode := .ops [
 ⟨some 6, none, .q (.mv (.t 0)), []⟩,
 ⟨some 7, none, .e (.call 50 [(.t 6)]), []⟩]
def c26_2 : ACode := .ops [
 ⟨some 8, none, .q (.mv (.t 0)), []⟩,
 ⟨some 9, none, .q (.mv (.t 0)), []⟩,
 ⟨some 10, none, .q (.nc (.t 9)), []⟩,
 ⟨some 11, none, .q (.fa 1 (.t 10)), []⟩,
 ⟨some 12, none, .q (.ld none (.t 11)), []⟩,
 ⟨some 13, none, .q (.mv (.t 1)), []⟩,
 ⟨some 14, none, .e (.apps 5 (.t 12) (.t 13)), []⟩,
 ⟨some 15, none, .q (.nc (.t 8)), []⟩,
 ⟨some 16, none, .q (.fa 1 (.t 15)), []⟩,
 ⟨none, none, .e (.store 1 (.t 16) (.t 14)), []⟩]
def c26_3 : ACode := .ops [
 ⟨some 17, none, .q (.mv (.t 1)), []⟩,
 ⟨some 18, none, .q (.lenS (.t 17)), []⟩,
 ⟨some 4, none, .q (.mv (.t 18)), []⟩,
 ⟨some 5, none, .q (.mv (.v .nili)), []⟩]
def c26_4 : ACode := .seq c26_3 .ret
def c26_5 : ACode := .seq c26_2 c26_4
def c26_6 : ACode := .seq c26_1 c26_5
def c26_7 : ACode := .seq c26_0 c26_6
@[go_sem] def c26_0_wp := wp_of c26_0.eq_1
@[go_sem] def c26_1_wp := wp_of c26_1.eq_1
@[go_sem] def c26_2_wp := wp_of c26_2.eq_1
@[go_sem] def c26_3_wp := wp_of c26_3.eq_1
@[go_sem] def c26_4_wp := wp_of c26_4.eq_1
@[go_sem] def c26_5_wp := wp_of c26_5.eq_1
@[go_sem] def c26_6_wp := wp_of c26_6.eq_1
@[go_sem] def c26_7_wp := wp_of c26_7.eq_1
def c26 : AFn := ⟨19, [.t 4, .t 5], c26_7⟩
theorem c26_ok : compF Tryz.prog Tryz.f26 = some c26 := by kernel_rfl
theorem a26 {args : List AV} {σ : ASt} {R : AV → ASt → Prop} (hl : args.length ≤ 19) (h : c26_7.wp Tryz.prog (RetQ [.t 4, .t 5] R) (init args) σ) : ACalls Tryz.prog 26 args σ R := acalls_of Tryz.func26 c26_ok hl h
end Go.A
namespace Go.A
open Go.Proofs Go.Lib
section
variable {T U : TypeId} {σ0 σ : ASt} {b c x : Nat} {l : List UInt8} {r : Role}
theorem BW.role (h : BW T U σ0 b l σ) : σ b ≠ none := by
 rcases h with ⟨_, rfl⟩ | ⟨_, k, hg⟩
 ·rw [ASt.set_same]; simp
 ·rw [hg.at (ASt.set_same _ _ _)]; simp
theorem BW.at (h : BW T U σ0 b l σ) (hx : x ≠ b) (h0 : σ0 x = some r) : σ x = some r := by
 rcases h with ⟨_, rfl⟩ | ⟨_, k, hg⟩
 ·rw [ASt.set_ne hx]; exact h0
 ·exact hg.at (by rw [ASt.set_ne hx]; exact h0)
theorem BW.add (h : BW T U σ0 b l σ) (hc : σ c = none) : BW T U (σ0.set c (some r)) b l (σ.set c (some r)) ∧ c ≠ b ∧ σ0 c = none := by
 have hcb : c ≠ b := by rintro rfl; exact h.role hc
 rcases h with ⟨h0, rfl⟩ | ⟨h0, k, h1 | ⟨t, h1, h2, rfl⟩⟩
 ·rw [ASt.set_ne hcb] at hc
  exact ⟨.inl ⟨h0, set_swap (Ne.symm hcb)⟩, hcb, hc⟩
 ·obtain ⟨h1, h2, rfl⟩ := h1
  rw [ASt.set_ne hcb] at hc
  exact ⟨.inr ⟨h0, k, .inl ⟨h1, h2, set_swap (Ne.symm hcb)⟩⟩, hcb, hc⟩
 ·obtain ⟨h3, h4, hc⟩ := set_none hc
  rw [ASt.set_ne hcb] at hc
  obtain ⟨h5, h6, h7⟩ := set_none h2
  refine ⟨.inr ⟨h0, k, .inr ⟨t, h1, ?_, ?_⟩⟩, hcb, hc⟩
  ·rw [ASt.set_ne h5, ASt.set_ne (Ne.symm h3)]; exact h7
  ·rw [set_swap h4, set_swap (Ne.symm hcb)]
theorem BW.off (h : BW T U (σ0.set c (some r)) b l σ) (hcb : c ≠ b) (hc : σ0 c = none) : ∃ σ', Drop σ σ' ∧ BW T U σ0 b l σ' := by
 rcases h with ⟨h0, rfl⟩ | ⟨h0, k, h1 | ⟨t, h1, h2, rfl⟩⟩
 ·refine ⟨_, ?_, .inl ⟨h0, rfl⟩⟩
  rw [set_swap hcb]
  exact Drop.set (by rw [ASt.set_ne hcb]; exact hc)
 ·obtain ⟨h1, h2, rfl⟩ := h1
  refine ⟨_, ?_, .inr ⟨h0, k, .inl ⟨h1, h2, rfl⟩⟩⟩
  rw [set_swap hcb]
  exact Drop.set (by rw [ASt.set_ne hcb]; exact hc)
 ·obtain ⟨h3, h4, h5⟩ := set_none h2
  obtain ⟨h6, h7, h8⟩ := set_none h5
  refine ⟨(σ0.set b (some (.obj [.ptr b 0, .sl k (bytesAV l)]))).set t (some (.tok (l.length * 1))), ?_, .inr ⟨h0, k, .inr ⟨t, h1, ?_, rfl⟩⟩⟩
  ·rw [set_swap hcb, set_swap h7]
   exact Drop.set (by rw [ASt.set_ne h7, ASt.set_ne hcb]; exact hc)
  ·rw [ASt.set_ne h3]; exact h8
end
theorem appsB_by {σ σ0 : ASt} {k : SK} {l m : List UInt8} {K : AV → ASt → Prop} (h : GT σ0 σ k l.length 1) (hl : l.length + m.length ≤ 4611686018427)
  (hK : ∀ k' σ', GT σ0 σ' k' (l ++ m).length 1 → K (.sl k' (bytesAV (l ++ m))) σ') : appsC 5 (.sl k (bytesAV l)) (.str m) σ K := by
 refine appsCT_by (by rw [bytesAV_len]; exact h) (by rw [bytesAV_len]; omega) fun k' σ' hg => ?_
 rw [bytesAV_app]
 rw [bytesAV_len] at hg
 exact hK k' σ' (by rw [List.length_append]; exact hg)
theorem writes_ok {σ0 σ : ASt} {b : Nat} {l : List UInt8} (h : BD σ0 b l σ) (m : List UInt8) (hl : l.length + m.length ≤ 1000000000) :
  ACalls Tryz.prog 26 [.ptr b 0, .str m] σ fun v σ' => v = .tuple [.int .i64 m.length, .nili] ∧ ((l ++ m = [] ∧ ∃ k, GT (σ0.set b (some (.obj [.ptr b 0, .sl k []]))) σ' k 0 1) ∨ BD σ0 b (l ++ m) σ') := by
 refine a26 (by simp) ?_
 simp (disch := first | assumption | omega) only [go_sem, reduceCtorEq, ↓reduceIte]
 refine (cc_ok h).mono ?_
 rintro v σ1 ⟨rfl, k, hg⟩
 have hb := hg.at (ASt.set_same _ _ _)
 simp (disch := first | assumption | omega) only [go_sem, reduceCtorEq, Nat.reduceEqDiff, ↓reduceIte, hb]
 refine appsB_by hg (by omega) fun k' σ' hg' => ?_
 have hb' := hg'.at (ASt.set_same _ _ _)
 simp (disch := first | assumption | omega) only [go_sem, Nat.reduceEqDiff, Nat.reduceAdd, Nat.reduceLeDiff, ↓reduceIte, Bool.true_and, hb']
 refine retC_by (Drop.refl _) (.refl _) ⟨rfl, ?_⟩
 by_cases he : l ++ m = []
 ·refine .inl ⟨he, k', ?_⟩
  have := hg'.obj (r' := .obj [.ptr b 0, .sl k' (bytesAV (l ++ m))])
  rw [he] at this
  rw [he]
  exact this
 ·exact .inr (.inr ⟨he, k', hg'.obj⟩)
theorem writes1_ok {σ0 σ : ASt} {b : Nat} {l : List UInt8} (h : BD σ0 b l σ) (m : List UInt8) (hm : m ≠ []) (hl : l.length + m.length ≤ 1000000000) :
  ACalls Tryz.prog 26 [.ptr b 0, .str m] σ fun v σ' => v = .tuple [.int .i64 m.length, .nili] ∧ BD σ0 b (l ++ m) σ' :=
 (writes_ok h m hl).mono fun _ _ ⟨h1, h2⟩ => ⟨h1, h2.resolve_left fun h => hm (List.append_eq_nil_iff.1 h.1).2⟩
end Go.A
namespace Go.A
open Go.Proofs
/-! 25: tabular/expr.Signs -/
def c25_0 : ACode := .ops [
 ⟨some 0, none, .q (.mv (.v (.sl .full []))), []⟩]
def c25_1 : ACode := .ops [
 ⟨some 1, none, .q (.bsl 1 [(.v (.str [43])), (.v (.str [45])), (.v (.str [42])), (.v (.str [47])), (.v (.str [94])), (.v (.str [38])), (.v (.str [61])), (.v (.str [60, 62])), (.v (.str [60])), (.v (.str [60, 61])), (.v (.str [62])), (.v (.str [62, 61]))]), []⟩,
 ⟨some 0, none, .q (.mv (.t 1)), []⟩]
def c25_2 : ACode := .seq c25_1 .ret
def c25_3 : ACode := .seq c25_0 c25_2
@[go_sem] def c25_0_wp := wp_of c25_0.eq_1
@[go_sem] def c25_1_wp := wp_of c25_1.eq_1
@[go_sem] def c25_2_wp := wp_of c25_2.eq_1
@[go_sem] def c25_3_wp := wp_of c25_3.eq_1
def c25 : AFn := ⟨2, [.t 0], c25_3⟩
theorem c25_ok : compF Tryz.prog Tryz.f25 = some c25 := by kernel_rfl
theorem a25 {args : List AV} {σ : ASt} {R : AV → ASt → Prop} (hl : args.length ≤ 2) (h : c25_3.wp Tryz.prog (RetQ [.t 0] R) (init args) σ) : ACalls Tryz.prog 25 args σ R := acalls_of Tryz.func25 c25_ok hl h
/-! 29: tabular/expr.truth -/
def c29_0 : ACode := .ops [
 ⟨some 2, none, .q (.mv (.v (.str []))), []⟩]
def c29_1 : ACode := .ops [
 ⟨some 3, none, .q (.mv (.t 0)), []⟩]
def c29_2 : ACode := .ops [
 ⟨some 2, none, .q (.mv (.v (.str [84, 82, 85, 69]))), []⟩]
def c29_3 : ACode := .seq c29_2 .ret
def c29_4 : ACode := .cond (.t 3) c29_3 .skip
def c29_5 : ACode := .seq c29_1 c29_4
def c29_6 : ACode := .ops [
 ⟨some 2, none, .q (.mv (.v (.str [70, 65, 76, 83, 69]))), []⟩]
def c29_7 : ACode := .seq c29_6 .ret
def c29_8 : ACode := .seq c29_5 c29_7
def c29_9 : ACode := .seq c29_0 c29_8
@[go_sem] def c29_0_wp := wp_of c29_0.eq_1
@[go_sem] def c29_1_wp := wp_of c29_1.eq_1
@[go_sem] def c29_2_wp := wp_of c29_2.eq_1
@[go_sem] def c29_3_wp := wp_of c29_3.eq_1
@[go_sem] def c29_4_wp := wp_of c29_4.eq_1
@[go_sem] def c29_5_wp := wp_of c29_5.eq_1
@[go_sem] def c29_6_wp := wp_of c29_6.eq_1
@[go_sem] def c29_7_wp := wp_of c29_7.eq_1
@[go_sem] def c29_8_wp := wp_of c29_8.eq_1
@[go_sem] def c29_9_wp := wp_of c29_9.eq_1
def c29 : AFn := ⟨4, [.t 2], c29_9⟩
theorem c29_ok : compF Tryz.prog Tryz.f29 = some c29 := by kernel_rfl
theorem a29 {args : List AV} {σ : ASt} {R : AV → ASt → Prop} (hl : args.length ≤ 4) (h : c29_9.wp Tryz.prog (RetQ [.t 2] R) (init args) σ) : ACalls Tryz.prog 29 args σ R := acalls_of Tryz.func29 c29_ok hl h
/-! 35: tabular/expr.level -/
def c35_0 : ACode := .ops [
 ⟨some 2, none, .q (.mv (.v (.int .i64 0))), []⟩]
def c35_1 : ACode := .ops [
 ⟨some 4, none, .q (.mv (.t 0)), []⟩,
 ⟨some 5, none, .q (.bin .eql (.t 4) (.v (.int .i64 7))), []⟩,
 ⟨some 6, none, .q (.mv (.t 5)), []⟩,
 ⟨some 7, some (6, false), .q (.mv (.t 0)), []⟩,
 ⟨some 8, some (6, false), .q (.bin .eql (.t 7) (.v (.int .i64 8))), []⟩,
 ⟨some 9, none, .q (.pick (.t 6) (.v (.bool true)) (.t 8)), []⟩,
 ⟨some 3, none, .q (.mv (.t 9)), []⟩]
def c35_2 : ACode := .ops [
 ⟨some 2, none, .q (.mv (.v (.int .i64 6))), []⟩]
def c35_3 : ACode := .seq c35_2 .ret
def c35_4 : ACode := .ops [
 ⟨some 11, none, .q (.mv (.t 0)), []⟩,
 ⟨some 12, none, .q (.bin .eql (.t 11) (.v (.int .i64 9))), []⟩,
 ⟨some 10, none, .q (.mv (.t 12)), []⟩]
def c35_5 : ACode := .ops [
 ⟨some 2, none, .q (.mv (.v (.int .i64 7))), []⟩]
def c35_6 : ACode := .seq c35_5 .ret
def c35_7 : ACode := .ops [
 ⟨some 14, none, .q (.mv (.t 0)), []⟩,
 ⟨some 15, none, .q (.bin .lss (.t 14) (.v (.int .i64 10))), []⟩,
 ⟨some 16, none, .q (.mv (.t 15)), []⟩,
 ⟨some 17, some (16, false), .q (.mv (.t 0)), []⟩,
 ⟨some 18, some (16, false), .q (.bin .geq (.t 17) (.v (.int .i64 22))), []⟩,
 ⟨some 19, none, .q (.pick (.t 16) (.v (.bool true)) (.t 18)), []⟩,
 ⟨some 13, none, .q (.mv (.t 19)), []⟩]
def c35_8 : ACode := .ops [
 ⟨some 2, none, .q (.mv (.v (.int .i64 8))), []⟩]
def c35_9 : ACode := .seq c35_8 .ret
def c35_10 : ACode := .cond (.t 13) c35_9 .skip
def c35_11 : ACode := .seq c35_7 c35_10
def c35_12 : ACode := .cond (.t 10) c35_6 c35_11
def c35_13 : ACode := .seq c35_4 c35_12
def c35_14 : ACode := .cond (.t 3) c35_3 c35_13
def c35_15 : ACode := .seq c35_1 c35_14
def c35_16 : ACode := .block 0 c35_15
def c35_17 : ACode := .ops [
 ⟨some 20, none, .q (.bsl 1 [(.v (.int .i64 3)), (.v (.int .i64 3)), (.v (.int .i64 4)), (.v (.int .i64 4)), (.v (.int .i64 5)), (.v (.int .i64 2)), (.v (.int .i64 1)), (.v (.int .i64 1)), (.v (.int .i64 1)), (.v (.int .i64 1)), (.v (.int .i64 1)), (.v (.int .i64 1))]), []⟩,
 ⟨some 21, none, .q (.mv (.t 0)), []⟩,
 ⟨some 22, none, .q (.bin .sub (.t 21) (.v (.int .i64 10))), []⟩,
 ⟨some 23, none, .q (.ia 1 (.t 20) (.t 22)), []⟩,
 ⟨some 24, none, .q (.ld none (.t 23)), []⟩,
 ⟨some 2, none, .q (.mv (.t 24)), []⟩]
def c35_18 : ACode := .seq c35_17 .ret
def c35_19 : ACode := .seq c35_16 c35_18
def c35_20 : ACode := .seq c35_0 c35_19
@[go_sem] def c35_0_wp := wp_of c35_0.eq_1
@[go_sem] def c35_1_wp := wp_of c35_1.eq_1
@[go_sem] def c35_2_wp := wp_of c35_2.eq_1
@[go_sem] def c35_3_wp := wp_of c35_3.eq_1
@[go_sem] def c35_4_wp := wp_of c35_4.eq_1
@[go_sem] def c35_5_wp := wp_of c35_5.eq_1
@[go_sem] def c35_6_wp := wp_of c35_6.eq_1
@[go_sem] def c35_7_wp := wp_of c35_7.eq_1
@[go_sem] def c35_8_wp := wp_of c35_8.eq_1
@[go_sem] def c35_9_wp := wp_of c35_9.eq_1
@[go_sem] def c35_10_wp := wp_of c35_10.eq_1
@[go_sem] def c35_11_wp := wp_of c35_11.eq_1
@[go_sem] def c35_12_wp := wp_of c35_12.eq_1
@[go_sem] def c35_13_wp := wp_of c35_13.eq_1
@[go_sem] def c35_14_wp := wp_of c35_14.eq_1
@[go_sem] def c35_15_wp := wp_of c35_15.eq_1
@[go_sem] def c35_16_wp := wp_of c35_16.eq_1
@[go_sem] def c35_17_wp := wp_of c35_17.eq_1
@[go_sem] def c35_18_wp := wp_of c35_18.eq_1
@[go_sem] def c35_19_wp := wp_of c35_19.eq_1
@[go_sem] def c35_20_wp := wp_of c35_20.eq_1
def c35 : AFn := ⟨25, [.t 2], c35_20⟩
theorem c35_ok : compF Tryz.prog Tryz.f35 = some c35 := by kernel_rfl
theorem a35 {args : List AV} {σ : ASt} {R : AV → ASt → Prop} (hl : args.length ≤ 25) (h : c35_20.wp Tryz.prog (RetQ [.t 2] R) (init args) σ) : ACalls Tryz.prog 35 args σ R := acalls_of Tryz.func35 c35_ok hl h
end Go.A
namespace Go.A
open Go.Proofs Go.Lib
theorem esigns_ok : Pure Tryz.prog 25 [] (.sl .shr (signL.map AV.str)) := by
 intro σ
 refine a25 (by simp) ?_
 simp (disch := first | assumption | omega) only [go_sem, ↓reduceIte, Bool.true_and]
 exact retC_by (by repeat' (first | exact Drop.refl _ | with_reducible refine Drop.off ?_ (by assumption))) (.sl _ _) ⟨rfl, rfl⟩
theorem tenames_ok : Pure Tryz.prog 56 [] (.sl .shr (errL.map AV.str)) := by
 intro σ
 refine a56 (by simp) ?_
 simp (disch := first | assumption | omega) only [go_sem, ↓reduceIte, Bool.true_and]
 exact retC_by (by repeat' (first | exact Drop.refl _ | with_reducible refine Drop.off ?_ (by assumption))) (.sl _ _) ⟨rfl, rfl⟩
theorem level_ok (op : Int) (h0 : -1000 ≤ op) (h1 : op ≤ 1000) : Pure Tryz.prog 35 [.int .i64 op] (.int .i64 (levelP op)) := by
 intro σ
 obtain ⟨q, hq⟩ : ∃ q, levelP op = q := ⟨_, rfl⟩
 rw [hq]
 unfold levelP at hq
 refine a35 (by simp) ?_
 by_cases h7 : op = 7
 ·rw [if_pos (.inl h7)] at hq
  subst hq
  simp (disch := first | assumption | omega) only [go_sem, reduceCtorEq, Nat.reduceEqDiff, ↓reduceIte, h7]
  exact retC_by (by repeat' (first | exact Drop.refl _ | with_reducible refine Drop.off ?_ (by assumption))) (.refl _) ⟨rfl, rfl⟩
 by_cases h8 : op = 8
 ·rw [if_pos (.inr h8)] at hq
  subst hq
  simp (disch := first | assumption | omega) only [go_sem, reduceCtorEq, Nat.reduceEqDiff, Int.reduceEq, ↓reduceIte, h8]
  exact retC_by (by repeat' (first | exact Drop.refl _ | with_reducible refine Drop.off ?_ (by assumption))) (.refl _) ⟨rfl, rfl⟩
 rw [if_neg (by omega)] at hq
 by_cases h9 : op = 9
 ·rw [if_pos h9] at hq
  subst hq
  simp (disch := first | assumption | omega) only [go_sem, reduceCtorEq, Nat.reduceEqDiff, Int.reduceEq, ↓reduceIte, h9]
  exact retC_by (by repeat' (first | exact Drop.refl _ | with_reducible refine Drop.off ?_ (by assumption))) (.refl _) ⟨rfl, rfl⟩
 rw [if_neg h9] at hq
 by_cases ha : op < 10
 ·rw [if_pos (.inl ha)] at hq
  subst hq
  simp (disch := first | assumption | omega) only [go_sem, reduceCtorEq, Nat.reduceEqDiff, ↓reduceIte, h7, h8, h9, ha]
  exact retC_by (by repeat' (first | exact Drop.refl _ | with_reducible refine Drop.off ?_ (by assumption))) (.refl _) ⟨rfl, rfl⟩
 by_cases hb : 22 ≤ op
 ·rw [if_pos (.inr hb)] at hq
  subst hq
  simp (disch := first | assumption | omega) only [go_sem, reduceCtorEq, Nat.reduceEqDiff, ↓reduceIte, h7, h8, h9, ha, hb]
  exact retC_by (by repeat' (first | exact Drop.refl _ | with_reducible refine Drop.off ?_ (by assumption))) (.refl _) ⟨rfl, rfl⟩
 rw [if_neg (by omega)] at hq
 have hc : op = 10 ∨ op = 11 ∨ op = 12 ∨ op = 13 ∨ op = 14 ∨ op = 15 ∨ op = 16 ∨ op = 17 ∨ op = 18 ∨ op = 19 ∨ op = 20 ∨ op = 21 := by omega
 rcases hc with rfl | rfl | rfl | rfl | rfl | rfl | rfl | rfl | rfl | rfl | rfl | rfl
 all_goals
  simp at hq
  subst hq
  simp (disch := first | assumption | omega) only [go_sem, reduceCtorEq, Nat.reduceEqDiff, Int.reduceLT, Int.reduceLE, Int.reduceEq, ↓reduceIte, Int.reduceSub, Int.reduceToNat, Bool.true_and]
  exact retC_by (by repeat' (first | exact Drop.refl _ | with_reducible refine Drop.off ?_ (by assumption))) (.refl _) ⟨rfl, rfl⟩
theorem truth_ok (b : Bool) : Pure Tryz.prog 29 [.bool b] (.str (truthP b)) := by
 intro σ
 refine a29 (by simp) ?_
 cases b <;> simp (disch := first | assumption | omega) only [go_sem, reduceCtorEq, ↓reduceIte]
 all_goals exact retC_by (by repeat' (first | exact Drop.refl _ | with_reducible refine Drop.off ?_ (by assumption))) (.refl _) ⟨rfl, rfl⟩
end Go.A
namespace Go.A
open Go.Proofs
/-! 30: tabular/expr.Failure -/
def c30_0 : ACode := .ops [
 ⟨some 1, none, .e (.box (.t 0)), []⟩,
 ⟨some 2, none, .q (.mv (.v (.str []))), []⟩]
def c30_1 : ACode := .ops [
 ⟨some 4, none, .q (.fa 1 (.t 1)), []⟩,
 ⟨some 5, none, .q (.ld none (.t 4)), []⟩,
 ⟨some 6, none, .e (.call 55 [(.t 5)]), []⟩,
 ⟨some 3, none, .q (.mv (.t 6)), []⟩]
def c30_2 : ACode := .ops [
 ⟨some 7, none, .q (.fa 0 (.t 1)), []⟩,
 ⟨some 8, none, .q (.ld none (.t 7)), []⟩,
 ⟨some 9, none, .q (.bin .neq (.t 8) (.v (.int .i64 4))), []⟩,
 ⟨some 10, none, .q (.mv (.t 9)), []⟩,
 ⟨some 11, some (10, false), .q (.mv (.t 3)), []⟩,
 ⟨some 12, some (10, false), .q (.bin .lss (.t 11) (.v (.int .i64 1))), []⟩,
 ⟨some 13, none, .q (.pick (.t 10) (.v (.bool true)) (.t 12)), []⟩,
 ⟨some 14, none, .q (.mv (.t 13)), []⟩,
 ⟨some 15, some (14, false), .q (.mv (.t 3)), []⟩,
 ⟨some 16, some (14, false), .e (.call 56 []), []⟩,
 ⟨some 17, some (14, false), .q (.len (.t 16)), []⟩,
 ⟨some 18, some (14, false), .q (.bin .gtr (.t 15) (.t 17)), []⟩,
 ⟨some 19, none, .q (.pick (.t 14) (.v (.bool true)) (.t 18)), []⟩]
def c30_3 : ACode := .ops [
 ⟨some 2, none, .q (.mv (.v (.str []))), []⟩]
def c30_4 : ACode := .seq c30_3 .ret
def c30_5 : ACode := .cond (.t 19) c30_4 .skip
def c30_6 : ACode := .seq c30_2 c30_5
def c30_7 : ACode := .ops [
 ⟨some 20, none, .e (.call 56 []), []⟩,
 ⟨some 21, none, .q (.mv (.t 3)), []⟩,
 ⟨some 22, none, .q (.bin .sub (.t 21) (.v (.int .i64 1))), []⟩,
 ⟨some 23, none, .q (.ia 1 (.t 20) (.t 22)), []⟩,
 ⟨some 24, none, .q (.ld none (.t 23)), []⟩,
 ⟨some 2, none, .q (.mv (.t 24)), []⟩]
def c30_8 : ACode := .seq c30_7 .ret
def c30_9 : ACode := .seq c30_6 c30_8
def c30_10 : ACode := .seq c30_1 c30_9
def c30_11 : ACode := .seq c30_0 c30_10
@[go_sem] def c30_0_wp := wp_of c30_0.eq_1
@[go_sem] def c30_1_wp := wp_of c30_1.eq_1
@[go_sem] def c30_2_wp := wp_of c30_2.eq_1
@[go_sem] def c30_3_wp := wp_of c30_3.eq_1
@[go_sem] def c30_4_wp := wp_of c30_4.eq_1
@[go_sem] def c30_5_wp := wp_of c30_5.eq_1
@[go_sem] def c30_6_wp := wp_of c30_6.eq_1
@[go_sem] def c30_7_wp := wp_of c30_7.eq_1
@[go_sem] def c30_8_wp := wp_of c30_8.eq_1
@[go_sem] def c30_9_wp := wp_of c30_9.eq_1
@[go_sem] def c30_10_wp := wp_of c30_10.eq_1
@[go_sem] def c30_11_wp := wp_of c30_11.eq_1
def c30 : AFn := ⟨25, [.t 2], c30_11⟩
theorem c30_ok : compF Tryz.prog Tryz.f30 = some c30 := by kernel_rfl
theorem a30 {args : List AV} {σ : ASt} {R : AV → ASt → Prop} (hl : args.length ≤ 25) (h : c30_11.wp Tryz.prog (RetQ [.t 2] R) (init args) σ) : ACalls Tryz.prog 30 args σ R := acalls_of Tryz.func30 c30_ok hl h
end Go.A
