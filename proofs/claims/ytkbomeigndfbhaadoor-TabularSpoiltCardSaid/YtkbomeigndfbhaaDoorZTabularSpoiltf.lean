/- Part 6 of what TabularSpoilt leans on: Kn Shelf Wz CodeH Hc CodeKh Kh Hd Hf CodeKl Kl CodeKm Km Za Ms Mj. -/
import Derived.Shelf.Strings.Trim
import Derived.Shelf.Small.Utf8
import Derived.Shelf.Small.Strs
import Derived.Shelf.Small.Wraps
import Derived.Shelf.Strconv.Itoa0
import Derived.Shelf.Strconv.Itoa1
import Derived.Shelf.LaysM
import Derived.Shelf.Strconv.Itoa2
import Derived.Shelf.Strings.Search1
import Derived.Shelf.Strings.Search2
import Derived.Shelf.Strings.Cut
import Derived.Shelf.Strings.Shaped
import Derived.Shelf.Strings.Prefix
import Derived.Shelf.Strings.Runes
import Derived.Shelf.Strings.AsciiSet
import Derived.Shelf.Unicode.DecodeSlow
import Derived.Shelf.Unicode.DecodeAny
import Derived.Test.YtkbomeigndfbhaaDoorProg
import Derived.Lib.ItoaMem
import Derived.KernelRfl
import Derived.Lib.AppendIntMem
import Derived.BigCall
import Derived.BigGuard
import Derived.Lib.MapLaws
import Derived.Lib.RuneCount
import Derived.Test.YtkbomeigndfbhaaDoorRows
import Derived.ProofKit
import Derived.LaidMore
import Derived.OpenShut
import Derived.Stop.LaidErr
import Derived.MakeChecks
import Derived.SevenTiedAt
import Derived.Lay
import Derived.ChangeArms
import Derived.Lib.LaidU8
import Derived.Lib.LaidTab
import Derived.Test.YtkbomeigndfbhaaDoorZTabularSpoilte
set_option linter.defProp false
set_option linter.unusedSimpArgs false
set_option linter.unusedVariables false
set_option maxRecDepth 100000
namespace Go.A
open Go.Proofs
def spD (m : Int) (h0 : List UInt8) (L : List (List UInt8)) (pt : Int) : Dsk := ⟨imgF 0 (h0 :: L), m, [], List.replicate (L.length + 1) false, -1, -1, 0, pt⟩
theorem spD_ok {m : Int} {h0 : List UInt8} {L : List (List UInt8)} {pt : Int} (h : ∀ s ∈ h0 :: L, s.length ≤ 504) (hm : (L.length : Int) + 1 ≤ m ∧ m ≤ 60000) (hpt : 0 ≤ pt ∧ pt ≤ 1000000000) : (spD m h0 L pt).ok := by
 have hl : (List.replicate (L.length + 1) false).length = L.length + 1 := List.length_replicate
 refine ⟨?_, ?_, ?_, (fun p hp => by cases hp), Nat.zero_le _, ⟨(by decide : (-1 : Int) ≤ -1), (by decide : (-1 : Int) ≤ 1000000000)⟩, ⟨(by decide : (-1 : Int) ≤ -1), (by decide : (-1 : Int) ≤ 1000000000)⟩, ⟨(by decide : (0 : Int) ≤ 0), (by decide : (0 : Int) ≤ 1000000000)⟩, hpt⟩
 ·show (imgF 0 (h0 :: L)).length = (List.replicate (L.length + 1) false).length * 512
  rw [imgF_len h, hl]
  rfl
 ·show 1 ≤ (List.replicate (L.length + 1) false).length
  omega
 ·show ((List.replicate (L.length + 1) false).length : Int) ≤ m ∧ m ≤ 60000
  omega
theorem new_spD (m : Int) : newP m = spD m (headP (rawP m)) [] 1 := by
 rw [newP_eq]
 have h : (headP (rawP m)).length ≤ 504 := by rw [headP_len]; decide
 generalize headP (rawP m) = hh at *
 have e : layP (List.replicate 512 0) 0 hh = imgF 0 [hh] := by
  have := lay_new (l := []) (fun s hs => by cases hs) hh
  exact this
 rw [e]
 rfl
theorem took_spD {m : Int} {h0 : List UInt8} {L : List (List UInt8)} {pt : Int} (h : ∀ s ∈ h0 :: L, s.length ≤ 504) : tookP (spD m h0 L pt) = spD m h0 (L ++ [[]]) (pt + 1) := by
 have hl : (List.replicate (L.length + 1) false).length = (h0 :: L).length := List.length_replicate
 have e1 : layP (imgF 0 (h0 :: L) ++ List.replicate 512 0) (List.replicate (L.length + 1) false).length [] = imgF 0 (h0 :: (L ++ [[]])) := by
  rw [hl, lay_new h]
  rfl
 have e2 : List.replicate (L.length + 1) false ++ [false] = List.replicate ((L ++ [([] : List UInt8)]).length + 1) false := by
  rw [List.length_append]
  exact (List.replicate_succ' (n := L.length + 1)).symm
 unfold tookP spD
 dsimp only
 rw [e1, e2]
theorem wrote_spD {m : Int} {h0 : List UInt8} {L : List (List UInt8)} {pt : Int} (h : ∀ s ∈ h0 :: L, s.length ≤ 504) (s : List UInt8) : wroteP (spD m h0 (L ++ [[]]) pt) (L.length + 1) s = spD m h0 (L ++ [s]) (pt + 1) := by
 have h2 : ∀ s ∈ h0 :: (L ++ [[]]), s.length ≤ 504 := fun x hx => by
  rcases List.mem_cons.1 hx with rfl | hx
  ·exact h _ List.mem_cons_self
  ·rcases List.mem_append.1 hx with hx | hx
   ·exact h x (List.mem_cons_of_mem _ hx)
   ·rw [List.mem_singleton.1 hx]; decide
 have e : layP (imgF 0 (h0 :: (L ++ [[]]))) (L.length + 1) s = imgF 0 (h0 :: (L ++ [s])) := by
  rw [lay_img h2 (by simp)]
  congr 1
  show h0 :: (L ++ [[]]).set L.length s = _
  rw [List.set_append_right _ _ (Nat.le_refl _), Nat.sub_self]
  rfl
 unfold wroteP spD
 dsimp only
 rw [e]
 congr 1
 simp
def headL (n nx : Nat) : List UInt8 := [84, 65, 66, 85, 76, 65, 82, 49] ++ le32 n ++ le32 nx
theorem flush_spD {m : Int} {h0 : List UInt8} {L : List (List UInt8)} {pt : Int} (h : ∀ s ∈ h0 :: L, s.length ≤ 504) : flushP (spD m h0 L pt) = (spD m (headL (L.length + 1) 4294967295) L (pt + 1), 0) := by
 have e0 : headP (spD m h0 L pt) = headL (L.length + 1) 4294967295 := by
  unfold headP headL
  have : (spD m h0 L pt).isF.length = L.length + 1 := List.length_replicate
  rw [this]
  rfl
 have e : layP (imgF 0 (h0 :: L)) 0 (headL (L.length + 1) 4294967295) = imgF 0 (headL (L.length + 1) 4294967295 :: L) := by
  rw [lay_img h (by simp)]
  rfl
 unfold flushP
 rw [e0]
 have ef : failD (spD m h0 L pt).wl = (-1, 0) := rfl
 rw [ef, if_neg (by decide)]
 have e1 : (spD m h0 L pt).b = imgF 0 (h0 :: L) := rfl
 rw [e1, e]
 rfl
theorem headL_len (n nx : Nat) : (headL n nx).length = 16 := rfl
theorem head_pad (n nx : Nat) : padB (headL n nx) = [84, 65, 66, 85, 76, 65, 82, 49] ++ (le32 n ++ (le32 nx ++ List.replicate 488 0)) := by
 unfold padB
 rw [headL_len]
 unfold headL
 simp only [List.append_assoc]
theorem spoilt_law {hd : List UInt8} {L : List (List UInt8)} (hh : hd.length ≤ 504) (hL : ∀ s ∈ L, s.length = 504) (hn : L.length ≤ 60000) {at' turn : Nat} (ha : at' < (imgF 0 (hd :: L)).length) {p : Nat} {s : List UInt8} (hp : (hd :: L)[p]? = some s) :
  lookP (spoilP (imgF 0 (hd :: L)) at' turn 4) p = if otherP (imgF 0 (hd :: L)) at' turn 4 = true ∧ p = at' / 512 then none else some (padB s) := by
 have hl : ∀ s ∈ hd :: L, s.length ≤ 504 := fun x hx => by
  rcases List.mem_cons.1 hx with rfl | hx
  ·exact hh
  ·rw [hL x hx]; decide
 have hpl : p < L.length + 1 := (List.getElem?_eq_some_iff.1 hp).1
 have hpg := pg_img hl hp
 by_cases ho : otherP (imgF 0 (hd :: L)) at' turn 4 = true
 ·by_cases hq : p = at' / 512
  ·rw [if_pos ⟨ho, hq⟩, hq]
   rw [hq] at hpg
   exact spoil_page (hl s (List.mem_of_getElem? hp)) ha hpg (by omega) ho
  ·rw [if_neg fun h => hq h.2]
   refine look_page ?_ (by omega)
   rw [spoil_else hq, hpg]
 ·rw [if_neg fun h => ho h.1, other_no 4 (Bool.eq_false_iff.2 ho)]
  exact look_page hpg (by omega)
end Go.A
namespace Go.Proofs
open Go.Shelf
def Tryd.lays103_ren : Go.Shelf.Ren := ⟨fun | 103 => 34 | 210 => 48 | 206 => 56 | n => n, fun | 9 => 9 | 4 => 4 | 24 => 56 | 3 => 3 | n => n, fun | n => n⟩
theorem Tryd.lays103 : Go.Proofs.Lays.n103 Tryd.prog Tryd.lays103_ren := {
 mixed := by kernel_rfl
 f103 := Tryd.func34.trans (congrArg some (by kernel_rfl))
 f206 := Tryd.func56.trans (congrArg some (by kernel_rfl))
 f210 := Tryd.func48.trans (congrArg some (by kernel_rfl))
 t3 := Tryd.underlying3
 a3 := Tryd.isAgg3
 z3 := Tryd.sizeOf3
 v3 := Tryd.zeroValue3
 t4 := Tryd.underlying4
 a4 := Tryd.isAgg4
 z4 := Tryd.sizeOf4
 v4 := Tryd.zeroValue4
 t9 := Tryd.underlying9
 a9 := Tryd.isAgg9
 z9 := Tryd.sizeOf9
 v9 := Tryd.zeroValue9
 t24 := Tryd.underlying56
 a24 := Tryd.isAgg56
 z24 := Tryd.sizeOf56
 v24 := Tryd.zeroValue56 }
open Go.RowKit in
theorem Tryd.strings_CutPrefix (s p : ByteArray) (w : World) :
  Calls Tryd.prog 34 #[.string s, .string p] w fun e w' => e = .returned (.tuple #[.string ⟨(Lib.trimPrefix s.data.toList p.data.toList).toArray⟩, .bool (Lib.hasPrefix s.data.toList p.data.toList)]) ∧ w' = w := Any.strings_CutPrefix Tryd.lays103 s p w
def Tryd.lays219_ren : Go.Shelf.Ren := ⟨fun | 219 => 64 | 217 => 74 | 225 => 75 | 224 => 76 | 267 => 77 | 266 => 83 | 314 => 84 | n => n, fun | 9 => 9 | 3 => 3 | 4 => 4 | 5 => 5 | 46 => 88 | 146 => 119 | 51 => 23 | n => n, fun | 1 => 1 | n => n⟩
theorem Tryd.lays219 : Go.Proofs.Lays.n219 Tryd.prog Tryd.lays219_ren := {
 mixed := by kernel_rfl
 f217 := Tryd.func74.trans (congrArg some (by kernel_rfl))
 f219 := Tryd.func64.trans (congrArg some (by kernel_rfl))
 f224 := Tryd.func76.trans (congrArg some (by kernel_rfl))
 f225 := Tryd.func75.trans (congrArg some (by kernel_rfl))
 f266 := Tryd.func83.trans (congrArg some (by kernel_rfl))
 f267 := Tryd.func77.trans (congrArg some (by kernel_rfl))
 f314 := Tryd.func84.trans (congrArg some (by kernel_rfl))
 t3 := Tryd.underlying3
 a3 := Tryd.isAgg3
 z3 := Tryd.sizeOf3
 v3 := Tryd.zeroValue3
 t4 := Tryd.underlying4
 a4 := Tryd.isAgg4
 z4 := Tryd.sizeOf4
 v4 := Tryd.zeroValue4
 t5 := Tryd.underlying5
 a5 := Tryd.isAgg5
 z5 := Tryd.sizeOf5
 v5 := Tryd.zeroValue5
 t9 := Tryd.underlying9
 a9 := Tryd.isAgg9
 z9 := Tryd.sizeOf9
 v9 := Tryd.zeroValue9
 t46 := Tryd.underlying88
 a46 := Tryd.isAgg88
 z46 := Tryd.sizeOf88
 v46 := Tryd.zeroValue88
 t51 := Tryd.underlying23
 a51 := Tryd.isAgg23
 z51 := Tryd.sizeOf23
 v51 := Tryd.zeroValue23
 t146 := Tryd.underlying119
 a146 := Tryd.isAgg119
 z146 := Tryd.sizeOf119
 v146 := Tryd.zeroValue119
 g1 := by kernel_rfl }
open Go.RowKit Go.Lib in
theorem Tryd.stringslite_Index_one (s : ByteArray) (c : UInt8) (w : World) :
  Calls Tryd.prog 64 #[.string s, .string ⟨#[c]⟩] w fun e w' => e = .returned (.int .i64 (Lib.indexByte s.data.toList c)) ∧ w' = w := Any.stringslite_Index_one Tryd.lays219 s c w
end Go.Proofs
namespace Go.A
open Go.Proofs
section
variable {P : Program} {σ : ASt} {w : World}
theorem ACalls.of_ext {f : FuncId} {args : List AV} {r : AV} {u : Value} (h : ∀ w vs, Sim σ w → Reps σ w args vs → Calls P f ⟨vs⟩ w fun e w' => e = .returned u ∧ Ext w w') (hr : ∀ w, Rep σ w r u) : ACalls P f args σ fun v σ' => v = r ∧ σ' = σ :=
 fun w vs hs ha => (h w vs hs ha).mono fun e w' ⟨he, hx⟩ => ⟨u, r, σ, he, ⟨rfl, rfl⟩, ext_le hx, hs.ext hx, hr w'⟩
end
theorem Ext.of_eq {w w' : World} (h : w' = w) : Ext w w' := h ▸ Ext.refl w
end Go.A
namespace Go.A
open Go.Proofs
/-! 15: tabular/deci.Good -/
/-! 17: (tabular/deci.Dec).Text -/
/-! 21: tabular/deci.Parse -/
def c21_25 : ACode := .seq (.ops [ oq 47 (.bin .lss (.t 46) (.t 45))]) (.seq (.cond (.t 47) .skip (.exit 0)) (.seq (.block 1 (.seq (.ops [ oq 48 (.ia 1 (.t 44) (.t 46)), oq 49 (.ld none (.t 48)), oq 11 (.mv (.t 49))]) (.seq (.seq (.ops [ oq 50 (.mv (.t 11)), oq 51 (.bin .lss (.t 50) (.v (.int .u8 48))), oq 52 (.mv (.t 51)), ⟨some 53, some (52, false), .q (.mv (.t 11)), []⟩, ⟨some 54, some (52, false), .q (.bin .gtr (.t 53) (.v (.int .u8 57))), []⟩, oq 55 (.pick (.t 52) (.v (.bool true)) (.t 54)), oq 56 (.mv (.t 55)), ⟨some 57, some (56, false), .q (.mv (.t 9)), []⟩, ⟨some 58, some (56, false), .q (.bin .gtr (.t 57) (.v (.int .u64 99999999999999999))), []⟩, oq 59 (.pick (.t 56) (.v (.bool true)) (.t 58))]) (.cond (.t 59) (.seq (.ops [ oq 2 (.mv (.v (.int .i64 0))), oq 3 (.mv (.v (.bool false)))]) .ret) .skip)) (.ops [ oq 60 (.mv (.t 9)), oq 61 (.bin .mul (.v (.int .u64 10)) (.t 60)), oq 62 (.mv (.t 11)), oq 63 (.bin .sub (.t 62) (.v (.int .u8 48))), oq 64 (.conv .u64 (.t 63)), oq 65 (.bin .add (.t 61) (.t 64)), oq 9 (.mv (.t 65))])))) (.ops [ oq 66 (.bin .add (.t 46) (.v (.int .i64 1))), oq 46 (.mv (.t 66))])))
def c21_32 : ACode := .seq (.ops [ oq 9 (.mv (.v (.int .u64 0)))]) (.seq (.seq (.ops [ oq 37 (.mv (.t 6)), oq 38 (.mv (.t 7)), oq 39 (.bin .add (.t 37) (.t 38)), oq 40 (.mv (.t 7)), oq 41 (.lenS (.t 40)), oq 42 (.slfrom (true, 0) (.v (.str [48, 48, 48, 48])) (.t 41)), oq 43 (.bin .add (.t 39) (.t 42)), oe 44 (.s2b (.t 43)), oq 45 (.len (.t 44)), oq 46 (.mv (.v (.int .i64 0)))]) (.block 0 (.loop c21_25))) (.seq (.ops [ oq 67 (.mv (.t 5)), oq 68 (.mv (.t 9)), oe 69 (.call 41 [(.t 67), (.v (.int .u64 0)), (.t 68)]), oq 70 (.ext 0 (.t 69)), oq 71 (.ext 1 (.t 69)), oq 2 (.mv (.t 70)), oq 3 (.mv (.t 71))]) .ret))
def c21_36 : ACode := .seq (.ops [ oq 2 (.mv (.v (.int .i64 0))), oq 3 (.mv (.v (.bool false)))]) (.seq (.ops [ oq 13 (.mv (.t 0)), oe 14 (.call 34 [(.t 13), (.v (.str [45]))]), oq 12 (.mv (.t 14)), oq 15 (.ext 0 (.t 12)), oq 16 (.ext 1 (.t 12)), oq 4 (.mv (.t 15)), oq 5 (.mv (.t 16))]) (.seq (.ops [ oq 18 (.mv (.t 4)), oe 19 (.call 40 [(.t 18), (.v (.str [46]))]), oq 17 (.mv (.t 19)), oq 20 (.ext 0 (.t 17)), oq 21 (.ext 1 (.t 17)), oq 22 (.ext 2 (.t 17)), oq 6 (.mv (.t 20)), oq 7 (.mv (.t 21)), oq 8 (.mv (.t 22))]) (.seq (.seq (.ops [ oq 23 (.mv (.t 6)), oq 24 (.bin .eql (.t 23) (.v (.str []))), oq 25 (.mv (.t 24)), ⟨some 26, some (25, false), .q (.mv (.t 8)), []⟩, ⟨some 27, some (25, false), .q (.mv (.t 26)), []⟩, ⟨some 28, some (27, true), .q (.mv (.t 7)), []⟩, ⟨some 29, some (27, true), .q (.bin .eql (.t 28) (.v (.str []))), []⟩, ⟨some 30, some (27, true), .q (.mv (.t 29)), []⟩, ⟨some 31, some (30, false), .q (.mv (.t 7)), []⟩, ⟨some 32, some (30, false), .q (.lenS (.t 31)), []⟩, ⟨some 33, some (30, false), .q (.bin .gtr (.t 32) (.v (.int .i64 4))), []⟩, ⟨some 34, some (27, true), .q (.pick (.t 30) (.v (.bool true)) (.t 33)), []⟩, ⟨some 35, some (25, false), .q (.pick (.t 27) (.t 34) (.v (.bool false))), []⟩, oq 36 (.pick (.t 25) (.v (.bool true)) (.t 35))]) (.cond (.t 36) (.seq (.ops [ oq 2 (.mv (.v (.int .i64 0))), oq 3 (.mv (.v (.bool false)))]) .ret) .skip)) c21_32)))
@[go_sem] def c21_25_wp := wp_of c21_25.eq_1
@[go_sem] def c21_32_wp := wp_of c21_32.eq_1
@[go_sem] def c21_36_wp := wp_of c21_36.eq_1
def c21 : AFn := ⟨72, [.t 2, .t 3], c21_36⟩
theorem c21_ok : compF Tryd.prog Tryd.f21 = some c21 := by kernel_rfl
theorem a21 {args : List AV} {σ : ASt} {R : AV → ASt → Prop} (hl : args.length ≤ 72) (h : c21_36.wp Tryd.prog (RetQ [.t 2, .t 3] R) (init args) σ) : ACalls Tryd.prog 21 args σ R := acalls_of Tryd.func21 c21_ok hl h
/-! 37: tabular/deci.size -/
/-! 38: strconv.FormatUint -/
/-! 40: strings.Cut -/
def c40_3 : ACode := .seq (.ops [ oq 4 (.mv (.v (.str []))), oq 5 (.mv (.v (.str []))), oq 6 (.mv (.v (.bool false)))]) (.seq (.ops [ oq 7 (.mv (.t 0)), oq 8 (.mv (.t 1)), oe 9 (.call 54 [(.t 7), (.t 8)]), oq 10 (.ext 0 (.t 9)), oq 11 (.ext 1 (.t 9)), oq 12 (.ext 2 (.t 9)), oq 4 (.mv (.t 10)), oq 5 (.mv (.t 11)), oq 6 (.mv (.t 12))]) .ret)
@[go_sem] def c40_3_wp := wp_of c40_3.eq_1
def c40 : AFn := ⟨13, [.t 4, .t 5, .t 6], c40_3⟩
theorem c40_ok : compF Tryd.prog Tryd.f40 = some c40 := by kernel_rfl
theorem a40 {args : List AV} {σ : ASt} {R : AV → ASt → Prop} (hl : args.length ≤ 13) (h : c40_3.wp Tryd.prog (RetQ [.t 4, .t 5, .t 6] R) (init args) σ) : ACalls Tryd.prog 40 args σ R := acalls_of Tryd.func40 c40_ok hl h
/-! 41: tabular/deci.made -/
def c41_15 : ACode := .seq (.ops [ oq 6 (.mv (.v (.int .i64 0))), oq 7 (.mv (.v (.bool false)))]) (.seq (.seq (.ops [ oq 8 (.mv (.t 1)), oq 9 (.bin .gtr (.t 8) (.v (.int .u64 0))), oq 10 (.mv (.t 9)), ⟨some 11, some (10, false), .q (.mv (.t 2)), []⟩, ⟨some 12, some (10, false), .q (.bin .gtr (.t 11) (.v (.int .u64 999999999999999999))), []⟩, oq 13 (.pick (.t 10) (.v (.bool true)) (.t 12))]) (.cond (.t 13) (.seq (.ops [ oq 6 (.mv (.v (.int .i64 0))), oq 7 (.mv (.v (.bool false)))]) .ret) .skip)) (.seq (.seq (.ops [ oq 14 (.mv (.t 0))]) (.cond (.t 14) (.seq (.ops [ oq 15 (.mv (.t 2)), oq 16 (.conv .i64 (.t 15)), oq 17 (.un .neg (.t 16)), oq 6 (.mv (.t 17)), oq 7 (.mv (.v (.bool true)))]) .ret) .skip)) (.seq (.ops [ oq 18 (.mv (.t 2)), oq 19 (.conv .i64 (.t 18)), oq 6 (.mv (.t 19)), oq 7 (.mv (.v (.bool true)))]) .ret)))
@[go_sem] def c41_15_wp := wp_of c41_15.eq_1
def c41 : AFn := ⟨20, [.t 6, .t 7], c41_15⟩
theorem c41_ok : compF Tryd.prog Tryd.f41 = some c41 := by kernel_rfl
theorem a41 {args : List AV} {σ : ASt} {R : AV → ASt → Prop} (hl : args.length ≤ 20) (h : c41_15.wp Tryd.prog (RetQ [.t 6, .t 7] R) (init args) σ) : ACalls Tryd.prog 41 args σ R := acalls_of Tryd.func41 c41_ok hl h
/-! 54: internal/stringslite.Cut -/
def c54_11 : ACode := .seq (.ops [ oq 4 (.mv (.v (.str []))), oq 5 (.mv (.v (.str []))), oq 6 (.mv (.v (.bool false)))]) (.seq (.seq (.ops [ oq 8 (.mv (.t 0)), oq 9 (.mv (.t 1)), oe 10 (.call 64 [(.t 8), (.t 9)]), oq 7 (.mv (.t 10))]) (.seq (.ops [ oq 11 (.mv (.t 7)), oq 12 (.bin .geq (.t 11) (.v (.int .i64 0)))]) (.cond (.t 12) (.seq (.ops [ oq 13 (.mv (.t 0)), oq 14 (.mv (.t 7)), oq 15 (.slto (true, 0) (.t 13) (.t 14)), oq 16 (.mv (.t 0)), oq 17 (.mv (.t 7)), oq 18 (.mv (.t 1)), oq 19 (.lenS (.t 18)), oq 20 (.bin .add (.t 17) (.t 19)), oq 21 (.slfrom (true, 0) (.t 16) (.t 20)), oq 4 (.mv (.t 15)), oq 5 (.mv (.t 21)), oq 6 (.mv (.v (.bool true)))]) .ret) .skip))) (.seq (.ops [ oq 22 (.mv (.t 0)), oq 4 (.mv (.t 22)), oq 5 (.mv (.v (.str []))), oq 6 (.mv (.v (.bool false)))]) .ret))
@[go_sem] def c54_11_wp := wp_of c54_11.eq_1
def c54 : AFn := ⟨23, [.t 4, .t 5, .t 6], c54_11⟩
theorem c54_ok : compF Tryd.prog Tryd.f54 = some c54 := by kernel_rfl
theorem a54 {args : List AV} {σ : ASt} {R : AV → ASt → Prop} (hl : args.length ≤ 23) (h : c54_11.wp Tryd.prog (RetQ [.t 4, .t 5, .t 6] R) (init args) σ) : ACalls Tryd.prog 54 args σ R := acalls_of Tryd.func54 c54_ok hl h
end Go.A
namespace Go.A
open Go.Proofs Go.Shelf Go.RowKit Go.Sort
theorem cutPrefix_ok (s p : List UInt8) : Pure Tryd.prog 34 [.str s, .str p] (.tuple [.str (Lib.trimPrefix s p), .bool (Lib.hasPrefix s p)]) := by
 intro σ
 refine ACalls.of_ext (u := .tuple #[.string ⟨(Lib.trimPrefix s p).toArray⟩, .bool (Lib.hasPrefix s p)]) (fun w vs hs ha => ?_) fun w => .tuple (.cons (.str _) (.cons (.bool _) .nil))
 cases ha with
 | cons h1 h2 =>
 cases h2 with
 | cons h2 h3 =>
 cases h1; cases h2; cases h3
 exact (Tryd.strings_CutPrefix ⟨⟨s⟩⟩ ⟨⟨p⟩⟩ w).mono fun e w' ⟨he, hw⟩ => ⟨he, Ext.of_eq hw⟩
theorem sindex_ok (s : List UInt8) (c : UInt8) : Pure Tryd.prog 64 [.str s, .str [c]] (.int .i64 (Lib.indexByte s c)) := by
 intro σ
 refine ACalls.of_ext (u := .int .i64 (Lib.indexByte s c)) (fun w vs hs ha => ?_) fun w => .int _ _
 cases ha with
 | cons h1 h2 =>
 cases h2 with
 | cons h2 h3 =>
 cases h1; cases h2; cases h3
 exact (Tryd.stringslite_Index_one ⟨⟨s⟩⟩ c w).mono fun e w' ⟨he, hw⟩ => ⟨he, Ext.of_eq hw⟩
theorem cutc_ok (l : List UInt8) (c : UInt8) (hl : l.length ≤ 1000000000) : Pure Tryd.prog 40 [.str l, .str [c]] (.tuple [.str (Lib.cut l [c]).1, .str (Lib.cut l [c]).2.1, .bool (Lib.cut l [c]).2.2]) := by
 have h1 : Pure Tryd.prog 54 [.str l, .str [c]] (.tuple [.str (Lib.cut l [c]).1, .str (Lib.cut l [c]).2.1, .bool (Lib.cut l [c]).2.2]) := by
  intro σ
  have hi := sindex_ok l c
  have hr := Lib.index_room l [c]
  unfold Lib.cut
  rw [Lib.index_one] at hr ⊢
  have hg := Lib.indexByte_ge l c
  refine a54 (by simp) ?_
  by_cases h0 : 0 ≤ Lib.indexByte l c
  ·obtain ⟨i, e⟩ : ∃ i : Nat, Lib.indexByte l c = i := ⟨(Lib.indexByte l c).toNat, by omega⟩
   rw [e] at hi hr ⊢
   have hr := hr (by omega)
   simp only [List.length_cons, List.length_nil] at hr
   rw [if_pos (by omega)]
   have e1 : (0 : Int) ≤ i := by omega
   have e2 : ((i : Int) + 1).toNat = i + 1 := by omega
   have e3 : (i : Int) ≤ l.length := by omega
   have e4 : (i : Int) + 1 ≤ l.length := by omega
   simp (disch := first | assumption | omega) only [go_sem, reduceCtorEq, Nat.reduceEqDiff, ↓reduceIte]
   refine hi.use ?_
   simp (disch := first | assumption | omega) only [go_sem, reduceCtorEq, Nat.reduceEqDiff, ↓reduceIte, e1, e2, List.take_length]
   exact retC_by (by repeat' (first | exact Drop.refl _ | with_reducible refine Drop.off ?_ (by assumption))) (.refl _) ⟨rfl, rfl⟩
  ·have e : Lib.indexByte l c = -1 := by omega
   rw [e] at hi ⊢
   rw [if_neg (by omega)]
   simp (disch := first | assumption | omega) only [go_sem, reduceCtorEq, Nat.reduceEqDiff, ↓reduceIte]
   refine hi.use ?_
   simp (disch := first | assumption | omega) only [go_sem, reduceCtorEq, Nat.reduceEqDiff, Int.reduceLE, ↓reduceIte, Int.reduceNeg]
   exact retC_by (by repeat' (first | exact Drop.refl _ | with_reducible refine Drop.off ?_ (by assumption))) (.refl _) ⟨rfl, rfl⟩
 intro σ
 refine a40 (by simp) ?_
 simp (disch := first | assumption | omega) only [go_sem, reduceCtorEq, Nat.reduceEqDiff, ↓reduceIte]
 refine h1.use ?_
 simp (disch := first | assumption | omega) only [go_sem, Nat.reduceEqDiff, ↓reduceIte]
 exact retC_by (by repeat' (first | exact Drop.refl _ | with_reducible refine Drop.off ?_ (by assumption))) (.refl _) ⟨rfl, rfl⟩
end Go.A
namespace Go.A
open Go.Proofs
/-! 12: tabular/disk.Open -/
def c12_50 : ACode := .seq (.seq (.ops [ oq 74 (.mv (.t 12)), oe 75 (.call 31 [(.v (.int .u32 4294967295))]), oq 76 (.bin .neq (.t 74) (.t 75))]) (.cond (.t 76) .skip (.exit 0))) (.block 1 (.seq (.ops [ oq 77 (.mv (.t 12)), oe 78 (.s2b (.t 77)), oe 79 (.call 35 [(.t 78)]), oq 80 (.conv .i64 (.t 79)), oq 13 (.mv (.t 80))]) (.seq (.seq (.ops [ oq 81 (.mv (.t 13)), oq 82 (.bin .lss (.t 81) (.v (.int .i64 1))), oq 83 (.mv (.t 82)), ⟨some 84, some (83, false), .q (.mv (.t 13)), []⟩, ⟨some 85, some (83, false), .q (.mv (.t 6)), []⟩, ⟨some 86, some (83, false), .q (.bin .geq (.t 84) (.t 85)), []⟩, oq 87 (.pick (.t 83) (.v (.bool true)) (.t 86)), oq 88 (.mv (.t 87)), ⟨some 89, some (88, false), .q (.mv (.t 7)), []⟩, ⟨some 90, some (88, false), .q (.nc (.t 89)), []⟩, ⟨some 91, some (88, false), .q (.fa 3 (.t 90)), []⟩, ⟨some 92, some (88, false), .q (.ld none (.t 91)), []⟩, ⟨some 93, some (88, false), .q (.mv (.t 13)), []⟩, ⟨some 94, some (88, false), .q (.ia 1 (.t 92) (.t 93)), []⟩, ⟨some 95, some (88, false), .q (.ld none (.t 94)), []⟩, oq 96 (.pick (.t 88) (.v (.bool true)) (.t 95))]) (.cond (.t 96) (.seq (.ops [ oq 4 (.mv (.v .nilp)), oq 5 (.mv (.v (.int .i64 3)))]) .ret) .skip)) (.seq (.ops [ oq 98 (.mv (.t 7)), oq 99 (.mv (.t 13)), oe 100 (.call 33 [(.t 98), (.t 99)]), oq 97 (.mv (.t 100)), oq 101 (.ext 0 (.t 97)), oq 102 (.ext 1 (.t 97)), oq 14 (.mv (.t 101)), oq 15 (.mv (.t 102))]) (.seq (.seq (.ops [ oq 103 (.mv (.t 15)), oq 104 (.un .not (.t 103))]) (.cond (.t 104) (.seq (.ops [ oq 4 (.mv (.v .nilp)), oq 5 (.mv (.v (.int .i64 8)))]) .ret) .skip)) (.seq (.ops [ oq 105 (.mv (.t 7)), oq 106 (.nc (.t 105)), oq 107 (.fa 3 (.t 106)), oq 108 (.ld none (.t 107)), oq 109 (.mv (.t 13)), oq 110 (.ia 1 (.t 108) (.t 109)), oz (.store 1 (.t 110) (.v (.bool true)))]) (.seq (.ops [ oq 111 (.mv (.t 11)), oq 112 (.mv (.t 13)), oq 113 (.bsl 1 [(.t 112)]), oe 114 (.app 3 1 8 [(.int .i64 0)] (.t 111) (.t 113)), oq 11 (.mv (.t 114))]) (.ops [ oq 115 (.mv (.t 14)), oq 116 (.slto (true, 0) (.t 115) (.v (.int .i64 4))), oq 12 (.mv (.t 116))]))))))))
def c12_62 : ACode := .seq (.seq (.ops [ oq 120 (.mv (.t 16)), oq 121 (.bin .geq (.t 120) (.v (.int .i64 0)))]) (.cond (.t 121) .skip (.exit 2))) (.seq (.block 3 (.ops [ oq 124 (.mv (.t 7)), oq 125 (.mv (.t 7)), oq 126 (.nc (.t 125)), oq 127 (.fa 2 (.t 126)), oq 128 (.ld none (.t 127)), oq 129 (.mv (.t 11)), oq 130 (.mv (.t 16)), oq 131 (.ia 1 (.t 129) (.t 130)), oq 132 (.ld none (.t 131)), oq 133 (.bsl 1 [(.t 132)]), oe 134 (.app 3 1 8 [(.int .i64 0)] (.t 128) (.t 133)), oq 135 (.nc (.t 124)), oq 136 (.fa 2 (.t 135)), oz (.store 1 (.t 136) (.t 134))])) (.ops [ oq 122 (.mv (.t 16)), oq 123 (.bin .sub (.t 122) (.v (.int .i64 1))), oq 16 (.mv (.t 123))]))
def c12_79 : ACode := .seq (.seq (.ops [ oq 20 (.mv (.t 6)), oq 21 (.bin .lss (.t 20) (.v (.int .i64 1))), oq 22 (.mv (.t 21)), ⟨some 23, some (22, false), .q (.mv (.t 0)), []⟩, ⟨some 24, some (22, false), .q (.lenS (.t 23)), []⟩, ⟨some 25, some (22, false), .q (.bin .rem (.t 24) (.v (.int .i64 512))), []⟩, ⟨some 26, some (22, false), .q (.bin .neq (.t 25) (.v (.int .i64 0))), []⟩, oq 27 (.pick (.t 22) (.v (.bool true)) (.t 26)), oq 28 (.mv (.t 27)), ⟨some 29, some (28, false), .q (.mv (.t 6)), []⟩, ⟨some 30, some (28, false), .q (.mv (.t 1)), []⟩, ⟨some 31, some (28, false), .q (.mnx true (.t 30) (.v (.int .i64 2))), []⟩, ⟨some 32, some (28, false), .q (.mnx false (.t 31) (.v (.int .i64 60000))), []⟩, ⟨some 33, some (28, false), .q (.bin .gtr (.t 29) (.t 32)), []⟩, oq 34 (.pick (.t 28) (.v (.bool true)) (.t 33))]) (.cond (.t 34) (.seq (.ops [ oq 4 (.mv (.v .nilp)), oq 5 (.mv (.v (.int .i64 3)))]) .ret) .skip)) (.seq (.ops [ oq 35 (.mv (.t 1)), oe 36 (.call 6 [(.t 35)]), oq 7 (.mv (.t 36))]) (.seq (.ops [ oq 37 (.mv (.t 7)), oq 38 (.mv (.t 0)), oe 39 (.s2b (.t 38)), oq 40 (.nc (.t 37)), oq 41 (.fa 0 (.t 40)), oz (.store 1 (.t 41) (.t 39))]) (.seq (.ops [ oq 42 (.mv (.t 7)), oq 43 (.mv (.t 6)), oe 44 (.mks 4 1 (.bool false) (.t 43) (.t 43)), oq 45 (.nc (.t 42)), oq 46 (.fa 3 (.t 45)), oz (.store 1 (.t 46) (.t 44))]) (.seq (.ops [ oq 47 (.mv (.t 7)), oq 48 (.nc (.t 47)), oq 49 (.fa 7 (.t 48)), oz (.store 1 (.t 49) (.v (.int .i64 0)))]) (.seq (.ops [ oq 51 (.mv (.t 7)), oe 52 (.call 33 [(.t 51), (.v (.int .i64 0))]), oq 50 (.mv (.t 52)), oq 53 (.ext 0 (.t 50)), oq 54 (.ext 1 (.t 50)), oq 8 (.mv (.t 53)), oq 9 (.mv (.t 54))]) (.seq (.seq (.ops [ oq 55 (.mv (.t 9)), oq 56 (.un .not (.t 55))]) (.cond (.t 56) (.seq (.ops [ oq 4 (.mv (.v .nilp)), oq 5 (.mv (.v (.int .i64 8)))]) .ret) .skip)) (.seq (.ops [ oq 58 (.mv (.t 8)), oe 59 (.call 34 [(.t 58), (.v (.str [84, 65, 66, 85, 76, 65, 82, 49]))]), oq 57 (.mv (.t 59)), oq 60 (.ext 0 (.t 57)), oq 61 (.ext 1 (.t 57)), oq 10 (.mv (.t 60)), oq 9 (.mv (.t 61))]) (.seq (.seq (.ops [ oq 62 (.mv (.t 9)), oq 63 (.un .not (.t 62)), oq 64 (.mv (.t 63)), ⟨some 65, some (64, false), .q (.mv (.t 10)), []⟩, ⟨some 66, some (64, false), .q (.slto (true, 0) (.t 65) (.v (.int .i64 4))), []⟩, ⟨some 67, some (64, false), .q (.mv (.t 6)), []⟩, ⟨some 68, some (64, false), .q (.conv .u32 (.t 67)), []⟩, ⟨some 69, some (64, false), .e (.call 31 [(.t 68)]), []⟩, ⟨some 70, some (64, false), .q (.bin .neq (.t 66) (.t 69)), []⟩, oq 71 (.pick (.t 64) (.v (.bool true)) (.t 70))]) (.cond (.t 71) (.seq (.ops [ oq 4 (.mv (.v .nilp)), oq 5 (.mv (.v (.int .i64 3)))]) .ret) .skip)) (.seq (.ops [ oq 11 (.mv (.v (.sl .full [])))]) (.seq (.seq (.ops [ oq 72 (.mv (.t 10)), oq 73 (.sls (true, 0) (.t 72) (.v (.int .i64 4)) (.v (.int .i64 8))), oq 12 (.mv (.t 73))]) (.block 0 (.loop c12_50))) (.seq (.seq (.ops [ oq 117 (.mv (.t 11)), oq 118 (.len (.t 117)), oq 119 (.bin .sub (.t 118) (.v (.int .i64 1))), oq 16 (.mv (.t 119))]) (.block 2 (.loop c12_62))) (.seq (.ops [ oq 137 (.mv (.t 7)), oq 4 (.mv (.t 137)), oq 5 (.mv (.v (.int .i64 0)))]) .ret))))))))))))
def c12_81 : ACode := .seq (.ops [ oq 4 (.mv (.v .nilp)), oq 5 (.mv (.v (.int .i64 0)))]) (.seq (.ops [ oq 17 (.mv (.t 0)), oq 18 (.lenS (.t 17)), oq 19 (.bin .quo (.t 18) (.v (.int .i64 512))), oq 6 (.mv (.t 19))]) c12_79)
@[go_sem] def c12_50_wp := wp_of c12_50.eq_1
@[go_sem] def c12_62_wp := wp_of c12_62.eq_1
@[go_sem] def c12_79_wp := wp_of c12_79.eq_1
@[go_sem] def c12_81_wp := wp_of c12_81.eq_1
def c12 : AFn := ⟨138, [.t 4, .t 5], c12_81⟩
theorem c12_ok : compF Tryd.prog Tryd.f12 = some c12 := by kernel_rfl
theorem a12 {args : List AV} {σ : ASt} {R : AV → ASt → Prop} (hl : args.length ≤ 138) (h : c12_81.wp Tryd.prog (RetQ [.t 4, .t 5] R) (init args) σ) : ACalls Tryd.prog 12 args σ R := acalls_of Tryd.func12 c12_ok hl h
end Go.A
namespace Go.A
open Go.Proofs Go.Lib
structure RM (σ0 : ASt) (d : Nat) (D : Dsk) (σ : ASt) (B cB : Nat) (rB : List AV) (fv : AV) (I cI : Nat) (rI : List AV) : Prop where
 lm : LM σ d D B cB rB fv I cI rI
 z1 : σ0 d = none
 out : ∀ x, x ≠ d → σ0 x = σ x ∨ σ0 x = none
theorem RM.drop {σ0 σ : ASt} {d B cB I cI : Nat} {D : Dsk} {rB rI : List AV} {fv : AV} (h : RM σ0 d D σ B cB rB fv I cI rI) : Drop σ σ0 := fun x => by
 by_cases h1 : x = d
 ·rw [h1]; exact .inr h.z1
 ·exact h.out x h1
theorem RM.at {σ0 σ : ASt} {d B cB I cI : Nat} {D : Dsk} {rB rI : List AV} {fv : AV} (h : RM σ0 d D σ B cB rB fv I cI rI) {x : Nat} {r : Role} (hx : σ0 x = some r) : σ x = some r := by
 have h1 : x ≠ d := fun he => by rw [he, h.z1] at hx; cases hx
 rcases h.out x h1 with h2 | h2
 ·rw [← h2]; exact hx
 ·rw [h2] at hx; cases hx
theorem RM.cells {σ0 σ : ASt} {d B cB I cI : Nat} {D D' : Dsk} {rB rI : List AV} {fv : AV} (h : RM σ0 d D σ B cB rB fv I cI rI) (hb : D'.b = D.b) (hi : D'.isF = D.isF) : RM σ0 d D' (σ.set d (some (.obj (D'.cs B cB fv I cI)))) B cB rB fv I cI rI :=
 ⟨h.lm.cells hb hi, h.z1, fun x hx => by rw [ASt.set_ne hx]; exact h.out x hx⟩
def openD (s : List UInt8) (n : Nat) (m : Int) : Dsk := ⟨s, m, [], List.replicate n false, -1, -1, 0, 0⟩
def magicB : List UInt8 := [84, 65, 66, 85, 76, 65, 82, 49]
def OpenQ (σ : ASt) (D : Dsk) : Option (List UInt8) → AV → ASt → Prop
 | none, v, σ' => v = .tuple [.nilp, .int .i64 8] ∧ σ' = σ
 | some _, v, σ' => ∃ d B cB rB fv I cI rI, v = .tuple [.ptr d 0, .int .i64 0] ∧ RM σ d D σ' B cB rB fv I cI rI
set_option maxHeartbeats 1000000 in
theorem dkopen_ok {σ : ASt} (hT : CkT σ) {s : List UInt8} {n : Nat} {pages m : Int} (hn : 1 ≤ n) (hl : s.length = n * 512) (hm : min (max pages 2) 60000 = m) (hnm : (n : Int) ≤ m)
  (hh : ∀ h, lookP s 0 = some h → ∃ r, h = magicB ++ (le32 n ++ (le32 4294967295 ++ r))) :
  ACalls Tryd.prog 12 [.str s, .int .i64 pages] σ (OpenQ σ (openD s n m) (lookP s 0)) := by
 have hmr : 2 ≤ m ∧ m ≤ 60000 := by omega
 have hN := dknew_ok hT pages
 rw [hm] at hN
 have hn6 : (n : Int) ≤ 60000 := by omega
 have e1 : (s.length : Int).tdiv 512 = (n : Int) := by
  rw [hl, Int.natCast_mul]
  exact Int.mul_tdiv_cancel _ (by decide)
 have e2 : (s.length : Int).tmod 512 = 0 := by
  rw [hl, Int.natCast_mul]
  exact Int.mul_tmod_left _ _
 have en1 : ¬ (n : Int) < 1 := by omega
 have en2 : ¬ (m : Int) < (n : Int) := by omega
 obtain ⟨q, hq⟩ : ∃ q, lookP s 0 = q := ⟨_, rfl⟩
 refine a12 (by simp) ?_
 simp (disch := first | assumption | omega) only [go_sem, reduceCtorEq, Nat.reduceEqDiff, ↓reduceIte, e1, e2, en1, en2, hm]
 refine hN.mono ?_
 rintro v σ1 ⟨d, rfl, B0, cB0, rB0, fv, F0, I0, cI0, rI0, h0⟩
 have hd0 := h0.hd
 have hz1 := h0.z1
 have hcs : (newP m).cs B0 cB0 fv I0 cI0 = [.msl B0 0 (newP m).b.length cB0, .int .i64 m, fv, .msl I0 0 1 cI0, .int .i64 (-1), .int .i64 (-1), .int .i64 0, .int .i64 1] := rfl
 rw [hcs] at hd0
 generalize AV.msl B0 0 (newP m).b.length cB0 = va at *
 simp (disch := first | assumption | omega) only [go_sem, reduceCtorEq, ↓reduceIte]
 refine s2b_own fun b c hb hc => ?_
 obtain ⟨f1, f2, f3, f4, f5⟩ := h0.low hb
 have f1' : d ≠ b := Ne.symm f1
 simp (disch := first | assumption | omega) only [go_sem, Nat.reduceEqDiff, Nat.reduceAdd, Nat.reduceLeDiff, ↓reduceIte, Int.reduceNeg, Bool.true_and, hd0]
 refine mks_own (by omega) (by omega) (by omega) (by omega) fun I hI => ?_
 repeat (with_reducible replace hI := set_none hI; obtain ⟨_, _, hI⟩ := hI)
 obtain ⟨g1, g2, g3, g4, g5⟩ := h0.low hI
 have g1' : d ≠ I := Ne.symm g1
 have hIb : I ≠ b := by assumption
 have hbI : b ≠ I := by assumption
 simp (disch := first | assumption | omega) only [go_sem, Nat.reduceEqDiff, Nat.reduceAdd, Nat.reduceLeDiff, ↓reduceIte, Int.reduceNeg, Bool.true_and, Int.toNat_natCast]
 obtain ⟨τ, hτ⟩ : ∃ τ, τ = ((((σ1.set b (some (.obj (bytesAV s)))).set d (some (.obj [.msl b 0 s.length c, .int .i64 m, fv, .msl I0 0 1 cI0, .int .i64 (-1), .int .i64 (-1), .int .i64 0, .int .i64 1]))).set I (some (.obj (List.replicate n (.bool false))))).set d (some (.obj [.msl b 0 s.length c, .int .i64 m, fv, .msl I 0 n n, .int .i64 (-1), .int .i64 (-1), .int .i64 0, .int .i64 0]))) := ⟨_, rfl⟩
 rw [← hτ]
 have hLM : LM τ d (openD s n m) b c [] fv I n [] := by
  refine ⟨?_, ?_, ?_, hc, ?_, f1', g1'⟩
  ·rw [hτ, ASt.set_same]
   unfold Dsk.cs openD
   rw [List.length_replicate]
  ·rw [hτ, ASt.set_ne f1, ASt.set_ne hbI, ASt.set_ne f1, ASt.set_same, List.append_nil]
   rfl
  ·rw [hτ, ASt.set_ne g1, ASt.set_same, List.append_nil]
   unfold openD
   rw [List.map_replicate]
  ·unfold openD
   rw [List.length_replicate]
   exact Nat.le_refl _
 have hRM : RM σ d (openD s n m) τ b c [] fv I n [] := by
  refine ⟨hLM, hz1, fun x hx => ?_⟩
  by_cases hx1 : x = b
  ·rw [hx1]; exact .inr f5
  by_cases hx2 : x = I
  ·rw [hx2]; exact .inr g5
  rw [hτ, ASt.set_ne hx, ASt.set_ne hx2, ASt.set_ne hx, ASt.set_ne hx1]
  exact h0.drop x
 have hTτ : CkT τ := hRM.at hT
 have hk := dklook_ok hTτ hLM (p := 0) (by show (0 + 1) * 512 ≤ s.length; omega) (by decide)
 have hob : (openD s n m).b = s := rfl
 rw [hob, hq] at hk
 clear hLM hτ hd0 hcs h0
 rw [hq]
 refine hk.mono ?_
 rintro v σ2 ⟨rfl, rfl⟩
 cases q with
 | none =>
   unfold lookAV
   simp (disch := first | assumption | omega) only [go_sem, Nat.reduceEqDiff, ↓reduceIte]
   exact retC_by hRM.drop (.refl _) ⟨rfl, rfl⟩
 | some h =>
   obtain ⟨r, rfl⟩ := hh h hq
   have hw := dkword_ok (v := n) (by omega)
   have hw2 := dkword_ok (v := 4294967295) (by decide)
   have hcp := cutPrefix_ok (magicB ++ (le32 n ++ (le32 4294967295 ++ r))) magicB
   have hhp : Lib.hasPrefix (magicB ++ (le32 n ++ (le32 4294967295 ++ r))) magicB = true := by
    unfold Lib.hasPrefix
    exact List.isPrefixOf_iff_prefix.2 (List.prefix_append _ _)
   have htp : Lib.trimPrefix (magicB ++ (le32 n ++ (le32 4294967295 ++ r))) magicB = le32 n ++ (le32 4294967295 ++ r) := by
    unfold Lib.trimPrefix
    rw [if_pos hhp]
    exact List.drop_left
   rw [hhp, htp] at hcp
   have hmg : magicB = [84, 65, 66, 85, 76, 65, 82, 49] := rfl
   have h4 : (le32 n ++ (le32 4294967295 ++ r)).take 4 = le32 n := le_take _ _
   have h8 : ((le32 n ++ (le32 4294967295 ++ r)).take 8).drop 4 = le32 4294967295 := rfl
   have hll : 8 ≤ (le32 n ++ (le32 4294967295 ++ r)).length := by simp only [List.length_append, le32_len]; omega
   clear hhp htp
   generalize magicB ++ (le32 n ++ (le32 4294967295 ++ r)) = hd at *
   rw [hmg] at hcp
   generalize le32 n ++ (le32 4294967295 ++ r) = rest at *
   have b4 : (4 : Int) ≤ (rest.length : Int) := by omega
   have b8 : (8 : Int) ≤ (rest.length : Int) := by omega
   generalize le32 n = wn at *
   generalize le32 4294967295 = w0 at *
   unfold lookAV
   simp (disch := first | assumption | omega) only [go_sem, Nat.reduceEqDiff, ↓reduceIte]
   refine hcp.use ?_
   simp (disch := first | assumption | omega) only [go_sem, Nat.reduceEqDiff, ↓reduceIte, Int.reduceToNat, h4, List.drop_zero]
   refine hw.use ?_
   simp (disch := first | assumption | omega) only [go_sem, Nat.reduceEqDiff, ↓reduceIte, Int.reduceToNat, eq_self, h8]
   refine wp_loop_on (fun (_ : Unit) a1 s2 => (a1 7 = .ptr d 0 ∧ a1 11 = .sl .full [] ∧ a1 12 = .str w0) ∧ s2 = σ2) (fun _ => 0) () ⟨?_, rfl⟩ ?_
   ·simp (disch := first | assumption | omega) only [go_sem, Nat.reduceEqDiff, ↓reduceIte]
   rintro _ a1 s2 ⟨hf, rfl⟩
   simp (disch := first | assumption | omega) only [go_sem, hf]
   refine hw2.use ?_
   simp (disch := first | assumption | omega) only [go_sem, Nat.reduceEqDiff, ↓reduceIte, Int.reduceNeg, Int.reduceSub, hf, eq_self]
   refine wp_loop_on (fun (_ : Unit) a1 s3 => (a1 7 = .ptr d 0 ∧ a1 16 = .int .i64 (-1)) ∧ s3 = s2) (fun _ => 0) () ⟨?_, rfl⟩ ?_
   ·simp (disch := first | assumption | omega) only [go_sem, Nat.reduceEqDiff, ↓reduceIte, Int.reduceNeg, hf]
   rintro _ a2 s3 ⟨hf, rfl⟩
   simp (disch := first | assumption | omega) only [go_sem, Nat.reduceEqDiff, Int.reduceLE, ↓reduceIte, Int.reduceNeg, hf]
   exact retC_by (.refl _) (.refl _) ⟨_, _, _, _, _, _, _, _, rfl, hRM⟩
end Go.A
namespace Go.A
open Go.Proofs
def resAV (o : Option Int) : AV := .tuple [.int .i64 (o.getD 0), .bool o.isSome]
theorem made_ok (m : Bool) (lo : Nat) (h : lo < 18446744073709551616) : Pure Tryd.prog 41 [.bool m, .int .u64 0, .int .u64 lo] (resAV (madeP m lo)) := by
 intro σ
 refine a41 (by simp) ?_
 unfold madeP
 by_cases hm : lo ≤ 999999999999999999
 ·have g1 : ¬ (999999999999999999 : Int) < lo := by omega
  have e1 : IntKind.i64.wrap (lo : Int) = lo := by rw [IntKind.wrap_i64]; omega
  have e2 : IntKind.i64.wrap (-(lo : Int)) = -lo := by rw [IntKind.wrap_i64]; omega
  rw [if_pos hm]
  cases m
  ·simp (disch := first | assumption | omega) only [go_sem, reduceCtorEq, Nat.reduceEqDiff, Int.reduceLT, ↓reduceIte, g1, e1]
   exact retC_by (by repeat' (first | exact Drop.refl _ | with_reducible refine Drop.off ?_ (by assumption))) (.refl _) ⟨rfl, rfl⟩
  ·simp (disch := first | assumption | omega) only [go_sem, reduceCtorEq, Nat.reduceEqDiff, Int.reduceLT, ↓reduceIte, g1, e1]
   refine retC_by (by repeat' (first | exact Drop.refl _ | with_reducible refine Drop.off ?_ (by assumption))) (.refl _) ⟨?_, rfl⟩
   rw [show (0 : Int) - lo = -lo by omega]
   rfl
 ·have g1 : (999999999999999999 : Int) < lo := by omega
  rw [if_neg hm]
  simp (disch := first | assumption | omega) only [go_sem, Nat.reduceEqDiff, Int.reduceLT, ↓reduceIte, g1]
  exact retC_by (by repeat' (first | exact Drop.refl _ | with_reducible refine Drop.off ?_ (by assumption))) (.refl _) ⟨rfl, rfl⟩
end Go.A
namespace Go.A
open Go.Proofs
theorem prefix_minus (s : List UInt8) : Lib.hasPrefix s [45] = decide (s.head? = some 45) := by
 unfold Lib.hasPrefix
 cases s with
 | nil => rfl
 | cons c l =>
   simp only [List.isPrefixOf, Bool.and_true, List.head?_cons, Option.some.injEq]
   by_cases h : c = 45
   ·subst h; rfl
   ·have h1 : (45 == c) = false := by simpa using fun e => h e.symm
    rw [h1]; simp [h]
theorem trim_minus (s : List UInt8) : Lib.trimPrefix s [45] = if s.head? = some 45 then s.drop 1 else s := by
 unfold Lib.trimPrefix
 rw [prefix_minus]
 by_cases h : s.head? = some 45
 ·simp [h]
 ·simp [h]
theorem cut_len (l : List UInt8) (c : UInt8) : (Lib.cut l [c]).1.length + (Lib.cut l [c]).2.1.length ≤ l.length := by
 unfold Lib.cut
 split
 ·have := Lib.index_room l [c] (by assumption)
  simp at this ⊢
  omega
 ·simp
set_option maxHeartbeats 1000000 in
theorem dparse_ok (s : List UInt8) (hs : s.length ≤ 100000) : Pure Tryd.prog 21 [.str s] (resAV (parseD s)) := by
 intro σ
 have hP := cutPrefix_ok s [45]
 rw [prefix_minus, trim_minus] at hP
 obtain ⟨R, hR⟩ : ∃ R, parseD s = R := ⟨_, rfl⟩
 rw [hR]
 unfold parseD at hR
 dsimp only at hR
 generalize hm : decide (s.head? = some 45) = minus at *
 have hbl : (if s.head? = some 45 then s.drop 1 else s).length ≤ 100000 := by
  split
  ·rw [List.length_drop]; omega
  ·exact hs
 generalize (if s.head? = some 45 then s.drop 1 else s) = body at *
 have hC := cutc_ok body 46 (by omega)
 have hCl := cut_len body 46
 have hnf : (Lib.cut body [46]).2.2 = false → (Lib.cut body [46]).2.1 = [] := by
  unfold Lib.cut
  split <;> simp
 generalize (Lib.cut body [46]).1 = whole at *
 generalize (Lib.cut body [46]).2.1 = part at *
 generalize (Lib.cut body [46]).2.2 = dot at *
 unfold parseQ at hR
 obtain ⟨F, hF⟩ : ∃ F, F = ACode.wp Tryd.prog c21_32 := ⟨_, rfl⟩
 have fin : ∀ (a : AFr), part.length ≤ 4 → (accP 0 (whole ++ part ++ List.replicate (4 - part.length) 48)).bind (madeP minus) = R → (a 5 = .bool minus ∧ a 6 = .str whole ∧ a 7 = .str part) → F (RetQ [.t 2, .t 3] fun v σ' => v = resAV R ∧ σ' = σ) a σ := by
  intro a hp4 hacc hf
  rw [hF]
  have hl2 : whole.length + part.length ≤ 9223372036854775807 := by omega
  have g4 : (part.length : Int) ≤ 4 := by omega
  have e0 : ([48, 48, 48, 48] : List UInt8).drop part.length = List.replicate (4 - part.length) 48 := by
   have : part.length = 0 ∨ part.length = 1 ∨ part.length = 2 ∨ part.length = 3 ∨ part.length = 4 := by omega
   rcases this with h | h | h | h | h <;> rw [h] <;> rfl
  have e1 : binS .add (whole ++ part) (List.replicate (4 - part.length) 48) = some (.str (whole ++ part ++ List.replicate (4 - part.length) 48)) := binS_add (by simp; omega)
  obtain ⟨M, hM⟩ : ∃ M, whole ++ part ++ List.replicate (4 - part.length) 48 = M := ⟨_, rfl⟩
  rw [hM] at hacc e1
  have hMl : M.length ≤ 1000000 := by rw [← hM]; simp; omega
  simp (disch := first | assumption | omega | (simp only [List.length_append, List.length_cons, List.length_nil]; omega)) only [go_sem, Nat.reduceEqDiff, Nat.reduceAdd, ↓reduceIte, Int.reduceToNat, hf, e0, e1]
  refine s2b_shr ?_
  simp (disch := first | assumption | omega | (simp only [List.length_append, List.length_cons, List.length_nil]; omega)) only [go_sem, ↓reduceIte]
  refine wp_loop_on (fun (i : Nat) a σ' => i ≤ M.length ∧ (∃ n : Nat, n ≤ 999999999999999999 ∧ accP 0 M = accP n (M.drop i) ∧ a 9 = .int .u64 n) ∧ (a 5 = .bool minus ∧ a 44 = .sl .shr (bytesAV M) ∧ a 45 = .int .i64 M.length ∧ a 46 = .int .i64 i) ∧ σ' = σ) (fun i => M.length - i) 0 ⟨Nat.zero_le _, ⟨0, by omega, rfl, ?_⟩, ?_, rfl⟩ ?_
  ·simp (disch := first | assumption | omega | (simp only [List.length_append, List.length_cons, List.length_nil]; omega)) only [go_sem, Nat.reduceEqDiff, ↓reduceIte]
  ·simp (disch := first | assumption | omega | (simp only [List.length_append, List.length_cons, List.length_nil]; omega)) only [go_sem, Nat.reduceEqDiff, ↓reduceIte, hf]
  rintro i a σ1 ⟨hi, ⟨n, hn, hac, hf9⟩, hf, rfl⟩
  rw [hac] at hacc
  by_cases hlt : i < M.length
  ·have hidx : M[i]? = some (M[i]'hlt) := List.getElem?_eq_getElem hlt
   rw [List.drop_eq_getElem_cons hlt] at hac hacc
   obtain ⟨c, hc⟩ : ∃ c, M[i]'hlt = c := ⟨_, rfl⟩
   rw [hc] at hidx hac hacc
   have hlt' : (i : Int) < M.length := by omega
   have hcb : c.toNat < 256 := c.toNat_lt
   rw [accP] at hac hacc
   by_cases h1 : c.toNat < 48
   ·have h1' : (c.toNat : Int) < 48 := by omega
    rw [if_pos (by omega)] at hacc
    subst hacc
    simp (disch := first | assumption | omega | (simp only [List.length_append, List.length_cons, List.length_nil]; omega)) only [go_sem, Nat.reduceEqDiff, ↓reduceIte, hf, hlt', hidx, h1']
    exact retC_by (by repeat' (first | exact Drop.refl _ | with_reducible refine Drop.off ?_ (by assumption))) (.refl _) ⟨rfl, rfl⟩
   have h1' : ¬ (c.toNat : Int) < 48 := by omega
   by_cases h2 : 57 < c.toNat
   ·have h2' : (57 : Int) < c.toNat := by omega
    rw [if_pos (by omega)] at hacc
    subst hacc
    simp (disch := first | assumption | omega | (simp only [List.length_append, List.length_cons, List.length_nil]; omega)) only [go_sem, Nat.reduceEqDiff, ↓reduceIte, hf, hlt', hidx, h1', h2']
    exact retC_by (by repeat' (first | exact Drop.refl _ | with_reducible refine Drop.off ?_ (by assumption))) (.refl _) ⟨rfl, rfl⟩
   have h2' : ¬ (57 : Int) < c.toNat := by omega
   by_cases h3 : 99999999999999999 < n
   ·have h3' : (99999999999999999 : Int) < n := by omega
    rw [if_pos (by omega)] at hacc
    subst hacc
    simp (disch := first | assumption | omega | (simp only [List.length_append, List.length_cons, List.length_nil]; omega)) only [go_sem, Nat.reduceEqDiff, ↓reduceIte, hf, hf9, hlt', hidx, h1', h2', h3']
    exact retC_by (by repeat' (first | exact Drop.refl _ | with_reducible refine Drop.off ?_ (by assumption))) (.refl _) ⟨rfl, rfl⟩
   have h3' : ¬ (99999999999999999 : Int) < n := by omega
   rw [if_neg (by omega)] at hac hacc
   obtain ⟨n2, hn2⟩ : ∃ n2 : Nat, 10 * n + (c.toNat - 48) = n2 := ⟨_, rfl⟩
   rw [hn2] at hac hacc
   have e2 : 10 * (n : Int) + ((c.toNat : Int) - 48) = n2 := by omega
   simp (disch := first | assumption | omega | (simp only [List.length_append, List.length_cons, List.length_nil]; omega)) only [go_sem, Nat.reduceEqDiff, ↓reduceIte, hf, hf9, hlt', hidx, h1', h2', h3', e2]
   exact ⟨i + 1, by omega, by omega, ⟨n2, by omega, hac, rfl⟩, rfl⟩
  ·have hlt' : ¬ (i : Int) < M.length := by omega
   rw [List.drop_eq_nil_of_le (by omega), accP, Option.bind_some] at hacc
   subst hacc
   have hMd := made_ok minus n (by omega)
   simp (disch := first | assumption | omega | (simp only [List.length_append, List.length_cons, List.length_nil]; omega)) only [go_sem, Nat.reduceEqDiff, ↓reduceIte, hf, hf9, hlt']
   refine hMd.use ?_
   simp only [resAV]
   simp (disch := first | assumption | omega | (simp only [List.length_append, List.length_cons, List.length_nil]; omega)) only [go_sem, Nat.reduceEqDiff, ↓reduceIte]
   exact retC_by (by repeat' (first | exact Drop.refl _ | with_reducible refine Drop.off ?_ (by assumption))) (.refl _) ⟨rfl, rfl⟩
 refine a21 (by simp) ?_
 simp (disch := first | assumption | omega | (simp only [List.length_append, List.length_cons, List.length_nil]; omega)) only [go_sem, reduceCtorEq, ↓reduceIte]
 refine hP.use ?_
 simp (disch := first | assumption | omega | (simp only [List.length_append, List.length_cons, List.length_nil]; omega)) only [go_sem, Nat.reduceEqDiff, ↓reduceIte]
 refine hC.use ?_
 by_cases hw : whole = []
 ·subst hw
  rw [if_pos (.inl rfl)] at hR
  subst hR
  simp (disch := first | assumption | omega | (simp only [List.length_append, List.length_cons, List.length_nil]; omega)) only [go_sem, Nat.reduceEqDiff, ↓reduceIte, ←hF]
  exact retC_by (by repeat' (first | exact Drop.refl _ | with_reducible refine Drop.off ?_ (by assumption))) (.refl _) ⟨rfl, rfl⟩
 cases dot with
 | false =>
   have hp := hnf rfl
   subst hp
   rw [if_neg (by rintro (h | ⟨h, _⟩) <;> contradiction)] at hR
   simp (disch := first | assumption | omega | (simp only [List.length_append, List.length_cons, List.length_nil]; omega)) only [go_sem, Nat.reduceEqDiff, ↓reduceIte, hw, ←hF]
   refine fin _ (by simp) hR ?_
   simp (disch := first | assumption | omega | (simp only [List.length_append, List.length_cons, List.length_nil]; omega)) only [go_sem, Nat.reduceEqDiff, ↓reduceIte]
 | true =>
   by_cases hp : part = []
   ·subst hp
    rw [if_pos (.inr ⟨rfl, .inl rfl⟩)] at hR
    subst hR
    simp (disch := first | assumption | omega | (simp only [List.length_append, List.length_cons, List.length_nil]; omega)) only [go_sem, Nat.reduceEqDiff, ↓reduceIte, hw, ←hF]
    exact retC_by (by repeat' (first | exact Drop.refl _ | with_reducible refine Drop.off ?_ (by assumption))) (.refl _) ⟨rfl, rfl⟩
   by_cases h4 : 4 < part.length
   ·have h4' : (4 : Int) < part.length := by omega
    rw [if_pos (.inr ⟨rfl, .inr h4⟩)] at hR
    subst hR
    simp (disch := first | assumption | omega | (simp only [List.length_append, List.length_cons, List.length_nil]; omega)) only [go_sem, Nat.reduceEqDiff, ↓reduceIte, hw, hp, h4', ←hF]
    exact retC_by (by repeat' (first | exact Drop.refl _ | with_reducible refine Drop.off ?_ (by assumption))) (.refl _) ⟨rfl, rfl⟩
   ·have h4' : ¬ (4 : Int) < part.length := by omega
    rw [if_neg (by rintro (h | ⟨_, h | h⟩) <;> contradiction)] at hR
    simp (disch := first | assumption | omega | (simp only [List.length_append, List.length_cons, List.length_nil]; omega)) only [go_sem, Nat.reduceEqDiff, ↓reduceIte, hw, hp, h4', ←hF]
    refine fin _ (by omega) hR ?_
    simp (disch := first | assumption | omega | (simp only [List.length_append, List.length_cons, List.length_nil]; omega)) only [go_sem, Nat.reduceEqDiff, ↓reduceIte]
end Go.A
namespace Go.A
open Go.Proofs
/-! 5: tabular/tabulartop.live -/
def c5_17 : ACode := .seq (.ops [ oq 0 (.mv (.v (.bool false)))]) (.seq (.ops [ oe 8 (.call 6 [(.v (.int .i64 3))]), oq 1 (.mv (.t 8))]) (.seq (.seq (.ops [ oq 9 (.mv (.t 1)), oq 10 (.eq .p false (.t 9) (.v .nilp))]) (.cond (.t 10) (.seq (.ops [ oq 0 (.mv (.v (.bool false)))]) .ret) .skip)) (.seq (.ops [ oq 12 (.mv (.t 1)), oe 13 (.call 7 [(.t 12)]), oq 11 (.mv (.t 13)), oq 14 (.ext 0 (.t 11)), oq 15 (.ext 1 (.t 11)), oq 2 (.mv (.t 14)), oq 3 (.mv (.t 15))]) (.seq (.ops [ oe 17 (.call 25 [(.v (.str [97, 98]))]), oe 18 (.call 24 [(.t 17)]), oq 16 (.mv (.t 18)), oq 19 (.ext 0 (.t 16)), oq 20 (.ext 1 (.t 16)), oq 4 (.mv (.t 19)), oq 5 (.mv (.t 20))]) (.seq (.ops [ oe 22 (.call 21 [(.v (.str [45, 50, 46, 53]))]), oq 21 (.mv (.t 22)), oq 23 (.ext 0 (.t 21)), oq 24 (.ext 1 (.t 21)), oq 6 (.mv (.t 23)), oq 7 (.mv (.t 24))]) (.seq (.ops [ oq 25 (.mv (.t 3)), oq 26 (.bin .eql (.t 25) (.v (.int .i64 0))), oq 27 (.mv (.t 26)), ⟨some 28, some (27, true), .q (.mv (.t 2)), []⟩, ⟨some 29, some (27, true), .q (.bin .eql (.t 28) (.v (.int .i64 1))), []⟩, oq 30 (.pick (.t 27) (.t 29) (.v (.bool false))), oq 31 (.mv (.t 30)), ⟨some 32, some (31, true), .q (.mv (.t 5)), []⟩, oq 33 (.pick (.t 31) (.t 32) (.v (.bool false))), oq 34 (.mv (.t 33)), ⟨some 35, some (34, true), .q (.mv (.t 4)), []⟩, ⟨some 36, some (34, true), .q (.bin .eql (.t 35) (.v (.str [97, 98]))), []⟩, oq 37 (.pick (.t 34) (.t 36) (.v (.bool false))), oq 38 (.mv (.t 37)), ⟨some 39, some (38, true), .q (.mv (.t 7)), []⟩, oq 40 (.pick (.t 38) (.t 39) (.v (.bool false))), oq 41 (.mv (.t 40)), ⟨some 42, some (41, true), .q (.mv (.t 6)), []⟩, ⟨some 43, some (41, true), .q (.bin .eql (.t 42) (.v (.int .i64 (-25000)))), []⟩, oq 44 (.pick (.t 41) (.t 43) (.v (.bool false))), oq 0 (.mv (.t 44))]) .ret))))))
@[go_sem] def c5_17_wp := wp_of c5_17.eq_1
def c5 : AFn := ⟨45, [.t 0], c5_17⟩
theorem c5_ok : compF Tryd.prog Tryd.f5 = some c5 := by kernel_rfl
theorem a5 {args : List AV} {σ : ASt} {R : AV → ASt → Prop} (hl : args.length ≤ 45) (h : c5_17.wp Tryd.prog (RetQ [.t 0] R) (init args) σ) : ACalls Tryd.prog 5 args σ R := acalls_of Tryd.func5 c5_ok hl h
end Go.A
namespace Go.A
open Go.Proofs Go.Lib
theorem live_ok {σ : ASt} (hT : CkT σ) : ACalls Tryd.prog 5 [] σ fun v σ' => v = .bool true ∧ σ' = σ := by
 have hN := dknew_ok hT 3
 have e3 : min (max (3 : Int) 2) 60000 = 3 := by decide
 rw [e3] at hN
 have hP := dparse_ok [45, 50, 46, 53] (by decide)
 have hPd : parseD [45, 50, 46, 53] = some (-25000) := by decide +kernel
 rw [hPd] at hP
 have hS := fun τ (h : CkT τ) => ckseal_ok h [97, 98] (by decide)
 have hO := fun τ (h : CkT τ) => ckopen_ok h ([97, 98] ++ le32 (ckN [97, 98])) (by rw [List.length_append, le32_len]; decide)
 rw [openP_seal] at hO
 have hra : resAV (some (-25000)) = .tuple [.int .i64 (-25000), .bool true] := rfl
 rw [hra] at hP
 refine a5 (by simp) ?_
 simp (disch := first | assumption | omega) only [go_sem]
 refine hN.mono ?_
 rintro v σ1 ⟨d, rfl, B, cB, rB, fv, F, I, cI, rI, hD⟩
 have hK := dktake_new (hD.at hT) hD hT (newP_ok (by decide)) rfl (by decide : (1 : Int) < 3) rfl (by decide : (1 : Int) < 1000000000)
 simp (disch := first | assumption | omega) only [go_sem, Nat.reduceEqDiff, ↓reduceIte]
 refine hK.mono ?_
 rintro v σ2 ⟨rfl, h2⟩
 have hi : (((newP 3).isF.length : Nat) : Int) = 1 := rfl
 have hC2 : CkT σ2 := h2.at hT
 simp (disch := first | assumption | omega) only [go_sem, Nat.reduceEqDiff, ↓reduceIte, hi]
 refine (hS _ hC2).mono ?_
 rintro v σ3 ⟨rfl, rfl⟩
 generalize [97, 98] ++ le32 (ckN [97, 98]) = sx at *
 simp (disch := first | assumption | omega) only [go_sem, ↓reduceIte]
 refine (hO _ hC2).mono ?_
 rintro v σ4 ⟨rfl, rfl⟩
 simp (disch := first | assumption | omega) only [go_sem, Nat.reduceEqDiff, ↓reduceIte]
 refine hP.use ?_
 simp (disch := first | assumption | omega) only [go_sem, Nat.reduceEqDiff, ↓reduceIte, Int.reduceNeg]
 exact retC_by h2.drop (.refl _) ⟨rfl, rfl⟩
end Go.A
namespace Go.A
open Go.Proofs
/-! 3: tabular/tabulartop.TabularSpoilt -/
def c3_24 : ACode := .seq (.seq (.ops [ oq 24 (.mv (.t 9)), oq 25 (.mv (.t 0)), oq 26 (.len (.t 25)), oq 27 (.bin .lss (.t 24) (.t 26)), oq 28 (.mv (.t 27)), ⟨some 29, some (28, true), .q (.mv (.t 9)), []⟩, ⟨some 30, some (28, true), .q (.bin .lss (.t 29) (.v (.int .i64 5))), []⟩, oq 31 (.pick (.t 28) (.t 30) (.v (.bool false)))]) (.cond (.t 31) .skip (.exit 0))) (.seq (.block 1 (.seq (.ops [ oq 35 (.mv (.t 7)), oe 36 (.call 7 [(.t 35)]), oq 34 (.mv (.t 36)), oq 37 (.ext 0 (.t 34)), oq 38 (.ext 1 (.t 34)), oq 10 (.mv (.t 37)), oq 11 (.mv (.t 38))]) (.seq (.seq (.ops [ oq 39 (.mv (.t 11)), oq 40 (.bin .neq (.t 39) (.v (.int .i64 0))), oq 41 (.mv (.t 40)), ⟨some 42, some (41, false), .q (.mv (.t 7)), []⟩, ⟨some 43, some (41, false), .q (.mv (.t 10)), []⟩, ⟨some 44, some (41, false), .q (.mv (.t 0)), []⟩, ⟨some 45, some (41, false), .q (.mv (.t 9)), []⟩, ⟨some 46, some (41, false), .q (.ia 1 (.t 44) (.t 45)), []⟩, ⟨some 47, some (41, false), .q (.ld none (.t 46)), []⟩, ⟨some 48, some (41, false), .e (.call 9 [(.t 47)]), []⟩, ⟨some 49, some (41, false), .e (.call 8 [(.t 42), (.t 43), (.t 48)]), []⟩, ⟨some 50, some (41, false), .q (.bin .neq (.t 49) (.v (.int .i64 0))), []⟩, oq 51 (.pick (.t 41) (.v (.bool true)) (.t 50))]) (.cond (.t 51) (.seq (.ops [ oq 6 (.mv (.v (.bool false)))]) .ret) .skip)) (.ops [ oq 52 (.mv (.t 8)), oq 53 (.bin .add (.t 52) (.v (.int .i64 1))), oq 8 (.mv (.t 53))])))) (.ops [ oq 32 (.mv (.t 9)), oq 33 (.bin .add (.t 32) (.v (.int .i64 1))), oq 9 (.mv (.t 33))]))
def c3_55 : ACode := .seq (.seq (.ops [ oq 68 (.mv (.t 14)), oq 69 (.bin .lss (.t 68) (.v (.int .i64 4)))]) (.cond (.t 69) .skip (.exit 2))) (.seq (.block 3 (.seq (.ops [ oq 72 (.mv (.t 1)), oq 73 (.mv (.t 14)), oq 74 (.bin .add (.t 72) (.t 73)), oq 15 (.mv (.t 74))]) (.seq (.ops [ oq 75 (.mv (.t 15)), oq 76 (.mv (.t 12)), oq 77 (.len (.t 76)), oq 78 (.bin .lss (.t 75) (.t 77)), oq 79 (.mv (.t 78)), ⟨some 80, some (79, true), .q (.mv (.t 15)), []⟩, ⟨some 81, some (79, true), .q (.bin .quo (.t 80) (.v (.int .i64 512))), []⟩, ⟨some 82, some (79, true), .q (.mv (.t 1)), []⟩, ⟨some 83, some (79, true), .q (.bin .quo (.t 82) (.v (.int .i64 512))), []⟩, ⟨some 84, some (79, true), .q (.bin .eql (.t 81) (.t 83)), []⟩, oq 85 (.pick (.t 79) (.t 84) (.v (.bool false))), oq 86 (.mv (.t 85)), ⟨some 87, some (86, true), .q (.mv (.t 15)), []⟩, ⟨some 88, some (86, true), .q (.bin .rem (.t 87) (.v (.int .i64 512))), []⟩, ⟨some 89, some (86, true), .q (.bin .lss (.t 88) (.v (.int .i64 4))), []⟩, ⟨some 90, some (86, true), .q (.mv (.t 1)), []⟩, ⟨some 91, some (86, true), .q (.bin .rem (.t 90) (.v (.int .i64 512))), []⟩, ⟨some 92, some (86, true), .q (.bin .lss (.t 91) (.v (.int .i64 4))), []⟩, ⟨some 93, some (86, true), .q (.eq .b false (.t 89) (.t 92)), []⟩, oq 94 (.pick (.t 86) (.t 93) (.v (.bool false)))]) (.cond (.t 94) (.seq (.ops [ oq 95 (.mv (.t 12)), oq 96 (.mv (.t 15)), oq 97 (.ia 1 (.t 95) (.t 96)), oq 98 (.ld none (.t 97)), oq 99 (.mv (.t 2)), oq 100 (.mv (.t 14)), oq 101 (.bin .mul (.v (.int .i64 8)) (.t 100)), oq 102 (.bin .shr (.t 99) (.t 101)), oq 103 (.conv .u8 (.t 102)), oq 104 (.bin .xor (.t 98) (.t 103)), oq 105 (.ia 1 (.t 95) (.t 96)), oz (.store 1 (.t 105) (.t 104))]) (.ops [ oq 106 (.mv (.t 13)), oq 107 (.mv (.t 106)), ⟨some 108, some (107, false), .q (.mv (.t 2)), []⟩, ⟨some 109, some (107, false), .q (.mv (.t 14)), []⟩, ⟨some 110, some (107, false), .q (.bin .mul (.v (.int .i64 8)) (.t 109)), []⟩, ⟨some 111, some (107, false), .q (.bin .shr (.t 108) (.t 110)), []⟩, ⟨some 112, some (107, false), .q (.conv .u8 (.t 111)), []⟩, ⟨some 113, some (107, false), .q (.bin .neq (.t 112) (.v (.int .u8 0))), []⟩, oq 114 (.pick (.t 107) (.v (.bool true)) (.t 113)), oq 13 (.mv (.t 114))])) .skip)))) (.ops [ oq 70 (.mv (.t 14)), oq 71 (.bin .add (.t 70) (.v (.int .i64 1))), oq 14 (.mv (.t 71))]))
def c3_92 : ACode := .seq (.seq (.ops [ oq 130 (.mv (.t 18)), oq 131 (.mv (.t 8)), oq 132 (.bin .leq (.t 130) (.t 131))]) (.cond (.t 132) .skip (.exit 4))) (.seq (.block 5 (.seq (.ops [ oq 136 (.mv (.t 16)), oq 137 (.mv (.t 18)), oe 138 (.call 13 [(.t 136), (.t 137)]), oq 135 (.mv (.t 138)), oq 139 (.ext 0 (.t 135)), oq 140 (.ext 1 (.t 135)), oq 19 (.mv (.t 139)), oq 20 (.mv (.t 140))]) (.seq (.ops [ oq 141 (.mv (.t 13)), oq 142 (.mv (.t 141)), ⟨some 143, some (142, true), .q (.mv (.t 18)), []⟩, ⟨some 144, some (142, true), .q (.mv (.t 1)), []⟩, ⟨some 145, some (142, true), .q (.bin .quo (.t 144) (.v (.int .i64 512))), []⟩, ⟨some 146, some (142, true), .q (.bin .eql (.t 143) (.t 145)), []⟩, oq 147 (.pick (.t 142) (.t 146) (.v (.bool false)))]) (.cond (.t 147) (.seq (.ops [ oq 148 (.mv (.t 20)), oq 149 (.bin .neq (.t 148) (.v (.int .i64 8))), oq 150 (.mv (.t 149)), ⟨some 151, some (150, false), .q (.mv (.t 19)), []⟩, ⟨some 152, some (150, false), .q (.bin .neq (.t 151) (.v (.str []))), []⟩, oq 153 (.pick (.t 150) (.v (.bool true)) (.t 152))]) (.cond (.t 153) (.seq (.ops [ oq 6 (.mv (.v (.bool false)))]) .ret) .skip)) (.seq (.ops [ oq 154 (.mv (.t 20)), oq 155 (.bin .neq (.t 154) (.v (.int .i64 0))), oq 156 (.mv (.t 155)), ⟨some 157, some (156, false), .q (.mv (.t 19)), []⟩, ⟨some 158, some (156, false), .q (.mv (.t 0)), []⟩, ⟨some 159, some (156, false), .q (.mv (.t 18)), []⟩, ⟨some 160, some (156, false), .q (.bin .sub (.t 159) (.v (.int .i64 1))), []⟩, ⟨some 161, some (156, false), .q (.ia 1 (.t 158) (.t 160)), []⟩, ⟨some 162, some (156, false), .q (.ld none (.t 161)), []⟩, ⟨some 163, some (156, false), .e (.call 14 [(.t 162), (.v (.int .i64 600))]), []⟩, ⟨some 164, some (156, false), .e (.call 9 [(.t 163)]), []⟩, ⟨some 165, some (156, false), .q (.bin .neq (.t 157) (.t 164)), []⟩, oq 166 (.pick (.t 156) (.v (.bool true)) (.t 165))]) (.cond (.t 166) (.seq (.ops [ oq 6 (.mv (.v (.bool false)))]) .ret) .skip)))))) (.ops [ oq 133 (.mv (.t 18)), oq 134 (.bin .add (.t 133) (.v (.int .i64 1))), oq 18 (.mv (.t 134))]))
def c3_98 : ACode := .seq (.seq (.ops [ oq 18 (.mv (.v (.int .i64 1)))]) (.block 4 (.loop c3_92))) (.seq (.ops [ oq 6 (.mv (.v (.bool true)))]) .ret)
def c3_101 : ACode := .seq (.ops [ oq 116 (.mv (.t 12)), oq 117 (.b2s (.t 116)), oe 118 (.call 12 [(.t 117), (.v (.int .i64 8))]), oq 115 (.mv (.t 118)), oq 119 (.ext 0 (.t 115)), oq 120 (.ext 1 (.t 115)), oq 16 (.mv (.t 119)), oq 17 (.mv (.t 120))]) (.seq (.seq (.ops [ oq 121 (.mv (.t 13)), oq 122 (.mv (.t 121)), ⟨some 123, some (122, true), .q (.mv (.t 1)), []⟩, ⟨some 124, some (122, true), .q (.bin .lss (.t 123) (.v (.int .i64 512))), []⟩, oq 125 (.pick (.t 122) (.t 124) (.v (.bool false)))]) (.cond (.t 125) (.seq (.ops [ oq 126 (.mv (.t 17)), oq 127 (.bin .eql (.t 126) (.v (.int .i64 8))), oq 6 (.mv (.t 127))]) .ret) .skip)) (.seq (.seq (.ops [ oq 128 (.mv (.t 17)), oq 129 (.bin .neq (.t 128) (.v (.int .i64 0)))]) (.cond (.t 129) (.seq (.ops [ oq 6 (.mv (.v (.bool false)))]) .ret) .skip)) c3_98))
def c3_103 : ACode := .seq (.ops [ oq 13 (.mv (.v (.bool false)))]) (.seq (.seq (.ops [ oq 14 (.mv (.v (.int .i64 0)))]) (.block 2 (.loop c3_55))) c3_101)
def c3_106 : ACode := .seq (.seq (.ops [ oq 54 (.mv (.t 7)), oe 55 (.call 10 [(.t 54)]), oq 56 (.bin .neq (.t 55) (.v (.int .i64 0)))]) (.cond (.t 56) (.seq (.ops [ oq 6 (.mv (.v (.bool false)))]) .ret) .skip)) (.seq (.ops [ oq 57 (.mv (.t 7)), oe 58 (.call 11 [(.t 57)]), oe 59 (.s2b (.t 58)), oq 12 (.mv (.t 59))]) (.seq (.seq (.ops [ oq 60 (.mv (.t 1)), oq 61 (.bin .lss (.t 60) (.v (.int .i64 0))), oq 62 (.mv (.t 61)), ⟨some 63, some (62, false), .q (.mv (.t 1)), []⟩, ⟨some 64, some (62, false), .q (.mv (.t 12)), []⟩, ⟨some 65, some (62, false), .q (.len (.t 64)), []⟩, ⟨some 66, some (62, false), .q (.bin .geq (.t 63) (.t 65)), []⟩, oq 67 (.pick (.t 62) (.v (.bool true)) (.t 66))]) (.cond (.t 67) (.seq (.ops [ oq 6 (.mv (.v (.bool true)))]) .ret) .skip)) c3_103))
def c3_111 : ACode := .seq (.ops [ oq 6 (.mv (.v (.bool false)))]) (.seq (.seq (.ops [ oe 21 (.call 5 []), oq 22 (.un .not (.t 21))]) (.cond (.t 22) (.seq (.ops [ oq 6 (.mv (.v (.bool false)))]) .ret) .skip)) (.seq (.ops [ oe 23 (.call 6 [(.v (.int .i64 8))]), oq 7 (.mv (.t 23))]) (.seq (.ops [ oq 8 (.mv (.v (.int .i64 0)))]) (.seq (.seq (.ops [ oq 9 (.mv (.v (.int .i64 0)))]) (.block 0 (.loop c3_24))) c3_106))))
@[go_sem] def c3_24_wp := wp_of c3_24.eq_1
@[go_sem] def c3_55_wp := wp_of c3_55.eq_1
@[go_sem] def c3_92_wp := wp_of c3_92.eq_1
@[go_sem] def c3_98_wp := wp_of c3_98.eq_1
@[go_sem] def c3_101_wp := wp_of c3_101.eq_1
@[go_sem] def c3_103_wp := wp_of c3_103.eq_1
@[go_sem] def c3_106_wp := wp_of c3_106.eq_1
@[go_sem] def c3_111_wp := wp_of c3_111.eq_1
def c3 : AFn := ⟨167, [.t 6], c3_111⟩
theorem c3_ok : compF Tryd.prog Tryd.f3 = some c3 := by kernel_rfl
theorem a3 {args : List AV} {σ : ASt} {R : AV → ASt → Prop} (hl : args.length ≤ 167) (h : c3_111.wp Tryd.prog (RetQ [.t 6] R) (init args) σ) : ACalls Tryd.prog 3 args σ R := acalls_of Tryd.func3 c3_ok hl h
end Go.A
namespace Go.A
open Go.Proofs Go.Lib
@[go_sem high] theorem binI_xor8 {x y : UInt8} : binI .xor .u8 (x.toNat : Int) (y.toNat : Int) = some (.int .u8 ((x ^^^ y).toNat : Int)) := by
 rw [binI_xor]
 congr 2
 have hx := u8_lt' x
 have hy := u8_lt' y
 have e : (BitVec.ofInt (IntKind.bits .u8) (x.toNat : Int) ^^^ BitVec.ofInt (IntKind.bits .u8) (y.toNat : Int)).toNat = (x ^^^ y).toNat := by
  show (BitVec.ofInt 8 (x.toNat : Int) ^^^ BitVec.ofInt 8 (y.toNat : Int)).toNat = (x ^^^ y).toNat
  rw [BitVec.toNat_xor, BitVec.ofInt_natCast, BitVec.ofInt_natCast, BitVec.toNat_ofNat, BitVec.toNat_ofNat, Nat.mod_eq_of_lt hx, Nat.mod_eq_of_lt hy, UInt8.toNat_xor]
 rw [e, IntKind.wrap_u8]
 have := u8_lt' (x ^^^ y)
 omega
theorem spoil_step {b : List UInt8} {a turn j : Nat} {y : UInt8} (ht : turns a (a + j) = true) (hl : a + j < b.length) (hy : (spoilP b a turn j)[a + j]? = some y) : (spoilP b a turn (j + 1)) = (spoilP b a turn j).set (a + j) (y ^^^ maskB turn j) := by
 show (if _ then _ else _ : List UInt8) = _
 rw [if_pos (by rw [ht, decide_eq_true hl]; rfl), List.getD_eq_getElem?_getD, hy]
 rfl
theorem spoil_stay {b : List UInt8} {a turn j : Nat} (h : ¬ (turns a (a + j) = true ∧ a + j < b.length)) : spoilP b a turn (j + 1) = spoilP b a turn j ∧ otherP b a turn (j + 1) = otherP b a turn j := by
 have hc : ¬ (turns a (a + j) && decide (a + j < b.length)) = true := by
  rw [Bool.and_eq_true, decide_eq_true_eq]
  exact h
 exact ⟨if_neg hc, if_neg hc⟩
theorem other_step {b : List UInt8} {a turn j : Nat} (ht : turns a (a + j) = true) (hl : a + j < b.length) : otherP b a turn (j + 1) = (otherP b a turn j || decide (maskB turn j ≠ 0)) := if_pos (by rw [ht, decide_eq_true hl]; rfl)
theorem headD_le (N : Nat) {L : List (List UInt8)} : ∀ s ∈ headL (N + 1) 4294967295 :: L.map fullP, s.length ≤ 504 := fun s hs => by
 rcases List.mem_cons.1 hs with rfl | hs
 ·rw [headL_len]; decide
 ·obtain ⟨t, _, rfl⟩ := List.mem_map.1 hs
  rw [fullP_len]; decide
def spoilB (L : List (List UInt8)) : List UInt8 := imgF 0 (headL (L.length + 1) 4294967295 :: L.map fullP)
theorem spoilB_len (L : List (List UInt8)) : (spoilB L).length = (L.length + 1) * 512 := by
 unfold spoilB
 rw [imgF_len (headD_le _), List.length_cons, List.length_map]
theorem spoil_look {L : List (List UInt8)} (hn : L.length ≤ 5) {a turn i : Nat} (ha : a < (spoilB L).length) {t : List UInt8} (ht : L[i]? = some t) :
  lookP (spoilP (spoilB L) a turn 4) (i + 1) = if otherP (spoilB L) a turn 4 = true ∧ i + 1 = a / 512 then none else some (fullP t) := by
 have h := spoilt_law (hd := headL (L.length + 1) 4294967295) (L := L.map fullP) (by rw [headL_len]; decide) (fun s hs => by obtain ⟨t, _, rfl⟩ := List.mem_map.1 hs; exact fullP_len t) (by rw [List.length_map]; omega) ha (turn := turn) (p := i + 1) (s := fullP t) (by rw [List.getElem?_cons_succ, List.getElem?_map, ht]; rfl)
 rw [padB_full (fullP_len t)] at h
 exact h
theorem spoil_look0 {L : List (List UInt8)} (hn : L.length ≤ 5) {a turn : Nat} (ha : a < (spoilB L).length) :
  lookP (spoilP (spoilB L) a turn 4) 0 = if otherP (spoilB L) a turn 4 = true ∧ 0 = a / 512 then none else some (magicB ++ (le32 (L.length + 1) ++ (le32 4294967295 ++ List.replicate 488 0))) := by
 have h := spoilt_law (hd := headL (L.length + 1) 4294967295) (L := L.map fullP) (by rw [headL_len]; decide) (fun s hs => by obtain ⟨t, _, rfl⟩ := List.mem_map.1 hs; exact fullP_len t) (by rw [List.length_map]; omega) ha (turn := turn) (p := 0) (s := headL (L.length + 1) 4294967295) rfl
 rw [head_pad] at h
 exact h
def rdD (s : List UInt8) (n : Nat) (r : Int) : Dsk := ⟨s, 8, [], List.replicate n false, -1, -1, r, 0⟩
theorem tdiv512 (a : Nat) : (a : Int).tdiv 512 = ((a / 512 : Nat) : Int) := by rw [Int.tdiv_eq_ediv_of_nonneg (by omega)]; omega
theorem tmod512 (a : Nat) : (a : Int).tmod 512 = ((a % 512 : Nat) : Int) := by rw [Int.tmod_eq_emod_of_nonneg (by omega)]; omega
set_option maxHeartbeats 1000000 in
theorem spoilt3 {σ σ3 σ4 : ASt} {x B cB I cI : Nat} {rB rI : List AV} {fv : AV} {L R : List (List UInt8)} (hn : L.length ≤ 5) {a turn : Nat} (ha : a < (spoilB L).length) {s : List UInt8} (hs : spoilP (spoilB L) a turn 4 = s) {ch : Bool} (hch : otherP (spoilB L) a turn 4 = ch)
  (hR : RM σ3 x (rdD s (L.length + 1) 0) σ4 B cB rB fv I cI rI) (hT : CkT σ3) (hD : Drop σ3 σ) (a1 : AFr)
  (hf : a1 0 = .sl .shr ((L ++ R).map AV.str) ∧ a1 1 = .int .i64 a ∧ a1 8 = .int .i64 L.length ∧ a1 13 = .bool ch ∧ a1 16 = .ptr x 0) :
  ACode.wp Tryd.prog c3_98 (RetQ [.t 6] fun v σ' => v = .bool true ∧ σ' = σ) a1 σ4 := by
 have hlk := fun (i : Nat) (t : List UInt8) (h : L[i]? = some t) => spoil_look hn ha (turn := turn) h
 rw [hs, hch] at hlk
 have hsl : s.length = (L.length + 1) * 512 := by rw [← hs, spoil_len, spoilB_len]
 have hdn : 2 ≠ x := by
  rintro he
  have := hR.z1
  unfold CkT at hT
  rw [← he, hT] at this
  cases this
 have hq := tdiv512 a
 have hqb : a / 512 ≤ 5 := by have := spoilB_len L; omega
 generalize a / 512 = q at *
 have hget : ∀ i t, L[i]? = some t → ((L ++ R).map AV.str)[i]? = some (AV.str t) := fun i t h => by
  have hi := (List.getElem?_eq_some_iff.1 h).1
  rw [List.getElem?_map, List.getElem?_append_left hi, h]
  rfl
 generalize (L ++ R).map AV.str = A at *
 simp (disch := first | assumption | omega) only [go_sem]
 refine wp_loop_on (fun (i : Nat) a2 s2 => i ≤ L.length ∧ (a2 0 = .sl .shr A ∧ a2 1 = .int .i64 a ∧ a2 8 = .int .i64 L.length ∧ a2 13 = .bool ch ∧ a2 16 = .ptr x 0 ∧ a2 18 = .int .i64 ((i : Int) + 1)) ∧ RM σ3 x (rdD s (L.length + 1) i) s2 B cB rB fv I cI rI) (fun i => L.length - i) 0 ⟨Nat.zero_le _, ?_, hR⟩ ?_
 ·simp (disch := first | assumption | omega) only [go_sem, reduceCtorEq, Nat.reduceEqDiff, ↓reduceIte, Int.reduceAdd, hf]
 clear hR hf
 rintro i a2 s2 ⟨hi, hf, hR⟩
 by_cases hlt : i < L.length
 ·have hx : L[i]? = some (L[i]'hlt) := List.getElem?_eq_getElem hlt
  have hlk := hlk i _ hx
  have hget := hget i _ hx
  generalize L[i]'hlt = t at *
  have hc6 : Pure Tryd.prog 14 [.str t, .int .i64 600] (.str (t.take 600)) := cut_ok t 600
  have hfu := full_ok (t.take 600)
  rw [fullP_take] at hfu
  have hpi : ((i + 1 : Nat) : Int) = (i : Int) + 1 := by omega
  have hrd : ACalls Tryd.prog 13 [.ptr x 0, .int .i64 ((i + 1 : Nat) : Int)] s2 fun v σ' => v = readAV (lookP s (i + 1)) ∧ σ' = s2.set x (some (.obj ((rdD s (L.length + 1) ((i : Int) + 1)).cs B cB fv I cI))) :=
   dkread_ok (hR.at hT) hdn hR.lm (n := L.length + 1) hsl (by omega) List.length_replicate rfl ⟨Int.natCast_nonneg _, (by show ((i : Nat) : Int) < 1000000000; omega)⟩ (p := i + 1) (by omega) (by omega) (by show (List.replicate (L.length + 1) false)[i + 1]? = some false; rw [List.getElem?_replicate, if_pos (by omega)])
  have hRn := hR.cells (D' := rdD s (L.length + 1) ((i : Int) + 1)) rfl rfl
  rw [hpi, hlk] at hrd
  generalize s2.set x (some (.obj ((rdD s (L.length + 1) ((i : Int) + 1)).cs B cB fv I cI))) = s4 at *
  have hle : (i : Int) + 1 ≤ L.length := by omega
  have hsub : (i : Int) + 1 - 1 = i := by omega
  have hfin : RM σ3 x (rdD s (L.length + 1) ((i + 1 : Nat) : Int)) s4 B cB rB fv I cI rI := by rw [hpi]; exact hRn
  by_cases hcq : ch = true ∧ i + 1 = q
  ·rw [if_pos hcq] at hrd
   obtain ⟨rfl, rfl⟩ := hcq
   unfold readAV at hrd
   rw [hpi] at hq
   simp (disch := first | assumption | omega) only [go_sem, Nat.reduceEqDiff, ↓reduceIte, hf, hle]
   refine hrd.mono ?_
   rintro v s3 ⟨rfl, rfl⟩
   simp (disch := first | assumption | omega) only [go_sem, reduceCtorEq, Nat.reduceEqDiff, ↓reduceIte, hf, hq, eq_self]
   exact ⟨i + 1, by omega, by omega, by rw [hpi], hfin⟩
  ·rw [if_neg hcq] at hrd
   unfold readAV at hrd
   simp (disch := first | assumption | omega) only [go_sem, Nat.reduceEqDiff, ↓reduceIte, hf, hle]
   refine hrd.mono ?_
   rintro v s3 ⟨rfl, rfl⟩
   cases ch with
   | false =>
     simp (disch := first | assumption | omega) only [go_sem, reduceCtorEq, Nat.reduceEqDiff, ↓reduceIte, hf, hsub, hget, Int.toNat_natCast]
     refine hc6.use ?_
     simp (disch := first | assumption | omega) only [go_sem, Nat.reduceEqDiff, ↓reduceIte]
     refine hfu.use ?_
     simp (disch := first | assumption | omega) only [go_sem, reduceCtorEq, Nat.reduceEqDiff, ↓reduceIte, hf, eq_self]
     exact ⟨i + 1, by omega, by omega, by rw [hpi], hfin⟩
   | true =>
     have hne : ¬ (i : Int) + 1 = (q : Int) := fun h => hcq ⟨rfl, by omega⟩
     simp (disch := first | assumption | omega) only [go_sem, reduceCtorEq, Nat.reduceEqDiff, ↓reduceIte, hf, hq, hne, hsub, hget, Int.toNat_natCast]
     refine hc6.use ?_
     simp (disch := first | assumption | omega) only [go_sem, Nat.reduceEqDiff, ↓reduceIte]
     refine hfu.use ?_
     simp (disch := first | assumption | omega) only [go_sem, reduceCtorEq, Nat.reduceEqDiff, ↓reduceIte, hf, eq_self]
     exact ⟨i + 1, by omega, by omega, by rw [hpi], hfin⟩
 ·have hle : ¬ (i : Int) + 1 ≤ L.length := by omega
  simp (disch := first | assumption | omega) only [go_sem, Nat.reduceEqDiff, ↓reduceIte, hf, hle]
  exact retC_by (hR.drop.trans hD) (.refl _) ⟨rfl, rfl⟩
set_option maxHeartbeats 1000000 in
theorem spoilt2 {σ σ2 : ASt} {B c : Nat} {L R : List (List UInt8)} (hn : L.length ≤ 5) {a turn : Nat} (ha : a < (spoilB L).length) (ht : turn < 4294967296) (hT : CkT σ2) (hD : Drop σ2 σ) (hB : σ2 B = none) (hc : (spoilB L).length ≤ c) (a0 : AFr)
  (hf : a0 0 = .sl .shr ((L ++ R).map AV.str) ∧ a0 1 = .int .i64 a ∧ a0 2 = .int .u32 turn ∧ a0 8 = .int .i64 L.length ∧ a0 12 = .msl B 0 (spoilB L).length c) :
  ACode.wp Tryd.prog c3_103 (RetQ [.t 6] fun v σ' => v = .bool true ∧ σ' = σ) a0 (σ2.set B (some (.obj (bytesAV (spoilB L))))) := by
 have hbl := spoilB_len L
 have hbits : IntKind.bits .u32 = 32 := rfl
 have h3 := fun (σ3 σ4 : ASt) (x B cB I cI : Nat) (rB rI : List AV) (fv : AV) (hR : RM σ3 x (rdD (spoilP (spoilB L) a turn 4) (L.length + 1) 0) σ4 B cB rB fv I cI rI) (hT : CkT σ3) (hD : Drop σ3 σ) (a1 : AFr) => spoilt3 (R := R) hn ha rfl rfl hR hT hD a1
 have hl0 := spoil_look0 hn ha (turn := turn)
 obtain ⟨F3, hF3⟩ : ∃ F, F = ACode.wp Tryd.prog c3_98 := ⟨_, rfl⟩
 rw [← hF3] at h3
 generalize (L ++ R).map AV.str = A at *
 generalize hb : spoilB L = b at *
 obtain ⟨F, hF⟩ : ∃ F, F = ACode.wp Tryd.prog c3_101 := ⟨_, rfl⟩
 simp (disch := first | assumption | omega) only [go_sem, ←hF]
 refine wp_loop_on (fun (j : Nat) a1 s2 => j ≤ 4 ∧ (a1 0 = .sl .shr A ∧ a1 1 = .int .i64 a ∧ a1 2 = .int .u32 turn ∧ a1 8 = .int .i64 L.length ∧ a1 12 = .msl B 0 b.length c ∧ a1 13 = .bool (otherP b a turn j) ∧ a1 14 = .int .i64 j) ∧ s2 = σ2.set B (some (.obj (bytesAV (spoilP b a turn j))))) (fun j => 4 - j) 0 ⟨Nat.zero_le _, ?_, rfl⟩ ?_
 ·simp (disch := first | assumption | omega) only [go_sem, reduceCtorEq, Nat.reduceEqDiff, ↓reduceIte, hf]
  rfl
 clear hf
 rintro j a1 s2 ⟨hj, hf, rfl⟩
 by_cases hlt : j < 4
 ·have hlt' : (j : Int) < 4 := by omega
  have e8 : (8 * (j : Int)).toNat = 8 * j := by omega
  have m8 : 8 * j ≤ 32 := by omega
  have p8 : 0 ≤ 8 * (j : Int) := by omega
  have q8 : (turn : Int) / 2 ^ (8 * j) = ((turn / 2 ^ (8 * j) : Nat) : Int) := by
   have : j = 0 ∨ j = 1 ∨ j = 2 ∨ j = 3 := by omega
   rcases this with rfl | rfl | rfl | rfl <;> simp
  have hw : IntKind.wrap .u8 ((turn / 2 ^ (8 * j) : Nat) : Int) = ((maskB turn j).toNat : Int) := w_ofNat _
  have haj : (a : Int) + j = ((a + j : Nat) : Int) := by omega
  have t1 := tdiv512 (a + j)
  have t2 := tdiv512 a
  have t3 := tmod512 (a + j)
  have t4 := tmod512 a
  have hti : turns a (a + j) = true ↔ (a + j) / 512 = a / 512 ∧ ((decide ((((a + j) % 512 : Nat) : Int) < 4) == decide (((a % 512 : Nat) : Int) < 4)) = true) := by
   rw [turns_iff, beq_iff_eq, decide_eq_decide]
   constructor
   ·rintro ⟨h1, h2⟩
    exact ⟨h1, by constructor <;> intro h <;> omega⟩
   ·rintro ⟨h1, h2⟩
    exact ⟨h1, by constructor <;> intro h <;> omega⟩
  have hqa : a / 512 ≤ 5 := by omega
  have hqb : (a + j) / 512 ≤ 6 := by omega
  have hra : a % 512 < 512 := by omega
  have hrb : (a + j) % 512 < 512 := by omega
  have hsl := spoil_len (b := b) (at' := a) (turn := turn) j
  have hst := fun y h1 h2 => spoil_step (b := b) (a := a) (turn := turn) (j := j) (y := y) h1 h2
  have hot := fun h1 h2 => other_step (b := b) (a := a) (turn := turn) (j := j) h1 h2
  have hsy := fun h => spoil_stay (b := b) (a := a) (turn := turn) (j := j) h
  clear hl0
  generalize (a + j) / 512 = q1 at *
  generalize a / 512 = q2 at *
  generalize (a + j) % 512 = r1 at *
  generalize a % 512 = r2 at *
  generalize hk : a + j = k at *
  by_cases c1 : k < b.length
  ·have c1' : (k : Int) < (b.length : Int) := by omega
   by_cases c2 : q1 = q2
   ·have c2' : (q1 : Int) = (q2 : Int) := by omega
    obtain ⟨x, hx⟩ : ∃ x, (decide ((r1 : Int) < 4) == decide ((r2 : Int) < 4)) = x := ⟨_, rfl⟩
    rw [hx] at hti
    cases x with
    | true =>
      have htt := hti.2 ⟨c2, rfl⟩
      obtain ⟨y, hy⟩ : ∃ y, (spoilP b a turn j)[k]? = some y := ⟨_, List.getElem?_eq_getElem (by omega)⟩
      have hst := hst y htt c1 hy
      have hot := hot htt c1
      have hx8 := fun z => bytes_set (l := spoilP b a turn j) (i := k) (c := z)
      have hsb := fun m => set_bytes (l := spoilP b a turn j) (i := k) (m := m) (by omega)
      have hle : k + 1 ≤ (spoilP b a turn j).length := by omega
      generalize spoilP b a turn j = M at *
      generalize otherP b a turn j = o at *
      generalize maskB turn j = mm at *
      have hgm : (M[k]?).map (fun c => AV.int .u8 c.toNat) = some (.int .u8 y.toNat) := by rw [hy]; rfl
      simp (disch := first | assumption | omega) only [go_sem, Nat.reduceEqDiff, ↓reduceIte, Nat.mul_one, Bool.true_and, hf, hlt', haj, c1', t1, t2, c2', t3, t4, hx, e8, q8, hw, hy, Int.toNat_natCast, Nat.mul_one, Nat.zero_add, hsb, hx8, hle, ASt.set_set]
      cases o with
      | true =>
        simp (disch := first | assumption | omega) only [go_sem, reduceCtorEq, Nat.reduceEqDiff, ↓reduceIte, hf]
        exact ⟨j + 1, by omega, by omega, ⟨by rw [hot]; rfl, rfl⟩, by rw [hst]⟩
      | false =>
        by_cases hm : mm = 0
        ·have hm' : (mm.toNat : Int) = 0 := by rw [hm]; rfl
         simp (disch := first | assumption | omega) only [go_sem, reduceCtorEq, Nat.reduceEqDiff, ↓reduceIte, hf, e8, q8, hw, hm']
         exact ⟨j + 1, by omega, by omega, ⟨by rw [hot, hm]; rfl, rfl⟩, by rw [hst]⟩
        ·have hm' : ¬ (mm.toNat : Int) = 0 := fun h => hm (UInt8.toNat_inj.1 (by show mm.toNat = 0; omega))
         simp (disch := first | assumption | omega) only [go_sem, reduceCtorEq, Nat.reduceEqDiff, ↓reduceIte, hf, e8, q8, hw, hm']
         exact ⟨j + 1, by omega, by omega, ⟨by rw [hot, decide_eq_true hm]; rfl, rfl⟩, by rw [hst]⟩
    | false =>
      have htf : ¬ (turns a k = true ∧ k < b.length) := fun h => absurd (hti.1 h.1).2 (by decide)
      obtain ⟨s1, s2⟩ := hsy htf
      simp (disch := first | assumption | omega) only [go_sem, reduceCtorEq, Nat.reduceEqDiff, ↓reduceIte, hf, hlt', haj, c1', t1, t2, c2', t3, t4, hx]
      exact ⟨j + 1, by omega, by omega, ⟨by rw [s2], rfl⟩, by rw [s1]⟩
   ·have c2' : ¬ (q1 : Int) = (q2 : Int) := by omega
    have htf : ¬ (turns a k = true ∧ k < b.length) := fun h => c2 (hti.1 h.1).1
    obtain ⟨s1, s2⟩ := hsy htf
    simp (disch := first | assumption | omega) only [go_sem, reduceCtorEq, Nat.reduceEqDiff, ↓reduceIte, hf, hlt', haj, c1', t1, t2, c2']
    exact ⟨j + 1, by omega, by omega, ⟨by rw [s2], rfl⟩, by rw [s1]⟩
  ·have c1' : ¬ (k : Int) < (b.length : Int) := by omega
   obtain ⟨s1, s2⟩ := hsy fun h => c1 h.2
   simp (disch := first | assumption | omega) only [go_sem, reduceCtorEq, Nat.reduceEqDiff, ↓reduceIte, hf, hlt', haj, c1']
   exact ⟨j + 1, by omega, by omega, ⟨by rw [s2], rfl⟩, by rw [s1]⟩
 ·have hlt' : ¬ (j : Int) < 4 := by omega
  obtain rfl : j = 4 := by omega
  have hTs := CkT.set (r := some (.obj (bytesAV (spoilP b a turn 4)))) hT hB
  have hDs : Drop (σ2.set B (some (.obj (bytesAV (spoilP b a turn 4))))) σ := (Drop.set hB).trans hD
  have hsl := spoil_len (b := b) (at' := a) (turn := turn) 4
  have hO := dkopen_ok hTs (s := spoilP b a turn 4) (n := L.length + 1) (pages := 8) (m := 8) (by omega) (by rw [hsl, hbl]) (by decide) (by omega) (fun h hh => ⟨List.replicate 488 0, by
   rw [hl0] at hh
   split at hh
   ·cases hh
   ·exact (Option.some.inj hh).symm⟩)
  have hod : openD (spoilP b a turn 4) (L.length + 1) 8 = rdD (spoilP b a turn 4) (L.length + 1) 0 := rfl
  rw [hl0, hod] at hO
  have h3 := fun σ4 x B cB I cI rB rI fv hR a1 => h3 _ σ4 x B cB I cI rB rI fv hR hTs hDs a1
  have hbt : (bytesAV (spoilP b a turn 4)).take b.length = bytesAV (spoilP b a turn 4) := List.take_of_length_le (by rw [kbytes_len, hsl]; omega)
  have hble : b.length ≤ (spoilP b a turn 4).length := by omega
  have hsB : (σ2.set B (some (.obj (bytesAV (spoilP b a turn 4))))) B = some (.obj (bytesAV (spoilP b a turn 4))) := ASt.set_same _ _ _
  generalize otherP b a turn 4 = ch at *
  generalize spoilP b a turn 4 = s at *
  generalize σ2.set B (some (.obj (bytesAV s))) = σ3 at *
  simp (disch := first | assumption | omega) only [go_sem, Nat.reduceSub, Int.reduceLT, ↓reduceIte, hf]
  rw [hF]
  simp (disch := first | assumption | omega) only [go_sem, Nat.reduceEqDiff, ↓reduceIte, hf, hsB, hbt, hble, List.drop_zero, Nat.zero_add]
  refine hO.mono ?_
  by_cases hcq : ch = true ∧ 0 = a / 512
  ·rw [if_pos hcq]
   rintro v σ4 ⟨rfl, rfl⟩
   obtain ⟨rfl, hq⟩ := hcq
   have ha5 : (a : Int) < 512 := by omega
   simp (disch := first | assumption | omega) only [go_sem, Nat.reduceEqDiff, ↓reduceIte, hf, ha5]
   exact retC_by hDs (.refl _) ⟨rfl, rfl⟩
  ·rw [if_neg hcq]
   rintro v σ4 ⟨x, B2, cB, rB, fv, I, cI, rI, rfl, hR⟩
   have h3 := h3 σ4 x B2 cB I cI rB rI fv hR
   cases ch with
   | false =>
     simp (disch := first | assumption | omega) only [go_sem, Nat.reduceEqDiff, ↓reduceIte, hf, ←hF3]
     refine h3 _ ?_
     simp (disch := first | assumption | omega) only [go_sem, reduceCtorEq, Nat.reduceEqDiff, ↓reduceIte, hf]
   | true =>
     have ha5 : ¬ (a : Int) < 512 := fun h => hcq ⟨rfl, by omega⟩
     simp (disch := first | assumption | omega) only [go_sem, Nat.reduceEqDiff, ↓reduceIte, hf, ha5, ←hF3]
     refine h3 _ ?_
     simp (disch := first | assumption | omega) only [go_sem, reduceCtorEq, Nat.reduceEqDiff, ↓reduceIte, hf]
theorem dkwrite_at {σ0 σ : ASt} {d : Nat} {D : Dsk} (hD : DiskAt σ0 d D σ) (hck : CkT σ0) (ho : D.ok) (hwl : D.wl = -1) (hpt : D.pt < 1000000000) {p : Nat} (h1 : 1 ≤ p) (hp : p < D.isF.length) (hx : D.isF[p]? = some false) {s : List UInt8} (hs : s.length = 504) :
  ACalls Tryd.prog 8 [.ptr d 0, .int .i64 p, .str s] σ fun v σ' => v = .int .i64 0 ∧ DiskAt σ0 d (wroteP D p s) σ' := by
 have hD' := hD
 obtain ⟨B, cB, rB, fv, F', I, cI, rI, hDM⟩ := hD
 exact dkwrite_ok (hD'.at hck) hDM hck ho hwl hpt h1 hp hx hs
set_option maxHeartbeats 1000000 in
theorem TabularSpoilt_any {σ : ASt} (hT : CkT σ) (L : List (List UInt8)) (a turn : Int) (ht : 0 ≤ turn ∧ turn ≤ 4294967295) : ACalls Tryd.prog 3 [.sl .shr (L.map AV.str), .int .i64 a, .int .u32 turn] σ fun v σ' => v = .bool true ∧ σ' = σ := by
 have hlv := live_ok hT
 have hN := dknew_ok hT 8
 have e8 : min (max (8 : Int) 2) 60000 = 8 := by decide
 rw [e8, new_spD] at hN
 obtain ⟨h0, hh0⟩ : ∃ h0, h0 = headP (rawP 8) := ⟨_, rfl⟩
 have hh0l : h0.length ≤ 504 := by rw [hh0, headP_len]; decide
 rw [← hh0] at hN
 obtain ⟨F, hF⟩ : ∃ F, F = ACode.wp Tryd.prog c3_106 := ⟨_, rfl⟩
 refine a3 (by simp) ?_
 simp (disch := first | assumption | omega) only [go_sem]
 refine hlv.mono ?_
 rintro v σ' ⟨rfl, rfl⟩
 simp (disch := first | assumption | omega) only [go_sem, ↓reduceIte]
 refine hN.mono ?_
 rintro v σ1 ⟨d, rfl, hD1⟩
 simp (disch := first | assumption | omega) only [go_sem, ↓reduceIte, ←hF]
 refine wp_loop_on (fun (i : Nat) a1 s2 => i ≤ L.length ∧ i ≤ 5 ∧ (a1 0 = .sl .shr (L.map AV.str) ∧ a1 1 = .int .i64 a ∧ a1 2 = .int .u32 turn ∧ a1 7 = .ptr d 0 ∧ a1 8 = .int .i64 i ∧ a1 9 = .int .i64 i) ∧ DiskAt σ' d (spD 8 h0 ((L.take i).map fullP) (1 + 2 * (i : Int))) s2) (fun i => 5 - i) 0 ⟨Nat.zero_le _, Nat.zero_le _, ?_, hD1⟩ ?_
 ·simp (disch := first | assumption | omega) only [go_sem, reduceCtorEq, Nat.reduceEqDiff, ↓reduceIte]
 clear hD1
 rintro i a1 s2 ⟨hi, hi5, hf, hD⟩
 have hdr := hD.drop
 have hTs : CkT s2 := hD.at hT
 obtain ⟨M, hM⟩ : ∃ M, M = (L.take i).map fullP := ⟨_, rfl⟩
 have hMl : M.length = i := by rw [hM, List.length_map, List.length_take]; omega
 have hMs : ∀ s ∈ h0 :: M, s.length ≤ 504 := fun s hs => by
  rcases List.mem_cons.1 hs with rfl | hs
  ·exact hh0l
  ·rw [hM] at hs
   obtain ⟨t, _, rfl⟩ := List.mem_map.1 hs
   rw [fullP_len]; decide
 rw [← hM] at hD
 have ho : (spD 8 h0 M (1 + 2 * (i : Int))).ok := spD_ok hMs (by omega) (by omega)
 have hll : ((L.map AV.str).length : Int) = (L.length : Int) := by rw [List.length_map]
 obtain ⟨B, cB, rB, fv, F', I, cI, rI, hDM⟩ := hD
 by_cases hlt : i < L.length ∧ i < 5
 ·have hl1 : (i : Int) < (L.length : Int) := by omega
  have hl2 : (i : Int) < 5 := by omega
  have hx : L[i]? = some (L[i]'hlt.1) := List.getElem?_eq_getElem hlt.1
  have htk : (L.take (i + 1)).map fullP = M ++ [fullP (L[i]'hlt.1)] := by rw [List.take_succ_eq_append_getElem hlt.1, List.map_append, hM]; rfl
  generalize L[i]'hlt.1 = t at *
  have hgx : (L.map AV.str)[i]? = some (AV.str t) := by rw [List.getElem?_map, hx]; rfl
  have hisl : (spD 8 h0 M (1 + 2 * (i : Int))).isF.length = i + 1 := by rw [← hMl]; exact List.length_replicate
  have hK := dktake_new hTs hDM hT ho rfl (by rw [hisl]; show ((i + 1 : Nat) : Int) < 8; omega) rfl (by show 1 + 2 * (i : Int) < 1000000000; omega)
  rw [hisl, took_spD hMs] at hK
  have hFu := full_ok t
  have hMs2 : ∀ s ∈ h0 :: (M ++ [[]]), s.length ≤ 504 := fun s hs => by
   rcases List.mem_cons.1 hs with rfl | hs
   ·exact hh0l
   ·rcases List.mem_append.1 hs with hs | hs
    ·exact hMs s (List.mem_cons_of_mem _ hs)
    ·rw [List.mem_singleton.1 hs]; decide
  have ho2 : (spD 8 h0 (M ++ [[]]) (1 + 2 * (i : Int) + 1)).ok := spD_ok hMs2 (by rw [List.length_append, hMl]; show ((i + 1 : Nat) : Int) + 1 ≤ 8 ∧ (8 : Int) ≤ 60000; omega) (by omega)
  have hisl2 : (spD 8 h0 (M ++ [[]]) (1 + 2 * (i : Int) + 1)).isF.length = i + 2 := by
   show (List.replicate ((M ++ [[]]).length + 1) false).length = i + 2
   rw [List.length_replicate, List.length_append, hMl]
   rfl
  have hWr := fun (τ : ASt) (hD : DiskAt σ' d (spD 8 h0 (M ++ [[]]) (1 + 2 * (i : Int) + 1)) τ) => dkwrite_at hD hT ho2 rfl (by show 1 + 2 * (i : Int) + 1 < 1000000000; omega) (p := i + 1) (by omega) (by rw [hisl2]; omega) (by show (List.replicate ((M ++ [[]]).length + 1) false)[i + 1]? = some false; rw [List.getElem?_replicate, if_pos (by rw [List.length_append, hMl]; exact Nat.lt_succ_self _)]) (s := fullP t) (fullP_len t)
  have hws := wrote_spD (m := 8) (pt := 1 + 2 * (i : Int) + 1) hMs (fullP t)
  rw [hMl] at hws
  rw [hws] at hWr
  simp (disch := first | assumption | omega) only [go_sem, reduceCtorEq, Nat.reduceEqDiff, ↓reduceIte, hf, hl1, hl2]
  refine hK.mono ?_
  rintro v s3 ⟨rfl, hD2⟩
  simp (disch := first | assumption | omega) only [go_sem, reduceCtorEq, Nat.reduceEqDiff, ↓reduceIte, hf, hgx, Int.toNat_natCast]
  refine hFu.use ?_
  simp (disch := first | assumption | omega) only [go_sem, Nat.reduceEqDiff, ↓reduceIte]
  refine (hWr _ hD2).mono ?_
  rintro v s4 ⟨rfl, hD3⟩
  simp (disch := first | assumption | omega) only [go_sem, reduceCtorEq, Nat.reduceEqDiff, ↓reduceIte, hf]
  refine ⟨i + 1, by omega, by omega, by omega, ⟨rfl, rfl⟩, ?_⟩
  have e : 1 + 2 * (i : Int) + 1 + 1 = 1 + 2 * ((i + 1 : Nat) : Int) := by omega
  rw [htk, ← e]
  exact hD3
 ·have hfl := dkflush_ok hTs hDM ho (by show 1 + 2 * (i : Int) < 1000000000; omega)
  rw [flush_spD hMs] at hfl
  dsimp only at hfl
  have hb : (spD 8 (headL (M.length + 1) 4294967295) M (1 + 2 * (i : Int) + 1)).b = spoilB (L.take i) := by
   show imgF 0 (headL (M.length + 1) 4294967295 :: M) = _
   unfold spoilB
   rw [hMl, hM, List.length_take, Nat.min_eq_left hi]
  have hL : L = L.take i ++ L.drop i := (List.take_append_drop i L).symm
  have hli : (L.take i).length = i := by rw [List.length_take, Nat.min_eq_left hi]
  generalize hLa : L.map AV.str = A at *
  rw [hL] at hLa
  have h2 := fun (σ2 : ASt) (B c turn a : Nat) => spoilt2 (σ := σ') (σ2 := σ2) (B := B) (c := c) (L := L.take i) (R := L.drop i) (a := a) (turn := turn) (by omega)
  rw [hLa, hli] at h2
  have hsl := spoilB_len (L.take i)
  rw [hli] at hsl
  generalize spoilB (L.take i) = b at *
  obtain ⟨G, hG⟩ : ∃ G, G = ACode.wp Tryd.prog c3_103 := ⟨_, rfl⟩
  rw [← hG] at h2
  have hcl : ¬ ((i : Int) < (L.length : Int) ∧ (i : Int) < 5) := by omega
  have hend : F (RetQ [.t 6] fun v σ'_1 => v = .bool true ∧ σ'_1 = σ') = F (RetQ [.t 6] fun v σ'_1 => v = .bool true ∧ σ'_1 = σ') := rfl
  have hgo : ∀ a2 : AFr, (a2 0 = .sl .shr A ∧ a2 1 = .int .i64 a ∧ a2 2 = .int .u32 turn ∧ a2 7 = .ptr d 0 ∧ a2 8 = .int .i64 i) → F (RetQ [.t 6] fun v σ'_1 => v = .bool true ∧ σ'_1 = σ') a2 s2 := by
   intro a2 hf2
   rw [hF]
   simp (disch := first | assumption | omega) only [go_sem, ↓reduceIte, hf2]
   refine hfl.mono ?_
   rintro v s3 ⟨rfl, rB', hD3⟩
   have hby := dkbytes_ok hD3.lm
   rw [hb] at hby
   have hdr3 := hD3.drop
   have hT3 : CkT s3 := hD3.at hT
   simp (disch := first | assumption | omega) only [go_sem, Nat.reduceEqDiff, ↓reduceIte, hf2]
   refine hby.mono ?_
   rintro v s4 ⟨rfl, rfl⟩
   simp (disch := first | assumption | omega) only [go_sem, ↓reduceIte]
   refine s2b_own fun B c hB hc => ?_
   by_cases ha0 : a < 0
   ·simp (disch := first | assumption | omega) only [go_sem, Nat.reduceEqDiff, ↓reduceIte, hf2, ha0, ←hG]
    exact retC_by ((Drop.set hB).trans hdr3) (.refl _) ⟨rfl, rfl⟩
   ·by_cases ha1 : (b.length : Int) ≤ a
    ·simp (disch := first | assumption | omega) only [go_sem, Nat.reduceEqDiff, ↓reduceIte, hf2, ha0, ha1, ←hG]
     exact retC_by ((Drop.set hB).trans hdr3) (.refl _) ⟨rfl, rfl⟩
    ·obtain ⟨an, rfl⟩ : ∃ an : Nat, a = an := ⟨a.toNat, by omega⟩
     obtain ⟨tn, rfl⟩ : ∃ tn : Nat, turn = tn := ⟨turn.toNat, by omega⟩
     have h2 := h2 s4 B c tn an (by omega) (by omega) hT3 hdr3 hB hc
     simp (disch := first | assumption | omega) only [go_sem, Nat.reduceEqDiff, ↓reduceIte, hf2, ha0, ha1, ←hG]
     refine h2 _ ?_
     simp (disch := first | assumption | omega) only [go_sem, reduceCtorEq, Nat.reduceEqDiff, ↓reduceIte, hf2]
  by_cases hl1 : i < L.length
  ·have hl1' : (i : Int) < (L.length : Int) := by omega
   have hl2 : ¬ (i : Int) < 5 := by omega
   simp (disch := first | assumption | omega) only [go_sem, reduceCtorEq, Nat.reduceEqDiff, ↓reduceIte, hf, hll, hl1', hl2]
   refine hgo _ ?_
   simp (disch := first | assumption | omega) only [go_sem, reduceCtorEq, Nat.reduceEqDiff, ↓reduceIte, hf]
  ·have hl1' : ¬ (i : Int) < (L.length : Int) := by omega
   simp (disch := first | assumption | omega) only [go_sem, reduceCtorEq, Nat.reduceEqDiff, ↓reduceIte, hf, hll, hl1']
   refine hgo _ ?_
   simp (disch := first | assumption | omega) only [go_sem, reduceCtorEq, Nat.reduceEqDiff, ↓reduceIte, hf]
end Go.A
namespace Go.A
open Go.Proofs Go.Lib
inductive Step where
 | bad (k : Nat)
 | blank
 | tok (kind : Int) (text : List UInt8) (n : Nat)
 deriving DecidableEq
structure Tok where
 kind : Int
 text : List UInt8
 at' : Nat
 col : Nat
 deriving DecidableEq
end Go.A
namespace Go.Proofs.YtkbomeigndfbhaaDoor
open Go Go.ChangeShapes Go.WideShapes Go.ChangeAt Go.RowKit Go.A Go.Lib Go.Shelf
theorem row_own : ownKnob Tryd.prog.godebug = none := by kernel_rfl
theorem row_laid : laidOutB Tryd.prog = true := by kernel_rfl
theorem ints_reps {σ : ASt} {w : World} {k : IntKind} : ∀ zs : List Int, Reps σ w (zs.map (AV.int k)) (zs.map (Value.int k))
 | [] => .nil
 | z :: zs => .cons (.int k z) (ints_reps zs)
def stOf : List (Nat × List AV) → ASt
 | [], _ => none
 | p :: ps, b => if b = p.1 then some (.fix p.2) else stOf ps b
theorem stOf_fix : ∀ {ps : List (Nat × List AV)} {b : Nat} {r : Role}, stOf ps b = some r → ∃ l, r = .fix l
 | [], _, _, h => by cases h
 | p :: ps, b, r, h => by
   simp only [stOf] at h
   split at h
   ·injection h with h; exact ⟨_, h.symm⟩
   ·exact stOf_fix h
theorem stOf_mem : ∀ {ps : List (Nat × List AV)} {b : Nat} {r : Role}, stOf ps b = some r → ∃ l, (b, l) ∈ ps ∧ r = .fix l
 | [], _, _, h => by cases h
 | p :: ps, b, r, h => by
   simp only [stOf] at h
   split at h
   ·rename_i hb
    injection h with h
    subst hb
    exact ⟨p.2, List.mem_cons_self, h.symm⟩
   ·obtain ⟨l, hl, he⟩ := stOf_mem h
    exact ⟨l, List.mem_cons_of_mem _ hl, he⟩
theorem still_fix {σ : ASt} (hfx : ∀ b r, σ b = some r → ∃ l, r = .fix l) {w : World} {b o : Nat} (h : b < w.heap.size) : Still σ w b o := by
 refine ⟨h, ?_⟩
 cases hb : σ b with
 | none => exact .inl rfl
 | some r => obtain ⟨l, rfl⟩ := hfx b r hb; exact .inr (.inl ⟨_, rfl⟩)
end Go.Proofs.YtkbomeigndfbhaaDoor
namespace Go.A
section
variable {σ : ASt} {w : World}
theorem Still.fixed (hfx : ∀ b r, σ b = some r → ∃ l, r = .fix l) {b o : Nat} (h : Still noRole w b o) : Still σ w b o := by
 refine ⟨h.1, ?_⟩
 cases hb : σ b with
 | none => exact .inl rfl
 | some r => obtain ⟨l, rfl⟩ := hfx b r hb; exact .inr (.inl ⟨_, rfl⟩)
theorem Stands.fixed (hfx : ∀ b r, σ b = some r → ∃ l, r = .fix l) (b : Nat) : Stands σ b := by
 refine ⟨fun cs h => ?_, fun l p h => ?_, fun T cs h => ?_⟩ <;> (obtain ⟨l, hl⟩ := hfx b _ h; cases hl)
theorem SK.ok_fixed (hfx : ∀ b r, σ b = some r → ∃ l, r = .fix l) {k : SK} {b o n c sz : Nat} (h : k.ok noRole w b o n c sz) : k.ok σ w b o n c sz := by
 cases k with
 | shr => trivial
 | full => exact h
 | tok t s T => exact ⟨h.1, h.2.1, h.2.2.1, h.2.2.2.1, Stands.fixed hfx b⟩
mutual
theorem Rep.fixed (hfx : ∀ b r, σ b = some r → ∃ l, r = .fix l) : ∀ {a : AV} {v : Value}, Rep noRole w a v → Rep σ w a v
 | _, _, .any v => .any v
 | _, _, .bool b => .bool b
 | _, _, .int k n => .int k n
 | _, _, .str l => .str l
 | _, _, .ptr b o => .ptr b o
 | _, _, .imm h1 => .imm (h1.fixed hfx)
 | _, _, .nilp => .nilp
 | _, _, .slE A c => .slE A c
 | _, _, .slN => .slN
 | _, _, .sl h1 h2 h3 h4 h5 => .sl (h1.fixed hfx) h2 h3 (SK.ok_fixed hfx h4) h5
 | _, _, .msl b o n c => .msl b o n c
 | _, _, .agg h1 => .agg (h1.fixed hfx)
 | _, _, .tuple h1 => .tuple (h1.fixed hfx)
 | _, _, .iface h1 => .iface (h1.fixed hfx)
 | _, _, .nili => .nili
 | _, _, .func h1 h2 => .func (h1.fixed hfx) (h2.fixed hfx)
 | _, _, .nilf => .nilf
theorem Reps.fixed (hfx : ∀ b r, σ b = some r → ∃ l, r = .fix l) : ∀ {avs : List AV} {vs : List Value}, Reps noRole w avs vs → Reps σ w avs vs
 | _, _, .nil => .nil
 | _, _, .cons h1 h2 => .cons (h1.fixed hfx) (h2.fixed hfx)
theorem At.fixed (hfx : ∀ b r, σ b = some r → ∃ l, r = .fix l) : ∀ {b o : Nat} {avs : List AV}, At noRole w b o avs → At σ w b o avs
 | _, _, _, .nil b o => .nil b o
 | _, _, _, .cons h1 h2 h3 h4 => .cons (h1.fixed hfx) h2 (h3.fixed hfx) (h4.fixed hfx)
theorem Row.fixed (hfx : ∀ b r, σ b = some r → ∃ l, r = .fix l) : ∀ {b o sz : Nat} {avs : List AV}, Row noRole w b o sz avs → Row σ w b o sz avs
 | _, _, _, _, .nil b o sz => .nil b o sz
 | _, _, _, _, .cons h1 h2 h3 => .cons h1 (h2.fixed hfx) (h3.fixed hfx)
end
end
end Go.A
namespace Go.Proofs.YtkbomeigndfbhaaDoor
open Go Go.ChangeShapes Go.WideShapes Go.ChangeAt Go.RowKit Go.A Go.Lib Go.Shelf
theorem calls_st {ps : List (Nat × List AV)} {f : FuncId} {args : List AV} {vs : List Value} {w : World} (h : ACalls Tryd.prog f args (stOf ps) fun r σ' => r = .bool true ∧ σ' = stOf ps) (hs : Sim (stOf ps) w) (hr : Reps (stOf ps) w args vs) :
  Calls Tryd.prog f ⟨vs⟩ w fun e w' => e = .returned (.bool true) ∧ Ext w w' :=
 (h w vs hs hr).mono fun e w' ⟨u, r, σ', he, ⟨hrt, hst⟩, hle, _, hrep⟩ => by
  subst hrt hst
  cases hrep
  refine ⟨he, Ext.of_below ⟨hle.os, hle.tape, hle.output, hle.size, fun k hk => ?_⟩⟩
  cases hn : stOf ps k with
  | none => exact (hle.keep k hk hn).2
  | some r =>
    obtain ⟨l, rfl⟩ := stOf_fix hn
    exact (hle.fix k _ hk hn).2
end Go.Proofs.YtkbomeigndfbhaaDoor
namespace Go.Proofs.YtkbomeigndfbhaaDoor
open Go Go.ChangeShapes Go.WideShapes Go.ChangeAt Go.RowKit Go.A Go.Lib Go.Shelf
def ckZ : List Int := ckT.map fun (n : Nat) => (n : Int)
theorem ckZ_av : ckZ.map (AV.int .u32) = ckAV := by unfold ckZ ckAV; rw [List.map_map]; rfl
theorem ck_eq : (Rows.laid_tabular_check_table : DataW Unit) = Lib.tabData .u32 ckZ := by kernel_rfl
theorem ck_role {σ : ASt} {W : World} (hfx : ∀ b r, σ b = some r → ∃ l, r = .fix l) (h3 : VarReads Tryd.prog W "tabular/check.table" (Lib.tabData .u32 ckZ)) :
  RoleOk σ W 2 (.fix ckAV) := by
 rw [← ckZ_av]
 obtain ⟨g', t', cs, fuel, p, hg', ht', hvar, hd⟩ := h3
 obtain rfl := Option.some.inj ((show Tryd.prog.globalNamed "tabular/check.table" = some 2 by kernel_rfl).symm.trans hg')
 obtain rfl := Option.some.inj ((show (Tryd.prog.globals[2]?).map (·.type) = some 116 by kernel_rfl).symm.trans ht')
 have hcs := cells_of_tab (n := 16) (e := 23) (k := .u32) (by kernel_rfl) (by kernel_rfl) (by kernel_rfl) (by kernel_rfl) hd
 unfold World.var? at hvar
 rw [show Tryd.prog.globalNamed "tabular/check.table" = some 2 by kernel_rfl, Option.bind_some] at hvar
 split at hvar
 ·rename_i cs' T fr hheap
  injection hvar with hvar
  have hlt : 2 < W.heap.size := (Array.getElem?_eq_some_iff.1 hheap).1
  have he : cs' = (ckZ.map fun z => Value.int .u32 z).toArray := by rw [hvar]; exact Array.ext' (by simpa using hcs)
  refine ⟨At.mk' (ints_reps _) (fun j _ => still_fix hfx hlt) (fun j v hj => ?_), cs', T, fr, hheap, by rw [he]; simp⟩
  simp only [World.cell?, hheap, Nat.zero_add, he]
  simpa using hj
 ·cases hvar
def laidC : List (String × DataW Unit) := [("tabular/check.table", Rows.laid_tabular_check_table)]
def cPs : List (Nat × List AV) := [(2, ckAV)]
def cSt : ASt := stOf cPs
theorem cSt_ck : CkT cSt := by simp [CkT, cSt, cPs, stOf]
theorem c_sim {W : World} (h : laidMetH Tryd.prog laidC W) : Sim cSt W := by
 rw [MakeChecks.laidMetH_plain _ _ _ (by kernel_rfl)] at h
 have hc : VarReads Tryd.prog W "tabular/check.table" (Lib.tabData .u32 ckZ) := ck_eq ▸ Lib.laidMet.reads h (.head _)
 intro b r hb
 obtain ⟨l, hl, rfl⟩ := stOf_mem hb
 simp only [cPs, List.mem_cons, List.not_mem_nil, or_false, Prod.mk.injEq] at hl
 obtain ⟨rfl, rfl⟩ := hl
 exact ck_role (fun _ _ => stOf_fix) hc
theorem calls_c {f : FuncId} {args : List AV} {vs : List Value} {w : World} (h : ACalls Tryd.prog f args cSt fun r σ' => r = .bool true ∧ σ' = cSt) (hs : Sim cSt w) (hr : Reps cSt w args vs) :
  Calls Tryd.prog f ⟨vs⟩ w fun e w' => e = .returned (.bool true) ∧ Ext w w' := calls_st h hs hr
end Go.Proofs.YtkbomeigndfbhaaDoor
