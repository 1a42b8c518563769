/- Part 5 of what TextsFinds leans on: Ga CodeTg Tg Za Ya Ua Shelf Wz Zu CodeH Hc Hd Hf CodeJ Ja CodeUb Ub. -/
import Derived.Test.YteldgfhpffjdcaaGreatDoorProg
import Derived.KernelRfl
import Derived.Lib.MapLaws
import Derived.Lib.RuneCount
import Derived.Lib.ValidLaws
import Derived.Shelf.Strings.Builder1
import Derived.Shelf.Strings.Builder2
import Derived.Shelf.Strings.Trim
import Derived.Shelf.Small.Utf8
import Derived.Shelf.Small.Strs
import Derived.Shelf.Small.Wraps
import Derived.Shelf.Strings.BuilderF
import Derived.Shelf.Strings.BuilderK
import Derived.Shelf.Utf8.RuneCount
import Derived.Shelf.Strings.Builder2Cap
import Derived.Shelf.Strconv.Itoa0
import Derived.Shelf.Strconv.Itoa1
import Derived.Shelf.LaysM
import Derived.Shelf.Strconv.Itoa2
import Derived.Shelf.Strings.Search1
import Derived.Shelf.Strings.Search2
import Derived.Shelf.Strings.Search3
import Derived.Shelf.Strings.Cut
import Derived.Shelf.Strings.Shaped
import Derived.Shelf.Strings.Prefix
import Derived.Shelf.Unicode.Decode
import Derived.Shelf.Strings.Runes
import Derived.Shelf.Strings.RuneCount
import Derived.Shelf.Strings.AsciiSet
import Derived.Shelf.Bits.Mul64
import Derived.Shelf.Unicode.DecodeSlow
import Derived.Shelf.Unicode.DecodeAny
import Derived.Shelf.Unicode.DecodeLast
import Derived.Shelf.Strings.BuilderCap
import Derived.Lib.ItoaMem
import Derived.Lib.LaidU8
import Derived.Lib.AppendIntMem
import Derived.BigCall
import Derived.BigGuard
import Derived.Test.YteldgfhpffjdcaaGreatDoorZTextsFindsd
set_option linter.defProp false
set_option linter.unusedSimpArgs false
set_option linter.unusedVariables false
set_option maxRecDepth 100000
namespace Go.A
open Go.Proofs
structure Ref where
 row : Int
 col : Int
 absRow : Bool
 absCol : Bool
 deriving DecidableEq, Inhabited
end Go.A
namespace Go.A
open Go.Proofs
/-! 6: tabular/tabularlaw01.Cut -/
def c6_0 : ACode := .ops [
 ⟨some 4, none, .q (.mv (.v (.str []))), []⟩]
def c6_1 : ACode := .ops [
 ⟨some 5, none, .q (.mv (.t 0)), []⟩,
 ⟨some 6, none, .q (.lenS (.t 5)), []⟩,
 ⟨some 7, none, .q (.mv (.t 1)), []⟩,
 ⟨some 8, none, .q (.bin .gtr (.t 6) (.t 7)), []⟩]
def c6_2 : ACode := .ops [
 ⟨some 9, none, .q (.mv (.t 0)), []⟩,
 ⟨some 10, none, .q (.mv (.t 1)), []⟩,
 ⟨some 11, none, .q (.slto (true, 0) (.t 9) (.t 10)), []⟩,
 ⟨some 4, none, .q (.mv (.t 11)), []⟩]
def c6_3 : ACode := .seq c6_2 .ret
def c6_4 : ACode := .cond (.t 8) c6_3 .skip
def c6_5 : ACode := .seq c6_1 c6_4
def c6_6 : ACode := .ops [
 ⟨some 12, none, .q (.mv (.t 0)), []⟩,
 ⟨some 4, none, .q (.mv (.t 12)), []⟩]
def c6_7 : ACode := .seq c6_6 .ret
def c6_8 : ACode := .seq c6_5 c6_7
def c6_9 : ACode := .seq c6_0 c6_8
@[go_sem] def c6_0_wp := wp_of c6_0.eq_1
@[go_sem] def c6_1_wp := wp_of c6_1.eq_1
@[go_sem] def c6_2_wp := wp_of c6_2.eq_1
@[go_sem] def c6_3_wp := wp_of c6_3.eq_1
@[go_sem] def c6_4_wp := wp_of c6_4.eq_1
@[go_sem] def c6_5_wp := wp_of c6_5.eq_1
@[go_sem] def c6_6_wp := wp_of c6_6.eq_1
@[go_sem] def c6_7_wp := wp_of c6_7.eq_1
@[go_sem] def c6_8_wp := wp_of c6_8.eq_1
@[go_sem] def c6_9_wp := wp_of c6_9.eq_1
def c6 : AFn := ⟨13, [.t 4], c6_9⟩
theorem c6_ok : compF Tryz.prog Tryz.f6 = some c6 := by kernel_rfl
theorem a6 {args : List AV} {σ : ASt} {R : AV → ASt → Prop} (hl : args.length ≤ 13) (h : c6_9.wp Tryz.prog (RetQ [.t 4] R) (init args) σ) : ACalls Tryz.prog 6 args σ R := acalls_of Tryz.func6 c6_ok hl h
end Go.A
namespace Go.A
open Go.Proofs
theorem cut_ok (l : List UInt8) (n : Nat) : Pure Tryz.prog 6 [.str l, .int .i64 n] (.str (l.take n)) := by
 intro σ
 refine a6 (by simp) ?_
 by_cases h : n < l.length
 ·have h' : (n : Int) < l.length := by omega
  simp (disch := first | assumption | omega) only [go_sem, reduceCtorEq, Nat.reduceEqDiff, ↓reduceIte, h']
  exact retC_by (by repeat' (first | exact Drop.refl _ | with_reducible refine Drop.off ?_ (by assumption))) (.refl _) ⟨rfl, rfl⟩
 ·have h' : ¬ (n : Int) < l.length := by omega
  simp (disch := first | assumption | omega) only [go_sem, reduceCtorEq, Nat.reduceEqDiff, ↓reduceIte, h']
  exact retC_by (by repeat' (first | exact Drop.refl _ | with_reducible refine Drop.off ?_ (by assumption))) (.refl _) ⟨by rw [List.take_of_length_le (by omega)]; rfl, rfl⟩
def greatC (c : UInt8) : UInt8 := if 97 ≤ c.toNat ∧ c.toNat ≤ 122 then UInt8.ofNat (c.toNat - 32) else c
def greatP (l : List UInt8) : List UInt8 := l.map greatC
end Go.A
namespace Go.A
open Go.Proofs Go.Lib
def signsN (l : List UInt8) : Nat := runeCount ⟨⟨l⟩⟩
inductive Step where
 | bad (k : Nat)
 | blank
 | tok (kind : Int) (text : List UInt8) (n : Nat)
 deriving DecidableEq
structure Tok where
 kind : Int
 text : List UInt8
 at' : Nat
 col : Nat
 deriving DecidableEq
def sgF : Nat → List UInt8 → Option Nat
 | 0, _ => none
 | k + 1, r => if r = [] then some 0 else if decodeL r = (65533, 1) then none else (sgF k (r.drop (decodeL r).2)).map (· + 1)
end Go.A
namespace Go.A
open Go.Proofs Go.Lib
theorem decN0 {n b0 b1 b2 b3 : Nat} (h1 : ¬ (1 < n ∧ b1 / 64 = 2)) : decodeN n b0 b1 b2 b3 = if b0 < 128 then (b0, 1) else (65533, 1) := by
 unfold decodeN
 by_cases h0 : b0 < 128
 ·rw [if_pos h0, if_pos h0]
 ·rw [if_neg h0, if_neg h0, if_neg (fun h => h1 h.2), if_neg (fun h => h1 h.2.1), if_neg (fun h => h1 h.2.1)]
theorem decN1 {n b0 b1 b2 b3 : Nat} (h1 : 1 < n ∧ b1 / 64 = 2) (h2 : ¬ (2 < n ∧ b2 / 64 = 2)) : decodeN n b0 b1 b2 b3 = if b0 < 128 then (b0, 1) else if b0 / 32 = 6 then (if b0 % 32 * 64 + b1 % 64 ≥ 128 then (b0 % 32 * 64 + b1 % 64, 2) else (65533, 1)) else (65533, 1) := by
 unfold decodeN
 by_cases h0 : b0 < 128
 ·rw [if_pos h0, if_pos h0]
 rw [if_neg h0, if_neg h0]
 by_cases h6 : b0 / 32 = 6
 ·rw [if_pos ⟨h6, h1⟩, if_pos h6]
 ·rw [if_neg (fun h => h6 h.1), if_neg h6, if_neg (fun h => h2 h.2.2), if_neg (fun h => h2 h.2.2.1)]
theorem decN2 {n m b0 b1 b2 b3 b3' : Nat} (h1 : 1 < n ∧ b1 / 64 = 2) (h2 : 2 < n ∧ b2 / 64 = 2) (h3 : ¬ (3 < n ∧ b3 / 64 = 2)) (hm : 2 < m) (h3' : ¬ (3 < m ∧ b3' / 64 = 2)) : decodeN n b0 b1 b2 b3 = decodeN m b0 b1 b2 b3' := by
 unfold decodeN
 have e1 : (1 < n ∧ b1 / 64 = 2) = (1 < m ∧ b1 / 64 = 2) := propext ⟨fun h => ⟨by omega, h.2⟩, fun h => h1⟩
 have e2 : (2 < n ∧ b2 / 64 = 2) = (2 < m ∧ b2 / 64 = 2) := propext ⟨fun h => ⟨by omega, h.2⟩, fun h => h2⟩
 simp only [e1, e2, h3, h3', and_false, if_false]
theorem decN4 {n m b0 b1 b2 b3 : Nat} (hn : 3 < n) (hm : 3 < m) : decodeN n b0 b1 b2 b3 = decodeN m b0 b1 b2 b3 := by
 unfold decodeN
 have e1 : (1 < n) = (1 < m) := propext ⟨fun _ => by omega, fun _ => by omega⟩
 have e2 : (2 < n) = (2 < m) := propext ⟨fun _ => by omega, fun _ => by omega⟩
 have e3 : (3 < n) = (3 < m) := propext ⟨fun _ => by omega, fun _ => by omega⟩
 simp only [e1, e2, e3]
def Stop (x : List UInt8) : Prop := ∀ c y, x = c :: y → c.toNat / 64 ≠ 2
theorem Stop.at {x : List UInt8} (h : Stop x) (m : Nat) : ¬ (m < m + x.length ∧ (x.getD 0 0).toNat / 64 = 2) := by
 rintro ⟨h1, h2⟩
 cases x with
 | nil => simp at h1
 | cons c y => exact h c y rfl h2
theorem decode_local {r x : List UInt8} (hr : r ≠ []) (hx : Stop x) : decodeL (r ++ x) = decodeL r := by
 rw [decodeL_N, decodeL_N]
 match r, hr with
 | [a], _ =>
   have h1 := hx.at 1
   have e : ([a] ++ x).length = 1 + x.length := by simp; omega
   rw [e]
   refine (decN0 ?_).trans (decN0 ?_).symm
   ·exact h1
   ·simp
 | [a, b], _ =>
   have h1 := hx.at 2
   have e : ([a, b] ++ x).length = 2 + x.length := by simp; omega
   rw [e]
   by_cases c1 : b.toNat / 64 = 2
   ·refine (decN1 ⟨by omega, c1⟩ ?_).trans (decN1 ⟨by simp, c1⟩ ?_).symm
    ·exact h1
    ·simp
   ·refine (decN0 ?_).trans (decN0 ?_).symm
    ·exact fun h => c1 h.2
    ·exact fun h => c1 h.2
 | [a, b, c], _ =>
   have h1 := hx.at 3
   have e : ([a, b, c] ++ x).length = 3 + x.length := by simp; omega
   rw [e]
   by_cases c1 : b.toNat / 64 = 2
   ·by_cases c2 : c.toNat / 64 = 2
    ·refine decN2 ⟨by omega, c1⟩ ⟨by omega, c2⟩ h1 (by simp) ?_
     simp
    ·refine (decN1 ⟨by omega, c1⟩ ?_).trans (decN1 ⟨by simp, c1⟩ ?_).symm
     ·exact fun h => c2 h.2
     ·exact fun h => c2 h.2
   ·refine (decN0 ?_).trans (decN0 ?_).symm
    ·exact fun h => c1 h.2
    ·exact fun h => c1 h.2
 | a :: b :: c :: d :: t, _ => exact decN4 (by simp) (by simp)
theorem decode_whole {r : List UInt8} {c w : Nat} (hr : r ≠ []) (hd : decodeL r = (c, w)) (hv : (c, w) ≠ (65533, 1)) (t : List UInt8) : decodeL (r.take w ++ t) = (c, w) := by
 have hpos := List.length_pos_iff.2 hr
 rw [decodeL_N] at hd ⊢
 have k0 := (r.getD 0 0).toNat_lt
 have k1 := (r.getD 1 0).toNat_lt
 rcases decodeN_shape r.length (r.getD 0 0).toNat (r.getD 1 0).toNat (r.getD 2 0).toNat (r.getD 3 0).toNat with ⟨c1, e⟩ | ⟨c1, c2, c3, cv, e⟩ | ⟨c1, c2, c3, c4, cv, cs, e⟩ | ⟨c1, c2, c3, c4, c5, cv, cw, e⟩ | e
 ·rw [e] at hd
  injection hd with h1 h2
  subst h1 h2
  rw [takeA r hpos]
  generalize r.getD 0 0 = b0 at *
  have e0 : (([b0] ++ t).getD 0 0) = b0 := rfl
  rw [e0]
  unfold decodeN
  rw [if_pos c1]
 ·rw [e] at hd
  injection hd with h1 h2
  subst h1 h2
  rw [takeB r c2]
  generalize r.getD 0 0 = b0 at *
  generalize r.getD 1 0 = b1 at *
  have e0 : (([b0, b1] ++ t).getD 0 0) = b0 := rfl
  have e1 : (([b0, b1] ++ t).getD 1 0) = b1 := rfl
  have el : 1 < ([b0, b1] ++ t).length := by simp
  rw [e0, e1]
  unfold decodeN
  rw [if_neg (by omega), if_pos ⟨c1, el, c3⟩, if_pos (by omega)]
 ·rw [e] at hd
  injection hd with h1 h2
  subst h1 h2
  rw [takeC r c2]
  generalize r.getD 0 0 = b0 at *
  generalize r.getD 1 0 = b1 at *
  generalize r.getD 2 0 = b2 at *
  have e0 : (([b0, b1, b2] ++ t).getD 0 0) = b0 := rfl
  have e1 : (([b0, b1, b2] ++ t).getD 1 0) = b1 := rfl
  have e2 : (([b0, b1, b2] ++ t).getD 2 0) = b2 := rfl
  have el : 2 < ([b0, b1, b2] ++ t).length := by simp
  rw [e0, e1, e2]
  unfold decodeN
  rw [if_neg (by omega), if_neg (by omega), if_pos ⟨c1, ⟨by omega, c3⟩, el, c4⟩, if_pos (by omega)]
 ·rw [e] at hd
  injection hd with h1 h2
  subst h1 h2
  rw [takeD r c2]
  generalize r.getD 0 0 = b0 at *
  generalize r.getD 1 0 = b1 at *
  generalize r.getD 2 0 = b2 at *
  generalize r.getD 3 0 = b3 at *
  have e0 : (([b0, b1, b2, b3] ++ t).getD 0 0) = b0 := rfl
  have e1 : (([b0, b1, b2, b3] ++ t).getD 1 0) = b1 := rfl
  have e2 : (([b0, b1, b2, b3] ++ t).getD 2 0) = b2 := rfl
  have e3 : (([b0, b1, b2, b3] ++ t).getD 3 0) = b3 := rfl
  have el : 3 < ([b0, b1, b2, b3] ++ t).length := by simp
  rw [e0, e1, e2, e3]
  unfold decodeN
  rw [if_neg (by omega), if_neg (by omega), if_neg (by omega), if_pos ⟨c1, ⟨by omega, c3⟩, ⟨by omega, c4⟩, el, c5⟩, if_pos (by omega)]
 ·rw [e] at hd
  exact absurd hd.symm hv
end Go.A
namespace Go.A
open Go.Proofs Go.Lib
def pcsF : Nat → List UInt8 → List (List UInt8)
 | 0, _ => []
 | k + 1, r => if r = [] then [] else r.take (decodeL r).2 :: pcsF k (r.drop (decodeL r).2)
def pcs (r : List UInt8) : List (List UInt8) := pcsF r.length r
theorem pcsF_fuel : ∀ (k m : Nat) (r : List UInt8), r.length ≤ k → r.length ≤ m → pcsF k r = pcsF m r
 | 0, m, r, h, _ => by
   have : r = [] := List.eq_nil_of_length_eq_zero (by omega)
   subst this
   cases m <;> simp [pcsF]
 | k + 1, 0, r, _, h => by
   have : r = [] := List.eq_nil_of_length_eq_zero (by omega)
   subst this
   simp [pcsF]
 | k + 1, m + 1, r, h, h' => by
   unfold pcsF
   by_cases hr : r = []
   ·rw [if_pos hr, if_pos hr]
   have hpos := List.length_pos_iff.2 hr
   have hw := decodeL_width r
   rw [if_neg hr, if_neg hr, pcsF_fuel k m _ (by rw [List.length_drop]; omega) (by rw [List.length_drop]; omega)]
theorem pcs_nil : pcs [] = [] := rfl
theorem pcs_step {r : List UInt8} (hr : r ≠ []) : pcs r = r.take (decodeL r).2 :: pcs (r.drop (decodeL r).2) := by
 have hpos := List.length_pos_iff.2 hr
 have hw := decodeL_width r
 obtain ⟨k, hk⟩ : ∃ k, r.length = k + 1 := ⟨r.length - 1, by omega⟩
 conv => lhs; unfold pcs; rw [hk, pcsF]
 rw [if_neg hr]
 unfold pcs
 rw [pcsF_fuel k _ _ (by rw [List.length_drop]; omega) (Nat.le_refl _)]
theorem pcs_ind {Q : List UInt8 → Prop} (h0 : Q []) (h1 : ∀ r, r ≠ [] → Q (r.drop (decodeL r).2) → Q r) : ∀ r, Q r := by
 have key : ∀ (k : Nat) (r : List UInt8), r.length ≤ k → Q r := by
  intro k
  induction k with
  | zero => intro r hr; rw [List.eq_nil_of_length_eq_zero (Nat.le_zero.1 hr)]; exact h0
  | succ k ih =>
    intro r hr
    by_cases hn : r = []
    ·rw [hn]; exact h0
    ·have hpos := List.length_pos_iff.2 hn
     have hw := decodeL_width r
     exact h1 r hn (ih _ (by rw [List.length_drop]; omega))
 exact fun r => key r.length r (Nat.le_refl _)
theorem pcs_flat : ∀ r, (pcs r).flatten = r := pcs_ind rfl fun r hr ih => by rw [pcs_step hr, List.flatten_cons, ih, List.take_append_drop]
theorem pcs_ne : ∀ r, ∀ p ∈ pcs r, p ≠ [] := pcs_ind (fun p hp => by cases hp) fun r hr ih p hp => by
 rw [pcs_step hr] at hp
 rcases List.mem_cons.1 hp with rfl | hp
 ·have hpos := List.length_pos_iff.2 hr
  have hw := decodeL_width r
  intro e
  have := congrArg List.length e
  rw [List.length_take] at this
  simp only [List.length_nil] at this
  omega
 ·exact ih p hp
theorem pcs_len : ∀ r, (pcs r).length ≤ r.length := pcs_ind (Nat.le_refl _) fun r hr ih => by
 have hpos := List.length_pos_iff.2 hr
 have hw := decodeL_width r
 rw [pcs_step hr, List.length_cons]
 rw [List.length_drop] at ih
 omega
def skipP (r : List UInt8) (n : Int) : Nat := ((pcs r).take n.toNat).flatten.length
theorem skipP_le (r : List UInt8) (n : Int) : skipP r n ≤ r.length := by
 have h := congrArg List.length (pcs_flat r)
 have e := List.take_append_drop n.toNat (pcs r)
 rw [← e, List.flatten_append, List.length_append] at h
 unfold skipP
 omega
theorem skip_take (r : List UInt8) (n : Int) : r.take (skipP r n) = ((pcs r).take n.toNat).flatten := by
 have h := pcs_flat r
 have e := List.take_append_drop n.toNat (pcs r)
 rw [← e, List.flatten_append] at h
 unfold skipP
 generalize ((pcs r).take n.toNat).flatten = A at *
 generalize ((pcs r).drop n.toNat).flatten = B at *
 rw [← h]
 exact List.take_left
theorem skip_drop (r : List UInt8) (n : Int) : r.drop (skipP r n) = ((pcs r).drop n.toNat).flatten := by
 have h := pcs_flat r
 have e := List.take_append_drop n.toNat (pcs r)
 rw [← e, List.flatten_append] at h
 unfold skipP
 generalize ((pcs r).take n.toNat).flatten = A at *
 generalize ((pcs r).drop n.toNat).flatten = B at *
 rw [← h]
 exact List.drop_left
theorem pcs_skip : ∀ (r : List UInt8) (n : Nat), pcs ((pcs r).drop n).flatten = (pcs r).drop n := pcs_ind (fun n => by simp [pcs_nil]) fun r hr ih n => by
 cases n with
 | zero => rw [List.drop_zero, pcs_flat]
 | succ n => rw [pcs_step hr, List.drop_succ_cons]; exact ih n
def VP (p : List UInt8) : Prop := p ≠ [] ∧ decodeL p ≠ (65533, 1) ∧ (decodeL p).2 = p.length
theorem VP.app {p : List UInt8} (h : VP p) (t : List UInt8) : decodeL (p ++ t) = decodeL p := by
 obtain ⟨h1, h2, h3⟩ := h
 have := decode_whole h1 (show decodeL p = ((decodeL p).1, (decodeL p).2) from rfl) h2 t
 rw [h3, List.take_of_length_le (Nat.le_refl _)] at this
 rw [this, ← h3]
theorem VP.step {p : List UInt8} (h : VP p) (t : List UInt8) : pcs (p ++ t) = p :: pcs t := by
 have hne : p ++ t ≠ [] := by simp [h.1]
 rw [pcs_step hne, h.app t, h.2.2, List.take_left, List.drop_left]
theorem pcs_app {P : List (List UInt8)} (h : ∀ p ∈ P, VP p) (t : List UInt8) : pcs (P.flatten ++ t) = P ++ pcs t := by
 induction P with
 | nil => rfl
 | cons p P ih =>
   rw [List.flatten_cons, List.append_assoc, (h p (by simp)).step, ih fun q hq => h q (by simp [hq]), List.cons_append]
theorem pcs_of {P : List (List UInt8)} (h : ∀ p ∈ P, VP p) : pcs P.flatten = P := by
 have := pcs_app h []
 rwa [List.append_nil, pcs_nil, List.append_nil] at this
def Whole (r : List UInt8) : Prop := ∀ p ∈ pcs r, VP p
theorem whole_nil : Whole [] := fun p hp => by cases hp
theorem take_vp {r : List UInt8} (hr : r ≠ []) (hv : decodeL r ≠ (65533, 1)) : VP (r.take (decodeL r).2) := by
 have hpos := List.length_pos_iff.2 hr
 have hw := decodeL_width r
 have hle := decodeL_le r hr
 have hd := decode_whole hr (show decodeL r = ((decodeL r).1, (decodeL r).2) from rfl) hv []
 rw [List.append_nil] at hd
 have hd : decodeL (r.take (decodeL r).2) = decodeL r := hd
 refine ⟨fun e => ?_, by rw [hd]; exact hv, by rw [hd, List.length_take]; omega⟩
 have := congrArg List.length e
 rw [List.length_take] at this
 simp only [List.length_nil] at this
 omega
theorem whole_step {r : List UInt8} (hr : r ≠ []) : Whole r ↔ decodeL r ≠ (65533, 1) ∧ Whole (r.drop (decodeL r).2) := by
 unfold Whole
 rw [pcs_step hr]
 constructor
 ·intro h
  refine ⟨fun e => ?_, fun p hp => h p (by simp [hp])⟩
  have h1 := h _ (List.mem_cons_self ..)
  rw [e] at h1
  obtain ⟨c, t, rfl⟩ : ∃ c t, r = c :: t := by cases r with
   | nil => exact absurd rfl hr
   | cons c t => exact ⟨c, t, rfl⟩
  have e1 : (c :: t).take 1 = [c] := rfl
  simp only [e1] at h1
  have := h1.app t
  rw [show [c] ++ t = c :: t from rfl, e] at this
  exact h1.2.1 this.symm
 ·rintro ⟨h1, h2⟩ p hp
  rcases List.mem_cons.1 hp with rfl | hp
  ·exact take_vp hr h1
  ·exact h2 p hp
end Go.A
namespace Go.Proofs
open Go.Shelf
def Tryz.lays169_ren : Go.Shelf.Ren := ⟨fun | 169 => 66 | n => n, fun | 70 => 107 | 9 => 9 | 0 => 0 | 72 => 109 | 37 => 106 | 127 => 130 | 3 => 3 | 5 => 5 | n => n, fun | n => n⟩
theorem Tryz.lays169 : Go.Proofs.Lays.n169 Tryz.prog Tryz.lays169_ren := {
 mixed := by kernel_rfl
 f169 := Tryz.func66.trans (congrArg some (by kernel_rfl))
 t0 := Tryz.underlying0
 a0 := Tryz.isAgg0
 z0 := Tryz.sizeOf0
 v0 := Tryz.zeroValue0
 t3 := Tryz.underlying3
 a3 := Tryz.isAgg3
 z3 := Tryz.sizeOf3
 v3 := Tryz.zeroValue3
 t9 := Tryz.underlying9
 a9 := Tryz.isAgg9
 z9 := Tryz.sizeOf9
 v9 := Tryz.zeroValue9
 t37 := Tryz.underlying106
 a37 := Tryz.isAgg106
 z37 := Tryz.sizeOf106
 v37 := Tryz.zeroValue106
 t70 := Tryz.underlying107
 a70 := Tryz.isAgg107
 z70 := Tryz.sizeOf107
 v70 := Tryz.zeroValue107
 t72 := Tryz.underlying109
 a72 := Tryz.isAgg109
 z72 := Tryz.sizeOf109
 v72 := Tryz.zeroValue109
 t127 := Tryz.underlying130
 a127 := Tryz.isAgg130
 z127 := Tryz.sizeOf130
 v127 := Tryz.zeroValue130 }
theorem Tryz.Builder_Extra_169 : Builder.Extra Tryz.prog Tryz.lays169_ren := {
 sizeBuilder := by kernel_rfl
 liesBuilder := by kernel_rfl
 t5 := Tryz.underlying5
 a5 := Tryz.isAgg5
 z5 := Tryz.sizeOf5
 v5 := Tryz.zeroValue5
 infoByte := by kernel_rfl
 cellsByte := by kernel_rfl
 sizeByte := by kernel_rfl
 neB5 := by decide }
def Tryz.lays162_ren : Go.Shelf.Ren := ⟨fun | 162 => 48 | 232 => 73 | 227 => 74 | 234 => 75 | 236 => 76 | 228 => 95 | 271 => 96 | 151 => 97 | 120 => 118 | 197 => 77 | 152 => 119 | 260 => 98 | 137 => 126 | 119 => 51 | 224 => 109 | 225 => 108 | 217 => 107 | 266 => 121 | n => n, fun | 9 => 9 | 4 => 4 | 3 => 3 | 5 => 5 | 117 => 119 | 116 => 118 | 0 => 0 | 124 => 122 | 21 => 21 | 105 => 123 | 46 => 94 | 119 => 158 | 139 => 161 | 138 => 160 | n => n, fun | 3 => 2 | 4 => 3 | n => n⟩
theorem Tryz.lays162 : Go.Proofs.Lays.n162 Tryz.prog Tryz.lays162_ren := {
 mixed := by kernel_rfl
 f119 := Tryz.func51.trans (congrArg some (by kernel_rfl))
 f120 := Tryz.func118.trans (congrArg some (by kernel_rfl))
 f137 := Tryz.func126.trans (congrArg some (by kernel_rfl))
 f151 := Tryz.func97.trans (congrArg some (by kernel_rfl))
 f152 := Tryz.func119.trans (congrArg some (by kernel_rfl))
 f162 := Tryz.func48.trans (congrArg some (by kernel_rfl))
 f197 := Tryz.func77.trans (congrArg some (by kernel_rfl))
 f217 := Tryz.func107.trans (congrArg some (by kernel_rfl))
 f224 := Tryz.func109.trans (congrArg some (by kernel_rfl))
 f225 := Tryz.func108.trans (congrArg some (by kernel_rfl))
 f227 := Tryz.func74.trans (congrArg some (by kernel_rfl))
 f228 := Tryz.func95.trans (congrArg some (by kernel_rfl))
 f232 := Tryz.func73.trans (congrArg some (by kernel_rfl))
 f234 := Tryz.func75.trans (congrArg some (by kernel_rfl))
 f236 := Tryz.func76.trans (congrArg some (by kernel_rfl))
 f260 := Tryz.func98.trans (congrArg some (by kernel_rfl))
 f266 := Tryz.func121.trans (congrArg some (by kernel_rfl))
 f271 := Tryz.func96.trans (congrArg some (by kernel_rfl))
 t0 := Tryz.underlying0
 a0 := Tryz.isAgg0
 z0 := Tryz.sizeOf0
 v0 := Tryz.zeroValue0
 t3 := Tryz.underlying3
 a3 := Tryz.isAgg3
 z3 := Tryz.sizeOf3
 v3 := Tryz.zeroValue3
 t4 := Tryz.underlying4
 a4 := Tryz.isAgg4
 z4 := Tryz.sizeOf4
 v4 := Tryz.zeroValue4
 t5 := Tryz.underlying5
 a5 := Tryz.isAgg5
 z5 := Tryz.sizeOf5
 v5 := Tryz.zeroValue5
 t9 := Tryz.underlying9
 a9 := Tryz.isAgg9
 z9 := Tryz.sizeOf9
 v9 := Tryz.zeroValue9
 t21 := Tryz.underlying21
 a21 := Tryz.isAgg21
 z21 := Tryz.sizeOf21
 v21 := Tryz.zeroValue21
 t46 := Tryz.underlying94
 a46 := Tryz.isAgg94
 z46 := Tryz.sizeOf94
 v46 := Tryz.zeroValue94
 t105 := Tryz.underlying123
 a105 := Tryz.isAgg123
 z105 := Tryz.sizeOf123
 v105 := Tryz.zeroValue123
 t116 := Tryz.underlying118
 a116 := Tryz.isAgg118
 z116 := Tryz.sizeOf118
 t117 := Tryz.underlying119
 a117 := Tryz.isAgg119
 z117 := Tryz.sizeOf119
 v117 := Tryz.zeroValue119
 t119 := Tryz.underlying158
 a119 := Tryz.isAgg158
 z119 := Tryz.sizeOf158
 t124 := Tryz.underlying122
 a124 := Tryz.isAgg122
 z124 := Tryz.sizeOf122
 v124 := Tryz.zeroValue122
 t138 := Tryz.underlying160
 a138 := Tryz.isAgg160
 z138 := Tryz.sizeOf160
 v138 := Tryz.zeroValue160
 t139 := Tryz.underlying161
 a139 := Tryz.isAgg161
 z139 := Tryz.sizeOf161
 v139 := Tryz.zeroValue161
 g3 := by kernel_rfl
 g4 := by kernel_rfl }
open Go.RowKit in
theorem Tryz.strings_TrimRight_one (s : ByteArray) (c : UInt8) (hc : c.toNat < 128) (w : World) (hs : s.size ≤ 9223372036854775807) :
  Calls Tryz.prog 48 #[.string s, .string ⟨#[c]⟩] w fun e w' => e = .returned (.string ⟨(Lib.trimRightB s.data.toList c).toArray⟩) ∧ w' = w := Any.strings_TrimRight_one Tryz.lays162 s c hc w hs
def Tryz.lays160_ren : Go.Shelf.Ren := ⟨fun | 160 => 79 | 232 => 73 | 231 => 100 | 227 => 74 | 234 => 75 | 233 => 101 | 236 => 76 | 235 => 102 | 228 => 95 | 271 => 96 | 151 => 97 | 197 => 77 | 120 => 118 | 152 => 119 | 260 => 98 | 137 => 126 | 119 => 51 | 224 => 109 | 225 => 108 | 217 => 107 | 266 => 121 | n => n, fun | 9 => 9 | 4 => 4 | 3 => 3 | 5 => 5 | 117 => 119 | 116 => 118 | 0 => 0 | 124 => 122 | 21 => 21 | 105 => 123 | 46 => 94 | 119 => 158 | 139 => 161 | 138 => 160 | n => n, fun | 3 => 2 | 4 => 3 | n => n⟩
theorem Tryz.lays160 : Go.Proofs.Lays.n160 Tryz.prog Tryz.lays160_ren := {
 mixed := by kernel_rfl
 f119 := Tryz.func51.trans (congrArg some (by kernel_rfl))
 f120 := Tryz.func118.trans (congrArg some (by kernel_rfl))
 f137 := Tryz.func126.trans (congrArg some (by kernel_rfl))
 f151 := Tryz.func97.trans (congrArg some (by kernel_rfl))
 f152 := Tryz.func119.trans (congrArg some (by kernel_rfl))
 f160 := Tryz.func79.trans (congrArg some (by kernel_rfl))
 f197 := Tryz.func77.trans (congrArg some (by kernel_rfl))
 f217 := Tryz.func107.trans (congrArg some (by kernel_rfl))
 f224 := Tryz.func109.trans (congrArg some (by kernel_rfl))
 f225 := Tryz.func108.trans (congrArg some (by kernel_rfl))
 f227 := Tryz.func74.trans (congrArg some (by kernel_rfl))
 f228 := Tryz.func95.trans (congrArg some (by kernel_rfl))
 f231 := Tryz.func100.trans (congrArg some (by kernel_rfl))
 f232 := Tryz.func73.trans (congrArg some (by kernel_rfl))
 f233 := Tryz.func101.trans (congrArg some (by kernel_rfl))
 f234 := Tryz.func75.trans (congrArg some (by kernel_rfl))
 f235 := Tryz.func102.trans (congrArg some (by kernel_rfl))
 f236 := Tryz.func76.trans (congrArg some (by kernel_rfl))
 f260 := Tryz.func98.trans (congrArg some (by kernel_rfl))
 f266 := Tryz.func121.trans (congrArg some (by kernel_rfl))
 f271 := Tryz.func96.trans (congrArg some (by kernel_rfl))
 t0 := Tryz.underlying0
 a0 := Tryz.isAgg0
 z0 := Tryz.sizeOf0
 v0 := Tryz.zeroValue0
 t3 := Tryz.underlying3
 a3 := Tryz.isAgg3
 z3 := Tryz.sizeOf3
 v3 := Tryz.zeroValue3
 t4 := Tryz.underlying4
 a4 := Tryz.isAgg4
 z4 := Tryz.sizeOf4
 v4 := Tryz.zeroValue4
 t5 := Tryz.underlying5
 a5 := Tryz.isAgg5
 z5 := Tryz.sizeOf5
 v5 := Tryz.zeroValue5
 t9 := Tryz.underlying9
 a9 := Tryz.isAgg9
 z9 := Tryz.sizeOf9
 v9 := Tryz.zeroValue9
 t21 := Tryz.underlying21
 a21 := Tryz.isAgg21
 z21 := Tryz.sizeOf21
 v21 := Tryz.zeroValue21
 t46 := Tryz.underlying94
 a46 := Tryz.isAgg94
 z46 := Tryz.sizeOf94
 v46 := Tryz.zeroValue94
 t105 := Tryz.underlying123
 a105 := Tryz.isAgg123
 z105 := Tryz.sizeOf123
 v105 := Tryz.zeroValue123
 t116 := Tryz.underlying118
 a116 := Tryz.isAgg118
 z116 := Tryz.sizeOf118
 t117 := Tryz.underlying119
 a117 := Tryz.isAgg119
 z117 := Tryz.sizeOf119
 v117 := Tryz.zeroValue119
 t119 := Tryz.underlying158
 a119 := Tryz.isAgg158
 z119 := Tryz.sizeOf158
 t124 := Tryz.underlying122
 a124 := Tryz.isAgg122
 z124 := Tryz.sizeOf122
 v124 := Tryz.zeroValue122
 t138 := Tryz.underlying160
 a138 := Tryz.isAgg160
 z138 := Tryz.sizeOf160
 v138 := Tryz.zeroValue160
 t139 := Tryz.underlying161
 a139 := Tryz.isAgg161
 z139 := Tryz.sizeOf161
 v139 := Tryz.zeroValue161
 g3 := by kernel_rfl
 g4 := by kernel_rfl }
open Go.RowKit in
theorem Tryz.strings_Trim_one (s : ByteArray) (c : UInt8) (hc : c.toNat < 128) (w : World) (hs : s.size ≤ 9223372036854775807) :
  Calls Tryz.prog 79 #[.string s, .string ⟨#[c]⟩] w fun e w' => e = .returned (.string ⟨(Lib.trimB s.data.toList c).toArray⟩) ∧ (w' = w ∨ w' = w.drew) := Any.strings_Trim_one Tryz.lays160 s c hc w hs
def Tryz.lays103_ren : Go.Shelf.Ren := ⟨fun | 103 => 78 | 210 => 99 | 206 => 105 | n => n, fun | 9 => 9 | 4 => 4 | 24 => 100 | 3 => 3 | n => n, fun | n => n⟩
theorem Tryz.lays103 : Go.Proofs.Lays.n103 Tryz.prog Tryz.lays103_ren := {
 mixed := by kernel_rfl
 f103 := Tryz.func78.trans (congrArg some (by kernel_rfl))
 f206 := Tryz.func105.trans (congrArg some (by kernel_rfl))
 f210 := Tryz.func99.trans (congrArg some (by kernel_rfl))
 t3 := Tryz.underlying3
 a3 := Tryz.isAgg3
 z3 := Tryz.sizeOf3
 v3 := Tryz.zeroValue3
 t4 := Tryz.underlying4
 a4 := Tryz.isAgg4
 z4 := Tryz.sizeOf4
 v4 := Tryz.zeroValue4
 t9 := Tryz.underlying9
 a9 := Tryz.isAgg9
 z9 := Tryz.sizeOf9
 v9 := Tryz.zeroValue9
 t24 := Tryz.underlying100
 a24 := Tryz.isAgg100
 z24 := Tryz.sizeOf100
 v24 := Tryz.zeroValue100 }
open Go.RowKit in
theorem Tryz.strings_CutPrefix (s p : ByteArray) (w : World) :
  Calls Tryz.prog 78 #[.string s, .string p] w fun e w' => e = .returned (.tuple #[.string ⟨(Lib.trimPrefix s.data.toList p.data.toList).toArray⟩, .bool (Lib.hasPrefix s.data.toList p.data.toList)]) ∧ w' = w := Any.strings_CutPrefix Tryz.lays103 s p w
def Tryz.lays195_ren : Go.Shelf.Ren := ⟨fun | 195 => 81 | n => n, fun | 9 => 9 | 3 => 3 | 0 => 0 | 4 => 4 | n => n, fun | n => n⟩
theorem Tryz.lays195 : Go.Proofs.Lays.n195 Tryz.prog Tryz.lays195_ren := {
 mixed := by kernel_rfl
 f195 := Tryz.func81.trans (congrArg some (by kernel_rfl))
 t0 := Tryz.underlying0
 a0 := Tryz.isAgg0
 z0 := Tryz.sizeOf0
 v0 := Tryz.zeroValue0
 t3 := Tryz.underlying3
 a3 := Tryz.isAgg3
 z3 := Tryz.sizeOf3
 v3 := Tryz.zeroValue3
 t4 := Tryz.underlying4
 a4 := Tryz.isAgg4
 z4 := Tryz.sizeOf4
 v4 := Tryz.zeroValue4
 t9 := Tryz.underlying9
 a9 := Tryz.isAgg9
 z9 := Tryz.sizeOf9
 v9 := Tryz.zeroValue9 }
open Go.RowKit in
theorem Tryz.utf8_RuneCountInString (s : ByteArray) (w : World) (hs : s.size < 9223372036854775807) :
  Calls Tryz.prog 81 #[.string s] w fun e w' => e = .returned (.int .i64 (Lib.runeCount s)) ∧ ∃ pos, w' = w.iter s pos := Any.utf8_RuneCountInString Tryz.lays195 s w hs
def Tryz.lays283_ren : Go.Shelf.Ren := ⟨fun | 283 => 91 | n => n, fun | 3 => 3 | 9 => 9 | 4 => 4 | n => n, fun | n => n⟩
theorem Tryz.lays283 : Go.Proofs.Lays.n283 Tryz.prog Tryz.lays283_ren := {
 mixed := by kernel_rfl
 f283 := Tryz.func91.trans (congrArg some (by kernel_rfl))
 t3 := Tryz.underlying3
 a3 := Tryz.isAgg3
 z3 := Tryz.sizeOf3
 v3 := Tryz.zeroValue3
 t4 := Tryz.underlying4
 a4 := Tryz.isAgg4
 z4 := Tryz.sizeOf4
 v4 := Tryz.zeroValue4
 t9 := Tryz.underlying9
 a9 := Tryz.isAgg9
 z9 := Tryz.sizeOf9
 v9 := Tryz.zeroValue9 }
open Go.Lib in
theorem Tryz.internal_strconv_small (i : Nat) (h : i < 100) (w : World) :
  Calls Tryz.prog 91 #[.int .i64 i] w fun e w' => e = .returned (.string ⟨(Lib.decDigits i).toArray⟩) ∧ w' = w := Any.internal_strconv_small Tryz.lays283 i h w
def Tryz.laysM284_ren : Go.Shelf.Ren := ⟨fun | 284 => 92 | 129 => 114 | 317 => 113 | 318 => 115 | n => n, fun | 53 => 70 | 3 => 3 | 212 => 154 | 0 => 0 | 4 => 4 | 46 => 94 | 5 => 5 | 9 => 9 | n => n, fun | 17 => 1 | n => n⟩
theorem Tryz.laysM284 : Go.Proofs.LaysM.n284 Tryz.prog Tryz.laysM284_ren := {
 mixed := by kernel_rfl
 f129 := Tryz.func114.trans (congrArg some (by kernel_rfl))
 f284 := Tryz.func92.trans (congrArg some (by kernel_rfl))
 f317 := Tryz.func113.trans (congrArg some (by kernel_rfl))
 f318 := Tryz.func115.trans (congrArg some (by kernel_rfl))
 t0 := Tryz.underlying0
 a0 := Tryz.isAgg0
 z0 := Tryz.sizeOf0
 v0 := Tryz.zeroValue0
 t3 := Tryz.underlying3
 a3 := Tryz.isAgg3
 z3 := Tryz.sizeOf3
 v3 := Tryz.zeroValue3
 t4 := Tryz.underlying4
 a4 := Tryz.isAgg4
 z4 := Tryz.sizeOf4
 v4 := Tryz.zeroValue4
 t5 := Tryz.underlying5
 a5 := Tryz.isAgg5
 z5 := Tryz.sizeOf5
 v5 := Tryz.zeroValue5
 t9 := Tryz.underlying9
 a9 := Tryz.isAgg9
 z9 := Tryz.sizeOf9
 v9 := Tryz.zeroValue9
 t46 := Tryz.underlying94
 a46 := Tryz.isAgg94
 z46 := Tryz.sizeOf94
 v46 := Tryz.zeroValue94
 t53 := Tryz.underlying70
 a53 := Tryz.isAgg70
 z53 := Tryz.sizeOf70
 v53 := Tryz.zeroValue70
 t212 := Tryz.underlying154
 a212 := Tryz.isAgg154
 z212 := Tryz.sizeOf154
 v212 := Tryz.zeroValue154
 g17 := by kernel_rfl
 i0 := by kernel_rfl
 i3 := by kernel_rfl
 i4 := by kernel_rfl
 i5 := by kernel_rfl
 i9 := by kernel_rfl
 i46 := by kernel_rfl
 i53 := by kernel_rfl
 i212 := by kernel_rfl
 m17 := by kernel_rfl }
open Go.Lib in
theorem Tryz.internal_strconv_numDigits (u : Nat) (h1 : 1 ≤ u) (h2 : u < 18446744073709551616) (w : World) (htab : Lib.TabIs Tryz.prog w "internal/strconv.uint64pow10" .u64 Lib.pow10Tab) :
  Calls Tryz.prog 92 #[.int .u64 u] w fun e w' => e = .returned (.int .i64 (Lib.nDigits u)) ∧ w' = w := Any.internal_strconv_numDigits Tryz.laysM284 u h1 h2 w htab
def Tryz.lays285_ren : Go.Shelf.Ren := ⟨fun | 285 => 93 | n => n, fun | 37 => 106 | 53 => 70 | 3 => 3 | 4 => 4 | 51 => 145 | 9 => 9 | 5 => 5 | 0 => 0 | n => n, fun | n => n⟩
theorem Tryz.lays285 : Go.Proofs.Lays.n285 Tryz.prog Tryz.lays285_ren := {
 mixed := by kernel_rfl
 f285 := Tryz.func93.trans (congrArg some (by kernel_rfl))
 t0 := Tryz.underlying0
 a0 := Tryz.isAgg0
 z0 := Tryz.sizeOf0
 v0 := Tryz.zeroValue0
 t3 := Tryz.underlying3
 a3 := Tryz.isAgg3
 z3 := Tryz.sizeOf3
 v3 := Tryz.zeroValue3
 t4 := Tryz.underlying4
 a4 := Tryz.isAgg4
 z4 := Tryz.sizeOf4
 v4 := Tryz.zeroValue4
 t5 := Tryz.underlying5
 a5 := Tryz.isAgg5
 z5 := Tryz.sizeOf5
 v5 := Tryz.zeroValue5
 t9 := Tryz.underlying9
 a9 := Tryz.isAgg9
 z9 := Tryz.sizeOf9
 v9 := Tryz.zeroValue9
 t37 := Tryz.underlying106
 a37 := Tryz.isAgg106
 z37 := Tryz.sizeOf106
 v37 := Tryz.zeroValue106
 t51 := Tryz.underlying145
 a51 := Tryz.isAgg145
 z51 := Tryz.sizeOf145
 v51 := Tryz.zeroValue145
 t53 := Tryz.underlying70
 a53 := Tryz.isAgg70
 z53 := Tryz.sizeOf70
 v53 := Tryz.zeroValue70 }
open Go.RowKit Go.Sort Go.Lib in
theorem Tryz.internal_strconv_formatBase10 (blk off cap : Nat) (u : Nat) (d : Array UInt8) (w : World) (hH : Holds (fun (b : UInt8) => Value.int .u8 (b.toNat : Int)) w blk off d) (hu : u < 10 ^ d.size) (hu64 : u < 18446744073709551616) (hsz : d.size < 4611686018427387904) :
  Calls Tryz.prog 93 #[.slice (some ⟨blk, off, none⟩) d.size cap, .int .u64 u] w fun e w' =>
   e = .returned (.tuple #[]) ∧ ∃ (n v' : Nat) (dk : Array UInt8), w' = (putRow (fun (b : UInt8) => Value.int .u8 (b.toNat : Int)) w blk off dk).drewN n ∧ FmtInv d.size u 0 v' dk := Any.internal_strconv_formatBase10 Tryz.lays285 blk off cap u d w hH hu hu64 hsz
def Tryz.lays219_ren : Go.Shelf.Ren := ⟨fun | 219 => 85 | 217 => 107 | 225 => 108 | 224 => 109 | 267 => 110 | 266 => 121 | 314 => 122 | n => n, fun | 9 => 9 | 3 => 3 | 4 => 4 | 5 => 5 | 46 => 94 | 146 => 146 | 51 => 145 | n => n, fun | 1 => 0 | n => n⟩
theorem Tryz.lays219 : Go.Proofs.Lays.n219 Tryz.prog Tryz.lays219_ren := {
 mixed := by kernel_rfl
 f217 := Tryz.func107.trans (congrArg some (by kernel_rfl))
 f219 := Tryz.func85.trans (congrArg some (by kernel_rfl))
 f224 := Tryz.func109.trans (congrArg some (by kernel_rfl))
 f225 := Tryz.func108.trans (congrArg some (by kernel_rfl))
 f266 := Tryz.func121.trans (congrArg some (by kernel_rfl))
 f267 := Tryz.func110.trans (congrArg some (by kernel_rfl))
 f314 := Tryz.func122.trans (congrArg some (by kernel_rfl))
 t3 := Tryz.underlying3
 a3 := Tryz.isAgg3
 z3 := Tryz.sizeOf3
 v3 := Tryz.zeroValue3
 t4 := Tryz.underlying4
 a4 := Tryz.isAgg4
 z4 := Tryz.sizeOf4
 v4 := Tryz.zeroValue4
 t5 := Tryz.underlying5
 a5 := Tryz.isAgg5
 z5 := Tryz.sizeOf5
 v5 := Tryz.zeroValue5
 t9 := Tryz.underlying9
 a9 := Tryz.isAgg9
 z9 := Tryz.sizeOf9
 v9 := Tryz.zeroValue9
 t46 := Tryz.underlying94
 a46 := Tryz.isAgg94
 z46 := Tryz.sizeOf94
 v46 := Tryz.zeroValue94
 t51 := Tryz.underlying145
 a51 := Tryz.isAgg145
 z51 := Tryz.sizeOf145
 v51 := Tryz.zeroValue145
 t146 := Tryz.underlying146
 a146 := Tryz.isAgg146
 z146 := Tryz.sizeOf146
 v146 := Tryz.zeroValue146
 g1 := by kernel_rfl }
open Go.RowKit Go.Lib in
theorem Tryz.stringslite_Index_one (s : ByteArray) (c : UInt8) (w : World) :
  Calls Tryz.prog 85 #[.string s, .string ⟨#[c]⟩] w fun e w' => e = .returned (.int .i64 (Lib.indexByte s.data.toList c)) ∧ w' = w := Any.stringslite_Index_one Tryz.lays219 s c w
def Tryz.lays143_ren : Go.Shelf.Ren := ⟨fun | 143 => 61 | 219 => 85 | 217 => 107 | 225 => 108 | 224 => 109 | 267 => 110 | 266 => 121 | 314 => 122 | n => n, fun | 9 => 9 | 3 => 3 | 4 => 4 | 5 => 5 | 46 => 94 | 146 => 146 | 51 => 145 | n => n, fun | 1 => 0 | n => n⟩
theorem Tryz.lays143 : Go.Proofs.Lays.n143 Tryz.prog Tryz.lays143_ren := {
 mixed := by kernel_rfl
 f143 := Tryz.func61.trans (congrArg some (by kernel_rfl))
 f217 := Tryz.func107.trans (congrArg some (by kernel_rfl))
 f219 := Tryz.func85.trans (congrArg some (by kernel_rfl))
 f224 := Tryz.func109.trans (congrArg some (by kernel_rfl))
 f225 := Tryz.func108.trans (congrArg some (by kernel_rfl))
 f266 := Tryz.func121.trans (congrArg some (by kernel_rfl))
 f267 := Tryz.func110.trans (congrArg some (by kernel_rfl))
 f314 := Tryz.func122.trans (congrArg some (by kernel_rfl))
 t3 := Tryz.underlying3
 a3 := Tryz.isAgg3
 z3 := Tryz.sizeOf3
 v3 := Tryz.zeroValue3
 t4 := Tryz.underlying4
 a4 := Tryz.isAgg4
 z4 := Tryz.sizeOf4
 v4 := Tryz.zeroValue4
 t5 := Tryz.underlying5
 a5 := Tryz.isAgg5
 z5 := Tryz.sizeOf5
 v5 := Tryz.zeroValue5
 t9 := Tryz.underlying9
 a9 := Tryz.isAgg9
 z9 := Tryz.sizeOf9
 v9 := Tryz.zeroValue9
 t46 := Tryz.underlying94
 a46 := Tryz.isAgg94
 z46 := Tryz.sizeOf94
 v46 := Tryz.zeroValue94
 t51 := Tryz.underlying145
 a51 := Tryz.isAgg145
 z51 := Tryz.sizeOf145
 v51 := Tryz.zeroValue145
 t146 := Tryz.underlying146
 a146 := Tryz.isAgg146
 z146 := Tryz.sizeOf146
 v146 := Tryz.zeroValue146
 g1 := by kernel_rfl }
open Go.RowKit Go.Lib in
theorem Tryz.strings_Index (s sub : ByteArray) (m : Int) (w : World) (hs : s.size < 4294967281) (hm : w.cell? ⟨0, 0, none⟩ = some (.int .i64 m)) :
  Calls Tryz.prog 61 #[.string s, .string sub] w fun e w' => e = .returned (.int .i64 (Lib.index s.data.toList sub.data.toList)) ∧ w' = w := Any.strings_Index Tryz.lays143 s sub m w hs hm
def Tryz.lays197_ren : Go.Shelf.Ren := ⟨fun | 197 => 77 | 260 => 98 | n => n, fun | 9 => 9 | 21 => 21 | 3 => 3 | 4 => 4 | 5 => 5 | 105 => 123 | 119 => 158 | 0 => 0 | 46 => 94 | 139 => 161 | 138 => 160 | n => n, fun | 3 => 2 | 4 => 3 | n => n⟩
theorem Tryz.lays197 : Go.Proofs.Lays.n197 Tryz.prog Tryz.lays197_ren := {
 mixed := by kernel_rfl
 f197 := Tryz.func77.trans (congrArg some (by kernel_rfl))
 f260 := Tryz.func98.trans (congrArg some (by kernel_rfl))
 t0 := Tryz.underlying0
 a0 := Tryz.isAgg0
 z0 := Tryz.sizeOf0
 v0 := Tryz.zeroValue0
 t3 := Tryz.underlying3
 a3 := Tryz.isAgg3
 z3 := Tryz.sizeOf3
 v3 := Tryz.zeroValue3
 t4 := Tryz.underlying4
 a4 := Tryz.isAgg4
 z4 := Tryz.sizeOf4
 v4 := Tryz.zeroValue4
 t5 := Tryz.underlying5
 a5 := Tryz.isAgg5
 z5 := Tryz.sizeOf5
 v5 := Tryz.zeroValue5
 t9 := Tryz.underlying9
 a9 := Tryz.isAgg9
 z9 := Tryz.sizeOf9
 v9 := Tryz.zeroValue9
 t21 := Tryz.underlying21
 a21 := Tryz.isAgg21
 z21 := Tryz.sizeOf21
 v21 := Tryz.zeroValue21
 t46 := Tryz.underlying94
 a46 := Tryz.isAgg94
 z46 := Tryz.sizeOf94
 v46 := Tryz.zeroValue94
 t105 := Tryz.underlying123
 a105 := Tryz.isAgg123
 z105 := Tryz.sizeOf123
 v105 := Tryz.zeroValue123
 t119 := Tryz.underlying158
 a119 := Tryz.isAgg158
 z119 := Tryz.sizeOf158
 t138 := Tryz.underlying160
 a138 := Tryz.isAgg160
 z138 := Tryz.sizeOf160
 v138 := Tryz.zeroValue160
 t139 := Tryz.underlying161
 a139 := Tryz.isAgg161
 z139 := Tryz.sizeOf161
 v139 := Tryz.zeroValue161
 g3 := by kernel_rfl
 g4 := by kernel_rfl }
def Tryz.lays264_ren : Go.Shelf.Ren := ⟨fun | 264 => 27 | n => n, fun | 53 => 70 | 46 => 94 | n => n, fun | n => n⟩
theorem Tryz.lays264 : Go.Proofs.Lays.n264 Tryz.prog Tryz.lays264_ren := {
 mixed := by kernel_rfl
 f264 := Tryz.func27.trans (congrArg some (by kernel_rfl))
 t46 := Tryz.underlying94
 a46 := Tryz.isAgg94
 z46 := Tryz.sizeOf94
 v46 := Tryz.zeroValue94
 t53 := Tryz.underlying70
 a53 := Tryz.isAgg70
 z53 := Tryz.sizeOf70
 v53 := Tryz.zeroValue70 }
open Go.RowKit Go.Lib in
theorem Tryz.bits_Mul64 (x y : Nat) (hx : x < 18446744073709551616) (hy : y < 18446744073709551616) (w : World) :
  Calls Tryz.prog 27 #[.int .u64 x, .int .u64 y] w fun e w' => e = .returned (.tuple #[.int .u64 ((x * y / 18446744073709551616 : Nat) : Int), .int .u64 ((x * y % 18446744073709551616 : Nat) : Int)]) ∧ w' = w := Any.bits_Mul64 Tryz.lays264 x y hx hy w
def Tryz.lays260_ren : Go.Shelf.Ren := ⟨fun | 260 => 98 | n => n, fun | 9 => 9 | 21 => 21 | 3 => 3 | 4 => 4 | 5 => 5 | 119 => 158 | 0 => 0 | 46 => 94 | 139 => 161 | 138 => 160 | n => n, fun | 3 => 2 | 4 => 3 | n => n⟩
theorem Tryz.lays260 : Go.Proofs.Lays.n260 Tryz.prog Tryz.lays260_ren := {
 mixed := by kernel_rfl
 f260 := Tryz.func98.trans (congrArg some (by kernel_rfl))
 t0 := Tryz.underlying0
 a0 := Tryz.isAgg0
 z0 := Tryz.sizeOf0
 v0 := Tryz.zeroValue0
 t3 := Tryz.underlying3
 a3 := Tryz.isAgg3
 z3 := Tryz.sizeOf3
 v3 := Tryz.zeroValue3
 t4 := Tryz.underlying4
 a4 := Tryz.isAgg4
 z4 := Tryz.sizeOf4
 v4 := Tryz.zeroValue4
 t5 := Tryz.underlying5
 a5 := Tryz.isAgg5
 z5 := Tryz.sizeOf5
 v5 := Tryz.zeroValue5
 t9 := Tryz.underlying9
 a9 := Tryz.isAgg9
 z9 := Tryz.sizeOf9
 v9 := Tryz.zeroValue9
 t21 := Tryz.underlying21
 a21 := Tryz.isAgg21
 z21 := Tryz.sizeOf21
 v21 := Tryz.zeroValue21
 t46 := Tryz.underlying94
 a46 := Tryz.isAgg94
 z46 := Tryz.sizeOf94
 v46 := Tryz.zeroValue94
 t119 := Tryz.underlying158
 a119 := Tryz.isAgg158
 z119 := Tryz.sizeOf158
 t138 := Tryz.underlying160
 a138 := Tryz.isAgg160
 z138 := Tryz.sizeOf160
 v138 := Tryz.zeroValue160
 t139 := Tryz.underlying161
 a139 := Tryz.isAgg161
 z139 := Tryz.sizeOf161
 v139 := Tryz.zeroValue161
 g3 := by kernel_rfl
 g4 := by kernel_rfl }
open Go.RowKit Go.Lib in
theorem Tryz.utf8_DecodeRuneInString (s : ByteArray) (w : World) (hT : Lib.Utf8Tabs 2 3 w) :
  Calls Tryz.prog 77 #[.string s] w fun e w' => e = .returned (.tuple #[.int .i32 (Lib.decodeGo s).1, .int .i64 (Lib.decodeGo s).2]) ∧ Below w.heap.size w w' := Any.utf8_DecodeRuneInString Tryz.lays197 s w hT
end Go.Proofs
namespace Go.A
open Go.Proofs
section
variable {P : Program} {σ : ASt} {w : World}
theorem reps_ints {k : IntKind} : ∀ {zs : List Int} {vs : List Value}, Reps σ w (zs.map (AV.int k)) vs → vs = zs.map (Value.int k)
 | [], vs, h => by cases h; rfl
 | z :: zs, vs, h => by
   cases h with
   | cons h1 h2 =>
     cases h1
     rw [reps_ints h2]
     rfl
theorem tabIs_of (hs : Sim σ w) {name : String} {b : Nat} {k : IntKind} {zs : List Int} (hg : P.globalNamed name = some b) (hb : σ b = some (.fix (zs.map (AV.int k)))) : Lib.TabIs P w name k zs := by
 obtain ⟨h1, c, T, fr, h2, h3⟩ := hs b _ hb
 obtain ⟨vs, h4, h5⟩ := h1.vals
 have h6 := reps_ints h4
 subst h6
 unfold Lib.TabIs World.var?
 rw [hg, Option.bind_some]
 simp only [h2]
 congr 1
 apply Array.ext
 ·simp [h3]
 ·intro j hj hj'
  have h7 := h5 j (Value.int k (zs[j]'(by simpa using hj'))) (by simp)
  simp only [World.cell?, h2, Nat.zero_add] at h7
  simp at h7 ⊢
  obtain ⟨_, h7⟩ := Array.getElem?_eq_some_iff.1 h7
  exact h7
theorem ACalls.of_ext {f : FuncId} {args : List AV} {r : AV} {u : Value} (h : ∀ w vs, Sim σ w → Reps σ w args vs → Calls P f ⟨vs⟩ w fun e w' => e = .returned u ∧ Ext w w') (hr : ∀ w, Rep σ w r u) : ACalls P f args σ fun v σ' => v = r ∧ σ' = σ :=
 fun w vs hs ha => (h w vs hs ha).mono fun e w' ⟨he, hx⟩ => ⟨u, r, σ, he, ⟨rfl, rfl⟩, ext_le hx, hs.ext hx, hr w'⟩
theorem ext_grow (w : World) (k : Nat) (os : Array Obj) : Ext w (Go.Sort.grow (w.drewN k) os) := ⟨⟨os, w.drawn + k⟩, rfl⟩
end
theorem Ext.of_eq {w w' : World} (h : w' = w) : Ext w w' := h ▸ Ext.refl w
def Tab (σ : ASt) : Prop := σ 1 = some (.fix (Lib.pow10Tab.map (AV.int .u64)))
theorem Tab.set {σ : ASt} {b : Nat} {r : Option Role} (h : Tab σ) (hb : σ b = none) : Tab (σ.set b r) := by
 unfold Tab at *
 rw [ASt.set_ne]
 ·exact h
 ·intro e; rw [← e, h] at hb; cases hb
end Go.A
namespace Go.A
open Go.Proofs Go.Lib
def accTab : List Int := (List.range 16).flatMap fun i => [(accLo i : Int), (accHi i : Int)]
def U8 (σ : ASt) : Prop := σ 2 = some (.fix (firstTab.map (AV.int .u8))) ∧ σ 3 = some (.fix (accTab.map (AV.int .u8)))
theorem U8.of_eq {σ σ' : ASt} (h : U8 σ) (h1 : σ' 2 = σ 2) (h2 : σ' 3 = σ 3) : U8 σ' := ⟨h1.trans h.1, h2.trans h.2⟩
theorem U8.set {σ : ASt} {b : Nat} {r : Option Role} (h : U8 σ) (hb : σ b = none) : U8 (σ.set b r) := by
 refine h.of_eq (ASt.set_ne ?_) (ASt.set_ne ?_) <;> rintro rfl
 ·rw [h.1] at hb; cases hb
 ·rw [h.2] at hb; cases hb
theorem fix_ints {σ : ASt} {w : World} (hs : Sim σ w) {b : Nat} {k : IntKind} {zs : List Int} (h : σ b = some (.fix (zs.map (AV.int k)))) : ∀ j z, zs[j]? = some z → w.cell? ⟨b, j, none⟩ = some (.int k z) := by
 intro j z hj
 obtain ⟨vs, h4, h5⟩ := (hs b _ h).1.vals
 have h6 := reps_ints h4
 subst h6
 have := h5 j (Value.int k z) (by simp [hj])
 simpa using this
theorem u8_tabs {σ : ASt} {w : World} (hs : Sim σ w) (h : U8 σ) : Utf8Tabs 2 3 w := by
 refine ⟨fun c hc => fix_ints hs h.1 c _ (by simp [firstTab, hc]), fun i hi => ?_⟩
 have key : ∀ i, i < 16 → accTab[2 * i]? = some (accLo i : Int) ∧ accTab[2 * i + 1]? = some (accHi i : Int) := by decide
 exact ⟨fix_ints hs h.2 _ _ (key i hi).1, fix_ints hs h.2 _ _ (key i hi).2⟩
theorem ACalls.of_below {P : Program} {σ : ASt} {f : FuncId} {args : List AV} {r : AV} {u : Value} (h : ∀ w vs, Sim σ w → Reps σ w args vs → Calls P f ⟨vs⟩ w fun e w' => e = .returned u ∧ RowKit.Below w.heap.size w w') (hr : ∀ w, Rep σ w r u) : ACalls P f args σ fun v σ' => v = r ∧ σ' = σ :=
 ACalls.of_ext (fun w vs hs ha => (h w vs hs ha).mono fun e w' ⟨he, hb⟩ => ⟨he, Ext.of_below hb⟩) hr
theorem dec_ok {σ : ASt} (h : U8 σ) {l : List UInt8} (h0 : l ≠ []) : ACalls Tryz.prog 77 [.str l] σ fun v σ' => v = .tuple [.int .i32 (decodeL l).1, .int .i64 (decodeL l).2] ∧ σ' = σ := by
 refine ACalls.of_below (u := .tuple #[.int .i32 (decodeL l).1, .int .i64 (decodeL l).2]) (fun w vs hs ha => ?_) fun w => .tuple (.cons (.int _ _) (.cons (.int _ _) .nil))
 cases ha with
 | cons h1 h2 =>
 cases h1; cases h2
 have := Tryz.utf8_DecodeRuneInString ⟨⟨l⟩⟩ w (u8_tabs hs h)
 have e : decodeGo ⟨⟨l⟩⟩ = decodeL l := by
  unfold decodeGo decodeL
  rw [if_neg (by cases l; exact absurd rfl h0; simp [ByteArray.size])]
 rw [e] at this
 exact this
theorem count_ok (l : List UInt8) (hl : l.length < 9223372036854775807) : Pure Tryz.prog 81 [.str l] (.int .i64 (signsN l)) := by
 intro σ
 refine ACalls.of_ext (u := .int .i64 (signsN l)) (fun w vs hs ha => ?_) fun w => .int _ _
 cases ha with
 | cons h1 h2 =>
 cases h1; cases h2
 refine (Tryz.utf8_RuneCountInString ⟨⟨l⟩⟩ w (by simpa [ByteArray.size] using hl)).mono ?_
 rintro e w' ⟨rfl, pos, rfl⟩
 exact ⟨rfl, Ext.alloc (Ext.refl w) _⟩
end Go.A
namespace Go.A
open Go.Proofs
/-! 17: (tabular/deci.Dec).Whole -/
def c17_0 : ACode := .ops [
 ⟨some 2, none, .q (.mv (.v (.int .i64 0))), []⟩]
def c17_1 : ACode := .ops [
 ⟨some 3, none, .q (.mv (.t 0)), []⟩,
 ⟨some 4, none, .q (.bin .quo (.t 3) (.v (.int .i64 10000))), []⟩,
 ⟨some 2, none, .q (.mv (.t 4)), []⟩]
def c17_2 : ACode := .seq c17_1 .ret
def c17_3 : ACode := .seq c17_0 c17_2
@[go_sem] def c17_0_wp := wp_of c17_0.eq_1
@[go_sem] def c17_1_wp := wp_of c17_1.eq_1
@[go_sem] def c17_2_wp := wp_of c17_2.eq_1
@[go_sem] def c17_3_wp := wp_of c17_3.eq_1
def c17 : AFn := ⟨5, [.t 2], c17_3⟩
theorem c17_ok : compF Tryz.prog Tryz.f17 = some c17 := by kernel_rfl
theorem a17 {args : List AV} {σ : ASt} {R : AV → ASt → Prop} (hl : args.length ≤ 5) (h : c17_3.wp Tryz.prog (RetQ [.t 2] R) (init args) σ) : ACalls Tryz.prog 17 args σ R := acalls_of Tryz.func17 c17_ok hl h
/-! 24: (tabular/deci.Dec).Text -/
def c24_0 : ACode := .ops [
 ⟨some 2, none, .q (.mv (.v (.str []))), []⟩]
def c24_1 : ACode := .ops [
 ⟨some 6, none, .q (.mv (.t 0)), []⟩,
 ⟨some 7, none, .e (.call 46 [(.t 6)]), []⟩,
 ⟨some 3, none, .q (.mv (.t 7)), []⟩]
def c24_2 : ACode := .ops [
 ⟨some 8, none, .q (.mv (.t 3)), []⟩,
 ⟨some 9, none, .q (.bin .quo (.t 8) (.v (.int .u64 10000))), []⟩,
 ⟨some 10, none, .e (.call 47 [(.t 9), (.v (.int .i64 10))]), []⟩,
 ⟨some 4, none, .q (.mv (.t 10)), []⟩]
def c24_3 : ACode := .ops [
 ⟨some 11, none, .q (.mv (.t 3)), []⟩,
 ⟨some 12, none, .q (.bin .rem (.t 11) (.v (.int .u64 10000))), []⟩,
 ⟨some 5, none, .q (.mv (.t 12)), []⟩]
def c24_4 : ACode := .ops [
 ⟨some 13, none, .q (.mv (.t 5)), []⟩,
 ⟨some 14, none, .q (.bin .gtr (.t 13) (.v (.int .u64 0))), []⟩]
def c24_5 : ACode := .ops [
 ⟨some 15, none, .q (.mv (.t 4)), []⟩,
 ⟨some 16, none, .q (.mv (.t 5)), []⟩,
 ⟨some 17, none, .q (.bin .add (.v (.int .u64 10000)) (.t 16)), []⟩,
 ⟨some 18, none, .e (.call 47 [(.t 17), (.v (.int .i64 10))]), []⟩,
 ⟨some 19, none, .q (.slfrom (true, 0) (.t 18) (.v (.int .i64 1))), []⟩,
 ⟨some 20, none, .e (.call 48 [(.t 19), (.v (.str [48]))]), []⟩,
 ⟨some 21, none, .q (.bin .add (.v (.str [46])) (.t 20)), []⟩,
 ⟨some 22, none, .q (.bin .add (.t 15) (.t 21)), []⟩,
 ⟨some 4, none, .q (.mv (.t 22)), []⟩]
def c24_6 : ACode := .cond (.t 14) c24_5 .skip
def c24_7 : ACode := .seq c24_4 c24_6
def c24_8 : ACode := .seq c24_3 c24_7
def c24_9 : ACode := .ops [
 ⟨some 23, none, .q (.mv (.t 0)), []⟩,
 ⟨some 24, none, .q (.bin .lss (.t 23) (.v (.int .i64 0))), []⟩]
def c24_10 : ACode := .ops [
 ⟨some 25, none, .q (.mv (.t 4)), []⟩,
 ⟨some 26, none, .q (.bin .add (.v (.str [45])) (.t 25)), []⟩,
 ⟨some 2, none, .q (.mv (.t 26)), []⟩]
def c24_11 : ACode := .seq c24_10 .ret
def c24_12 : ACode := .cond (.t 24) c24_11 .skip
def c24_13 : ACode := .seq c24_9 c24_12
def c24_14 : ACode := .ops [
 ⟨some 27, none, .q (.mv (.t 4)), []⟩,
 ⟨some 2, none, .q (.mv (.t 27)), []⟩]
def c24_15 : ACode := .seq c24_14 .ret
def c24_16 : ACode := .seq c24_13 c24_15
def c24_17 : ACode := .seq c24_8 c24_16
def c24_18 : ACode := .seq c24_2 c24_17
def c24_19 : ACode := .seq c24_1 c24_18
def c24_20 : ACode := .seq c24_0 c24_19
@[go_sem] def c24_0_wp := wp_of c24_0.eq_1
@[go_sem] def c24_1_wp := wp_of c24_1.eq_1
@[go_sem] def c24_2_wp := wp_of c24_2.eq_1
@[go_sem] def c24_3_wp := wp_of c24_3.eq_1
@[go_sem] def c24_4_wp := wp_of c24_4.eq_1
@[go_sem] def c24_5_wp := wp_of c24_5.eq_1
@[go_sem] def c24_6_wp := wp_of c24_6.eq_1
@[go_sem] def c24_7_wp := wp_of c24_7.eq_1
@[go_sem] def c24_8_wp := wp_of c24_8.eq_1
@[go_sem] def c24_9_wp := wp_of c24_9.eq_1
@[go_sem] def c24_10_wp := wp_of c24_10.eq_1
@[go_sem] def c24_11_wp := wp_of c24_11.eq_1
@[go_sem] def c24_12_wp := wp_of c24_12.eq_1
@[go_sem] def c24_13_wp := wp_of c24_13.eq_1
@[go_sem] def c24_14_wp := wp_of c24_14.eq_1
@[go_sem] def c24_15_wp := wp_of c24_15.eq_1
@[go_sem] def c24_16_wp := wp_of c24_16.eq_1
@[go_sem] def c24_17_wp := wp_of c24_17.eq_1
@[go_sem] def c24_18_wp := wp_of c24_18.eq_1
@[go_sem] def c24_19_wp := wp_of c24_19.eq_1
@[go_sem] def c24_20_wp := wp_of c24_20.eq_1
def c24 : AFn := ⟨28, [.t 2], c24_20⟩
theorem c24_ok : compF Tryz.prog Tryz.f24 = some c24 := by kernel_rfl
theorem a24 {args : List AV} {σ : ASt} {R : AV → ASt → Prop} (hl : args.length ≤ 28) (h : c24_20.wp Tryz.prog (RetQ [.t 2] R) (init args) σ) : ACalls Tryz.prog 24 args σ R := acalls_of Tryz.func24 c24_ok hl h
/-! 28: tabular/deci.made -/
def c28_0 : ACode := .ops [
 ⟨some 6, none, .q (.mv (.v (.int .i64 0))), []⟩,
 ⟨some 7, none, .q (.mv (.v (.bool false))), []⟩]
def c28_1 : ACode := .ops [
 ⟨some 8, none, .q (.mv (.t 1)), []⟩,
 ⟨some 9, none, .q (.bin .gtr (.t 8) (.v (.int .u64 0))), []⟩,
 ⟨some 10, none, .q (.mv (.t 9)), []⟩,
 ⟨some 11, some (10, false), .q (.mv (.t 2)), []⟩,
 ⟨some 12, some (10, false), .q (.bin .gtr (.t 11) (.v (.int .u64 999999999999999999))), []⟩,
 ⟨some 13, none, .q (.pick (.t 10) (.v (.bool true)) (.t 12)), []⟩]
def c28_2 : ACode := .ops [
 ⟨some 6, none, .q (.mv (.v (.int .i64 0))), []⟩,
 ⟨some 7, none, .q (.mv (.v (.bool false))), []⟩]
def c28_3 : ACode := .seq c28_2 .ret
def c28_4 : ACode := .cond (.t 13) c28_3 .skip
def c28_5 : ACode := .seq c28_1 c28_4
def c28_6 : ACode := .ops [
 ⟨some 14, none, .q (.mv (.t 0)), []⟩]
def c28_7 : ACode := .ops [
 ⟨some 15, none, .q (.mv (.t 2)), []⟩,
 ⟨some 16, none, .q (.conv .i64 (.t 15)), []⟩,
 ⟨some 17, none, .q (.un .neg (.t 16)), []⟩,
 ⟨some 6, none, .q (.mv (.t 17)), []⟩,
 ⟨some 7, none, .q (.mv (.v (.bool true))), []⟩]
def c28_8 : ACode := .seq c28_7 .ret
def c28_9 : ACode := .cond (.t 14) c28_8 .skip
def c28_10 : ACode := .seq c28_6 c28_9
def c28_11 : ACode := .ops [
 ⟨some 18, none, .q (.mv (.t 2)), []⟩,
 ⟨some 19, none, .q (.conv .i64 (.t 18)), []⟩,
 ⟨some 6, none, .q (.mv (.t 19)), []⟩,
 ⟨some 7, none, .q (.mv (.v (.bool true))), []⟩]
def c28_12 : ACode := .seq c28_11 .ret
def c28_13 : ACode := .seq c28_10 c28_12
def c28_14 : ACode := .seq c28_5 c28_13
def c28_15 : ACode := .seq c28_0 c28_14
@[go_sem] def c28_0_wp := wp_of c28_0.eq_1
@[go_sem] def c28_1_wp := wp_of c28_1.eq_1
@[go_sem] def c28_2_wp := wp_of c28_2.eq_1
@[go_sem] def c28_3_wp := wp_of c28_3.eq_1
@[go_sem] def c28_4_wp := wp_of c28_4.eq_1
@[go_sem] def c28_5_wp := wp_of c28_5.eq_1
@[go_sem] def c28_6_wp := wp_of c28_6.eq_1
@[go_sem] def c28_7_wp := wp_of c28_7.eq_1
@[go_sem] def c28_8_wp := wp_of c28_8.eq_1
@[go_sem] def c28_9_wp := wp_of c28_9.eq_1
@[go_sem] def c28_10_wp := wp_of c28_10.eq_1
@[go_sem] def c28_11_wp := wp_of c28_11.eq_1
@[go_sem] def c28_12_wp := wp_of c28_12.eq_1
@[go_sem] def c28_13_wp := wp_of c28_13.eq_1
@[go_sem] def c28_14_wp := wp_of c28_14.eq_1
@[go_sem] def c28_15_wp := wp_of c28_15.eq_1
def c28 : AFn := ⟨20, [.t 6, .t 7], c28_15⟩
theorem c28_ok : compF Tryz.prog Tryz.f28 = some c28 := by kernel_rfl
theorem a28 {args : List AV} {σ : ASt} {R : AV → ASt → Prop} (hl : args.length ≤ 20) (h : c28_15.wp Tryz.prog (RetQ [.t 6, .t 7] R) (init args) σ) : ACalls Tryz.prog 28 args σ R := acalls_of Tryz.func28 c28_ok hl h
/-! 46: tabular/deci.size -/
def c46_0 : ACode := .ops [
 ⟨some 2, none, .q (.mv (.v (.int .u64 0))), []⟩]
def c46_1 : ACode := .ops [
 ⟨some 3, none, .q (.mv (.t 0)), []⟩,
 ⟨some 4, none, .q (.bin .lss (.t 3) (.v (.int .i64 0))), []⟩]
def c46_2 : ACode := .ops [
 ⟨some 5, none, .q (.mv (.t 0)), []⟩,
 ⟨some 6, none, .q (.un .neg (.t 5)), []⟩,
 ⟨some 7, none, .q (.conv .u64 (.t 6)), []⟩,
 ⟨some 2, none, .q (.mv (.t 7)), []⟩]
def c46_3 : ACode := .seq c46_2 .ret
def c46_4 : ACode := .cond (.t 4) c46_3 .skip
def c46_5 : ACode := .seq c46_1 c46_4
def c46_6 : ACode := .ops [
 ⟨some 8, none, .q (.mv (.t 0)), []⟩,
 ⟨some 9, none, .q (.conv .u64 (.t 8)), []⟩,
 ⟨some 2, none, .q (.mv (.t 9)), []⟩]
def c46_7 : ACode := .seq c46_6 .ret
def c46_8 : ACode := .seq c46_5 c46_7
def c46_9 : ACode := .seq c46_0 c46_8
@[go_sem] def c46_0_wp := wp_of c46_0.eq_1
@[go_sem] def c46_1_wp := wp_of c46_1.eq_1
@[go_sem] def c46_2_wp := wp_of c46_2.eq_1
@[go_sem] def c46_3_wp := wp_of c46_3.eq_1
@[go_sem] def c46_4_wp := wp_of c46_4.eq_1
@[go_sem] def c46_5_wp := wp_of c46_5.eq_1
@[go_sem] def c46_6_wp := wp_of c46_6.eq_1
@[go_sem] def c46_7_wp := wp_of c46_7.eq_1
@[go_sem] def c46_8_wp := wp_of c46_8.eq_1
@[go_sem] def c46_9_wp := wp_of c46_9.eq_1
def c46 : AFn := ⟨10, [.t 2], c46_9⟩
theorem c46_ok : compF Tryz.prog Tryz.f46 = some c46 := by kernel_rfl
theorem a46 {args : List AV} {σ : ASt} {R : AV → ASt → Prop} (hl : args.length ≤ 10) (h : c46_9.wp Tryz.prog (RetQ [.t 2] R) (init args) σ) : ACalls Tryz.prog 46 args σ R := acalls_of Tryz.func46 c46_ok hl h
/-! 47: strconv.FormatUint -/
def c47_0 : ACode := .ops [
 ⟨some 4, none, .q (.mv (.v (.str []))), []⟩]
def c47_1 : ACode := .ops [
 ⟨some 5, none, .q (.mv (.t 0)), []⟩,
 ⟨some 6, none, .q (.mv (.t 1)), []⟩,
 ⟨some 7, none, .e (.call 72 [(.t 5), (.t 6)]), []⟩,
 ⟨some 4, none, .q (.mv (.t 7)), []⟩]
def c47_2 : ACode := .seq c47_1 .ret
def c47_3 : ACode := .seq c47_0 c47_2
@[go_sem] def c47_0_wp := wp_of c47_0.eq_1
@[go_sem] def c47_1_wp := wp_of c47_1.eq_1
@[go_sem] def c47_2_wp := wp_of c47_2.eq_1
@[go_sem] def c47_3_wp := wp_of c47_3.eq_1
def c47 : AFn := ⟨8, [.t 4], c47_3⟩
theorem c47_ok : compF Tryz.prog Tryz.f47 = some c47 := by kernel_rfl
theorem a47 {args : List AV} {σ : ASt} {R : AV → ASt → Prop} (hl : args.length ≤ 8) (h : c47_3.wp Tryz.prog (RetQ [.t 4] R) (init args) σ) : ACalls Tryz.prog 47 args σ R := acalls_of Tryz.func47 c47_ok hl h
/-! 49: tabular/deci.Good -/
def c49_0 : ACode := .ops [
 ⟨some 2, none, .q (.mv (.v (.bool false))), []⟩]
def c49_1 : ACode := .ops [
 ⟨some 3, none, .q (.mv (.t 0)), []⟩,
 ⟨some 4, none, .q (.bin .geq (.t 3) (.v (.int .i64 (-999999999999999999)))), []⟩,
 ⟨some 5, none, .q (.mv (.t 4)), []⟩,
 ⟨some 6, some (5, true), .q (.mv (.t 0)), []⟩,
 ⟨some 7, some (5, true), .q (.bin .leq (.t 6) (.v (.int .i64 999999999999999999))), []⟩,
 ⟨some 8, none, .q (.pick (.t 5) (.t 7) (.v (.bool false))), []⟩,
 ⟨some 2, none, .q (.mv (.t 8)), []⟩]
def c49_2 : ACode := .seq c49_1 .ret
def c49_3 : ACode := .seq c49_0 c49_2
@[go_sem] def c49_0_wp := wp_of c49_0.eq_1
@[go_sem] def c49_1_wp := wp_of c49_1.eq_1
@[go_sem] def c49_2_wp := wp_of c49_2.eq_1
@[go_sem] def c49_3_wp := wp_of c49_3.eq_1
def c49 : AFn := ⟨9, [.t 2], c49_3⟩
theorem c49_ok : compF Tryz.prog Tryz.f49 = some c49 := by kernel_rfl
theorem a49 {args : List AV} {σ : ASt} {R : AV → ASt → Prop} (hl : args.length ≤ 9) (h : c49_3.wp Tryz.prog (RetQ [.t 2] R) (init args) σ) : ACalls Tryz.prog 49 args σ R := acalls_of Tryz.func49 c49_ok hl h
/-! 55: tabular/deci.Parse -/
def c55_0 : ACode := .ops [
 ⟨some 2, none, .q (.mv (.v (.int .i64 0))), []⟩,
 ⟨some 3, none, .q (.mv (.v (.bool false))), []⟩]
def c55_1 : ACode := .ops [
 ⟨some 13, none, .q (.mv (.t 0)), []⟩,
 ⟨some 14, none, .e (.call 78 [(.t 13), (.v (.str [45]))]), []⟩,
 ⟨some 12, none, .q (.mv (.t 14)), []⟩,
 ⟨some 15, none, .q (.ext 0 (.t 12)), []⟩,
 ⟨some 16, none, .q (.ext 1 (.t 12)), []⟩,
 ⟨some 4, none, .q (.mv (.t 15)), []⟩,
 ⟨some 5, none, .q (.mv (.t 16)), []⟩]
def c55_2 : ACode := .ops [
 ⟨some 18, none, .q (.mv (.t 4)), []⟩,
 ⟨some 19, none, .e (.call 63 [(.t 18), (.v (.str [46]))]), []⟩,
 ⟨some 17, none, .q (.mv (.t 19)), []⟩,
 ⟨some 20, none, .q (.ext 0 (.t 17)), []⟩,
 ⟨some 21, none, .q (.ext 1 (.t 17)), []⟩,
 ⟨some 22, none, .q (.ext 2 (.t 17)), []⟩,
 ⟨some 6, none, .q (.mv (.t 20)), []⟩,
 ⟨some 7, none, .q (.mv (.t 21)), []⟩,
 ⟨some 8, none, .q (.mv (.t 22)), []⟩]
def c55_3 : ACode := .ops [
 ⟨some 23, none, .q (.mv (.t 6)), []⟩,
 ⟨some 24, none, .q (.bin .eql (.t 23) (.v (.str []))), []⟩,
 ⟨some 25, none, .q (.mv (.t 24)), []⟩,
 ⟨some 26, some (25, false), .q (.mv (.t 8)), []⟩,
 ⟨some 27, some (25, false), .q (.mv (.t 26)), []⟩,
 ⟨some 28, some (27, true), .q (.mv (.t 7)), []⟩,
 ⟨some 29, some (27, true), .q (.bin .eql (.t 28) (.v (.str []))), []⟩,
 ⟨some 30, some (27, true), .q (.mv (.t 29)), []⟩,
 ⟨some 31, some (30, false), .q (.mv (.t 7)), []⟩,
 ⟨some 32, some (30, false), .q (.lenS (.t 31)), []⟩,
 ⟨some 33, some (30, false), .q (.bin .gtr (.t 32) (.v (.int .i64 4))), []⟩,
 ⟨some 34, some (27, true), .q (.pick (.t 30) (.v (.bool true)) (.t 33)), []⟩,
 ⟨some 35, some (25, false), .q (.pick (.t 27) (.t 34) (.v (.bool false))), []⟩,
 ⟨some 36, none, .q (.pick (.t 25) (.v (.bool true)) (.t 35)), []⟩]
def c55_4 : ACode := .ops [
 ⟨some 2, none, .q (.mv (.v (.int .i64 0))), []⟩,
 ⟨some 3, none, .q (.mv (.v (.bool false))), []⟩]
def c55_5 : ACode := .seq c55_4 .ret
def c55_6 : ACode := .cond (.t 36) c55_5 .skip
def c55_7 : ACode := .seq c55_3 c55_6
def c55_8 : ACode := .ops [
 ⟨some 9, none, .q (.mv (.v (.int .u64 0))), []⟩]
def c55_9 : ACode := .ops [
 ⟨some 37, none, .q (.mv (.t 6)), []⟩,
 ⟨some 38, none, .q (.mv (.t 7)), []⟩,
 ⟨some 39, none, .q (.bin .add (.t 37) (.t 38)), []⟩,
 ⟨some 40, none, .q (.mv (.t 7)), []⟩,
 ⟨some 41, none, .q (.lenS (.t 40)), []⟩,
 ⟨some 42, none, .q (.slfrom (true, 0) (.v (.str [48, 48, 48, 48])) (.t 41)), []⟩,
 ⟨some 43, none, .q (.bin .add (.t 39) (.t 42)), []⟩,
 ⟨some 44, none, .e (.s2b (.t 43)), []⟩,
 ⟨some 45, none, .q (.len (.t 44)), []⟩,
 ⟨some 46, none, .q (.mv (.v (.int .i64 0))), []⟩]
def c55_10 : ACode := .ops [
 ⟨some 47, none, .q (.bin .lss (.t 46) (.t 45)), []⟩]
def c55_11 : ACode := .cond (.t 47) .skip (.exit 0)
def c55_12 : ACode := .ops [
 ⟨some 48, none, .q (.ia 1 (.t 44) (.t 46)), []⟩,
 ⟨some 49, none, .q (.ld none (.t 48)), []⟩,
 ⟨some 11, none, .q (.mv (.t 49)), []⟩]
def c55_13 : ACode := .ops [
 ⟨some 50, none, .q (.mv (.t 11)), []⟩,
 ⟨some 51, none, .q (.bin .lss (.t 50) (.v (.int .u8 48))), []⟩,
 ⟨some 52, none, .q (.mv (.t 51)), []⟩,
 ⟨some 53, some (52, false), .q (.mv (.t 11)), []⟩,
 ⟨some 54, some (52, false), .q (.bin .gtr (.t 53) (.v (.int .u8 57))), []⟩,
 ⟨some 55, none, .q (.pick (.t 52) (.v (.bool true)) (.t 54)), []⟩,
 ⟨some 56, none, .q (.mv (.t 55)), []⟩,
 ⟨some 57, some (56, false), .q (.mv (.t 9)), []⟩,
 ⟨some 58, some (56, false), .q (.bin .gtr (.t 57) (.v (.int .u64 99999999999999999))), []⟩,
 ⟨some 59, none, .q (.pick (.t 56) (.v (.bool true)) (.t 58)), []⟩]
def c55_14 : ACode := .ops [
 ⟨some 2, none, .q (.mv (.v (.int .i64 0))), []⟩,
 ⟨some 3, none, .q (.mv (.v (.bool false))), []⟩]
def c55_15 : ACode := .seq c55_14 .ret
def c55_16 : ACode := .cond (.t 59) c55_15 .skip
def c55_17 : ACode := .seq c55_13 c55_16
def c55_18 : ACode := .ops [
 ⟨some 60, none, .q (.mv (.t 9)), []⟩,
 ⟨some 61, none, .q (.bin .mul (.v (.int .u64 10)) (.t 60)), []⟩,
 ⟨some 62, none, .q (.mv (.t 11)), []⟩,
 ⟨some 63, none, .q (.bin .sub (.t 62) (.v (.int .u8 48))), []⟩,
 ⟨some 64, none, .q (.conv .u64 (.t 63)), []⟩,
 ⟨some 65, none, .q (.bin .add (.t 61) (.t 64)), []⟩,
 ⟨some 9, none, .q (.mv (.t 65)), []⟩]
def c55_19 : ACode := .seq c55_17 c55_18
def c55_20 : ACode := .seq c55_12 c55_19
def c55_21 : ACode := .block 1 c55_20
def c55_22 : ACode := .ops [
 ⟨some 66, none, .q (.bin .add (.t 46) (.v (.int .i64 1))), []⟩,
 ⟨some 46, none, .q (.mv (.t 66)), []⟩]
def c55_23 : ACode := .seq c55_21 c55_22
def c55_24 : ACode := .seq c55_11 c55_23
def c55_25 : ACode := .seq c55_10 c55_24
def c55_26 : ACode := .loop c55_25
def c55_27 : ACode := .block 0 c55_26
def c55_28 : ACode := .seq c55_9 c55_27
def c55_29 : ACode := .ops [
 ⟨some 67, none, .q (.mv (.t 5)), []⟩,
 ⟨some 68, none, .q (.mv (.t 9)), []⟩,
 ⟨some 69, none, .e (.call 28 [(.t 67), (.v (.int .u64 0)), (.t 68)]), []⟩,
 ⟨some 70, none, .q (.ext 0 (.t 69)), []⟩,
 ⟨some 71, none, .q (.ext 1 (.t 69)), []⟩,
 ⟨some 2, none, .q (.mv (.t 70)), []⟩,
 ⟨some 3, none, .q (.mv (.t 71)), []⟩]
def c55_30 : ACode := .seq c55_29 .ret
def c55_31 : ACode := .seq c55_28 c55_30
def c55_32 : ACode := .seq c55_8 c55_31
def c55_33 : ACode := .seq c55_7 c55_32
def c55_34 : ACode := .seq c55_2 c55_33
def c55_35 : ACode := .seq c55_1 c55_34
def c55_36 : ACode := .seq c55_0 c55_35
@[go_sem] def c55_0_wp := wp_of c55_0.eq_1
@[go_sem] def c55_1_wp := wp_of c55_1.eq_1
@[go_sem] def c55_2_wp := wp_of c55_2.eq_1
@[go_sem] def c55_3_wp := wp_of c55_3.eq_1
@[go_sem] def c55_4_wp := wp_of c55_4.eq_1
@[go_sem] def c55_5_wp := wp_of c55_5.eq_1
@[go_sem] def c55_6_wp := wp_of c55_6.eq_1
@[go_sem] def c55_7_wp := wp_of c55_7.eq_1
@[go_sem] def c55_8_wp := wp_of c55_8.eq_1
@[go_sem] def c55_9_wp := wp_of c55_9.eq_1
@[go_sem] def c55_10_wp := wp_of c55_10.eq_1
@[go_sem] def c55_11_wp := wp_of c55_11.eq_1
@[go_sem] def c55_12_wp := wp_of c55_12.eq_1
@[go_sem] def c55_13_wp := wp_of c55_13.eq_1
@[go_sem] def c55_14_wp := wp_of c55_14.eq_1
@[go_sem] def c55_15_wp := wp_of c55_15.eq_1
@[go_sem] def c55_16_wp := wp_of c55_16.eq_1
@[go_sem] def c55_17_wp := wp_of c55_17.eq_1
@[go_sem] def c55_18_wp := wp_of c55_18.eq_1
@[go_sem] def c55_19_wp := wp_of c55_19.eq_1
@[go_sem] def c55_20_wp := wp_of c55_20.eq_1
@[go_sem] def c55_21_wp := wp_of c55_21.eq_1
@[go_sem] def c55_22_wp := wp_of c55_22.eq_1
@[go_sem] def c55_23_wp := wp_of c55_23.eq_1
@[go_sem] def c55_24_wp := wp_of c55_24.eq_1
@[go_sem] def c55_25_wp := wp_of c55_25.eq_1
@[go_sem] def c55_26_wp := wp_of c55_26.eq_1
@[go_sem] def c55_27_wp := wp_of c55_27.eq_1
@[go_sem] def c55_28_wp := wp_of c55_28.eq_1
@[go_sem] def c55_29_wp := wp_of c55_29.eq_1
@[go_sem] def c55_30_wp := wp_of c55_30.eq_1
@[go_sem] def c55_31_wp := wp_of c55_31.eq_1
@[go_sem] def c55_32_wp := wp_of c55_32.eq_1
@[go_sem] def c55_33_wp := wp_of c55_33.eq_1
@[go_sem] def c55_34_wp := wp_of c55_34.eq_1
@[go_sem] def c55_35_wp := wp_of c55_35.eq_1
@[go_sem] def c55_36_wp := wp_of c55_36.eq_1
def c55 : AFn := ⟨72, [.t 2, .t 3], c55_36⟩
theorem c55_ok : compF Tryz.prog Tryz.f55 = some c55 := by kernel_rfl
theorem a55 {args : List AV} {σ : ASt} {R : AV → ASt → Prop} (hl : args.length ≤ 72) (h : c55_36.wp Tryz.prog (RetQ [.t 2, .t 3] R) (init args) σ) : ACalls Tryz.prog 55 args σ R := acalls_of Tryz.func55 c55_ok hl h
/-! 63: strings.Cut -/
def c63_0 : ACode := .ops [
 ⟨some 4, none, .q (.mv (.v (.str []))), []⟩,
 ⟨some 5, none, .q (.mv (.v (.str []))), []⟩,
 ⟨some 6, none, .q (.mv (.v (.bool false))), []⟩]
def c63_1 : ACode := .ops [
 ⟨some 7, none, .q (.mv (.t 0)), []⟩,
 ⟨some 8, none, .q (.mv (.t 1)), []⟩,
 ⟨some 9, none, .e (.call 86 [(.t 7), (.t 8)]), []⟩,
 ⟨some 10, none, .q (.ext 0 (.t 9)), []⟩,
 ⟨some 11, none, .q (.ext 1 (.t 9)), []⟩,
 ⟨some 12, none, .q (.ext 2 (.t 9)), []⟩,
 ⟨some 4, none, .q (.mv (.t 10)), []⟩,
 ⟨some 5, none, .q (.mv (.t 11)), []⟩,
 ⟨some 6, none, .q (.mv (.t 12)), []⟩]
def c63_2 : ACode := .seq c63_1 .ret
def c63_3 : ACode := .seq c63_0 c63_2
@[go_sem] def c63_0_wp := wp_of c63_0.eq_1
@[go_sem] def c63_1_wp := wp_of c63_1.eq_1
@[go_sem] def c63_2_wp := wp_of c63_2.eq_1
@[go_sem] def c63_3_wp := wp_of c63_3.eq_1
def c63 : AFn := ⟨13, [.t 4, .t 5, .t 6], c63_3⟩
theorem c63_ok : compF Tryz.prog Tryz.f63 = some c63 := by kernel_rfl
theorem a63 {args : List AV} {σ : ASt} {R : AV → ASt → Prop} (hl : args.length ≤ 13) (h : c63_3.wp Tryz.prog (RetQ [.t 4, .t 5, .t 6] R) (init args) σ) : ACalls Tryz.prog 63 args σ R := acalls_of Tryz.func63 c63_ok hl h
/-! 80: tabular/deci.Round -/
/-! 86: internal/stringslite.Cut -/
def c86_0 : ACode := .ops [
 ⟨some 4, none, .q (.mv (.v (.str []))), []⟩,
 ⟨some 5, none, .q (.mv (.v (.str []))), []⟩,
 ⟨some 6, none, .q (.mv (.v (.bool false))), []⟩]
def c86_1 : ACode := .ops [
 ⟨some 8, none, .q (.mv (.t 0)), []⟩,
 ⟨some 9, none, .q (.mv (.t 1)), []⟩,
 ⟨some 10, none, .e (.call 85 [(.t 8), (.t 9)]), []⟩,
 ⟨some 7, none, .q (.mv (.t 10)), []⟩]
def c86_2 : ACode := .ops [
 ⟨some 11, none, .q (.mv (.t 7)), []⟩,
 ⟨some 12, none, .q (.bin .geq (.t 11) (.v (.int .i64 0))), []⟩]
def c86_3 : ACode := .ops [
 ⟨some 13, none, .q (.mv (.t 0)), []⟩,
 ⟨some 14, none, .q (.mv (.t 7)), []⟩,
 ⟨some 15, none, .q (.slto (true, 0) (.t 13) (.t 14)), []⟩,
 ⟨some 16, none, .q (.mv (.t 0)), []⟩,
 ⟨some 17, none, .q (.mv (.t 7)), []⟩,
 ⟨some 18, none, .q (.mv (.t 1)), []⟩,
 ⟨some 19, none, .q (.lenS (.t 18)), []⟩,
 ⟨some 20, none, .q (.bin .add (.t 17) (.t 19)), []⟩,
 ⟨some 21, none, .q (.slfrom (true, 0) (.t 16) (.t 20)), []⟩,
 ⟨some 4, none, .q (.mv (.t 15)), []⟩,
 ⟨some 5, none, .q (.mv (.t 21)), []⟩,
 ⟨some 6, none, .q (.mv (.v (.bool true))), []⟩]
def c86_4 : ACode := .seq c86_3 .ret
def c86_5 : ACode := .cond (.t 12) c86_4 .skip
def c86_6 : ACode := .seq c86_2 c86_5
def c86_7 : ACode := .seq c86_1 c86_6
def c86_8 : ACode := .ops [
 ⟨some 22, none, .q (.mv (.t 0)), []⟩,
 ⟨some 4, none, .q (.mv (.t 22)), []⟩,
 ⟨some 5, none, .q (.mv (.v (.str []))), []⟩,
 ⟨some 6, none, .q (.mv (.v (.bool false))), []⟩]
def c86_9 : ACode := .seq c86_8 .ret
def c86_10 : ACode := .seq c86_7 c86_9
def c86_11 : ACode := .seq c86_0 c86_10
@[go_sem] def c86_0_wp := wp_of c86_0.eq_1
@[go_sem] def c86_1_wp := wp_of c86_1.eq_1
@[go_sem] def c86_2_wp := wp_of c86_2.eq_1
@[go_sem] def c86_3_wp := wp_of c86_3.eq_1
@[go_sem] def c86_4_wp := wp_of c86_4.eq_1
@[go_sem] def c86_5_wp := wp_of c86_5.eq_1
@[go_sem] def c86_6_wp := wp_of c86_6.eq_1
@[go_sem] def c86_7_wp := wp_of c86_7.eq_1
@[go_sem] def c86_8_wp := wp_of c86_8.eq_1
@[go_sem] def c86_9_wp := wp_of c86_9.eq_1
@[go_sem] def c86_10_wp := wp_of c86_10.eq_1
@[go_sem] def c86_11_wp := wp_of c86_11.eq_1
def c86 : AFn := ⟨23, [.t 4, .t 5, .t 6], c86_11⟩
theorem c86_ok : compF Tryz.prog Tryz.f86 = some c86 := by kernel_rfl
theorem a86 {args : List AV} {σ : ASt} {R : AV → ASt → Prop} (hl : args.length ≤ 23) (h : c86_11.wp Tryz.prog (RetQ [.t 4, .t 5, .t 6] R) (init args) σ) : ACalls Tryz.prog 86 args σ R := acalls_of Tryz.func86 c86_ok hl h
/-! 103: tabular/deci.unit -/
end Go.A
namespace Go.A
open Go.Proofs Go.Shelf Go.RowKit Go.Sort
set_option maxHeartbeats 4000000 in
theorem fmtU_small (u : Nat) (hu : u < 100) (w : World) : Calls Tryz.prog 72 #[.int .u64 u, .int .i64 10] w fun e w' => e = .returned (.string ⟨(Lib.decDigits u).toArray⟩) ∧ Ext w w' := by
 have iu : (u : Int) < 100 := by omega
 go_enter Tryz.func72, Tryz.ntmps72
 go_wp2_with (go_at_call 91; refine (Tryz.internal_strconv_small u hu _).mono ?_; rintro e w' ⟨rfl, rfl⟩)
 go_ret
 exact ⟨rfl, Ext.refl _⟩
set_option maxHeartbeats 12800000 in
theorem fmtU_big (u : Nat) (hu : 100 ≤ u) (hu64 : u < 18446744073709551616) (w : World) (htab : Lib.TabIs Tryz.prog w "internal/strconv.uint64pow10" .u64 Lib.pow10Tab) :
  Calls Tryz.prog 72 #[.int .u64 u, .int .i64 10] w fun e w' => e = .returned (.string ⟨(Lib.decDigits u).toArray⟩) ∧ Ext w w' := by
 have hu1 : 1 ≤ u := by omega
 have hnd20 : Lib.nDigits u ≤ 20 := by have := Lib.numDigits_eq u hu1 hu64; split at this <;> omega
 have hal : Tryz.prog.arrayLen 136 = 24 := by kernel_rfl
 have hsl : ∀ W, (Instr.sliceAt 136 (.pointer (some ⟨w.heap.size, 0, none⟩)) none (some (.int .i64 (Lib.nDigits u : Int))) none).run Tryz.prog W = .ok (.slice (some ⟨w.heap.size, 0, none⟩) (Lib.nDigits u) 24) W := fun W => by
  rw [run_sliceAt_array_h W 136 ⟨w.heap.size, 0, none⟩ (by kernel_rfl) .i64 (Lib.nDigits u : Int) (by omega) (by rw [hal]; omega)]
  rw [hal]
  rfl
 have hH0 := Lib.holds_zero0 w 136 (Lib.nDigits u) (by omega)
 have hfmt := Tryz.internal_strconv_formatBase10 w.heap.size 0 24 u (Array.replicate (Lib.nDigits u) 0) (w.alloc (.cells Lib.zeros24 136)) hH0 (by rw [Array.size_replicate]; exact Lib.lt_pow_nDigits u) hu64 (by rw [Array.size_replicate]; omega)
 rw [Array.size_replicate] at hfmt
 have HH0 := Lib.hid hH0
 have iu : (100 : Int) ≤ (u : Int) := by omega
 clear hH0 hal
 go_enter Tryz.func72, Tryz.ntmps72
 go_wp2_with (first
  | (go_at_call 92; refine (Tryz.internal_strconv_numDigits u hu1 hu64 _ (Lib.tabIs_alloc htab _)).mono ?_; rintro e w' ⟨rfl, rfl⟩))
 go_at_call 93
 refine hfmt.mono ?_
 rintro e w' ⟨rfl, k, v', dk, rfl, hF⟩
 have hcv : (convert 106 9 (.slice (some ⟨w.heap.size, 0, none⟩) (Lib.nDigits u) 24)).run Tryz.prog ((putRow (fun (b : UInt8) => Value.int .u8 (b.toNat : Int)) (w.alloc (.cells Lib.zeros24 136)) w.heap.size 0 dk).drewN k) = .ok (.string ⟨(Lib.decDigits u).toArray⟩) ((putRow (fun (b : UInt8) => Value.int .u8 (b.toNat : Int)) (w.alloc (.cells Lib.zeros24 136)) w.heap.size 0 dk).drewN k) := by
  have h := run_convert_bytes_back (P := Tryz.prog) ((putRow (fun (b : UInt8) => Value.int .u8 (b.toNat : Int)) (w.alloc (.cells Lib.zeros24 136)) w.heap.size 0 dk).drewN k) 106 9 5 ⟨w.heap.size, 0, none⟩ 24 (Lib.decDigits u) Tryz.underlying106 Tryz.underlying5 Tryz.underlying9 (fun j hj => by
   rw [Lib.row_is_numeral hF j hj, Lib.add_plain, World.cell?_drewN]
   exact cell?_putRow (fun (b : UInt8) => Value.int .u8 (b.toNat : Int)) _ w.heap.size 0 _ dk HH0.out (by rw [hF.size, Array.size_replicate]) j (by rw [hF.size]; rw [Lib.decDigits_length] at hj; exact hj))
  rw [Lib.decDigits_length] at h
  exact h
 go_wp2
 go_ret
 obtain ⟨os, eo⟩ := Lib.fin_at w (.cells Lib.zeros24 136) dk k 0
 refine ⟨rfl, ?_⟩
 rw [eo]
 exact ext_grow w k os
theorem ifmt_ok {σ : ASt} (h : Tab σ) {u : Nat} (hu : u < 18446744073709551616) : ACalls Tryz.prog 72 [.int .u64 u, .int .i64 10] σ fun v σ' => v = .str (Lib.decDigits u) ∧ σ' = σ := by
 refine ACalls.of_ext (u := .string ⟨(Lib.decDigits u).toArray⟩) (fun w vs hs ha => ?_) fun w => .str _
 cases ha with
 | cons h1 h2 =>
 cases h2 with
 | cons h2 h3 =>
 cases h1; cases h2; cases h3
 by_cases hs2 : u < 100
 ·exact fmtU_small u hs2 w
 ·exact fmtU_big u (by omega) hu w (tabIs_of hs (by kernel_rfl) h)
theorem fmt_ok {σ : ASt} (h : Tab σ) {u : Nat} (hu : u < 18446744073709551616) : ACalls Tryz.prog 47 [.int .u64 u, .int .i64 10] σ fun v σ' => v = .str (Lib.decDigits u) ∧ σ' = σ := by
 refine a47 (by simp) ?_
 simp (disch := first | assumption | omega) only [go_sem, reduceCtorEq, Nat.reduceEqDiff, ↓reduceIte]
 refine (ifmt_ok h hu).mono ?_
 rintro v σ' ⟨rfl, rfl⟩
 simp (disch := first | assumption | omega) only [go_sem, ↓reduceIte]
 exact retC_by (Drop.refl _) (.refl _) ⟨rfl, rfl⟩
theorem mul64_ok (x y : Nat) (hx : x < 18446744073709551616) (hy : y < 18446744073709551616) : Pure Tryz.prog 27 [.int .u64 x, .int .u64 y] (.tuple [.int .u64 ((x * y / 18446744073709551616 : Nat) : Int), .int .u64 ((x * y % 18446744073709551616 : Nat) : Int)]) := by
 intro σ
 refine ACalls.of_ext (u := .tuple #[.int .u64 ((x * y / 18446744073709551616 : Nat) : Int), .int .u64 ((x * y % 18446744073709551616 : Nat) : Int)]) (fun w vs hs ha => ?_) fun w => .tuple (.cons (.int _ _) (.cons (.int _ _) .nil))
 cases ha with
 | cons h1 h2 =>
 cases h2 with
 | cons h2 h3 =>
 cases h1; cases h2; cases h3
 exact (Tryz.bits_Mul64 x y hx hy w).mono fun e w' ⟨he, hw⟩ => ⟨he, Ext.of_eq hw⟩
theorem cutPrefix_ok (s p : List UInt8) : Pure Tryz.prog 78 [.str s, .str p] (.tuple [.str (Lib.trimPrefix s p), .bool (Lib.hasPrefix s p)]) := by
 intro σ
 refine ACalls.of_ext (u := .tuple #[.string ⟨(Lib.trimPrefix s p).toArray⟩, .bool (Lib.hasPrefix s p)]) (fun w vs hs ha => ?_) fun w => .tuple (.cons (.str _) (.cons (.bool _) .nil))
 cases ha with
 | cons h1 h2 =>
 cases h2 with
 | cons h2 h3 =>
 cases h1; cases h2; cases h3
 exact (Tryz.strings_CutPrefix ⟨⟨s⟩⟩ ⟨⟨p⟩⟩ w).mono fun e w' ⟨he, hw⟩ => ⟨he, Ext.of_eq hw⟩
theorem trimRight_ok (s : List UInt8) (c : UInt8) (hc : c.toNat < 128) (hsl : s.length ≤ 9223372036854775807) : Pure Tryz.prog 48 [.str s, .str [c]] (.str (Lib.trimRightB s c)) := by
 intro σ
 refine ACalls.of_ext (u := .string ⟨(Lib.trimRightB s c).toArray⟩) (fun w vs hs ha => ?_) fun w => .str _
 cases ha with
 | cons h1 h2 =>
 cases h2 with
 | cons h2 h3 =>
 cases h1; cases h2; cases h3
 exact (Tryz.strings_TrimRight_one ⟨⟨s⟩⟩ c hc w (by simpa [ByteArray.size] using hsl)).mono fun e w' ⟨he, hw⟩ => ⟨he, Ext.of_eq hw⟩
theorem sindex_ok (s : List UInt8) (c : UInt8) : Pure Tryz.prog 85 [.str s, .str [c]] (.int .i64 (Lib.indexByte s c)) := by
 intro σ
 refine ACalls.of_ext (u := .int .i64 (Lib.indexByte s c)) (fun w vs hs ha => ?_) fun w => .int _ _
 cases ha with
 | cons h1 h2 =>
 cases h2 with
 | cons h2 h3 =>
 cases h1; cases h2; cases h3
 exact (Tryz.stringslite_Index_one ⟨⟨s⟩⟩ c w).mono fun e w' ⟨he, hw⟩ => ⟨he, Ext.of_eq hw⟩
theorem cutc_ok (l : List UInt8) (c : UInt8) (hl : l.length ≤ 1000000000) : Pure Tryz.prog 63 [.str l, .str [c]] (.tuple [.str (Lib.cut l [c]).1, .str (Lib.cut l [c]).2.1, .bool (Lib.cut l [c]).2.2]) := by
 have h1 : Pure Tryz.prog 86 [.str l, .str [c]] (.tuple [.str (Lib.cut l [c]).1, .str (Lib.cut l [c]).2.1, .bool (Lib.cut l [c]).2.2]) := by
  intro σ
  have hi := sindex_ok l c
  have hr := Lib.index_room l [c]
  unfold Lib.cut
  rw [Lib.index_one] at hr ⊢
  have hg := Lib.indexByte_ge l c
  refine a86 (by simp) ?_
  by_cases h0 : 0 ≤ Lib.indexByte l c
  ·obtain ⟨i, e⟩ : ∃ i : Nat, Lib.indexByte l c = i := ⟨(Lib.indexByte l c).toNat, by omega⟩
   rw [e] at hi hr ⊢
   have hr := hr (by omega)
   simp only [List.length_cons, List.length_nil] at hr
   rw [if_pos (by omega)]
   have e1 : (0 : Int) ≤ i := by omega
   have e2 : ((i : Int) + 1).toNat = i + 1 := by omega
   have e3 : (i : Int) ≤ l.length := by omega
   have e4 : (i : Int) + 1 ≤ l.length := by omega
   simp (disch := first | assumption | omega) only [go_sem, reduceCtorEq, Nat.reduceEqDiff, ↓reduceIte]
   refine hi.use ?_
   simp (disch := first | assumption | omega) only [go_sem, reduceCtorEq, Nat.reduceEqDiff, ↓reduceIte, e1, e2, List.take_length]
   exact retC_by (by repeat' (first | exact Drop.refl _ | with_reducible refine Drop.off ?_ (by assumption))) (.refl _) ⟨rfl, rfl⟩
  ·have e : Lib.indexByte l c = -1 := by omega
   rw [e] at hi ⊢
   rw [if_neg (by omega)]
   simp (disch := first | assumption | omega) only [go_sem, reduceCtorEq, Nat.reduceEqDiff, ↓reduceIte]
   refine hi.use ?_
   simp (disch := first | assumption | omega) only [go_sem, reduceCtorEq, Nat.reduceEqDiff, Int.reduceLE, ↓reduceIte, Int.reduceNeg]
   exact retC_by (by repeat' (first | exact Drop.refl _ | with_reducible refine Drop.off ?_ (by assumption))) (.refl _) ⟨rfl, rfl⟩
 intro σ
 refine a63 (by simp) ?_
 simp (disch := first | assumption | omega) only [go_sem, reduceCtorEq, Nat.reduceEqDiff, ↓reduceIte]
 refine h1.use ?_
 simp (disch := first | assumption | omega) only [go_sem, Nat.reduceEqDiff, ↓reduceIte]
 exact retC_by (by repeat' (first | exact Drop.refl _ | with_reducible refine Drop.off ?_ (by assumption))) (.refl _) ⟨rfl, rfl⟩
end Go.A
namespace Go.A
open Go.Proofs
def resAV (o : Option Int) : AV := .tuple [.int .i64 (o.getD 0), .bool o.isSome]
theorem size_ok (a : Int) (h0 : -9223372036854775808 ≤ a) (h1 : a ≤ 9223372036854775807) : Pure Tryz.prog 46 [.int .i64 a] (.int .u64 (a.natAbs : Nat)) := by
 intro σ
 refine a46 (by simp) ?_
 by_cases h : a < 0
 ·have e : IntKind.u64.wrap (IntKind.i64.wrap (0 - a)) = ((a.natAbs : Nat) : Int) := by rw [IntKind.wrap_u64, IntKind.wrap_i64]; omega
  simp (disch := first | assumption | omega) only [go_sem, reduceCtorEq, ↓reduceIte, h, e]
  exact retC_by (by repeat' (first | exact Drop.refl _ | with_reducible refine Drop.off ?_ (by assumption))) (.refl _) ⟨rfl, rfl⟩
 ·have e : IntKind.u64.wrap a = ((a.natAbs : Nat) : Int) := by rw [IntKind.wrap_u64]; omega
  simp (disch := first | assumption | omega) only [go_sem, reduceCtorEq, ↓reduceIte, h, e]
  exact retC_by (by repeat' (first | exact Drop.refl _ | with_reducible refine Drop.off ?_ (by assumption))) (.refl _) ⟨rfl, rfl⟩
theorem made_ok (m : Bool) (lo : Nat) (h : lo < 18446744073709551616) : Pure Tryz.prog 28 [.bool m, .int .u64 0, .int .u64 lo] (resAV (madeP m lo)) := by
 intro σ
 refine a28 (by simp) ?_
 unfold madeP
 by_cases hm : lo ≤ 999999999999999999
 ·have g1 : ¬ (999999999999999999 : Int) < lo := by omega
  have e1 : IntKind.i64.wrap (lo : Int) = lo := by rw [IntKind.wrap_i64]; omega
  have e2 : IntKind.i64.wrap (-(lo : Int)) = -lo := by rw [IntKind.wrap_i64]; omega
  rw [if_pos hm]
  cases m
  ·simp (disch := first | assumption | omega) only [go_sem, reduceCtorEq, Nat.reduceEqDiff, Int.reduceLT, ↓reduceIte, g1, e1]
   exact retC_by (by repeat' (first | exact Drop.refl _ | with_reducible refine Drop.off ?_ (by assumption))) (.refl _) ⟨rfl, rfl⟩
  ·simp (disch := first | assumption | omega) only [go_sem, reduceCtorEq, Nat.reduceEqDiff, Int.reduceLT, ↓reduceIte, g1, e1]
   refine retC_by (by repeat' (first | exact Drop.refl _ | with_reducible refine Drop.off ?_ (by assumption))) (.refl _) ⟨?_, rfl⟩
   rw [show (0 : Int) - lo = -lo by omega]
   rfl
 ·have g1 : (999999999999999999 : Int) < lo := by omega
  rw [if_neg hm]
  simp (disch := first | assumption | omega) only [go_sem, Nat.reduceEqDiff, Int.reduceLT, ↓reduceIte, g1]
  exact retC_by (by repeat' (first | exact Drop.refl _ | with_reducible refine Drop.off ?_ (by assumption))) (.refl _) ⟨rfl, rfl⟩
theorem dgood_ok (a : Int) : Pure Tryz.prog 49 [.int .i64 a] (.bool (decide (a.natAbs ≤ 999999999999999999))) := by
 intro σ
 refine a49 (by simp) ?_
 repeat' (first | (simp (disch := first | assumption | omega) only [go_sem, reduceCtorEq, Nat.reduceEqDiff, ↓reduceIte, Int.reduceNeg]) | with_reducible refine gC_d (fun h => ?_) (fun h => ?_) | with_reducible refine gC_dn (fun h => ?_) (fun h => ?_) | with_reducible refine condC_d (fun h => ?_) (fun h => ?_) | with_reducible refine condC_n (fun h => ?_) (fun h => ?_) | with_reducible refine condC_b (fun h => ?_) (fun h => ?_) | with_reducible refine boxC_by ?_ fun b hb => ?_)
 all_goals (refine retC_by (by repeat' (first | exact Drop.refl _ | with_reducible refine Drop.off ?_ (by assumption))) (.refl _) ⟨?_, rfl⟩)
 ·have e : decide (a ≤ 999999999999999999) = decide (a.natAbs ≤ 999999999999999999) := decide_eq_decide.2 (by omega)
  rw [← e]; rfl
 ·rfl
end Go.A
namespace Go.A
open Go.Proofs
theorem dtext_ok {σ : ASt} (h : Tab σ) {a : Int} (ha : a.natAbs ≤ 999999999999999999) : ACalls Tryz.prog 24 [.int .i64 a] σ fun v σ' => v = .str (textD a) ∧ σ' = σ := by
 have hS := size_ok a (by omega) (by omega)
 obtain ⟨T, hT⟩ : ∃ T, textD a = T := ⟨_, rfl⟩
 rw [hT]
 unfold textD placesP at hT
 obtain ⟨s, hs⟩ : ∃ s, a.natAbs = s := ⟨_, rfl⟩
 rw [hs] at hS hT ha
 have hd : (s : Int).tdiv 10000 = ((s / 10000 : Nat) : Int) := by rw [Int.tdiv_eq_ediv_of_nonneg (by omega)]; rfl
 have hm : (s : Int).tmod 10000 = ((s % 10000 : Nat) : Int) := by rw [Int.tmod_eq_emod_of_nonneg (by omega)]; rfl
 have hp : s % 10000 < 10000 := Nat.mod_lt _ (by omega)
 have hw : s / 10000 ≤ 99999999999999 := by omega
 obtain ⟨p, hpp⟩ : ∃ p, s % 10000 = p := ⟨_, rfl⟩
 obtain ⟨q, hqq⟩ : ∃ q, s / 10000 = q := ⟨_, rfl⟩
 rw [hpp] at hp hm hT
 rw [hqq] at hd hw hT
 have hqw : IntKind.u64.wrap (q : Int) = q := by rw [IntKind.wrap_u64]; omega
 refine a24 (by simp) ?_
 simp (disch := first | assumption | omega) only [go_sem, reduceCtorEq, ↓reduceIte]
 refine hS.use ?_
 simp (disch := first | assumption | omega) only [go_sem, ↓reduceIte, hd, hqw]
 refine (fmt_ok h (u := q) (by omega)).mono ?_
 rintro v σ' ⟨rfl, rfl⟩
 simp (disch := first | assumption | omega) only [go_sem, Nat.reduceEqDiff, ↓reduceIte, hm]
 have hql : (Lib.decDigits q).length ≤ 15 := dd_len 14 q (by omega)
 by_cases h0 : p = 0
 ·subst h0
  rw [if_pos rfl, List.append_nil] at hT
  have g0 : ¬ (0 : Int) < ((0 : Nat) : Int) := by omega
  simp (disch := first | assumption | omega) only [go_sem, reduceCtorEq, Int.reduceLT, ↓reduceIte]
  by_cases hn : a < 0
  ·have e1 : binS .add [45] (Lib.decDigits q) = some (.str T) := by rw [binS_add (by simp; omega), ← hT, if_pos hn]
   simp (disch := first | assumption | omega) only [go_sem, Nat.reduceEqDiff, ↓reduceIte, hn, e1]
   exact retC_by (by repeat' (first | exact Drop.refl _ | with_reducible refine Drop.off ?_ (by assumption))) (.refl _) ⟨rfl, rfl⟩
  ·rw [if_neg hn, List.nil_append] at hT
   subst hT
   simp (disch := first | assumption | omega) only [go_sem, Nat.reduceEqDiff, ↓reduceIte, hn]
   exact retC_by (by repeat' (first | exact Drop.refl _ | with_reducible refine Drop.off ?_ (by assumption))) (.refl _) ⟨rfl, rfl⟩
 ·rw [if_neg h0] at hT
  have g0 : (0 : Int) < (p : Int) := by omega
  have hDl : (Lib.decDigits (10000 + p)).length ≤ 5 := dd_len 4 _ (by omega)
  have hD1 : 1 ≤ (Lib.decDigits (10000 + p)).length := List.length_pos_iff.2 (dd_len_pos _)
  have hF := fmt_ok h (u := 10000 + p) (by omega)
  rw [show (((10000 + p : Nat) : Int)) = (10000 : Int) + p by omega] at hF
  have htl : (Lib.decDigits (10000 + p)).tail.length ≤ 4 := by rw [List.length_tail]; omega
  rw [← List.drop_one] at hT htl
  generalize Lib.decDigits (10000 + p) = D at *
  have hR := trimRight_ok (D.drop 1) 48 (by decide) (by omega)
  have hRl : (Lib.trimRightB (D.drop 1) 48).length ≤ 4 := by
   have := congrArg List.length (trim_back 48 (D.drop 1))
   rw [List.length_append] at this
   omega
  generalize Lib.trimRightB (D.drop 1) 48 = X at *
  have e1 : binS .add [46] X = some (.str (46 :: X)) := binS_add (by simp; omega)
  have e2 : binS .add (Lib.decDigits q) (46 :: X) = some (.str (Lib.decDigits q ++ 46 :: X)) := binS_add (by simp; omega)
  have g5 : (1 : Int) ≤ D.length := by omega
  simp (disch := first | assumption | omega) only [go_sem, Nat.reduceEqDiff, ↓reduceIte, g0]
  refine hF.mono ?_
  rintro v σ' ⟨rfl, rfl⟩
  simp (disch := first | assumption | omega) only [go_sem, ↓reduceIte, Int.reduceToNat, List.take_length]
  refine hR.use ?_
  simp (disch := first | assumption | omega) only [go_sem, reduceCtorEq, Nat.reduceEqDiff, ↓reduceIte, e1, e2]
  by_cases hn : a < 0
  ·have e3 : binS .add [45] (Lib.decDigits q ++ 46 :: X) = some (.str T) := by rw [binS_add (by simp; omega), ← hT, if_pos hn]
   simp (disch := first | assumption | omega) only [go_sem, Nat.reduceEqDiff, ↓reduceIte, hn, e3]
   exact retC_by (by repeat' (first | exact Drop.refl _ | with_reducible refine Drop.off ?_ (by assumption))) (.refl _) ⟨rfl, rfl⟩
  ·rw [if_neg hn, List.nil_append] at hT
   subst hT
   simp (disch := first | assumption | omega) only [go_sem, Nat.reduceEqDiff, ↓reduceIte, hn]
   exact retC_by (by repeat' (first | exact Drop.refl _ | with_reducible refine Drop.off ?_ (by assumption))) (.refl _) ⟨rfl, rfl⟩
end Go.A
namespace Go.A
open Go.Proofs
theorem prefix_minus (s : List UInt8) : Lib.hasPrefix s [45] = decide (s.head? = some 45) := by
 unfold Lib.hasPrefix
 cases s with
 | nil => rfl
 | cons c l =>
   simp only [List.isPrefixOf, Bool.and_true, List.head?_cons, Option.some.injEq]
   by_cases h : c = 45
   ·subst h; rfl
   ·have h1 : (45 == c) = false := by simpa using fun e => h e.symm
    rw [h1]; simp [h]
theorem trim_minus (s : List UInt8) : Lib.trimPrefix s [45] = if s.head? = some 45 then s.drop 1 else s := by
 unfold Lib.trimPrefix
 rw [prefix_minus]
 by_cases h : s.head? = some 45
 ·simp [h]
 ·simp [h]
theorem cut_len (l : List UInt8) (c : UInt8) : (Lib.cut l [c]).1.length + (Lib.cut l [c]).2.1.length ≤ l.length := by
 unfold Lib.cut
 split
 ·have := Lib.index_room l [c] (by assumption)
  simp at this ⊢
  omega
 ·simp
set_option maxHeartbeats 1000000 in
theorem dparse_ok (s : List UInt8) (hs : s.length ≤ 100000) : Pure Tryz.prog 55 [.str s] (resAV (parseD s)) := by
 intro σ
 have hP := cutPrefix_ok s [45]
 rw [prefix_minus, trim_minus] at hP
 obtain ⟨R, hR⟩ : ∃ R, parseD s = R := ⟨_, rfl⟩
 rw [hR]
 unfold parseD at hR
 dsimp only at hR
 generalize hm : decide (s.head? = some 45) = minus at *
 have hbl : (if s.head? = some 45 then s.drop 1 else s).length ≤ 100000 := by
  split
  ·rw [List.length_drop]; omega
  ·exact hs
 generalize (if s.head? = some 45 then s.drop 1 else s) = body at *
 have hC := cutc_ok body 46 (by omega)
 have hCl := cut_len body 46
 have hnf : (Lib.cut body [46]).2.2 = false → (Lib.cut body [46]).2.1 = [] := by
  unfold Lib.cut
  split <;> simp
 generalize (Lib.cut body [46]).1 = whole at *
 generalize (Lib.cut body [46]).2.1 = part at *
 generalize (Lib.cut body [46]).2.2 = dot at *
 unfold parseQ at hR
 obtain ⟨F, hF⟩ : ∃ F, F = ACode.wp Tryz.prog c55_32 := ⟨_, rfl⟩
 have fin : ∀ (a : AFr), part.length ≤ 4 → (accP 0 (whole ++ part ++ List.replicate (4 - part.length) 48)).bind (madeP minus) = R → (a 5 = .bool minus ∧ a 6 = .str whole ∧ a 7 = .str part) → F (RetQ [.t 2, .t 3] fun v σ' => v = resAV R ∧ σ' = σ) a σ := by
  intro a hp4 hacc hf
  rw [hF]
  have hl2 : whole.length + part.length ≤ 9223372036854775807 := by omega
  have g4 : (part.length : Int) ≤ 4 := by omega
  have e0 : ([48, 48, 48, 48] : List UInt8).drop part.length = List.replicate (4 - part.length) 48 := by
   have : part.length = 0 ∨ part.length = 1 ∨ part.length = 2 ∨ part.length = 3 ∨ part.length = 4 := by omega
   rcases this with h | h | h | h | h <;> rw [h] <;> rfl
  have e1 : binS .add (whole ++ part) (List.replicate (4 - part.length) 48) = some (.str (whole ++ part ++ List.replicate (4 - part.length) 48)) := binS_add (by simp; omega)
  obtain ⟨M, hM⟩ : ∃ M, whole ++ part ++ List.replicate (4 - part.length) 48 = M := ⟨_, rfl⟩
  rw [hM] at hacc e1
  have hMl : M.length ≤ 1000000 := by rw [← hM]; simp; omega
  simp (disch := first | assumption | omega | (simp only [List.length_append, List.length_cons, List.length_nil]; omega)) only [go_sem, Nat.reduceEqDiff, Nat.reduceAdd, ↓reduceIte, Int.reduceToNat, hf, e0, e1]
  refine s2b_shr ?_
  simp (disch := first | assumption | omega | (simp only [List.length_append, List.length_cons, List.length_nil]; omega)) only [go_sem, ↓reduceIte]
  refine wp_loop_on (fun (i : Nat) a σ' => i ≤ M.length ∧ (∃ n : Nat, n ≤ 999999999999999999 ∧ accP 0 M = accP n (M.drop i) ∧ a 9 = .int .u64 n) ∧ (a 5 = .bool minus ∧ a 44 = .sl .shr (bytesAV M) ∧ a 45 = .int .i64 M.length ∧ a 46 = .int .i64 i) ∧ σ' = σ) (fun i => M.length - i) 0 ⟨Nat.zero_le _, ⟨0, by omega, rfl, ?_⟩, ?_, rfl⟩ ?_
  ·simp (disch := first | assumption | omega | (simp only [List.length_append, List.length_cons, List.length_nil]; omega)) only [go_sem, Nat.reduceEqDiff, ↓reduceIte]
  ·simp (disch := first | assumption | omega | (simp only [List.length_append, List.length_cons, List.length_nil]; omega)) only [go_sem, Nat.reduceEqDiff, ↓reduceIte, hf]
  rintro i a σ1 ⟨hi, ⟨n, hn, hac, hf9⟩, hf, rfl⟩
  rw [hac] at hacc
  by_cases hlt : i < M.length
  ·have hidx : M[i]? = some (M[i]'hlt) := List.getElem?_eq_getElem hlt
   rw [List.drop_eq_getElem_cons hlt] at hac hacc
   obtain ⟨c, hc⟩ : ∃ c, M[i]'hlt = c := ⟨_, rfl⟩
   rw [hc] at hidx hac hacc
   have hlt' : (i : Int) < M.length := by omega
   have hcb : c.toNat < 256 := c.toNat_lt
   rw [accP] at hac hacc
   by_cases h1 : c.toNat < 48
   ·have h1' : (c.toNat : Int) < 48 := by omega
    rw [if_pos (by omega)] at hacc
    subst hacc
    simp (disch := first | assumption | omega | (simp only [List.length_append, List.length_cons, List.length_nil]; omega)) only [go_sem, Nat.reduceEqDiff, ↓reduceIte, hf, hlt', hidx, h1']
    exact retC_by (by repeat' (first | exact Drop.refl _ | with_reducible refine Drop.off ?_ (by assumption))) (.refl _) ⟨rfl, rfl⟩
   have h1' : ¬ (c.toNat : Int) < 48 := by omega
   by_cases h2 : 57 < c.toNat
   ·have h2' : (57 : Int) < c.toNat := by omega
    rw [if_pos (by omega)] at hacc
    subst hacc
    simp (disch := first | assumption | omega | (simp only [List.length_append, List.length_cons, List.length_nil]; omega)) only [go_sem, Nat.reduceEqDiff, ↓reduceIte, hf, hlt', hidx, h1', h2']
    exact retC_by (by repeat' (first | exact Drop.refl _ | with_reducible refine Drop.off ?_ (by assumption))) (.refl _) ⟨rfl, rfl⟩
   have h2' : ¬ (57 : Int) < c.toNat := by omega
   by_cases h3 : 99999999999999999 < n
   ·have h3' : (99999999999999999 : Int) < n := by omega
    rw [if_pos (by omega)] at hacc
    subst hacc
    simp (disch := first | assumption | omega | (simp only [List.length_append, List.length_cons, List.length_nil]; omega)) only [go_sem, Nat.reduceEqDiff, ↓reduceIte, hf, hf9, hlt', hidx, h1', h2', h3']
    exact retC_by (by repeat' (first | exact Drop.refl _ | with_reducible refine Drop.off ?_ (by assumption))) (.refl _) ⟨rfl, rfl⟩
   have h3' : ¬ (99999999999999999 : Int) < n := by omega
   rw [if_neg (by omega)] at hac hacc
   obtain ⟨n2, hn2⟩ : ∃ n2 : Nat, 10 * n + (c.toNat - 48) = n2 := ⟨_, rfl⟩
   rw [hn2] at hac hacc
   have e2 : 10 * (n : Int) + ((c.toNat : Int) - 48) = n2 := by omega
   simp (disch := first | assumption | omega | (simp only [List.length_append, List.length_cons, List.length_nil]; omega)) only [go_sem, Nat.reduceEqDiff, ↓reduceIte, hf, hf9, hlt', hidx, h1', h2', h3', e2]
   exact ⟨i + 1, by omega, by omega, ⟨n2, by omega, hac, rfl⟩, rfl⟩
  ·have hlt' : ¬ (i : Int) < M.length := by omega
   rw [List.drop_eq_nil_of_le (by omega), accP, Option.bind_some] at hacc
   subst hacc
   have hMd := made_ok minus n (by omega)
   simp (disch := first | assumption | omega | (simp only [List.length_append, List.length_cons, List.length_nil]; omega)) only [go_sem, Nat.reduceEqDiff, ↓reduceIte, hf, hf9, hlt']
   refine hMd.use ?_
   simp only [resAV]
   simp (disch := first | assumption | omega | (simp only [List.length_append, List.length_cons, List.length_nil]; omega)) only [go_sem, Nat.reduceEqDiff, ↓reduceIte]
   exact retC_by (by repeat' (first | exact Drop.refl _ | with_reducible refine Drop.off ?_ (by assumption))) (.refl _) ⟨rfl, rfl⟩
 refine a55 (by simp) ?_
 simp (disch := first | assumption | omega | (simp only [List.length_append, List.length_cons, List.length_nil]; omega)) only [go_sem, reduceCtorEq, ↓reduceIte]
 refine hP.use ?_
 simp (disch := first | assumption | omega | (simp only [List.length_append, List.length_cons, List.length_nil]; omega)) only [go_sem, Nat.reduceEqDiff, ↓reduceIte]
 refine hC.use ?_
 by_cases hw : whole = []
 ·subst hw
  rw [if_pos (.inl rfl)] at hR
  subst hR
  simp (disch := first | assumption | omega | (simp only [List.length_append, List.length_cons, List.length_nil]; omega)) only [go_sem, Nat.reduceEqDiff, ↓reduceIte, ←hF]
  exact retC_by (by repeat' (first | exact Drop.refl _ | with_reducible refine Drop.off ?_ (by assumption))) (.refl _) ⟨rfl, rfl⟩
 cases dot with
 | false =>
   have hp := hnf rfl
   subst hp
   rw [if_neg (by rintro (h | ⟨h, _⟩) <;> contradiction)] at hR
   simp (disch := first | assumption | omega | (simp only [List.length_append, List.length_cons, List.length_nil]; omega)) only [go_sem, Nat.reduceEqDiff, ↓reduceIte, hw, ←hF]
   refine fin _ (by simp) hR ?_
   simp (disch := first | assumption | omega | (simp only [List.length_append, List.length_cons, List.length_nil]; omega)) only [go_sem, Nat.reduceEqDiff, ↓reduceIte]
 | true =>
   by_cases hp : part = []
   ·subst hp
    rw [if_pos (.inr ⟨rfl, .inl rfl⟩)] at hR
    subst hR
    simp (disch := first | assumption | omega | (simp only [List.length_append, List.length_cons, List.length_nil]; omega)) only [go_sem, Nat.reduceEqDiff, ↓reduceIte, hw, ←hF]
    exact retC_by (by repeat' (first | exact Drop.refl _ | with_reducible refine Drop.off ?_ (by assumption))) (.refl _) ⟨rfl, rfl⟩
   by_cases h4 : 4 < part.length
   ·have h4' : (4 : Int) < part.length := by omega
    rw [if_pos (.inr ⟨rfl, .inr h4⟩)] at hR
    subst hR
    simp (disch := first | assumption | omega | (simp only [List.length_append, List.length_cons, List.length_nil]; omega)) only [go_sem, Nat.reduceEqDiff, ↓reduceIte, hw, hp, h4', ←hF]
    exact retC_by (by repeat' (first | exact Drop.refl _ | with_reducible refine Drop.off ?_ (by assumption))) (.refl _) ⟨rfl, rfl⟩
   ·have h4' : ¬ (4 : Int) < part.length := by omega
    rw [if_neg (by rintro (h | ⟨_, h | h⟩) <;> contradiction)] at hR
    simp (disch := first | assumption | omega | (simp only [List.length_append, List.length_cons, List.length_nil]; omega)) only [go_sem, Nat.reduceEqDiff, ↓reduceIte, hw, hp, h4', ←hF]
    refine fin _ (by omega) hR ?_
    simp (disch := first | assumption | omega | (simp only [List.length_append, List.length_cons, List.length_nil]; omega)) only [go_sem, Nat.reduceEqDiff, ↓reduceIte]
theorem whole_ok {a : Int} (ha : a.natAbs ≤ 999999999999999999) : Pure Tryz.prog 17 [.int .i64 a] (.int .i64 (a.tdiv 10000)) := by
 intro σ
 have hqb : (a.tdiv 10000).natAbs ≤ a.natAbs := by rw [Int.natAbs_tdiv]; exact Nat.div_le_self _ _
 have e : IntKind.i64.wrap (a.tdiv 10000) = a.tdiv 10000 := by rw [IntKind.wrap_i64]; omega
 refine a17 (by simp) ?_
 simp (disch := first | assumption | omega) only [go_sem, reduceCtorEq, ↓reduceIte, e]
 exact retC_by (by repeat' (first | exact Drop.refl _ | with_reducible refine Drop.off ?_ (by assumption))) (.refl _) ⟨rfl, rfl⟩
theorem lcut_ok (s : List UInt8) (n : Nat) : Pure Tryz.prog 6 [.str s, .int .i64 n] (.str (s.take n)) := by
 intro σ
 refine a6 (by simp) ?_
 by_cases h : n < s.length
 ·have h' : (n : Int) < s.length := by omega
  have g0 : (0 : Int) ≤ n := by omega
  have g1 : (n : Int) ≤ s.length := by omega
  simp (disch := first | assumption | omega) only [go_sem, reduceCtorEq, Nat.reduceEqDiff, ↓reduceIte, h']
  exact retC_by (by repeat' (first | exact Drop.refl _ | with_reducible refine Drop.off ?_ (by assumption))) (.refl _) ⟨rfl, rfl⟩
 ·have h' : ¬ (n : Int) < s.length := by omega
  rw [List.take_of_length_le (by omega)]
  simp (disch := first | assumption | omega) only [go_sem, reduceCtorEq, Nat.reduceEqDiff, ↓reduceIte, h']
  exact retC_by (by repeat' (first | exact Drop.refl _ | with_reducible refine Drop.off ?_ (by assumption))) (.refl _) ⟨rfl, rfl⟩
end Go.A
namespace Go.A
open Go.Proofs
/-! 13: tabular/value.One -/
def c13_0 : ACode := .ops [
 ⟨some 2, none, .e (.alloc [(.int .i64 0), (.int .i64 0), (.bool false), (.sl .full [])]), []⟩]
def c13_1 : ACode := .ops [
 ⟨some 3, none, .q (.mv (.t 0)), []⟩,
 ⟨some 4, none, .q (.bsl 1 [(.t 3)]), []⟩,
 ⟨some 5, none, .q (.build [(.int .i64 0), (.int .i64 0), (.bool false), (.sl .full [])] [(0, 1, (.v (.int .i64 1))), (1, 1, (.v (.int .i64 1))), (3, 1, (.t 4))]), []⟩,
 ⟨none, none, .e (.store 4 (.t 2) (.t 5)), []⟩]
def c13_2 : ACode := .seq c13_1 .ret
def c13_3 : ACode := .seq c13_0 c13_2
@[go_sem] def c13_0_wp := wp_of c13_0.eq_1
@[go_sem] def c13_1_wp := wp_of c13_1.eq_1
@[go_sem] def c13_2_wp := wp_of c13_2.eq_1
@[go_sem] def c13_3_wp := wp_of c13_3.eq_1
def c13 : AFn := ⟨6, [.c 2 (some 4)], c13_3⟩
theorem c13_ok : compF Tryz.prog Tryz.f13 = some c13 := by kernel_rfl
theorem a13 {args : List AV} {σ : ASt} {R : AV → ASt → Prop} (hl : args.length ≤ 6) (h : c13_3.wp Tryz.prog (RetQ [.c 2 (some 4)] R) (init args) σ) : ACalls Tryz.prog 13 args σ R := acalls_of Tryz.func13 c13_ok hl h
/-! 14: tabular/value.Failed -/
def c14_0 : ACode := .ops [
 ⟨some 2, none, .q (.mv (.v (.int .i64 0))), []⟩,
 ⟨some 3, none, .q (.mv (.v (.bool false))), []⟩]
def c14_1 : ACode := .ops [
 ⟨some 7, none, .q (.mv (.t 0)), []⟩,
 ⟨some 8, none, .q (.ta 39 (.int .i64 0) true (.t 7)), []⟩,
 ⟨some 6, none, .q (.mv (.t 8)), []⟩,
 ⟨some 9, none, .q (.ext 0 (.t 6)), []⟩,
 ⟨some 10, none, .q (.ext 1 (.t 6)), []⟩,
 ⟨some 4, none, .q (.mv (.t 9)), []⟩,
 ⟨some 5, none, .q (.mv (.t 10)), []⟩]
def c14_2 : ACode := .ops [
 ⟨some 11, none, .q (.mv (.t 4)), []⟩,
 ⟨some 12, none, .q (.mv (.t 5)), []⟩,
 ⟨some 2, none, .q (.mv (.t 11)), []⟩,
 ⟨some 3, none, .q (.mv (.t 12)), []⟩]
def c14_3 : ACode := .seq c14_2 .ret
def c14_4 : ACode := .seq c14_1 c14_3
def c14_5 : ACode := .seq c14_0 c14_4
@[go_sem] def c14_0_wp := wp_of c14_0.eq_1
@[go_sem] def c14_1_wp := wp_of c14_1.eq_1
@[go_sem] def c14_2_wp := wp_of c14_2.eq_1
@[go_sem] def c14_3_wp := wp_of c14_3.eq_1
@[go_sem] def c14_4_wp := wp_of c14_4.eq_1
@[go_sem] def c14_5_wp := wp_of c14_5.eq_1
def c14 : AFn := ⟨13, [.t 2, .t 3], c14_5⟩
theorem c14_ok : compF Tryz.prog Tryz.f14 = some c14 := by kernel_rfl
theorem a14 {args : List AV} {σ : ASt} {R : AV → ASt → Prop} (hl : args.length ≤ 13) (h : c14_5.wp Tryz.prog (RetQ [.t 2, .t 3] R) (init args) σ) : ACalls Tryz.prog 14 args σ R := acalls_of Tryz.func14 c14_ok hl h
/-! 16: tabular/value.Given -/
def c16_0 : ACode := .ops [
 ⟨some 2, none, .q (.mv (.v (.int .i64 0))), []⟩,
 ⟨some 3, none, .q (.mv (.v (.bool false))), []⟩]
def c16_1 : ACode := .ops [
 ⟨some 7, none, .q (.mv (.t 0)), []⟩,
 ⟨some 8, none, .q (.ta 56 (.int .i64 0) true (.t 7)), []⟩,
 ⟨some 6, none, .q (.mv (.t 8)), []⟩,
 ⟨some 9, none, .q (.ext 0 (.t 6)), []⟩,
 ⟨some 10, none, .q (.ext 1 (.t 6)), []⟩,
 ⟨some 4, none, .q (.mv (.t 9)), []⟩,
 ⟨some 5, none, .q (.mv (.t 10)), []⟩]
def c16_2 : ACode := .ops [
 ⟨some 11, none, .q (.mv (.t 4)), []⟩,
 ⟨some 12, none, .q (.mv (.t 5)), []⟩,
 ⟨some 2, none, .q (.mv (.t 11)), []⟩,
 ⟨some 3, none, .q (.mv (.t 12)), []⟩]
def c16_3 : ACode := .seq c16_2 .ret
def c16_4 : ACode := .seq c16_1 c16_3
def c16_5 : ACode := .seq c16_0 c16_4
@[go_sem] def c16_0_wp := wp_of c16_0.eq_1
@[go_sem] def c16_1_wp := wp_of c16_1.eq_1
@[go_sem] def c16_2_wp := wp_of c16_2.eq_1
@[go_sem] def c16_3_wp := wp_of c16_3.eq_1
@[go_sem] def c16_4_wp := wp_of c16_4.eq_1
@[go_sem] def c16_5_wp := wp_of c16_5.eq_1
def c16 : AFn := ⟨13, [.t 2, .t 3], c16_5⟩
theorem c16_ok : compF Tryz.prog Tryz.f16 = some c16 := by kernel_rfl
theorem a16 {args : List AV} {σ : ASt} {R : AV → ASt → Prop} (hl : args.length ≤ 13) (h : c16_5.wp Tryz.prog (RetQ [.t 2, .t 3] R) (init args) σ) : ACalls Tryz.prog 16 args σ R := acalls_of Tryz.func16 c16_ok hl h
/-! 21: tabular/token.Errors -/
def c21_0 : ACode := .ops [
 ⟨some 0, none, .q (.mv (.v (.sl .full []))), []⟩]
def c21_1 : ACode := .ops [
 ⟨some 1, none, .q (.bsl 1 [(.v (.str [35, 68, 73, 86, 47, 48, 33])), (.v (.str [35, 78, 85, 77, 33])), (.v (.str [35, 86, 65, 76, 85, 69, 33])), (.v (.str [35, 82, 69, 70, 33])), (.v (.str [35, 78, 47, 65])), (.v (.str [35, 78, 65, 77, 69, 63])), (.v (.str [35, 67, 89, 67, 76, 69, 33]))]), []⟩,
 ⟨some 0, none, .q (.mv (.t 1)), []⟩]
def c21_2 : ACode := .seq c21_1 .ret
def c21_3 : ACode := .seq c21_0 c21_2
@[go_sem] def c21_0_wp := wp_of c21_0.eq_1
@[go_sem] def c21_1_wp := wp_of c21_1.eq_1
@[go_sem] def c21_2_wp := wp_of c21_2.eq_1
@[go_sem] def c21_3_wp := wp_of c21_3.eq_1
def c21 : AFn := ⟨2, [.t 0], c21_3⟩
theorem c21_ok : compF Tryz.prog Tryz.f21 = some c21 := by kernel_rfl
theorem a21 {args : List AV} {σ : ASt} {R : AV → ASt → Prop} (hl : args.length ≤ 2) (h : c21_3.wp Tryz.prog (RetQ [.t 0] R) (init args) σ) : ACalls Tryz.prog 21 args σ R := acalls_of Tryz.func21 c21_ok hl h
/-! 26: tabular/value.Of -/
def c26_0 : ACode := .ops [
 ⟨some 1, none, .e (.box (.t 0)), []⟩,
 ⟨some 2, none, .q (.mv (.v .nili)), []⟩]
def c26_1 : ACode := .ops [
 ⟨some 5, none, .q (.fa 0 (.t 1)), []⟩,
 ⟨some 6, none, .q (.ld none (.t 5)), []⟩]
def c26_2 : ACode := .ops [
 ⟨some 8, none, .q (.bin .eql (.t 6) (.v (.int .i64 1))), []⟩,
 ⟨some 7, none, .q (.mv (.t 8)), []⟩]
def c26_3 : ACode := .ops [
 ⟨some 9, none, .q (.fa 1 (.t 1)), []⟩,
 ⟨some 10, none, .q (.ld none (.t 9)), []⟩,
 ⟨some 11, none, .e (.call 49 [(.t 10)]), []⟩]
def c26_4 : ACode := .ops [
 ⟨some 12, none, .q (.fa 1 (.t 1)), []⟩,
 ⟨some 13, none, .q (.ld none (.t 12)), []⟩,
 ⟨some 14, none, .q (.mki 56 (.t 13)), []⟩,
 ⟨some 2, none, .q (.mv (.t 14)), []⟩]
def c26_5 : ACode := .seq c26_4 .ret
def c26_6 : ACode := .cond (.t 11) c26_5 .skip
def c26_7 : ACode := .seq c26_3 c26_6
def c26_8 : ACode := .ops [
 ⟨some 16, none, .q (.bin .eql (.t 6) (.v (.int .i64 2))), []⟩,
 ⟨some 15, none, .q (.mv (.t 16)), []⟩]
def c26_9 : ACode := .ops [
 ⟨some 18, none, .q (.fa 2 (.t 1)), []⟩,
 ⟨some 19, none, .q (.ld none (.t 18)), []⟩,
 ⟨some 20, none, .e (.call 50 [(.t 19)]), []⟩,
 ⟨some 17, none, .q (.mv (.t 20)), []⟩,
 ⟨some 21, none, .q (.ext 0 (.t 17)), []⟩,
 ⟨some 22, none, .q (.ext 1 (.t 17)), []⟩,
 ⟨some 3, none, .q (.mv (.t 21)), []⟩,
 ⟨some 4, none, .q (.mv (.t 22)), []⟩]
def c26_10 : ACode := .ops [
 ⟨some 23, none, .q (.mv (.t 4)), []⟩,
 ⟨some 24, none, .q (.mv (.t 23)), []⟩,
 ⟨some 25, some (24, true), .q (.fa 2 (.t 1)), []⟩,
 ⟨some 26, some (24, true), .q (.ld none (.t 25)), []⟩,
 ⟨some 27, some (24, true), .q (.lenS (.t 26)), []⟩,
 ⟨some 28, some (24, true), .q (.bin .leq (.t 27) (.v (.int .i64 2000))), []⟩,
 ⟨some 29, none, .q (.pick (.t 24) (.t 28) (.v (.bool false))), []⟩]
def c26_11 : ACode := .ops [
 ⟨some 30, none, .q (.fa 2 (.t 1)), []⟩,
 ⟨some 31, none, .q (.ld none (.t 30)), []⟩,
 ⟨some 32, none, .q (.mki 30 (.t 31)), []⟩,
 ⟨some 2, none, .q (.mv (.t 32)), []⟩]
def c26_12 : ACode := .seq c26_11 .ret
def c26_13 : ACode := .cond (.t 29) c26_12 .skip
def c26_14 : ACode := .seq c26_10 c26_13
def c26_15 : ACode := .seq c26_9 c26_14
def c26_16 : ACode := .ops [
 ⟨some 34, none, .q (.bin .eql (.t 6) (.v (.int .i64 3))), []⟩,
 ⟨some 33, none, .q (.mv (.t 34)), []⟩]
def c26_17 : ACode := .ops [
 ⟨some 35, none, .q (.fa 1 (.t 1)), []⟩,
 ⟨some 36, none, .q (.ld none (.t 35)), []⟩,
 ⟨some 37, none, .q (.bin .eql (.t 36) (.v (.int .i64 1))), []⟩,
 ⟨some 38, none, .q (.mki 66 (.t 37)), []⟩,
 ⟨some 2, none, .q (.mv (.t 38)), []⟩]
def c26_18 : ACode := .seq c26_17 .ret
def c26_19 : ACode := .ops [
 ⟨some 40, none, .q (.bin .eql (.t 6) (.v (.int .i64 4))), []⟩,
 ⟨some 39, none, .q (.mv (.t 40)), []⟩]
def c26_20 : ACode := .ops [
 ⟨some 41, none, .q (.fa 1 (.t 1)), []⟩,
 ⟨some 42, none, .q (.ld none (.t 41)), []⟩,
 ⟨some 43, none, .q (.bin .geq (.t 42) (.v (.int .i64 1))), []⟩,
 ⟨some 44, none, .q (.mv (.t 43)), []⟩,
 ⟨some 45, some (44, true), .q (.fa 1 (.t 1)), []⟩,
 ⟨some 46, some (44, true), .q (.ld none (.t 45)), []⟩,
 ⟨some 47, some (44, true), .e (.call 21 []), [⟨(some (44, true)), .ld none (.t 45), 46⟩]⟩,
 ⟨some 48, some (44, true), .q (.len (.t 47)), []⟩,
 ⟨some 49, some (44, true), .q (.bin .leq (.t 46) (.t 48)), []⟩,
 ⟨some 50, none, .q (.pick (.t 44) (.t 49) (.v (.bool false))), []⟩]
def c26_21 : ACode := .ops [
 ⟨some 51, none, .q (.fa 1 (.t 1)), []⟩,
 ⟨some 52, none, .q (.ld none (.t 51)), []⟩,
 ⟨some 53, none, .q (.mki 39 (.t 52)), []⟩,
 ⟨some 2, none, .q (.mv (.t 53)), []⟩]
def c26_22 : ACode := .seq c26_21 .ret
def c26_23 : ACode := .cond (.t 50) c26_22 .skip
def c26_24 : ACode := .seq c26_20 c26_23
def c26_25 : ACode := .cond (.t 39) c26_24 .skip
def c26_26 : ACode := .seq c26_19 c26_25
def c26_27 : ACode := .cond (.t 33) c26_18 c26_26
def c26_28 : ACode := .seq c26_16 c26_27
def c26_29 : ACode := .cond (.t 15) c26_15 c26_28
def c26_30 : ACode := .seq c26_8 c26_29
def c26_31 : ACode := .cond (.t 7) c26_7 c26_30
def c26_32 : ACode := .seq c26_2 c26_31
def c26_33 : ACode := .block 0 c26_32
def c26_34 : ACode := .seq c26_1 c26_33
def c26_35 : ACode := .ops [
 ⟨some 54, none, .q (.build [] []), []⟩,
 ⟨some 55, none, .q (.mki 93 (.t 54)), []⟩,
 ⟨some 2, none, .q (.mv (.t 55)), []⟩]
def c26_36 : ACode := .seq c26_35 .ret
def c26_37 : ACode := .seq c26_34 c26_36
def c26_38 : ACode := .seq c26_0 c26_37
@[go_sem] def c26_0_wp := wp_of c26_0.eq_1
@[go_sem] def c26_1_wp := wp_of c26_1.eq_1
@[go_sem] def c26_2_wp := wp_of c26_2.eq_1
@[go_sem] def c26_3_wp := wp_of c26_3.eq_1
@[go_sem] def c26_4_wp := wp_of c26_4.eq_1
@[go_sem] def c26_5_wp := wp_of c26_5.eq_1
@[go_sem] def c26_6_wp := wp_of c26_6.eq_1
@[go_sem] def c26_7_wp := wp_of c26_7.eq_1
@[go_sem] def c26_8_wp := wp_of c26_8.eq_1
@[go_sem] def c26_9_wp := wp_of c26_9.eq_1
@[go_sem] def c26_10_wp := wp_of c26_10.eq_1
@[go_sem] def c26_11_wp := wp_of c26_11.eq_1
@[go_sem] def c26_12_wp := wp_of c26_12.eq_1
@[go_sem] def c26_13_wp := wp_of c26_13.eq_1
@[go_sem] def c26_14_wp := wp_of c26_14.eq_1
@[go_sem] def c26_15_wp := wp_of c26_15.eq_1
@[go_sem] def c26_16_wp := wp_of c26_16.eq_1
@[go_sem] def c26_17_wp := wp_of c26_17.eq_1
@[go_sem] def c26_18_wp := wp_of c26_18.eq_1
@[go_sem] def c26_19_wp := wp_of c26_19.eq_1
@[go_sem] def c26_20_wp := wp_of c26_20.eq_1
@[go_sem] def c26_21_wp := wp_of c26_21.eq_1
@[go_sem] def c26_22_wp := wp_of c26_22.eq_1
@[go_sem] def c26_23_wp := wp_of c26_23.eq_1
@[go_sem] def c26_24_wp := wp_of c26_24.eq_1
@[go_sem] def c26_25_wp := wp_of c26_25.eq_1
@[go_sem] def c26_26_wp := wp_of c26_26.eq_1
@[go_sem] def c26_27_wp := wp_of c26_27.eq_1
@[go_sem] def c26_28_wp := wp_of c26_28.eq_1
@[go_sem] def c26_29_wp := wp_of c26_29.eq_1
@[go_sem] def c26_30_wp := wp_of c26_30.eq_1
@[go_sem] def c26_31_wp := wp_of c26_31.eq_1
@[go_sem] def c26_32_wp := wp_of c26_32.eq_1
@[go_sem] def c26_33_wp := wp_of c26_33.eq_1
@[go_sem] def c26_34_wp := wp_of c26_34.eq_1
@[go_sem] def c26_35_wp := wp_of c26_35.eq_1
@[go_sem] def c26_36_wp := wp_of c26_36.eq_1
@[go_sem] def c26_37_wp := wp_of c26_37.eq_1
@[go_sem] def c26_38_wp := wp_of c26_38.eq_1
def c26 : AFn := ⟨56, [.t 2], c26_38⟩
theorem c26_ok : compF Tryz.prog Tryz.f26 = some c26 := by kernel_rfl
theorem a26 {args : List AV} {σ : ASt} {R : AV → ASt → Prop} (hl : args.length ≤ 56) (h : c26_38.wp Tryz.prog (RetQ [.t 2] R) (init args) σ) : ACalls Tryz.prog 26 args σ R := acalls_of Tryz.func26 c26_ok hl h
/-! 32: tabular/value.AsNumber -/
def c32_0 : ACode := .ops [
 ⟨some 2, none, .q (.mv (.v (.int .i64 0))), []⟩,
 ⟨some 3, none, .q (.mv (.v (.int .i64 0))), []⟩]
def c32_1 : ACode := .ops [
 ⟨some 10, none, .q (.mv (.t 0)), []⟩]
def c32_2 : ACode := .ops [
 ⟨some 11, none, .q (.ta 56 (.int .i64 0) true (.t 10)), []⟩,
 ⟨some 12, none, .q (.ext 1 (.t 11)), []⟩,
 ⟨some 13, none, .q (.ext 0 (.t 11)), []⟩]
def c32_3 : ACode := .ops [
 ⟨some 4, none, .q (.mv (.t 13)), []⟩]
def c32_4 : ACode := .ops [
 ⟨some 14, none, .q (.mv (.t 4)), []⟩,
 ⟨some 2, none, .q (.mv (.t 14)), []⟩,
 ⟨some 3, none, .q (.mv (.v (.int .i64 0))), []⟩]
def c32_5 : ACode := .seq c32_4 .ret
def c32_6 : ACode := .seq c32_3 c32_5
def c32_7 : ACode := .ops [
 ⟨some 15, none, .q (.ta 66 (.bool false) true (.t 10)), []⟩,
 ⟨some 16, none, .q (.ext 1 (.t 15)), []⟩,
 ⟨some 17, none, .q (.ext 0 (.t 15)), []⟩]
def c32_8 : ACode := .ops [
 ⟨some 5, none, .q (.mv (.t 17)), []⟩]
def c32_9 : ACode := .ops [
 ⟨some 18, none, .q (.mv (.t 5)), []⟩]
def c32_10 : ACode := .ops [
 ⟨some 2, none, .q (.mv (.v (.int .i64 10000))), []⟩,
 ⟨some 3, none, .q (.mv (.v (.int .i64 0))), []⟩]
def c32_11 : ACode := .seq c32_10 .ret
def c32_12 : ACode := .cond (.t 18) c32_11 .skip
def c32_13 : ACode := .seq c32_9 c32_12
def c32_14 : ACode := .ops [
 ⟨some 2, none, .q (.mv (.v (.int .i64 0))), []⟩,
 ⟨some 3, none, .q (.mv (.v (.int .i64 0))), []⟩]
def c32_15 : ACode := .seq c32_14 .ret
def c32_16 : ACode := .seq c32_13 c32_15
def c32_17 : ACode := .seq c32_8 c32_16
def c32_18 : ACode := .ops [
 ⟨some 19, none, .q (.ta 30 (.str []) true (.t 10)), []⟩,
 ⟨some 20, none, .q (.ext 1 (.t 19)), []⟩,
 ⟨some 21, none, .q (.ext 0 (.t 19)), []⟩]
def c32_19 : ACode := .ops [
 ⟨some 6, none, .q (.mv (.t 21)), []⟩]
def c32_20 : ACode := .ops [
 ⟨some 23, none, .q (.mv (.t 6)), []⟩,
 ⟨some 24, none, .e (.call 56 [(.t 23)]), []⟩,
 ⟨some 25, none, .e (.call 55 [(.t 24)]), []⟩,
 ⟨some 22, none, .q (.mv (.t 25)), []⟩,
 ⟨some 26, none, .q (.ext 0 (.t 22)), []⟩,
 ⟨some 27, none, .q (.ext 1 (.t 22)), []⟩,
 ⟨some 7, none, .q (.mv (.t 26)), []⟩,
 ⟨some 8, none, .q (.mv (.t 27)), []⟩]
def c32_21 : ACode := .ops [
 ⟨some 28, none, .q (.mv (.t 8)), []⟩]
def c32_22 : ACode := .ops [
 ⟨some 29, none, .q (.mv (.t 7)), []⟩,
 ⟨some 2, none, .q (.mv (.t 29)), []⟩,
 ⟨some 3, none, .q (.mv (.v (.int .i64 0))), []⟩]
def c32_23 : ACode := .seq c32_22 .ret
def c32_24 : ACode := .cond (.t 28) c32_23 .skip
def c32_25 : ACode := .seq c32_21 c32_24
def c32_26 : ACode := .seq c32_20 c32_25
def c32_27 : ACode := .ops [
 ⟨some 2, none, .q (.mv (.v (.int .i64 0))), []⟩,
 ⟨some 3, none, .q (.mv (.v (.int .i64 3))), []⟩]
def c32_28 : ACode := .seq c32_27 .ret
def c32_29 : ACode := .seq c32_26 c32_28
def c32_30 : ACode := .seq c32_19 c32_29
def c32_31 : ACode := .ops [
 ⟨some 30, none, .q (.ta 39 (.int .i64 0) true (.t 10)), []⟩,
 ⟨some 31, none, .q (.ext 1 (.t 30)), []⟩,
 ⟨some 32, none, .q (.ext 0 (.t 30)), []⟩]
def c32_32 : ACode := .ops [
 ⟨some 9, none, .q (.mv (.t 32)), []⟩]
def c32_33 : ACode := .ops [
 ⟨some 33, none, .q (.mv (.t 9)), []⟩,
 ⟨some 2, none, .q (.mv (.v (.int .i64 0))), []⟩,
 ⟨some 3, none, .q (.mv (.t 33)), []⟩]
def c32_34 : ACode := .seq c32_33 .ret
def c32_35 : ACode := .seq c32_32 c32_34
def c32_36 : ACode := .cond (.t 31) c32_35 .skip
def c32_37 : ACode := .seq c32_31 c32_36
def c32_38 : ACode := .cond (.t 20) c32_30 c32_37
def c32_39 : ACode := .seq c32_18 c32_38
def c32_40 : ACode := .cond (.t 16) c32_17 c32_39
def c32_41 : ACode := .seq c32_7 c32_40
def c32_42 : ACode := .cond (.t 12) c32_6 c32_41
def c32_43 : ACode := .seq c32_2 c32_42
def c32_44 : ACode := .block 0 c32_43
def c32_45 : ACode := .seq c32_1 c32_44
def c32_46 : ACode := .ops [
 ⟨some 2, none, .q (.mv (.v (.int .i64 0))), []⟩,
 ⟨some 3, none, .q (.mv (.v (.int .i64 0))), []⟩]
def c32_47 : ACode := .seq c32_46 .ret
def c32_48 : ACode := .seq c32_45 c32_47
def c32_49 : ACode := .seq c32_0 c32_48
@[go_sem] def c32_0_wp := wp_of c32_0.eq_1
@[go_sem] def c32_1_wp := wp_of c32_1.eq_1
@[go_sem] def c32_2_wp := wp_of c32_2.eq_1
@[go_sem] def c32_3_wp := wp_of c32_3.eq_1
@[go_sem] def c32_4_wp := wp_of c32_4.eq_1
@[go_sem] def c32_5_wp := wp_of c32_5.eq_1
@[go_sem] def c32_6_wp := wp_of c32_6.eq_1
@[go_sem] def c32_7_wp := wp_of c32_7.eq_1
@[go_sem] def c32_8_wp := wp_of c32_8.eq_1
@[go_sem] def c32_9_wp := wp_of c32_9.eq_1
@[go_sem] def c32_10_wp := wp_of c32_10.eq_1
@[go_sem] def c32_11_wp := wp_of c32_11.eq_1
@[go_sem] def c32_12_wp := wp_of c32_12.eq_1
@[go_sem] def c32_13_wp := wp_of c32_13.eq_1
@[go_sem] def c32_14_wp := wp_of c32_14.eq_1
@[go_sem] def c32_15_wp := wp_of c32_15.eq_1
@[go_sem] def c32_16_wp := wp_of c32_16.eq_1
@[go_sem] def c32_17_wp := wp_of c32_17.eq_1
@[go_sem] def c32_18_wp := wp_of c32_18.eq_1
@[go_sem] def c32_19_wp := wp_of c32_19.eq_1
@[go_sem] def c32_20_wp := wp_of c32_20.eq_1
@[go_sem] def c32_21_wp := wp_of c32_21.eq_1
@[go_sem] def c32_22_wp := wp_of c32_22.eq_1
@[go_sem] def c32_23_wp := wp_of c32_23.eq_1
@[go_sem] def c32_24_wp := wp_of c32_24.eq_1
@[go_sem] def c32_25_wp := wp_of c32_25.eq_1
@[go_sem] def c32_26_wp := wp_of c32_26.eq_1
@[go_sem] def c32_27_wp := wp_of c32_27.eq_1
@[go_sem] def c32_28_wp := wp_of c32_28.eq_1
@[go_sem] def c32_29_wp := wp_of c32_29.eq_1
@[go_sem] def c32_30_wp := wp_of c32_30.eq_1
@[go_sem] def c32_31_wp := wp_of c32_31.eq_1
@[go_sem] def c32_32_wp := wp_of c32_32.eq_1
@[go_sem] def c32_33_wp := wp_of c32_33.eq_1
@[go_sem] def c32_34_wp := wp_of c32_34.eq_1
@[go_sem] def c32_35_wp := wp_of c32_35.eq_1
@[go_sem] def c32_36_wp := wp_of c32_36.eq_1
@[go_sem] def c32_37_wp := wp_of c32_37.eq_1
@[go_sem] def c32_38_wp := wp_of c32_38.eq_1
@[go_sem] def c32_39_wp := wp_of c32_39.eq_1
@[go_sem] def c32_40_wp := wp_of c32_40.eq_1
@[go_sem] def c32_41_wp := wp_of c32_41.eq_1
@[go_sem] def c32_42_wp := wp_of c32_42.eq_1
@[go_sem] def c32_43_wp := wp_of c32_43.eq_1
@[go_sem] def c32_44_wp := wp_of c32_44.eq_1
@[go_sem] def c32_45_wp := wp_of c32_45.eq_1
@[go_sem] def c32_46_wp := wp_of c32_46.eq_1
@[go_sem] def c32_47_wp := wp_of c32_47.eq_1
@[go_sem] def c32_48_wp := wp_of c32_48.eq_1
@[go_sem] def c32_49_wp := wp_of c32_49.eq_1
def c32 : AFn := ⟨34, [.t 2, .t 3], c32_49⟩
theorem c32_ok : compF Tryz.prog Tryz.f32 = some c32 := by kernel_rfl
theorem a32 {args : List AV} {σ : ASt} {R : AV → ASt → Prop} (hl : args.length ≤ 34) (h : c32_49.wp Tryz.prog (RetQ [.t 2, .t 3] R) (init args) σ) : ACalls Tryz.prog 32 args σ R := acalls_of Tryz.func32 c32_ok hl h
/-! 33: (tabular/value.Arg).Value -/
def c33_0 : ACode := .ops [
 ⟨some 1, none, .e (.box (.t 0)), []⟩,
 ⟨some 2, none, .q (.mv (.v .nili)), []⟩]
def c33_1 : ACode := .ops [
 ⟨some 3, none, .q (.fa 3 (.t 1)), []⟩,
 ⟨some 4, none, .q (.ld none (.t 3)), []⟩,
 ⟨some 5, none, .q (.len (.t 4)), []⟩,
 ⟨some 6, none, .q (.bin .neq (.t 5) (.v (.int .i64 1))), []⟩]
def c33_2 : ACode := .ops [
 ⟨some 7, none, .q (.mki 39 (.v (.int .i64 3))), []⟩,
 ⟨some 2, none, .q (.mv (.t 7)), []⟩]
def c33_3 : ACode := .seq c33_2 .ret
def c33_4 : ACode := .cond (.t 6) c33_3 .skip
def c33_5 : ACode := .seq c33_1 c33_4
def c33_6 : ACode := .ops [
 ⟨some 8, none, .q (.fa 3 (.t 1)), []⟩,
 ⟨some 9, none, .q (.ld none (.t 8)), []⟩,
 ⟨some 10, none, .q (.ia 1 (.t 9) (.v (.int .i64 0))), []⟩,
 ⟨some 11, none, .q (.ld none (.t 10)), []⟩,
 ⟨some 2, none, .q (.mv (.t 11)), []⟩]
def c33_7 : ACode := .seq c33_6 .ret
def c33_8 : ACode := .seq c33_5 c33_7
def c33_9 : ACode := .seq c33_0 c33_8
@[go_sem] def c33_0_wp := wp_of c33_0.eq_1
@[go_sem] def c33_1_wp := wp_of c33_1.eq_1
@[go_sem] def c33_4_wp := wp_of c33_4.eq_1
@[go_sem] def c33_5_wp := wp_of c33_5.eq_1
@[go_sem] def c33_6_wp := wp_of c33_6.eq_1
@[go_sem] def c33_7_wp := wp_of c33_7.eq_1
@[go_sem] def c33_8_wp := wp_of c33_8.eq_1
@[go_sem] def c33_9_wp := wp_of c33_9.eq_1
def c33 : AFn := ⟨12, [.t 2], c33_9⟩
theorem c33_ok : compF Tryz.prog Tryz.f33 = some c33 := by kernel_rfl
theorem a33 {args : List AV} {σ : ASt} {R : AV → ASt → Prop} (hl : args.length ≤ 12) (h : c33_9.wp Tryz.prog (RetQ [.t 2] R) (init args) σ) : ACalls Tryz.prog 33 args σ R := acalls_of Tryz.func33 c33_ok hl h
/-! 50: tabular/token.Signs -/
def c50_0 : ACode := .ops [
 ⟨some 2, none, .q (.mv (.v (.int .i64 0))), []⟩,
 ⟨some 3, none, .q (.mv (.v (.bool false))), []⟩]
def c50_1 : ACode := .ops [
 ⟨some 4, none, .q (.mv (.v (.int .i64 0))), []⟩]
def c50_2 : ACode := .ops [
 ⟨some 9, none, .q (.mv (.t 0)), []⟩,
 ⟨some 10, none, .e (.rng (.t 9)), []⟩]
def c50_3 : ACode := .ops [
 ⟨some 11, none, .e (.nxt (.t 10)), []⟩,
 ⟨some 12, none, .q (.ext 0 (.t 11)), []⟩]
def c50_4 : ACode := .cond (.t 12) .skip (.exit 0)
def c50_5 : ACode := .ops [
 ⟨some 13, none, .q (.ext 1 (.t 11)), []⟩,
 ⟨some 14, none, .q (.ext 2 (.t 11)), []⟩,
 ⟨some 5, none, .q (.mv (.t 13)), []⟩,
 ⟨some 6, none, .q (.mv (.t 14)), []⟩]
def c50_6 : ACode := .ops [
 ⟨some 15, none, .q (.mv (.t 6)), []⟩,
 ⟨some 16, none, .q (.bin .eql (.t 15) (.v (.int .i32 65533))), []⟩]
def c50_7 : ACode := .ops [
 ⟨some 18, none, .q (.mv (.t 0)), []⟩,
 ⟨some 19, none, .q (.mv (.t 5)), []⟩,
 ⟨some 20, none, .q (.slfrom (true, 0) (.t 18) (.t 19)), []⟩,
 ⟨some 21, none, .e (.call 77 [(.t 20)]), []⟩,
 ⟨some 17, none, .q (.mv (.t 21)), []⟩,
 ⟨some 22, none, .q (.ext 0 (.t 17)), []⟩,
 ⟨some 23, none, .q (.ext 1 (.t 17)), []⟩,
 ⟨some 7, none, .q (.mv (.t 22)), []⟩,
 ⟨some 8, none, .q (.mv (.t 23)), []⟩]
def c50_8 : ACode := .ops [
 ⟨some 24, none, .q (.mv (.t 8)), []⟩,
 ⟨some 25, none, .q (.bin .eql (.t 24) (.v (.int .i64 1))), []⟩]
def c50_9 : ACode := .ops [
 ⟨some 2, none, .q (.mv (.v (.int .i64 0))), []⟩,
 ⟨some 3, none, .q (.mv (.v (.bool false))), []⟩]
def c50_10 : ACode := .seq c50_9 .ret
def c50_11 : ACode := .cond (.t 25) c50_10 .skip
def c50_12 : ACode := .seq c50_8 c50_11
def c50_13 : ACode := .seq c50_7 c50_12
def c50_14 : ACode := .cond (.t 16) c50_13 .skip
def c50_15 : ACode := .seq c50_6 c50_14
def c50_16 : ACode := .ops [
 ⟨some 26, none, .q (.mv (.t 4)), []⟩,
 ⟨some 27, none, .q (.bin .add (.t 26) (.v (.int .i64 1))), []⟩,
 ⟨some 4, none, .q (.mv (.t 27)), []⟩]
def c50_17 : ACode := .seq c50_15 c50_16
def c50_18 : ACode := .seq c50_5 c50_17
def c50_19 : ACode := .block 1 c50_18
def c50_20 : ACode := .seq c50_4 c50_19
def c50_21 : ACode := .seq c50_3 c50_20
def c50_22 : ACode := .loop c50_21
def c50_23 : ACode := .block 0 c50_22
def c50_24 : ACode := .seq c50_2 c50_23
def c50_25 : ACode := .ops [
 ⟨some 28, none, .q (.mv (.t 4)), []⟩,
 ⟨some 2, none, .q (.mv (.t 28)), []⟩,
 ⟨some 3, none, .q (.mv (.v (.bool true))), []⟩]
def c50_26 : ACode := .seq c50_25 .ret
def c50_27 : ACode := .seq c50_24 c50_26
def c50_28 : ACode := .seq c50_1 c50_27
def c50_29 : ACode := .seq c50_0 c50_28
@[go_sem] def c50_0_wp := wp_of c50_0.eq_1
@[go_sem] def c50_1_wp := wp_of c50_1.eq_1
@[go_sem] def c50_2_wp := wp_of c50_2.eq_1
@[go_sem] def c50_3_wp := wp_of c50_3.eq_1
@[go_sem] def c50_4_wp := wp_of c50_4.eq_1
@[go_sem] def c50_5_wp := wp_of c50_5.eq_1
@[go_sem] def c50_6_wp := wp_of c50_6.eq_1
@[go_sem] def c50_7_wp := wp_of c50_7.eq_1
@[go_sem] def c50_8_wp := wp_of c50_8.eq_1
@[go_sem] def c50_9_wp := wp_of c50_9.eq_1
@[go_sem] def c50_10_wp := wp_of c50_10.eq_1
@[go_sem] def c50_11_wp := wp_of c50_11.eq_1
@[go_sem] def c50_12_wp := wp_of c50_12.eq_1
@[go_sem] def c50_13_wp := wp_of c50_13.eq_1
@[go_sem] def c50_14_wp := wp_of c50_14.eq_1
@[go_sem] def c50_15_wp := wp_of c50_15.eq_1
@[go_sem] def c50_16_wp := wp_of c50_16.eq_1
@[go_sem] def c50_17_wp := wp_of c50_17.eq_1
@[go_sem] def c50_18_wp := wp_of c50_18.eq_1
@[go_sem] def c50_19_wp := wp_of c50_19.eq_1
@[go_sem] def c50_20_wp := wp_of c50_20.eq_1
@[go_sem] def c50_21_wp := wp_of c50_21.eq_1
@[go_sem] def c50_22_wp := wp_of c50_22.eq_1
@[go_sem] def c50_23_wp := wp_of c50_23.eq_1
@[go_sem] def c50_24_wp := wp_of c50_24.eq_1
@[go_sem] def c50_25_wp := wp_of c50_25.eq_1
@[go_sem] def c50_26_wp := wp_of c50_26.eq_1
@[go_sem] def c50_27_wp := wp_of c50_27.eq_1
@[go_sem] def c50_28_wp := wp_of c50_28.eq_1
@[go_sem] def c50_29_wp := wp_of c50_29.eq_1
def c50 : AFn := ⟨29, [.t 2, .t 3], c50_29⟩
theorem c50_ok : compF Tryz.prog Tryz.f50 = some c50 := by kernel_rfl
theorem a50 {args : List AV} {σ : ASt} {R : AV → ASt → Prop} (hl : args.length ≤ 29) (h : c50_29.wp Tryz.prog (RetQ [.t 2, .t 3] R) (init args) σ) : ACalls Tryz.prog 50 args σ R := acalls_of Tryz.func50 c50_ok hl h
/-! 56: tabular/value.trim -/
def c56_0 : ACode := .ops [
 ⟨some 2, none, .q (.mv (.v (.str []))), []⟩]
def c56_1 : ACode := .ops [
 ⟨some 3, none, .q (.mv (.t 0)), []⟩,
 ⟨some 4, none, .e (.call 79 [(.t 3), (.v (.str [32]))]), []⟩,
 ⟨some 2, none, .q (.mv (.t 4)), []⟩]
def c56_2 : ACode := .seq c56_1 .ret
def c56_3 : ACode := .seq c56_0 c56_2
@[go_sem] def c56_0_wp := wp_of c56_0.eq_1
@[go_sem] def c56_1_wp := wp_of c56_1.eq_1
@[go_sem] def c56_2_wp := wp_of c56_2.eq_1
@[go_sem] def c56_3_wp := wp_of c56_3.eq_1
def c56 : AFn := ⟨5, [.t 2], c56_3⟩
theorem c56_ok : compF Tryz.prog Tryz.f56 = some c56 := by kernel_rfl
theorem a56 {args : List AV} {σ : ASt} {R : AV → ASt → Prop} (hl : args.length ≤ 5) (h : c56_3.wp Tryz.prog (RetQ [.t 2] R) (init args) σ) : ACalls Tryz.prog 56 args σ R := acalls_of Tryz.func56 c56_ok hl h
/-! 62: tabular/value.Counted -/
def c62_0 : ACode := .ops [
 ⟨some 4, none, .q (.mv (.v .nili)), []⟩]
def c62_1 : ACode := .ops [
 ⟨some 5, none, .q (.mv (.t 1)), []⟩,
 ⟨some 6, none, .q (.un .not (.t 5)), []⟩]
def c62_2 : ACode := .ops [
 ⟨some 7, none, .q (.mki 39 (.v (.int .i64 2))), []⟩,
 ⟨some 4, none, .q (.mv (.t 7)), []⟩]
def c62_3 : ACode := .seq c62_2 .ret
def c62_4 : ACode := .cond (.t 6) c62_3 .skip
def c62_5 : ACode := .seq c62_1 c62_4
def c62_6 : ACode := .ops [
 ⟨some 8, none, .q (.mv (.t 0)), []⟩,
 ⟨some 9, none, .q (.mki 56 (.t 8)), []⟩,
 ⟨some 4, none, .q (.mv (.t 9)), []⟩]
def c62_7 : ACode := .seq c62_6 .ret
def c62_8 : ACode := .seq c62_5 c62_7
def c62_9 : ACode := .seq c62_0 c62_8
@[go_sem] def c62_0_wp := wp_of c62_0.eq_1
@[go_sem] def c62_1_wp := wp_of c62_1.eq_1
@[go_sem] def c62_2_wp := wp_of c62_2.eq_1
@[go_sem] def c62_3_wp := wp_of c62_3.eq_1
@[go_sem] def c62_4_wp := wp_of c62_4.eq_1
@[go_sem] def c62_5_wp := wp_of c62_5.eq_1
@[go_sem] def c62_6_wp := wp_of c62_6.eq_1
@[go_sem] def c62_7_wp := wp_of c62_7.eq_1
@[go_sem] def c62_8_wp := wp_of c62_8.eq_1
@[go_sem] def c62_9_wp := wp_of c62_9.eq_1
def c62 : AFn := ⟨10, [.t 4], c62_9⟩
theorem c62_ok : compF Tryz.prog Tryz.f62 = some c62 := by kernel_rfl
theorem a62 {args : List AV} {σ : ASt} {R : AV → ASt → Prop} (hl : args.length ≤ 10) (h : c62_9.wp Tryz.prog (RetQ [.t 4] R) (init args) σ) : ACalls Tryz.prog 62 args σ R := acalls_of Tryz.func62 c62_ok hl h
end Go.A
namespace Go.A
open Go.Proofs
section
variable {σ0 σ : ASt} {k : SK} {n s c : Nat} {q : Role}
theorem set_swap2 {b c : Nat} {r q : Option Role} (h : b ≠ c) : (σ.set b r).set c q = (σ.set c q).set b r := by
 funext x
 simp only [ASt.set]
 by_cases h1 : x = c
 ·subst h1; simp [h.symm]
 ·simp [h1]
theorem Grown.upon (hg : Grown σ0 σ k n s) (hc : σ c = none) : Grown (σ0.set c (some q)) (σ.set c (some q)) k n s ∧ σ0 c = none := by
 rcases hg with ⟨h1, h2, rfl⟩ | ⟨t, T, h1, h2, rfl⟩
 ·exact ⟨.inl ⟨h1, h2, rfl⟩, hc⟩
 ·obtain ⟨h3, h4, h5⟩ := set_none hc
  exact ⟨.inr ⟨t, T, h1, by rw [ASt.set_ne h4]; exact h2, set_swap2 h4⟩, h5⟩
theorem Grown.off (h : Grown (σ0.set c (some q)) σ k n s) (hc : σ0 c = none) : ∃ σ', Drop σ σ' ∧ Grown σ0 σ' k n s := by
 rcases h with ⟨h1, h2, rfl⟩ | ⟨t, T, h1, h2, rfl⟩
 ·exact ⟨σ0, Drop.set hc, .inl ⟨h1, h2, rfl⟩⟩
 ·obtain ⟨h3, h4, h5⟩ := set_none h2
  refine ⟨σ0.set t (some (.tok (n * s))), ?_, .inr ⟨t, T, h1, h5, rfl⟩⟩
  rw [set_swap2 h4]
  exact Drop.set (by rw [ASt.set_ne h4]; exact hc)
end
inductive PV where
 | blank
 | num (n : Int)
 | text (s : List UInt8)
 | bool (b : Bool)
 | fail (n : Int)
 deriving DecidableEq
def PV.av : PV → AV
 | .blank => .iface 93 (.agg [])
 | .num n => .iface 56 (.int .i64 n)
 | .text s => .iface 30 (.str s)
 | .bool b => .iface 66 (.bool b)
 | .fail n => .iface 39 (.int .i64 n)
theorem PV.av_cells (v : PV) : v.av.cells = [v.av] := by cases v <;> rfl
theorem PV.av_any (v : PV) : v.av.isAny = false := by cases v <;> rfl
def PV.small : PV → Prop
 | .text s => s.length ≤ 100000
 | _ => True
def argAV (v : PV) : AV := .agg [.int .i64 1, .int .i64 1, .bool false, .sl .full [v.av]]
theorem argAV_any (v : PV) : (argAV v).isAny = false := rfl
theorem argAV_len (v : PV) : (argAV v).cells.length = 4 := rfl
def asNum : PV → Int × Int
 | .blank => (0, 0)
 | .num n => (n, 0)
 | .text s => match parseD (Lib.trimB s 32) with
   | some n => (n, 0)
   | none => (0, 3)
 | .bool b => (if b = true then 10000 else 0, 0)
 | .fail f => (0, f)
theorem sTrim_ok (s : List UInt8) (hs : s.length ≤ 9223372036854775807) : Pure Tryz.prog 79 [.str s, .str [32]] (.str (Lib.trimB s 32)) := by
 intro σ
 refine ACalls.of_ext (u := .string ⟨(Lib.trimB s 32).toArray⟩) (fun w vs hs' ha => ?_) fun w => .str _
 cases ha with
 | cons h1 h2 =>
 cases h2 with
 | cons h2 h3 =>
 cases h1; cases h2; cases h3
 exact (Tryz.strings_Trim_one ⟨⟨s⟩⟩ 32 (by decide) w hs).mono fun e w' ⟨he, hw⟩ => ⟨he, by rcases hw with rfl | rfl; exact Ext.refl _; exact .drew (.refl _)⟩
theorem trimB_len (s : List UInt8) (c : UInt8) : (Lib.trimB s c).length ≤ s.length := by
 unfold Lib.trimB
 have h1 : ∀ l : List UInt8, (Lib.trimRightB l c).length ≤ l.length := by
  intro l
  unfold Lib.trimRightB
  rw [List.length_reverse]
  exact Nat.le_trans (List.dropWhile_sublist _).length_le (by simp)
 have h2 : ∀ l : List UInt8, (Lib.trimLeftB l c).length ≤ l.length := by
  intro l
  unfold Lib.trimLeftB
  exact (List.dropWhile_sublist _).length_le
 exact Nat.le_trans (h2 _) (h1 _)
theorem trim_ok (s : List UInt8) (hs : s.length ≤ 9223372036854775807) : Pure Tryz.prog 56 [.str s] (.str (Lib.trimB s 32)) := by
 intro σ
 have hT := sTrim_ok s hs
 refine a56 (by simp) ?_
 simp (disch := first | assumption | omega) only [go_sem, reduceCtorEq, ↓reduceIte]
 refine hT.use ?_
 simp (disch := first | assumption | omega) only [go_sem, ↓reduceIte]
 exact retC_by (by repeat' (first | exact Drop.refl _ | with_reducible refine Drop.off ?_ (by assumption))) (.refl _) ⟨rfl, rfl⟩
theorem asNumber_ok (v : PV) (hv : v.small) : Pure Tryz.prog 32 [v.av] (.tuple [.int .i64 (asNum v).1, .int .i64 (asNum v).2]) := by
 intro σ
 refine a32 (by simp) ?_
 cases v with
 | blank =>
   simp only [PV.av, asNum]
   simp (disch := first | assumption | omega) only [go_sem, reduceCtorEq, Nat.reduceEqDiff, ↓reduceIte]
   exact retC_by (by repeat' (first | exact Drop.refl _ | with_reducible refine Drop.off ?_ (by assumption))) (.refl _) ⟨rfl, rfl⟩
 | num n =>
   simp only [PV.av, asNum]
   simp (disch := first | assumption | omega) only [go_sem, reduceCtorEq, Nat.reduceEqDiff, ↓reduceIte]
   exact retC_by (by repeat' (first | exact Drop.refl _ | with_reducible refine Drop.off ?_ (by assumption))) (.refl _) ⟨rfl, rfl⟩
 | text s =>
   have hs : s.length ≤ 100000 := hv
   have hT := trim_ok s (by omega)
   have hP := dparse_ok (Lib.trimB s 32) (by have := trimB_len s 32; omega)
   simp only [PV.av, asNum]
   generalize Lib.trimB s 32 = t at *
   cases ho : parseD t with
   | none =>
     rw [ho] at hP
     simp only [resAV, Option.getD_none, Option.isSome_none] at hP
     simp (disch := first | assumption | omega) only [go_sem, reduceCtorEq, Nat.reduceEqDiff, ↓reduceIte]
     refine hT.use ?_
     simp (disch := first | assumption | omega) only [go_sem, ↓reduceIte]
     refine hP.use ?_
     simp (disch := first | assumption | omega) only [go_sem, Nat.reduceEqDiff, ↓reduceIte]
     exact retC_by (by repeat' (first | exact Drop.refl _ | with_reducible refine Drop.off ?_ (by assumption))) (.refl _) ⟨rfl, rfl⟩
   | some n =>
     rw [ho] at hP
     simp only [resAV, Option.getD_some, Option.isSome_some] at hP
     simp (disch := first | assumption | omega) only [go_sem, reduceCtorEq, Nat.reduceEqDiff, ↓reduceIte]
     refine hT.use ?_
     simp (disch := first | assumption | omega) only [go_sem, ↓reduceIte]
     refine hP.use ?_
     simp (disch := first | assumption | omega) only [go_sem, Nat.reduceEqDiff, ↓reduceIte]
     exact retC_by (by repeat' (first | exact Drop.refl _ | with_reducible refine Drop.off ?_ (by assumption))) (.refl _) ⟨rfl, rfl⟩
 | bool b =>
   simp only [PV.av, asNum]
   cases b
   ·simp (disch := first | assumption | omega) only [go_sem, reduceCtorEq, Nat.reduceEqDiff, ↓reduceIte]
    exact retC_by (by repeat' (first | exact Drop.refl _ | with_reducible refine Drop.off ?_ (by assumption))) (.refl _) ⟨rfl, rfl⟩
   ·simp (disch := first | assumption | omega) only [go_sem, reduceCtorEq, Nat.reduceEqDiff, ↓reduceIte]
    exact retC_by (by repeat' (first | exact Drop.refl _ | with_reducible refine Drop.off ?_ (by assumption))) (.refl _) ⟨rfl, rfl⟩
 | fail f =>
   simp only [PV.av, asNum]
   simp (disch := first | assumption | omega) only [go_sem, reduceCtorEq, Nat.reduceEqDiff, ↓reduceIte]
   exact retC_by (by repeat' (first | exact Drop.refl _ | with_reducible refine Drop.off ?_ (by assumption))) (.refl _) ⟨rfl, rfl⟩
theorem argval_ok (v : PV) : Pure Tryz.prog 33 [argAV v] v.av := by
 intro σ
 unfold argAV
 have h1 := PV.av_cells v
 have h2 := PV.av_any v
 obtain ⟨x, hx⟩ : ∃ x, v.av = x := ⟨_, rfl⟩
 rw [hx] at h1 h2 ⊢
 refine a33 (by simp) ?_
 simp (disch := first | assumption | omega) only [go_sem]
 refine boxC_by rfl fun b hb => ?_
 simp (disch := first | assumption | omega) only [go_sem, Nat.reduceEqDiff, ↓reduceIte, h1]
 exact retC_by (by repeat' (first | exact Drop.refl _ | with_reducible refine Drop.off ?_ (by assumption))) (.refl _) ⟨by cases v <;> subst hx <;> rfl, rfl⟩
theorem vone_ok (v : PV) : Pure Tryz.prog 13 [v.av] (argAV v) := by
 intro σ
 unfold argAV
 have h1 := PV.av_cells v
 have h2 := PV.av_any v
 generalize v.av = x at *
 refine a13 (by simp) ?_
 simp (disch := first | assumption | omega) only [go_sem]
 refine allocC_by fun b hb => ?_
 simp (disch := first | assumption | omega) only [go_sem, reduceCtorEq, Nat.reduceEqDiff, Nat.reduceAdd, Nat.reduceLeDiff, ↓reduceIte, Bool.true_and, h1, h2]
 exact retC_by (by repeat' (first | exact Drop.refl _ | with_reducible refine Drop.off ?_ (by assumption))) (.refl _) ⟨rfl, rfl⟩
def cntP : Option Int → PV
 | some n => .num n
 | none => .fail 2
theorem counted_ok (o : Option Int) : Pure Tryz.prog 62 [.int .i64 (o.getD 0), .bool o.isSome] (cntP o).av := by
 intro σ
 refine a62 (by simp) ?_
 cases o with
 | none =>
   simp only [cntP, PV.av, Option.getD_none, Option.isSome_none]
   simp (disch := first | assumption | omega) only [go_sem, Nat.reduceEqDiff, ↓reduceIte]
   exact retC_by (by repeat' (first | exact Drop.refl _ | with_reducible refine Drop.off ?_ (by assumption))) (.refl _) ⟨rfl, rfl⟩
 | some n =>
   simp only [cntP, PV.av, Option.getD_some, Option.isSome_some]
   simp (disch := first | assumption | omega) only [go_sem, reduceCtorEq, Nat.reduceEqDiff, ↓reduceIte]
   exact retC_by (by repeat' (first | exact Drop.refl _ | with_reducible refine Drop.off ?_ (by assumption))) (.refl _) ⟨rfl, rfl⟩
def givenP : PV → Int × Bool
 | .num n => (n, true)
 | _ => (0, false)
theorem given_ok (v : PV) : Pure Tryz.prog 16 [v.av] (.tuple [.int .i64 (givenP v).1, .bool (givenP v).2]) := by
 intro σ
 refine a16 (by simp) ?_
 cases v <;> simp only [PV.av, givenP] <;> simp (disch := first | assumption | omega) only [go_sem, reduceCtorEq, Nat.reduceEqDiff, ↓reduceIte]
 all_goals exact retC_by (by repeat' (first | exact Drop.refl _ | with_reducible refine Drop.off ?_ (by assumption))) (.refl _) ⟨rfl, rfl⟩
def failedP : PV → Int × Bool
 | .fail n => (n, true)
 | _ => (0, false)
theorem failed_ok (v : PV) : Pure Tryz.prog 14 [v.av] (.tuple [.int .i64 (failedP v).1, .bool (failedP v).2]) := by
 intro σ
 refine a14 (by simp) ?_
 cases v <;> simp only [PV.av, failedP] <;> simp (disch := first | assumption | omega) only [go_sem, reduceCtorEq, Nat.reduceEqDiff, ↓reduceIte]
 all_goals exact retC_by (by repeat' (first | exact Drop.refl _ | with_reducible refine Drop.off ?_ (by assumption))) (.refl _) ⟨rfl, rfl⟩
end Go.A
namespace Go.A
open Go.Proofs
/-! 58: tabular/texts.skip -/
def c58_0 : ACode := .ops [
 ⟨some 4, none, .q (.mv (.v (.int .i64 0))), []⟩]
def c58_1 : ACode := .ops [
 ⟨some 5, none, .q (.mv (.v (.int .i64 0))), []⟩]
def c58_2 : ACode := .ops [
 ⟨some 7, none, .q (.mv (.t 0)), []⟩,
 ⟨some 8, none, .e (.rng (.t 7)), []⟩]
def c58_3 : ACode := .ops [
 ⟨some 9, none, .e (.nxt (.t 8)), []⟩,
 ⟨some 10, none, .q (.ext 0 (.t 9)), []⟩]
def c58_4 : ACode := .cond (.t 10) .skip (.exit 0)
def c58_5 : ACode := .ops [
 ⟨some 11, none, .q (.ext 1 (.t 9)), []⟩,
 ⟨some 6, none, .q (.mv (.t 11)), []⟩]
def c58_6 : ACode := .ops [
 ⟨some 12, none, .q (.mv (.t 5)), []⟩,
 ⟨some 13, none, .q (.mv (.t 1)), []⟩,
 ⟨some 14, none, .q (.bin .geq (.t 12) (.t 13)), []⟩]
def c58_7 : ACode := .ops [
 ⟨some 15, none, .q (.mv (.t 6)), []⟩,
 ⟨some 4, none, .q (.mv (.t 15)), []⟩]
def c58_8 : ACode := .seq c58_7 .ret
def c58_9 : ACode := .cond (.t 14) c58_8 .skip
def c58_10 : ACode := .seq c58_6 c58_9
def c58_11 : ACode := .ops [
 ⟨some 16, none, .q (.mv (.t 5)), []⟩,
 ⟨some 17, none, .q (.bin .add (.t 16) (.v (.int .i64 1))), []⟩,
 ⟨some 5, none, .q (.mv (.t 17)), []⟩]
def c58_12 : ACode := .seq c58_10 c58_11
def c58_13 : ACode := .seq c58_5 c58_12
def c58_14 : ACode := .block 1 c58_13
def c58_15 : ACode := .seq c58_4 c58_14
def c58_16 : ACode := .seq c58_3 c58_15
def c58_17 : ACode := .loop c58_16
def c58_18 : ACode := .block 0 c58_17
def c58_19 : ACode := .seq c58_2 c58_18
def c58_20 : ACode := .ops [
 ⟨some 18, none, .q (.mv (.t 0)), []⟩,
 ⟨some 19, none, .q (.lenS (.t 18)), []⟩,
 ⟨some 4, none, .q (.mv (.t 19)), []⟩]
def c58_21 : ACode := .seq c58_20 .ret
def c58_22 : ACode := .seq c58_19 c58_21
def c58_23 : ACode := .seq c58_1 c58_22
def c58_24 : ACode := .seq c58_0 c58_23
@[go_sem] def c58_0_wp := wp_of c58_0.eq_1
@[go_sem] def c58_1_wp := wp_of c58_1.eq_1
@[go_sem] def c58_2_wp := wp_of c58_2.eq_1
@[go_sem] def c58_3_wp := wp_of c58_3.eq_1
@[go_sem] def c58_4_wp := wp_of c58_4.eq_1
@[go_sem] def c58_5_wp := wp_of c58_5.eq_1
@[go_sem] def c58_6_wp := wp_of c58_6.eq_1
@[go_sem] def c58_7_wp := wp_of c58_7.eq_1
@[go_sem] def c58_8_wp := wp_of c58_8.eq_1
@[go_sem] def c58_9_wp := wp_of c58_9.eq_1
@[go_sem] def c58_10_wp := wp_of c58_10.eq_1
@[go_sem] def c58_11_wp := wp_of c58_11.eq_1
@[go_sem] def c58_12_wp := wp_of c58_12.eq_1
@[go_sem] def c58_13_wp := wp_of c58_13.eq_1
@[go_sem] def c58_14_wp := wp_of c58_14.eq_1
@[go_sem] def c58_15_wp := wp_of c58_15.eq_1
@[go_sem] def c58_16_wp := wp_of c58_16.eq_1
@[go_sem] def c58_17_wp := wp_of c58_17.eq_1
@[go_sem] def c58_18_wp := wp_of c58_18.eq_1
@[go_sem] def c58_19_wp := wp_of c58_19.eq_1
@[go_sem] def c58_20_wp := wp_of c58_20.eq_1
@[go_sem] def c58_21_wp := wp_of c58_21.eq_1
@[go_sem] def c58_22_wp := wp_of c58_22.eq_1
@[go_sem] def c58_23_wp := wp_of c58_23.eq_1
@[go_sem] def c58_24_wp := wp_of c58_24.eq_1
def c58 : AFn := ⟨20, [.t 4], c58_24⟩
theorem c58_ok : compF Tryz.prog Tryz.f58 = some c58 := by kernel_rfl
theorem a58 {args : List AV} {σ : ASt} {R : AV → ASt → Prop} (hl : args.length ≤ 20) (h : c58_24.wp Tryz.prog (RetQ [.t 4] R) (init args) σ) : ACalls Tryz.prog 58 args σ R := acalls_of Tryz.func58 c58_ok hl h
/-! 59: tabular/texts.count -/
def c59_0 : ACode := .ops [
 ⟨some 2, none, .q (.mv (.v (.int .i64 0))), []⟩]
def c59_1 : ACode := .ops [
 ⟨some 3, none, .q (.mv (.t 0)), []⟩,
 ⟨some 4, none, .e (.call 81 [(.t 3)]), []⟩,
 ⟨some 2, none, .q (.mv (.t 4)), []⟩]
def c59_2 : ACode := .seq c59_1 .ret
def c59_3 : ACode := .seq c59_0 c59_2
@[go_sem] def c59_0_wp := wp_of c59_0.eq_1
@[go_sem] def c59_1_wp := wp_of c59_1.eq_1
@[go_sem] def c59_2_wp := wp_of c59_2.eq_1
@[go_sem] def c59_3_wp := wp_of c59_3.eq_1
def c59 : AFn := ⟨5, [.t 2], c59_3⟩
theorem c59_ok : compF Tryz.prog Tryz.f59 = some c59 := by kernel_rfl
theorem a59 {args : List AV} {σ : ASt} {R : AV → ASt → Prop} (hl : args.length ≤ 5) (h : c59_3.wp Tryz.prog (RetQ [.t 2] R) (init args) σ) : ACalls Tryz.prog 59 args σ R := acalls_of Tryz.func59 c59_ok hl h
end Go.A
namespace Go.A
open Go.Proofs Go.Lib
theorem range_at {s : List UInt8} {p : Nat} (hlt : p < s.length) : s.drop p ≠ [] ∧ Utf8.decode ⟨⟨s⟩⟩ p = decodeL (s.drop p) ∧ 1 ≤ (decodeL (s.drop p)).2 ∧ p + (decodeL (s.drop p)).2 ≤ s.length := by
 have hne : s.drop p ≠ [] := by
  intro e
  have := congrArg List.length e
  rw [List.length_drop] at this
  simp at this
  omega
 have hw := decodeL_width (s.drop p)
 have hwle := decodeL_le (s.drop p) hne
 rw [List.length_drop] at hwle
 exact ⟨hne, (decodeL_drop ⟨⟨s⟩⟩ p).symm, hw, by omega⟩
theorem signsN_pcs : ∀ r, signsN r = (pcs r).length := by
 have key : ∀ (l : List UInt8) (k pos : Nat), l.length ≤ pos + k → runeCountFrom ⟨⟨l⟩⟩ k pos = (pcs (l.drop pos)).length := by
  intro l k
  induction k with
  | zero =>
    intro pos h
    rw [List.drop_eq_nil_of_le (by omega)]
    rfl
  | succ k ih =>
    intro pos h
    unfold runeCountFrom
    have e : (⟨⟨l⟩⟩ : ByteArray).size = l.length := rfl
    rw [e]
    by_cases hlt : pos < l.length
    ·obtain ⟨h1, h2, h3, h4⟩ := range_at hlt
     rw [if_pos hlt, h2, ih _ (by omega), pcs_step h1, List.drop_drop, List.length_cons]
     omega
    ·rw [if_neg hlt, List.drop_eq_nil_of_le (by omega)]
     rfl
 intro r
 unfold signsN runeCount
 have e : (⟨⟨r⟩⟩ : ByteArray).size = r.length := rfl
 rw [e, key r _ _ (by omega), List.drop_zero]
theorem xcount_ok (s : List UInt8) (hs : s.length < 9223372036854775807) : Pure Tryz.prog 59 [.str s] (.int .i64 (pcs s).length) := by
 intro σ
 have hc := count_ok s hs
 rw [signsN_pcs] at hc
 refine a59 (by simp) ?_
 simp (disch := first | assumption | omega) only [go_sem, reduceCtorEq, ↓reduceIte]
 refine hc.use ?_
 simp (disch := first | assumption | omega) only [go_sem, ↓reduceIte]
 exact retC_by (.refl _) (.refl _) ⟨rfl, rfl⟩
theorem skipP_at {s : List UInt8} {p k : Nat} (h : p = ((pcs s).take k).flatten.length) : s.drop p = ((pcs s).drop k).flatten := by
 have := skip_drop s (k : Int)
 unfold skipP at this
 rw [Int.toNat_natCast] at this
 rw [h, this]
theorem take_more {s : List UInt8} {p k : Nat} (h : p = ((pcs s).take k).flatten.length) (hlt : p < s.length) :
  k < (pcs s).length ∧ p + (decodeL (s.drop p)).2 = ((pcs s).take (k + 1)).flatten.length := by
 obtain ⟨h1, h2, h3, h4⟩ := range_at hlt
 have hd := skipP_at h
 have hp := pcs_skip s k
 rw [← hd, pcs_step h1] at hp
 have hk : k < (pcs s).length := by
  rcases Nat.lt_or_ge k (pcs s).length with h | h
  ·exact h
  ·rw [List.drop_eq_nil_of_le h] at hp; cases hp
 refine ⟨hk, ?_⟩
 rw [List.drop_eq_getElem_cons hk] at hp
 injection hp with hp1 hp2
 rw [List.take_succ_eq_append_getElem hk, List.flatten_append, List.length_append, ← h, ← hp1]
 simp only [List.flatten_cons, List.flatten_nil, List.append_nil, List.length_take, List.length_drop]
 omega
theorem xskip_ok (s : List UInt8) (n : Int) (hs : s.length < 4611686018427387904) : Pure Tryz.prog 58 [.str s, .int .i64 n] (.int .i64 (skipP s n)) := by
 intro σ
 obtain ⟨R, hR⟩ : ∃ R, skipP s n = R := ⟨_, rfl⟩
 rw [hR]
 refine a58 (by simp) ?_
 obtain ⟨F, hF⟩ : ∃ F, F = ACode.wp Tryz.prog c58_21 := ⟨_, rfl⟩
 simp (disch := first | assumption | omega) only [go_sem, reduceCtorEq, ↓reduceIte, ←hF]
 refine rngC_by fun b hb => ?_
 simp (disch := first | assumption | omega) only [go_sem]
 refine wp_loop_by (fun (pk : Nat × Nat) a σ' => pk.1 ≤ s.length ∧ pk.2 ≤ pk.1 ∧ pk.1 = ((pcs s).take pk.2).flatten.length ∧ ((pk.2 : Int) ≤ n ∨ pk.2 = 0) ∧ (a 0 = .str s ∧ a 1 = .int .i64 n ∧ a 5 = .int .i64 pk.2 ∧ a 8 = .ptr b 0) ∧ σ' = σ.set b (some (.iter s pk.1))) (fun pk => s.length - pk.1) (0, 0) (Dr.now ⟨Nat.zero_le _, Nat.le_refl _, rfl, .inr rfl, ?_, rfl⟩) ?_
 ·simp (disch := first | assumption | omega) only [go_sem, reduceCtorEq, Nat.reduceEqDiff, ↓reduceIte]
 rintro ⟨p, k⟩ a σ1 ⟨hp, hk, hpk, hkn, hf, rfl⟩
 dsimp only at hp hk hpk hkn hf ⊢
 by_cases hlt : p < s.length
 ·obtain ⟨h1, h2, h3, h4⟩ := range_at hlt
  obtain ⟨h5, h6⟩ := take_more hpk hlt
  generalize decodeL (s.drop p) = D at *
  obtain ⟨r, w⟩ := D
  dsimp only at h3 h4 h6
  simp (disch := first | assumption | omega) only [go_sem, hf]
  refine nxt_more hlt ?_
  rw [h2]
  by_cases hn : n ≤ k
  ·simp (disch := first | assumption | omega) only [go_sem, Nat.reduceEqDiff, ↓reduceIte, hf, hn]
   have e : R = p := by
    rw [← hR, hpk]
    unfold skipP
    rcases hkn with h | h
    ·rw [show n.toNat = k by omega]
    ·rw [show n.toNat = k by omega]
   rw [e]
   exact retC_by (by repeat' (first | exact Drop.refl _ | with_reducible refine Drop.off ?_ (by assumption))) (.refl _) ⟨rfl, rfl⟩
  ·simp (disch := first | assumption | omega) only [go_sem, Nat.reduceEqDiff, ↓reduceIte, hf, hn]
   refine ⟨(p + w, k + 1), by dsimp only; omega, Dr.now ⟨h4, by dsimp only; omega, h6, .inl (by dsimp only; omega), ?_, ?_⟩⟩
   ·simp (disch := first | assumption | omega) only [go_sem, reduceCtorEq, Nat.reduceEqDiff, ↓reduceIte, hf]
   ·simp only [ASt.set_set]
 ·simp (disch := first | assumption | omega) only [go_sem, hf]
  refine nxt_over (by omega) ?_
  simp (disch := first | assumption | omega) only [go_sem, ↓reduceIte]
  rw [hF]
  have e : R = s.length := by
   have h7 := skipP_at hpk
   rw [List.drop_eq_nil_of_le (by omega)] at h7
   have h8 := pcs_skip s k
   rw [← h7, pcs_nil] at h8
   have h9 : (pcs s).length ≤ k := by
    have := congrArg List.length h8
    rw [List.length_drop] at this
    simp only [List.length_nil] at this
    omega
   rw [← hR]
   unfold skipP
   rw [List.take_of_length_le (by rcases hkn with h | h <;> omega), pcs_flat]
  rw [e]
  simp (disch := first | assumption | omega) only [go_sem, reduceCtorEq, ↓reduceIte, hf]
  exact retC_by (by repeat' (first | exact Drop.refl _ | with_reducible refine Drop.off ?_ (by assumption))) (.refl _) ⟨rfl, rfl⟩
end Go.A
