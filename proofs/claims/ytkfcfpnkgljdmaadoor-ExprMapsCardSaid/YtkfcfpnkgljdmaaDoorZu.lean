/- The library's contracts, for the abstract walk: decoding, counting signs. -/
import Derived.Test.YtkfcfpnkgljdmaaDoorBp
import Derived.Test.YtkfcfpnkgljdmaaDoorShelf
import Derived.Test.YtkfcfpnkgljdmaaDoorWa
import Derived.Test.YtkfcfpnkgljdmaaDoorZa
import Derived.Lib.LaidU8
namespace Go.A
open Go.Proofs Go.Lib
set_option maxRecDepth 100000
set_option linter.unusedSimpArgs false
set_option linter.unusedVariables false

def accTab : List Int := (List.range 16).flatMap fun i => [(accLo i : Int), (accHi i : Int)]
/-- utf8's two tables lie where they lie. -/
def U8 (σ : ASt) : Prop := σ 2 = some (.fix (firstTab.map (AV.int .u8))) ∧ σ 3 = some (.fix (accTab.map (AV.int .u8)))
theorem U8.of_eq {σ σ' : ASt} (h : U8 σ) (h1 : σ' 2 = σ 2) (h2 : σ' 3 = σ 3) : U8 σ' := ⟨h1.trans h.1, h2.trans h.2⟩
theorem U8.set {σ : ASt} {b : Nat} {r : Option Role} (h : U8 σ) (hb : σ b = none) : U8 (σ.set b r) := by
  refine h.of_eq (ASt.set_ne ?_) (ASt.set_ne ?_) <;> rintro rfl
  · rw [h.1] at hb; cases hb
  · rw [h.2] at hb; cases hb
theorem U8.set' {σ : ASt} {b : Nat} {r : Option Role} {x : Role} (h : U8 σ) (hb : σ b = some x) (hx : ∀ cs, x ≠ .fix cs) : U8 (σ.set b r) := by
  refine h.of_eq (ASt.set_ne ?_) (ASt.set_ne ?_) <;> rintro rfl
  · rw [h.1] at hb; injection hb with hb; exact hx _ hb.symm
  · rw [h.2] at hb; injection hb with hb; exact hx _ hb.symm
theorem fix_ints {σ : ASt} {w : World} (hs : Sim σ w) {b : Nat} {k : IntKind} {zs : List Int} (h : σ b = some (.fix (zs.map (AV.int k)))) : ∀ j z, zs[j]? = some z → w.cell? ⟨b, j, none⟩ = some (.int k z) := by
  intro j z hj
  obtain ⟨vs, h4, h5⟩ := (hs b _ h).1.vals
  have h6 := reps_ints h4
  subst h6
  have := h5 j (Value.int k z) (by simp [hj])
  simpa using this
theorem u8_tabs {σ : ASt} {w : World} (hs : Sim σ w) (h : U8 σ) : Utf8Tabs 2 3 w := by
  refine ⟨fun c hc => fix_ints hs h.1 c _ (by simp [firstTab, hc]), fun i hi => ?_⟩
  have key : ∀ i, i < 16 → accTab[2 * i]? = some (accLo i : Int) ∧ accTab[2 * i + 1]? = some (accHi i : Int) := by decide
  exact ⟨fix_ints hs h.2 _ _ (key i hi).1, fix_ints hs h.2 _ _ (key i hi).2⟩
theorem ACalls.of_below {P : Program} {σ : ASt} {f : FuncId} {args : List AV} {r : AV} {u : Value} (h : ∀ w vs, Sim σ w → Reps σ w args vs → Calls P f ⟨vs⟩ w fun e w' => e = .returned u ∧ RowKit.Below w.heap.size w w') (hr : ∀ w, Rep σ w r u) : ACalls P f args σ fun v σ' => v = r ∧ σ' = σ :=
  ACalls.of_ext (fun w vs hs ha => (h w vs hs ha).mono fun e w' ⟨he, hb⟩ => ⟨he, Ext.of_below hb⟩) hr
theorem dec_ok {σ : ASt} (h : U8 σ) {l : List UInt8} (h0 : l ≠ []) : ACalls Tryd.prog 70 [.str l] σ fun v σ' => v = .tuple [.int .i32 (decodeL l).1, .int .i64 (decodeL l).2] ∧ σ' = σ := by
  refine ACalls.of_below (u := .tuple #[.int .i32 (decodeL l).1, .int .i64 (decodeL l).2]) (fun w vs hs ha => ?_) fun w => .tuple (.cons (.int _ _) (.cons (.int _ _) .nil))
  cases ha with
  | cons h1 h2 =>
  cases h1; cases h2
  have := Tryd.utf8_DecodeRuneInString ⟨⟨l⟩⟩ w (u8_tabs hs h)
  have e : decodeGo ⟨⟨l⟩⟩ = decodeL l := by
    unfold decodeGo decodeL
    rw [if_neg (by cases l; exact absurd rfl h0; simp [ByteArray.size])]
  rw [e] at this
  exact this
theorem count_ok (l : List UInt8) (hl : l.length < 9223372036854775807) : Pure Tryd.prog 79 [.str l] (.int .i64 (signsN l)) := by
  intro σ
  refine ACalls.of_ext (u := .int .i64 (signsN l)) (fun w vs hs ha => ?_) fun w => .int _ _
  cases ha with
  | cons h1 h2 =>
  cases h1; cases h2
  refine (Tryd.utf8_RuneCountInString ⟨⟨l⟩⟩ w (by simpa [ByteArray.size] using hl)).mono ?_
  rintro e w' ⟨rfl, pos, rfl⟩
  exact ⟨rfl, Ext.alloc (Ext.refl w) _⟩
theorem index_ok (s : List UInt8) (c : UInt8) : Pure Tryd.prog 82 [.str s, .str [c]] (.int .i64 (indexByte s c)) := by
  intro σ
  refine ACalls.of_ext (u := .int .i64 (indexByte s c)) (fun w vs hs ha => ?_) fun w => .int _ _
  cases ha with
  | cons h1 h2 =>
  cases h2 with
  | cons h2 h3 =>
  cases h1; cases h2; cases h3
  exact (Tryd.stringslite_Index_one ⟨⟨s⟩⟩ c w).mono fun e w' ⟨he, hw⟩ => ⟨he, Ext.of_eq hw⟩
end Go.A
