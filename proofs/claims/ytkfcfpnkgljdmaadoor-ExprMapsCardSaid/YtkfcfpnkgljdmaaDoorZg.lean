/- An object that holds a slice that grows; a builder; what is laid over a store. No program in sight. · What a builder writes, walked. -/
import Derived.Test.YtkfcfpnkgljdmaaDoorBp
import Derived.Test.YtkfcfpnkgljdmaaDoorZe
import Derived.Test.YtkfcfpnkgljdmaaDoorCodeZg
namespace Go.A
set_option linter.unusedSimpArgs false
set_option linter.unusedVariables false

theorem ne_of_role {σ : ASt} {b c : Nat} {r : Role} (h : σ b = some r) (k : σ c = none) : b ≠ c ∧ c ≠ b := by
  constructor <;> rintro rfl <;> rw [h] at k <;> cases k
def GO (σ0 : ASt) (b : Nat) (cs : SK → List AV) (n s : Nat) (σ : ASt) : Prop := ∃ k, Grown (σ0.set b (some (.obj (cs k)))) σ k n s
theorem GO.cell {σ0 σ : ASt} {b n s : Nat} {k : SK} {cs : SK → List AV} (h : Grown (σ0.set b (some (.obj (cs k)))) σ k n s) : σ b = some (.obj (cs k)) := h.at (ASt.set_same _ _ _)
theorem GO.add {σ0 σ : ASt} {b c n s : Nat} {cs : SK → List AV} {r : Role} (h : GO σ0 b cs n s σ) (hc : σ c = none) : GO (σ0.set c (some r)) b cs n s (σ.set c (some r)) ∧ c ≠ b ∧ σ0 c = none := by
  obtain ⟨k, hg⟩ := h
  have hb := GO.cell hg
  have hcb : c ≠ b := by rintro rfl; rw [hb] at hc; cases hc
  have h0 : σ0 c = none := by
    rcases hg with ⟨_, _, rfl⟩ | ⟨t, T, _, _, rfl⟩
    · rwa [ASt.set_ne hcb] at hc
    · obtain ⟨_, _, hc⟩ := set_none hc
      rwa [ASt.set_ne hcb] at hc
  refine ⟨⟨k, ?_⟩, hcb, h0⟩
  rcases hg with ⟨h1, h2, rfl⟩ | ⟨t, T, h1, h2, rfl⟩
  · exact .inl ⟨h1, h2, set_swap (Ne.symm hcb)⟩
  · obtain ⟨h3, h4, _⟩ := set_none hc
    obtain ⟨h5, h6, h7⟩ := set_none h2
    refine .inr ⟨t, T, h1, ?_, ?_⟩
    · rw [ASt.set_ne h5, ASt.set_ne (Ne.symm h3)]; exact h7
    · rw [set_swap h4, set_swap (Ne.symm hcb)]
theorem GO.off {σ0 σ : ASt} {b c n s : Nat} {cs : SK → List AV} {r : Role} (h : GO (σ0.set c (some r)) b cs n s σ) (hcb : c ≠ b) (hc : σ0 c = none) : ∃ σ', Drop σ σ' ∧ GO σ0 b cs n s σ' := by
  obtain ⟨k, hg⟩ := h
  rcases hg with ⟨h1, h2, rfl⟩ | ⟨t, T, h1, h2, rfl⟩
  · refine ⟨σ0.set b (some (.obj (cs k))), ?_, ⟨k, .inl ⟨h1, h2, rfl⟩⟩⟩
    rw [set_swap hcb]
    exact Drop.set (by rw [ASt.set_ne hcb]; exact hc)
  · obtain ⟨h3, h4, h5⟩ := set_none h2
    obtain ⟨h6, h7, h8⟩ := set_none h5
    have e : ((σ0.set c (some r)).set b (some (.obj (cs k)))).set t (some (.tok (n * s))) = ((σ0.set b (some (.obj (cs k)))).set t (some (.tok (n * s)))).set c (some r) := by
      rw [set_swap hcb, set_swap h7]
    refine ⟨(σ0.set b (some (.obj (cs k)))).set t (some (.tok (n * s))), ?_, ⟨k, .inr ⟨t, T, h1, ?_, rfl⟩⟩⟩
    · rw [e]
      exact Drop.set (by rw [ASt.set_ne h7, ASt.set_ne hcb]; exact hc)
    · rw [ASt.set_ne h3]; exact h8
theorem GO.at {σ0 σ : ASt} {b n s x : Nat} {cs : SK → List AV} {r : Role} (h : GO σ0 b cs n s σ) (hx : x ≠ b) (h0 : σ0 x = some r) : σ x = some r := by
  obtain ⟨k, hg⟩ := h
  exact hg.at (by rw [ASt.set_ne hx]; exact h0)

/-- What is laid over a store. -/
inductive Over (τ : ASt) : ASt → Prop
  | refl : Over τ τ
  | set {σ : ASt} (c : Nat) (r : Role) : Over τ σ → σ c = none → Over τ (σ.set c (some r))
theorem Over.at {τ σ : ASt} (h : Over τ σ) {x : Nat} {r : Role} (hx : τ x = some r) : σ x = some r := by
  induction h with
  | refl => exact hx
  | set c q h hc ih =>
    have : x ≠ c := by rintro rfl; rw [ih] at hc; cases hc
    rw [ASt.set_ne this]; exact ih
theorem Over.drop {τ σ : ASt} (h : Over τ σ) : Drop σ τ := by
  induction h with
  | refl => exact Drop.refl _
  | set c q h hc ih =>
    intro x
    by_cases hx : x = c
    · subst hx
      rcases ih x with h1 | h1
      · exact .inr (h1.trans hc)
      · exact .inr h1
    · rcases ih x with h1 | h1
      · exact .inl (by rw [ASt.set_ne hx]; exact h1)
      · exact .inr h1
theorem Over.trans {τ σ ρ : ASt} (h : Over τ σ) (k : Over σ ρ) : Over τ ρ := by
  induction k with
  | refl => exact h
  | set c r _ hc ih => exact .set c r ih hc
theorem GO.over {σ0 τ σ : ASt} {b n s : Nat} {cs : SK → List AV} (h : GO σ0 b cs n s τ) (ho : Over τ σ) :
    ∃ σ0', GO σ0' b cs n s σ ∧ Over σ0 σ0' ∧ ∀ cs' n' σ', GO σ0' b cs' n' s σ' → ∃ σ'', Drop σ' σ'' ∧ GO σ0 b cs' n' s σ'' := by
  induction ho with
  | refl => exact ⟨σ0, h, .refl, fun cs' n' σ' h' => ⟨σ', Drop.refl _, h'⟩⟩
  | set c r ho hc ih =>
    obtain ⟨σ0', h1, h2, h3⟩ := ih
    obtain ⟨h4, h5, h6⟩ := h1.add (r := r) hc
    refine ⟨σ0'.set c (some r), h4, .set c r h2 h6, fun cs' n' σ' h' => ?_⟩
    obtain ⟨σ1, h7, h8⟩ := h'.off h5 h6
    obtain ⟨σ2, h9, h10⟩ := h3 _ _ _ h8
    exact ⟨σ2, h7.trans h9, h10⟩

/-- A builder that has gathered these bytes. -/
def BW (T U : TypeId) (σ0 : ASt) (b : Nat) (l : List UInt8) (σ : ASt) : Prop :=
  (l = [] ∧ σ = σ0.set b (some (.typ T [.pointer none, .slice none 0 0]))) ∨ (l ≠ [] ∧ ∃ k, GrownT U (σ0.set b (some (.obj [.ptr b 0, .sl k (bytesAV l)]))) σ k l.length 1)
theorem BW.over {T U : TypeId} {σ0 σ : ASt} {b : Nat} {l : List UInt8} (h : BW T U σ0 b l σ) (hb : σ0 b = none) : Over σ0 σ := by
  rcases h with ⟨_, rfl⟩ | ⟨_, k, h1 | ⟨g, _, hg, rfl⟩⟩
  · exact .set b _ .refl hb
  · obtain ⟨_, _, rfl⟩ := h1
    exact .set b _ .refl hb
  · exact .set g _ (.set b _ .refl hb) hg
theorem BW.iter {T U : TypeId} {σ0 σ : ASt} {b it : Nat} {l : List UInt8} {r r' : Role} (h : BW T U (σ0.set it (some r)) b l σ) (hb : it ≠ b) : BW T U (σ0.set it (some r')) b l (σ.set it (some r')) ∧ σ it = some r := by
  rcases h with ⟨h0, rfl⟩ | ⟨h0, k, h1 | ⟨g, h1, hg, rfl⟩⟩
  · refine ⟨.inl ⟨h0, ?_⟩, by rw [ASt.set_ne hb, ASt.set_same]⟩
    rw [← set_swap hb, ASt.set_set]
  · obtain ⟨h1, h2, rfl⟩ := h1
    refine ⟨.inr ⟨h0, k, .inl ⟨h1, h2, ?_⟩⟩, by rw [ASt.set_ne hb, ASt.set_same]⟩
    rw [← set_swap hb, ASt.set_set]
  · obtain ⟨h3, h4, h5⟩ := set_none hg
    obtain ⟨h6, h7, h8⟩ := set_none h5
    refine ⟨.inr ⟨h0, k, .inr ⟨g, h1, ?_, ?_⟩⟩, by rw [ASt.set_ne h7, ASt.set_ne hb, ASt.set_same]⟩
    · rw [ASt.set_ne h3, ASt.set_ne h6]; exact h8
    · rw [← set_swap h7, ← set_swap hb, ASt.set_set]
theorem BW.fresh {T U : TypeId} {σ0 σ : ASt} {b x : Nat} {l : List UInt8} (h : BW T U σ0 b l σ) (hx : σ x = none) (hb : σ0 b = none) : σ0 x = none ∧ x ≠ b := by
  have ho := h.over hb
  constructor
  · cases hr : σ0 x with
    | none => rfl
    | some r => rw [ho.at hr] at hx; cases hx
  · rintro rfl
    rcases h with ⟨_, rfl⟩ | ⟨_, k, h1⟩
    · rw [ASt.set_same] at hx; cases hx
    · rw [h1.at (ASt.set_same _ _ _)] at hx; cases hx
end Go.A
namespace Go.A
open Go.Proofs Go.Lib
set_option maxRecDepth 100000
set_option linter.unusedSimpArgs false
set_option linter.unusedVariables false

abbrev BD := BW 49 5
abbrev GT := GrownT 5
theorem cc_ok {σ0 σ : ASt} {b : Nat} {l : List UInt8} (h : BD σ0 b l σ) : ACalls Tryd.prog 38 [.ptr b 0] σ fun v σ' => v = .tuple [] ∧ ∃ k, GT (σ0.set b (some (.obj [.ptr b 0, .sl k (bytesAV l)]))) σ' k l.length 1 := by
  rcases h with ⟨rfl, rfl⟩ | ⟨h0, k, hg⟩
  · refine (copyCheck_typ (ASt.set_same _ _ _)).mono ?_
    rintro v σ' ⟨rfl, rfl⟩
    exact ⟨rfl, .full, .inl ⟨rfl, rfl, by rw [ASt.set_set]; rfl⟩⟩
  · refine (copyCheck_used (hg.at (ASt.set_same _ _ _))).mono ?_
    rintro v σ' ⟨rfl, rfl⟩
    exact ⟨rfl, k, hg⟩
theorem bytesAV_app (l m : List UInt8) : bytesAV l ++ bytesAV m = bytesAV (l ++ m) := by simp [bytesAV]
theorem bytesAV_len (l : List UInt8) : (bytesAV l).length = l.length := by simp [bytesAV]
theorem bytes_leaves (l : List UInt8) : leaves ((bytesAV l).flatMap AV.cells) = true := by unfold bytesAV; exact leaves_map (fun _ => rfl) l
theorem bytes_well (l : List UInt8) : wellSz 1 (bytesAV l) = true := by unfold bytesAV; exact wellSz_map (f := fun c : UInt8 => AV.int .u8 c.toNat) (fun _ => ⟨rfl, rfl⟩) l
/-- Bytes are appended. -/
theorem appB_by {σ σ0 : ASt} {k k2 : SK} {l m : List UInt8} {ys z : List AV} {K : AV → ASt → Prop} (h : GT σ0 σ k l.length 1) (hy : ys = bytesAV m) (hl : l.length + m.length ≤ 4611686018427)
    (hK : ∀ k' σ', GT σ0 σ' k' (l ++ m).length 1 → K (.sl k' (bytesAV (l ++ m))) σ') : appC 5 1 1 z (.sl k (bytesAV l)) (.sl k2 ys) σ K := by
  subst hy
  refine appCT_by (by rw [bytesAV_len]; exact h) (bytes_well m) (bytes_leaves m) (by simp only [bytesAV_len]; omega) (by simp only [bytesAV_len]; omega) fun k' σ' hg => ?_
  rw [bytesAV_app] at hg ⊢
  rw [bytesAV_len] at hg
  exact hK k' σ' hg
theorem writeByte_ok {σ0 σ : ASt} {b : Nat} {l : List UInt8} (h : BD σ0 b l σ) (c : UInt8) (hl : l.length ≤ 1000000) :
    ACalls Tryd.prog 30 [.ptr b 0, .int .u8 c.toNat] σ fun v σ' => v = .nili ∧ BD σ0 b (l ++ [c]) σ' := by
  refine a30 (by simp) ?_
  simp (disch := first | assumption | omega | (simp only [List.length_append, List.length_cons, List.length_nil]; omega)) only [go_sem, reduceCtorEq, Nat.reduceEqDiff, Nat.reduceAdd, Nat.reduceSub, Nat.reduceMul, Nat.reduceLeDiff, Int.reduceLT, Int.reduceLE, Int.reduceEq, ↓reduceIte, Int.reduceNeg, Int.reduceAdd, Int.reduceSub, Int.reduceMul, true_imp_iff, forall_const, Nat.mul_one, Int.reduceToNat, Nat.reducePow, Int.reducePow, Bool.true_and, Bool.false_and, Bool.and_false]
  refine (cc_ok h).mono ?_
  rintro v σ1 ⟨rfl, k, hg⟩
  have hb := hg.at (ASt.set_same _ _ _)
  simp (disch := first | assumption | omega | (simp only [List.length_append, List.length_cons, List.length_nil]; omega)) only [go_sem, reduceCtorEq, Nat.reduceEqDiff, Nat.reduceAdd, Nat.reduceSub, Nat.reduceMul, Nat.reduceLeDiff, Int.reduceLT, Int.reduceLE, Int.reduceEq, ↓reduceIte, Int.reduceNeg, Int.reduceAdd, Int.reduceSub, Int.reduceMul, true_imp_iff, forall_const, Nat.mul_one, Int.reduceToNat, Nat.reducePow, Int.reducePow, Bool.true_and, Bool.false_and, Bool.and_false, hb]
  refine appB_by (m := [c]) hg rfl (by simp; omega) fun k' σ' hg' => ?_
  have hb' := hg'.at (ASt.set_same _ _ _)
  simp (disch := first | assumption | omega | (simp only [List.length_append, List.length_cons, List.length_nil]; omega)) only [go_sem, reduceCtorEq, Nat.reduceEqDiff, Nat.reduceAdd, Nat.reduceSub, Nat.reduceMul, Nat.reduceLeDiff, Int.reduceLT, Int.reduceLE, Int.reduceEq, ↓reduceIte, Int.reduceNeg, Int.reduceAdd, Int.reduceSub, Int.reduceMul, true_imp_iff, forall_const, Nat.mul_one, Int.reduceToNat, Nat.reducePow, Int.reducePow, Bool.true_and, Bool.false_and, Bool.and_false, hb']
  exact retC_by (Drop.refl _) (.refl _) ⟨rfl, .inr ⟨by simp, k', hg'.obj⟩⟩

theorem or_a : ∀ y : Int, 0 ≤ y → y < 64 → ((BitVec.ofInt 8 128 ||| BitVec.ofInt 8 y).toNat : Int) = 128 + y := by
  have key : ∀ n : Fin 64, ((BitVec.ofInt 8 128 ||| BitVec.ofInt 8 ((n.val : Nat) : Int)).toNat : Int) = 128 + ((n.val : Nat) : Int) := by decide
  intro y h0 h1
  have := key ⟨y.toNat, by omega⟩
  rwa [Int.toNat_of_nonneg h0] at this
theorem or_b : ∀ y : Int, 0 ≤ y → y < 32 → ((BitVec.ofInt 8 192 ||| BitVec.ofInt 8 y).toNat : Int) = 192 + y := by
  have key : ∀ n : Fin 32, ((BitVec.ofInt 8 192 ||| BitVec.ofInt 8 ((n.val : Nat) : Int)).toNat : Int) = 192 + ((n.val : Nat) : Int) := by decide
  intro y h0 h1
  have := key ⟨y.toNat, by omega⟩
  rwa [Int.toNat_of_nonneg h0] at this
theorem or_c : ∀ y : Int, 0 ≤ y → y < 16 → ((BitVec.ofInt 8 224 ||| BitVec.ofInt 8 y).toNat : Int) = 224 + y := by
  have key : ∀ n : Fin 16, ((BitVec.ofInt 8 224 ||| BitVec.ofInt 8 ((n.val : Nat) : Int)).toNat : Int) = 224 + ((n.val : Nat) : Int) := by decide
  intro y h0 h1
  have := key ⟨y.toNat, by omega⟩
  rwa [Int.toNat_of_nonneg h0] at this
theorem or_d : ∀ y : Int, 0 ≤ y → y < 8 → ((BitVec.ofInt 8 240 ||| BitVec.ofInt 8 y).toNat : Int) = 240 + y := by
  have key : ∀ n : Fin 8, ((BitVec.ofInt 8 240 ||| BitVec.ofInt 8 ((n.val : Nat) : Int)).toNat : Int) = 240 + ((n.val : Nat) : Int) := by decide
  intro y h0 h1
  have := key ⟨y.toNat, by omega⟩
  rwa [Int.toNat_of_nonneg h0] at this
theorem and_63 (y : Int) : ((BitVec.ofInt 8 (y % 256) &&& BitVec.ofInt 8 63).toNat : Int) = y % 64 := by
  have key : ∀ n : Fin 256, ((BitVec.ofInt 8 ((n.val : Nat) : Int) &&& BitVec.ofInt 8 63).toNat : Int) = ((n.val : Nat) : Int) % 64 := by decide
  have := key ⟨(y % 256).toNat, by omega⟩
  rw [Int.toNat_of_nonneg (by omega)] at this
  rw [this]
  omega
theorem wrap_8 (y : Int) : IntKind.wrap .u8 y = y % 256 := IntKind.wrap_u8 y
theorem encAV (r : Int) : (encodeRuneZ r).map (AV.int .u8) = bytesAV (encodeRune r) := by
  unfold bytesAV encodeRune
  rw [List.map_map]
  apply List.map_congr_left
  intro x hx
  obtain ⟨h0, h1⟩ := encodeRuneZ_byte r x hx
  simp [Function.comp]
  omega
theorem enc_len (r : Int) : (encodeRune r).length ≤ 4 := by
  have := encodeRuneZ_length r
  simp [encodeRune]
  omega
/-- A rune that there is. -/
def RuneOk (r : Int) : Prop := 0 ≤ r ∧ r ≤ 1114111 ∧ ¬ (55296 ≤ r ∧ r ≤ 57343)
theorem bstring_ok {σ0 σ : ASt} {b : Nat} {l : List UInt8} (h : BD σ0 b l σ) (hl : l.length ≤ 1000000000) : ACalls Tryd.prog 19 [.ptr b 0] σ fun v σ' => v = .str l ∧ σ' = σ := by
  rcases h with ⟨rfl, rfl⟩ | ⟨h0, k, hg⟩
  · exact bstring_typ (ASt.set_same _ _ _)
  · have hb := hg.at (ASt.set_same _ _ _)
    rcases hg with ⟨_, h1, _⟩ | ⟨g, rfl, hg, rfl⟩
    · exact absurd (List.eq_nil_of_length_eq_zero h1) h0
    · refine bstring_used h0 (by omega) hb (by rw [ASt.set_same, Nat.mul_one])
end Go.A
