/- Part 11 of what ExprBack leans on: En CodeEo Eo Ep CodeEl El CodeEr Er CodeEs Es Ms Mv Mw Mp. -/
import Derived.Test.YtennoafgkkoeaaaGreatDoorProg
import Derived.KernelRfl
import Derived.Test.YtennoafgkkoeaaaGreatDoorRows
import Derived.ProofKit
import Derived.LaidMore
import Derived.OpenShut
import Derived.Stop.LaidErr
import Derived.MakeChecks
import Derived.SevenTiedAt
import Derived.Lay
import Derived.ChangeArms
import Derived.Lib.LaidU8
import Derived.Lib.LaidTab
import Derived.Shelf.Vars
import Derived.HandedShaped
import Derived.Test.YtennoafgkkoeaaaGreatDoorZExprBackj
namespace Go.A
open Go.Proofs Go.Lib Go.Vint
set_option maxRecDepth 100000
set_option linter.unusedSimpArgs false
set_option linter.unusedVariables false
theorem tsigns_ok {σ : ASt} (h : U8 σ) (s : List UInt8) (hs : s.length ≤ 4611686018427387904) : ACalls Tryz.prog 77 [.str s] σ fun v σ' => v = sgAV s ∧ σ' = σ := by
  refine a77 (by simp) ?_
  obtain ⟨R, hR⟩ : ∃ R, sgT s = R := ⟨_, rfl⟩
  unfold sgAV
  rw [hR]
  obtain ⟨F, hF⟩ : ∃ F, F = ACode.wp Tryz.prog c77_26 := ⟨_, rfl⟩
  simp (disch := first | assumption | omega | (simp only [List.length_append, List.length_cons, List.length_nil]; omega)) only [go_sem, reduceCtorEq, ↓reduceIte, ←hF]
  refine fun b hb => ?_
  simp (disch := first | assumption | omega | (simp only [List.length_append, List.length_cons, List.length_nil]; omega)) only [go_sem]
  refine wp_loop_by (fun (p : Nat) a σ' => p ≤ s.length ∧ (∃ n : Nat, R = (sgT (s.drop p)).map (· + n) ∧ n ≤ p ∧ a 4 = .int .i64 n) ∧ (a 0 = .str s ∧ a 10 = .ptr b 0) ∧ σ' = σ.set b (some (.iter s p))) (fun p => s.length - p) 0 (Dr.now ⟨Nat.zero_le _, ⟨0, ?_, Nat.le_refl _, ?_⟩, ?_, rfl⟩) ?_
  · rw [← hR, List.drop_zero]; cases sgT s <;> rfl
  · simp (disch := first | assumption | omega | (simp only [List.length_append, List.length_cons, List.length_nil]; omega)) only [go_sem, Nat.reduceEqDiff, ↓reduceIte]
  · simp (disch := first | assumption | omega | (simp only [List.length_append, List.length_cons, List.length_nil]; omega)) only [go_sem, reduceCtorEq, ↓reduceIte]
  rintro p a σ1 ⟨hp, ⟨n, hm, hn, h4⟩, hf, rfl⟩
  by_cases hlt : p < s.length
  · have hlt' : (p : Int) < s.length := by omega
    have hne : s.drop p ≠ [] := by
      intro e
      have := congrArg List.length e
      rw [List.length_drop] at this
      simp at this
      omega
    obtain ⟨⟨r, w⟩, hD⟩ : ∃ D, decodeL (s.drop p) = D := ⟨_, rfl⟩
    have hD2 : Utf8.decode ⟨⟨s⟩⟩ p = (r, w) := by rw [← hD]; exact (decodeL_drop ⟨⟨s⟩⟩ p).symm
    have hw := decodeL_width (s.drop p)
    have hwle := decodeL_le (s.drop p) hne
    have hrb := decodeL_rune (s.drop p)
    rw [List.length_drop] at hwle
    rw [hD] at hw hwle hrb
    dsimp only at hw hwle hrb
    by_cases hr : r = 65533
    · have hr' : (r : Int) = 65533 := by omega
      have hdc := dec_ok (h.set hb (r := some (.iter s (p + w)))) hne
      rw [hD] at hdc
      by_cases hw1 : w = 1
      · have hbad := sgT_bad hne (by rw [hD, hr, hw1])
        rw [hbad] at hm
        simp only [Option.map_none] at hm
        subst hm
        subst hw1
        have e1 : ((1 : Nat) : Int) = 1 := rfl
        rw [e1] at hdc
        simp (disch := first | assumption | omega | (simp only [List.length_append, List.length_cons, List.length_nil]; omega)) only [go_sem, hf]
        refine nxt_more hlt ?_
        rw [hD2]
        simp (disch := first | assumption | omega | (simp only [List.length_append, List.length_cons, List.length_nil]; omega)) only [go_sem, reduceCtorEq, Nat.reduceEqDiff, ↓reduceIte, hf, hr', List.take_length]
        refine hdc.mono ?_
        rintro v σ' ⟨rfl, rfl⟩
        simp (disch := first | assumption | omega | (simp only [List.length_append, List.length_cons, List.length_nil]; omega)) only [go_sem, Nat.reduceEqDiff, ↓reduceIte]
        exact retC_by (by repeat' (first | exact Drop.refl _ | with_reducible refine Drop.off ?_ (by assumption))) (.refl _) ⟨rfl, rfl⟩
      · have hw1' : ¬ (w : Int) = 1 := by omega
        have hgo := sgT_step hne (by rw [hD]; intro h; injection h with _ h; exact hw1 h)
        rw [hD] at hgo
        dsimp only at hgo
        rw [hgo, List.drop_drop, Option.map_map] at hm
        simp (disch := first | assumption | omega | (simp only [List.length_append, List.length_cons, List.length_nil]; omega)) only [go_sem, hf]
        refine nxt_more hlt ?_
        rw [hD2]
        simp (disch := first | assumption | omega | (simp only [List.length_append, List.length_cons, List.length_nil]; omega)) only [go_sem, reduceCtorEq, Nat.reduceEqDiff, ↓reduceIte, hf, hr', List.take_length]
        refine hdc.mono ?_
        rintro v σ' ⟨rfl, rfl⟩
        simp (disch := first | assumption | omega | (simp only [List.length_append, List.length_cons, List.length_nil]; omega)) only [go_sem, Nat.reduceEqDiff, ↓reduceIte, h4, hw1']
        refine ⟨p + w, by dsimp only; omega, Dr.now ⟨by omega, ⟨n + 1, ?_, by omega, ?_⟩, ?_, rfl⟩⟩
        · rw [hm]
          congr 1
          funext x
          simp only [Function.comp]
          omega
        · simp (disch := first | assumption | omega | (simp only [List.length_append, List.length_cons, List.length_nil]; omega)) only [go_sem, ↓reduceIte]
        · simp (disch := first | assumption | omega | (simp only [List.length_append, List.length_cons, List.length_nil]; omega)) only [go_sem, reduceCtorEq, Nat.reduceEqDiff, ↓reduceIte, hf]
    · have hr' : ¬ (r : Int) = 65533 := by omega
      have hgo := sgT_step hne (by rw [hD]; intro h; injection h with h _; exact hr h)
      rw [hD] at hgo
      dsimp only at hgo
      rw [hgo, List.drop_drop, Option.map_map] at hm
      simp (disch := first | assumption | omega | (simp only [List.length_append, List.length_cons, List.length_nil]; omega)) only [go_sem, hf]
      refine nxt_more hlt ?_
      rw [hD2]
      simp (disch := first | assumption | omega | (simp only [List.length_append, List.length_cons, List.length_nil]; omega)) only [go_sem, Nat.reduceEqDiff, ↓reduceIte, h4, hr', ASt.set_set]
      refine ⟨p + w, by dsimp only; omega, Dr.now ⟨by omega, ⟨n + 1, ?_, by omega, ?_⟩, ?_, rfl⟩⟩
      · rw [hm]
        congr 1
        funext x
        simp only [Function.comp]
        omega
      · simp (disch := first | assumption | omega | (simp only [List.length_append, List.length_cons, List.length_nil]; omega)) only [go_sem, ↓reduceIte]
      · simp (disch := first | assumption | omega | (simp only [List.length_append, List.length_cons, List.length_nil]; omega)) only [go_sem, reduceCtorEq, Nat.reduceEqDiff, ↓reduceIte, hf]
  · have hlt' : ¬ (p : Int) < s.length := by omega
    rw [List.drop_eq_nil_of_le (by omega), sgT_nil] at hm
    simp only [Option.map_some, Nat.zero_add] at hm
    subst hm
    simp (disch := first | assumption | omega | (simp only [List.length_append, List.length_cons, List.length_nil]; omega)) only [go_sem, hf]
    refine nxt_over (by omega) ?_
    simp (disch := first | assumption | omega | (simp only [List.length_append, List.length_cons, List.length_nil]; omega)) only [go_sem, ↓reduceIte]
    rw [hF]
    simp (disch := first | assumption | omega | (simp only [List.length_append, List.length_cons, List.length_nil]; omega)) only [go_sem, Nat.reduceEqDiff, ↓reduceIte, h4]
    exact retC_by (by repeat' (first | exact Drop.refl _ | with_reducible refine Drop.off ?_ (by assumption))) (.refl _) ⟨rfl, rfl⟩
theorem ekids_ok (op : Int) : Pure Tryz.prog 73 [.int .i64 op] (.int .i64 (arity op)) := by
  intro σ
  obtain ⟨q, hq⟩ : ∃ q : Nat, arity op = q := ⟨_, rfl⟩
  rw [hq]
  unfold arity at hq
  refine a73 (by simp) ?_
  by_cases h7 : op = 7
  · rw [if_pos (by omega)] at hq
    subst hq
    simp (disch := first | assumption | omega | (simp only [List.length_append, List.length_cons, List.length_nil]; omega)) only [go_sem, reduceCtorEq, Nat.reduceEqDiff, ↓reduceIte, h7]
    exact retC_by (Drop.refl _) (.refl _) ⟨rfl, rfl⟩
  by_cases h8 : op = 8
  · rw [if_pos (by omega)] at hq
    subst hq
    simp (disch := first | assumption | omega | (simp only [List.length_append, List.length_cons, List.length_nil]; omega)) only [go_sem, reduceCtorEq, Nat.reduceEqDiff, Int.reduceEq, ↓reduceIte, h8]
    exact retC_by (Drop.refl _) (.refl _) ⟨rfl, rfl⟩
  by_cases h9 : op = 9
  · rw [if_pos (by omega)] at hq
    subst hq
    simp (disch := first | assumption | omega | (simp only [List.length_append, List.length_cons, List.length_nil]; omega)) only [go_sem, reduceCtorEq, Nat.reduceEqDiff, Int.reduceEq, ↓reduceIte, h9]
    exact retC_by (Drop.refl _) (.refl _) ⟨rfl, rfl⟩
  rw [if_neg (by omega)] at hq
  by_cases h10 : 10 ≤ op
  · by_cases h22 : op < 22
    · rw [if_pos (by omega)] at hq
      subst hq
      simp (disch := first | assumption | omega | (simp only [List.length_append, List.length_cons, List.length_nil]; omega)) only [go_sem, reduceCtorEq, Nat.reduceEqDiff, ↓reduceIte, h7, h8, h9, h10, h22]
      exact retC_by (Drop.refl _) (.refl _) ⟨rfl, rfl⟩
    · rw [if_neg (by omega)] at hq
      subst hq
      simp (disch := first | assumption | omega | (simp only [List.length_append, List.length_cons, List.length_nil]; omega)) only [go_sem, reduceCtorEq, Nat.reduceEqDiff, ↓reduceIte, h7, h8, h9, h10, h22]
      exact retC_by (Drop.refl _) (.refl _) ⟨rfl, rfl⟩
  · rw [if_neg (by omega)] at hq
    subst hq
    simp (disch := first | assumption | omega | (simp only [List.length_append, List.length_cons, List.length_nil]; omega)) only [go_sem, reduceCtorEq, Nat.reduceEqDiff, ↓reduceIte, h7, h8, h9, h10]
    exact retC_by (Drop.refl _) (.refl _) ⟨rfl, rfl⟩
def refR (s : List UInt8) (p : Nat) (e : Int) : (Ref × Bool) × Nat × Int :=
  (if 12000 ≤ (readU s p e).1 ∨ 700 ≤ (readU s (readU s p e).2.1 (readU s p e).2.2).1 then (.zero, false)
    else (⟨((readU s p e).1 / 4 : Nat), ((readU s (readU s p e).2.1 (readU s p e).2.2).1 : Nat), decide ((readU s p e).1 % 2 = 1), decide ((readU s p e).1 / 2 % 2 = 1)⟩, true),
    (readU s (readU s p e).2.1 (readU s p e).2.2).2)
theorem bit0 {u : Nat} (h : u < 12000) : ((BitVec.ofInt 64 (u : Int) &&& BitVec.ofInt 64 1).toNat : Int) = (u % 2 : Nat) := by
  have : (BitVec.ofInt 64 (u : Int) &&& BitVec.ofInt 64 1).toNat = u &&& 1 := by
    rw [BitVec.toNat_and, ofInt_u64 u (by omega), show (BitVec.ofInt 64 1).toNat = 1 by decide +kernel]
  rw [this, Nat.and_one_is_mod]
theorem bit1 {u : Nat} (h : u < 12000) : ((BitVec.ofInt 64 (u : Int) &&& BitVec.ofInt 64 2).toNat : Int) = (u / 2 % 2 * 2 : Nat) := by
  have : (BitVec.ofInt 64 (u : Int) &&& BitVec.ofInt 64 2).toNat = u &&& 2 := by
    rw [BitVec.toNat_and, ofInt_u64 u (by omega), show (BitVec.ofInt 64 2).toNat = 2 by decide +kernel]
  rw [this]
  have h1 : (u &&& 2) / 2 = u / 2 % 2 := by rw [Nat.and_div_two, show 2 / 2 = 1 from rfl, Nat.and_one_is_mod]
  have h2 : (u &&& 2) % 2 = 0 := by
    have := Nat.and_mod_two_pow (a := u) (b := 2) (n := 1)
    rwa [show 2 % 2 ^ 1 = 0 from rfl, Nat.and_zero] at this
  omega
theorem getref_ok (s : List UInt8) (p : Nat) (e : Int) (b : Nat) (σ : ASt) (hb : σ b = rd s p e) (hs : s.length ≤ 1000000) (hp : p ≤ s.length) :
    ACalls Tryz.prog 78 [.ptr b 0] σ fun v σ' => v = .tuple [refAV (refR s p e).1.1, .bool (refR s p e).1.2] ∧ σ' = σ.set b (rd s (refR s p e).2.1 (refR s p e).2.2) := by
  obtain ⟨q, hq⟩ : ∃ q, refR s p e = q := ⟨_, rfl⟩
  rw [hq]
  unfold refR at hq
  obtain ⟨f1, f2, f3, f4⟩ := readU_facts s p e hp
  have h1 := fun (τ : ASt) (h : τ b = rd s p e) => ruint_ok s p e b τ h (by omega) hp
  generalize readU s p e = R at *
  obtain ⟨u, p1, e1⟩ := R
  dsimp only at *
  obtain ⟨g1, g2, g3, g4⟩ := readU_facts s p1 e1 f2
  have h2 := fun (τ : ASt) (h : τ b = rd s p1 e1) => ruint_ok s p1 e1 b τ h (by omega) f2
  generalize readU s p1 e1 = R at *
  obtain ⟨v, p2, e2⟩ := R
  dsimp only at *
  refine a78 (by simp) ?_
  simp (disch := first | assumption | omega | (simp only [List.length_append, List.length_cons, List.length_nil]; omega)) only [go_sem]
  refine allocC_by fun d hd => ?_
  have hbd : b ≠ d := by rintro rfl; rw [hb] at hd; cases hd
  have hb2 : ∀ X : Option Role, (σ.set d X) b = rd s p e := fun X => by rw [ASt.set_ne hbd]; exact hb
  have hsw : ∀ (X Y : Option Role), (σ.set d X).set b Y = (σ.set b Y).set d X := fun X Y => set_swap (Ne.symm hbd)
  simp (disch := first | assumption | omega | (simp only [List.length_append, List.length_cons, List.length_nil]; omega)) only [go_sem, reduceCtorEq, ↓reduceIte]
  refine (h1 _ (hb2 _)).mono ?_
  rintro x σ1 ⟨rfl, rfl⟩
  simp (disch := first | assumption | omega | (simp only [List.length_append, List.length_cons, List.length_nil]; omega)) only [go_sem, reduceCtorEq, ↓reduceIte]
  refine (h2 _ (ASt.set_same _ _ _)).mono ?_
  rintro x σ2 ⟨rfl, rfl⟩
  have hdd : ∀ X Y : Option Role, Drop ((σ.set b X).set d Y) (σ.set b X) := fun X Y => Drop.set (by rw [ASt.set_ne (Ne.symm hbd)]; exact hd)
  have hsw2 : ∀ (X Y Z : Option Role), ((σ.set d X).set b Y).set d Z = (σ.set b Y).set d Z := fun X Y Z => by rw [set_swap (Ne.symm hbd), ASt.set_set]
  rw [ASt.set_set]
  by_cases c1 : 12000 ≤ u
  · have c1' : (12000 : Int) ≤ u := by omega
    rw [if_pos (.inl c1)] at hq
    subst hq
    simp (disch := first | assumption | omega | (simp only [List.length_append, List.length_cons, List.length_nil]; omega)) only [go_sem, Nat.reduceEqDiff, Nat.reduceAdd, Nat.reduceLeDiff, ↓reduceIte, Bool.true_and, c1', hsw2]
    exact retC_by (hdd _ _) (.refl _) ⟨rfl, rfl⟩
  have c1' : ¬ (12000 : Int) ≤ u := by omega
  by_cases c2 : 700 ≤ v
  · have c2' : (700 : Int) ≤ v := by omega
    rw [if_pos (.inr c2)] at hq
    subst hq
    simp (disch := first | assumption | omega | (simp only [List.length_append, List.length_cons, List.length_nil]; omega)) only [go_sem, Nat.reduceEqDiff, Nat.reduceAdd, Nat.reduceLeDiff, ↓reduceIte, Bool.true_and, c1', c2', hsw2]
    exact retC_by (hdd _ _) (.refl _) ⟨rfl, rfl⟩
  have c2' : ¬ (700 : Int) ≤ v := by omega
  rw [if_neg (by omega)] at hq
  subst hq
  have k0 := bit0 (u := u) (by omega)
  have k1 := bit1 (u := u) (by omega)
  have d0 : decide (((u % 2 : Nat) : Int) = 1) = decide (u % 2 = 1) := decide_eq_decide.2 (by omega)
  have d1 : decide (((u / 2 % 2 * 2 : Nat) : Int) = 2) = decide (u / 2 % 2 = 1) := decide_eq_decide.2 (by omega)
  have w : IntKind.wrap .i64 (IntKind.wrap .u64 ((u : Int).tdiv 4)) = ((u / 4 : Nat) : Int) := by
    rw [Int.tdiv_eq_ediv_of_nonneg (by omega), IntKind.wrap_u64, IntKind.wrap_i64]; omega
  simp (disch := first | assumption | omega | (simp only [List.length_append, List.length_cons, List.length_nil]; omega)) only [go_sem, Nat.reduceEqDiff, Nat.reduceAdd, Nat.reduceLeDiff, ↓reduceIte, Bool.true_and, c1', c2', hsw2]
  refine retC_by (hdd _ _) (.refl _) ⟨?_, rfl⟩
  have E : AV.tuple [AV.agg [AV.int .i64 (IntKind.wrap .i64 (IntKind.wrap .u64 ((u : Int).tdiv 4))), .int .i64 (v : Int), .bool (decide (((BitVec.ofInt 64 (u : Int) &&& BitVec.ofInt 64 1).toNat : Int) = 1)), .bool (decide (((BitVec.ofInt 64 (u : Int) &&& BitVec.ofInt 64 2).toNat : Int) = 2))], .bool true]
      = AV.tuple [refAV ⟨(u / 4 : Nat), (v : Nat), decide (u % 2 = 1), decide (u / 2 % 2 = 1)⟩, .bool true] := by
    rw [k0, k1, w, d0, d1]
    rfl
  exact E
theorem refR_facts (s : List UInt8) (p : Nat) (e : Int) (hp : p ≤ s.length) : (refR s p e).2.1 ≤ s.length := by
  obtain ⟨_, f2, _⟩ := readU_facts s p e hp
  obtain ⟨_, g2, _⟩ := readU_facts s (readU s p e).2.1 (readU s p e).2.2 f2
  exact g2
theorem rtxP_facts (s : List UInt8) (p : Nat) (most : Nat) (hp : p ≤ s.length) : (rtxP s p 0 most).2.1 ≤ s.length ∧ (rtxP s p 0 most).1.length ≤ most := by
  obtain ⟨_, f2, _⟩ := readU_facts s p 0 hp
  unfold rtxP
  repeat' split
  all_goals
    refine ⟨by dsimp only; omega, ?_⟩
    simp only [List.length_nil, List.length_take]
    omega
theorem whole_any {a : Int} (h1 : -9223372036854775808 ≤ a) (h2 : a ≤ 9223372036854775807) : Pure Tryz.prog 50 [.int .i64 a] (.int .i64 (a.tdiv 10000)) := by
  intro σ
  have hqb : (a.tdiv 10000).natAbs = a.natAbs / 10000 := Int.natAbs_tdiv _ _
  have hw : IntKind.wrap .i64 (a.tdiv 10000) = a.tdiv 10000 := by
    rw [IntKind.wrap_i64]; omega
  refine a50 (by simp) ?_
  simp (disch := first | assumption | omega | (simp only [List.length_append, List.length_cons, List.length_nil]; omega)) only [go_sem, reduceCtorEq, ↓reduceIte, hw]
  exact retC_by (Drop.refl _) (.refl _) ⟨rfl, rfl⟩
theorem failure_any (op n : Int) (s : List UInt8) (a b : Ref) (kids : List Nd) (g1 : -9223372036854775808 ≤ n) (g2 : n ≤ 9223372036854775807) : Pure Tryz.prog 25 [(Nd.mk op n s a b kids).av] (.str (failT op n)) := by
  intro σ
  have hW := whole_any g1 g2
  have hE := tenames_ok
  obtain ⟨q, hq⟩ : ∃ q, failT op n = q := ⟨_, rfl⟩
  rw [hq]
  unfold failT at hq
  rw [Nd.av_cs]
  generalize n.tdiv 10000 = i at *
  refine a25 (by simp) ?_
  simp (disch := first | assumption | omega | (simp only [List.length_append, List.length_cons, List.length_nil]; omega)) only [go_sem]
  refine boxC_by rfl fun c hc => ?_
  simp (disch := first | assumption | omega | (simp only [List.length_append, List.length_cons, List.length_nil]; omega)) only [go_sem, Nat.reduceEqDiff, ↓reduceIte]
  refine hW.use ?_
  by_cases h4 : op = 4
  · by_cases h2 : i < 1
    · rw [if_pos (.inr (.inl h2))] at hq
      subst hq
      simp (disch := first | assumption | omega | (simp only [List.length_append, List.length_cons, List.length_nil]; omega)) only [go_sem, Nat.reduceEqDiff, ↓reduceIte, h4, h2]
      exact retC_by (by repeat' (first | exact Drop.refl _ | with_reducible refine Drop.off ?_ (by assumption))) (.refl _) ⟨rfl, rfl⟩
    · by_cases h3 : 7 < i
      · rw [if_pos (.inr (.inr h3))] at hq
        subst hq
        simp (disch := first | assumption | omega | (simp only [List.length_append, List.length_cons, List.length_nil]; omega)) only [go_sem, Nat.reduceEqDiff, ↓reduceIte, h4, h2]
        refine hE.use ?_
        unfold errL
        simp (disch := first | assumption | omega | (simp only [List.length_append, List.length_cons, List.length_nil]; omega)) only [go_sem, Nat.reduceEqDiff, Nat.reduceAdd, ↓reduceIte, h3]
        exact retC_by (by repeat' (first | exact Drop.refl _ | with_reducible refine Drop.off ?_ (by assumption))) (.refl _) ⟨rfl, rfl⟩
      · rw [if_neg (by omega)] at hq
        have hc : i = 1 ∨ i = 2 ∨ i = 3 ∨ i = 4 ∨ i = 5 ∨ i = 6 ∨ i = 7 := by omega
        subst hq
        rcases hc with rfl | rfl | rfl | rfl | rfl | rfl | rfl
        all_goals
          simp (disch := first | assumption | omega | (simp only [List.length_append, List.length_cons, List.length_nil]; omega)) only [go_sem, Nat.reduceEqDiff, Int.reduceLT, ↓reduceIte, Int.reduceSub, Int.reduceToNat, h4]
          refine hE.use ?_
          unfold errL
          simp (disch := first | assumption | omega | (simp only [List.length_append, List.length_cons, List.length_nil]; omega)) only [go_sem, Nat.reduceEqDiff, Nat.reduceAdd, Int.reduceLT, ↓reduceIte]
          refine hE.use ?_
          unfold errL
          simp (disch := first | assumption | omega | (simp only [List.length_append, List.length_cons, List.length_nil]; omega)) only [go_sem, Nat.reduceEqDiff, ↓reduceIte, Int.reduceSub, Int.reduceToNat]
          exact retC_by (by repeat' (first | exact Drop.refl _ | with_reducible refine Drop.off ?_ (by assumption))) (.refl _) ⟨rfl, rfl⟩
  · rw [if_pos (.inl h4)] at hq
    subst hq
    simp (disch := first | assumption | omega | (simp only [List.length_append, List.length_cons, List.length_nil]; omega)) only [go_sem, Nat.reduceEqDiff, ↓reduceIte, h4]
    exact retC_by (by repeat' (first | exact Drop.refl _ | with_reducible refine Drop.off ?_ (by assumption))) (.refl _) ⟨rfl, rfl⟩
def valueP (op n : Int) : Bool := if op = 3 then decide (n = 0) || decide (n = 1) else if op = 4 then decide (n.tmod 10000 = 0) && decide (failT 4 n ≠ []) else decide (0 ≤ n) && decide (n.natAbs ≤ 999999999999999999)
theorem evalue_ok (op n : Int) (s : List UInt8) (a b : Ref) (kids : List Nd) (h1 : -9223372036854775808 ≤ n) (h2 : n ≤ 9223372036854775807) : Pure Tryz.prog 75 [(Nd.mk op n s a b kids).av] (.bool (valueP op n)) := by
  intro σ
  have hF := failure_any op n s a b kids h1 h2
  have hI := isInt_ok n
  have hG := dgood_ok n
  obtain ⟨q, hq⟩ : ∃ q, valueP op n = q := ⟨_, rfl⟩
  rw [hq]
  unfold valueP at hq
  rw [Nd.av_cs] at hF ⊢
  generalize kids.map Nd.av = KL at *
  refine a75 (by simp) ?_
  simp (disch := first | assumption | omega | (simp only [List.length_append, List.length_cons, List.length_nil]; omega)) only [go_sem]
  refine boxC_by rfl fun c hc => ?_
  by_cases h3 : op = 3
  · rw [if_pos h3] at hq
    subst hq
    by_cases n0 : n = 0
    · simp (disch := first | assumption | omega | (simp only [List.length_append, List.length_cons, List.length_nil]; omega)) only [go_sem, Nat.reduceEqDiff, Int.reduceEq, ↓reduceIte, h3, n0]
      exact retC_by (Drop.set hc) (.refl _) ⟨rfl, rfl⟩
    · by_cases n1 : n = 1
      · simp (disch := first | assumption | omega | (simp only [List.length_append, List.length_cons, List.length_nil]; omega)) only [go_sem, Nat.reduceEqDiff, Int.reduceEq, ↓reduceIte, h3, n1]
        exact retC_by (Drop.set hc) (.refl _) ⟨rfl, rfl⟩
      · simp (disch := first | assumption | omega | (simp only [List.length_append, List.length_cons, List.length_nil]; omega)) only [go_sem, Nat.reduceEqDiff, ↓reduceIte, h3, n0, n1]
        exact retC_by (Drop.set hc) (.refl _) ⟨by simp [resV_one], rfl⟩
  rw [if_neg h3] at hq
  by_cases h4 : op = 4
  · rw [if_pos h4] at hq
    rw [h4] at hF
    generalize failT 4 n = T at *
    subst hq
    by_cases i0 : n.tmod 10000 = 0
    · rw [decide_eq_true i0] at hI ⊢
      simp (disch := first | assumption | omega | (simp only [List.length_append, List.length_cons, List.length_nil]; omega)) only [go_sem, Nat.reduceEqDiff, Int.reduceEq, ↓reduceIte, Bool.true_and, h4]
      refine hI.use ?_
      simp (disch := first | assumption | omega | (simp only [List.length_append, List.length_cons, List.length_nil]; omega)) only [go_sem, Nat.reduceEqDiff, Nat.reduceLeDiff, ↓reduceIte]
      refine hF.use ?_
      by_cases t0 : T = []
      · simp (disch := first | assumption | omega | (simp only [List.length_append, List.length_cons, List.length_nil]; omega)) only [go_sem, Nat.reduceEqDiff, ↓reduceIte, t0]
        exact retC_by (Drop.set hc) (.refl _) ⟨by simp [resV_one], rfl⟩
      · simp (disch := first | assumption | omega | (simp only [List.length_append, List.length_cons, List.length_nil]; omega)) only [go_sem, Nat.reduceEqDiff, ↓reduceIte, t0]
        exact retC_by (Drop.set hc) (.refl _) ⟨by simp [resV_one], rfl⟩
    · rw [decide_eq_false i0] at hI ⊢
      simp (disch := first | assumption | omega | (simp only [List.length_append, List.length_cons, List.length_nil]; omega)) only [go_sem, Nat.reduceEqDiff, Int.reduceEq, ↓reduceIte, Bool.false_and, h4]
      refine hI.use ?_
      simp (disch := first | assumption | omega | (simp only [List.length_append, List.length_cons, List.length_nil]; omega)) only [go_sem, Nat.reduceEqDiff, ↓reduceIte]
      exact retC_by (Drop.set hc) (.refl _) ⟨rfl, rfl⟩
  rw [if_neg h4] at hq
  subst hq
  by_cases n0 : 0 ≤ n
  · rw [decide_eq_true n0]
    simp (disch := first | assumption | omega | (simp only [List.length_append, List.length_cons, List.length_nil]; omega)) only [go_sem, Nat.reduceEqDiff, ↓reduceIte, Bool.true_and, h3, h4, n0]
    refine hG.use ?_
    simp (disch := first | assumption | omega | (simp only [List.length_append, List.length_cons, List.length_nil]; omega)) only [go_sem, Nat.reduceEqDiff, ↓reduceIte]
    exact retC_by (Drop.set hc) (.refl _) ⟨rfl, rfl⟩
  · rw [decide_eq_false n0]
    simp (disch := first | assumption | omega | (simp only [List.length_append, List.length_cons, List.length_nil]; omega)) only [go_sem, Nat.reduceEqDiff, ↓reduceIte, Bool.false_and, h3, h4, n0]
    exact retC_by (Drop.set hc) (.refl _) ⟨rfl, rfl⟩
theorem ename_ok {σ : ASt} (hU : U8 σ) (s : List UInt8) (hs : s.length ≤ 100000) : ACalls Tryz.prog 79 [.str s] σ fun v σ' => v = .bool (nameOkP s) ∧ σ' = σ := by
  have hL := lex_ok hU s hs
  obtain ⟨q, hq⟩ : ∃ q, nameOkP s = q := ⟨_, rfl⟩
  rw [hq]
  unfold nameOkP at hq
  generalize lexP s = R at *
  obtain ⟨L, j, e⟩ := R
  dsimp only at *
  refine a79 (by simp) ?_
  simp (disch := first | assumption | omega | (simp only [List.length_append, List.length_cons, List.length_nil]; omega)) only [go_sem, reduceCtorEq, ↓reduceIte]
  refine hL.mono ?_
  rintro v σ' ⟨rfl, rfl⟩
  have hl : (L.map tokAV).length = L.length := by simp
  by_cases he : e = 0
  · rw [decide_eq_true he, Bool.true_and] at hq
    by_cases h2 : L.length = 2
    · obtain ⟨t, u, rfl⟩ : ∃ t u, L = [t, u] := by
        match L, h2 with
        | [t, u], _ => exact ⟨t, u, rfl⟩
      dsimp only at hq
      rw [decide_eq_true h2, Bool.true_and] at hq
      obtain ⟨kd, tx, at', col⟩ := t
      obtain ⟨kd2, tx2, at2, col2⟩ := u
      dsimp only at hq
      subst hq
      simp only [List.map_cons, List.map_nil, tokAV]
      by_cases k3 : kd = 3
      · simp (disch := first | assumption | omega | (simp only [List.length_append, List.length_cons, List.length_nil]; omega)) only [go_sem, reduceCtorEq, Nat.reduceEqDiff, Nat.reduceAdd, ↓reduceIte, Bool.true_and, he, k3]
        exact retC_by (Drop.refl _) (.refl _) ⟨by simp [resV_one], rfl⟩
      · simp (disch := first | assumption | omega | (simp only [List.length_append, List.length_cons, List.length_nil]; omega)) only [go_sem, Nat.reduceEqDiff, Nat.reduceAdd, ↓reduceIte, Bool.false_and, he, k3]
        exact retC_by (Drop.refl _) (.refl _) ⟨by simp [resV_one], rfl⟩
    · have h2' : ¬ (L.length : Int) = 2 := by omega
      rw [decide_eq_false h2, Bool.false_and] at hq
      subst hq
      generalize L.map tokAV = TL at *
      simp (disch := first | assumption | omega | (simp only [List.length_append, List.length_cons, List.length_nil]; omega)) only [go_sem, Nat.reduceEqDiff, ↓reduceIte, he, hl, h2']
      exact retC_by (Drop.refl _) (.refl _) ⟨rfl, rfl⟩
  · rw [decide_eq_false he, Bool.false_and] at hq
    subst hq
    generalize L.map tokAV = TL at *
    simp (disch := first | assumption | omega | (simp only [List.length_append, List.length_cons, List.length_nil]; omega)) only [go_sem, Nat.reduceEqDiff, ↓reduceIte, he]
    exact retC_by (Drop.refl _) (.refl _) ⟨rfl, rfl⟩
structure HdR where
  n : Int
  s : List UInt8
  a : Ref
  b : Ref
  cnt : Nat
  ok : Bool
  p : Nat
  e : Int
def headR (s : List UInt8) (op : Int) (p : Nat) : HdR :=
  if op = 1 ∨ op = 3 ∨ op = 4 then ⟨unfI (readU s p 0).1, [], .zero, .zero, 0, valueP op (unfI (readU s p 0).1), (readU s p 0).2.1, (readU s p 0).2.2⟩
  else if op = 2 then ⟨0, (rtxP s p 0 2000).1, .zero, .zero, 0, (sgT (rtxP s p 0 2000).1).isSome, (rtxP s p 0 2000).2.1, (rtxP s p 0 2000).2.2⟩
  else if op = 5 then ⟨0, [], (refR s p 0).1.1, .zero, 0, (refR s p 0).1.2, (refR s p 0).2.1, (refR s p 0).2.2⟩
  else if op = 6 then ⟨0, [], (refR s p 0).1.1, (refR s (refR s p 0).2.1 (refR s p 0).2.2).1.1, 0, (refR s (refR s p 0).2.1 (refR s p 0).2.2).1.2 && (refR s p 0).1.2, (refR s (refR s p 0).2.1 (refR s p 0).2.2).2.1, (refR s (refR s p 0).2.1 (refR s p 0).2.2).2.2⟩
  else if op = 22 then ⟨0, (rtxP s p 0 2000).1, .zero, .zero, min (readU s (rtxP s p 0 2000).2.1 (rtxP s p 0 2000).2.2).1 2001, nameOkP (rtxP s p 0 2000).1 && decide (min (readU s (rtxP s p 0 2000).2.1 (rtxP s p 0 2000).2.2).1 2001 ≤ 2000),
    (readU s (rtxP s p 0 2000).2.1 (rtxP s p 0 2000).2.2).2.1, (readU s (rtxP s p 0 2000).2.1 (rtxP s p 0 2000).2.2).2.2⟩
  else ⟨0, [], .zero, .zero, arity op, true, p, 0⟩
theorem headR_facts (s : List UInt8) (op : Int) (p : Nat) (hp : p ≤ s.length) : (headR s op p).p ≤ s.length ∧ (headR s op p).cnt ≤ 2001 := by
  obtain ⟨_, f2, _⟩ := readU_facts s p 0 hp
  have t1 := (rtxP_facts s p 2000 hp).1
  obtain ⟨_, g2, _⟩ := readU_facts s (rtxP s p 0 2000).2.1 (rtxP s p 0 2000).2.2 t1
  have r1 := refR_facts s p 0 hp
  have r2 := refR_facts s (refR s p 0).2.1 (refR s p 0).2.2 r1
  have ha := arity_le op
  unfold headR
  repeat' split
  all_goals
    refine ⟨by dsimp only; assumption, ?_⟩
    dsimp only
    omega
def zNd : Nd := .mk 0 0 [] .zero .zero []
def kidsR (g : Nat → Nd × Int × Nat × Int) (mk : List Nd → Nd) : Nat → List Nd → Nat → Nd × Int × Nat × Int
  | 0, D, p => (mk D, 0, p, 0)
  | c + 1, D, p => if (g p).2.1 ≠ 0 then (zNd, (g p).2.1, (g p).2.2.1, (g p).2.2.2) else kidsR g mk c (D ++ [(g p).1]) (g p).2.2.1
def treeR (s : List UInt8) : Nat → Nat → Nd × Int × Nat × Int
  | 0, p => (zNd, 12, p, 0)
  | k + 1, p =>
    if (readU s p 0).2.2 ≠ 0 then (zNd, (readU s p 0).2.2, (readU s p 0).2.1, (readU s p 0).2.2)
    else if (readU s p 0).1 < 1 ∨ 23 < (readU s p 0).1 then (zNd, 3, (readU s p 0).2.1, 0)
    else if (headR s ((readU s p 0).1 : Nat) (readU s p 0).2.1).e ≠ 0 then (zNd, (headR s ((readU s p 0).1 : Nat) (readU s p 0).2.1).e, (headR s ((readU s p 0).1 : Nat) (readU s p 0).2.1).p, (headR s ((readU s p 0).1 : Nat) (readU s p 0).2.1).e)
    else if (headR s ((readU s p 0).1 : Nat) (readU s p 0).2.1).ok = false then (zNd, 3, (headR s ((readU s p 0).1 : Nat) (readU s p 0).2.1).p, 0)
    else kidsR (treeR s k) (fun ks => .mk ((readU s p 0).1 : Nat) (headR s ((readU s p 0).1 : Nat) (readU s p 0).2.1).n (headR s ((readU s p 0).1 : Nat) (readU s p 0).2.1).s (headR s ((readU s p 0).1 : Nat) (readU s p 0).2.1).a (headR s ((readU s p 0).1 : Nat) (readU s p 0).2.1).b ks)
      (headR s ((readU s p 0).1 : Nat) (readU s p 0).2.1).cnt [] (headR s ((readU s p 0).1 : Nat) (readU s p 0).2.1).p
theorem kidsR_facts (M : Nat) (g : Nat → Nd × Int × Nat × Int) (mk : List Nd → Nd) (hg : ∀ p, p ≤ M → (g p).2.2.1 ≤ M ∧ ((g p).2.1 = 0 → (g p).2.2.2 = 0)) : ∀ c D p, p ≤ M → (kidsR g mk c D p).2.2.1 ≤ M ∧ ((kidsR g mk c D p).2.1 = 0 → (kidsR g mk c D p).2.2.2 = 0)
  | 0, D, p, hp => ⟨hp, fun _ => rfl⟩
  | c + 1, D, p, hp => by
    rw [kidsR]
    split
    · exact hg p hp
    · exact kidsR_facts M g mk hg c _ _ (hg p hp).1
theorem treeR_facts (s : List UInt8) : ∀ k p, p ≤ s.length → (treeR s k p).2.2.1 ≤ s.length ∧ ((treeR s k p).2.1 = 0 → (treeR s k p).2.2.2 = 0)
  | 0, p, hp => ⟨hp, fun _ => rfl⟩
  | k + 1, p, hp => by
    obtain ⟨_, f2, _⟩ := readU_facts s p 0 hp
    have hh := (headR_facts s ((readU s p 0).1 : Nat) (readU s p 0).2.1 f2).1
    rw [treeR]
    split
    · exact ⟨f2, fun h => h⟩
    split
    · exact ⟨f2, fun _ => rfl⟩
    split
    · exact ⟨hh, fun h => h⟩
    split
    · exact ⟨hh, fun _ => rfl⟩
    exact kidsR_facts _ _ _ (treeR_facts s k) _ _ _ hh
end Go.A
namespace Go.A
open Go.Proofs
/-! 52: tabular/expr.read -/
def c52_0 : ACode := .ops [
 ⟨some 4, none, .e (.alloc [(.int .i64 0), (.int .i64 0), (.str []), (.int .i64 0), (.int .i64 0), (.bool false), (.bool false), (.int .i64 0), (.int .i64 0), (.bool false), (.bool false), (.sl .full [])]), []⟩,
 ⟨some 5, none, .q (.mv (.v (.int .i64 0))), []⟩]
def c52_1 : ACode := .ops [
 ⟨some 13, none, .q (.mv (.t 1)), []⟩,
 ⟨some 14, none, .q (.bin .gtr (.t 13) (.v (.int .i64 2100))), []⟩]
def c52_2 : ACode := .ops [
 ⟨some 15, none, .q (.build [(.int .i64 0), (.int .i64 0), (.str []), (.int .i64 0), (.int .i64 0), (.bool false), (.bool false), (.int .i64 0), (.int .i64 0), (.bool false), (.bool false), (.sl .full [])] []), []⟩,
 ⟨none, none, .e (.store 12 (.t 4) (.t 15)), []⟩,
 ⟨some 5, none, .q (.mv (.v (.int .i64 12))), []⟩]
def c52_3 : ACode := .seq c52_2 .ret
def c52_4 : ACode := .cond (.t 14) c52_3 .skip
def c52_5 : ACode := .seq c52_1 c52_4
def c52_6 : ACode := .ops [
 ⟨some 16, none, .q (.mv (.t 0)), []⟩,
 ⟨some 17, none, .e (.call 71 [(.t 16)]), []⟩,
 ⟨some 6, none, .q (.mv (.t 17)), []⟩]
def c52_7 : ACode := .ops [
 ⟨some 18, none, .q (.mv (.t 0)), []⟩,
 ⟨some 19, none, .e (.call 72 [(.t 18)]), []⟩,
 ⟨some 20, none, .q (.bin .neq (.t 19) (.v (.int .i64 0))), []⟩]
def c52_8 : ACode := .ops [
 ⟨some 21, none, .q (.build [(.int .i64 0), (.int .i64 0), (.str []), (.int .i64 0), (.int .i64 0), (.bool false), (.bool false), (.int .i64 0), (.int .i64 0), (.bool false), (.bool false), (.sl .full [])] []), []⟩,
 ⟨some 22, none, .q (.mv (.t 0)), []⟩,
 ⟨some 23, none, .e (.call 72 [(.t 22)]), []⟩,
 ⟨none, none, .e (.store 12 (.t 4) (.t 21)), []⟩,
 ⟨some 5, none, .q (.mv (.t 23)), []⟩]
def c52_9 : ACode := .seq c52_8 .ret
def c52_10 : ACode := .cond (.t 20) c52_9 .skip
def c52_11 : ACode := .seq c52_7 c52_10
def c52_12 : ACode := .ops [
 ⟨some 24, none, .q (.mv (.t 6)), []⟩,
 ⟨some 25, none, .q (.bin .lss (.t 24) (.v (.int .u64 1))), []⟩,
 ⟨some 26, none, .q (.mv (.t 25)), []⟩,
 ⟨some 27, some (26, false), .q (.mv (.t 6)), []⟩,
 ⟨some 28, some (26, false), .q (.bin .gtr (.t 27) (.v (.int .u64 23))), []⟩,
 ⟨some 29, none, .q (.pick (.t 26) (.v (.bool true)) (.t 28)), []⟩]
def c52_13 : ACode := .ops [
 ⟨some 30, none, .q (.build [(.int .i64 0), (.int .i64 0), (.str []), (.int .i64 0), (.int .i64 0), (.bool false), (.bool false), (.int .i64 0), (.int .i64 0), (.bool false), (.bool false), (.sl .full [])] []), []⟩,
 ⟨none, none, .e (.store 12 (.t 4) (.t 30)), []⟩,
 ⟨some 5, none, .q (.mv (.v (.int .i64 3))), []⟩]
def c52_14 : ACode := .seq c52_13 .ret
def c52_15 : ACode := .cond (.t 29) c52_14 .skip
def c52_16 : ACode := .seq c52_12 c52_15
def c52_17 : ACode := .ops [
 ⟨some 31, none, .q (.mv (.t 6)), []⟩,
 ⟨some 32, none, .q (.conv .i64 (.t 31)), []⟩,
 ⟨some 33, none, .q (.build [(.int .i64 0), (.int .i64 0), (.str []), (.int .i64 0), (.int .i64 0), (.bool false), (.bool false), (.int .i64 0), (.int .i64 0), (.bool false), (.bool false), (.sl .full [])] [(0, 1, (.t 32))]), []⟩,
 ⟨some 7, none, .e (.alloc [(.int .i64 0), (.int .i64 0), (.str []), (.int .i64 0), (.int .i64 0), (.bool false), (.bool false), (.int .i64 0), (.int .i64 0), (.bool false), (.bool false), (.sl .full [])]), []⟩,
 ⟨none, none, .e (.store 12 (.t 7) (.t 33)), []⟩]
def c52_18 : ACode := .ops [
 ⟨some 34, none, .q (.fa 0 (.t 7)), []⟩,
 ⟨some 35, none, .q (.ld none (.t 34)), []⟩,
 ⟨some 36, none, .e (.call 73 [(.t 35)]), []⟩,
 ⟨some 8, none, .q (.mv (.t 36)), []⟩,
 ⟨some 9, none, .q (.mv (.v (.bool true))), []⟩]
def c52_19 : ACode := .ops [
 ⟨some 37, none, .q (.fa 0 (.t 7)), []⟩,
 ⟨some 38, none, .q (.ld none (.t 37)), []⟩]
def c52_20 : ACode := .ops [
 ⟨some 40, none, .q (.bin .eql (.t 38) (.v (.int .i64 1))), []⟩,
 ⟨some 39, none, .q (.mv (.t 40)), []⟩]
def c52_21 : ACode := .ops [
 ⟨some 41, none, .q (.bin .eql (.t 38) (.v (.int .i64 3))), []⟩,
 ⟨some 39, none, .q (.mv (.t 41)), []⟩]
def c52_22 : ACode := .ops [
 ⟨some 42, none, .q (.bin .eql (.t 38) (.v (.int .i64 4))), []⟩,
 ⟨some 39, none, .q (.mv (.t 42)), []⟩]
def c52_23 : ACode := .cond (.t 39) .skip c52_22
def c52_24 : ACode := .seq c52_21 c52_23
def c52_25 : ACode := .cond (.t 39) .skip c52_24
def c52_26 : ACode := .seq c52_20 c52_25
def c52_27 : ACode := .ops [
 ⟨some 43, none, .q (.mv (.t 0)), []⟩,
 ⟨some 44, none, .e (.call 74 [(.t 43)]), []⟩,
 ⟨some 45, none, .q (.fa 1 (.t 7)), []⟩,
 ⟨none, none, .e (.store 1 (.t 45) (.t 44)), []⟩]
def c52_28 : ACode := .ops [
 ⟨some 46, none, .q (.ld (some 12) (.t 7)), []⟩,
 ⟨some 47, none, .e (.call 75 [(.t 46)]), []⟩,
 ⟨some 9, none, .q (.mv (.t 47)), []⟩]
def c52_29 : ACode := .seq c52_27 c52_28
def c52_30 : ACode := .ops [
 ⟨some 49, none, .q (.bin .eql (.t 38) (.v (.int .i64 2))), []⟩,
 ⟨some 48, none, .q (.mv (.t 49)), []⟩]
def c52_31 : ACode := .ops [
 ⟨some 50, none, .q (.mv (.t 0)), []⟩,
 ⟨some 51, none, .e (.call 76 [(.t 50), (.v (.int .i64 2000))]), []⟩,
 ⟨some 52, none, .q (.fa 2 (.t 7)), []⟩,
 ⟨none, none, .e (.store 1 (.t 52) (.t 51)), []⟩]
def c52_32 : ACode := .ops [
 ⟨some 54, none, .q (.fa 2 (.t 7)), []⟩,
 ⟨some 55, none, .q (.ld none (.t 54)), []⟩,
 ⟨some 56, none, .e (.call 77 [(.t 55)]), []⟩,
 ⟨some 53, none, .q (.mv (.t 56)), []⟩,
 ⟨some 57, none, .q (.ext 0 (.t 53)), []⟩,
 ⟨some 58, none, .q (.ext 1 (.t 53)), []⟩,
 ⟨some 9, none, .q (.mv (.t 58)), []⟩]
def c52_33 : ACode := .seq c52_31 c52_32
def c52_34 : ACode := .ops [
 ⟨some 60, none, .q (.bin .eql (.t 38) (.v (.int .i64 5))), []⟩,
 ⟨some 59, none, .q (.mv (.t 60)), []⟩]
def c52_35 : ACode := .ops [
 ⟨some 62, none, .q (.mv (.t 0)), []⟩,
 ⟨some 63, none, .e (.call 78 [(.t 62)]), []⟩,
 ⟨some 61, none, .q (.mv (.t 63)), []⟩,
 ⟨some 64, none, .q (.ext 0 (.t 61)), []⟩,
 ⟨some 65, none, .q (.ext 1 (.t 61)), []⟩,
 ⟨some 66, none, .q (.fa 3 (.t 7)), []⟩,
 ⟨none, none, .e (.store 4 (.t 66) (.t 64)), []⟩,
 ⟨some 9, none, .q (.mv (.t 65)), []⟩]
def c52_36 : ACode := .ops [
 ⟨some 68, none, .q (.bin .eql (.t 38) (.v (.int .i64 6))), []⟩,
 ⟨some 67, none, .q (.mv (.t 68)), []⟩]
def c52_37 : ACode := .ops [
 ⟨some 10, none, .q (.mv (.v (.bool false))), []⟩]
def c52_38 : ACode := .ops [
 ⟨some 70, none, .q (.mv (.t 0)), []⟩,
 ⟨some 71, none, .e (.call 78 [(.t 70)]), []⟩,
 ⟨some 69, none, .q (.mv (.t 71)), []⟩,
 ⟨some 72, none, .q (.ext 0 (.t 69)), []⟩,
 ⟨some 73, none, .q (.ext 1 (.t 69)), []⟩,
 ⟨some 74, none, .q (.fa 3 (.t 7)), []⟩,
 ⟨none, none, .e (.store 4 (.t 74) (.t 72)), []⟩,
 ⟨some 10, none, .q (.mv (.t 73)), []⟩]
def c52_39 : ACode := .ops [
 ⟨some 76, none, .q (.mv (.t 0)), []⟩,
 ⟨some 77, none, .e (.call 78 [(.t 76)]), []⟩,
 ⟨some 75, none, .q (.mv (.t 77)), []⟩,
 ⟨some 78, none, .q (.ext 0 (.t 75)), []⟩,
 ⟨some 79, none, .q (.ext 1 (.t 75)), []⟩,
 ⟨some 80, none, .q (.fa 7 (.t 7)), []⟩,
 ⟨none, none, .e (.store 4 (.t 80) (.t 78)), []⟩,
 ⟨some 9, none, .q (.mv (.t 79)), []⟩]
def c52_40 : ACode := .ops [
 ⟨some 81, none, .q (.mv (.t 9)), []⟩,
 ⟨some 82, none, .q (.mv (.t 81)), []⟩,
 ⟨some 83, some (82, true), .q (.mv (.t 10)), []⟩,
 ⟨some 84, none, .q (.pick (.t 82) (.t 83) (.v (.bool false))), []⟩,
 ⟨some 9, none, .q (.mv (.t 84)), []⟩]
def c52_41 : ACode := .seq c52_39 c52_40
def c52_42 : ACode := .seq c52_38 c52_41
def c52_43 : ACode := .seq c52_37 c52_42
def c52_44 : ACode := .ops [
 ⟨some 86, none, .q (.bin .eql (.t 38) (.v (.int .i64 22))), []⟩,
 ⟨some 85, none, .q (.mv (.t 86)), []⟩]
def c52_45 : ACode := .ops [
 ⟨some 87, none, .q (.mv (.t 0)), []⟩,
 ⟨some 88, none, .e (.call 76 [(.t 87), (.v (.int .i64 2000))]), []⟩,
 ⟨some 89, none, .q (.fa 2 (.t 7)), []⟩,
 ⟨none, none, .e (.store 1 (.t 89) (.t 88)), []⟩]
def c52_46 : ACode := .ops [
 ⟨some 90, none, .q (.mv (.t 0)), []⟩,
 ⟨some 91, none, .e (.call 71 [(.t 90)]), []⟩,
 ⟨some 92, none, .q (.mnx false (.t 91) (.v (.int .u64 2001))), []⟩,
 ⟨some 93, none, .q (.conv .i64 (.t 92)), []⟩,
 ⟨some 8, none, .q (.mv (.t 93)), []⟩]
def c52_47 : ACode := .ops [
 ⟨some 94, none, .q (.fa 2 (.t 7)), []⟩,
 ⟨some 95, none, .q (.ld none (.t 94)), []⟩,
 ⟨some 96, none, .e (.call 79 [(.t 95)]), []⟩,
 ⟨some 97, none, .q (.mv (.t 96)), []⟩,
 ⟨some 98, some (97, true), .q (.mv (.t 8)), []⟩,
 ⟨some 99, some (97, true), .q (.bin .leq (.t 98) (.v (.int .i64 2000))), []⟩,
 ⟨some 100, none, .q (.pick (.t 97) (.t 99) (.v (.bool false))), []⟩,
 ⟨some 9, none, .q (.mv (.t 100)), []⟩]
def c52_48 : ACode := .seq c52_46 c52_47
def c52_49 : ACode := .seq c52_45 c52_48
def c52_50 : ACode := .cond (.t 85) c52_49 .skip
def c52_51 : ACode := .seq c52_44 c52_50
def c52_52 : ACode := .cond (.t 67) c52_43 c52_51
def c52_53 : ACode := .seq c52_36 c52_52
def c52_54 : ACode := .cond (.t 59) c52_35 c52_53
def c52_55 : ACode := .seq c52_34 c52_54
def c52_56 : ACode := .cond (.t 48) c52_33 c52_55
def c52_57 : ACode := .seq c52_30 c52_56
def c52_58 : ACode := .cond (.t 39) c52_29 c52_57
def c52_59 : ACode := .seq c52_26 c52_58
def c52_60 : ACode := .block 0 c52_59
def c52_61 : ACode := .seq c52_19 c52_60
def c52_62 : ACode := .ops [
 ⟨some 101, none, .q (.mv (.t 0)), []⟩,
 ⟨some 102, none, .e (.call 72 [(.t 101)]), []⟩,
 ⟨some 103, none, .q (.bin .neq (.t 102) (.v (.int .i64 0))), []⟩]
def c52_63 : ACode := .ops [
 ⟨some 104, none, .q (.build [(.int .i64 0), (.int .i64 0), (.str []), (.int .i64 0), (.int .i64 0), (.bool false), (.bool false), (.int .i64 0), (.int .i64 0), (.bool false), (.bool false), (.sl .full [])] []), []⟩,
 ⟨some 105, none, .q (.mv (.t 0)), []⟩,
 ⟨some 106, none, .e (.call 72 [(.t 105)]), []⟩,
 ⟨none, none, .e (.store 12 (.t 4) (.t 104)), []⟩,
 ⟨some 5, none, .q (.mv (.t 106)), []⟩]
def c52_64 : ACode := .seq c52_63 .ret
def c52_65 : ACode := .cond (.t 103) c52_64 .skip
def c52_66 : ACode := .seq c52_62 c52_65
def c52_67 : ACode := .ops [
 ⟨some 107, none, .q (.mv (.t 9)), []⟩,
 ⟨some 108, none, .q (.un .not (.t 107)), []⟩]
def c52_68 : ACode := .ops [
 ⟨some 109, none, .q (.build [(.int .i64 0), (.int .i64 0), (.str []), (.int .i64 0), (.int .i64 0), (.bool false), (.bool false), (.int .i64 0), (.int .i64 0), (.bool false), (.bool false), (.sl .full [])] []), []⟩,
 ⟨none, none, .e (.store 12 (.t 4) (.t 109)), []⟩,
 ⟨some 5, none, .q (.mv (.v (.int .i64 3))), []⟩]
def c52_69 : ACode := .seq c52_68 .ret
def c52_70 : ACode := .cond (.t 108) c52_69 .skip
def c52_71 : ACode := .seq c52_67 c52_70
def c52_72 : ACode := .ops [
 ⟨some 110, none, .q (.mv (.t 8)), []⟩,
 ⟨some 111, none, .q (.mv (.v (.int .i64 0))), []⟩]
def c52_73 : ACode := .ops [
 ⟨some 112, none, .q (.bin .lss (.t 111) (.t 110)), []⟩]
def c52_74 : ACode := .cond (.t 112) .skip (.exit 1)
def c52_75 : ACode := .ops [
 ⟨some 114, none, .q (.mv (.t 0)), []⟩,
 ⟨some 115, none, .q (.mv (.t 1)), []⟩,
 ⟨some 116, none, .q (.bin .add (.t 115) (.v (.int .i64 1))), []⟩,
 ⟨some 117, none, .e (.call 52 [(.t 114), (.t 116)]), []⟩,
 ⟨some 113, none, .q (.mv (.t 117)), []⟩,
 ⟨some 118, none, .q (.ext 0 (.t 113)), []⟩,
 ⟨some 119, none, .q (.ext 1 (.t 113)), []⟩,
 ⟨some 11, none, .e (.alloc [(.int .i64 0), (.int .i64 0), (.str []), (.int .i64 0), (.int .i64 0), (.bool false), (.bool false), (.int .i64 0), (.int .i64 0), (.bool false), (.bool false), (.sl .full [])]), []⟩,
 ⟨none, none, .e (.store 12 (.t 11) (.t 118)), []⟩,
 ⟨some 12, none, .q (.mv (.t 119)), []⟩]
def c52_76 : ACode := .ops [
 ⟨some 120, none, .q (.mv (.t 12)), []⟩,
 ⟨some 121, none, .q (.bin .neq (.t 120) (.v (.int .i64 0))), []⟩]
def c52_77 : ACode := .ops [
 ⟨some 122, none, .q (.build [(.int .i64 0), (.int .i64 0), (.str []), (.int .i64 0), (.int .i64 0), (.bool false), (.bool false), (.int .i64 0), (.int .i64 0), (.bool false), (.bool false), (.sl .full [])] []), []⟩,
 ⟨some 123, none, .q (.mv (.t 12)), []⟩,
 ⟨none, none, .e (.store 12 (.t 4) (.t 122)), []⟩,
 ⟨some 5, none, .q (.mv (.t 123)), []⟩]
def c52_78 : ACode := .seq c52_77 .ret
def c52_79 : ACode := .cond (.t 121) c52_78 .skip
def c52_80 : ACode := .seq c52_76 c52_79
def c52_81 : ACode := .ops [
 ⟨some 124, none, .q (.fa 11 (.t 7)), []⟩,
 ⟨some 125, none, .q (.ld none (.t 124)), []⟩,
 ⟨some 126, none, .q (.ld (some 12) (.t 11)), []⟩,
 ⟨some 127, none, .q (.bsl 12 [(.t 126)]), []⟩,
 ⟨some 128, none, .e (.app 28 12 104 [(.int .i64 0), (.int .i64 0), (.str []), (.int .i64 0), (.int .i64 0), (.bool false), (.bool false), (.int .i64 0), (.int .i64 0), (.bool false), (.bool false), (.sl .full [])] (.t 125) (.t 127)), []⟩,
 ⟨some 129, none, .q (.fa 11 (.t 7)), []⟩,
 ⟨none, none, .e (.store 1 (.t 129) (.t 128)), []⟩]
def c52_82 : ACode := .seq c52_80 c52_81
def c52_83 : ACode := .seq c52_75 c52_82
def c52_84 : ACode := .block 2 c52_83
def c52_85 : ACode := .ops [
 ⟨some 130, none, .q (.bin .add (.t 111) (.v (.int .i64 1))), []⟩,
 ⟨some 111, none, .q (.mv (.t 130)), []⟩]
def c52_86 : ACode := .seq c52_84 c52_85
def c52_87 : ACode := .seq c52_74 c52_86
def c52_88 : ACode := .seq c52_73 c52_87
def c52_89 : ACode := .loop c52_88
def c52_90 : ACode := .block 1 c52_89
def c52_91 : ACode := .seq c52_72 c52_90
def c52_92 : ACode := .ops [
 ⟨some 131, none, .q (.ld (some 12) (.t 7)), []⟩,
 ⟨none, none, .e (.store 12 (.t 4) (.t 131)), []⟩,
 ⟨some 5, none, .q (.mv (.v (.int .i64 0))), []⟩]
def c52_93 : ACode := .seq c52_92 .ret
def c52_94 : ACode := .seq c52_91 c52_93
def c52_95 : ACode := .seq c52_71 c52_94
def c52_96 : ACode := .seq c52_66 c52_95
def c52_97 : ACode := .seq c52_61 c52_96
def c52_98 : ACode := .seq c52_18 c52_97
def c52_99 : ACode := .seq c52_17 c52_98
def c52_100 : ACode := .seq c52_16 c52_99
def c52_101 : ACode := .seq c52_11 c52_100
def c52_102 : ACode := .seq c52_6 c52_101
def c52_103 : ACode := .seq c52_5 c52_102
def c52_104 : ACode := .seq c52_0 c52_103
@[go_sem] theorem c52_0_wp : type_of% (wp_of c52_0.eq_1) := wp_of c52_0.eq_1
@[go_sem] theorem c52_1_wp : type_of% (wp_of c52_1.eq_1) := wp_of c52_1.eq_1
@[go_sem] theorem c52_2_wp : type_of% (wp_of c52_2.eq_1) := wp_of c52_2.eq_1
@[go_sem] theorem c52_3_wp : type_of% (wp_of c52_3.eq_1) := wp_of c52_3.eq_1
@[go_sem] theorem c52_4_wp : type_of% (wp_of c52_4.eq_1) := wp_of c52_4.eq_1
@[go_sem] theorem c52_5_wp : type_of% (wp_of c52_5.eq_1) := wp_of c52_5.eq_1
@[go_sem] theorem c52_6_wp : type_of% (wp_of c52_6.eq_1) := wp_of c52_6.eq_1
@[go_sem] theorem c52_7_wp : type_of% (wp_of c52_7.eq_1) := wp_of c52_7.eq_1
@[go_sem] theorem c52_8_wp : type_of% (wp_of c52_8.eq_1) := wp_of c52_8.eq_1
@[go_sem] theorem c52_9_wp : type_of% (wp_of c52_9.eq_1) := wp_of c52_9.eq_1
@[go_sem] theorem c52_10_wp : type_of% (wp_of c52_10.eq_1) := wp_of c52_10.eq_1
@[go_sem] theorem c52_11_wp : type_of% (wp_of c52_11.eq_1) := wp_of c52_11.eq_1
@[go_sem] theorem c52_12_wp : type_of% (wp_of c52_12.eq_1) := wp_of c52_12.eq_1
@[go_sem] theorem c52_13_wp : type_of% (wp_of c52_13.eq_1) := wp_of c52_13.eq_1
@[go_sem] theorem c52_14_wp : type_of% (wp_of c52_14.eq_1) := wp_of c52_14.eq_1
@[go_sem] theorem c52_15_wp : type_of% (wp_of c52_15.eq_1) := wp_of c52_15.eq_1
@[go_sem] theorem c52_16_wp : type_of% (wp_of c52_16.eq_1) := wp_of c52_16.eq_1
@[go_sem] theorem c52_17_wp : type_of% (wp_of c52_17.eq_1) := wp_of c52_17.eq_1
@[go_sem] theorem c52_18_wp : type_of% (wp_of c52_18.eq_1) := wp_of c52_18.eq_1
@[go_sem] theorem c52_19_wp : type_of% (wp_of c52_19.eq_1) := wp_of c52_19.eq_1
@[go_sem] theorem c52_20_wp : type_of% (wp_of c52_20.eq_1) := wp_of c52_20.eq_1
@[go_sem] theorem c52_21_wp : type_of% (wp_of c52_21.eq_1) := wp_of c52_21.eq_1
@[go_sem] theorem c52_22_wp : type_of% (wp_of c52_22.eq_1) := wp_of c52_22.eq_1
@[go_sem] theorem c52_23_wp : type_of% (wp_of c52_23.eq_1) := wp_of c52_23.eq_1
@[go_sem] theorem c52_24_wp : type_of% (wp_of c52_24.eq_1) := wp_of c52_24.eq_1
@[go_sem] theorem c52_25_wp : type_of% (wp_of c52_25.eq_1) := wp_of c52_25.eq_1
@[go_sem] theorem c52_26_wp : type_of% (wp_of c52_26.eq_1) := wp_of c52_26.eq_1
@[go_sem] theorem c52_27_wp : type_of% (wp_of c52_27.eq_1) := wp_of c52_27.eq_1
@[go_sem] theorem c52_28_wp : type_of% (wp_of c52_28.eq_1) := wp_of c52_28.eq_1
@[go_sem] theorem c52_29_wp : type_of% (wp_of c52_29.eq_1) := wp_of c52_29.eq_1
@[go_sem] theorem c52_30_wp : type_of% (wp_of c52_30.eq_1) := wp_of c52_30.eq_1
@[go_sem] theorem c52_31_wp : type_of% (wp_of c52_31.eq_1) := wp_of c52_31.eq_1
@[go_sem] theorem c52_32_wp : type_of% (wp_of c52_32.eq_1) := wp_of c52_32.eq_1
@[go_sem] theorem c52_33_wp : type_of% (wp_of c52_33.eq_1) := wp_of c52_33.eq_1
@[go_sem] theorem c52_34_wp : type_of% (wp_of c52_34.eq_1) := wp_of c52_34.eq_1
@[go_sem] theorem c52_35_wp : type_of% (wp_of c52_35.eq_1) := wp_of c52_35.eq_1
@[go_sem] theorem c52_36_wp : type_of% (wp_of c52_36.eq_1) := wp_of c52_36.eq_1
@[go_sem] theorem c52_37_wp : type_of% (wp_of c52_37.eq_1) := wp_of c52_37.eq_1
@[go_sem] theorem c52_38_wp : type_of% (wp_of c52_38.eq_1) := wp_of c52_38.eq_1
@[go_sem] theorem c52_39_wp : type_of% (wp_of c52_39.eq_1) := wp_of c52_39.eq_1
@[go_sem] theorem c52_40_wp : type_of% (wp_of c52_40.eq_1) := wp_of c52_40.eq_1
@[go_sem] theorem c52_41_wp : type_of% (wp_of c52_41.eq_1) := wp_of c52_41.eq_1
@[go_sem] theorem c52_42_wp : type_of% (wp_of c52_42.eq_1) := wp_of c52_42.eq_1
@[go_sem] theorem c52_43_wp : type_of% (wp_of c52_43.eq_1) := wp_of c52_43.eq_1
@[go_sem] theorem c52_44_wp : type_of% (wp_of c52_44.eq_1) := wp_of c52_44.eq_1
@[go_sem] theorem c52_45_wp : type_of% (wp_of c52_45.eq_1) := wp_of c52_45.eq_1
@[go_sem] theorem c52_46_wp : type_of% (wp_of c52_46.eq_1) := wp_of c52_46.eq_1
@[go_sem] theorem c52_47_wp : type_of% (wp_of c52_47.eq_1) := wp_of c52_47.eq_1
@[go_sem] theorem c52_48_wp : type_of% (wp_of c52_48.eq_1) := wp_of c52_48.eq_1
@[go_sem] theorem c52_49_wp : type_of% (wp_of c52_49.eq_1) := wp_of c52_49.eq_1
@[go_sem] theorem c52_50_wp : type_of% (wp_of c52_50.eq_1) := wp_of c52_50.eq_1
@[go_sem] theorem c52_51_wp : type_of% (wp_of c52_51.eq_1) := wp_of c52_51.eq_1
@[go_sem] theorem c52_52_wp : type_of% (wp_of c52_52.eq_1) := wp_of c52_52.eq_1
@[go_sem] theorem c52_53_wp : type_of% (wp_of c52_53.eq_1) := wp_of c52_53.eq_1
@[go_sem] theorem c52_54_wp : type_of% (wp_of c52_54.eq_1) := wp_of c52_54.eq_1
@[go_sem] theorem c52_55_wp : type_of% (wp_of c52_55.eq_1) := wp_of c52_55.eq_1
@[go_sem] theorem c52_56_wp : type_of% (wp_of c52_56.eq_1) := wp_of c52_56.eq_1
@[go_sem] theorem c52_57_wp : type_of% (wp_of c52_57.eq_1) := wp_of c52_57.eq_1
@[go_sem] theorem c52_58_wp : type_of% (wp_of c52_58.eq_1) := wp_of c52_58.eq_1
@[go_sem] theorem c52_59_wp : type_of% (wp_of c52_59.eq_1) := wp_of c52_59.eq_1
@[go_sem] theorem c52_60_wp : type_of% (wp_of c52_60.eq_1) := wp_of c52_60.eq_1
@[go_sem] theorem c52_61_wp : type_of% (wp_of c52_61.eq_1) := wp_of c52_61.eq_1
@[go_sem] theorem c52_62_wp : type_of% (wp_of c52_62.eq_1) := wp_of c52_62.eq_1
@[go_sem] theorem c52_63_wp : type_of% (wp_of c52_63.eq_1) := wp_of c52_63.eq_1
@[go_sem] theorem c52_64_wp : type_of% (wp_of c52_64.eq_1) := wp_of c52_64.eq_1
@[go_sem] theorem c52_65_wp : type_of% (wp_of c52_65.eq_1) := wp_of c52_65.eq_1
@[go_sem] theorem c52_66_wp : type_of% (wp_of c52_66.eq_1) := wp_of c52_66.eq_1
@[go_sem] theorem c52_67_wp : type_of% (wp_of c52_67.eq_1) := wp_of c52_67.eq_1
@[go_sem] theorem c52_68_wp : type_of% (wp_of c52_68.eq_1) := wp_of c52_68.eq_1
@[go_sem] theorem c52_69_wp : type_of% (wp_of c52_69.eq_1) := wp_of c52_69.eq_1
@[go_sem] theorem c52_70_wp : type_of% (wp_of c52_70.eq_1) := wp_of c52_70.eq_1
@[go_sem] theorem c52_71_wp : type_of% (wp_of c52_71.eq_1) := wp_of c52_71.eq_1
@[go_sem] theorem c52_72_wp : type_of% (wp_of c52_72.eq_1) := wp_of c52_72.eq_1
@[go_sem] theorem c52_73_wp : type_of% (wp_of c52_73.eq_1) := wp_of c52_73.eq_1
@[go_sem] theorem c52_74_wp : type_of% (wp_of c52_74.eq_1) := wp_of c52_74.eq_1
@[go_sem] theorem c52_75_wp : type_of% (wp_of c52_75.eq_1) := wp_of c52_75.eq_1
@[go_sem] theorem c52_76_wp : type_of% (wp_of c52_76.eq_1) := wp_of c52_76.eq_1
@[go_sem] theorem c52_77_wp : type_of% (wp_of c52_77.eq_1) := wp_of c52_77.eq_1
@[go_sem] theorem c52_78_wp : type_of% (wp_of c52_78.eq_1) := wp_of c52_78.eq_1
@[go_sem] theorem c52_79_wp : type_of% (wp_of c52_79.eq_1) := wp_of c52_79.eq_1
@[go_sem] theorem c52_80_wp : type_of% (wp_of c52_80.eq_1) := wp_of c52_80.eq_1
@[go_sem] theorem c52_81_wp : type_of% (wp_of c52_81.eq_1) := wp_of c52_81.eq_1
@[go_sem] theorem c52_82_wp : type_of% (wp_of c52_82.eq_1) := wp_of c52_82.eq_1
@[go_sem] theorem c52_83_wp : type_of% (wp_of c52_83.eq_1) := wp_of c52_83.eq_1
@[go_sem] theorem c52_84_wp : type_of% (wp_of c52_84.eq_1) := wp_of c52_84.eq_1
@[go_sem] theorem c52_85_wp : type_of% (wp_of c52_85.eq_1) := wp_of c52_85.eq_1
@[go_sem] theorem c52_86_wp : type_of% (wp_of c52_86.eq_1) := wp_of c52_86.eq_1
@[go_sem] theorem c52_87_wp : type_of% (wp_of c52_87.eq_1) := wp_of c52_87.eq_1
@[go_sem] theorem c52_88_wp : type_of% (wp_of c52_88.eq_1) := wp_of c52_88.eq_1
@[go_sem] theorem c52_89_wp : type_of% (wp_of c52_89.eq_1) := wp_of c52_89.eq_1
@[go_sem] theorem c52_90_wp : type_of% (wp_of c52_90.eq_1) := wp_of c52_90.eq_1
@[go_sem] theorem c52_91_wp : type_of% (wp_of c52_91.eq_1) := wp_of c52_91.eq_1
@[go_sem] theorem c52_92_wp : type_of% (wp_of c52_92.eq_1) := wp_of c52_92.eq_1
@[go_sem] theorem c52_93_wp : type_of% (wp_of c52_93.eq_1) := wp_of c52_93.eq_1
@[go_sem] theorem c52_94_wp : type_of% (wp_of c52_94.eq_1) := wp_of c52_94.eq_1
@[go_sem] theorem c52_95_wp : type_of% (wp_of c52_95.eq_1) := wp_of c52_95.eq_1
@[go_sem] theorem c52_96_wp : type_of% (wp_of c52_96.eq_1) := wp_of c52_96.eq_1
@[go_sem] theorem c52_97_wp : type_of% (wp_of c52_97.eq_1) := wp_of c52_97.eq_1
@[go_sem] theorem c52_98_wp : type_of% (wp_of c52_98.eq_1) := wp_of c52_98.eq_1
@[go_sem] theorem c52_99_wp : type_of% (wp_of c52_99.eq_1) := wp_of c52_99.eq_1
@[go_sem] theorem c52_100_wp : type_of% (wp_of c52_100.eq_1) := wp_of c52_100.eq_1
@[go_sem] theorem c52_101_wp : type_of% (wp_of c52_101.eq_1) := wp_of c52_101.eq_1
@[go_sem] theorem c52_102_wp : type_of% (wp_of c52_102.eq_1) := wp_of c52_102.eq_1
@[go_sem] theorem c52_103_wp : type_of% (wp_of c52_103.eq_1) := wp_of c52_103.eq_1
@[go_sem] theorem c52_104_wp : type_of% (wp_of c52_104.eq_1) := wp_of c52_104.eq_1
def c52 : AFn := ⟨132, [.c 4 (some 12), .t 5], c52_104⟩
set_option maxRecDepth 100000 in
theorem c52_ok : compF Tryz.prog Tryz.f52 = some c52 := by kernel_rfl
theorem a52 {args : List AV} {σ : ASt} {R : AV → ASt → Prop} (hl : args.length ≤ 132) (h : c52_104.wp Tryz.prog (RetQ [.c 4 (some 12), .t 5] R) (init args) σ) : ACalls Tryz.prog 52 args σ R := acalls_of Tryz.func52 c52_ok hl h
end Go.A
namespace Go.A
open Go.Proofs Go.Lib Go.Vint
set_option maxRecDepth 100000
set_option linter.unusedSimpArgs false
set_option linter.unusedVariables false
set_option maxHeartbeats 8000000 in
theorem read_le (s : List UInt8) (hs : s.length ≤ 1000000) (b : Nat) : ∀ (k p : Nat), k ≤ 2101 → p ≤ s.length → ∀ σ : ASt, U8 σ → σ b = rd s p 0 →
    ACalls Tryz.prog 52 [.ptr b 0, .int .i64 (2101 - (k : Int))] σ fun v σ' => v = .tuple [(treeR s k p).1.av, .int .i64 (treeR s k p).2.1] ∧ σ' = σ.set b (rd s (treeR s k p).2.2.1 (treeR s k p).2.2.2)
  | 0, p, hk, hp => by
    intro σ hU hb
    obtain ⟨dp, hdp⟩ : ∃ dp : Int, 2101 - ((0 : Nat) : Int) = dp := ⟨_, rfl⟩
    rw [hdp]
    have hlt : 2100 < dp := by omega
    refine ACalls.retd (K := fun v σ' => Go.A.deep v = .tuple [zNd.av, .int .i64 12] ∧ σ' = σ) ?_ (fun v σ' h => ⟨h.1, by rw [h.2]; exact (set_self hb).symm⟩)
    refine a52 (by simp) ?_
    simp (disch := first | assumption | omega | (simp only [List.length_append, List.length_cons, List.length_nil]; omega)) only [go_sem]
    refine allocC_by fun b4 h4 => ?_
    simp (disch := first | assumption | omega | (simp only [List.length_append, List.length_cons, List.length_nil]; omega)) only [go_sem, Nat.reduceEqDiff, Nat.reduceAdd, Nat.reduceLeDiff, ↓reduceIte, Bool.true_and, hlt, ASt.set_set]
    exact retC_by (Drop.set h4) (.refl _) ⟨rfl, rfl⟩
  | k + 1, p, hk, hp => by
    intro σ hU hb
    have ih := read_le s hs b k
    obtain ⟨dp, hdp⟩ : ∃ dp : Int, 2101 - ((k + 1 : Nat) : Int) = dp := ⟨_, rfl⟩
    rw [hdp]
    have hlt : ¬ 2100 < dp := by omega
    have hd1 : dp + 1 = 2101 - (k : Int) := by omega
    obtain ⟨R, hR⟩ : ∃ R, treeR s (k + 1) p = R := ⟨_, rfl⟩
    rw [hR]
    rw [treeR] at hR
    obtain ⟨f1, f2, f3, f4⟩ := readU_facts s p 0 hp
    have h1 := fun (τ : ASt) (h : τ b = rd s p 0) => ruint_ok s p 0 b τ h (by omega) hp
    generalize readU s p 0 = RU at *
    obtain ⟨u, p1, e1⟩ := RU
    dsimp only at *
    refine ACalls.retd (K := fun v σ' => Go.A.deep v = .tuple [R.1.av, .int .i64 R.2.1] ∧ σ' = σ.set b (rd s R.2.2.1 R.2.2.2)) ?_ (fun v σ' h => h)
    obtain ⟨Q, hQ⟩ : ∃ Q, Q = RetQ [.c 4 (some 12), .t 5] fun v σ' => Go.A.deep v = .tuple [R.1.av, .int .i64 R.2.1] ∧ σ' = σ.set b (rd s R.2.2.1 R.2.2.2) := ⟨_, rfl⟩
    refine a52 (by simp) ?_
    simp (disch := first | assumption | omega | (simp only [List.length_append, List.length_cons, List.length_nil]; omega)) only [go_sem]
    refine allocC_by fun b4 h4 => ?_
    have n4 : b ≠ b4 := by rintro rfl; rw [hb] at h4; cases h4
    have hUn : ∀ x r, σ x = r → r ≠ none → x ≠ b4 := by rintro x r hx hr rfl; rw [h4] at hx; exact hr hx.symm
    have hUb : ∀ x l, σ x = some (.fix l) → x ≠ b := by rintro x l hx rfl; rw [hb] at hx; cases hx
    obtain ⟨T2, hT2⟩ : ∃ T2 : Option Role → Option Role → ASt, ∀ X Y, T2 X Y = (σ.set b X).set b4 Y := ⟨_, fun _ _ => rfl⟩
    have t2b : ∀ X Y, T2 X Y b = X := fun X Y => by rw [hT2, ASt.set_ne n4, ASt.set_same]
    have t24 : ∀ X Y, T2 X Y b4 = Y := fun X Y => by rw [hT2, ASt.set_same]
    have t2x : ∀ X Y x, x ≠ b → x ≠ b4 → T2 X Y x = σ x := fun X Y x h h' => by rw [hT2, ASt.set_ne h', ASt.set_ne h]
    have s2b : ∀ X Y X', (T2 X Y).set b X' = T2 X' Y := fun X Y X' => by rw [hT2, hT2, set_swap (Ne.symm n4), ASt.set_set]
    have s24 : ∀ X Y Y', (T2 X Y).set b4 Y' = T2 X Y' := fun X Y X' => by rw [hT2, hT2, ASt.set_set]
    have d2 : ∀ X Y, Drop (T2 X Y) (σ.set b X) := fun X Y => by rw [hT2]; exact Drop.set (by rw [ASt.set_ne (Ne.symm n4)]; exact h4)
    have U2 : ∀ X Y, U8 (T2 X Y) := fun X Y => ⟨by rw [t2x _ _ _ (hUb _ _ hU.1) (hUn _ _ hU.1 (by simp))]; exact hU.1, by rw [t2x _ _ _ (hUb _ _ hU.2) (hUn _ _ hU.2 (by simp))]; exact hU.2⟩
    have hst : ∀ Y, σ.set b4 Y = T2 (rd s p 0) Y := fun Y => by rw [hT2, set_self hb]
    rw [← hQ, hst]
    clear hT2 hst
    simp (disch := first | assumption | omega | (simp only [List.length_append, List.length_cons, List.length_nil]; omega)) only [go_sem, reduceCtorEq, Nat.reduceEqDiff, ↓reduceIte, hlt]
    refine (h1 _ (t2b _ _)).mono ?_
    rintro v σ1 ⟨rfl, rfl⟩
    rw [s2b]
    simp (disch := first | assumption | omega | (simp only [List.length_append, List.length_cons, List.length_nil]; omega)) only [go_sem, reduceCtorEq, ↓reduceIte]
    refine (rerr_ok s p1 e1 b _ (t2b _ _)).mono ?_
    rintro v σ1 ⟨rfl, rfl⟩
    by_cases he : e1 = 0
    · subst he
      rw [if_neg (by simp)] at hR
      by_cases hu : u < 1 ∨ 23 < u
      · rw [if_pos hu] at hR
        subst hR
        rw [hQ]
        by_cases hu1 : (u : Int) < 1
        · simp (disch := first | assumption | omega | (simp only [List.length_append, List.length_cons, List.length_nil]; omega)) only [go_sem, Nat.reduceEqDiff, Nat.reduceAdd, Nat.reduceLeDiff, ↓reduceIte, Bool.true_and, hu1, t24, s24]
          exact retC_by (d2 _ _) (.refl _) ⟨rfl, rfl⟩
        · have hu2 : (23 : Int) < u := by omega
          simp (disch := first | assumption | omega | (simp only [List.length_append, List.length_cons, List.length_nil]; omega)) only [go_sem, Nat.reduceEqDiff, Nat.reduceAdd, Nat.reduceLeDiff, ↓reduceIte, Bool.true_and, hu1, hu2, t24, s24]
          exact retC_by (d2 _ _) (.refl _) ⟨rfl, rfl⟩
      rw [if_neg hu] at hR
      have hu1 : ¬ (u : Int) < 1 := by omega
      have hu2 : ¬ (23 : Int) < u := by omega
      obtain ⟨op, hop⟩ : ∃ op : Int, (u : Int) = op := ⟨_, rfl⟩
      have hH := headR_facts s op p1 f2
      have hHe : headR s (u : Int) p1 = headR s op p1 := by rw [hop]
      rw [hHe, hop] at hR
      have o1 : 1 ≤ op := by omega
      have o2 : op ≤ 23 := by omega
      obtain ⟨F, hF⟩ : ∃ F, F = ACode.wp Tryz.prog c52_96 := ⟨_, rfl⟩
      have hww : IntKind.wrap .i64 op = op := by rw [IntKind.wrap_i64]; omega
      have hki := ekids_ok op
      rw [hop]
      simp (disch := first | assumption | omega | (simp only [List.length_append, List.length_cons, List.length_nil]; omega)) only [go_sem, Nat.reduceEqDiff, Nat.reduceAdd, Nat.reduceLeDiff, ↓reduceIte]
      refine allocC_by fun b7 h7 => ?_
      have n7 : b ≠ b7 := by rintro rfl; rw [t2b] at h7; simp [rd] at h7
      have n47 : b4 ≠ b7 := by rintro rfl; rw [t24] at h7; cases h7
      have t27 : ∀ X Y, T2 X Y b7 = none := fun X Y => by
        rw [t2x _ _ _ (Ne.symm n7) (Ne.symm n47)]
        rwa [t2x _ _ _ (Ne.symm n7) (Ne.symm n47)] at h7
      obtain ⟨T3, hT3⟩ : ∃ T3 : Option Role → Option Role → Option Role → ASt, ∀ X Y Z, (T2 X Y).set b7 Z = T3 X Y Z := ⟨_, fun _ _ _ => rfl⟩
      have t3b : ∀ X Y Z, T3 X Y Z b = X := fun X Y Z => by rw [← hT3, ASt.set_ne n7, t2b]
      have t34 : ∀ X Y Z, T3 X Y Z b4 = Y := fun X Y Z => by rw [← hT3, ASt.set_ne n47, t24]
      have t37 : ∀ X Y Z, T3 X Y Z b7 = Z := fun X Y Z => by rw [← hT3, ASt.set_same]
      have s3b : ∀ X Y Z X', (T3 X Y Z).set b X' = T3 X' Y Z := fun X Y Z X' => by rw [← hT3, ← hT3, set_swap (Ne.symm n7), s2b]
      have s34 : ∀ X Y Z X', (T3 X Y Z).set b4 X' = T3 X X' Z := fun X Y Z X' => by rw [← hT3, ← hT3, set_swap (Ne.symm n47), s24]
      have s37 : ∀ X Y Z X', (T3 X Y Z).set b7 X' = T3 X Y X' := fun X Y Z X' => by rw [← hT3, ← hT3, ASt.set_set]
      have d3 : ∀ X Y Z, Drop (T3 X Y Z) (σ.set b X) := fun X Y Z => by rw [← hT3]; exact (Drop.set (t27 _ _)).trans (d2 _ _)
      have U3 : ∀ X Y Z, U8 (T3 X Y Z) := fun X Y Z => by rw [← hT3]; exact (U2 X Y).set (t27 _ _)
      obtain ⟨Z12, hZ12⟩ : ∃ Z, Z = zero12 := ⟨_, rfl⟩
      have hz0 : ([.int .i64 0, .int .i64 0, .str [], .int .i64 0, .int .i64 0, .bool false, .bool false, .int .i64 0, .int .i64 0, .bool false, .bool false, .sl .full []] : List AV) = Z12 := hZ12.symm
      have fin : ∀ (n : Int) (s' : List UInt8) (a b' : Ref) (cnt : Nat) (ok : Bool) (P : Nat) (E : Int) (a1 : AFr), headR s op p1 = ⟨n, s', a, b', cnt, ok, P, E⟩ →
          (a1 0 = .ptr b 0 ∧ a1 1 = .int .i64 dp ∧ a1 4 = .ptr b4 0 ∧ a1 7 = .ptr b7 0 ∧ a1 8 = .int .i64 cnt ∧ a1 9 = .bool ok) → F Q a1 (T3 (rd s P E) (some (.obj Z12)) (some (.obj (ndV op n s' a b' (.sl .full []))))) := by
        intro n s' a b' cnt ok P E a1 hh hf
        rw [hh] at hR hH
        dsimp only at hR hH
        rw [hF]
        have hzr : (Z12.length = 12) := by rw [hZ12]; rfl
        simp (disch := first | assumption | omega | (simp only [List.length_append, List.length_cons, List.length_nil]; omega)) only [go_sem, ↓reduceIte, hf]
        refine (rerr_ok s P E b _ (t3b _ _ _)).mono ?_
        rintro v σ1 ⟨rfl, rfl⟩
        by_cases hE : E = 0
        · rw [if_neg (by simp [hE])] at hR
          subst hE
          cases ok with
          | false =>
            rw [if_pos rfl] at hR
            subst hR
            rw [hQ, hZ12]
            unfold zero12
            simp (disch := first | assumption | omega | (simp only [List.length_append, List.length_cons, List.length_nil]; omega)) only [go_sem, Nat.reduceEqDiff, Nat.reduceAdd, Nat.reduceLeDiff, ↓reduceIte, Bool.true_and, hf, t34, s34]
            exact retC_by (d3 _ _ _) (.refl _) ⟨rfl, rfl⟩
          | true =>
            rw [if_neg (by simp)] at hR
            simp (disch := first | assumption | omega | (simp only [List.length_append, List.length_cons, List.length_nil]; omega)) only [go_sem, Nat.reduceEqDiff, ↓reduceIte, hf]
            have h4z : ∀ X Y, T3 X (some (.obj Z12)) Y b4 = some (.obj Z12) := fun X Y => t34 _ _ _
            refine wp_loop_by (fun (q : List Nd × Nat) a2 s2 => (q.1.length ≤ cnt ∧ q.2 ≤ s.length ∧ kidsR (treeR s k) (fun ks => Nd.mk op n s' a b' ks) (cnt - q.1.length) q.1 q.2 = R) ∧
                (a2 0 = .ptr b 0 ∧ a2 1 = .int .i64 dp ∧ a2 4 = .ptr b4 0 ∧ a2 7 = .ptr b7 0 ∧ a2 110 = .int .i64 cnt ∧ a2 111 = .int .i64 q.1.length) ∧
                ∃ v, OwnSl (T3 (rd s q.2 0) (some (.obj Z12)) (some (.obj (ndV op n s' a b' v)))) s2 v (q.1.map Nd.av) 12) (fun q => cnt - q.1.length) ([], P) (Dr.now ⟨⟨Nat.zero_le _, hH.1, by simpa using hR⟩, ?_, .sl .full [], .inl ⟨rfl, rfl, rfl⟩⟩) ?_
            · simp only [List.length_nil]
              simp (disch := first | assumption | omega | (simp only [List.length_append, List.length_cons, List.length_nil]; omega)) only [go_sem, reduceCtorEq, Nat.reduceEqDiff, ↓reduceIte, hf]
            rintro ⟨D, pp⟩ a2 s2 ⟨⟨g1, g2, g3⟩, hf2, v, hO⟩
            dsimp only at g1 g2 g3 hf2 hO
            have hbb : s2 b = rd s pp 0 := hO.at (x := b) (t3b _ _ _)
            have hb7 := hO.at (x := b7) (t37 _ _ _)
            have hb4 := hO.at (x := b4) (t34 _ _ _)
            have hDm : (D.map Nd.av).length = D.length := by simp
            have hlD : ∀ y ∈ D.map Nd.av, y.cells.length = 12 := by
              intro y hy
              obtain ⟨z, _, rfl⟩ := List.mem_map.1 hy
              exact Nd.av_len z
            by_cases hdl : D.length < cnt
            · have hdl' : (D.length : Int) < cnt := by omega
              have hU3 := U3 (rd s pp 0) (some (.obj Z12)) (some (.obj (ndV op n s' a b' v)))
              have hcall := ih pp (by omega) g2 s2 ⟨hO.at hU3.1, hO.at hU3.2⟩ hbb
              have hfacts := treeR_facts s k pp g2
              rw [show cnt - D.length = (cnt - (D.length + 1)) + 1 by omega, kidsR] at g3
              rw [← hd1] at hcall
              obtain ⟨x, hxx⟩ : ∃ x, (treeR s k pp).1 = x := ⟨_, rfl⟩
              obtain ⟨e', hee⟩ : ∃ x, (treeR s k pp).2.1 = x := ⟨_, rfl⟩
              obtain ⟨pp', hpp⟩ : ∃ x, (treeR s k pp).2.2.1 = x := ⟨_, rfl⟩
              obtain ⟨er, her⟩ : ∃ x, (treeR s k pp).2.2.2 = x := ⟨_, rfl⟩
              rw [hxx, hee, hpp, her] at hcall
              rw [hee, hpp, her] at hfacts
              rw [hxx, hee, hpp, her] at g3
              have hO1 := hO.put (t3b (rd s pp 0) (some (.obj Z12)) (some (.obj (ndV op n s' a b' v))) : _ = some _) (rd s pp' er)
              rw [s3b] at hO1
              have hDx : ((D ++ [x]).map Nd.av) = D.map Nd.av ++ [x.av] := by simp
              have hDl : (D ++ [x]).length = D.length + 1 := by simp
              obtain ⟨xo, xm, xs, xa, xb, xk⟩ := x
              rw [Nd.av_cs] at hcall hDx
              generalize hXK : xk.map Nd.av = XK at *
              simp (disch := first | assumption | omega | (simp only [List.length_append, List.length_cons, List.length_nil]; omega)) only [go_sem, reduceCtorEq, Nat.reduceEqDiff, ↓reduceIte, hf2, hdl']
              refine hcall.mono ?_
              rintro w σ1 ⟨rfl, rfl⟩
              have hb71 := hO1.at (x := b7) (t37 _ _ _)
              have hb41 := hO1.at (x := b4) (t34 _ _ _)
              generalize hs3 : s2.set b (rd s pp' er) = s3 at *
              simp (disch := first | assumption | omega | (simp only [List.length_append, List.length_cons, List.length_nil]; omega)) only [go_sem, Nat.reduceEqDiff, ↓reduceIte]
              refine allocC_by fun e he => ?_
              have he7 : b7 ≠ e := by rintro rfl; rw [hb71] at he; cases he
              have he4 : b4 ≠ e := by rintro rfl; rw [hb41] at he; cases he
              by_cases h0 : e' = 0
              · subst h0
                have her0 := hfacts.2 rfl
                subst her0
                rw [if_neg (by simp)] at g3
                have he0 : T3 (rd s pp' 0) (some (.obj Z12)) (some (.obj (ndV op n s' a b' v))) e = none := hO1.fresh he
                have hOe := hO1.add (r := some (.obj (Nd.cs xo xm xs xa xb XK))) he
                have hb7e : (s3.set e (some (.obj (Nd.cs xo xm xs xa xb XK)))) b7 = some (.obj (ndV op n s' a b' v)) := by rw [ASt.set_ne he7]; exact hb71
                simp (disch := first | assumption | omega | (simp only [List.length_append, List.length_cons, List.length_nil]; omega)) only [go_sem, Nat.reduceEqDiff, Nat.reduceAdd, Nat.reduceLeDiff, ↓reduceIte, Bool.true_and, hf2, hb7e, ASt.set_set]
                refine OwnSl.app hOe hlD rfl rfl (by rw [hDm]; simp only [List.length_cons, List.length_nil]; omega) (by rw [hDm]; simp only [List.length_cons, List.length_nil]; omega) (by simp) fun v' σ' ⟨σ2, hd, hO2⟩ => ?_
                have h70 : ((T3 (rd s pp' 0) (some (.obj Z12)) (some (.obj (ndV op n s' a b' v)))).set e (some (.obj (Nd.cs xo xm xs xa xb XK)))) b7 = some (.obj (ndV op n s' a b' v)) := by rw [ASt.set_ne he7, t37]
                have hb7' := hd.had (hO2.at h70)
                have hO3 := hO2.put h70 (some (.obj (ndV op n s' a b' v')))
                rw [set_swap (Ne.symm he7), s37] at hO3
                have he0' : T3 (rd s pp' 0) (some (.obj Z12)) (some (.obj (ndV op n s' a b' v'))) e = none := by
                  rw [← s37 _ _ (some (.obj (ndV op n s' a b' v))), ASt.set_ne (Ne.symm he7)]; exact he0
                obtain ⟨σ5, hd5, hO5⟩ := hO3.less he0'
                have hvl := hO2.leaf
                have hvc := hvl.2
                have hvv : leaves [v'] = true := by rw [leaf1]; exact hvl.1
                have hD5 : Drop (σ'.set b7 (some (.obj (ndV op n s' a b' v')))) σ5 := hd.set_cong.trans hd5
                simp (disch := first | assumption | omega | (simp only [List.length_append, List.length_cons, List.length_nil]; omega)) only [go_sem, Nat.reduceEqDiff, Nat.reduceAdd, Nat.reduceLeDiff, ↓reduceIte, hf2, hb7', hvc, hvv]
                refine ⟨(D ++ [Nd.mk xo xm xs xa xb xk], pp'), by dsimp only; rw [hDl]; omega, Dr.drop hD5 ⟨⟨by dsimp only; omega, hfacts.1, ?_⟩, ?_, v', ?_⟩⟩
                · dsimp only; rw [hDl]; exact g3
                · dsimp only
                  rw [hDl]
                  simp (disch := first | assumption | omega | (simp only [List.length_append, List.length_cons, List.length_nil]; omega)) only [go_sem, reduceCtorEq, Nat.reduceEqDiff, ↓reduceIte, hf2]
                · dsimp only
                  rw [hDx]; exact hO5
              · rw [if_pos h0] at g3
                subst g3
                have hb4e : (s3.set e (some (.obj (Nd.cs xo xm xs xa xb XK)))) b4 = some (.obj Z12) := by rw [ASt.set_ne he4]; exact hb41
                have hO4 := hO1.put (t34 _ _ _) (some (.obj Z12))
                rw [s34] at hO4
                have hfin : ∀ X : Option Role, Drop ((s3.set e X).set b4 (some (.obj Z12))) (σ.set b (rd s pp' er)) := fun X => by
                  rw [set_swap (Ne.symm he4)]
                  exact ((Drop.set (by rw [ASt.set_ne (Ne.symm he4)]; exact he)).trans hO4.drop).trans (d3 _ _ _)
                have hs4 : ∀ X : Option Role, ((s3.set e X).set b4 (some (.obj Z12))) b4 = some (.obj Z12) := fun X => ASt.set_same _ _ _
                rw [hZ12] at hb4e hfin
                unfold zero12 at hb4e hfin
                rw [hQ]
                simp (disch := first | assumption | omega | (simp only [List.length_append, List.length_cons, List.length_nil]; omega)) only [go_sem, Nat.reduceEqDiff, Nat.reduceAdd, Nat.reduceLeDiff, ↓reduceIte, Bool.true_and, hf2, hb4e, h0, ASt.set_set]
                exact retC_by (hfin _) (.refl _) ⟨rfl, rfl⟩
            · have hdl' : ¬ (D.length : Int) < cnt := by omega
              rw [show cnt - D.length = 0 by omega, kidsR] at g3
              subst g3
              have hnl := nv_leaves (o := op) (m := n) (s := s') (a := a) (b := b') hO.leaf.1
              have hO2 := hO.put (t34 _ _ _) (some (.obj (ndV op n s' a b' v)))
              rw [s34] at hO2
              have hDz := d3 (rd s pp 0) (some (.obj (ndV op n s' a b' v))) (some (.obj (ndV op n s' a b' v)))
              have hz := hO2.fz hlD (fun x hx => hDz.nil hx)
              rw [hZ12] at hb4
              unfold zero12 at hb4
              rw [hQ]
              have hdv : Go.A.deep (.tuple [.agg (ndV op n s' a b' (.sl .shr (D.map Nd.av))), .int .i64 0]) = .tuple [(Nd.mk op n s' a b' D).av, .int .i64 0] := by
                rw [Nd.av_cs]
                show AV.tuple [.agg (Nd.cs op n s' a b' (Go.A.deeps (D.map Nd.av))), .int .i64 0] = _
                rw [deeps_map]
              simp (disch := first | assumption | omega | (simp only [List.length_append, List.length_cons, List.length_nil]; omega)) only [go_sem, Nat.reduceEqDiff, Nat.reduceAdd, Nat.reduceLeDiff, ↓reduceIte, hf2, hdl', hb7, hb4, hnl]
              refine retC_by (r := .tuple [.agg (ndV op n s' a b' (.sl .shr (D.map Nd.av))), .int .i64 0]) (hO2.drop.trans hDz) ?_ ⟨hdv, rfl⟩
              exact .tuple (.cons (.agg (.cons (.refl _) (.cons (.refl _) (.cons (.refl _) (.cons (.refl _) (.cons (.refl _) (.cons (.refl _) (.cons (.refl _) (.cons (.refl _) (.cons (.refl _) (.cons (.refl _) (.cons (.refl _) (.cons hz .nil))))))))))))) (.cons (.refl _) .nil))
        · rw [if_pos hE] at hR
          subst hR
          simp (disch := first | assumption | omega | (simp only [List.length_append, List.length_cons, List.length_nil]; omega)) only [go_sem, reduceCtorEq, ↓reduceIte, hf, hE]
          refine (rerr_ok s P E b _ (t3b _ _ _)).mono ?_
          rintro v σ1 ⟨rfl, rfl⟩
          rw [hQ, hZ12]
          unfold zero12
          simp (disch := first | assumption | omega | (simp only [List.length_append, List.length_cons, List.length_nil]; omega)) only [go_sem, Nat.reduceEqDiff, Nat.reduceAdd, Nat.reduceLeDiff, ↓reduceIte, Bool.true_and, hf, t34, s34]
          exact retC_by (d3 _ _ _) (.refl _) ⟨rfl, rfl⟩
      obtain ⟨B, hB⟩ : ∃ B, B = ACode.wp Tryz.prog c52_97 := ⟨_, rfl⟩
      have brs : ∀ (a1 : AFr), (a1 0 = .ptr b 0 ∧ a1 1 = .int .i64 dp ∧ a1 4 = .ptr b4 0 ∧ a1 7 = .ptr b7 0 ∧ a1 8 = .int .i64 (arity op : Nat) ∧ a1 9 = .bool true) →
          B Q a1 (T3 (rd s p1 0) (some (.obj Z12)) (some (.obj [.int .i64 op, .int .i64 0, .str [], .int .i64 0, .int .i64 0, .bool false, .bool false, .int .i64 0, .int .i64 0, .bool false, .bool false, .sl .full []]))) := by
        intro a1 hf
        rw [hB]
        clear hB hQ ih
        have hs2 : s.length ≤ 4611686018427387904 := by omega
        have e2000 : ((2000 : Nat) : Int) = 2000 := rfl
        by_cases h134 : op = 1 ∨ op = 3 ∨ op = 4
        · have hh : headR s op p1 = ⟨unfI (readU s p1 0).1, [], .zero, .zero, 0, valueP op (unfI (readU s p1 0).1), (readU s p1 0).2.1, (readU s p1 0).2.2⟩ := if_pos h134
          have ha : arity op = 0 := by unfold arity; rw [if_neg (by omega), if_neg (by omega)]
          rw [ha] at hf
          have hI := fun τ h => rint_ok s p1 0 b τ h hs2 f2
          obtain ⟨w1, _⟩ := readU_facts s p1 0 f2
          generalize readU s p1 0 = V at *
          obtain ⟨v, P, E⟩ := V
          dsimp only at hh hI w1
          have hv : -9223372036854775808 ≤ unfI v ∧ unfI v ≤ 9223372036854775807 := by unfold unfI; split <;> omega
          generalize unfI v = n at *
          have hV := evalue_ok op n [] .zero .zero [] hv.1 hv.2
          generalize valueP op n = ok at *
          rcases h134 with h1 | h1 | h1
          all_goals
            simp (disch := first | assumption | omega | (simp only [List.length_append, List.length_cons, List.length_nil]; omega)) only [go_sem, reduceCtorEq, Nat.reduceEqDiff, Int.reduceEq, ↓reduceIte, hf, h1, t37, ←hF]
            refine (hI _ (t3b _ _ _)).mono ?_
            rintro w σ1 ⟨rfl, rfl⟩
            rw [s3b]
            simp (disch := first | assumption | omega | (simp only [List.length_append, List.length_cons, List.length_nil]; omega)) only [go_sem, Nat.reduceEqDiff, Nat.reduceAdd, Nat.reduceLeDiff, ↓reduceIte, Bool.true_and, hf, t37, s37]
            refine ACalls.deep (args' := [(Nd.mk op n [] .zero .zero []).av]) (by rw [Nd.av_cs]; subst h1; rfl) (hV.use ?_)
            simp (disch := first | assumption | omega | (simp only [List.length_append, List.length_cons, List.length_nil]; omega)) only [go_sem, ↓reduceIte]
            first | (refine fin n [] .zero .zero 0 ok P E _ hh ?_) | (subst h1; refine fin n [] .zero .zero 0 ok P E _ hh ?_)
            simp (disch := first | assumption | omega | (simp only [List.length_append, List.length_cons, List.length_nil]; omega)) only [go_sem, reduceCtorEq, Nat.reduceEqDiff, ↓reduceIte, hf]
        have g1 : op ≠ 1 := by omega
        have g3 : op ≠ 3 := by omega
        have g4 : op ≠ 4 := by omega
        by_cases h2 : op = 2
        · have hh : headR s op p1 = ⟨0, (rtxP s p1 0 2000).1, .zero, .zero, 0, (sgT (rtxP s p1 0 2000).1).isSome, (rtxP s p1 0 2000).2.1, (rtxP s p1 0 2000).2.2⟩ := by unfold headR; rw [if_neg h134, if_pos h2]
          have ha : arity op = 0 := by unfold arity; rw [if_neg (by omega), if_neg (by omega)]
          rw [ha] at hf
          have hI := fun τ h => rtext_ok s p1 0 2000 b τ h hs2 f2 (by omega)
          obtain ⟨w1, w2⟩ := rtxP_facts s p1 2000 f2
          rw [e2000] at hI
          generalize rtxP s p1 0 2000 = V at *
          obtain ⟨t, P, E⟩ := V
          dsimp only at hh hI w1 w2
          have hS := fun τ h => tsigns_ok (σ := τ) h t (by omega)
          subst h2
          simp (disch := first | assumption | omega | (simp only [List.length_append, List.length_cons, List.length_nil]; omega)) only [go_sem, reduceCtorEq, Nat.reduceEqDiff, Int.reduceEq, ↓reduceIte, hf, t37, ←hF]
          refine (hI _ (t3b _ _ _)).mono ?_
          rintro w σ1 ⟨rfl, rfl⟩
          rw [s3b]
          simp (disch := first | assumption | omega | (simp only [List.length_append, List.length_cons, List.length_nil]; omega)) only [go_sem, Nat.reduceEqDiff, Nat.reduceAdd, Nat.reduceLeDiff, ↓reduceIte, Bool.true_and, hf, t37, s37]
          refine (hS _ (U3 _ _ _)).mono ?_
          rintro w σ1 ⟨rfl, rfl⟩
          unfold sgAV
          cases hsg : sgT t with
          | some m =>
            rw [hsg] at hh
            dsimp only
            simp (disch := first | assumption | omega | (simp only [List.length_append, List.length_cons, List.length_nil]; omega)) only [go_sem, Nat.reduceEqDiff, ↓reduceIte]
            refine fin 0 t .zero .zero 0 true P E _ hh ?_
            simp (disch := first | assumption | omega | (simp only [List.length_append, List.length_cons, List.length_nil]; omega)) only [go_sem, reduceCtorEq, Nat.reduceEqDiff, ↓reduceIte, hf]
          | none =>
            rw [hsg] at hh
            dsimp only
            simp (disch := first | assumption | omega | (simp only [List.length_append, List.length_cons, List.length_nil]; omega)) only [go_sem, Nat.reduceEqDiff, ↓reduceIte]
            refine fin 0 t .zero .zero 0 false P E _ hh ?_
            simp (disch := first | assumption | omega | (simp only [List.length_append, List.length_cons, List.length_nil]; omega)) only [go_sem, reduceCtorEq, Nat.reduceEqDiff, ↓reduceIte, hf]
        by_cases h5 : op = 5
        · have hh : headR s op p1 = ⟨0, [], (refR s p1 0).1.1, .zero, 0, (refR s p1 0).1.2, (refR s p1 0).2.1, (refR s p1 0).2.2⟩ := by unfold headR; rw [if_neg h134, if_neg h2, if_pos h5]
          have ha : arity op = 0 := by unfold arity; rw [if_neg (by omega), if_neg (by omega)]
          rw [ha] at hf
          have hI := fun τ h => getref_ok s p1 0 b τ h hs f2
          generalize refR s p1 0 = V at *
          obtain ⟨⟨r, ok⟩, P, E⟩ := V
          dsimp only at hh hI
          unfold refAV at hI
          subst h5
          simp (disch := first | assumption | omega | (simp only [List.length_append, List.length_cons, List.length_nil]; omega)) only [go_sem, reduceCtorEq, Nat.reduceEqDiff, Int.reduceEq, ↓reduceIte, hf, t37, ←hF]
          refine (hI _ (t3b _ _ _)).mono ?_
          rintro w σ1 ⟨rfl, rfl⟩
          rw [s3b]
          simp (disch := first | assumption | omega | (simp only [List.length_append, List.length_cons, List.length_nil]; omega)) only [go_sem, Nat.reduceEqDiff, Nat.reduceAdd, Nat.reduceLeDiff, ↓reduceIte, Bool.true_and, hf, t37, s37]
          refine fin 0 [] r .zero 0 ok P E _ hh ?_
          simp (disch := first | assumption | omega | (simp only [List.length_append, List.length_cons, List.length_nil]; omega)) only [go_sem, reduceCtorEq, Nat.reduceEqDiff, ↓reduceIte, hf]
        by_cases h6 : op = 6
        · have hh : headR s op p1 = ⟨0, [], (refR s p1 0).1.1, (refR s (refR s p1 0).2.1 (refR s p1 0).2.2).1.1, 0, (refR s (refR s p1 0).2.1 (refR s p1 0).2.2).1.2 && (refR s p1 0).1.2, (refR s (refR s p1 0).2.1 (refR s p1 0).2.2).2.1, (refR s (refR s p1 0).2.1 (refR s p1 0).2.2).2.2⟩ := by
            unfold headR; rw [if_neg h134, if_neg h2, if_neg h5, if_pos h6]
          have ha : arity op = 0 := by unfold arity; rw [if_neg (by omega), if_neg (by omega)]
          rw [ha] at hf
          have hI := fun τ h => getref_ok s p1 0 b τ h hs f2
          have r1 := refR_facts s p1 0 f2
          generalize refR s p1 0 = V at *
          obtain ⟨⟨r, ok⟩, P, E⟩ := V
          dsimp only at hh hI r1
          have hJ := fun τ h => getref_ok s P E b τ h hs r1
          generalize refR s P E = V at *
          obtain ⟨⟨r', ok'⟩, P', E'⟩ := V
          dsimp only at hh hJ
          unfold refAV at hI hJ
          subst h6
          simp (disch := first | assumption | omega | (simp only [List.length_append, List.length_cons, List.length_nil]; omega)) only [go_sem, reduceCtorEq, Nat.reduceEqDiff, Int.reduceEq, ↓reduceIte, hf, t37, ←hF]
          refine (hI _ (t3b _ _ _)).mono ?_
          rintro w σ1 ⟨rfl, rfl⟩
          rw [s3b]
          simp (disch := first | assumption | omega | (simp only [List.length_append, List.length_cons, List.length_nil]; omega)) only [go_sem, reduceCtorEq, Nat.reduceEqDiff, Nat.reduceAdd, Nat.reduceLeDiff, ↓reduceIte, Bool.true_and, hf, t37, s37]
          refine (hJ _ (t3b _ _ _)).mono ?_
          rintro w σ1 ⟨rfl, rfl⟩
          rw [s3b]
          cases ok'
          all_goals
            simp (disch := first | assumption | omega | (simp only [List.length_append, List.length_cons, List.length_nil]; omega)) only [go_sem, Nat.reduceEqDiff, Nat.reduceAdd, Nat.reduceLeDiff, ↓reduceIte, Bool.true_and, hf, t37, s37]
            refine fin 0 [] r r' 0 _ P' E' _ hh ?_
            simp (disch := first | assumption | omega | (simp only [List.length_append, List.length_cons, List.length_nil]; omega)) only [go_sem, reduceCtorEq, Nat.reduceEqDiff, ↓reduceIte, Bool.true_and, Bool.false_and, hf]
        by_cases h22 : op = 22
        · have hh : headR s op p1 = ⟨0, (rtxP s p1 0 2000).1, .zero, .zero, min (readU s (rtxP s p1 0 2000).2.1 (rtxP s p1 0 2000).2.2).1 2001, nameOkP (rtxP s p1 0 2000).1 && decide (min (readU s (rtxP s p1 0 2000).2.1 (rtxP s p1 0 2000).2.2).1 2001 ≤ 2000),
              (readU s (rtxP s p1 0 2000).2.1 (rtxP s p1 0 2000).2.2).2.1, (readU s (rtxP s p1 0 2000).2.1 (rtxP s p1 0 2000).2.2).2.2⟩ := by
            unfold headR; rw [if_neg h134, if_neg h2, if_neg h5, if_neg h6, if_pos h22]
          have hI := fun τ h => rtext_ok s p1 0 2000 b τ h hs2 f2 (by omega)
          obtain ⟨w1, w2⟩ := rtxP_facts s p1 2000 f2
          rw [e2000] at hI
          generalize rtxP s p1 0 2000 = V at *
          obtain ⟨t, P, E⟩ := V
          dsimp only at hh hI w1 w2
          have hS := fun τ h => ename_ok (σ := τ) h t (by omega)
          have hJ := fun τ h => ruint_ok s P E b τ h hs2 w1
          obtain ⟨w3, _⟩ := readU_facts s P E w1
          generalize readU s P E = V at *
          obtain ⟨c, P', E'⟩ := V
          dsimp only at hh hJ w3
          have hmn : min (c : Int) 2001 = ((min c 2001 : Nat) : Int) := by omega
          generalize hc : min c 2001 = cnt at *
          have hcw : IntKind.wrap .i64 (cnt : Int) = cnt := by rw [IntKind.wrap_i64]; omega
          have hdc : decide ((cnt : Int) ≤ 2000) = decide (cnt ≤ 2000) := decide_eq_decide.2 (by omega)
          subst h22
          simp (disch := first | assumption | omega | (simp only [List.length_append, List.length_cons, List.length_nil]; omega)) only [go_sem, reduceCtorEq, Nat.reduceEqDiff, Int.reduceEq, ↓reduceIte, hf, t37, ←hF]
          refine (hI _ (t3b _ _ _)).mono ?_
          rintro w σ1 ⟨rfl, rfl⟩
          rw [s3b]
          simp (disch := first | assumption | omega | (simp only [List.length_append, List.length_cons, List.length_nil]; omega)) only [go_sem, reduceCtorEq, Nat.reduceEqDiff, Nat.reduceAdd, Nat.reduceLeDiff, ↓reduceIte, Bool.true_and, hf, t37, s37]
          refine (hJ _ (t3b _ _ _)).mono ?_
          rintro w σ1 ⟨rfl, rfl⟩
          rw [s3b]
          simp (disch := first | assumption | omega | (simp only [List.length_append, List.length_cons, List.length_nil]; omega)) only [go_sem, Nat.reduceEqDiff, ↓reduceIte, hf, t37, hmn]
          refine (hS _ (U3 _ _ _)).mono ?_
          rintro w σ1 ⟨rfl, rfl⟩
          cases hno : nameOkP t with
          | false =>
            rw [hno] at hh
            simp (disch := first | assumption | omega | (simp only [List.length_append, List.length_cons, List.length_nil]; omega)) only [go_sem, Nat.reduceEqDiff, ↓reduceIte]
            refine fin 0 t .zero .zero cnt false P' E' _ hh ?_
            simp (disch := first | assumption | omega | (simp only [List.length_append, List.length_cons, List.length_nil]; omega)) only [go_sem, reduceCtorEq, Nat.reduceEqDiff, ↓reduceIte, hf]
          | true =>
            rw [hno, Bool.true_and] at hh
            simp (disch := first | assumption | omega | (simp only [List.length_append, List.length_cons, List.length_nil]; omega)) only [go_sem, Nat.reduceEqDiff, ↓reduceIte, hdc]
            refine fin 0 t .zero .zero cnt (decide (cnt ≤ 2000)) P' E' _ hh ?_
            simp (disch := first | assumption | omega | (simp only [List.length_append, List.length_cons, List.length_nil]; omega)) only [go_sem, reduceCtorEq, Nat.reduceEqDiff, ↓reduceIte, hf]
        have hh : headR s op p1 = ⟨0, [], .zero, .zero, arity op, true, p1, 0⟩ := by unfold headR; rw [if_neg h134, if_neg h2, if_neg h5, if_neg h6, if_neg h22]
        simp (disch := first | assumption | omega | (simp only [List.length_append, List.length_cons, List.length_nil]; omega)) only [go_sem, Nat.reduceEqDiff, ↓reduceIte, hf, g1, g3, g4, h2, h5, h6, h22, t37, ←hF]
        refine fin 0 [] .zero .zero (arity op) true p1 0 _ hh ?_
        simp (disch := first | assumption | omega | (simp only [List.length_append, List.length_cons, List.length_nil]; omega)) only [go_sem, reduceCtorEq, Nat.reduceEqDiff, ↓reduceIte, hf]
      clear fin
      rw [hZ12] at brs
      unfold zero12 at brs
      simp (disch := first | assumption | omega | (simp only [List.length_append, List.length_cons, List.length_nil]; omega)) only [go_sem, Nat.reduceEqDiff, Nat.reduceAdd, Nat.reduceLeDiff, ↓reduceIte, Bool.true_and, hT3, s37, t37, ←hB]
      refine hki.use ?_
      simp (disch := first | assumption | omega | (simp only [List.length_append, List.length_cons, List.length_nil]; omega)) only [go_sem, ↓reduceIte]
      refine brs _ ?_
      simp (disch := first | assumption | omega | (simp only [List.length_append, List.length_cons, List.length_nil]; omega)) only [go_sem, reduceCtorEq, Nat.reduceEqDiff, ↓reduceIte]
    · rw [if_pos he] at hR
      subst hR
      simp (disch := first | assumption | omega | (simp only [List.length_append, List.length_cons, List.length_nil]; omega)) only [go_sem, reduceCtorEq, ↓reduceIte, he]
      refine (rerr_ok s p1 e1 b _ (t2b _ _)).mono ?_
      rintro v σ1 ⟨rfl, rfl⟩
      rw [hQ]
      simp (disch := first | assumption | omega | (simp only [List.length_append, List.length_cons, List.length_nil]; omega)) only [go_sem, Nat.reduceEqDiff, Nat.reduceAdd, Nat.reduceLeDiff, ↓reduceIte, Bool.true_and, t24, s24]
      exact retC_by (d2 _ _) (.refl _) ⟨rfl, rfl⟩
end Go.A
namespace Go.A
open Go.Proofs Go.Lib Go.Vint
set_option maxRecDepth 100000
set_option linter.unusedSimpArgs false
set_option linter.unusedVariables false
theorem arity_0 {op : Int} (h : op = 1 ∨ op = 2 ∨ op = 3 ∨ op = 4 ∨ op = 5 ∨ op = 6) : arity op = 0 := by
  unfold arity
  rw [if_neg (by omega), if_neg (by omega)]
theorem drop_len {s l r : List UInt8} {p : Nat} (h : s.drop p = l ++ r) : s.length - p = l.length + r.length := by
  have := congrArg List.length h
  rwa [List.length_drop, List.length_append] at this
theorem rtx_back {s t r : List UInt8} {p most : Nat} (h : s.drop p = textB t ++ r) (ht : t.length ≤ most) (hm : most ≤ 1000000) : rtxP s p 0 most = (t, p + (textB t).length, 0) := by
  unfold textB at h ⊢
  rw [List.append_assoc] at h
  have hU := readU_uint h (by omega)
  have hd := drop_app h
  have hl := drop_len h
  rw [List.length_append] at hl
  have hp := uintB_pos t.length
  unfold rtxP
  rw [hU]
  dsimp only
  rw [if_neg (by simp), if_neg (by omega), if_neg (by omega), hd, List.take_left, List.length_append, Nat.add_assoc]
theorem ref_back {s q : List UInt8} {r : Ref} {p : Nat} (h : s.drop p = rfB r ++ q) (hr : r.good = true) : refR s p 0 = ((r, true), p + (rfB r).length, 0) := by
  obtain ⟨r1, r2, r3, r4⟩ := good_bd hr
  obtain ⟨row, col, ar, ac⟩ := r
  dsimp only at r1 r2 r3 r4
  obtain ⟨w, hw⟩ : ∃ w, absN ⟨row, col, ar, ac⟩ + 4 * row.toNat = w := ⟨_, rfl⟩
  have hw3 : absN ⟨row, col, ar, ac⟩ ≤ 3 := by unfold absN; split <;> split <;> omega
  unfold rfB at h ⊢
  rw [hw] at h ⊢
  dsimp only at h ⊢
  rw [List.append_assoc] at h
  have hU := readU_uint h (by omega)
  have hd := drop_app h
  have hV := readU_uint hd (by omega)
  unfold refR
  rw [hU]
  dsimp only
  rw [hV]
  dsimp only
  rw [if_neg (by omega), List.length_append, Nat.add_assoc]
  have e1 : ((w / 4 : Nat) : Int) = row := by omega
  have e2 : ((col.toNat : Nat) : Int) = col := by omega
  have e3 : decide (w % 2 = 1) = ar := by
    unfold absN at hw
    cases ar <;> cases ac <;> simp only [Bool.false_eq_true, if_false, if_true] at hw <;> simp <;> omega
  have e4 : decide (w / 2 % 2 = 1) = ac := by
    unfold absN at hw
    cases ar <;> cases ac <;> simp only [Bool.false_eq_true, if_false, if_true] at hw <;> simp <;> omega
  rw [e1, e2, e3, e4]
theorem value_back {op n : Int} {s : List UInt8} {a b : Ref} {k : Nat} (h : GdN op n s a b k) (h1 : op = 1 ∨ op = 3 ∨ op = 4) : valueP op n = true := by
  have n1 := h.n1
  have n3 := h.n3
  have n4 := h.n4
  unfold valueP
  by_cases c3 : op = 3
  · rw [if_pos c3]
    have := n3 c3
    simpa using this
  rw [if_neg c3]
  by_cases c4 : op = 4
  · rw [if_pos c4]
    obtain ⟨m1, m2, m3⟩ := n4 c4
    have hm := Int.mul_tdiv_add_tmod n 10000
    have hf : failT 4 n ≠ [] := by
      unfold failT
      rw [if_neg (by omega)]
      have hc : n.tdiv 10000 = 1 ∨ n.tdiv 10000 = 2 ∨ n.tdiv 10000 = 3 ∨ n.tdiv 10000 = 4 ∨ n.tdiv 10000 = 5 ∨ n.tdiv 10000 = 6 ∨ n.tdiv 10000 = 7 := by omega
      rcases hc with hc | hc | hc | hc | hc | hc | hc <;> (rw [hc]; decide)
    simp [m1, hf]
  rw [if_neg c4]
  have := n1 (by omega)
  simp; omega
theorem head_back {s r : List UInt8} {op n : Int} {s' : List UInt8} {a b : Ref} {k p : Nat} (hg : GdN op n s' a b k) (h : s.drop p = restB op n s' a b k ++ r) : headR s op p = ⟨n, s', a, b, k, true, p + (restB op n s' a b k).length, 0⟩ := by
  have hn := hg.num
  unfold headR
  unfold restB at h ⊢
  by_cases c1 : op = 1 ∨ op = 3 ∨ op = 4
  · rw [if_pos c1] at h ⊢
    rw [if_pos c1]
    have hfb := foldI_bd (n := n) (by omega) (by omega)
    rw [readU_uint h (by omega)]
    dsimp only
    rw [unf_fold (by omega) (by omega), value_back hg c1, hg.s0 (by omega) (by omega), hg.a0 (by omega) (by omega), hg.b0 (by omega), hg.ar (by omega), arity_0 (by omega)]
  rw [if_neg c1] at h ⊢
  rw [if_neg c1]
  by_cases c2 : op = 2
  · rw [if_pos c2] at h ⊢
    rw [if_pos c2, rtx_back h (hg.s2 c2).1 (by omega)]
    dsimp only
    rw [(hg.s2 c2).2, hg.n0 (by omega) (by omega) (by omega), hg.a0 (by omega) (by omega), hg.b0 (by omega), hg.ar (by omega), arity_0 (by omega)]
  rw [if_neg c2] at h ⊢
  rw [if_neg c2]
  by_cases c5 : op = 5
  · rw [if_pos c5] at h ⊢
    rw [if_pos c5, ref_back h (hg.ga (.inl c5))]
    dsimp only
    rw [hg.n0 (by omega) (by omega) (by omega), hg.s0 (by omega) (by omega), hg.b0 (by omega), hg.ar (by omega), arity_0 (by omega)]
  rw [if_neg c5] at h ⊢
  rw [if_neg c5]
  by_cases c6 : op = 6
  · rw [if_pos c6] at h ⊢
    rw [List.append_assoc] at h
    rw [if_pos c6, ref_back h (hg.ga (.inr c6))]
    dsimp only
    rw [ref_back (drop_app h) (hg.gb c6)]
    dsimp only
    rw [hg.n0 (by omega) (by omega) (by omega), hg.s0 (by omega) (by omega), hg.ar (by omega), arity_0 (by omega), List.length_append, Nat.add_assoc]
    rfl
  rw [if_neg c6] at h ⊢
  rw [if_neg c6]
  by_cases c22 : op = 22
  · rw [if_pos c22] at h ⊢
    obtain ⟨g1, g2, g3⟩ := hg.s22 c22
    rw [List.append_assoc] at h
    rw [if_pos c22, rtx_back h g1 (by omega)]
    dsimp only
    rw [readU_uint (drop_app h) (by omega)]
    dsimp only
    have hmn : min k 2001 = k := by omega
    rw [hmn, g2, decide_eq_true g3, hg.n0 (by omega) (by omega) (by omega), hg.a0 (by omega) (by omega), hg.b0 (by omega), List.length_append, Nat.add_assoc]
    rfl
  rw [if_neg c22]
  rw [if_neg c22]
  rw [hg.n0 (by omega) (by omega) (by omega), hg.s0 c2 c22, hg.a0 c5 c6, hg.b0 c6, ← hg.ar c22]
  rfl
theorem kids_back {s : List UInt8} {g : Nat → Nd × Int × Nat × Int} (mk : List Nd → Nd) : ∀ (ks D : List Nd) (p : Nat) (r : List UInt8), (∀ x ∈ ks, ∀ p r, s.drop p = x.bytes ++ r → g p = (x, 0, p + x.bytes.length, 0)) →
    s.drop p = Nd.bytess ks ++ r → kidsR g mk ks.length D p = (mk (D ++ ks), 0, p + (Nd.bytess ks).length, 0)
  | [], D, p, r, _, _ => by rw [List.length_nil, kidsR, List.append_nil]; rfl
  | x :: ks, D, p, r, hg, h => by
    rw [Nd.bytess, List.append_assoc] at h
    rw [List.length_cons, kidsR, hg x (by simp) p _ h]
    dsimp only
    rw [if_neg (by simp), kids_back mk ks (D ++ [x]) _ r (fun y hy => hg y (by simp [hy])) (drop_app h), Nd.bytess, List.length_append, Nat.add_assoc, List.append_assoc]
    rfl
theorem tree_back {s : List UInt8} : ∀ (k : Nat) (n : Nd), n.gd → n.depth ≤ k → ∀ (p : Nat) (r : List UInt8), s.drop p = n.bytes ++ r → treeR s k p = (n, 0, p + n.bytes.length, 0)
  | 0, n, _, hd => by cases n; rw [Nd.depth] at hd; omega
  | k + 1, n, hg, hd => by
    intro p r h
    obtain ⟨op, m, s', a, b, ks⟩ := n
    rw [Nd.gd] at hg
    obtain ⟨hg, hgs⟩ := hg
    rw [Nd.depth] at hd
    have hk : ∀ x ∈ ks, x.depth ≤ k := by
      have key : ∀ l : List Nd, Nd.depths l ≤ k → ∀ x ∈ l, x.depth ≤ k := by
        intro l
        induction l with
        | nil => intro _ x hx; cases hx
        | cons y l ih =>
          intro hl x hx
          rw [Nd.depths] at hl
          rcases List.mem_cons.1 hx with rfl | hx
          · omega
          · exact ih (by omega) x hx
      exact key ks (by omega)
    have o1 := hg.op1
    have o2 := hg.op2
    obtain ⟨u, rfl⟩ : ∃ u : Nat, op = u := ⟨op.toNat, by omega⟩
    rw [Nd.bytes, Int.toNat_natCast] at h ⊢
    rw [List.append_assoc, List.append_assoc] at h
    have hU := readU_uint h (by omega)
    have h2 := drop_app h
    have hH := head_back hg h2
    have h3 := drop_app h2
    have hK := kids_back (g := treeR s k) (fun ks => Nd.mk (u : Int) m s' a b ks) ks [] _ r (fun x hx p r hp => tree_back k x (Nd.gds_mem.1 hgs x hx) (hk x hx) p r hp) h3
    rw [treeR, hU]
    dsimp only
    rw [hH]
    dsimp only
    rw [if_neg (by simp), if_neg (by omega), if_neg (by simp), if_neg (by simp), hK, List.length_append, List.length_append, List.nil_append, ← Nat.add_assoc, ← Nat.add_assoc]
end Go.A
namespace Go.A
open Go.Proofs
/-! 6: tabular/tabularlaw12.Grow -/
def c6_0 : ACode := .ops [
 ⟨some 2, none, .e (.alloc [(.int .i64 0), (.int .i64 0), (.str []), (.int .i64 0), (.int .i64 0), (.bool false), (.bool false), (.int .i64 0), (.int .i64 0), (.bool false), (.bool false), (.sl .full [])]), []⟩]
def c6_1 : ACode := .ops [
 ⟨some 5, none, .q (.mv (.t 0)), []⟩,
 ⟨some 6, none, .q (.len (.t 5)), []⟩,
 ⟨some 7, none, .q (.bin .gtr (.t 6) (.v (.int .i64 40))), []⟩]
def c6_2 : ACode := .ops [
 ⟨some 8, none, .q (.mv (.t 0)), []⟩,
 ⟨some 9, none, .q (.slto (false, 11) (.t 8) (.v (.int .i64 40))), []⟩,
 ⟨some 0, none, .q (.mv (.t 9)), []⟩]
def c6_3 : ACode := .cond (.t 7) c6_2 .skip
def c6_4 : ACode := .seq c6_1 c6_3
def c6_5 : ACode := .ops [
 ⟨some 11, none, .q (.mv (.t 0)), []⟩,
 ⟨some 12, none, .e (.call 31 [(.t 11), (.v (.int .i64 0))]), []⟩,
 ⟨some 10, none, .q (.mv (.t 12)), []⟩,
 ⟨some 13, none, .q (.ext 0 (.t 10)), []⟩,
 ⟨some 14, none, .q (.ext 1 (.t 10)), []⟩,
 ⟨some 3, none, .e (.alloc [(.int .i64 0), (.int .i64 0), (.str []), (.int .i64 0), (.int .i64 0), (.bool false), (.bool false), (.int .i64 0), (.int .i64 0), (.bool false), (.bool false), (.sl .full [])]), []⟩,
 ⟨none, none, .e (.store 12 (.t 3) (.t 13)), []⟩,
 ⟨some 4, none, .q (.mv (.t 14)), []⟩]
def c6_6 : ACode := .ops [
 ⟨some 15, none, .q (.ld (some 12) (.t 3)), []⟩,
 ⟨none, none, .e (.store 12 (.t 2) (.t 15)), []⟩]
def c6_7 : ACode := .seq c6_6 .ret
def c6_8 : ACode := .seq c6_5 c6_7
def c6_9 : ACode := .seq c6_4 c6_8
def c6_10 : ACode := .seq c6_0 c6_9
@[go_sem] theorem c6_0_wp : type_of% (wp_of c6_0.eq_1) := wp_of c6_0.eq_1
@[go_sem] theorem c6_1_wp : type_of% (wp_of c6_1.eq_1) := wp_of c6_1.eq_1
@[go_sem] theorem c6_2_wp : type_of% (wp_of c6_2.eq_1) := wp_of c6_2.eq_1
@[go_sem] theorem c6_3_wp : type_of% (wp_of c6_3.eq_1) := wp_of c6_3.eq_1
@[go_sem] theorem c6_4_wp : type_of% (wp_of c6_4.eq_1) := wp_of c6_4.eq_1
@[go_sem] theorem c6_5_wp : type_of% (wp_of c6_5.eq_1) := wp_of c6_5.eq_1
@[go_sem] theorem c6_6_wp : type_of% (wp_of c6_6.eq_1) := wp_of c6_6.eq_1
@[go_sem] theorem c6_7_wp : type_of% (wp_of c6_7.eq_1) := wp_of c6_7.eq_1
@[go_sem] theorem c6_8_wp : type_of% (wp_of c6_8.eq_1) := wp_of c6_8.eq_1
@[go_sem] theorem c6_9_wp : type_of% (wp_of c6_9.eq_1) := wp_of c6_9.eq_1
@[go_sem] theorem c6_10_wp : type_of% (wp_of c6_10.eq_1) := wp_of c6_10.eq_1
def c6 : AFn := ⟨16, [.c 2 (some 12)], c6_10⟩
set_option maxRecDepth 100000 in
theorem c6_ok : compF Tryz.prog Tryz.f6 = some c6 := by kernel_rfl
theorem a6 {args : List AV} {σ : ASt} {R : AV → ASt → Prop} (hl : args.length ≤ 16) (h : c6_10.wp Tryz.prog (RetQ [.c 2 (some 12)] R) (init args) σ) : ACalls Tryz.prog 6 args σ R := acalls_of Tryz.func6 c6_ok hl h
end Go.A
namespace Go.A
open Go.Proofs Go.Lib
set_option maxRecDepth 100000
set_option linter.unusedSimpArgs false
set_option linter.unusedVariables false
mutual
def Nd.rl : Nd → Prop
  | .mk op _ _ _ _ ks => ((op = 5 ∨ op = 6) → ks = []) ∧ Nd.rls ks
def Nd.rls : List Nd → Prop
  | [] => True
  | x :: xs => x.rl ∧ Nd.rls xs
end
theorem rls_mem : ∀ {l : List Nd}, Nd.rls l ↔ ∀ x ∈ l, x.rl
  | [] => by simp [Nd.rls]
  | x :: xs => by rw [Nd.rls, rls_mem (l := xs)]; simp
theorem nodeG_facts (p : Pt) (ks : List Nd) (hl : ks.length = cntG (opG p.op) (kkG p.n)) : ∃ o m s a b, nodeG p ks = .mk o m s a b ks ∧ nodeOk o m s a b ks.length ∧ ((o = 5 ∨ o = 6) → ks = []) := by
  have hop := opG_rng p.op
  have hkk := kkG_rng p.n
  have h3 := cntG_le (opG p.op) (kkG p.n) hkk.1
  have f1 : (opG p.op = 7 ∨ opG p.op = 8 ∨ opG p.op = 9) → ks.length = 1 := fun h => by rw [hl]; unfold cntG; rw [if_pos h]
  have f2 : (10 ≤ opG p.op ∧ opG p.op ≤ 21) → ks.length = 2 := fun h => by rw [hl]; unfold cntG; rw [if_neg (by omega), if_neg (by omega), if_pos h]
  have f3 : (opG p.op = 5 ∨ opG p.op = 6) → ks = [] := fun h => by
    have : ks.length = 0 := by rw [hl]; unfold cntG; rw [if_neg (by omega), if_neg (by omega), if_neg (by omega)]
    exact List.eq_nil_of_length_eq_zero this
  have h7 : 0 ≤ (kkG p.n).tmod 7 ∧ (kkG p.n).tmod 7 < 7 := ⟨Int.tmod_nonneg _ hkk.1, Int.tmod_lt_of_pos _ (by decide)⟩
  have hq : ((1 + (kkG p.n).tmod 7) * 10000).tdiv 10000 = 1 + (kkG p.n).tmod 7 := Int.mul_tdiv_cancel _ (by decide)
  have pa := placeR_good p.a
  have pb := placeR_good p.b
  rw [hl] at f1 f2
  have hk : ks.length ≤ 3 := by omega
  unfold nodeG nodeOk
  rw [hl]
  split
  · refine ⟨_, _, _, _, _, rfl, ⟨by omega, fun _ => by omega, fun h => by omega, fun h => by omega, fun h => by omega, fun h => by omega, fun h => by omega, fun h => by omega, fun h => by omega, by omega⟩, fun h => by omega⟩
  split
  · refine ⟨_, _, _, _, _, rfl, ⟨by omega, fun h => by omega, fun h => by omega, fun h => by omega, fun h => by omega, fun h => by omega, fun h => by omega, fun h => by omega, fun h => by omega, by omega⟩, fun h => by omega⟩
  split
  · refine ⟨_, _, _, _, _, rfl, ⟨by omega, fun h => by omega, fun h => by omega, fun h => by rw [hq]; omega, fun h => by omega, fun h => by omega, fun h => by omega, fun h => by omega, fun h => by omega, by omega⟩, fun h => by omega⟩
  split
  · refine ⟨_, _, _, _, _, rfl, ⟨by omega, fun h => by omega, fun h => ?_, fun h => by omega, fun h => by omega, fun h => by omega, fun h => by omega, fun h => by omega, fun h => by omega, by omega⟩, fun h => by omega⟩
    split
    · rw [List.length_take]; omega
    · simp
  split
  · refine ⟨_, _, _, _, _, rfl, ⟨by omega, fun h => by omega, fun h => by omega, fun h => by omega, fun h => by omega, fun h => pa, fun h => by omega, fun h => by omega, fun h => by omega, by omega⟩, fun h => f3 (by omega)⟩
  split
  · refine ⟨_, _, _, _, _, rfl, ⟨by omega, fun h => by omega, fun h => by omega, fun h => by omega, fun h => by omega, fun h => pa, fun h => pb, fun h => by omega, fun h => by omega, by omega⟩, fun h => f3 (by omega)⟩
  split
  · refine ⟨_, _, _, _, _, rfl, ⟨by omega, fun h => by omega, fun h => by omega, fun h => by omega, fun h => by omega, fun h => by omega, fun h => by omega, fun h => by omega, fun h => by omega, by omega⟩, fun h => by omega⟩
  split
  · refine ⟨_, _, _, _, _, rfl, ⟨by omega, fun h => by omega, fun h => by omega, fun h => by omega, fun h => ?_, fun h => by omega, fun h => by omega, fun h => by omega, fun h => by omega, by omega⟩, fun h => by omega⟩
    have hr : (kkG p.n).tmod 4 = 0 ∨ (kkG p.n).tmod 4 = 1 ∨ (kkG p.n).tmod 4 = 2 ∨ (kkG p.n).tmod 4 = 3 := by
      have := Int.tmod_nonneg 4 hkk.1
      have := Int.tmod_lt_of_pos (kkG p.n) (show (0 : Int) < 4 by decide)
      omega
    rcases hr with hr | hr | hr | hr <;> rw [hr] <;> decide
  · refine ⟨_, _, _, _, _, rfl, ⟨by omega, fun h => by omega, fun h => by omega, fun h => by omega, fun h => by omega, fun h => by omega, fun h => by omega, fun h => by omega, fun h => by omega, by omega⟩, fun h => by omega⟩
def goodG (x : Nd) : Prop := x.ok ∧ x.rl
theorem good_leaf : goodG (.mk 1 0 [] .zero .zero []) := by
  refine ⟨?_, ?_⟩
  · rw [Nd.ok, Nd.oks]
    refine ⟨?_, trivial⟩
    unfold nodeOk
    simp
  · rw [Nd.rl, Nd.rls]
    exact ⟨fun _ => rfl, trivial⟩
theorem good_miss : goodG missN := by
  unfold missN
  refine ⟨?_, ?_⟩
  · rw [Nd.ok, Nd.oks]
    refine ⟨?_, trivial⟩
    unfold nodeOk
    simp
  · rw [Nd.rl, Nd.rls]
    exact ⟨fun _ => rfl, trivial⟩
theorem good_node (p : Pt) (ks : List Nd) (hl : ks.length = cntG (opG p.op) (kkG p.n)) (hg : ∀ x ∈ ks, goodG x) : goodG (nodeG p ks) ∧ (nodeG p ks).size = 1 + Nd.sizes ks := by
  obtain ⟨o, m, s, a, b, he, h1, h2⟩ := nodeG_facts p ks hl
  rw [he]
  refine ⟨⟨?_, ?_⟩, ?_⟩
  · rw [Nd.ok]; exact ⟨h1, Nd.oks_mem.2 fun x hx => (hg x hx).1⟩
  · rw [Nd.rl]; exact ⟨h2, rls_mem.2 fun x hx => (hg x hx).2⟩
  · rw [Nd.size]
theorem miss_sizes (op kk : Int) (ks : List Nd) : Nd.sizes (missG op kk ks) ≤ Nd.sizes ks := by
  unfold missG
  split
  · rename_i h
    cases ks with
    | nil => simp at h
    | cons x xs =>
      rw [List.tail_cons, Nd.sizes, Nd.sizes]
      have := x.size_pos
      have e : missN.size = 1 := rfl
      omega
  · exact Nat.le_refl _
theorem miss_good (op kk : Int) (ks : List Nd) (hg : ∀ x ∈ ks, goodG x) : ∀ x ∈ missG op kk ks, goodG x := by
  unfold missG
  split
  · intro x hx
    rcases List.mem_cons.1 hx with rfl | hx
    · exact good_miss
    · exact hg x (List.mem_of_mem_tail hx)
  · exact hg
theorem growN_facts (g : Nat → Nd × Nat) (hg : ∀ i, goodG (g i).1 ∧ i ≤ (g i).2 ∧ (g i).1.size ≤ 4 * ((g i).2 - i) + 1) : ∀ c i, (∀ x ∈ (growN g c i).1, goodG x) ∧ i ≤ (growN g c i).2 ∧ Nd.sizes (growN g c i).1 ≤ 4 * ((growN g c i).2 - i) + c
  | 0, i => by rw [growN]; exact ⟨fun x hx => by simp at hx, Nat.le_refl _, by rw [Nd.sizes]; omega⟩
  | c + 1, i => by
    obtain ⟨h1, h2, h3⟩ := hg i
    obtain ⟨i1, i2, i3⟩ := growN_facts g hg c (g i).2
    rw [growN]
    refine ⟨fun x hx => ?_, by dsimp only; omega, ?_⟩
    · rcases List.mem_cons.1 hx with rfl | hx
      · exact h1
      · exact i1 x hx
    · dsimp only
      rw [Nd.sizes]
      omega
theorem growK_facts (L : List Pt) : ∀ k i, goodG (growK L k i).1 ∧ i ≤ (growK L k i).2 ∧ (growK L k i).1.size ≤ 4 * ((growK L k i).2 - i) + 1
  | 0, i => ⟨good_leaf, Nat.le_refl _, by show (1 : Nat) ≤ _; omega⟩
  | k + 1, i => by
    rw [growK]
    split
    · exact ⟨good_leaf, Nat.le_refl _, by show (1 : Nat) ≤ _; omega⟩
    · rename_i p hp
      obtain ⟨h1, h2, h3⟩ := growN_facts (growK L k) (growK_facts L k) (cntG (opG p.op) (kkG p.n)) (i + 1)
      have hc := cntG_le (opG p.op) (kkG p.n) (kkG_rng p.n).1
      have hl := growN_len (growK L k) (cntG (opG p.op) (kkG p.n)) (i + 1)
      generalize growN (growK L k) (cntG (opG p.op) (kkG p.n)) (i + 1) = R at *
      obtain ⟨KS, J⟩ := R
      dsimp only at *
      obtain ⟨g1, g2⟩ := good_node p (missG (opG p.op) (kkG p.n) KS) (by rw [missG_len]; exact hl) (miss_good _ _ _ h1)
      have hs := miss_sizes (opG p.op) (kkG p.n) KS
      exact ⟨g1, by omega, by rw [g2]; omega⟩
theorem growP_facts (L : List Pt) : (growP L).ok ∧ (growP L).rl ∧ (growP L).size ≤ 1000 := by
  have h := growK_facts (L.take 40) 41 0
  have h2 := growK_le (L.take 40) 40 (by rw [List.length_take]; omega) 41 0 (by omega)
  unfold growP
  exact ⟨h.1.1, h.1.2, by omega⟩
end Go.A
namespace Go.A
open Go.Proofs Go.Lib
set_option maxRecDepth 100000
set_option linter.unusedSimpArgs false
set_option linter.unusedVariables false
theorem Grow_ok (L : List Pt) : Pure Tryz.prog 6 [.sl .shr (L.map Pt.av)] (growP L).av := by
  intro σ
  have hG := grow_le (L.take 40) (by rw [List.length_take]; omega) 41 0 (by rw [List.length_take]; omega) (by omega)
  have hP : (growK (L.take 40) 41 0).1 = growP L := rfl
  rw [hP] at hG
  have hmt : (L.take 40).map Pt.av = (L.map Pt.av).take 40 := List.map_take
  have hml : (L.map Pt.av).length = L.length := by simp
  rw [hmt] at hG
  generalize growP L = n at *
  obtain ⟨op, m, s, a, b, ks⟩ := n
  rw [Nd.av_cs] at hG ⊢
  generalize ks.map Nd.av = KS at *
  generalize (growK (L.take 40) 41 0).2 = J at *
  generalize hXL : L.map Pt.av = XL at *
  have e0 : ((0 : Nat) : Int) = 0 := rfl
  rw [e0] at hG
  refine a6 (by simp) ?_
  simp (disch := first | assumption | omega | (simp only [List.length_append, List.length_cons, List.length_nil]; omega)) only [go_sem]
  refine allocC_by fun b2 h2 => ?_
  by_cases h40 : 40 < XL.length
  · have h40' : (40 : Int) < XL.length := by omega
    have h40t : 40 ≤ XL.length := by omega
    simp (disch := first | assumption | omega | (simp only [List.length_append, List.length_cons, List.length_nil]; omega)) only [go_sem, reduceCtorEq, ↓reduceIte, Int.reduceToNat, h40']
    refine hG.use ?_
    simp (disch := first | assumption | omega | (simp only [List.length_append, List.length_cons, List.length_nil]; omega)) only [go_sem, Nat.reduceEqDiff, ↓reduceIte]
    refine allocC_by fun b3 h3 => ?_
    repeat (with_reducible replace h3 := set_none h3; obtain ⟨_, _, h3⟩ := h3)
    simp (disch := first | assumption | omega | (simp only [List.length_append, List.length_cons, List.length_nil]; omega)) only [go_sem, reduceCtorEq, Nat.reduceEqDiff, Nat.reduceAdd, Nat.reduceLeDiff, ↓reduceIte, ASt.set_set]
    exact retC_by (((Drop.set h2).off (by assumption)).off h2) (.refl _) ⟨rfl, rfl⟩
  · have h40' : ¬ (40 : Int) < XL.length := by omega
    rw [List.take_of_length_le (by omega)] at hG
    simp (disch := first | assumption | omega | (simp only [List.length_append, List.length_cons, List.length_nil]; omega)) only [go_sem, reduceCtorEq, ↓reduceIte, h40']
    refine hG.use ?_
    simp (disch := first | assumption | omega | (simp only [List.length_append, List.length_cons, List.length_nil]; omega)) only [go_sem, Nat.reduceEqDiff, ↓reduceIte]
    refine allocC_by fun b3 h3 => ?_
    repeat (with_reducible replace h3 := set_none h3; obtain ⟨_, _, h3⟩ := h3)
    simp (disch := first | assumption | omega | (simp only [List.length_append, List.length_cons, List.length_nil]; omega)) only [go_sem, Nat.reduceEqDiff, Nat.reduceAdd, Nat.reduceLeDiff, ↓reduceIte, ASt.set_set]
    exact retC_by (((Drop.set h2).off (by assumption)).off h2) (.refl _) ⟨rfl, rfl⟩
theorem Tab.new {σ : ASt} {b : Nat} {r : Option Role} (h : Tab σ) (hb : σ b = none) : Tab (σ.set b r) := by
  unfold Tab at h ⊢
  rw [ASt.set_ne]
  · exact h
  · intro e; rw [e, hb] at h; cases h
end Go.A
namespace Go.A
open Go.Proofs
/-! 4: tabular/tabularlaw12.ExprOne -/
/-! 28: tabular/expr.Read -/
def c28_0 : ACode := .ops [
 ⟨some 2, none, .e (.alloc [(.int .i64 0), (.int .i64 0), (.str []), (.int .i64 0), (.int .i64 0), (.bool false), (.bool false), (.int .i64 0), (.int .i64 0), (.bool false), (.bool false), (.sl .full [])]), []⟩,
 ⟨some 3, none, .q (.mv (.v (.int .i64 0))), []⟩]
def c28_1 : ACode := .ops [
 ⟨some 4, none, .q (.mv (.t 0)), []⟩,
 ⟨some 5, none, .e (.call 52 [(.t 4), (.v (.int .i64 0))]), []⟩,
 ⟨some 6, none, .q (.ext 0 (.t 5)), []⟩,
 ⟨some 7, none, .q (.ext 1 (.t 5)), []⟩,
 ⟨none, none, .e (.store 12 (.t 2) (.t 6)), []⟩,
 ⟨some 3, none, .q (.mv (.t 7)), []⟩]
def c28_2 : ACode := .seq c28_1 .ret
def c28_3 : ACode := .seq c28_0 c28_2
@[go_sem] theorem c28_0_wp : type_of% (wp_of c28_0.eq_1) := wp_of c28_0.eq_1
@[go_sem] theorem c28_1_wp : type_of% (wp_of c28_1.eq_1) := wp_of c28_1.eq_1
@[go_sem] theorem c28_2_wp : type_of% (wp_of c28_2.eq_1) := wp_of c28_2.eq_1
@[go_sem] theorem c28_3_wp : type_of% (wp_of c28_3.eq_1) := wp_of c28_3.eq_1
def c28 : AFn := ⟨8, [.c 2 (some 12), .t 3], c28_3⟩
set_option maxRecDepth 100000 in
theorem c28_ok : compF Tryz.prog Tryz.f28 = some c28 := by kernel_rfl
theorem a28 {args : List AV} {σ : ASt} {R : AV → ASt → Prop} (hl : args.length ≤ 8) (h : c28_3.wp Tryz.prog (RetQ [.c 2 (some 12), .t 3] R) (init args) σ) : ACalls Tryz.prog 28 args σ R := acalls_of Tryz.func28 c28_ok hl h
end Go.A
namespace Go.A
open Go.Proofs Go.Lib Go.Vint
set_option maxRecDepth 100000
set_option linter.unusedSimpArgs false
set_option linter.unusedVariables false
theorem eRead_ok (s : List UInt8) (hs : s.length ≤ 1000000) (b : Nat) (σ : ASt) (hU : U8 σ) (hb : σ b = rd s 0 0) :
    ACalls Tryz.prog 28 [.ptr b 0] σ fun v σ' => v = .tuple [(treeR s 2101 0).1.av, .int .i64 (treeR s 2101 0).2.1] ∧ σ' = σ.set b (rd s (treeR s 2101 0).2.2.1 (treeR s 2101 0).2.2.2) := by
  have hR := read_le s hs b 2101 0 (Nat.le_refl _) (Nat.zero_le _)
  rw [show (2101 : Int) - ((2101 : Nat) : Int) = 0 by decide] at hR
  generalize treeR s 2101 0 = R at *
  obtain ⟨n, e, P, E⟩ := R
  dsimp only at *
  obtain ⟨o, m, t, x, y, ks⟩ := n
  rw [Nd.av_cs] at *
  generalize ks.map Nd.av = KL at *
  refine a28 (by simp) ?_
  simp (disch := first | assumption | omega | (simp only [List.length_append, List.length_cons, List.length_nil]; omega)) only [go_sem]
  refine allocC_by fun d hd => ?_
  have hbd : b ≠ d := by rintro rfl; rw [hb] at hd; cases hd
  have hsw2 : ∀ (X Y Z : Option Role), ((σ.set d X).set b Y).set d Z = (σ.set b Y).set d Z := fun X Y Z => by rw [set_swap (Ne.symm hbd), ASt.set_set]
  have hdd : ∀ X Y : Option Role, Drop ((σ.set b X).set d Y) (σ.set b X) := fun X Y => Drop.set (by rw [ASt.set_ne (Ne.symm hbd)]; exact hd)
  have hdr : ∀ X Y : Option Role, ((σ.set d X).set b Y) d = X := fun X Y => by rw [ASt.set_ne (Ne.symm hbd), ASt.set_same]
  simp (disch := first | assumption | omega | (simp only [List.length_append, List.length_cons, List.length_nil]; omega)) only [go_sem, reduceCtorEq, ↓reduceIte]
  refine (hR _ (hU.set hd) (by rw [ASt.set_ne hbd]; exact hb)).mono ?_
  rintro v σ1 ⟨rfl, rfl⟩
  simp (disch := first | assumption | omega | (simp only [List.length_append, List.length_cons, List.length_nil]; omega)) only [go_sem, Nat.reduceEqDiff, Nat.reduceAdd, Nat.reduceLeDiff, ↓reduceIte, hdr, hsw2]
  exact retC_by (hdd _ _) (.refl _) ⟨rfl, rfl⟩
theorem W.new {σ : ASt} {b : Nat} (hb : σ b = none) : W σ b [] (σ.set b (some (.obj [.sl .full []]))) := ⟨.full, .inl ⟨rfl, rfl, rfl⟩⟩
theorem W.at {σ0 σ : ASt} {b x : Nat} {l : List UInt8} {r : Role} (h : W σ0 b l σ) (hx : x ≠ b) (h0 : σ0 x = some r) : σ x = some r := by
  obtain ⟨k, hg⟩ := h
  exact hg.at (by rw [ASt.set_ne hx]; exact h0)
theorem W.tab {σ0 σ : ASt} {b : Nat} {l : List UInt8} (h : W σ0 b l σ) (hb : σ0 b = none) (hT : Tab σ0) : Tab σ := by
  unfold Tab at hT ⊢
  exact h.at (by intro e; rw [e, hb] at hT; cases hT) hT
theorem W.max {σ0 σ : ASt} {b : Nat} {l : List UInt8} (h : W σ0 b l σ) (hb : σ0 b = none) (hM : MaxL σ0) : MaxL σ := by
  obtain ⟨m, hm⟩ := hM
  exact ⟨m, h.at (by intro e; rw [e, hb] at hm; cases hm) hm⟩
theorem W.drop {σ0 σ : ASt} {b : Nat} {l : List UInt8} (h : W σ0 b l σ) (hb : σ0 b = none) : Drop σ σ0 := by
  obtain ⟨k, hg⟩ := h
  exact Drop.trans hg.drop (Drop.set hb)
end Go.A
namespace Go.A
open Go.Proofs
/-! 5: tabular/tabularlaw12.ExprBack -/
def c5_0 : ACode := .ops [
 ⟨some 2, none, .q (.mv (.v (.bool false))), []⟩]
def c5_1 : ACode := .ops [
 ⟨some 8, none, .q (.mv (.t 0)), []⟩,
 ⟨some 9, none, .e (.call 6 [(.t 8)]), []⟩,
 ⟨some 3, none, .e (.alloc [(.int .i64 0), (.int .i64 0), (.str []), (.int .i64 0), (.int .i64 0), (.bool false), (.bool false), (.int .i64 0), (.int .i64 0), (.bool false), (.bool false), (.sl .full [])]), []⟩,
 ⟨none, none, .e (.store 12 (.t 3) (.t 9)), []⟩]
def c5_2 : ACode := .ops [
 ⟨some 4, none, .e (.alloc [(.sl .full [])]), []⟩]
def c5_3 : ACode := .ops [
 ⟨some 10, none, .q (.ld (some 12) (.t 3)), []⟩,
 ⟨some 11, none, .e (.call 21 [(.t 4), (.t 10)]), []⟩]
def c5_4 : ACode := .ops [
 ⟨some 12, none, .e (.call 23 [(.t 4)]), []⟩,
 ⟨some 13, none, .e (.call 27 [(.t 12)]), []⟩,
 ⟨some 5, none, .q (.mv (.t 13)), []⟩]
def c5_5 : ACode := .ops [
 ⟨some 15, none, .q (.mv (.t 5)), []⟩,
 ⟨some 16, none, .e (.call 28 [(.t 15)]), []⟩,
 ⟨some 14, none, .q (.mv (.t 16)), []⟩,
 ⟨some 17, none, .q (.ext 0 (.t 14)), []⟩,
 ⟨some 18, none, .q (.ext 1 (.t 14)), []⟩,
 ⟨some 6, none, .e (.alloc [(.int .i64 0), (.int .i64 0), (.str []), (.int .i64 0), (.int .i64 0), (.bool false), (.bool false), (.int .i64 0), (.int .i64 0), (.bool false), (.bool false), (.sl .full [])]), []⟩,
 ⟨none, none, .e (.store 12 (.t 6) (.t 17)), []⟩,
 ⟨some 7, none, .q (.mv (.t 18)), []⟩]
def c5_6 : ACode := .ops [
 ⟨some 19, none, .e (.call 8 []), []⟩,
 ⟨some 20, none, .q (.mv (.t 19)), []⟩,
 ⟨some 21, some (20, true), .q (.mv (.t 7)), []⟩,
 ⟨some 22, some (20, true), .q (.bin .eql (.t 21) (.v (.int .i64 0))), []⟩,
 ⟨some 23, none, .q (.pick (.t 20) (.t 22) (.v (.bool false))), []⟩,
 ⟨some 24, none, .q (.mv (.t 23)), []⟩,
 ⟨some 25, some (24, true), .q (.mv (.t 5)), []⟩,
 ⟨some 26, some (24, true), .e (.call 30 [(.t 25)]), []⟩,
 ⟨some 27, some (24, true), .q (.bin .eql (.t 26) (.v (.int .i64 0))), []⟩,
 ⟨some 28, none, .q (.pick (.t 24) (.t 27) (.v (.bool false))), []⟩,
 ⟨some 29, none, .q (.mv (.t 28)), []⟩,
 ⟨some 30, some (29, true), .q (.ld (some 12) (.t 6)), []⟩,
 ⟨some 31, some (29, true), .q (.ld (some 12) (.t 3)), []⟩,
 ⟨some 32, some (29, true), .e (.call 11 [(.t 30), (.t 31)]), []⟩,
 ⟨some 33, none, .q (.pick (.t 29) (.t 32) (.v (.bool false))), []⟩,
 ⟨some 2, none, .q (.mv (.t 33)), []⟩]
def c5_7 : ACode := .seq c5_6 .ret
def c5_8 : ACode := .seq c5_5 c5_7
def c5_9 : ACode := .seq c5_4 c5_8
def c5_10 : ACode := .seq c5_3 c5_9
def c5_11 : ACode := .seq c5_2 c5_10
def c5_12 : ACode := .seq c5_1 c5_11
def c5_13 : ACode := .seq c5_0 c5_12
@[go_sem] theorem c5_0_wp : type_of% (wp_of c5_0.eq_1) := wp_of c5_0.eq_1
@[go_sem] theorem c5_1_wp : type_of% (wp_of c5_1.eq_1) := wp_of c5_1.eq_1
@[go_sem] theorem c5_2_wp : type_of% (wp_of c5_2.eq_1) := wp_of c5_2.eq_1
@[go_sem] theorem c5_3_wp : type_of% (wp_of c5_3.eq_1) := wp_of c5_3.eq_1
@[go_sem] theorem c5_4_wp : type_of% (wp_of c5_4.eq_1) := wp_of c5_4.eq_1
@[go_sem] theorem c5_5_wp : type_of% (wp_of c5_5.eq_1) := wp_of c5_5.eq_1
@[go_sem] theorem c5_6_wp : type_of% (wp_of c5_6.eq_1) := wp_of c5_6.eq_1
@[go_sem] theorem c5_7_wp : type_of% (wp_of c5_7.eq_1) := wp_of c5_7.eq_1
@[go_sem] theorem c5_8_wp : type_of% (wp_of c5_8.eq_1) := wp_of c5_8.eq_1
@[go_sem] theorem c5_9_wp : type_of% (wp_of c5_9.eq_1) := wp_of c5_9.eq_1
@[go_sem] theorem c5_10_wp : type_of% (wp_of c5_10.eq_1) := wp_of c5_10.eq_1
@[go_sem] theorem c5_11_wp : type_of% (wp_of c5_11.eq_1) := wp_of c5_11.eq_1
@[go_sem] theorem c5_12_wp : type_of% (wp_of c5_12.eq_1) := wp_of c5_12.eq_1
@[go_sem] theorem c5_13_wp : type_of% (wp_of c5_13.eq_1) := wp_of c5_13.eq_1
def c5 : AFn := ⟨34, [.t 2], c5_13⟩
set_option maxRecDepth 100000 in
theorem c5_ok : compF Tryz.prog Tryz.f5 = some c5 := by kernel_rfl
theorem a5 {args : List AV} {σ : ASt} {R : AV → ASt → Prop} (hl : args.length ≤ 34) (h : c5_13.wp Tryz.prog (RetQ [.t 2] R) (init args) σ) : ACalls Tryz.prog 5 args σ R := acalls_of Tryz.func5 c5_ok hl h
end Go.A
namespace Go.A
open Go.Proofs Go.Lib Go.Vint
set_option maxRecDepth 100000
set_option linter.unusedSimpArgs false
set_option linter.unusedVariables false
theorem call_names : ∀ i : Nat, i < 4 → nameOkP (callL.getD i []) = true ∧ (callL.getD i []).length ≤ 20 := by decide +kernel
theorem cnt_arity {op kk : Int} (h : op ≠ 22) : cntG op kk = arity op := by
  unfold cntG arity
  by_cases h1 : op = 7 ∨ op = 8 ∨ op = 9
  · rw [if_pos h1, if_pos h1]
  · rw [if_neg h1, if_neg h1, if_neg h]
theorem nodeG_gd (p : Pt) (ks : List Nd) (hl : ks.length = cntG (opG p.op) (kkG p.n)) : ∃ o m s a b, nodeG p ks = .mk o m s a b ks ∧ GdN o m s a b ks.length ∧ s.length ≤ 20 := by
  have hop := opG_rng p.op
  have hkk := kkG_rng p.n
  have h3 := cntG_le (opG p.op) (kkG p.n) hkk.1
  have h7 : 0 ≤ (kkG p.n).tmod 7 ∧ (kkG p.n).tmod 7 < 7 := ⟨Int.tmod_nonneg _ hkk.1, Int.tmod_lt_of_pos _ (by decide)⟩
  have h2 : 0 ≤ (kkG p.n).tmod 2 ∧ (kkG p.n).tmod 2 < 2 := ⟨Int.tmod_nonneg _ hkk.1, Int.tmod_lt_of_pos _ (by decide)⟩
  have h4 : 0 ≤ (kkG p.n).tmod 4 ∧ (kkG p.n).tmod 4 < 4 := ⟨Int.tmod_nonneg _ hkk.1, Int.tmod_lt_of_pos _ (by decide)⟩
  have hq : ((1 + (kkG p.n).tmod 7) * 10000).tmod 10000 = 0 := Int.mul_tmod_left _ _
  have pa := placeR_good p.a
  have pb := placeR_good p.b
  have hk : ks.length ≤ 3 := by omega
  have hca : opG p.op ≠ 22 → ks.length = arity (opG p.op) := fun h => by rw [hl, cnt_arity h]
  have ha23 : arity 23 = 0 := rfl
  have ha3 : arity 3 = 0 := rfl
  unfold nodeG
  split
  · rename_i h
    rw [h] at hca
    exact ⟨_, _, _, _, _, rfl, ⟨by omega, by omega, by omega, by omega, by omega, by omega, by omega, by omega, fun _ _ => rfl, by omega, fun _ _ => rfl, by omega, fun _ => rfl, fun _ => hca (by omega)⟩, by simp⟩
  split
  · rename_i h
    rw [h] at hca
    exact ⟨_, _, _, _, _, rfl, ⟨by omega, by omega, by omega, by omega, by omega, by omega, by omega, by omega, fun _ _ => rfl, by omega, fun _ _ => rfl, by omega, fun _ => rfl, fun _ => hca (by omega)⟩, by simp⟩
  split
  · rename_i h
    rw [h] at hca
    exact ⟨_, _, _, _, _, rfl, ⟨by omega, by omega, by omega, by omega, fun _ => ⟨hq, by omega, by omega⟩, by omega, by omega, by omega, fun _ _ => rfl, by omega, fun _ _ => rfl, by omega, fun _ => rfl, fun _ => hca (by omega)⟩, by simp⟩
  split
  · rename_i h
    rw [h] at hca
    have hs : (if (sgT (p.s.take 20)).isSome = true then p.s.take 20 else []).length ≤ 20 ∧ (sgT (if (sgT (p.s.take 20)).isSome = true then p.s.take 20 else [])).isSome = true := by
      split
      · rename_i hs
        exact ⟨by rw [List.length_take]; omega, hs⟩
      · exact ⟨by simp, by rw [sgT_nil]; rfl⟩
    exact ⟨_, _, _, _, _, rfl, ⟨by omega, by omega, by omega, by omega, by omega, fun _ _ _ => rfl, fun _ => ⟨by omega, hs.2⟩, by omega, by omega, by omega, fun _ _ => rfl, by omega, fun _ => rfl, fun _ => hca (by omega)⟩, hs.1⟩
  split
  · rename_i h
    rw [h] at hca
    exact ⟨_, _, _, _, _, rfl, ⟨by omega, by omega, by omega, by omega, by omega, fun _ _ _ => rfl, by omega, by omega, fun _ _ => rfl, fun _ => pa, by omega, by omega, fun _ => rfl, fun _ => hca (by omega)⟩, by simp⟩
  split
  · rename_i h
    rw [h] at hca
    exact ⟨_, _, _, _, _, rfl, ⟨by omega, by omega, by omega, by omega, by omega, fun _ _ _ => rfl, by omega, by omega, fun _ _ => rfl, fun _ => pa, by omega, fun _ => pb, by omega, fun _ => hca (by omega)⟩, by simp⟩
  split
  · rename_i h
    rw [h] at hca
    exact ⟨_, _, _, _, _, rfl, ⟨by omega, by omega, by omega, by omega, by omega, fun _ _ _ => rfl, by omega, by omega, fun _ _ => rfl, by omega, fun _ _ => rfl, by omega, fun _ => rfl, fun _ => by rw [hca (by omega), ha23, ha3]⟩, by simp⟩
  split
  · rename_i h
    have hc := call_names ((kkG p.n).tmod 4).toNat (by omega)
    exact ⟨_, _, _, _, _, rfl, ⟨by omega, by omega, by omega, by omega, by omega, fun _ _ _ => rfl, by omega, fun _ => ⟨by omega, hc.1, by omega⟩, by omega, by omega, fun _ _ => rfl, by omega, fun _ => rfl, by omega⟩, hc.2⟩
  · rename_i h1 h3 h4 h2 h5 h6 h23 h22
    exact ⟨_, _, _, _, _, rfl, ⟨by omega, by omega, by omega, by omega, by omega, fun _ _ _ => rfl, by omega, by omega, fun _ _ => rfl, by omega, fun _ _ => rfl, by omega, fun _ => rfl, fun h => hca h⟩, by simp⟩
mutual
def Nd.shorts : Nd → Prop
  | .mk _ _ s _ _ ks => s.length ≤ 20 ∧ Nd.shortss ks
def Nd.shortss : List Nd → Prop
  | [] => True
  | x :: xs => x.shorts ∧ Nd.shortss xs
end
theorem shortss_mem : ∀ {l : List Nd}, Nd.shortss l ↔ ∀ x ∈ l, x.shorts
  | [] => by simp [Nd.shortss]
  | y :: l => by rw [Nd.shortss, shortss_mem (l := l)]; simp
theorem uintB_len64 {u : Nat} (h : u < 18446744073709551616) : (uintB u).length ≤ 10 := by
  have := uintB_le (u := (u : Int)) (by omega)
  rwa [Int.toNat_natCast] at this
theorem rest_len {op n : Int} {s : List UInt8} {a b : Ref} {k : Nat} (hg : GdN op n s a b k) (hs : s.length ≤ 20) : (restB op n s a b k).length ≤ 40 := by
  have hn := hg.num
  have hf := foldI_bd (n := n) (by omega) (by omega)
  have h1 := uintB_le hf.2
  have h2 := uintB_len64 (u := s.length) (by omega)
  have h3 := uintB_len64 (u := k) (by have := hg.kids; omega)
  have hr : ∀ r : Ref, r.good = true → (rfB r).length ≤ 20 := fun r hr => by
    obtain ⟨r1, r2, r3, r4⟩ := good_bd hr
    have ha : absN r ≤ 3 := by unfold absN; split <;> split <;> omega
    have h1 := uintB_len64 (u := absN r + 4 * r.row.toNat) (by omega)
    have h2 := uintB_len64 (u := r.col.toNat) (by omega)
    unfold rfB
    rw [List.length_append]; omega
  unfold restB textB
  split
  · omega
  split
  · rw [List.length_append]; omega
  split
  · rename_i h; have := hr a (hg.ga (.inl h)); omega
  split
  · rename_i h; have := hr a (hg.ga (.inr h)); have := hr b (hg.gb h); rw [List.length_append]; omega
  split
  · rw [List.length_append, List.length_append]; omega
  · simp
mutual
theorem bytes_len : ∀ n : Nd, n.gd → n.shorts → n.bytes.length ≤ 50 * n.size
  | .mk op m s a b ks, hg, hs => by
    rw [Nd.gd] at hg
    rw [Nd.shorts] at hs
    have h1 := bytess_len ks hg.2 hs.2
    have h2 := rest_len hg.1 hs.1
    have o1 := hg.1.op1
    have o2 := hg.1.op2
    have h3 := uintB_len64 (u := op.toNat) (by omega)
    rw [Nd.bytes, Nd.size, List.length_append, List.length_append]
    omega
theorem bytess_len : ∀ l : List Nd, Nd.gds l → Nd.shortss l → (Nd.bytess l).length ≤ 50 * Nd.sizes l
  | [], _, _ => by rw [Nd.bytess, Nd.sizes]; simp
  | x :: l, hg, hs => by
    rw [Nd.gds] at hg
    rw [Nd.shortss] at hs
    have h1 := bytes_len x hg.1 hs.1
    have h2 := bytess_len l hg.2 hs.2
    rw [Nd.bytess, Nd.sizes, List.length_append]
    omega
end
def goodW (x : Nd) : Prop := x.gd ∧ x.shorts
theorem goodW_of {o m : Int} {s : List UInt8} {a b : Ref} {ks : List Nd} (h : GdN o m s a b ks.length) (hs : s.length ≤ 20) (hk : ∀ x ∈ ks, goodW x) : goodW (.mk o m s a b ks) := by
  refine ⟨?_, ?_⟩
  · rw [Nd.gd]; exact ⟨h, Nd.gds_mem.2 fun x hx => (hk x hx).1⟩
  · rw [Nd.shorts]; exact ⟨hs, shortss_mem.2 fun x hx => (hk x hx).2⟩
theorem goodW_leaf : goodW (.mk 1 0 [] .zero .zero []) := goodW_of ⟨by omega, by omega, by omega, by omega, by omega, by omega, by omega, by omega, fun _ _ => rfl, by omega, fun _ _ => rfl, by omega, fun _ => rfl, fun _ => rfl⟩ (by simp) (fun _ h => by cases h)
theorem goodW_miss : goodW missN := goodW_of ⟨by omega, by omega, by omega, by omega, by omega, fun _ _ _ => rfl, by omega, by omega, fun _ _ => rfl, by omega, fun _ _ => rfl, by omega, fun _ => rfl, fun _ => rfl⟩ (by simp) (fun _ h => by cases h)
theorem miss_goodW (op kk : Int) (ks : List Nd) (hg : ∀ x ∈ ks, goodW x) : ∀ x ∈ missG op kk ks, goodW x := by
  unfold missG
  split
  · intro x hx
    rcases List.mem_cons.1 hx with rfl | hx
    · exact goodW_miss
    · exact hg x (List.mem_of_mem_tail hx)
  · exact hg
theorem growN_goodW (g : Nat → Nd × Nat) (hg : ∀ i, goodW (g i).1) : ∀ c i, ∀ x ∈ (growN g c i).1, goodW x
  | 0, i => by rw [growN]; exact fun x hx => by simp at hx
  | c + 1, i => by
    rw [growN]
    intro x hx
    rcases List.mem_cons.1 hx with rfl | hx
    · exact hg i
    · exact growN_goodW g hg c _ x hx
theorem growK_goodW (L : List Pt) : ∀ k i, goodW (growK L k i).1
  | 0, i => goodW_leaf
  | k + 1, i => by
    rw [growK]
    split
    · exact goodW_leaf
    · rename_i p hp
      have h1 := growN_goodW (growK L k) (growK_goodW L k) (cntG (opG p.op) (kkG p.n)) (i + 1)
      have hl := growN_len (growK L k) (cntG (opG p.op) (kkG p.n)) (i + 1)
      generalize growN (growK L k) (cntG (opG p.op) (kkG p.n)) (i + 1) = R at *
      obtain ⟨KS, J⟩ := R
      dsimp only at *
      obtain ⟨o, m, s, a, b, he, g1, g2⟩ := nodeG_gd p (missG (opG p.op) (kkG p.n) KS) (by rw [missG_len]; exact hl)
      rw [he]
      exact goodW_of g1 g2 (miss_goodW _ _ _ h1)
theorem growP_gd (L : List Pt) : (growP L).gd ∧ (growP L).depth ≤ 2101 ∧ (growP L).bytes.length ≤ 50000 := by
  have h := growK_goodW (L.take 40) 41 0
  have hs := (growP_facts L).2.2
  have hd := (growP L).depth_le_size
  have hb := bytes_len (growP L) h.1 h.2
  exact ⟨h.1, by omega, by omega⟩
theorem U8.over2 {σ0 σ : ASt} {b : Nat} {l : List UInt8} (h : U8 σ0) (hW : W σ0 b l σ) (hb : σ0 b = none) : U8 σ :=
  ⟨hW.at (by rintro e; have := h.1; rw [e, hb] at this; cases this) h.1, hW.at (by rintro e; have := h.2; rw [e, hb] at this; cases this) h.2⟩
set_option maxHeartbeats 2000000 in
theorem ExprBack_any {σ : ASt} (hU : U8 σ) (hT : Tab σ) (hM : MaxL σ) (L : List Pt) : ACalls Tryz.prog 5 [.sl .shr (L.map Pt.av)] σ fun v σ' => v = .bool true ∧ σ' = σ := by
  have hG := Grow_ok L
  obtain ⟨hg, hd, hl⟩ := growP_gd L
  have hsz := (growP_facts L).2.2
  generalize growP L = n at *
  have hS := esame_ok n n (by omega) (by omega)
  rw [Nd.same_refl] at hS
  have hR := fun b τ (h1 : U8 τ) h2 => eRead_ok n.bytes (by omega) b τ h1 h2
  rw [tree_back (s := n.bytes) 2101 n hg hd 0 [] (by rw [List.drop_zero, List.append_nil])] at hR
  rw [Nat.zero_add] at hR
  dsimp only at hR
  have hRd := rread_ok n.bytes
  have hW := ewrite_ok n hg
  generalize n.bytes = B at *
  obtain ⟨o, m, s, a, b, ks⟩ := n
  rw [Nd.av_cs] at *
  generalize ks.map Nd.av = KL at *
  generalize L.map Pt.av = PL at *
  refine a5 (by simp) ?_
  simp (disch := first | assumption | omega | (simp only [List.length_append, List.length_cons, List.length_nil]; omega)) only [go_sem, reduceCtorEq, ↓reduceIte]
  refine hG.use ?_
  simp (disch := first | assumption | omega | (simp only [List.length_append, List.length_cons, List.length_nil]; omega)) only [go_sem]
  refine allocC_by fun b3 h3 => ?_
  have D3 : Drop (σ.set b3 (some (.obj (Nd.cs o m s a b KL)))) σ := Drop.set h3
  have T3 : Tab (σ.set b3 (some (.obj (Nd.cs o m s a b KL)))) := hT.new h3
  have M3 : MaxL (σ.set b3 (some (.obj (Nd.cs o m s a b KL)))) := hM.set h3
  have U3 : U8 (σ.set b3 (some (.obj (Nd.cs o m s a b KL)))) := hU.set h3
  have r3 : (σ.set b3 (some (.obj (Nd.cs o m s a b KL)))) b3 = some (.obj (Nd.cs o m s a b KL)) := ASt.set_same _ _ _
  simp (disch := first | assumption | omega | (simp only [List.length_append, List.length_cons, List.length_nil]; omega)) only [go_sem, Nat.reduceEqDiff, Nat.reduceAdd, Nat.reduceLeDiff, ↓reduceIte, ASt.set_set]
  generalize σ.set b3 (some (.obj (Nd.cs o m s a b KL))) = τ at *
  refine allocC_by fun b4 h4 => ?_
  have n34 : b3 ≠ b4 := by rintro rfl; rw [r3] at h4; cases h4
  have r34 : ∀ X : Option Role, (τ.set b4 X) b3 = some (.obj (Nd.cs o m s a b KL)) := fun X => by rw [ASt.set_ne n34]; exact r3
  simp (disch := first | assumption | omega | (simp only [List.length_append, List.length_cons, List.length_nil]; omega)) only [go_sem, Nat.reduceEqDiff, Nat.reduceLeDiff, ↓reduceIte, r34]
  refine (hW τ b4 [] _ (W.new h4) (by simp only [List.length_nil]; omega)).mono ?_
  rintro v σ1 ⟨rfl, W1⟩
  rw [List.nil_append] at W1
  have T1 := W1.tab h4 T3
  have M1 := W1.max h4 M3
  have U1 := U3.over2 W1 h4
  have r1 : σ1 b3 = some (.obj (Nd.cs o m s a b KL)) := W1.at n34 r3
  have D1 := (W1.drop h4).trans D3
  simp (disch := first | assumption | omega | (simp only [List.length_append, List.length_cons, List.length_nil]; omega)) only [go_sem, Nat.reduceEqDiff, ↓reduceIte]
  refine (wbytes_ok _ b4 B _ W1).mono ?_
  rintro v σ2 ⟨rfl, rfl⟩
  simp (disch := first | assumption | omega | (simp only [List.length_append, List.length_cons, List.length_nil]; omega)) only [go_sem, ↓reduceIte]
  refine (hRd _).mono ?_
  rintro v σ3 ⟨b5, rfl, h5, rfl⟩
  simp (disch := first | assumption | omega | (simp only [List.length_append, List.length_cons, List.length_nil]; omega)) only [go_sem, ↓reduceIte]
  refine (hR b5 _ (U1.set h5) (ASt.set_same _ _ _)).mono ?_
  rintro v σ3 ⟨rfl, rfl⟩
  rw [ASt.set_set]
  have D5 : ∀ X : Option Role, Drop (σ2.set b5 X) σ := fun X => (Drop.set h5).trans D1
  have T5 : ∀ X : Option Role, Tab (σ2.set b5 X) := fun X => T1.new h5
  have n35 : b3 ≠ b5 := by rintro rfl; rw [r1] at h5; cases h5
  have r5 : ∀ X : Option Role, (σ2.set b5 X) b5 = X := fun X => ASt.set_same _ _ _
  have r53 : ∀ X : Option Role, (σ2.set b5 X) b3 = some (.obj (Nd.cs o m s a b KL)) := fun X => by rw [ASt.set_ne n35]; exact r1
  have M5 : MaxL (σ2.set b5 (rd B B.length 0)) := M1.set h5
  have T5 := T5 (rd B B.length 0)
  have D5 := D5 (rd B B.length 0)
  have r5 := r5 (rd B B.length 0)
  have r53 := r53 (rd B B.length 0)
  generalize σ2.set b5 (rd B B.length 0) = ρ at *
  simp (disch := first | assumption | omega | (simp only [List.length_append, List.length_cons, List.length_nil]; omega)) only [go_sem, Nat.reduceEqDiff, ↓reduceIte]
  refine allocC_by fun b6 h6 => ?_
  have n56 : b5 ≠ b6 := by rintro rfl; rw [r5] at h6; simp [rd] at h6
  have n36 : b3 ≠ b6 := by rintro rfl; rw [r53] at h6; cases h6
  have r63 : ∀ X : Option Role, (ρ.set b6 X) b3 = some (.obj (Nd.cs o m s a b KL)) := fun X => by rw [ASt.set_ne n36]; exact r53
  have r65 : ∀ X : Option Role, (ρ.set b6 X) b5 = rd B B.length 0 := fun X => by rw [ASt.set_ne n56]; exact r5
  simp (disch := first | assumption | omega | (simp only [List.length_append, List.length_cons, List.length_nil]; omega)) only [go_sem, Nat.reduceEqDiff, Nat.reduceAdd, Nat.reduceLeDiff, ↓reduceIte, ASt.set_set]
  refine (eawake_ok (T5.new h6) (M5.set h6 (r := some (.obj (Nd.cs o m s a b KL))))).mono ?_
  rintro v σ4 ⟨rfl, rfl⟩
  simp (disch := first | assumption | omega | (simp only [List.length_append, List.length_cons, List.length_nil]; omega)) only [go_sem, Nat.reduceEqDiff, ↓reduceIte]
  have hDn := rdone_ok B B.length 0 b5 _ (r65 (some (.obj (Nd.cs o m s a b KL))))
  rw [if_neg (by omega), set_self (r65 _)] at hDn
  refine hDn.mono ?_
  rintro v σ4 ⟨rfl, rfl⟩
  simp (disch := first | assumption | omega | (simp only [List.length_append, List.length_cons, List.length_nil]; omega)) only [go_sem, Nat.reduceEqDiff, Nat.reduceLeDiff, ↓reduceIte, r63]
  refine hS.use ?_
  simp (disch := first | assumption | omega | (simp only [List.length_append, List.length_cons, List.length_nil]; omega)) only [go_sem, Nat.reduceEqDiff, ↓reduceIte]
  exact retC_by ((Drop.set h6).trans D5) (.refl _) ⟨rfl, rfl⟩
end Go.A
namespace Go.Proofs.YtennoafgkkoeaaaGreatDoor
open Go Go.ChangeShapes Go.WideShapes Go.ChangeAt Go.RowKit Go.A Go.Lib Go.Shelf
set_option maxRecDepth 100000
set_option linter.unusedSimpArgs false
set_option linter.unusedVariables false
theorem row_own : ownKnob Tryz.prog.godebug = none := by kernel_rfl
theorem row_laid : laidOutB Tryz.prog = true := by kernel_rfl
theorem first_eq : Rows.laid_unicode_utf8_first = firstData := by kernel_rfl
theorem acc_eq : (Rows.laid_unicode_utf8_acceptRanges : DataW Unit) = acceptData := by kernel_rfl
theorem u8_extra : U8Extra Tryz.prog Tryz.lays260_ren := ⟨by kernel_rfl, by kernel_rfl, by kernel_rfl, by kernel_rfl, by kernel_rfl, by kernel_rfl, by kernel_rfl⟩
theorem var_size {P : Program} {w : World} {n : String} {d : DataW Unit} (h : VarReads P w n d) {g : Nat} (hg : P.globalNamed n = some g) {t e : TypeId} {k : Nat} (hty : (P.globals[g]?).map (·.type) = some t) (ht : P.underlying t = some (.array k e)) :
    ∃ cs T fr, w.heap[g]? = some (.cells cs T fr) ∧ cs.size = P.cellsOf t := by
  obtain ⟨g', t', cs, fuel, p, hg', hty', hvar, hd⟩ := h
  obtain rfl := Option.some.inj (hg.symm.trans hg')
  obtain rfl := Option.some.inj (hty.symm.trans hty')
  have hlen : cs.toList.length = P.cellsOf t := by
    cases fuel with
    | zero => simp [DataW.trod] at hd
    | succ fuel =>
      simp only [DataW.trod, ht] at hd
      split at hd
      · assumption
      · cases hd
  unfold World.var? at hvar
  rw [hg, Option.bind_some] at hvar
  split at hvar
  · rename_i cs' T fr hheap
    injection hvar with hvar
    subst hvar
    exact ⟨_, _, _, hheap, by simpa using hlen⟩
  · cases hvar
theorem ints_reps {σ : ASt} {w : World} {k : IntKind} : ∀ zs : List Int, Reps σ w (zs.map (AV.int k)) (zs.map (Value.int k))
  | [] => .nil
  | z :: zs => .cons (.int k z) (ints_reps zs)
theorem fix_ok {σ : ASt} {W : World} {b : Nat} {zs : List Int} (hs : σ b = some (.fix (zs.map (AV.int .u8)))) {cs : Array Value} {T : TypeId} {fr : Nat × Nat} (hh : W.heap[b]? = some (.cells cs T fr)) (hsz : cs.size = zs.length)
    (hc : ∀ j z, zs[j]? = some z → W.cell? ⟨b, j, none⟩ = some (.int .u8 z)) : RoleOk σ W b (.fix (zs.map (AV.int .u8))) := by
  have hlt : b < W.heap.size := (Array.getElem?_eq_some_iff.1 hh).1
  refine ⟨At.mk' (ints_reps _) (fun j _ => ⟨hlt, .inr (.inl ⟨_, hs⟩)⟩) (fun j v hj => ?_), cs, T, fr, hh, by simpa using hsz⟩
  rw [List.getElem?_map] at hj
  obtain ⟨z, hz, rfl⟩ := Option.map_eq_some_iff.1 hj
  rw [Nat.zero_add]
  exact hc j z hz
def stOf : List (Nat × List AV) → ASt
  | [], _ => none
  | p :: ps, b => if b = p.1 then some (.fix p.2) else stOf ps b
theorem stOf_fix : ∀ {ps : List (Nat × List AV)} {b : Nat} {r : Role}, stOf ps b = some r → ∃ l, r = .fix l
  | [], _, _, h => by cases h
  | p :: ps, b, r, h => by
    simp only [stOf] at h
    split at h
    · injection h with h; exact ⟨_, h.symm⟩
    · exact stOf_fix h
theorem stOf_mem : ∀ {ps : List (Nat × List AV)} {b : Nat} {r : Role}, stOf ps b = some r → ∃ l, (b, l) ∈ ps ∧ r = .fix l
  | [], _, _, h => by cases h
  | p :: ps, b, r, h => by
    simp only [stOf] at h
    split at h
    · rename_i hb
      injection h with h
      subst hb
      exact ⟨p.2, List.mem_cons_self, h.symm⟩
    · obtain ⟨l, hl, he⟩ := stOf_mem h
      exact ⟨l, List.mem_cons_of_mem _ hl, he⟩
theorem still_fix {σ : ASt} (hfx : ∀ b r, σ b = some r → ∃ l, r = .fix l) {w : World} {b o : Nat} (h : b < w.heap.size) : Still σ w b o := by
  refine ⟨h, ?_⟩
  cases hb : σ b with
  | none => exact .inl rfl
  | some r => obtain ⟨l, rfl⟩ := hfx b r hb; exact .inr (.inl ⟨_, rfl⟩)
end Go.Proofs.YtennoafgkkoeaaaGreatDoor
namespace Go.A
section
variable {σ : ASt} {w : World}
theorem Still.fixed (hfx : ∀ b r, σ b = some r → ∃ l, r = .fix l) {b o : Nat} (h : Still noRole w b o) : Still σ w b o := by
  refine ⟨h.1, ?_⟩
  cases hb : σ b with
  | none => exact .inl rfl
  | some r => obtain ⟨l, rfl⟩ := hfx b r hb; exact .inr (.inl ⟨_, rfl⟩)
theorem Stands.fixed (hfx : ∀ b r, σ b = some r → ∃ l, r = .fix l) (b : Nat) : Stands σ b := by
  refine ⟨fun cs h => ?_, fun l p h => ?_, fun T cs h => ?_⟩ <;> (obtain ⟨l, hl⟩ := hfx b _ h; cases hl)
theorem SK.ok_fixed (hfx : ∀ b r, σ b = some r → ∃ l, r = .fix l) {k : SK} {b o n c sz : Nat} (h : k.ok noRole w b o n c sz) : k.ok σ w b o n c sz := by
  cases k with
  | shr => trivial
  | full => exact h
  | tok t s T => exact ⟨h.1, h.2.1, h.2.2.1, h.2.2.2.1, Stands.fixed hfx b⟩
mutual
theorem Rep.fixed (hfx : ∀ b r, σ b = some r → ∃ l, r = .fix l) : ∀ {a : AV} {v : Value}, Rep noRole w a v → Rep σ w a v
  | _, _, .any v => .any v
  | _, _, .bool b => .bool b
  | _, _, .int k n => .int k n
  | _, _, .str l => .str l
  | _, _, .ptr b o => .ptr b o
  | _, _, .imm h1 => .imm (h1.fixed hfx)
  | _, _, .nilp => .nilp
  | _, _, .slE A c => .slE A c
  | _, _, .slN => .slN
  | _, _, .sl h1 h2 h3 h4 h5 => .sl (h1.fixed hfx) h2 h3 (SK.ok_fixed hfx h4) h5
  | _, _, .msl b o n c => .msl b o n c
  | _, _, .agg h1 => .agg (h1.fixed hfx)
  | _, _, .tuple h1 => .tuple (h1.fixed hfx)
  | _, _, .iface h1 => .iface (h1.fixed hfx)
  | _, _, .nili => .nili
  | _, _, .func h1 h2 => .func (h1.fixed hfx) (h2.fixed hfx)
  | _, _, .nilf => .nilf
theorem Reps.fixed (hfx : ∀ b r, σ b = some r → ∃ l, r = .fix l) : ∀ {avs : List AV} {vs : List Value}, Reps noRole w avs vs → Reps σ w avs vs
  | _, _, .nil => .nil
  | _, _, .cons h1 h2 => .cons (h1.fixed hfx) (h2.fixed hfx)
theorem At.fixed (hfx : ∀ b r, σ b = some r → ∃ l, r = .fix l) : ∀ {b o : Nat} {avs : List AV}, At noRole w b o avs → At σ w b o avs
  | _, _, _, .nil b o => .nil b o
  | _, _, _, .cons h1 h2 h3 h4 => .cons (h1.fixed hfx) h2 (h3.fixed hfx) (h4.fixed hfx)
theorem Row.fixed (hfx : ∀ b r, σ b = some r → ∃ l, r = .fix l) : ∀ {b o sz : Nat} {avs : List AV}, Row noRole w b o sz avs → Row σ w b o sz avs
  | _, _, _, _, .nil b o sz => .nil b o sz
  | _, _, _, _, .cons h1 h2 h3 => .cons h1 (h2.fixed hfx) (h3.fixed hfx)
end
end
end Go.A
namespace Go.Proofs.YtennoafgkkoeaaaGreatDoor
open Go Go.ChangeShapes Go.WideShapes Go.ChangeAt Go.RowKit Go.A Go.Lib Go.Shelf
theorem u8_roles {σ : ASt} {W : World} (h3 : VarReads Tryz.prog W "unicode/utf8.first" firstData) (h4 : VarReads Tryz.prog W "unicode/utf8.acceptRanges" acceptData) :
    (σ 0 = some (.fix (firstTab.map (AV.int .u8))) → RoleOk σ W 0 (.fix (firstTab.map (AV.int .u8)))) ∧ (σ 1 = some (.fix (accTab.map (AV.int .u8))) → RoleOk σ W 1 (.fix (accTab.map (AV.int .u8)))) := by
  have hT := utf8Tabs_of_reads (ρ := Tryz.lays260_ren) Tryz.lays260 u8_extra h3 h4
  obtain ⟨hT1, hT2⟩ := hT
  have hT1 : ∀ c, c < 256 → W.cell? ⟨0, c, none⟩ = some (.int .u8 (firstT c)) := hT1
  have hT2 : ∀ i, i < 16 → W.cell? ⟨1, 2 * i, none⟩ = some (.int .u8 (accLo i)) ∧ W.cell? ⟨1, 2 * i + 1, none⟩ = some (.int .u8 (accHi i)) := hT2
  constructor
  · intro hs
    obtain ⟨cs, T, fr, hh, hsz⟩ := var_size h3 (g := 0) (by kernel_rfl) u8_extra.y3 (Tryz.lays260.t119)
    refine fix_ok hs hh (hsz.trans (by kernel_rfl)) fun j z hj => ?_
    have hl := (List.getElem?_eq_some_iff.1 hj).1
    simp only [firstTab, List.length_map, List.length_range] at hl
    simp only [firstTab, List.getElem?_map, List.getElem?_range hl, Option.map_some, Option.some.injEq] at hj
    subst hj
    exact hT1 j hl
  · intro hs
    obtain ⟨cs, T, fr, hh, hsz⟩ := var_size h4 (g := 1) (by kernel_rfl) u8_extra.y4 (Tryz.lays260.t139)
    refine fix_ok hs hh (hsz.trans (by kernel_rfl)) fun j z hj => ?_
    have hl := (List.getElem?_eq_some_iff.1 hj).1
    have key : ∀ j, j < 32 → accTab[j]? = some (if j % 2 = 0 then (accLo (j / 2) : Int) else accHi (j / 2)) := by decide
    have hl : j < 32 := hl
    rw [key j hl] at hj
    injection hj with hj
    subst hj
    obtain ⟨g1, g2⟩ := hT2 (j / 2) (by omega)
    split
    · rw [show 2 * (j / 2) = j by omega] at g1; exact g1
    · rw [show 2 * (j / 2) + 1 = j by omega] at g2; exact g2
theorem pow_role {σ : ASt} {W : World} (hfx : ∀ b r, σ b = some r → ∃ l, r = .fix l) (h3 : VarReads Tryz.prog W "internal/strconv.uint64pow10" (Lib.tabData .u64 Lib.pow10Tab)) :
    RoleOk σ W 2 (.fix (Lib.pow10Tab.map (AV.int .u64))) := by
  obtain ⟨g', t', cs, fuel, p, hg', ht', hvar, hd⟩ := h3
  obtain rfl := Option.some.inj ((show Tryz.prog.globalNamed "internal/strconv.uint64pow10" = some 2 by kernel_rfl).symm.trans hg')
  obtain rfl := Option.some.inj ((show (Tryz.prog.globals[2]?).map (·.type) = some 166 by kernel_rfl).symm.trans ht')
  have hcs := cells_of_tab (n := 20) (e := 84) (k := .u64) (by kernel_rfl) (by kernel_rfl) (by kernel_rfl) (by kernel_rfl) hd
  unfold World.var? at hvar
  rw [show Tryz.prog.globalNamed "internal/strconv.uint64pow10" = some 2 by kernel_rfl, Option.bind_some] at hvar
  split at hvar
  · rename_i cs' T fr hheap
    injection hvar with hvar
    have hlt : 2 < W.heap.size := (Array.getElem?_eq_some_iff.1 hheap).1
    have he : cs' = (Lib.pow10Tab.map fun z => Value.int .u64 z).toArray := by rw [hvar]; exact Array.ext' (by simpa using hcs)
    refine ⟨At.mk' (ints_reps _) (fun j _ => still_fix hfx hlt) (fun j v hj => ?_), cs', T, fr, hheap, by rw [he]; simp⟩
    simp only [World.cell?, hheap, Nat.zero_add, he]
    simpa using hj
  · cases hvar
end Go.Proofs.YtennoafgkkoeaaaGreatDoor
namespace Go.Proofs.YtennoafgkkoeaaaGreatDoor
open Go Go.ChangeShapes Go.WideShapes Go.ChangeAt Go.RowKit Go.A Go.Lib Go.Shelf
set_option maxRecDepth 100000
set_option linter.unusedVariables false
def laidV : List (String × DataW Unit) := [("math/bits.deBruijn32tab", Rows.laid_math_bits_deBruijn32tab), ("math/bits.deBruijn64tab", Rows.laid_math_bits_deBruijn64tab), ("internal/strconv.uint64pow10", Rows.laid_internal_strconv_uint64pow10), ("unicode/utf8.acceptRanges", Rows.laid_unicode_utf8_acceptRanges), ("unicode/utf8.first", Rows.laid_unicode_utf8_first)]
def vPs : List (Nat × List AV) := [(0, firstTab.map (AV.int .u8)), (1, accTab.map (AV.int .u8)), (2, Lib.pow10Tab.map (AV.int .u64))]
def vSt : ASt := stOf vPs
end Go.Proofs.YtennoafgkkoeaaaGreatDoor
namespace Go
variable {H : Type} {enc : TypeId × Value → H}
theorem A.returnsInHanded_and_shaped {a : Assume} {C : Checked} {os : Os} {f : FuncId} {fn : Func} {s : ChangeSpec} {conds : List PathCond} {apart fresh handsOn again : Bool} {X : World → Array Value → Prop}
    (hX : ∀ (w w' : World) (args : Array Value), w.heap = w'.heap → X w args → X w' args)
    (own : ownKnob C.prog.godebug = none) (started : os.Started) (noInit : C.prog.inits.idxOf? f = none) (hfn : C.prog.funcs[f]? = some fn)
    (witness : ∃ (w : World) (tape : Tape) (i : Input), w.os = os ∧ (w.forCall tape i).Shaped C.prog ∧ i.vars = [] ∧ Input.okWide C.prog (w.forCall tape i) .any w.heap.size f i ∧
      ((s.pre enc C.prog fn conds apart (w.forCall tape i).memory i.args ∧ X (w.forCall tape i).memory i.args) ∧ sizedMet enc C.prog fn (OpenSpec.ofChange s) apart (w.forCall tape i).memory i.args) ∧ a.holds C.prog (lone (Frame.enter C.prog f i.args .normal) [] (w.forCall tape i)))
    (contract : ∀ (W : World) (base : Nat) (args : Array Value) (ds gs : List (DataW H)) (before : List MemPlace),
      (∀ (j : Nat) t v, fn.params[j]? = some t → args[j]? = some v → Value.okWide C.prog W .any base t v) →
      DataW.Whole enc C.prog fn.params.toList s.vars apart W args.toList ds gs before →
      W.ShapedOpen C.prog → X W args →
      Calls C.prog f args W fun e W' => ∃ v, e = .returned v ∧ s.post enc C.prog fn apart fresh handsOn again W args v W') :
    ReturnsInHanded a C os f .any (fun w args => (s.pre enc C.prog fn conds apart w args ∧ X w args) ∧ sizedMet enc C.prog fn (OpenSpec.ofChange s) apart w args) (s.post enc C.prog fn apart fresh handsOn again) := by
  refine returnsInHanded_of_calls own started noInit witness ?_
  intro w tape i _ hsh _ hok hpre hholds
  obtain ⟨_, _, _, fn', hfn', _, _, _, _, hval⟩ := hok
  have e : fn' = fn := Option.some.inj (hfn'.symm.trans hfn)
  subst e
  obtain ⟨⟨⟨ds, gs, before, hw, hc⟩, hx⟩, hz⟩ := hpre
  have hw' := DataW.Whole.of_heap (w' := w.forCall tape i) (by rfl) hw
  refine (contract (w.forCall tape i) w.heap.size i.args ds gs before hval hw' hsh (hX _ _ _ (by rfl) hx)).mono fun e W' ⟨v, he, hp⟩ => ?_
  subst he
  exact ChangeSpec.post_blind hp
end Go
namespace Go.Proofs.YtennoafgkkoeaaaGreatDoor
open Go Go.ChangeShapes Go.WideShapes Go.ChangeAt Go.RowKit Go.A Go.Lib Go.Shelf
set_option maxRecDepth 100000
set_option linter.unusedSimpArgs false
set_option linter.unusedVariables false
def wSt (m : Int) : ASt := fun b => if b = 3 then some (.fix ([m].map (AV.int .i64))) else vSt b
theorem wSt_u8 (m : Int) : U8 (wSt m) := ⟨by simp [wSt, vSt, vPs, stOf], by simp [wSt, vSt, vPs, stOf]⟩
theorem wSt_tab (m : Int) : Tab (wSt m) := by simp [Tab, wSt, vSt, vPs, stOf]
theorem wSt_max (m : Int) : MaxL (wSt m) := ⟨m, by simp [wSt]⟩
theorem wSt_fix {m : Int} {b : Nat} {r : Role} (h : wSt m b = some r) : ∃ l, r = .fix l := by
  unfold wSt at h
  split at h
  · injection h with h; exact ⟨_, h.symm⟩
  · exact stOf_fix h
theorem w_sim {W : World} (hsh : W.ShapedOpen Tryz.prog) (h : laidMetH Tryz.prog laidV W) : ∃ m, Sim (wSt m) W := by
  rw [MakeChecks.laidMetH_plain _ _ _ (by kernel_rfl)] at h
  have hp : VarReads Tryz.prog W "internal/strconv.uint64pow10" (Lib.tabData .u64 Lib.pow10Tab) := Lib.laidMet.reads h (.tail _ (.tail _ (.head _)))
  have h4 : VarReads Tryz.prog W "unicode/utf8.acceptRanges" acceptData := acc_eq ▸ Lib.laidMet.reads h (.tail _ (.tail _ (.tail _ (.head _))))
  have h3 : VarReads Tryz.prog W "unicode/utf8.first" firstData := first_eq ▸ Lib.laidMet.reads h (.tail _ (.tail _ (.tail _ (.tail _ (.head _)))))
  obtain ⟨m, hm⟩ := Tryz.laysM155.s1_3 W hsh
  have hm : W.cell? ⟨3, 0, none⟩ = some (.int .i64 m) := hm
  obtain ⟨cs, hh, hsz, _⟩ := hsh.1 3 #[.int .i64 0] 3 (of_decide_eq_true (by kernel_rfl)) (by kernel_rfl)
  obtain ⟨r1, r2⟩ := u8_roles (σ := wSt m) h3 h4
  refine ⟨m, fun b r hb => ?_⟩
  have hb0 := hb
  unfold wSt at hb
  split at hb
  · rename_i hbb
    subst hbb
    injection hb with hb
    subst hb
    have hlt : 3 < W.heap.size := (Array.getElem?_eq_some_iff.1 hh).1
    refine ⟨At.mk' (ints_reps _) (fun j _ => ⟨hlt, .inr (.inl ⟨_, hb0⟩)⟩) (fun j v hj => ?_), cs, _, _, hh, hsz⟩
    match j, hj with
    | 0, hj => injection hj with hj; subst hj; exact hm
  · obtain ⟨l, hl, rfl⟩ := stOf_mem hb
    simp only [vPs, List.mem_cons, List.not_mem_nil, or_false, Prod.mk.injEq] at hl
    rcases hl with ⟨rfl, rfl⟩ | ⟨rfl, rfl⟩ | ⟨rfl, rfl⟩
    · exact r1 (wSt_u8 m).1
    · exact r2 (wSt_u8 m).2
    · exact pow_role (fun _ _ => wSt_fix) hp
theorem calls_w {m : Int} {f : FuncId} {args : List AV} {vs : List Value} {w : World} (h : ACalls Tryz.prog f args (wSt m) fun r σ' => r = .bool true ∧ σ' = wSt m) (hs : Sim (wSt m) w) (hr : Reps (wSt m) w args vs) :
    Calls Tryz.prog f ⟨vs⟩ w fun e w' => e = .returned (.bool true) ∧ Ext w w' :=
  (h w vs hs hr).mono fun e w' ⟨u, r, σ', he, ⟨hrt, hst⟩, hle, _, hrep⟩ => by
    subst hrt hst
    cases hrep
    refine ⟨he, Ext.of_below ⟨hle.os, hle.tape, hle.output, hle.size, fun k hk => ?_⟩⟩
    cases hn : wSt m k with
    | none => exact (hle.keep k hk hn).2
    | some r =>
      obtain ⟨l, rfl⟩ := wSt_fix hn
      exact (hle.fix k _ hk hn).2
end Go.Proofs.YtennoafgkkoeaaaGreatDoor
namespace Go.Proofs.YtennoafgkkoeaaaGreatDoor
open Go Go.ChangeShapes Go.WideShapes Go.ChangeAt Go.RowKit Go.A
set_option maxRecDepth 100000
def refTy : Ty := .pair (.int .i64) (.pair (.int .i64) (.pair .bool (.pair .bool .unit)))
def partTy : Ty := .pair (.int .i64) (.pair (.int .i64) (.pair .str (.pair refTy (.pair refTy .unit))))
theorem parts_of : ∀ xs : List (List AV), (∀ x ∈ xs, partTy.ok x) → ∃ L : List Pt, xs.map partTy.mk = L.map Pt.av
  | [], _ => ⟨[], rfl⟩
  | x :: xs, h => by
    obtain ⟨L, hL⟩ := parts_of xs fun y hy => h y (List.mem_cons_of_mem _ hy)
    obtain ⟨_, _, rfl, ⟨o, rfl, _⟩, _, _, rfl, ⟨n, rfl, _⟩, _, _, rfl, ⟨s, rfl, _⟩, _, _, rfl, ⟨_, _, rfl, ⟨r1, rfl, _⟩, _, _, rfl, ⟨c1, rfl, _⟩, _, _, rfl, ⟨p1, rfl⟩, _, _, rfl, ⟨q1, rfl⟩, rfl⟩, _, _, rfl, ⟨_, _, rfl, ⟨r2, rfl, _⟩, _, _, rfl, ⟨c2, rfl, _⟩, _, _, rfl, ⟨p2, rfl⟩, _, _, rfl, ⟨q2, rfl⟩, rfl⟩, rfl⟩ := h x List.mem_cons_self
    exact ⟨⟨o, n, s, ⟨r1, c1, p1, q1⟩, ⟨r2, c2, p2, q2⟩⟩ :: L, by rw [List.map_cons, hL]; rfl⟩
end Go.Proofs.YtennoafgkkoeaaaGreatDoor
