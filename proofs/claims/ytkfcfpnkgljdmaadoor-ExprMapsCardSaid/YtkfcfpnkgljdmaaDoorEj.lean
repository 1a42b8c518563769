/- Signs of texts, as the document tells them (lines of Jg, Jm, Jn; for seats without values). · Trees that grow of parts: plain; walked. · Trees that grow of parts, walked. -/
import Derived.Test.YtkfcfpnkgljdmaaDoorZu
import Derived.Test.YtkfcfpnkgljdmaaDoorBp
import Derived.Test.YtkfcfpnkgljdmaaDoorEh
import Derived.Test.YtkfcfpnkgljdmaaDoorCodeEj
namespace Go.A
open Go.Proofs Go.Lib
set_option maxRecDepth 100000
set_option linter.unusedSimpArgs false
set_option linter.unusedVariables false

theorem sgF_step {k : Nat} {r : List UInt8} (h0 : r ≠ []) (hv : decodeL r ≠ (65533, 1)) : sgF (k + 1) r = (sgF k (r.drop (decodeL r).2)).map (· + 1) := by
  rw [sgF, if_neg h0, if_neg hv]
/-- More fuel than bytes: the same. -/
theorem sgT_fuel : ∀ (k m : Nat) (r : List UInt8), r.length < k → r.length < m → sgF k r = sgF m r
  | 0, _, r, h, _ => absurd h (Nat.not_lt_zero _)
  | _, 0, r, _, h => absurd h (Nat.not_lt_zero _)
  | k + 1, m + 1, r, h1, h2 => by
    rw [sgF, sgF]
    by_cases h0 : r = []
    · rw [if_pos h0, if_pos h0]
    · rw [if_neg h0, if_neg h0]
      split
      · rfl
      · have hw := decodeL_width r
        have hl := List.length_pos_iff.2 h0
        rw [sgT_fuel k m _ (by rw [List.length_drop]; omega) (by rw [List.length_drop]; omega)]
def sgT (r : List UInt8) : Option Nat := sgF (r.length + 1) r
theorem sgT_nil : sgT [] = some 0 := rfl
theorem sgT_bad {r : List UInt8} (h0 : r ≠ []) (hv : decodeL r = (65533, 1)) : sgT r = none := by
  unfold sgT
  rw [sgF, if_neg h0, if_pos hv]
theorem sgT_step {r : List UInt8} (h0 : r ≠ []) (hv : decodeL r ≠ (65533, 1)) : sgT r = (sgT (r.drop (decodeL r).2)).map (· + 1) := by
  unfold sgT
  rw [sgF_step h0 hv]
  have hw := decodeL_width r
  have hl := List.length_pos_iff.2 h0
  rw [sgT_fuel r.length ((r.drop (decodeL r).2).length + 1) _ (by rw [List.length_drop]; omega) (by omega)]
/-- What Signs says. -/
def sgAV (s : List UInt8) : AV := match sgT s with
  | some n => .tuple [.int .i64 n, .bool true]
  | none => .tuple [.int .i64 0, .bool false]
/-- A byte that goes on a sign. -/
def moreP (s : List UInt8) (at' lo hi : Nat) : Bool := decide (at' < s.length ∧ lo ≤ (s.getD at' 0).toNat ∧ (s.getD at' 0).toNat ≤ hi)
theorem more_ok (s : List UInt8) (at' lo hi : Nat) (ha : at' ≤ 9000000000000000000) : Pure Tryd.prog 59 [.str s, .int .i64 at', .int .i64 lo, .int .i64 hi] (.bool (moreP s at' lo hi)) := by
  intro σ
  refine a59 (by simp) ?_
  unfold moreP
  by_cases h : at' < s.length
  · have h' : (at' : Int) < s.length := by omega
    have hx : s[at']? = some (s[at']'h) := List.getElem?_eq_getElem h
    obtain ⟨c, hc⟩ : ∃ c, s[at']'h = c := ⟨_, rfl⟩
    rw [hc] at hx
    have hg : s.getD at' 0 = c := by rw [List.getD_eq_getElem?_getD, hx]; rfl
    rw [hg]
    have hcb := u8_lt c
    by_cases h1 : lo ≤ c.toNat
    · have h1' : (lo : Int) ≤ c.toNat := by omega
      by_cases h2 : c.toNat ≤ hi
      · have h2' : (c.toNat : Int) ≤ hi := by omega
        rw [decide_eq_true ⟨h, h1, h2⟩]
        simp (disch := first | assumption | omega | (simp only [List.length_append, List.length_cons, List.length_nil]; omega)) only [go_sem, reduceCtorEq, Nat.reduceEqDiff, Nat.reduceAdd, Nat.reduceSub, Nat.reduceMul, Nat.reduceLeDiff, Int.reduceLT, Int.reduceLE, Int.reduceEq, ↓reduceIte, Int.reduceNeg, Int.reduceAdd, Int.reduceSub, Int.reduceMul, true_imp_iff, forall_const, Nat.mul_one, Int.reduceToNat, Nat.reducePow, Int.reducePow, Bool.true_and, Bool.false_and, Bool.and_false, h', hx, h1', h2']
        exact retC_by (by repeat' (first | exact Drop.refl _ | with_reducible refine Drop.off ?_ (by assumption))) (.refl _) ⟨rfl, rfl⟩
      · have h2' : ¬ (c.toNat : Int) ≤ hi := by omega
        rw [decide_eq_false (fun h => h2 h.2.2)]
        simp (disch := first | assumption | omega | (simp only [List.length_append, List.length_cons, List.length_nil]; omega)) only [go_sem, reduceCtorEq, Nat.reduceEqDiff, Nat.reduceAdd, Nat.reduceSub, Nat.reduceMul, Nat.reduceLeDiff, Int.reduceLT, Int.reduceLE, Int.reduceEq, ↓reduceIte, Int.reduceNeg, Int.reduceAdd, Int.reduceSub, Int.reduceMul, true_imp_iff, forall_const, Nat.mul_one, Int.reduceToNat, Nat.reducePow, Int.reducePow, Bool.true_and, Bool.false_and, Bool.and_false, h', hx, h1', h2']
        exact retC_by (by repeat' (first | exact Drop.refl _ | with_reducible refine Drop.off ?_ (by assumption))) (.refl _) ⟨rfl, rfl⟩
    · have h1' : ¬ (lo : Int) ≤ c.toNat := by omega
      rw [decide_eq_false (fun h => h1 h.2.1)]
      simp (disch := first | assumption | omega | (simp only [List.length_append, List.length_cons, List.length_nil]; omega)) only [go_sem, reduceCtorEq, Nat.reduceEqDiff, Nat.reduceAdd, Nat.reduceSub, Nat.reduceMul, Nat.reduceLeDiff, Int.reduceLT, Int.reduceLE, Int.reduceEq, ↓reduceIte, Int.reduceNeg, Int.reduceAdd, Int.reduceSub, Int.reduceMul, true_imp_iff, forall_const, Nat.mul_one, Int.reduceToNat, Nat.reducePow, Int.reducePow, Bool.true_and, Bool.false_and, Bool.and_false, h', hx, h1']
      exact retC_by (by repeat' (first | exact Drop.refl _ | with_reducible refine Drop.off ?_ (by assumption))) (.refl _) ⟨rfl, rfl⟩
  · have h' : ¬ (at' : Int) < s.length := by omega
    rw [decide_eq_false (fun h2 => h h2.1)]
    simp (disch := first | assumption | omega | (simp only [List.length_append, List.length_cons, List.length_nil]; omega)) only [go_sem, reduceCtorEq, Nat.reduceEqDiff, Nat.reduceAdd, Nat.reduceSub, Nat.reduceMul, Nat.reduceLeDiff, Int.reduceLT, Int.reduceLE, Int.reduceEq, ↓reduceIte, Int.reduceNeg, Int.reduceAdd, Int.reduceSub, Int.reduceMul, true_imp_iff, forall_const, Nat.mul_one, Int.reduceToNat, Nat.reducePow, Int.reducePow, Bool.true_and, Bool.false_and, Bool.and_false, h']
    exact retC_by (by repeat' (first | exact Drop.refl _ | with_reducible refine Drop.off ?_ (by assumption))) (.refl _) ⟨rfl, rfl⟩
/-- How many bytes a sign has; 0: it is none. -/
def sigL (r : List UInt8) : Nat := if r = [] then 0 else if decodeL r = (65533, 1) then 0 else (decodeL r).2
/-- The document's way. -/
def sigN (n b0 b1 b2 b3 : Nat) : Nat :=
  let lo := if b0 = 224 then 160 else if b0 = 240 then 144 else 128
  let hi := if b0 = 237 then 159 else if b0 = 244 then 143 else 191
  if b0 < 128 then 1
  else if 194 ≤ b0 ∧ b0 ≤ 223 ∧ (1 < n ∧ 128 ≤ b1 ∧ b1 ≤ 191) then 2
  else if 224 ≤ b0 ∧ b0 ≤ 239 ∧ (1 < n ∧ lo ≤ b1 ∧ b1 ≤ hi) ∧ (2 < n ∧ 128 ≤ b2 ∧ b2 ≤ 191) then 3
  else if 240 ≤ b0 ∧ b0 ≤ 244 ∧ (1 < n ∧ lo ≤ b1 ∧ b1 ≤ hi) ∧ (2 < n ∧ 128 ≤ b2 ∧ b2 ≤ 191) ∧ (3 < n ∧ 128 ≤ b3 ∧ b3 ≤ 191) then 4
  else 0
set_option maxHeartbeats 2000000 in
theorem sigN_eq {n b0 b1 b2 b3 : Nat} (h0 : b0 < 256) (h1 : b1 < 256) (h2 : b2 < 256) (h3 : b3 < 256) : sigN n b0 b1 b2 b3 = if decodeN n b0 b1 b2 b3 = (65533, 1) then 0 else (decodeN n b0 b1 b2 b3).2 := by
  have key : ∀ (x : Nat × Nat) (v : Nat), v = (if x = (65533, 1) then 0 else x.2) ↔ (x.1 = 65533 ∧ x.2 = 1 → v = 0) ∧ (¬ (x.1 = 65533 ∧ x.2 = 1) → v = x.2) := by
    intro x v
    obtain ⟨x1, x2⟩ := x
    simp only [Prod.mk.injEq]
    split
    · rename_i h; exact ⟨fun e => ⟨fun _ => e, fun hn => absurd h hn⟩, fun hh => hh.1 h⟩
    · rename_i h; exact ⟨fun e => ⟨fun hh => absurd hh h, fun _ => e⟩, fun hh => hh.2 h⟩
  rw [key]
  unfold sigN decodeN
  dsimp only
  by_cases c1 : b0 < 128
  · simp only [if_pos c1]; exact ⟨fun h => by omega, fun _ => trivial⟩
  simp only [if_neg c1]
  by_cases c2 : b0 / 32 = 6
  · rw [if_neg (show ¬ (224 ≤ b0 ∧ b0 ≤ 239 ∧ _) from fun h => by omega), if_neg (show ¬ (240 ≤ b0 ∧ b0 ≤ 244 ∧ _) from fun h => by omega)]
    rw [if_neg (show ¬ (b0 / 16 = 14 ∧ _) from fun h => by omega), if_neg (show ¬ (b0 / 8 = 30 ∧ _) from fun h => by omega)]
    repeat' split
    all_goals (dsimp only; omega)
  rw [if_neg (show ¬ (194 ≤ b0 ∧ b0 ≤ 223 ∧ _) from fun h => by omega), if_neg (show ¬ (b0 / 32 = 6 ∧ _) from fun h => by omega)]
  by_cases c3 : b0 / 16 = 14
  · rw [if_neg (show ¬ (240 ≤ b0 ∧ b0 ≤ 244 ∧ _) from fun h => by omega), if_neg (show ¬ (b0 / 8 = 30 ∧ _) from fun h => by omega)]
    rw [if_neg (show ¬ b0 = 240 by omega), if_neg (show ¬ b0 = 244 by omega)]
    repeat' split
    all_goals (dsimp only; omega)
  rw [if_neg (show ¬ (224 ≤ b0 ∧ b0 ≤ 239 ∧ _) from fun h => by omega), if_neg (show ¬ (b0 / 16 = 14 ∧ _) from fun h => by omega)]
  rw [if_neg (show ¬ b0 = 224 by omega), if_neg (show ¬ b0 = 237 by omega)]
  repeat' split
  all_goals (dsimp only; omega)
theorem sigL_N {r : List UInt8} (h : r ≠ []) : sigL r = sigN r.length (r.getD 0 0).toNat (r.getD 1 0).toNat (r.getD 2 0).toNat (r.getD 3 0).toNat := by
  unfold sigL
  rw [if_neg h, decodeL_N, sigN_eq (UInt8.toNat_lt _) (UInt8.toNat_lt _) (UInt8.toNat_lt _) (UInt8.toNat_lt _)]
theorem more_at (s : List UInt8) (p k lo hi : Nat) (hp : p + k ≤ 9000000000000000000) : Pure Tryd.prog 59 [.str s, .int .i64 ((p : Int) + k), .int .i64 lo, .int .i64 hi] (.bool (moreP s (p + k) lo hi)) := by
  have := more_ok s (p + k) lo hi hp
  rw [Int.natCast_add] at this
  exact this
theorem more_iff (s : List UInt8) (p k lo hi : Nat) (hp : p ≤ s.length) : moreP s (p + k) lo hi = true ↔ (k < (s.drop p).length ∧ lo ≤ ((s.drop p).getD k 0).toNat ∧ ((s.drop p).getD k 0).toNat ≤ hi) := by
  unfold moreP
  rw [decide_eq_true_eq, getD_dropU, List.length_drop]
  constructor
  · rintro ⟨h1, h2, h3⟩; exact ⟨by omega, h2, h3⟩
  · rintro ⟨h1, h2, h3⟩; exact ⟨by omega, h2, h3⟩
set_option maxHeartbeats 2000000 in
theorem rsign_ok (s : List UInt8) (p : Nat) (hp : p ≤ s.length) (hl : s.length ≤ 4611686018427387904) : Pure Tryd.prog 48 [.str s, .int .i64 p] (.int .i64 (sigL (s.drop p) : Nat)) := by
  intro σ
  refine a48 (by simp) ?_
  by_cases hlt : p < s.length
  · have hlt' : ¬ (s.length : Int) ≤ p := by omega
    have hne : s.drop p ≠ [] := by
      intro e
      have := congrArg List.length e
      rw [List.length_drop] at this
      simp at this
      omega
    have hx : s[p]? = some (s[p]'hlt) := List.getElem?_eq_getElem hlt
    obtain ⟨c, hc⟩ : ∃ c, s[p]'hlt = c := ⟨_, rfl⟩
    rw [hc] at hx
    have hb0 : ((s.drop p).getD 0 0).toNat = c.toNat := by rw [getD_dropU, List.getD_eq_getElem?_getD, Nat.add_zero, hx]; rfl
    rw [sigL_N hne, hb0]
    have hcb := u8_lt c
    have m1 := more_iff s p 1 128 191 hp
    have m2 := more_iff s p 2 128 191 hp
    have m3 := more_iff s p 3 128 191 hp
    have q1 := more_at s p 1 128 191 (by omega)
    have q2 := more_at s p 2 128 191 (by omega)
    have q3 := more_at s p 3 128 191 (by omega)
    have mm := fun lo hi => more_iff s p 1 lo hi hp
    have qq := fun lo hi => more_at s p 1 lo hi (by omega)
    generalize ((s.drop p).getD 1 0).toNat = b1 at *
    generalize ((s.drop p).getD 2 0).toNat = b2 at *
    generalize ((s.drop p).getD 3 0).toNat = b3 at *
    generalize (s.drop p).length = n at *
    obtain ⟨C, hC⟩ : ∃ C, c.toNat = C := ⟨_, rfl⟩
    rw [hC] at hcb ⊢
    have e1 : ((1 : Nat) : Int) = 1 := rfl
    have e2 : ((2 : Nat) : Int) = 2 := rfl
    have e3 : ((3 : Nat) : Int) = 3 := rfl
    have e128 : ((128 : Nat) : Int) = 128 := rfl
    have e191 : ((191 : Nat) : Int) = 191 := rfl
    rw [e1, e128, e191] at q1
    rw [e2, e128, e191] at q2
    rw [e3, e128, e191] at q3
    simp only [e1] at qq
    generalize hM1 : moreP s (p + 1) 128 191 = M1 at *
    generalize moreP s (p + 2) 128 191 = M2 at *
    generalize moreP s (p + 3) 128 191 = M3 at *
    obtain ⟨F, hF⟩ : ∃ F, F = ACode.wp Tryd.prog c48_47 := ⟨_, rfl⟩
    have tail : ∀ (a1 : AFr) (lo hi : Nat) (T : Nat), (a1 0 = .str s ∧ a1 1 = .int .i64 p ∧ a1 5 = .int .i64 C ∧ a1 6 = .int .i64 lo ∧ a1 7 = .int .i64 hi) →
        T = (if 224 ≤ C ∧ C ≤ 239 ∧ moreP s (p + 1) lo hi = true ∧ M2 = true then 3 else if 240 ≤ C ∧ C ≤ 244 ∧ moreP s (p + 1) lo hi = true ∧ M2 = true ∧ M3 = true then 4 else 0) → F (RetQ [.t 4] fun v σ' => v = .int .i64 T ∧ σ' = σ) a1 σ := by
      intro a1 lo hi T hf hT
      rw [hF]
      have q := qq lo hi
      generalize moreP s (p + 1) lo hi = M at *
      by_cases g1 : 224 ≤ C
      · have g1' : (224 : Int) ≤ C := by omega
        by_cases g2 : C ≤ 239
        · have g2' : (C : Int) ≤ 239 := by omega
          have g3' : ¬ (240 : Int) ≤ C := by omega
          simp (disch := first | assumption | omega | (simp only [List.length_append, List.length_cons, List.length_nil]; omega)) only [go_sem, reduceCtorEq, Nat.reduceEqDiff, Nat.reduceAdd, Nat.reduceSub, Nat.reduceMul, Nat.reduceLeDiff, Int.reduceLT, Int.reduceLE, Int.reduceEq, ↓reduceIte, Int.reduceNeg, Int.reduceAdd, Int.reduceSub, Int.reduceMul, true_imp_iff, forall_const, Nat.mul_one, Int.reduceToNat, Nat.reducePow, Int.reducePow, Bool.true_and, Bool.false_and, Bool.and_false, hf, g1', g2']
          refine q.use ?_
          cases M with
          | false =>
            rw [if_neg (by simp), if_neg (by simp)] at hT
            subst hT
            simp (disch := first | assumption | omega | (simp only [List.length_append, List.length_cons, List.length_nil]; omega)) only [go_sem, reduceCtorEq, Nat.reduceEqDiff, Nat.reduceAdd, Nat.reduceSub, Nat.reduceMul, Nat.reduceLeDiff, Int.reduceLT, Int.reduceLE, Int.reduceEq, ↓reduceIte, Int.reduceNeg, Int.reduceAdd, Int.reduceSub, Int.reduceMul, true_imp_iff, forall_const, Nat.mul_one, Int.reduceToNat, Nat.reducePow, Int.reducePow, Bool.true_and, Bool.false_and, Bool.and_false, hf, g3']
            exact retC_by (by repeat' (first | exact Drop.refl _ | with_reducible refine Drop.off ?_ (by assumption))) (.refl _) ⟨rfl, rfl⟩
          | true =>
            simp (disch := first | assumption | omega | (simp only [List.length_append, List.length_cons, List.length_nil]; omega)) only [go_sem, reduceCtorEq, Nat.reduceEqDiff, Nat.reduceAdd, Nat.reduceSub, Nat.reduceMul, Nat.reduceLeDiff, Int.reduceLT, Int.reduceLE, Int.reduceEq, ↓reduceIte, Int.reduceNeg, Int.reduceAdd, Int.reduceSub, Int.reduceMul, true_imp_iff, forall_const, Nat.mul_one, Int.reduceToNat, Nat.reducePow, Int.reducePow, Bool.true_and, Bool.false_and, Bool.and_false, hf]
            refine q2.use ?_
            cases M2 with
            | false =>
              rw [if_neg (by simp), if_neg (by simp)] at hT
              subst hT
              simp (disch := first | assumption | omega | (simp only [List.length_append, List.length_cons, List.length_nil]; omega)) only [go_sem, reduceCtorEq, Nat.reduceEqDiff, Nat.reduceAdd, Nat.reduceSub, Nat.reduceMul, Nat.reduceLeDiff, Int.reduceLT, Int.reduceLE, Int.reduceEq, ↓reduceIte, Int.reduceNeg, Int.reduceAdd, Int.reduceSub, Int.reduceMul, true_imp_iff, forall_const, Nat.mul_one, Int.reduceToNat, Nat.reducePow, Int.reducePow, Bool.true_and, Bool.false_and, Bool.and_false, hf, g3']
              exact retC_by (by repeat' (first | exact Drop.refl _ | with_reducible refine Drop.off ?_ (by assumption))) (.refl _) ⟨rfl, rfl⟩
            | true =>
              rw [if_pos ⟨g1, g2, rfl, rfl⟩] at hT
              subst hT
              simp (disch := first | assumption | omega | (simp only [List.length_append, List.length_cons, List.length_nil]; omega)) only [go_sem, reduceCtorEq, Nat.reduceEqDiff, Nat.reduceAdd, Nat.reduceSub, Nat.reduceMul, Nat.reduceLeDiff, Int.reduceLT, Int.reduceLE, Int.reduceEq, ↓reduceIte, Int.reduceNeg, Int.reduceAdd, Int.reduceSub, Int.reduceMul, true_imp_iff, forall_const, Nat.mul_one, Int.reduceToNat, Nat.reducePow, Int.reducePow, Bool.true_and, Bool.false_and, Bool.and_false, hf]
              exact retC_by (by repeat' (first | exact Drop.refl _ | with_reducible refine Drop.off ?_ (by assumption))) (.refl _) ⟨rfl, rfl⟩
        · have g2' : ¬ (C : Int) ≤ 239 := by omega
          have g3' : (240 : Int) ≤ C := by omega
          rw [if_neg (fun h => g2 h.2.1)] at hT
          by_cases g4 : C ≤ 244
          · have g4' : (C : Int) ≤ 244 := by omega
            simp (disch := first | assumption | omega | (simp only [List.length_append, List.length_cons, List.length_nil]; omega)) only [go_sem, reduceCtorEq, Nat.reduceEqDiff, Nat.reduceAdd, Nat.reduceSub, Nat.reduceMul, Nat.reduceLeDiff, Int.reduceLT, Int.reduceLE, Int.reduceEq, ↓reduceIte, Int.reduceNeg, Int.reduceAdd, Int.reduceSub, Int.reduceMul, true_imp_iff, forall_const, Nat.mul_one, Int.reduceToNat, Nat.reducePow, Int.reducePow, Bool.true_and, Bool.false_and, Bool.and_false, hf, g1', g2', g3', g4']
            refine q.use ?_
            cases M with
            | false =>
              rw [if_neg (by simp)] at hT
              subst hT
              simp (disch := first | assumption | omega | (simp only [List.length_append, List.length_cons, List.length_nil]; omega)) only [go_sem, reduceCtorEq, Nat.reduceEqDiff, Nat.reduceAdd, Nat.reduceSub, Nat.reduceMul, Nat.reduceLeDiff, Int.reduceLT, Int.reduceLE, Int.reduceEq, ↓reduceIte, Int.reduceNeg, Int.reduceAdd, Int.reduceSub, Int.reduceMul, true_imp_iff, forall_const, Nat.mul_one, Int.reduceToNat, Nat.reducePow, Int.reducePow, Bool.true_and, Bool.false_and, Bool.and_false, hf]
              exact retC_by (by repeat' (first | exact Drop.refl _ | with_reducible refine Drop.off ?_ (by assumption))) (.refl _) ⟨rfl, rfl⟩
            | true =>
              simp (disch := first | assumption | omega | (simp only [List.length_append, List.length_cons, List.length_nil]; omega)) only [go_sem, reduceCtorEq, Nat.reduceEqDiff, Nat.reduceAdd, Nat.reduceSub, Nat.reduceMul, Nat.reduceLeDiff, Int.reduceLT, Int.reduceLE, Int.reduceEq, ↓reduceIte, Int.reduceNeg, Int.reduceAdd, Int.reduceSub, Int.reduceMul, true_imp_iff, forall_const, Nat.mul_one, Int.reduceToNat, Nat.reducePow, Int.reducePow, Bool.true_and, Bool.false_and, Bool.and_false, hf]
              refine q2.use ?_
              cases M2 with
              | false =>
                rw [if_neg (by simp)] at hT
                subst hT
                simp (disch := first | assumption | omega | (simp only [List.length_append, List.length_cons, List.length_nil]; omega)) only [go_sem, reduceCtorEq, Nat.reduceEqDiff, Nat.reduceAdd, Nat.reduceSub, Nat.reduceMul, Nat.reduceLeDiff, Int.reduceLT, Int.reduceLE, Int.reduceEq, ↓reduceIte, Int.reduceNeg, Int.reduceAdd, Int.reduceSub, Int.reduceMul, true_imp_iff, forall_const, Nat.mul_one, Int.reduceToNat, Nat.reducePow, Int.reducePow, Bool.true_and, Bool.false_and, Bool.and_false, hf]
                exact retC_by (by repeat' (first | exact Drop.refl _ | with_reducible refine Drop.off ?_ (by assumption))) (.refl _) ⟨rfl, rfl⟩
              | true =>
                simp (disch := first | assumption | omega | (simp only [List.length_append, List.length_cons, List.length_nil]; omega)) only [go_sem, reduceCtorEq, Nat.reduceEqDiff, Nat.reduceAdd, Nat.reduceSub, Nat.reduceMul, Nat.reduceLeDiff, Int.reduceLT, Int.reduceLE, Int.reduceEq, ↓reduceIte, Int.reduceNeg, Int.reduceAdd, Int.reduceSub, Int.reduceMul, true_imp_iff, forall_const, Nat.mul_one, Int.reduceToNat, Nat.reducePow, Int.reducePow, Bool.true_and, Bool.false_and, Bool.and_false, hf]
                refine q3.use ?_
                cases M3 with
                | false =>
                  rw [if_neg (by simp)] at hT
                  subst hT
                  simp (disch := first | assumption | omega | (simp only [List.length_append, List.length_cons, List.length_nil]; omega)) only [go_sem, reduceCtorEq, Nat.reduceEqDiff, Nat.reduceAdd, Nat.reduceSub, Nat.reduceMul, Nat.reduceLeDiff, Int.reduceLT, Int.reduceLE, Int.reduceEq, ↓reduceIte, Int.reduceNeg, Int.reduceAdd, Int.reduceSub, Int.reduceMul, true_imp_iff, forall_const, Nat.mul_one, Int.reduceToNat, Nat.reducePow, Int.reducePow, Bool.true_and, Bool.false_and, Bool.and_false, hf]
                  exact retC_by (by repeat' (first | exact Drop.refl _ | with_reducible refine Drop.off ?_ (by assumption))) (.refl _) ⟨rfl, rfl⟩
                | true =>
                  rw [if_pos ⟨by omega, g4, rfl, rfl, rfl⟩] at hT
                  subst hT
                  simp (disch := first | assumption | omega | (simp only [List.length_append, List.length_cons, List.length_nil]; omega)) only [go_sem, reduceCtorEq, Nat.reduceEqDiff, Nat.reduceAdd, Nat.reduceSub, Nat.reduceMul, Nat.reduceLeDiff, Int.reduceLT, Int.reduceLE, Int.reduceEq, ↓reduceIte, Int.reduceNeg, Int.reduceAdd, Int.reduceSub, Int.reduceMul, true_imp_iff, forall_const, Nat.mul_one, Int.reduceToNat, Nat.reducePow, Int.reducePow, Bool.true_and, Bool.false_and, Bool.and_false, hf]
                  exact retC_by (by repeat' (first | exact Drop.refl _ | with_reducible refine Drop.off ?_ (by assumption))) (.refl _) ⟨rfl, rfl⟩
          · have g4' : ¬ (C : Int) ≤ 244 := by omega
            rw [if_neg (fun h => g4 h.2.1)] at hT
            subst hT
            simp (disch := first | assumption | omega | (simp only [List.length_append, List.length_cons, List.length_nil]; omega)) only [go_sem, reduceCtorEq, Nat.reduceEqDiff, Nat.reduceAdd, Nat.reduceSub, Nat.reduceMul, Nat.reduceLeDiff, Int.reduceLT, Int.reduceLE, Int.reduceEq, ↓reduceIte, Int.reduceNeg, Int.reduceAdd, Int.reduceSub, Int.reduceMul, true_imp_iff, forall_const, Nat.mul_one, Int.reduceToNat, Nat.reducePow, Int.reducePow, Bool.true_and, Bool.false_and, Bool.and_false, hf, g1', g2', g3', g4']
            exact retC_by (by repeat' (first | exact Drop.refl _ | with_reducible refine Drop.off ?_ (by assumption))) (.refl _) ⟨rfl, rfl⟩
      · have g1' : ¬ (224 : Int) ≤ C := by omega
        have g3' : ¬ (240 : Int) ≤ C := by omega
        rw [if_neg (fun h => g1 h.1), if_neg (fun h => by omega)] at hT
        subst hT
        simp (disch := first | assumption | omega | (simp only [List.length_append, List.length_cons, List.length_nil]; omega)) only [go_sem, reduceCtorEq, Nat.reduceEqDiff, Nat.reduceAdd, Nat.reduceSub, Nat.reduceMul, Nat.reduceLeDiff, Int.reduceLT, Int.reduceLE, Int.reduceEq, ↓reduceIte, Int.reduceNeg, Int.reduceAdd, Int.reduceSub, Int.reduceMul, true_imp_iff, forall_const, Nat.mul_one, Int.reduceToNat, Nat.reducePow, Int.reducePow, Bool.true_and, Bool.false_and, Bool.and_false, hf, g1', g3']
        exact retC_by (by repeat' (first | exact Drop.refl _ | with_reducible refine Drop.off ?_ (by assumption))) (.refl _) ⟨rfl, rfl⟩
    have hCw : IntKind.i64.wrap (C : Int) = C := by rw [IntKind.wrap_i64]; omega
    by_cases c1 : C < 128
    · have c1' : (C : Int) < 128 := by omega
      unfold sigN
      rw [if_pos c1]
      simp (disch := first | assumption | omega | (simp only [List.length_append, List.length_cons, List.length_nil]; omega)) only [go_sem, reduceCtorEq, Nat.reduceEqDiff, Nat.reduceAdd, Nat.reduceSub, Nat.reduceMul, Nat.reduceLeDiff, Int.reduceLT, Int.reduceLE, Int.reduceEq, ↓reduceIte, Int.reduceNeg, Int.reduceAdd, Int.reduceSub, Int.reduceMul, true_imp_iff, forall_const, Nat.mul_one, Int.reduceToNat, Nat.reducePow, Int.reducePow, Bool.true_and, Bool.false_and, Bool.and_false, hlt', hx, hC, hCw, c1', ←hF]
      exact retC_by (by repeat' (first | exact Drop.refl _ | with_reducible refine Drop.off ?_ (by assumption))) (.refl _) ⟨rfl, rfl⟩
    have c1' : ¬ (C : Int) < 128 := by omega
    have step2 : ∀ (a1 : AFr), ¬ (194 ≤ C ∧ C ≤ 223 ∧ M1 = true) → (a1 0 = .str s ∧ a1 1 = .int .i64 p ∧ a1 5 = .int .i64 C) → ACode.wp Tryd.prog c48_52 (RetQ [.t 4] fun v σ' => v = .int .i64 (sigN n C b1 b2 b3 : Nat) ∧ σ' = σ) a1 σ := by
      intro a1 hno hf
      have fold : ∀ lo hi : Nat, lo = (if C = 224 then 160 else if C = 240 then 144 else 128) → hi = (if C = 237 then 159 else if C = 244 then 143 else 191) → sigN n C b1 b2 b3 = (if 224 ≤ C ∧ C ≤ 239 ∧ moreP s (p + 1) lo hi = true ∧ M2 = true then 3 else if 240 ≤ C ∧ C ≤ 244 ∧ moreP s (p + 1) lo hi = true ∧ M2 = true ∧ M3 = true then 4 else 0) := by
        intro lo hi hlo hhi
        unfold sigN
        dsimp only
        rw [← hlo, ← hhi, if_neg c1, if_neg (fun h => hno ⟨h.1, h.2.1, m1.2 h.2.2⟩)]
        simp only [mm lo hi, m2, m3]
      by_cases k1 : C = 224
      · have k1' : (C : Int) = 224 := by omega
        simp (disch := first | assumption | omega | (simp only [List.length_append, List.length_cons, List.length_nil]; omega)) only [go_sem, reduceCtorEq, Nat.reduceEqDiff, Nat.reduceAdd, Nat.reduceSub, Nat.reduceMul, Nat.reduceLeDiff, Int.reduceLT, Int.reduceLE, Int.reduceEq, ↓reduceIte, Int.reduceNeg, Int.reduceAdd, Int.reduceSub, Int.reduceMul, true_imp_iff, forall_const, Nat.mul_one, Int.reduceToNat, Nat.reducePow, Int.reducePow, Bool.true_and, Bool.false_and, Bool.and_false, hf, k1', ←hF]
        subst k1
        refine tail _ 160 191 _ ?_ (fold 160 191 (by simp) (by simp))
        simp (disch := first | assumption | omega | (simp only [List.length_append, List.length_cons, List.length_nil]; omega)) only [go_sem, reduceCtorEq, Nat.reduceEqDiff, Nat.reduceAdd, Nat.reduceSub, Nat.reduceMul, Nat.reduceLeDiff, Int.reduceLT, Int.reduceLE, Int.reduceEq, ↓reduceIte, Int.reduceNeg, Int.reduceAdd, Int.reduceSub, Int.reduceMul, true_imp_iff, forall_const, Nat.mul_one, Int.reduceToNat, Nat.reducePow, Int.reducePow, Bool.true_and, Bool.false_and, Bool.and_false, hf]
      have k1' : ¬ (C : Int) = 224 := by omega
      by_cases k2 : C = 240
      · have k2' : (C : Int) = 240 := by omega
        simp (disch := first | assumption | omega | (simp only [List.length_append, List.length_cons, List.length_nil]; omega)) only [go_sem, reduceCtorEq, Nat.reduceEqDiff, Nat.reduceAdd, Nat.reduceSub, Nat.reduceMul, Nat.reduceLeDiff, Int.reduceLT, Int.reduceLE, Int.reduceEq, ↓reduceIte, Int.reduceNeg, Int.reduceAdd, Int.reduceSub, Int.reduceMul, true_imp_iff, forall_const, Nat.mul_one, Int.reduceToNat, Nat.reducePow, Int.reducePow, Bool.true_and, Bool.false_and, Bool.and_false, hf, k1', k2', ←hF]
        subst k2
        refine tail _ 144 191 _ ?_ (fold 144 191 (by simp) (by simp))
        simp (disch := first | assumption | omega | (simp only [List.length_append, List.length_cons, List.length_nil]; omega)) only [go_sem, reduceCtorEq, Nat.reduceEqDiff, Nat.reduceAdd, Nat.reduceSub, Nat.reduceMul, Nat.reduceLeDiff, Int.reduceLT, Int.reduceLE, Int.reduceEq, ↓reduceIte, Int.reduceNeg, Int.reduceAdd, Int.reduceSub, Int.reduceMul, true_imp_iff, forall_const, Nat.mul_one, Int.reduceToNat, Nat.reducePow, Int.reducePow, Bool.true_and, Bool.false_and, Bool.and_false, hf]
      have k2' : ¬ (C : Int) = 240 := by omega
      by_cases k3 : C = 237
      · have k3' : (C : Int) = 237 := by omega
        simp (disch := first | assumption | omega | (simp only [List.length_append, List.length_cons, List.length_nil]; omega)) only [go_sem, reduceCtorEq, Nat.reduceEqDiff, Nat.reduceAdd, Nat.reduceSub, Nat.reduceMul, Nat.reduceLeDiff, Int.reduceLT, Int.reduceLE, Int.reduceEq, ↓reduceIte, Int.reduceNeg, Int.reduceAdd, Int.reduceSub, Int.reduceMul, true_imp_iff, forall_const, Nat.mul_one, Int.reduceToNat, Nat.reducePow, Int.reducePow, Bool.true_and, Bool.false_and, Bool.and_false, hf, k1', k2', k3', ←hF]
        subst k3
        refine tail _ 128 159 _ ?_ (fold 128 159 (by simp) (by simp))
        simp (disch := first | assumption | omega | (simp only [List.length_append, List.length_cons, List.length_nil]; omega)) only [go_sem, reduceCtorEq, Nat.reduceEqDiff, Nat.reduceAdd, Nat.reduceSub, Nat.reduceMul, Nat.reduceLeDiff, Int.reduceLT, Int.reduceLE, Int.reduceEq, ↓reduceIte, Int.reduceNeg, Int.reduceAdd, Int.reduceSub, Int.reduceMul, true_imp_iff, forall_const, Nat.mul_one, Int.reduceToNat, Nat.reducePow, Int.reducePow, Bool.true_and, Bool.false_and, Bool.and_false, hf]
      have k3' : ¬ (C : Int) = 237 := by omega
      by_cases k4 : C = 244
      · have k4' : (C : Int) = 244 := by omega
        simp (disch := first | assumption | omega | (simp only [List.length_append, List.length_cons, List.length_nil]; omega)) only [go_sem, reduceCtorEq, Nat.reduceEqDiff, Nat.reduceAdd, Nat.reduceSub, Nat.reduceMul, Nat.reduceLeDiff, Int.reduceLT, Int.reduceLE, Int.reduceEq, ↓reduceIte, Int.reduceNeg, Int.reduceAdd, Int.reduceSub, Int.reduceMul, true_imp_iff, forall_const, Nat.mul_one, Int.reduceToNat, Nat.reducePow, Int.reducePow, Bool.true_and, Bool.false_and, Bool.and_false, hf, k1', k2', k3', k4', ←hF]
        subst k4
        refine tail _ 128 143 _ ?_ (fold 128 143 (by simp) (by simp))
        simp (disch := first | assumption | omega | (simp only [List.length_append, List.length_cons, List.length_nil]; omega)) only [go_sem, reduceCtorEq, Nat.reduceEqDiff, Nat.reduceAdd, Nat.reduceSub, Nat.reduceMul, Nat.reduceLeDiff, Int.reduceLT, Int.reduceLE, Int.reduceEq, ↓reduceIte, Int.reduceNeg, Int.reduceAdd, Int.reduceSub, Int.reduceMul, true_imp_iff, forall_const, Nat.mul_one, Int.reduceToNat, Nat.reducePow, Int.reducePow, Bool.true_and, Bool.false_and, Bool.and_false, hf]
      have k4' : ¬ (C : Int) = 244 := by omega
      simp (disch := first | assumption | omega | (simp only [List.length_append, List.length_cons, List.length_nil]; omega)) only [go_sem, reduceCtorEq, Nat.reduceEqDiff, Nat.reduceAdd, Nat.reduceSub, Nat.reduceMul, Nat.reduceLeDiff, Int.reduceLT, Int.reduceLE, Int.reduceEq, ↓reduceIte, Int.reduceNeg, Int.reduceAdd, Int.reduceSub, Int.reduceMul, true_imp_iff, forall_const, Nat.mul_one, Int.reduceToNat, Nat.reducePow, Int.reducePow, Bool.true_and, Bool.false_and, Bool.and_false, hf, k1', k2', k3', k4', ←hF]
      refine tail _ 128 191 _ ?_ (fold 128 191 (by rw [if_neg k1, if_neg k2]) (by rw [if_neg k3, if_neg k4]))
      simp (disch := first | assumption | omega | (simp only [List.length_append, List.length_cons, List.length_nil]; omega)) only [go_sem, reduceCtorEq, Nat.reduceEqDiff, Nat.reduceAdd, Nat.reduceSub, Nat.reduceMul, Nat.reduceLeDiff, Int.reduceLT, Int.reduceLE, Int.reduceEq, ↓reduceIte, Int.reduceNeg, Int.reduceAdd, Int.reduceSub, Int.reduceMul, true_imp_iff, forall_const, Nat.mul_one, Int.reduceToNat, Nat.reducePow, Int.reducePow, Bool.true_and, Bool.false_and, Bool.and_false, hf]
    obtain ⟨G, hG⟩ : ∃ G, G = ACode.wp Tryd.prog c48_52 := ⟨_, rfl⟩
    rw [← hG] at step2
    by_cases c2 : 194 ≤ C
    · have c2' : (194 : Int) ≤ C := by omega
      by_cases c3 : C ≤ 223
      · have c3' : (C : Int) ≤ 223 := by omega
        simp (disch := first | assumption | omega | (simp only [List.length_append, List.length_cons, List.length_nil]; omega)) only [go_sem, reduceCtorEq, Nat.reduceEqDiff, Nat.reduceAdd, Nat.reduceSub, Nat.reduceMul, Nat.reduceLeDiff, Int.reduceLT, Int.reduceLE, Int.reduceEq, ↓reduceIte, Int.reduceNeg, Int.reduceAdd, Int.reduceSub, Int.reduceMul, true_imp_iff, forall_const, Nat.mul_one, Int.reduceToNat, Nat.reducePow, Int.reducePow, Bool.true_and, Bool.false_and, Bool.and_false, hlt', hx, hC, hCw, c1', c2', c3', ←hG]
        refine q1.use ?_
        cases M1 with
        | true =>
          unfold sigN
          dsimp only
          rw [if_neg c1, if_pos ⟨c2, c3, m1.1 rfl⟩]
          simp (disch := first | assumption | omega | (simp only [List.length_append, List.length_cons, List.length_nil]; omega)) only [go_sem, reduceCtorEq, Nat.reduceEqDiff, Nat.reduceAdd, Nat.reduceSub, Nat.reduceMul, Nat.reduceLeDiff, Int.reduceLT, Int.reduceLE, Int.reduceEq, ↓reduceIte, Int.reduceNeg, Int.reduceAdd, Int.reduceSub, Int.reduceMul, true_imp_iff, forall_const, Nat.mul_one, Int.reduceToNat, Nat.reducePow, Int.reducePow, Bool.true_and, Bool.false_and, Bool.and_false]
          exact retC_by (by repeat' (first | exact Drop.refl _ | with_reducible refine Drop.off ?_ (by assumption))) (.refl _) ⟨rfl, rfl⟩
        | false =>
          simp (disch := first | assumption | omega | (simp only [List.length_append, List.length_cons, List.length_nil]; omega)) only [go_sem, reduceCtorEq, Nat.reduceEqDiff, Nat.reduceAdd, Nat.reduceSub, Nat.reduceMul, Nat.reduceLeDiff, Int.reduceLT, Int.reduceLE, Int.reduceEq, ↓reduceIte, Int.reduceNeg, Int.reduceAdd, Int.reduceSub, Int.reduceMul, true_imp_iff, forall_const, Nat.mul_one, Int.reduceToNat, Nat.reducePow, Int.reducePow, Bool.true_and, Bool.false_and, Bool.and_false, ←hG]
          refine step2 _ (fun h => by cases h.2.2) ?_
          simp (disch := first | assumption | omega | (simp only [List.length_append, List.length_cons, List.length_nil]; omega)) only [go_sem, reduceCtorEq, Nat.reduceEqDiff, Nat.reduceAdd, Nat.reduceSub, Nat.reduceMul, Nat.reduceLeDiff, Int.reduceLT, Int.reduceLE, Int.reduceEq, ↓reduceIte, Int.reduceNeg, Int.reduceAdd, Int.reduceSub, Int.reduceMul, true_imp_iff, forall_const, Nat.mul_one, Int.reduceToNat, Nat.reducePow, Int.reducePow, Bool.true_and, Bool.false_and, Bool.and_false]
      · have c3' : ¬ (C : Int) ≤ 223 := by omega
        simp (disch := first | assumption | omega | (simp only [List.length_append, List.length_cons, List.length_nil]; omega)) only [go_sem, reduceCtorEq, Nat.reduceEqDiff, Nat.reduceAdd, Nat.reduceSub, Nat.reduceMul, Nat.reduceLeDiff, Int.reduceLT, Int.reduceLE, Int.reduceEq, ↓reduceIte, Int.reduceNeg, Int.reduceAdd, Int.reduceSub, Int.reduceMul, true_imp_iff, forall_const, Nat.mul_one, Int.reduceToNat, Nat.reducePow, Int.reducePow, Bool.true_and, Bool.false_and, Bool.and_false, hlt', hx, hC, hCw, c1', c2', c3', ←hG]
        refine step2 _ (fun h => c3 h.2.1) ?_
        simp (disch := first | assumption | omega | (simp only [List.length_append, List.length_cons, List.length_nil]; omega)) only [go_sem, reduceCtorEq, Nat.reduceEqDiff, Nat.reduceAdd, Nat.reduceSub, Nat.reduceMul, Nat.reduceLeDiff, Int.reduceLT, Int.reduceLE, Int.reduceEq, ↓reduceIte, Int.reduceNeg, Int.reduceAdd, Int.reduceSub, Int.reduceMul, true_imp_iff, forall_const, Nat.mul_one, Int.reduceToNat, Nat.reducePow, Int.reducePow, Bool.true_and, Bool.false_and, Bool.and_false]
    · have c2' : ¬ (194 : Int) ≤ C := by omega
      simp (disch := first | assumption | omega | (simp only [List.length_append, List.length_cons, List.length_nil]; omega)) only [go_sem, reduceCtorEq, Nat.reduceEqDiff, Nat.reduceAdd, Nat.reduceSub, Nat.reduceMul, Nat.reduceLeDiff, Int.reduceLT, Int.reduceLE, Int.reduceEq, ↓reduceIte, Int.reduceNeg, Int.reduceAdd, Int.reduceSub, Int.reduceMul, true_imp_iff, forall_const, Nat.mul_one, Int.reduceToNat, Nat.reducePow, Int.reducePow, Bool.true_and, Bool.false_and, Bool.and_false, hlt', hx, hC, hCw, c1', c2', ←hG]
      refine step2 _ (fun h => c2 h.1) ?_
      simp (disch := first | assumption | omega | (simp only [List.length_append, List.length_cons, List.length_nil]; omega)) only [go_sem, reduceCtorEq, Nat.reduceEqDiff, Nat.reduceAdd, Nat.reduceSub, Nat.reduceMul, Nat.reduceLeDiff, Int.reduceLT, Int.reduceLE, Int.reduceEq, ↓reduceIte, Int.reduceNeg, Int.reduceAdd, Int.reduceSub, Int.reduceMul, true_imp_iff, forall_const, Nat.mul_one, Int.reduceToNat, Nat.reducePow, Int.reducePow, Bool.true_and, Bool.false_and, Bool.and_false]
  · have hlt' : (s.length : Int) ≤ p := by omega
    rw [List.drop_eq_nil_of_le (by omega)]
    simp (disch := first | assumption | omega | (simp only [List.length_append, List.length_cons, List.length_nil]; omega)) only [go_sem, reduceCtorEq, Nat.reduceEqDiff, Nat.reduceAdd, Nat.reduceSub, Nat.reduceMul, Nat.reduceLeDiff, Int.reduceLT, Int.reduceLE, Int.reduceEq, ↓reduceIte, Int.reduceNeg, Int.reduceAdd, Int.reduceSub, Int.reduceMul, true_imp_iff, forall_const, Nat.mul_one, Int.reduceToNat, Nat.reducePow, Int.reducePow, Bool.true_and, Bool.false_and, Bool.and_false, hlt']
    exact retC_by (by repeat' (first | exact Drop.refl _ | with_reducible refine Drop.off ?_ (by assumption))) (.refl _) ⟨rfl, rfl⟩
theorem sigL_bad {r : List UInt8} (h0 : r ≠ []) (h : sigL r = 0) : sgT r = none := by
  unfold sigL at h
  rw [if_neg h0] at h
  by_cases hb : decodeL r = (65533, 1)
  · exact sgT_bad h0 hb
  · rw [if_neg hb] at h
    have := decodeL_width r
    omega
theorem sigL_step {r : List UInt8} (h0 : r ≠ []) (h : sigL r ≠ 0) : sgT r = (sgT (r.drop (sigL r))).map (· + 1) ∧ sigL r ≤ r.length := by
  unfold sigL at h ⊢
  rw [if_neg h0] at h ⊢
  by_cases hb : decodeL r = (65533, 1)
  · rw [if_pos hb] at h; exact absurd rfl h
  · rw [if_neg hb]
    exact ⟨sgT_step h0 hb, decodeL_le r h0⟩
set_option maxHeartbeats 1000000 in
theorem rsigns_ok (s : List UInt8) (hl : s.length ≤ 4611686018427387904) : Pure Tryd.prog 34 [.str s] (sgAV s) := by
  intro σ
  refine a34 (by simp) ?_
  obtain ⟨R, hR⟩ : ∃ R, sgT s = R := ⟨_, rfl⟩
  unfold sgAV
  rw [hR]
  simp (disch := first | assumption | omega | (simp only [List.length_append, List.length_cons, List.length_nil]; omega)) only [go_sem, reduceCtorEq, Nat.reduceEqDiff, Nat.reduceAdd, Nat.reduceSub, Nat.reduceMul, Nat.reduceLeDiff, Int.reduceLT, Int.reduceLE, Int.reduceEq, ↓reduceIte, Int.reduceNeg, Int.reduceAdd, Int.reduceSub, Int.reduceMul, true_imp_iff, forall_const, Nat.mul_one, Int.reduceToNat, Nat.reducePow, Int.reducePow, Bool.true_and, Bool.false_and, Bool.and_false]
  refine wp_loop_on (fun (p : Nat) a s2 => p ≤ s.length ∧ (∃ n : Nat, R = (sgT (s.drop p)).map (· + n) ∧ n ≤ p ∧ a 4 = .int .i64 n) ∧ (a 0 = .str s ∧ a 5 = .int .i64 p) ∧ s2 = σ) (fun p => s.length - p) 0 ⟨Nat.zero_le _, ⟨0, ?_, Nat.le_refl _, ?_⟩, ?_, rfl⟩ ?_
  · rw [← hR, List.drop_zero]; cases sgT s <;> rfl
  · simp (disch := first | assumption | omega | (simp only [List.length_append, List.length_cons, List.length_nil]; omega)) only [go_sem, reduceCtorEq, Nat.reduceEqDiff, Nat.reduceAdd, Nat.reduceSub, Nat.reduceMul, Nat.reduceLeDiff, Int.reduceLT, Int.reduceLE, Int.reduceEq, ↓reduceIte, Int.reduceNeg, Int.reduceAdd, Int.reduceSub, Int.reduceMul, true_imp_iff, forall_const, Nat.mul_one, Int.reduceToNat, Nat.reducePow, Int.reducePow, Bool.true_and, Bool.false_and, Bool.and_false]
  · simp (disch := first | assumption | omega | (simp only [List.length_append, List.length_cons, List.length_nil]; omega)) only [go_sem, reduceCtorEq, Nat.reduceEqDiff, Nat.reduceAdd, Nat.reduceSub, Nat.reduceMul, Nat.reduceLeDiff, Int.reduceLT, Int.reduceLE, Int.reduceEq, ↓reduceIte, Int.reduceNeg, Int.reduceAdd, Int.reduceSub, Int.reduceMul, true_imp_iff, forall_const, Nat.mul_one, Int.reduceToNat, Nat.reducePow, Int.reducePow, Bool.true_and, Bool.false_and, Bool.and_false]
  rintro p a s2 ⟨hp, ⟨n, hm, hn, h4⟩, hf, rfl⟩
  by_cases hlt : p < s.length
  · have hlt' : (p : Int) < s.length := by omega
    have hne : s.drop p ≠ [] := by
      intro e
      have := congrArg List.length e
      rw [List.length_drop] at this
      simp at this
      omega
    have hS := rsign_ok s p hp hl
    have hbad := sigL_bad hne
    have hstep := sigL_step hne
    rw [List.length_drop] at hstep
    generalize sigL (s.drop p) = w at *
    by_cases hw : w = 0
    · have hw' : (w : Int) = 0 := by omega
      rw [hbad hw] at hm
      simp only [Option.map_none] at hm
      subst hm
      simp (disch := first | assumption | omega | (simp only [List.length_append, List.length_cons, List.length_nil]; omega)) only [go_sem, reduceCtorEq, Nat.reduceEqDiff, Nat.reduceAdd, Nat.reduceSub, Nat.reduceMul, Nat.reduceLeDiff, Int.reduceLT, Int.reduceLE, Int.reduceEq, ↓reduceIte, Int.reduceNeg, Int.reduceAdd, Int.reduceSub, Int.reduceMul, true_imp_iff, forall_const, Nat.mul_one, Int.reduceToNat, Nat.reducePow, Int.reducePow, Bool.true_and, Bool.false_and, Bool.and_false, hf, h4, hlt']
      refine hS.use ?_
      simp (disch := first | assumption | omega | (simp only [List.length_append, List.length_cons, List.length_nil]; omega)) only [go_sem, reduceCtorEq, Nat.reduceEqDiff, Nat.reduceAdd, Nat.reduceSub, Nat.reduceMul, Nat.reduceLeDiff, Int.reduceLT, Int.reduceLE, Int.reduceEq, ↓reduceIte, Int.reduceNeg, Int.reduceAdd, Int.reduceSub, Int.reduceMul, true_imp_iff, forall_const, Nat.mul_one, Int.reduceToNat, Nat.reducePow, Int.reducePow, Bool.true_and, Bool.false_and, Bool.and_false, hw']
      exact retC_by (by repeat' (first | exact Drop.refl _ | with_reducible refine Drop.off ?_ (by assumption))) (.refl _) ⟨rfl, rfl⟩
    · have hw' : ¬ (w : Int) = 0 := by omega
      obtain ⟨h1, h2⟩ := hstep hw
      rw [h1, List.drop_drop, Option.map_map] at hm
      simp (disch := first | assumption | omega | (simp only [List.length_append, List.length_cons, List.length_nil]; omega)) only [go_sem, reduceCtorEq, Nat.reduceEqDiff, Nat.reduceAdd, Nat.reduceSub, Nat.reduceMul, Nat.reduceLeDiff, Int.reduceLT, Int.reduceLE, Int.reduceEq, ↓reduceIte, Int.reduceNeg, Int.reduceAdd, Int.reduceSub, Int.reduceMul, true_imp_iff, forall_const, Nat.mul_one, Int.reduceToNat, Nat.reducePow, Int.reducePow, Bool.true_and, Bool.false_and, Bool.and_false, hf, h4, hlt']
      refine hS.use ?_
      simp (disch := first | assumption | omega | (simp only [List.length_append, List.length_cons, List.length_nil]; omega)) only [go_sem, reduceCtorEq, Nat.reduceEqDiff, Nat.reduceAdd, Nat.reduceSub, Nat.reduceMul, Nat.reduceLeDiff, Int.reduceLT, Int.reduceLE, Int.reduceEq, ↓reduceIte, Int.reduceNeg, Int.reduceAdd, Int.reduceSub, Int.reduceMul, true_imp_iff, forall_const, Nat.mul_one, Int.reduceToNat, Nat.reducePow, Int.reducePow, Bool.true_and, Bool.false_and, Bool.and_false, hf, h4, hw']
      refine ⟨p + w, by omega, by omega, ⟨n + 1, ?_, by omega, rfl⟩, rfl⟩
      rw [hm]
      congr 1
      funext x
      simp only [Function.comp]
      omega
  · have hlt' : ¬ (p : Int) < s.length := by omega
    rw [List.drop_eq_nil_of_le (by omega), sgT_nil] at hm
    simp only [Option.map_some, Nat.zero_add] at hm
    subst hm
    simp (disch := first | assumption | omega | (simp only [List.length_append, List.length_cons, List.length_nil]; omega)) only [go_sem, reduceCtorEq, Nat.reduceEqDiff, Nat.reduceAdd, Nat.reduceSub, Nat.reduceMul, Nat.reduceLeDiff, Int.reduceLT, Int.reduceLE, Int.reduceEq, ↓reduceIte, Int.reduceNeg, Int.reduceAdd, Int.reduceSub, Int.reduceMul, true_imp_iff, forall_const, Nat.mul_one, Int.reduceToNat, Nat.reducePow, Int.reducePow, Bool.true_and, Bool.false_and, Bool.and_false, hf, h4, hlt']
    exact retC_by (by repeat' (first | exact Drop.refl _ | with_reducible refine Drop.off ?_ (by assumption))) (.refl _) ⟨rfl, rfl⟩
end Go.A
namespace Go.A
open Go.Proofs Go.Lib
set_option maxRecDepth 100000
set_option linter.unusedSimpArgs false
set_option linter.unusedVariables false

structure Pt where
  op : Int
  n : Int
  s : List UInt8
  a : Ref
  b : Ref
  deriving Inhabited
def Pt.cs (p : Pt) : List AV := [.int .i64 p.op, .int .i64 p.n, .str p.s, .int .i64 p.a.row, .int .i64 p.a.col, .bool p.a.absRow, .bool p.a.absCol, .int .i64 p.b.row, .int .i64 p.b.col, .bool p.b.absRow, .bool p.b.absCol]
def Pt.av (p : Pt) : AV := .agg p.cs
section
variable {p : Pt}
@[go_sem] theorem pt_0 : (Pt.cs p)[0]? = some (.int .i64 p.op) := id rfl
@[go_sem] theorem pt_1 : (Pt.cs p)[1]? = some (.int .i64 p.n) := id rfl
@[go_sem] theorem pt_2 : (Pt.cs p)[2]? = some (.str p.s) := id rfl
@[go_sem] theorem pt_len : (Pt.cs p).length = 11 := id rfl
@[go_sem] theorem pt_leaves : leaves (Pt.cs p) = true := id rfl
@[go_sem] theorem pt_take : (Pt.cs p).take 11 = Pt.cs p := id rfl
@[go_sem] theorem pt_drop : (Pt.cs p).drop 11 = [] := id rfl
@[go_sem] theorem pt_ta : ((Pt.cs p).drop 3).take 4 = [.int .i64 p.a.row, .int .i64 p.a.col, .bool p.a.absRow, .bool p.a.absCol] := id rfl
@[go_sem] theorem pt_tb : ((Pt.cs p).drop 7).take 4 = [.int .i64 p.b.row, .int .i64 p.b.col, .bool p.b.absRow, .bool p.b.absCol] := id rfl
end
theorem Pt.get {l : List Pt} {i : Nat} {x : Pt} (h : l[i]? = some x) : (l.map Pt.av)[i]? = some (.agg x.cs) := by rw [List.getElem?_map, h]; rfl
/-- A node whose kids are this slice. -/
def ndV (o m : Int) (s : List UInt8) (a b : Ref) (v : AV) : List AV := [.int .i64 o, .int .i64 m, .str s, .int .i64 a.row, .int .i64 a.col, .bool a.absRow, .bool a.absCol, .int .i64 b.row, .int .i64 b.col, .bool b.absRow, .bool b.absCol, v]
section
variable {o m : Int} {s : List UInt8} {a b : Ref} {v w : AV}
@[go_sem] theorem nv_0 : (ndV o m s a b v)[0]? = some (.int .i64 o) := id rfl
@[go_sem] theorem nv_11 : (ndV o m s a b v)[11]? = some v := id rfl
@[go_sem] theorem nv_len : (ndV o m s a b v).length = 12 := id rfl
@[go_sem] theorem nv_take : (ndV o m s a b v).take 12 = ndV o m s a b v := id rfl
@[go_sem] theorem nv_drop : (ndV o m s a b v).drop 12 = [] := id rfl
@[go_sem] theorem nv_put : (ndV o m s a b v).take 11 ++ [w] ++ (ndV o m s a b v).drop 12 = ndV o m s a b w := id rfl
@[go_sem] theorem nv_put' : (ndV o m s a b v).take 11 ++ (w :: (ndV o m s a b v).drop 12) = ndV o m s a b w := id rfl
@[go_sem] theorem nv_put'' : (ndV o m s a b v).take 11 ++ [w] = ndV o m s a b w := id rfl
theorem nv_leaves (h : v.leaf = true) : leaves (ndV o m s a b v) = true := by
  cases v <;> first | rfl | cases h
end
theorem mod2 (x : Int) {m : Int} (hm : 0 < m) : (-m < x.tmod m ∧ x.tmod m < m) ∧ 0 ≤ (x.tmod m + m).tmod m ∧ (x.tmod m + m).tmod m < m := by
  have h1 := Int.lt_tmod_of_pos x hm
  have h2 := Int.tmod_lt_of_pos x hm
  exact ⟨⟨h1, h2⟩, Int.tmod_nonneg _ (by omega), Int.tmod_lt_of_pos _ hm⟩
def opG (x : Int) : Int := 1 + (x.tmod 23 + 23).tmod 23
def kkG (x : Int) : Int := (x.tmod 100000 + 100000).tmod 100000
def placeR (r : Ref) : Ref := ⟨(r.row.tmod 3000 + 3000).tmod 3000, (r.col.tmod 700 + 700).tmod 700, r.absRow, r.absCol⟩
def cntG (op kk : Int) : Nat := if op = 7 ∨ op = 8 ∨ op = 9 then 1 else if op = 22 then ((kk.tdiv 4).tmod 4).toNat else if 10 ≤ op ∧ op ≤ 21 then 2 else 0
def callL : List (List UInt8) := [[83, 85, 77], [73, 70], [88, 46, 89], [95, 65]]
/-- A part's node, with these kids. -/
def nodeG (p : Pt) (ks : List Nd) : Nd :=
  if opG p.op = 1 then .mk 1 (kkG p.n) [] .zero .zero ks
  else if opG p.op = 3 then .mk 3 ((kkG p.n).tmod 2) [] .zero .zero ks
  else if opG p.op = 4 then .mk 4 ((1 + (kkG p.n).tmod 7) * 10000) [] .zero .zero ks
  else if opG p.op = 2 then .mk 2 0 (if (sgT (p.s.take 20)).isSome = true then p.s.take 20 else []) .zero .zero ks
  else if opG p.op = 5 then .mk 5 0 [] (placeR p.a) .zero ks
  else if opG p.op = 6 then .mk 6 0 [] (placeR p.a) (placeR p.b) ks
  else if opG p.op = 23 then .mk 3 0 [] .zero .zero ks
  else if opG p.op = 22 then .mk 22 0 (callL.getD ((kkG p.n).tmod 4).toNat []) .zero .zero ks
  else .mk (opG p.op) 0 [] .zero .zero ks
def missN : Nd := .mk 23 0 [] .zero .zero []
def missG (op kk : Int) (ks : List Nd) : List Nd := if op = 22 ∧ 1 < ks.length ∧ kk.tmod 3 = 0 then missN :: ks.tail else ks
def growN (g : Nat → Nd × Nat) : Nat → Nat → List Nd × Nat
  | 0, i => ([], i)
  | c + 1, i => ((g i).1 :: (growN g c (g i).2).1, (growN g c (g i).2).2)
def growK (L : List Pt) : Nat → Nat → Nd × Nat
  | 0, i => (.mk 1 0 [] .zero .zero [], i)
  | k + 1, i => match L[i]? with
    | none => (.mk 1 0 [] .zero .zero [], i)
    | some p => (nodeG p (missG (opG p.op) (kkG p.n) (growN (growK L k) (cntG (opG p.op) (kkG p.n)) (i + 1)).1), (growN (growK L k) (cntG (opG p.op) (kkG p.n)) (i + 1)).2)
def growP (L : List Pt) : Nd := (growK (L.take 40) 41 0).1
theorem opG_rng (x : Int) : 1 ≤ opG x ∧ opG x ≤ 23 := by have := (mod2 x (m := 23) (by decide)).2; unfold opG; omega
theorem kkG_rng (x : Int) : 0 ≤ kkG x ∧ kkG x ≤ 99999 := by have := (mod2 x (m := 100000) (by decide)).2; unfold kkG; omega
theorem placeR_good (r : Ref) : (placeR r).good = true := by
  have h1 := (mod2 r.row (m := 3000) (by decide)).2
  have h2 := (mod2 r.col (m := 700) (by decide)).2
  unfold Ref.good placeR
  exact decide_eq_true ⟨h1.1, h1.2, h2.1, h2.2⟩
theorem cntG_le (op kk : Int) (h : 0 ≤ kk) : cntG op kk ≤ 3 := by
  unfold cntG
  repeat' split
  all_goals try omega
  have := Int.tmod_lt_of_pos (kk.tdiv 4) (show (0 : Int) < 4 by decide)
  omega
theorem growN_len (g : Nat → Nd × Nat) : ∀ c i, (growN g c i).1.length = c
  | 0, i => rfl
  | c + 1, i => by rw [growN, List.length_cons, growN_len g c]
theorem missG_len (op kk : Int) (ks : List Nd) : (missG op kk ks).length = ks.length := by
  unfold missG
  split
  · rename_i h
    rw [List.length_cons, List.length_tail]; omega
  · rfl
theorem growN_ge (g : Nat → Nd × Nat) (hg : ∀ i, i ≤ (g i).2) : ∀ c i, i ≤ (growN g c i).2
  | 0, i => Nat.le_refl _
  | c + 1, i => by rw [growN]; exact Nat.le_trans (hg i) (growN_ge g hg c _)
theorem growK_ge (L : List Pt) : ∀ k i, i ≤ (growK L k i).2
  | 0, i => Nat.le_refl _
  | k + 1, i => by
    rw [growK]
    split
    · exact Nat.le_refl _
    · have := growN_ge (growK L k) (growK_ge L k) (cntG (opG (‹Pt› : Pt).op) (kkG (‹Pt› : Pt).n)) (i + 1)
      dsimp only
      omega
theorem growN_le (g : Nat → Nd × Nat) (M : Nat) (hg : ∀ i, i ≤ M → (g i).2 ≤ M) : ∀ c i, i ≤ M → (growN g c i).2 ≤ M
  | 0, i, h => h
  | c + 1, i, h => by rw [growN]; exact growN_le g M hg c _ (hg i h)
theorem growK_le (L : List Pt) (M : Nat) (hM : L.length ≤ M) : ∀ k i, i ≤ M → (growK L k i).2 ≤ M
  | 0, i, h => h
  | k + 1, i, h => by
    rw [growK]
    split
    · exact h
    · rename_i p hp
      have hi : i < L.length := (List.getElem?_eq_some_iff.1 hp).1
      exact growN_le (growK L k) M (growK_le L M hM k) _ _ (by omega)
end Go.A
namespace Go.A
open Go.Proofs Go.Lib
set_option maxRecDepth 100000
set_option linter.unusedSimpArgs false
set_option linter.unusedVariables false

def zero12 : List AV := [.int .i64 0, .int .i64 0, .str [], .int .i64 0, .int .i64 0, .bool false, .bool false, .int .i64 0, .int .i64 0, .bool false, .bool false, .sl .full []]
theorem place_ok (r : Ref) : Pure Tryd.prog 10 [refAV r] (refAV (placeR r)) := by
  intro σ
  have m1 := mod2 r.row (m := 3000) (by decide)
  have m2 := mod2 r.col (m := 700) (by decide)
  obtain ⟨row, col, ar, ac⟩ := r
  unfold refAV placeR
  dsimp only at m1 m2 ⊢
  obtain ⟨x, hx⟩ : ∃ x, row.tmod 3000 = x := ⟨_, rfl⟩
  obtain ⟨y, hy⟩ : ∃ y, (x + 3000).tmod 3000 = y := ⟨_, rfl⟩
  obtain ⟨z, hz⟩ : ∃ z, col.tmod 700 = z := ⟨_, rfl⟩
  obtain ⟨w, hw⟩ : ∃ w, (z + 700).tmod 700 = w := ⟨_, rfl⟩
  rw [hx, hy] at m1 ⊢
  rw [hz, hw] at m2 ⊢
  refine a10 (by simp) ?_
  simp (disch := first | assumption | omega | (simp only [List.length_append, List.length_cons, List.length_nil]; omega)) only [go_sem, reduceCtorEq, Nat.reduceEqDiff, Nat.reduceAdd, Nat.reduceSub, Nat.reduceMul, Nat.reduceLeDiff, Int.reduceLT, Int.reduceLE, Int.reduceEq, ↓reduceIte, Int.reduceNeg, Int.reduceAdd, Int.reduceSub, Int.reduceMul, true_imp_iff, forall_const, Nat.mul_one, Int.reduceToNat, Nat.reducePow, Int.reducePow, Bool.true_and, Bool.false_and, Bool.and_false]
  refine boxC_by rfl fun c hc => ?_
  simp (disch := first | assumption | omega | (simp only [List.length_append, List.length_cons, List.length_nil]; omega)) only [go_sem, reduceCtorEq, Nat.reduceEqDiff, Nat.reduceAdd, Nat.reduceSub, Nat.reduceMul, Nat.reduceLeDiff, Int.reduceLT, Int.reduceLE, Int.reduceEq, ↓reduceIte, Int.reduceNeg, Int.reduceAdd, Int.reduceSub, Int.reduceMul, true_imp_iff, forall_const, Nat.mul_one, Int.reduceToNat, Nat.reducePow, Int.reducePow, Bool.true_and, Bool.false_and, Bool.and_false]
  refine allocC_by fun d hd => ?_
  have hcd : c ≠ d := by rintro rfl; rw [ASt.set_same] at hd; cases hd
  repeat (with_reducible replace hd := set_none hd; obtain ⟨_, _, hd⟩ := hd)
  have hsw : ∀ (ρ : ASt) (X Y Z : Option Role), ((ρ.set c X).set d Y).set c Z = (ρ.set c Z).set d Y := fun _ _ _ _ => set_mid hcd
  simp (disch := first | assumption | omega | (simp only [List.length_append, List.length_cons, List.length_nil]; omega)) only [go_sem, reduceCtorEq, Nat.reduceEqDiff, Nat.reduceAdd, Nat.reduceSub, Nat.reduceMul, Nat.reduceLeDiff, Int.reduceLT, Int.reduceLE, Int.reduceEq, ↓reduceIte, Int.reduceNeg, Int.reduceAdd, Int.reduceSub, Int.reduceMul, true_imp_iff, forall_const, Nat.mul_one, Int.reduceToNat, Nat.reducePow, Int.reducePow, Bool.true_and, Bool.false_and, Bool.and_false, hx, hy, hz, hw, hsw, ASt.set_set]
  exact retC_by ((Drop.set hc).off (by assumption)) (.refl _) ⟨rfl, rfl⟩
theorem OwnSl.len {σ0 σ : ASt} {v : AV} {xs : List AV} {s : Nat} (h : OwnSl σ0 σ v xs s) : lenC v = some (.int .i64 xs.length) := by
  rcases h with ⟨rfl, rfl, rfl⟩ | ⟨b, c, rest, rfl, _⟩ <;> rfl
theorem OwnSl.leaf {σ0 σ : ASt} {v : AV} {xs : List AV} {s : Nat} (h : OwnSl σ0 σ v xs s) : v.leaf = true ∧ v.cells = [v] := by
  rcases h with ⟨rfl, rfl, rfl⟩ | ⟨b, c, rest, rfl, _⟩ <;> exact ⟨rfl, rfl⟩
theorem OwnSl.put {σ0 σ : ASt} {d : Nat} {r : Role} {v : AV} {xs : List AV} {s : Nat} (h : OwnSl σ0 σ v xs s) (hd : σ0 d = some r) (r' : Option Role) : OwnSl (σ0.set d r') (σ.set d r') v xs s := by
  rcases h with ⟨h1, h2, rfl⟩ | ⟨b, c, rest, h1, h2, h3, h4, rfl⟩
  · exact .inl ⟨h1, h2, rfl⟩
  · have hbd : b ≠ d := by rintro rfl; rw [hd] at h4; cases h4
    exact .inr ⟨b, c, rest, h1, h2, h3, by rw [ASt.set_ne hbd]; exact h4, set_swap hbd⟩
theorem set_mid' {σ : ASt} {b c : Nat} {X Y Z : Option Role} (h : b ≠ c) : ((σ.set b X).set c Y).set b Z = (σ.set b Z).set c Y := set_mid h
theorem deeps_map : ∀ l : List Nd, Go.A.deeps (l.map Nd.av) = l.map Nd.av
  | [] => rfl
  | x :: xs => by rw [List.map_cons, deeps_cons, Nd.deep x, deeps_map xs]
theorem leaf1 {v : AV} : leaves [v] = v.leaf := by simp [leaves]
theorem Drop.had {σ σ' : ASt} {b : Nat} {r : Role} (h : Drop σ σ') (hb : σ' b = some r) : σ b = some r := by
  rcases h b with h1 | h1
  · rw [← h1]; exact hb
  · rw [h1] at hb; cases hb
theorem Drop.nil {σ σ' : ASt} {b : Nat} (h : Drop σ σ') (hb : σ b = none) : σ' b = none := by
  rcases h b with h1 | h1
  · rw [h1]; exact hb
  · exact h1
set_option maxHeartbeats 8000000 in
theorem grow_le (L : List Pt) (hL : L.length ≤ 1000) : ∀ (k i : Nat), L.length + 1 ≤ i + k → i ≤ 2000 → Pure Tryd.prog 20 [.sl .shr (L.map Pt.av), .int .i64 i] (.tuple [(growK L k i).1.av, .int .i64 (growK L k i).2])
  | k, i, hk, hi => by
    intro σ
    by_cases hlt : i < L.length
    · obtain ⟨k, rfl⟩ : ∃ k', k = k' + 1 := ⟨k - 1, by omega⟩
      have ih : ∀ j, i + 1 ≤ j → j ≤ 2000 → Pure Tryd.prog 20 [.sl .shr (L.map Pt.av), .int .i64 j] (.tuple [(growK L k j).1.av, .int .i64 (growK L k j).2]) := fun j h1 h2 => grow_le L hL k j (by omega) h2
      have hmx := growK_le L 2000 (by omega) k
      have hge := growK_ge L k
      have hlt' : (i : Int) < L.length := by omega
      have hlt2 : ¬ (L.length : Int) ≤ i := by omega
      have hx : L[i]? = some (L[i]'hlt) := List.getElem?_eq_getElem hlt
      obtain ⟨p, hp⟩ : ∃ p, L[i]'hlt = p := ⟨_, rfl⟩
      rw [hp] at hx
      have hmp := Pt.get hx
      rw [growK, hx]
      dsimp only
      have hop := opG_rng p.op
      have hkk := kkG_rng p.n
      have hcn := cntG_le (opG p.op) (kkG p.n) hkk.1
      have m1 := mod2 p.op (m := 23) (by decide)
      have m2 := mod2 p.n (m := 100000) (by decide)
      obtain ⟨KS, hKS⟩ : ∃ KS, (growN (growK L k) (cntG (opG p.op) (kkG p.n)) (i + 1)).1 = KS := ⟨_, rfl⟩
      obtain ⟨J, hJ⟩ : ∃ J, (growN (growK L k) (cntG (opG p.op) (kkG p.n)) (i + 1)).2 = J := ⟨_, rfl⟩
      have hKl : KS.length = cntG (opG p.op) (kkG p.n) := by rw [← hKS, growN_len]
      rw [hKS, hJ]
      have hopu : opG p.op = 1 + (p.op.tmod 23 + 23).tmod 23 := rfl
      have hkku : kkG p.n = (p.n.tmod 100000 + 100000).tmod 100000 := rfl
      obtain ⟨x1, hx1⟩ : ∃ x, p.op.tmod 23 = x := ⟨_, rfl⟩
      obtain ⟨x2, hx2⟩ : ∃ x, (x1 + 23).tmod 23 = x := ⟨_, rfl⟩
      obtain ⟨y1, hy1⟩ : ∃ x, p.n.tmod 100000 = x := ⟨_, rfl⟩
      obtain ⟨y2, hy2⟩ : ∃ x, (y1 + 100000).tmod 100000 = x := ⟨_, rfl⟩
      rw [hx1, hx2] at m1 hopu
      rw [hy1, hy2] at m2 hkku
      obtain ⟨F, hF⟩ : ∃ F, F = ACode.wp Tryd.prog c20_87 := ⟨_, rfl⟩
      obtain ⟨cnt, hcnt⟩ : ∃ cnt, cntG (opG p.op) (kkG p.n) = cnt := ⟨_, rfl⟩
      rw [hcnt] at hcn hKS hJ hKl
      have fin : ∀ (b4 b6 b7 : Nat) (o m : Int) (s : List UInt8) (a b : Ref) (a1 : AFr), σ b4 = none → σ b6 = none → σ b7 = none → b4 ≠ b6 → b4 ≠ b7 → b6 ≠ b7 → (∀ ks, nodeG p ks = .mk o m s a b ks) → (o = 22 ↔ opG p.op = 22) →
          (a1 0 = .sl .shr (L.map Pt.av) ∧ a1 1 = .int .i64 ((i : Int) + 1) ∧ a1 4 = .ptr b4 0 ∧ a1 7 = .ptr b7 0 ∧ a1 8 = .int .i64 cnt ∧ a1 9 = .int .i64 (kkG p.n)) →
          F (RetQ [.c 4 (some 12), .t 5] fun v σ' => Go.A.deep v = .tuple [(nodeG p (missG (opG p.op) (kkG p.n) KS)).av, .int .i64 J] ∧ σ' = σ) a1 (((σ.set b4 (some (.obj zero12))).set b6 (some (.obj p.cs))).set b7 (some (.obj (ndV o m s a b (.sl .full []))))) := by
        intro b4 b6 b7 o m s a b a1 z4 z6 z7 n46 n47 n67 hN ho hf
        rw [hF]
        rw [hN]
        have h7t : ((σ.set b4 (some (.obj zero12))).set b6 (some (.obj p.cs))) b7 = none := by rw [ASt.set_ne (Ne.symm n67), ASt.set_ne (Ne.symm n47)]; exact z7
        have h4t : ((σ.set b4 (some (.obj zero12))).set b6 (some (.obj p.cs))) b4 = some (.obj zero12) := by rw [ASt.set_ne n46, ASt.set_same]
        have hD4 : ∀ X R : Option Role, Drop ((((σ.set b4 (some (.obj zero12))).set b6 (some (.obj p.cs))).set b7 R).set b4 X) σ := fun X R => (((Drop.set z4).off z6).off z7).off z4
        generalize (σ.set b4 (some (.obj zero12))).set b6 (some (.obj p.cs)) = τ at *
        obtain ⟨G, hG⟩ : ∃ G, G = ACode.wp Tryd.prog c20_86 := ⟨_, rfl⟩
        obtain ⟨H, hH⟩ : ∃ H, H = ACode.wp Tryd.prog c20_85 := ⟨_, rfl⟩
        have fin3 : ∀ (a1 : AFr) (σ1 : ASt) (v : AV) (XS : List AV) (ks : List Nd), OwnSl (τ.set b7 (some (.obj (ndV o m s a b v)))) σ1 v XS 12 → (∀ x ∈ XS, x.cells.length = 12) → Go.A.deeps XS = ks.map Nd.av → (a1 1 = .int .i64 J ∧ a1 4 = .ptr b4 0 ∧ a1 7 = .ptr b7 0) →
            H (RetQ [.c 4 (some 12), .t 5] fun v σ' => Go.A.deep v = .tuple [(Nd.mk o m s a b ks).av, .int .i64 J] ∧ σ' = σ) a1 σ1 := by
          intro a1 σ1 v XS ks hO hxl hdp hf
          rw [hH]
          have hb7 := hO.at (x := b7) (ASt.set_same _ _ _)
          have h40 : (τ.set b7 (some (.obj (ndV o m s a b v)))) b4 = some (.obj zero12) := by rw [ASt.set_ne n47]; exact h4t
          have hb4 := hO.at h40
          unfold zero12 at hb4
          have hnl := nv_leaves (o := o) (m := m) (s := s) (a := a) (b := b) hO.leaf.1
          have hO2 := hO.put h40 (some (.obj (ndV o m s a b v)))
          have hDz := hD4 (some (.obj (ndV o m s a b v))) (some (.obj (ndV o m s a b v)))
          have hz := hO2.fz hxl (fun x hx => hDz.nil hx)
          simp (disch := first | assumption | omega | (simp only [List.length_append, List.length_cons, List.length_nil]; omega)) only [go_sem, reduceCtorEq, Nat.reduceEqDiff, Nat.reduceAdd, Nat.reduceSub, Nat.reduceMul, Nat.reduceLeDiff, Int.reduceLT, Int.reduceLE, Int.reduceEq, ↓reduceIte, Int.reduceNeg, Int.reduceAdd, Int.reduceSub, Int.reduceMul, true_imp_iff, forall_const, Nat.mul_one, Int.reduceToNat, Nat.reducePow, Int.reducePow, Bool.true_and, Bool.false_and, Bool.and_false, hf, hb7, hb4, hnl]
          refine retC_by (r := .tuple [.agg (ndV o m s a b (.sl .shr XS)), .int .i64 J]) (hO2.drop.trans hDz) ?_ ⟨by rw [Nd.av_cs, ← hdp]; rfl, rfl⟩
          exact .tuple (.cons (.agg (.cons (.refl _) (.cons (.refl _) (.cons (.refl _) (.cons (.refl _) (.cons (.refl _) (.cons (.refl _) (.cons (.refl _) (.cons (.refl _) (.cons (.refl _) (.cons (.refl _) (.cons (.refl _) (.cons hz .nil))))))))))))) (.cons (.refl _) .nil))
        have hKxl : ∀ x ∈ KS.map Nd.av, x.cells.length = 12 := by
          intro x hx
          obtain ⟨y, _, rfl⟩ := List.mem_map.1 hx
          exact Nd.av_len y
        have fin2 : ∀ (a1 : AFr) (σ1 : ASt) (v : AV), OwnSl (τ.set b7 (some (.obj (ndV o m s a b v)))) σ1 v (KS.map Nd.av) 12 → (a1 1 = .int .i64 J ∧ a1 4 = .ptr b4 0 ∧ a1 7 = .ptr b7 0 ∧ a1 9 = .int .i64 (kkG p.n)) →
            G (RetQ [.c 4 (some 12), .t 5] fun v σ' => Go.A.deep v = .tuple [(Nd.mk o m s a b (missG (opG p.op) (kkG p.n) KS)).av, .int .i64 J] ∧ σ' = σ) a1 σ1 := by
          intro a1 σ1 v hO hf
          rw [hG]
          have hb7 := hO.at (x := b7) (ASt.set_same _ _ _)
          have hlen := hO.len
          rw [List.length_map] at hlen
          by_cases h22 : o = 22
          · by_cases h1 : 1 < KS.length
            · have h1' : (1 : Int) < KS.length := by omega
              by_cases h3 : (kkG p.n).tmod 3 = 0
              · have hmiss : missG (opG p.op) (kkG p.n) KS = missN :: KS.tail := if_pos ⟨ho.1 h22, h1, h3⟩
                obtain ⟨x, KT, hKT⟩ : ∃ x KT, KS = x :: KT := by
                  cases KS with
                  | nil => simp at h1
                  | cons x KT => exact ⟨x, KT, rfl⟩
                have hmt : missN :: KS.tail = missN :: KT := by rw [hKT]; rfl
                rw [hmiss, hmt]
                rcases hO with ⟨he, _, _⟩ | ⟨bb, c, rest, hv, hc, hr, hbb, hs1⟩
                · rw [hKT] at he; cases he
                · rw [List.length_map] at hv
                  have hc1 : KS.length ≤ c := by simpa using hc
                  subst hv
                  have hbb7 : b7 ≠ bb := by rintro rfl; rw [ASt.set_same] at hbb; cases hbb
                  have hxl : x.av.cells.length = 12 := Nd.av_len x
                  obtain ⟨X, hX⟩ : ∃ X, (KS.map Nd.av).flatMap AV.cells ++ rest = X := ⟨_, rfl⟩
                  have hXl : 12 ≤ X.length := by rw [← hX, hKT, List.map_cons, List.flatMap_cons, List.length_append, List.length_append]; omega
                  have hXd : X.drop 12 = (KT.map Nd.av).flatMap AV.cells ++ rest := by
                    rw [← hX, hKT, List.map_cons, List.flatMap_cons, List.append_assoc, ← hxl, List.drop_left]
                  rw [hX] at hs1
                  have hbo : σ1 bb = some (.obj X) := by rw [hs1, ASt.set_same]
                  have hs2 : ∀ R : Option Role, σ1.set bb R = (τ.set b7 (some (.obj (ndV o m s a b (.msl bb 0 KS.length c))))).set bb R := fun R => by rw [hs1, ASt.set_set]
                  have hp0 : (0 : Int) < KS.length := by omega
                  simp (disch := first | assumption | omega | (simp only [List.length_append, List.length_cons, List.length_nil]; omega)) only [go_sem, reduceCtorEq, Nat.reduceEqDiff, Nat.reduceAdd, Nat.reduceSub, Nat.reduceMul, Nat.reduceLeDiff, Int.reduceLT, Int.reduceLE, Int.reduceEq, ↓reduceIte, Int.reduceNeg, Int.reduceAdd, Int.reduceSub, Int.reduceMul, true_imp_iff, forall_const, Nat.mul_one, Int.reduceToNat, Nat.reducePow, Int.reducePow, Bool.true_and, Bool.false_and, Bool.and_false, hf, hb7, h22, h1', h3, hbo, hXl, hXd, hs2, hp0, ←hH]
                  subst h22
                  refine fin3 _ _ (.msl bb 0 KS.length c) (.agg [.int .i64 23, .int .i64 0, .str [], .int .i64 0, .int .i64 0, .bool false, .bool false, .int .i64 0, .int .i64 0, .bool false, .bool false, .sl .full []] :: KT.map Nd.av) (missN :: KT) (.inr ⟨bb, c, rest, ?_, ?_, ?_, hbb, rfl⟩) ?_ ?_ ?_
                  · rw [hKT]; simp
                  · rw [hKT] at hc1; simpa using hc1
                  · rw [hKT] at hr; simpa using hr
                  · intro y hy
                    rcases List.mem_cons.1 hy with rfl | hy
                    · rfl
                    · exact hKxl y (by rw [hKT, List.map_cons]; exact List.mem_cons_of_mem _ hy)
                  · rw [List.map_cons, missN, Nd.av_cs, deeps_cons, deeps_map]
                    rfl
                  · simp (disch := first | assumption | omega | (simp only [List.length_append, List.length_cons, List.length_nil]; omega)) only [go_sem, reduceCtorEq, Nat.reduceEqDiff, Nat.reduceAdd, Nat.reduceSub, Nat.reduceMul, Nat.reduceLeDiff, Int.reduceLT, Int.reduceLE, Int.reduceEq, ↓reduceIte, Int.reduceNeg, Int.reduceAdd, Int.reduceSub, Int.reduceMul, true_imp_iff, forall_const, Nat.mul_one, Int.reduceToNat, Nat.reducePow, Int.reducePow, Bool.true_and, Bool.false_and, Bool.and_false, hf]
              · have hmiss : missG (opG p.op) (kkG p.n) KS = KS := if_neg (fun h => h3 h.2.2)
                rw [hmiss]
                simp (disch := first | assumption | omega | (simp only [List.length_append, List.length_cons, List.length_nil]; omega)) only [go_sem, reduceCtorEq, Nat.reduceEqDiff, Nat.reduceAdd, Nat.reduceSub, Nat.reduceMul, Nat.reduceLeDiff, Int.reduceLT, Int.reduceLE, Int.reduceEq, ↓reduceIte, Int.reduceNeg, Int.reduceAdd, Int.reduceSub, Int.reduceMul, true_imp_iff, forall_const, Nat.mul_one, Int.reduceToNat, Nat.reducePow, Int.reducePow, Bool.true_and, Bool.false_and, Bool.and_false, hf, hb7, h22, hlen, h1', h3, ←hH]
                subst h22
                refine fin3 _ _ v _ KS hO hKxl (deeps_map KS) ?_
                simp (disch := first | assumption | omega | (simp only [List.length_append, List.length_cons, List.length_nil]; omega)) only [go_sem, reduceCtorEq, Nat.reduceEqDiff, Nat.reduceAdd, Nat.reduceSub, Nat.reduceMul, Nat.reduceLeDiff, Int.reduceLT, Int.reduceLE, Int.reduceEq, ↓reduceIte, Int.reduceNeg, Int.reduceAdd, Int.reduceSub, Int.reduceMul, true_imp_iff, forall_const, Nat.mul_one, Int.reduceToNat, Nat.reducePow, Int.reducePow, Bool.true_and, Bool.false_and, Bool.and_false, hf]
            · have h1' : ¬ (1 : Int) < KS.length := by omega
              have hmiss : missG (opG p.op) (kkG p.n) KS = KS := if_neg (fun h => h1 h.2.1)
              rw [hmiss]
              simp (disch := first | assumption | omega | (simp only [List.length_append, List.length_cons, List.length_nil]; omega)) only [go_sem, reduceCtorEq, Nat.reduceEqDiff, Nat.reduceAdd, Nat.reduceSub, Nat.reduceMul, Nat.reduceLeDiff, Int.reduceLT, Int.reduceLE, Int.reduceEq, ↓reduceIte, Int.reduceNeg, Int.reduceAdd, Int.reduceSub, Int.reduceMul, true_imp_iff, forall_const, Nat.mul_one, Int.reduceToNat, Nat.reducePow, Int.reducePow, Bool.true_and, Bool.false_and, Bool.and_false, hf, hb7, h22, hlen, h1', ←hH]
              subst h22
              refine fin3 _ _ v _ KS hO hKxl (deeps_map KS) ?_
              simp (disch := first | assumption | omega | (simp only [List.length_append, List.length_cons, List.length_nil]; omega)) only [go_sem, reduceCtorEq, Nat.reduceEqDiff, Nat.reduceAdd, Nat.reduceSub, Nat.reduceMul, Nat.reduceLeDiff, Int.reduceLT, Int.reduceLE, Int.reduceEq, ↓reduceIte, Int.reduceNeg, Int.reduceAdd, Int.reduceSub, Int.reduceMul, true_imp_iff, forall_const, Nat.mul_one, Int.reduceToNat, Nat.reducePow, Int.reducePow, Bool.true_and, Bool.false_and, Bool.and_false, hf]
          · have hmiss : missG (opG p.op) (kkG p.n) KS = KS := if_neg (fun h => h22 (ho.2 h.1))
            rw [hmiss]
            simp (disch := first | assumption | omega | (simp only [List.length_append, List.length_cons, List.length_nil]; omega)) only [go_sem, reduceCtorEq, Nat.reduceEqDiff, Nat.reduceAdd, Nat.reduceSub, Nat.reduceMul, Nat.reduceLeDiff, Int.reduceLT, Int.reduceLE, Int.reduceEq, ↓reduceIte, Int.reduceNeg, Int.reduceAdd, Int.reduceSub, Int.reduceMul, true_imp_iff, forall_const, Nat.mul_one, Int.reduceToNat, Nat.reducePow, Int.reducePow, Bool.true_and, Bool.false_and, Bool.and_false, hf, hb7, h22, ←hH]
            refine fin3 _ _ v _ KS hO hKxl (deeps_map KS) ?_
            simp (disch := first | assumption | omega | (simp only [List.length_append, List.length_cons, List.length_nil]; omega)) only [go_sem, reduceCtorEq, Nat.reduceEqDiff, Nat.reduceAdd, Nat.reduceSub, Nat.reduceMul, Nat.reduceLeDiff, Int.reduceLT, Int.reduceLE, Int.reduceEq, ↓reduceIte, Int.reduceNeg, Int.reduceAdd, Int.reduceSub, Int.reduceMul, true_imp_iff, forall_const, Nat.mul_one, Int.reduceToNat, Nat.reducePow, Int.reducePow, Bool.true_and, Bool.false_and, Bool.and_false, hf]
        simp (disch := first | assumption | omega | (simp only [List.length_append, List.length_cons, List.length_nil]; omega)) only [go_sem, reduceCtorEq, Nat.reduceEqDiff, Nat.reduceAdd, Nat.reduceSub, Nat.reduceMul, Nat.reduceLeDiff, Int.reduceLT, Int.reduceLE, Int.reduceEq, ↓reduceIte, Int.reduceNeg, Int.reduceAdd, Int.reduceSub, Int.reduceMul, true_imp_iff, forall_const, Nat.mul_one, Int.reduceToNat, Nat.reducePow, Int.reducePow, Bool.true_and, Bool.false_and, Bool.and_false, hf, ←hG]
        refine wp_loop_by (fun (q : List Nd × Nat) a1 s2 => (q.1.length ≤ cnt ∧ i + 1 ≤ q.2 ∧ q.2 ≤ 2000 ∧ q.1 ++ (growN (growK L k) (cnt - q.1.length) q.2).1 = KS ∧ (growN (growK L k) (cnt - q.1.length) q.2).2 = J) ∧
            (a1 0 = .sl .shr (L.map Pt.av) ∧ a1 1 = .int .i64 q.2 ∧ a1 4 = .ptr b4 0 ∧ a1 7 = .ptr b7 0 ∧ a1 8 = .int .i64 ((cnt - q.1.length : Nat) : Int) ∧ a1 9 = .int .i64 (kkG p.n)) ∧
            ∃ v, OwnSl (τ.set b7 (some (.obj (ndV o m s a b v)))) s2 v (q.1.map Nd.av) 12) (fun q => cnt - q.1.length) ([], i + 1) (Dr.now ⟨⟨Nat.zero_le _, Nat.le_refl _, by dsimp only; omega, ?_, ?_⟩, ?_, .sl .full [], .inl ⟨rfl, rfl, rfl⟩⟩) ?_
        · simpa using hKS
        · simpa using hJ
        · simp only [List.length_nil, Nat.sub_zero]
          simp (disch := first | assumption | omega | (simp only [List.length_append, List.length_cons, List.length_nil]; omega)) only [go_sem, reduceCtorEq, Nat.reduceEqDiff, Nat.reduceAdd, Nat.reduceSub, Nat.reduceMul, Nat.reduceLeDiff, Int.reduceLT, Int.reduceLE, Int.reduceEq, ↓reduceIte, Int.reduceNeg, Int.reduceAdd, Int.reduceSub, Int.reduceMul, true_imp_iff, forall_const, Nat.mul_one, Int.reduceToNat, Nat.reducePow, Int.reducePow, Bool.true_and, Bool.false_and, Bool.and_false, hf]
        rintro ⟨D, j⟩ a2 s2 ⟨⟨d1, d2, d2', d3, d4⟩, hf, v, hO⟩
        dsimp only at d1 d2 d2' d3 d4 hf hO
        have hb7 := hO.at (x := b7) (ASt.set_same _ _ _)
        by_cases hdl : D.length < cnt
        · have hdl' : (0 : Int) < ((cnt - D.length : Nat) : Int) := by omega
          have e1 : cnt - D.length = (cnt - (D.length + 1)) + 1 := by omega
          have e2 : ((cnt - D.length : Nat) : Int) - 1 = ((cnt - (D.length + 1) : Nat) : Int) := by omega
          rw [e1, growN] at d3 d4
          dsimp only at d3 d4
          have hcall := ih j d2 d2'
          have hj2 := hmx j d2'
          have hj1 := hge j
          obtain ⟨x, hxx⟩ : ∃ x, (growK L k j).1 = x := ⟨_, rfl⟩
          obtain ⟨j', hjj⟩ : ∃ x, (growK L k j).2 = x := ⟨_, rfl⟩
          rw [hxx, hjj] at d3 hcall
          rw [hjj] at d4 hj2 hj1
          have hDx : ((D ++ [x]).map Nd.av) = D.map Nd.av ++ [x.av] := by simp
          have hDl : (D ++ [x]).length = D.length + 1 := by simp
          have hDm : (D.map Nd.av).length = D.length := by simp
          have d3' : (D ++ [x]) ++ (growN (growK L k) (cnt - (D.length + 1)) j').1 = KS := by rw [← d3]; simp
          obtain ⟨xo, xm, xs, xa, xb, xk⟩ := x
          rw [Nd.av_cs] at hcall hDx
          generalize hXK : xk.map Nd.av = XK at *
          have hlD : ∀ y ∈ D.map Nd.av, y.cells.length = 12 := by
            intro y hy
            obtain ⟨z, _, rfl⟩ := List.mem_map.1 hy
            exact Nd.av_len z
          simp (disch := first | assumption | omega | (simp only [List.length_append, List.length_cons, List.length_nil]; omega)) only [go_sem, reduceCtorEq, Nat.reduceEqDiff, Nat.reduceAdd, Nat.reduceSub, Nat.reduceMul, Nat.reduceLeDiff, Int.reduceLT, Int.reduceLE, Int.reduceEq, ↓reduceIte, Int.reduceNeg, Int.reduceAdd, Int.reduceSub, Int.reduceMul, true_imp_iff, forall_const, Nat.mul_one, Int.reduceToNat, Nat.reducePow, Int.reducePow, Bool.true_and, Bool.false_and, Bool.and_false, hf, hdl', ←hG]
          refine hcall.use ?_
          simp (disch := first | assumption | omega | (simp only [List.length_append, List.length_cons, List.length_nil]; omega)) only [go_sem, reduceCtorEq, Nat.reduceEqDiff, Nat.reduceAdd, Nat.reduceSub, Nat.reduceMul, Nat.reduceLeDiff, Int.reduceLT, Int.reduceLE, Int.reduceEq, ↓reduceIte, Int.reduceNeg, Int.reduceAdd, Int.reduceSub, Int.reduceMul, true_imp_iff, forall_const, Nat.mul_one, Int.reduceToNat, Nat.reducePow, Int.reducePow, Bool.true_and, Bool.false_and, Bool.and_false, ←hG]
          refine allocC_by fun e he => ?_
          have he7 : b7 ≠ e := by rintro rfl; rw [hb7] at he; cases he
          have he0 : τ e = none := by
            have := hO.fresh he
            rw [ASt.set_ne (Ne.symm he7)] at this
            exact this
          have hOe := hO.add (r := some (.obj (Nd.cs xo xm xs xa xb XK))) he
          have hb7e : (s2.set e (some (.obj (Nd.cs xo xm xs xa xb XK)))) b7 = some (.obj (ndV o m s a b v)) := by rw [ASt.set_ne he7]; exact hb7
          simp (disch := first | assumption | omega | (simp only [List.length_append, List.length_cons, List.length_nil]; omega)) only [go_sem, reduceCtorEq, Nat.reduceEqDiff, Nat.reduceAdd, Nat.reduceSub, Nat.reduceMul, Nat.reduceLeDiff, Int.reduceLT, Int.reduceLE, Int.reduceEq, ↓reduceIte, Int.reduceNeg, Int.reduceAdd, Int.reduceSub, Int.reduceMul, true_imp_iff, forall_const, Nat.mul_one, Int.reduceToNat, Nat.reducePow, Int.reducePow, Bool.true_and, Bool.false_and, Bool.and_false, hf, hb7, hb7e, ASt.set_set, ←hG]
          refine OwnSl.app hOe hlD rfl rfl (by rw [hDm]; simp only [List.length_cons, List.length_nil]; omega) (by rw [hDm]; simp only [List.length_cons, List.length_nil]; omega) (by simp) fun v' σ' ⟨σ2, hd, hO2⟩ => ?_
          have h70 : ((τ.set b7 (some (.obj (ndV o m s a b v)))).set e (some (.obj (Nd.cs xo xm xs xa xb XK)))) b7 = some (.obj (ndV o m s a b v)) := by rw [ASt.set_ne he7, ASt.set_same]
          have hb7' := hd.had (hO2.at h70)
          have hO3 := hO2.put h70 (some (.obj (ndV o m s a b v')))
          rw [set_mid he7] at hO3
          obtain ⟨σ5, hd5, hO5⟩ := hO3.less (by rw [ASt.set_ne (Ne.symm he7)]; exact he0)
          have hvl := hO2.leaf
          have hvc := hvl.2
          have hvv : leaves [v'] = true := by rw [leaf1]; exact hvl.1
          have hD5 : Drop (σ'.set b7 (some (.obj (ndV o m s a b v')))) σ5 := hd.set_cong.trans hd5
          simp (disch := first | assumption | omega | (simp only [List.length_append, List.length_cons, List.length_nil]; omega)) only [go_sem, reduceCtorEq, Nat.reduceEqDiff, Nat.reduceAdd, Nat.reduceSub, Nat.reduceMul, Nat.reduceLeDiff, Int.reduceLT, Int.reduceLE, Int.reduceEq, ↓reduceIte, Int.reduceNeg, Int.reduceAdd, Int.reduceSub, Int.reduceMul, true_imp_iff, forall_const, Nat.mul_one, Int.reduceToNat, Nat.reducePow, Int.reducePow, Bool.true_and, Bool.false_and, Bool.and_false, hf, hb7', e2, hvc, hvv, ←hG]
          refine ⟨(D ++ [Nd.mk xo xm xs xa xb xk], j'), by dsimp only; rw [hDl]; omega, Dr.drop hD5 ⟨⟨by dsimp only; omega, by dsimp only; omega, by dsimp only; omega, ?_, ?_⟩, ?_, v', ?_⟩⟩
          · dsimp only; rw [hDl]; exact d3'
          · dsimp only; rw [hDl]; exact d4
          · dsimp only
            rw [hDl]
            simp (disch := first | assumption | omega | (simp only [List.length_append, List.length_cons, List.length_nil]; omega)) only [go_sem, reduceCtorEq, Nat.reduceEqDiff, Nat.reduceAdd, Nat.reduceSub, Nat.reduceMul, Nat.reduceLeDiff, Int.reduceLT, Int.reduceLE, Int.reduceEq, ↓reduceIte, Int.reduceNeg, Int.reduceAdd, Int.reduceSub, Int.reduceMul, true_imp_iff, forall_const, Nat.mul_one, Int.reduceToNat, Nat.reducePow, Int.reducePow, Bool.true_and, Bool.false_and, Bool.and_false, hf, e2]
          · dsimp only
            rw [hDx]; exact hO5
        · have hdl' : ¬ (0 : Int) < ((cnt - D.length : Nat) : Int) := by omega
          have e0 : cnt - D.length = 0 := by omega
          rw [e0, growN] at d3 d4
          dsimp only at d3 d4
          rw [List.append_nil] at d3
          subst d3 d4
          simp (disch := first | assumption | omega | (simp only [List.length_append, List.length_cons, List.length_nil]; omega)) only [go_sem, reduceCtorEq, Nat.reduceEqDiff, Nat.reduceAdd, Nat.reduceSub, Nat.reduceMul, Nat.reduceLeDiff, Int.reduceLT, Int.reduceLE, Int.reduceEq, ↓reduceIte, Int.reduceNeg, Int.reduceAdd, Int.reduceSub, Int.reduceMul, true_imp_iff, forall_const, Nat.mul_one, Int.reduceToNat, Nat.reducePow, Int.reducePow, Bool.true_and, Bool.false_and, Bool.and_false, hf, hdl', ←hG]
          refine fin2 _ _ v hO ?_
          simp (disch := first | assumption | omega | (simp only [List.length_append, List.length_cons, List.length_nil]; omega)) only [go_sem, reduceCtorEq, Nat.reduceEqDiff, Nat.reduceAdd, Nat.reduceSub, Nat.reduceMul, Nat.reduceLeDiff, Int.reduceLT, Int.reduceLE, Int.reduceEq, ↓reduceIte, Int.reduceNeg, Int.reduceAdd, Int.reduceSub, Int.reduceMul, true_imp_iff, forall_const, Nat.mul_one, Int.reduceToNat, Nat.reducePow, Int.reducePow, Bool.true_and, Bool.false_and, Bool.and_false, hf]
      refine ACalls.retd (K := fun v σ' => Go.A.deep v = .tuple [(nodeG p (missG (opG p.op) (kkG p.n) KS)).av, .int .i64 J] ∧ σ' = σ) ?_ (fun v σ' h => h)
      refine a20 (by simp) ?_
      simp (disch := first | assumption | omega | (simp only [List.length_append, List.length_cons, List.length_nil]; omega)) only [go_sem, reduceCtorEq, Nat.reduceEqDiff, Nat.reduceAdd, Nat.reduceSub, Nat.reduceMul, Nat.reduceLeDiff, Int.reduceLT, Int.reduceLE, Int.reduceEq, ↓reduceIte, Int.reduceNeg, Int.reduceAdd, Int.reduceSub, Int.reduceMul, true_imp_iff, forall_const, Nat.mul_one, Int.reduceToNat, Nat.reducePow, Int.reducePow, Bool.true_and, Bool.false_and, Bool.and_false, ←hF]
      refine allocC_by fun b4 hb4 => ?_
      have z4 := hb4
      simp (disch := first | assumption | omega | (simp only [List.length_append, List.length_cons, List.length_nil]; omega)) only [go_sem, reduceCtorEq, Nat.reduceEqDiff, Nat.reduceAdd, Nat.reduceSub, Nat.reduceMul, Nat.reduceLeDiff, Int.reduceLT, Int.reduceLE, Int.reduceEq, ↓reduceIte, Int.reduceNeg, Int.reduceAdd, Int.reduceSub, Int.reduceMul, true_imp_iff, forall_const, Nat.mul_one, Int.reduceToNat, Nat.reducePow, Int.reducePow, Bool.true_and, Bool.false_and, Bool.and_false, hlt2, hmp, ←hF]
      refine allocC_by fun b6 hb6 => ?_
      have z6' := hb6
      repeat (with_reducible replace hb6 := set_none hb6; obtain ⟨_, _, hb6⟩ := hb6)
      have z6 : σ b6 = none := by assumption
      have n46 : b4 ≠ b6 := by assumption
      obtain ⟨B, hB⟩ : ∃ B, B = ACode.wp Tryd.prog c20_88 := ⟨_, rfl⟩
      simp (disch := first | assumption | omega | (simp only [List.length_append, List.length_cons, List.length_nil]; omega)) only [go_sem, reduceCtorEq, Nat.reduceEqDiff, Nat.reduceAdd, Nat.reduceSub, Nat.reduceMul, Nat.reduceLeDiff, Int.reduceLT, Int.reduceLE, Int.reduceEq, ↓reduceIte, Int.reduceNeg, Int.reduceAdd, Int.reduceSub, Int.reduceMul, true_imp_iff, forall_const, Nat.mul_one, Int.reduceToNat, Nat.reducePow, Int.reducePow, Bool.true_and, Bool.false_and, Bool.and_false, hx1, hx2, hy1, hy2, ←hopu, ←hkku, ASt.set_set, ←hB, ←hF]
      refine allocC_by fun b7 hb7 => ?_
      have z7' := hb7
      repeat (with_reducible replace hb7 := set_none hb7; obtain ⟨_, _, hb7⟩ := hb7)
      have z7 : σ b7 = none := by assumption
      have n47 : b4 ≠ b7 := by assumption
      have n67 : b6 ≠ b7 := by assumption
      simp (disch := first | assumption | omega | (simp only [List.length_append, List.length_cons, List.length_nil]; omega)) only [go_sem, reduceCtorEq, Nat.reduceEqDiff, Nat.reduceAdd, Nat.reduceSub, Nat.reduceMul, Nat.reduceLeDiff, Int.reduceLT, Int.reduceLE, Int.reduceEq, ↓reduceIte, Int.reduceNeg, Int.reduceAdd, Int.reduceSub, Int.reduceMul, true_imp_iff, forall_const, Nat.mul_one, Int.reduceToNat, Nat.reducePow, Int.reducePow, Bool.true_and, Bool.false_and, Bool.and_false, hx1, hx2, hy1, hy2, ←hopu, ←hkku, ASt.set_set, ←hB, ←hF]
      obtain ⟨Q, hQ⟩ : ∃ Q, Q = RetQ [.c 4 (some 12), .t 5] fun v σ' => Go.A.deep v = .tuple [(nodeG p (missG (opG p.op) (kkG p.n) KS)).av, .int .i64 J] ∧ σ' = σ := ⟨_, rfl⟩
      rw [← hQ] at fin
      have brs : ∀ (a1 : AFr), (a1 0 = .sl .shr (L.map Pt.av) ∧ a1 1 = .int .i64 ((i : Int) + 1) ∧ a1 4 = .ptr b4 0 ∧ a1 6 = .ptr b6 0 ∧ a1 7 = .ptr b7 0 ∧ a1 8 = .int .i64 0 ∧ a1 9 = .int .i64 (kkG p.n)) →
          B Q a1 (((σ.set b4 (some (.obj zero12))).set b6 (some (.obj p.cs))).set b7 (some (.obj [.int .i64 (opG p.op), .int .i64 0, .str [], .int .i64 0, .int .i64 0, .bool false, .bool false, .int .i64 0, .int .i64 0, .bool false, .bool false, .sl .full []]))) := by
        intro a1 hf
        rw [hB]
        clear hB hQ ih hmx hge hKS hJ z6' z7' hb6 hb7
        have hw7 : 0 ≤ (kkG p.n).tmod 7 ∧ (kkG p.n).tmod 7 < 7 := ⟨Int.tmod_nonneg _ hkk.1, Int.tmod_lt_of_pos _ (by decide)⟩
        obtain ⟨w7, hw7e⟩ : ∃ w, (kkG p.n).tmod 7 = w := ⟨_, rfl⟩
        rw [hw7e] at hw7
        generalize hzz : zero12 = Z12 at *
        by_cases h1 : opG p.op = 1
        · have hc : (cnt : Int) = 0 := by rw [← hcnt]; unfold cntG; rw [if_neg (by omega), if_neg (by omega), if_neg (by omega)]; rfl
          simp (disch := first | assumption | omega | (simp only [List.length_append, List.length_cons, List.length_nil]; omega)) only [go_sem, reduceCtorEq, Nat.reduceEqDiff, Nat.reduceAdd, Nat.reduceSub, Nat.reduceMul, Nat.reduceLeDiff, Int.reduceLT, Int.reduceLE, Int.reduceEq, ↓reduceIte, Int.reduceNeg, Int.reduceAdd, Int.reduceSub, Int.reduceMul, true_imp_iff, forall_const, Nat.mul_one, Int.reduceToNat, Nat.reducePow, Int.reducePow, Bool.true_and, Bool.false_and, Bool.and_false, hf, h1, ASt.set_set, ←hF]
          refine fin b4 b6 b7 1 (kkG p.n) [] .zero .zero _ z4 z6 z7 n46 n47 n67 (fun ks => by unfold nodeG; rw [if_pos h1]) (by omega) ?_
          simp (disch := first | assumption | omega | (simp only [List.length_append, List.length_cons, List.length_nil]; omega)) only [go_sem, reduceCtorEq, Nat.reduceEqDiff, Nat.reduceAdd, Nat.reduceSub, Nat.reduceMul, Nat.reduceLeDiff, Int.reduceLT, Int.reduceLE, Int.reduceEq, ↓reduceIte, Int.reduceNeg, Int.reduceAdd, Int.reduceSub, Int.reduceMul, true_imp_iff, forall_const, Nat.mul_one, Int.reduceToNat, Nat.reducePow, Int.reducePow, Bool.true_and, Bool.false_and, Bool.and_false, hf, hc]
        by_cases h3 : opG p.op = 3
        · have hc : (cnt : Int) = 0 := by rw [← hcnt]; unfold cntG; rw [if_neg (by omega), if_neg (by omega), if_neg (by omega)]; rfl
          simp (disch := first | assumption | omega | (simp only [List.length_append, List.length_cons, List.length_nil]; omega)) only [go_sem, reduceCtorEq, Nat.reduceEqDiff, Nat.reduceAdd, Nat.reduceSub, Nat.reduceMul, Nat.reduceLeDiff, Int.reduceLT, Int.reduceLE, Int.reduceEq, ↓reduceIte, Int.reduceNeg, Int.reduceAdd, Int.reduceSub, Int.reduceMul, true_imp_iff, forall_const, Nat.mul_one, Int.reduceToNat, Nat.reducePow, Int.reducePow, Bool.true_and, Bool.false_and, Bool.and_false, hf, h1, h3, ASt.set_set, ←hF]
          refine fin b4 b6 b7 3 ((kkG p.n).tmod 2) [] .zero .zero _ z4 z6 z7 n46 n47 n67 (fun ks => by unfold nodeG; rw [if_neg (by omega), if_pos h3]) (by omega) ?_
          simp (disch := first | assumption | omega | (simp only [List.length_append, List.length_cons, List.length_nil]; omega)) only [go_sem, reduceCtorEq, Nat.reduceEqDiff, Nat.reduceAdd, Nat.reduceSub, Nat.reduceMul, Nat.reduceLeDiff, Int.reduceLT, Int.reduceLE, Int.reduceEq, ↓reduceIte, Int.reduceNeg, Int.reduceAdd, Int.reduceSub, Int.reduceMul, true_imp_iff, forall_const, Nat.mul_one, Int.reduceToNat, Nat.reducePow, Int.reducePow, Bool.true_and, Bool.false_and, Bool.and_false, hf, hc]
        by_cases h4 : opG p.op = 4
        · have hc : (cnt : Int) = 0 := by rw [← hcnt]; unfold cntG; rw [if_neg (by omega), if_neg (by omega), if_neg (by omega)]; rfl
          simp (disch := first | assumption | omega | (simp only [List.length_append, List.length_cons, List.length_nil]; omega)) only [go_sem, reduceCtorEq, Nat.reduceEqDiff, Nat.reduceAdd, Nat.reduceSub, Nat.reduceMul, Nat.reduceLeDiff, Int.reduceLT, Int.reduceLE, Int.reduceEq, ↓reduceIte, Int.reduceNeg, Int.reduceAdd, Int.reduceSub, Int.reduceMul, true_imp_iff, forall_const, Nat.mul_one, Int.reduceToNat, Nat.reducePow, Int.reducePow, Bool.true_and, Bool.false_and, Bool.and_false, hf, h1, h3, h4, hw7e, ASt.set_set, ←hF]
          refine fin b4 b6 b7 4 ((1 + w7) * 10000) [] .zero .zero _ z4 z6 z7 n46 n47 n67 (fun ks => by unfold nodeG; rw [if_neg (by omega), if_neg (by omega), if_pos h4, hw7e]) (by omega) ?_
          simp (disch := first | assumption | omega | (simp only [List.length_append, List.length_cons, List.length_nil]; omega)) only [go_sem, reduceCtorEq, Nat.reduceEqDiff, Nat.reduceAdd, Nat.reduceSub, Nat.reduceMul, Nat.reduceLeDiff, Int.reduceLT, Int.reduceLE, Int.reduceEq, ↓reduceIte, Int.reduceNeg, Int.reduceAdd, Int.reduceSub, Int.reduceMul, true_imp_iff, forall_const, Nat.mul_one, Int.reduceToNat, Nat.reducePow, Int.reducePow, Bool.true_and, Bool.false_and, Bool.and_false, hf, hc]
        by_cases h2 : opG p.op = 2
        · have hc : (cnt : Int) = 0 := by rw [← hcnt]; unfold cntG; rw [if_neg (by omega), if_neg (by omega), if_neg (by omega)]; rfl
          have hC := lcut_ok p.s 20
          have hS := rsigns_ok (p.s.take 20) (by rw [List.length_take]; omega)
          rw [show (((20 : Nat)) : Int) = 20 from rfl] at hC
          unfold sgAV at hS
          cases hsg : sgT (p.s.take 20) with
          | some q =>
            rw [hsg] at hS
            dsimp only at hS
            have hN : ∀ ks, nodeG p ks = .mk 2 0 (p.s.take 20) .zero .zero ks := fun ks => by unfold nodeG; rw [if_neg (by omega), if_neg (by omega), if_neg (by omega), if_pos h2, hsg]; rfl
            simp (disch := first | assumption | omega | (simp only [List.length_append, List.length_cons, List.length_nil]; omega)) only [go_sem, reduceCtorEq, Nat.reduceEqDiff, Nat.reduceAdd, Nat.reduceSub, Nat.reduceMul, Nat.reduceLeDiff, Int.reduceLT, Int.reduceLE, Int.reduceEq, ↓reduceIte, Int.reduceNeg, Int.reduceAdd, Int.reduceSub, Int.reduceMul, true_imp_iff, forall_const, Nat.mul_one, Int.reduceToNat, Nat.reducePow, Int.reducePow, Bool.true_and, Bool.false_and, Bool.and_false, hf, h1, h3, h4, h2, ASt.set_set, ←hF]
            refine hC.use ?_
            simp (disch := first | assumption | omega | (simp only [List.length_append, List.length_cons, List.length_nil]; omega)) only [go_sem, reduceCtorEq, Nat.reduceEqDiff, Nat.reduceAdd, Nat.reduceSub, Nat.reduceMul, Nat.reduceLeDiff, Int.reduceLT, Int.reduceLE, Int.reduceEq, ↓reduceIte, Int.reduceNeg, Int.reduceAdd, Int.reduceSub, Int.reduceMul, true_imp_iff, forall_const, Nat.mul_one, Int.reduceToNat, Nat.reducePow, Int.reducePow, Bool.true_and, Bool.false_and, Bool.and_false, hf, ASt.set_set, ←hF]
            refine hS.use ?_
            simp (disch := first | assumption | omega | (simp only [List.length_append, List.length_cons, List.length_nil]; omega)) only [go_sem, reduceCtorEq, Nat.reduceEqDiff, Nat.reduceAdd, Nat.reduceSub, Nat.reduceMul, Nat.reduceLeDiff, Int.reduceLT, Int.reduceLE, Int.reduceEq, ↓reduceIte, Int.reduceNeg, Int.reduceAdd, Int.reduceSub, Int.reduceMul, true_imp_iff, forall_const, Nat.mul_one, Int.reduceToNat, Nat.reducePow, Int.reducePow, Bool.true_and, Bool.false_and, Bool.and_false, hf, ASt.set_set, ←hF]
            refine hC.use ?_
            simp (disch := first | assumption | omega | (simp only [List.length_append, List.length_cons, List.length_nil]; omega)) only [go_sem, reduceCtorEq, Nat.reduceEqDiff, Nat.reduceAdd, Nat.reduceSub, Nat.reduceMul, Nat.reduceLeDiff, Int.reduceLT, Int.reduceLE, Int.reduceEq, ↓reduceIte, Int.reduceNeg, Int.reduceAdd, Int.reduceSub, Int.reduceMul, true_imp_iff, forall_const, Nat.mul_one, Int.reduceToNat, Nat.reducePow, Int.reducePow, Bool.true_and, Bool.false_and, Bool.and_false, hf, ASt.set_set, ←hF]
            refine fin b4 b6 b7 2 0 (p.s.take 20) .zero .zero _ z4 z6 z7 n46 n47 n67 hN (by omega) ?_
            simp (disch := first | assumption | omega | (simp only [List.length_append, List.length_cons, List.length_nil]; omega)) only [go_sem, reduceCtorEq, Nat.reduceEqDiff, Nat.reduceAdd, Nat.reduceSub, Nat.reduceMul, Nat.reduceLeDiff, Int.reduceLT, Int.reduceLE, Int.reduceEq, ↓reduceIte, Int.reduceNeg, Int.reduceAdd, Int.reduceSub, Int.reduceMul, true_imp_iff, forall_const, Nat.mul_one, Int.reduceToNat, Nat.reducePow, Int.reducePow, Bool.true_and, Bool.false_and, Bool.and_false, hf, hc]
          | none =>
            rw [hsg] at hS
            dsimp only at hS
            have hN : ∀ ks, nodeG p ks = .mk 2 0 [] .zero .zero ks := fun ks => by unfold nodeG; rw [if_neg (by omega), if_neg (by omega), if_neg (by omega), if_pos h2, hsg]; rfl
            simp (disch := first | assumption | omega | (simp only [List.length_append, List.length_cons, List.length_nil]; omega)) only [go_sem, reduceCtorEq, Nat.reduceEqDiff, Nat.reduceAdd, Nat.reduceSub, Nat.reduceMul, Nat.reduceLeDiff, Int.reduceLT, Int.reduceLE, Int.reduceEq, ↓reduceIte, Int.reduceNeg, Int.reduceAdd, Int.reduceSub, Int.reduceMul, true_imp_iff, forall_const, Nat.mul_one, Int.reduceToNat, Nat.reducePow, Int.reducePow, Bool.true_and, Bool.false_and, Bool.and_false, hf, h1, h3, h4, h2, ASt.set_set, ←hF]
            refine hC.use ?_
            simp (disch := first | assumption | omega | (simp only [List.length_append, List.length_cons, List.length_nil]; omega)) only [go_sem, reduceCtorEq, Nat.reduceEqDiff, Nat.reduceAdd, Nat.reduceSub, Nat.reduceMul, Nat.reduceLeDiff, Int.reduceLT, Int.reduceLE, Int.reduceEq, ↓reduceIte, Int.reduceNeg, Int.reduceAdd, Int.reduceSub, Int.reduceMul, true_imp_iff, forall_const, Nat.mul_one, Int.reduceToNat, Nat.reducePow, Int.reducePow, Bool.true_and, Bool.false_and, Bool.and_false, hf, ASt.set_set, ←hF]
            refine hS.use ?_
            simp (disch := first | assumption | omega | (simp only [List.length_append, List.length_cons, List.length_nil]; omega)) only [go_sem, reduceCtorEq, Nat.reduceEqDiff, Nat.reduceAdd, Nat.reduceSub, Nat.reduceMul, Nat.reduceLeDiff, Int.reduceLT, Int.reduceLE, Int.reduceEq, ↓reduceIte, Int.reduceNeg, Int.reduceAdd, Int.reduceSub, Int.reduceMul, true_imp_iff, forall_const, Nat.mul_one, Int.reduceToNat, Nat.reducePow, Int.reducePow, Bool.true_and, Bool.false_and, Bool.and_false, hf, ASt.set_set, ←hF]
            refine fin b4 b6 b7 2 0 [] .zero .zero _ z4 z6 z7 n46 n47 n67 hN (by omega) ?_
            simp (disch := first | assumption | omega | (simp only [List.length_append, List.length_cons, List.length_nil]; omega)) only [go_sem, reduceCtorEq, Nat.reduceEqDiff, Nat.reduceAdd, Nat.reduceSub, Nat.reduceMul, Nat.reduceLeDiff, Int.reduceLT, Int.reduceLE, Int.reduceEq, ↓reduceIte, Int.reduceNeg, Int.reduceAdd, Int.reduceSub, Int.reduceMul, true_imp_iff, forall_const, Nat.mul_one, Int.reduceToNat, Nat.reducePow, Int.reducePow, Bool.true_and, Bool.false_and, Bool.and_false, hf, hc]
        by_cases h5 : opG p.op = 5
        · have hc : (cnt : Int) = 0 := by rw [← hcnt]; unfold cntG; rw [if_neg (by omega), if_neg (by omega), if_neg (by omega)]; rfl
          have hpa := place_ok p.a
          unfold refAV at hpa
          simp (disch := first | assumption | omega | (simp only [List.length_append, List.length_cons, List.length_nil]; omega)) only [go_sem, reduceCtorEq, Nat.reduceEqDiff, Nat.reduceAdd, Nat.reduceSub, Nat.reduceMul, Nat.reduceLeDiff, Int.reduceLT, Int.reduceLE, Int.reduceEq, ↓reduceIte, Int.reduceNeg, Int.reduceAdd, Int.reduceSub, Int.reduceMul, true_imp_iff, forall_const, Nat.mul_one, Int.reduceToNat, Nat.reducePow, Int.reducePow, Bool.true_and, Bool.false_and, Bool.and_false, hf, h1, h3, h4, h2, h5, ASt.set_set, ←hF]
          refine hpa.use ?_
          simp (disch := first | assumption | omega | (simp only [List.length_append, List.length_cons, List.length_nil]; omega)) only [go_sem, reduceCtorEq, Nat.reduceEqDiff, Nat.reduceAdd, Nat.reduceSub, Nat.reduceMul, Nat.reduceLeDiff, Int.reduceLT, Int.reduceLE, Int.reduceEq, ↓reduceIte, Int.reduceNeg, Int.reduceAdd, Int.reduceSub, Int.reduceMul, true_imp_iff, forall_const, Nat.mul_one, Int.reduceToNat, Nat.reducePow, Int.reducePow, Bool.true_and, Bool.false_and, Bool.and_false, hf, ASt.set_set, ←hF]
          refine fin b4 b6 b7 5 0 [] (placeR p.a) .zero _ z4 z6 z7 n46 n47 n67 (fun ks => by unfold nodeG; rw [if_neg (by omega), if_neg (by omega), if_neg (by omega), if_neg (by omega), if_pos h5]) (by omega) ?_
          simp (disch := first | assumption | omega | (simp only [List.length_append, List.length_cons, List.length_nil]; omega)) only [go_sem, reduceCtorEq, Nat.reduceEqDiff, Nat.reduceAdd, Nat.reduceSub, Nat.reduceMul, Nat.reduceLeDiff, Int.reduceLT, Int.reduceLE, Int.reduceEq, ↓reduceIte, Int.reduceNeg, Int.reduceAdd, Int.reduceSub, Int.reduceMul, true_imp_iff, forall_const, Nat.mul_one, Int.reduceToNat, Nat.reducePow, Int.reducePow, Bool.true_and, Bool.false_and, Bool.and_false, hf, hc]
        by_cases h6 : opG p.op = 6
        · have hc : (cnt : Int) = 0 := by rw [← hcnt]; unfold cntG; rw [if_neg (by omega), if_neg (by omega), if_neg (by omega)]; rfl
          have hpa := place_ok p.a
          have hpb := place_ok p.b
          unfold refAV at hpa hpb
          simp (disch := first | assumption | omega | (simp only [List.length_append, List.length_cons, List.length_nil]; omega)) only [go_sem, reduceCtorEq, Nat.reduceEqDiff, Nat.reduceAdd, Nat.reduceSub, Nat.reduceMul, Nat.reduceLeDiff, Int.reduceLT, Int.reduceLE, Int.reduceEq, ↓reduceIte, Int.reduceNeg, Int.reduceAdd, Int.reduceSub, Int.reduceMul, true_imp_iff, forall_const, Nat.mul_one, Int.reduceToNat, Nat.reducePow, Int.reducePow, Bool.true_and, Bool.false_and, Bool.and_false, hf, h1, h3, h4, h2, h5, h6, ASt.set_set, ←hF]
          refine hpa.use ?_
          simp (disch := first | assumption | omega | (simp only [List.length_append, List.length_cons, List.length_nil]; omega)) only [go_sem, reduceCtorEq, Nat.reduceEqDiff, Nat.reduceAdd, Nat.reduceSub, Nat.reduceMul, Nat.reduceLeDiff, Int.reduceLT, Int.reduceLE, Int.reduceEq, ↓reduceIte, Int.reduceNeg, Int.reduceAdd, Int.reduceSub, Int.reduceMul, true_imp_iff, forall_const, Nat.mul_one, Int.reduceToNat, Nat.reducePow, Int.reducePow, Bool.true_and, Bool.false_and, Bool.and_false, hf, ASt.set_set, ←hF]
          refine hpb.use ?_
          simp (disch := first | assumption | omega | (simp only [List.length_append, List.length_cons, List.length_nil]; omega)) only [go_sem, reduceCtorEq, Nat.reduceEqDiff, Nat.reduceAdd, Nat.reduceSub, Nat.reduceMul, Nat.reduceLeDiff, Int.reduceLT, Int.reduceLE, Int.reduceEq, ↓reduceIte, Int.reduceNeg, Int.reduceAdd, Int.reduceSub, Int.reduceMul, true_imp_iff, forall_const, Nat.mul_one, Int.reduceToNat, Nat.reducePow, Int.reducePow, Bool.true_and, Bool.false_and, Bool.and_false, hf, ASt.set_set, ←hF]
          refine fin b4 b6 b7 6 0 [] (placeR p.a) (placeR p.b) _ z4 z6 z7 n46 n47 n67 (fun ks => by unfold nodeG; rw [if_neg (by omega), if_neg (by omega), if_neg (by omega), if_neg (by omega), if_neg (by omega), if_pos h6]) (by omega) ?_
          simp (disch := first | assumption | omega | (simp only [List.length_append, List.length_cons, List.length_nil]; omega)) only [go_sem, reduceCtorEq, Nat.reduceEqDiff, Nat.reduceAdd, Nat.reduceSub, Nat.reduceMul, Nat.reduceLeDiff, Int.reduceLT, Int.reduceLE, Int.reduceEq, ↓reduceIte, Int.reduceNeg, Int.reduceAdd, Int.reduceSub, Int.reduceMul, true_imp_iff, forall_const, Nat.mul_one, Int.reduceToNat, Nat.reducePow, Int.reducePow, Bool.true_and, Bool.false_and, Bool.and_false, hf, hc]
        by_cases h7 : opG p.op = 7
        · have hc : (cnt : Int) = 1 := by rw [← hcnt]; unfold cntG; rw [if_pos (by omega)]; rfl
          simp (disch := first | assumption | omega | (simp only [List.length_append, List.length_cons, List.length_nil]; omega)) only [go_sem, reduceCtorEq, Nat.reduceEqDiff, Nat.reduceAdd, Nat.reduceSub, Nat.reduceMul, Nat.reduceLeDiff, Int.reduceLT, Int.reduceLE, Int.reduceEq, ↓reduceIte, Int.reduceNeg, Int.reduceAdd, Int.reduceSub, Int.reduceMul, true_imp_iff, forall_const, Nat.mul_one, Int.reduceToNat, Nat.reducePow, Int.reducePow, Bool.true_and, Bool.false_and, Bool.and_false, hf, h1, h3, h4, h2, h5, h6, h7, ASt.set_set, ←hF]
          refine fin b4 b6 b7 7 0 [] .zero .zero _ z4 z6 z7 n46 n47 n67 (fun ks => by unfold nodeG; rw [if_neg (by omega), if_neg (by omega), if_neg (by omega), if_neg (by omega), if_neg (by omega), if_neg (by omega), if_neg (by omega), if_neg (by omega), h7]) (by omega) ?_
          simp (disch := first | assumption | omega | (simp only [List.length_append, List.length_cons, List.length_nil]; omega)) only [go_sem, reduceCtorEq, Nat.reduceEqDiff, Nat.reduceAdd, Nat.reduceSub, Nat.reduceMul, Nat.reduceLeDiff, Int.reduceLT, Int.reduceLE, Int.reduceEq, ↓reduceIte, Int.reduceNeg, Int.reduceAdd, Int.reduceSub, Int.reduceMul, true_imp_iff, forall_const, Nat.mul_one, Int.reduceToNat, Nat.reducePow, Int.reducePow, Bool.true_and, Bool.false_and, Bool.and_false, hf, hc]
        by_cases h8 : opG p.op = 8
        · have hc : (cnt : Int) = 1 := by rw [← hcnt]; unfold cntG; rw [if_pos (by omega)]; rfl
          simp (disch := first | assumption | omega | (simp only [List.length_append, List.length_cons, List.length_nil]; omega)) only [go_sem, reduceCtorEq, Nat.reduceEqDiff, Nat.reduceAdd, Nat.reduceSub, Nat.reduceMul, Nat.reduceLeDiff, Int.reduceLT, Int.reduceLE, Int.reduceEq, ↓reduceIte, Int.reduceNeg, Int.reduceAdd, Int.reduceSub, Int.reduceMul, true_imp_iff, forall_const, Nat.mul_one, Int.reduceToNat, Nat.reducePow, Int.reducePow, Bool.true_and, Bool.false_and, Bool.and_false, hf, h1, h3, h4, h2, h5, h6, h7, h8, ASt.set_set, ←hF]
          refine fin b4 b6 b7 8 0 [] .zero .zero _ z4 z6 z7 n46 n47 n67 (fun ks => by unfold nodeG; rw [if_neg (by omega), if_neg (by omega), if_neg (by omega), if_neg (by omega), if_neg (by omega), if_neg (by omega), if_neg (by omega), if_neg (by omega), h8]) (by omega) ?_
          simp (disch := first | assumption | omega | (simp only [List.length_append, List.length_cons, List.length_nil]; omega)) only [go_sem, reduceCtorEq, Nat.reduceEqDiff, Nat.reduceAdd, Nat.reduceSub, Nat.reduceMul, Nat.reduceLeDiff, Int.reduceLT, Int.reduceLE, Int.reduceEq, ↓reduceIte, Int.reduceNeg, Int.reduceAdd, Int.reduceSub, Int.reduceMul, true_imp_iff, forall_const, Nat.mul_one, Int.reduceToNat, Nat.reducePow, Int.reducePow, Bool.true_and, Bool.false_and, Bool.and_false, hf, hc]
        by_cases h9 : opG p.op = 9
        · have hc : (cnt : Int) = 1 := by rw [← hcnt]; unfold cntG; rw [if_pos (by omega)]; rfl
          simp (disch := first | assumption | omega | (simp only [List.length_append, List.length_cons, List.length_nil]; omega)) only [go_sem, reduceCtorEq, Nat.reduceEqDiff, Nat.reduceAdd, Nat.reduceSub, Nat.reduceMul, Nat.reduceLeDiff, Int.reduceLT, Int.reduceLE, Int.reduceEq, ↓reduceIte, Int.reduceNeg, Int.reduceAdd, Int.reduceSub, Int.reduceMul, true_imp_iff, forall_const, Nat.mul_one, Int.reduceToNat, Nat.reducePow, Int.reducePow, Bool.true_and, Bool.false_and, Bool.and_false, hf, h1, h3, h4, h2, h5, h6, h7, h8, h9, ASt.set_set, ←hF]
          refine fin b4 b6 b7 9 0 [] .zero .zero _ z4 z6 z7 n46 n47 n67 (fun ks => by unfold nodeG; rw [if_neg (by omega), if_neg (by omega), if_neg (by omega), if_neg (by omega), if_neg (by omega), if_neg (by omega), if_neg (by omega), if_neg (by omega), h9]) (by omega) ?_
          simp (disch := first | assumption | omega | (simp only [List.length_append, List.length_cons, List.length_nil]; omega)) only [go_sem, reduceCtorEq, Nat.reduceEqDiff, Nat.reduceAdd, Nat.reduceSub, Nat.reduceMul, Nat.reduceLeDiff, Int.reduceLT, Int.reduceLE, Int.reduceEq, ↓reduceIte, Int.reduceNeg, Int.reduceAdd, Int.reduceSub, Int.reduceMul, true_imp_iff, forall_const, Nat.mul_one, Int.reduceToNat, Nat.reducePow, Int.reducePow, Bool.true_and, Bool.false_and, Bool.and_false, hf, hc]
        by_cases h23 : opG p.op = 23
        · have hc : (cnt : Int) = 0 := by rw [← hcnt]; unfold cntG; rw [if_neg (by omega), if_neg (by omega), if_neg (by omega)]; rfl
          simp (disch := first | assumption | omega | (simp only [List.length_append, List.length_cons, List.length_nil]; omega)) only [go_sem, reduceCtorEq, Nat.reduceEqDiff, Nat.reduceAdd, Nat.reduceSub, Nat.reduceMul, Nat.reduceLeDiff, Int.reduceLT, Int.reduceLE, Int.reduceEq, ↓reduceIte, Int.reduceNeg, Int.reduceAdd, Int.reduceSub, Int.reduceMul, true_imp_iff, forall_const, Nat.mul_one, Int.reduceToNat, Nat.reducePow, Int.reducePow, Bool.true_and, Bool.false_and, Bool.and_false, hf, h1, h3, h4, h2, h5, h6, h7, h8, h9, h23, ASt.set_set, ←hF]
          refine fin b4 b6 b7 3 0 [] .zero .zero _ z4 z6 z7 n46 n47 n67 (fun ks => by unfold nodeG; rw [if_neg (by omega), if_neg (by omega), if_neg (by omega), if_neg (by omega), if_neg (by omega), if_neg (by omega), if_pos h23]) (by omega) ?_
          simp (disch := first | assumption | omega | (simp only [List.length_append, List.length_cons, List.length_nil]; omega)) only [go_sem, reduceCtorEq, Nat.reduceEqDiff, Nat.reduceAdd, Nat.reduceSub, Nat.reduceMul, Nat.reduceLeDiff, Int.reduceLT, Int.reduceLE, Int.reduceEq, ↓reduceIte, Int.reduceNeg, Int.reduceAdd, Int.reduceSub, Int.reduceMul, true_imp_iff, forall_const, Nat.mul_one, Int.reduceToNat, Nat.reducePow, Int.reducePow, Bool.true_and, Bool.false_and, Bool.and_false, hf, hc]
        by_cases h22 : opG p.op = 22
        · have hu : 0 ≤ (kkG p.n).tdiv 4 ∧ (kkG p.n).tdiv 4 ≤ 25000 := by rw [Int.tdiv_eq_ediv_of_nonneg hkk.1]; omega
          have hw : 0 ≤ ((kkG p.n).tdiv 4).tmod 4 ∧ ((kkG p.n).tdiv 4).tmod 4 < 4 := ⟨Int.tmod_nonneg _ hu.1, Int.tmod_lt_of_pos _ (by decide)⟩
          have hr : 0 ≤ (kkG p.n).tmod 4 ∧ (kkG p.n).tmod 4 < 4 := ⟨Int.tmod_nonneg _ hkk.1, Int.tmod_lt_of_pos _ (by decide)⟩
          have hc : (cnt : Int) = ((kkG p.n).tdiv 4).tmod 4 := by rw [← hcnt]; unfold cntG; rw [if_neg (by omega), if_pos h22]; omega
          have hN : ∀ ks, nodeG p ks = .mk 22 0 (callL.getD ((kkG p.n).tmod 4).toNat []) .zero .zero ks := fun ks => by unfold nodeG; rw [if_neg (by omega), if_neg (by omega), if_neg (by omega), if_neg (by omega), if_neg (by omega), if_neg (by omega), if_neg (by omega), if_pos h22]
          obtain ⟨u, hue⟩ : ∃ u, (kkG p.n).tdiv 4 = u := ⟨_, rfl⟩
          rw [hue] at hu hw hc
          obtain ⟨w, hwe⟩ : ∃ w, u.tmod 4 = w := ⟨_, rfl⟩
          rw [hwe] at hw hc
          have hr4 : (kkG p.n).tmod 4 = 0 ∨ (kkG p.n).tmod 4 = 1 ∨ (kkG p.n).tmod 4 = 2 ∨ (kkG p.n).tmod 4 = 3 := by omega
          rcases hr4 with hr4 | hr4 | hr4 | hr4
          all_goals
            rw [hr4] at hN
            simp (disch := first | assumption | omega | (simp only [List.length_append, List.length_cons, List.length_nil]; omega)) only [go_sem, reduceCtorEq, Nat.reduceEqDiff, Nat.reduceAdd, Nat.reduceSub, Nat.reduceMul, Nat.reduceLeDiff, Int.reduceLT, Int.reduceLE, Int.reduceEq, ↓reduceIte, Int.reduceNeg, Int.reduceAdd, Int.reduceSub, Int.reduceMul, true_imp_iff, forall_const, Nat.mul_one, Int.reduceToNat, Nat.reducePow, Int.reducePow, Bool.true_and, Bool.false_and, Bool.and_false, hf, h1, h3, h4, h2, h5, h6, h7, h8, h9, h23, h22, hr4, hue, hwe, ASt.set_set, ←hF]
            refine fin b4 b6 b7 22 0 _ .zero .zero _ z4 z6 z7 n46 n47 n67 hN (by omega) ?_
            simp (disch := first | assumption | omega | (simp only [List.length_append, List.length_cons, List.length_nil]; omega)) only [go_sem, reduceCtorEq, Nat.reduceEqDiff, Nat.reduceAdd, Nat.reduceSub, Nat.reduceMul, Nat.reduceLeDiff, Int.reduceLT, Int.reduceLE, Int.reduceEq, ↓reduceIte, Int.reduceNeg, Int.reduceAdd, Int.reduceSub, Int.reduceMul, true_imp_iff, forall_const, Nat.mul_one, Int.reduceToNat, Nat.reducePow, Int.reducePow, Bool.true_and, Bool.false_and, Bool.and_false, hf, hc]
        have hc : (cnt : Int) = 2 := by rw [← hcnt]; unfold cntG; rw [if_neg (by omega), if_neg (by omega), if_pos (by omega)]; rfl
        simp (disch := first | assumption | omega | (simp only [List.length_append, List.length_cons, List.length_nil]; omega)) only [go_sem, reduceCtorEq, Nat.reduceEqDiff, Nat.reduceAdd, Nat.reduceSub, Nat.reduceMul, Nat.reduceLeDiff, Int.reduceLT, Int.reduceLE, Int.reduceEq, ↓reduceIte, Int.reduceNeg, Int.reduceAdd, Int.reduceSub, Int.reduceMul, true_imp_iff, forall_const, Nat.mul_one, Int.reduceToNat, Nat.reducePow, Int.reducePow, Bool.true_and, Bool.false_and, Bool.and_false, hf, h1, h3, h4, h2, h5, h6, h7, h8, h9, h23, h22, ASt.set_set, ←hF]
        refine fin b4 b6 b7 (opG p.op) 0 [] .zero .zero _ z4 z6 z7 n46 n47 n67 (fun ks => by unfold nodeG; rw [if_neg (by omega), if_neg (by omega), if_neg (by omega), if_neg (by omega), if_neg (by omega), if_neg (by omega), if_neg (by omega), if_neg (by omega)]) (by omega) ?_
        simp (disch := first | assumption | omega | (simp only [List.length_append, List.length_cons, List.length_nil]; omega)) only [go_sem, reduceCtorEq, Nat.reduceEqDiff, Nat.reduceAdd, Nat.reduceSub, Nat.reduceMul, Nat.reduceLeDiff, Int.reduceLT, Int.reduceLE, Int.reduceEq, ↓reduceIte, Int.reduceNeg, Int.reduceAdd, Int.reduceSub, Int.reduceMul, true_imp_iff, forall_const, Nat.mul_one, Int.reduceToNat, Nat.reducePow, Int.reducePow, Bool.true_and, Bool.false_and, Bool.and_false, hf, hc]
      rw [← hQ]
      unfold zero12 at brs
      refine brs _ ?_
      simp (disch := first | assumption | omega | (simp only [List.length_append, List.length_cons, List.length_nil]; omega)) only [go_sem, reduceCtorEq, Nat.reduceEqDiff, Nat.reduceAdd, Nat.reduceSub, Nat.reduceMul, Nat.reduceLeDiff, Int.reduceLT, Int.reduceLE, Int.reduceEq, ↓reduceIte, Int.reduceNeg, Int.reduceAdd, Int.reduceSub, Int.reduceMul, true_imp_iff, forall_const, Nat.mul_one, Int.reduceToNat, Nat.reducePow, Int.reducePow, Bool.true_and, Bool.false_and, Bool.and_false]
    · have hlt' : ¬ (i : Int) < L.length := by omega
      have hge : (L.length : Int) ≤ i := by omega
      have hx : L[i]? = none := List.getElem?_eq_none (by omega)
      have hg : growK L k i = (.mk 1 0 [] .zero .zero [], i) := by
        cases k with
        | zero => rfl
        | succ k => rw [growK, hx]
      rw [hg]
      dsimp only
      rw [Nd.av_cs]
      refine a20 (by simp) ?_
      simp (disch := first | assumption | omega | (simp only [List.length_append, List.length_cons, List.length_nil]; omega)) only [go_sem, reduceCtorEq, Nat.reduceEqDiff, Nat.reduceAdd, Nat.reduceSub, Nat.reduceMul, Nat.reduceLeDiff, Int.reduceLT, Int.reduceLE, Int.reduceEq, ↓reduceIte, Int.reduceNeg, Int.reduceAdd, Int.reduceSub, Int.reduceMul, true_imp_iff, forall_const, Nat.mul_one, Int.reduceToNat, Nat.reducePow, Int.reducePow, Bool.true_and, Bool.false_and, Bool.and_false]
      refine allocC_by fun b4 hb4 => ?_
      simp (disch := first | assumption | omega | (simp only [List.length_append, List.length_cons, List.length_nil]; omega)) only [go_sem, reduceCtorEq, Nat.reduceEqDiff, Nat.reduceAdd, Nat.reduceSub, Nat.reduceMul, Nat.reduceLeDiff, Int.reduceLT, Int.reduceLE, Int.reduceEq, ↓reduceIte, Int.reduceNeg, Int.reduceAdd, Int.reduceSub, Int.reduceMul, true_imp_iff, forall_const, Nat.mul_one, Int.reduceToNat, Nat.reducePow, Int.reducePow, Bool.true_and, Bool.false_and, Bool.and_false, hge, ASt.set_set]
      exact retC_by (Drop.set hb4) (.tuple (.cons (.agg (.cons (.refl _) (.cons (.refl _) (.cons (.refl _) (.cons (.refl _) (.cons (.refl _) (.cons (.refl _) (.cons (.refl _) (.cons (.refl _) (.cons (.refl _) (.cons (.refl _) (.cons (.refl _) (.cons (.sl _ _) .nil))))))))))))) (.cons (.refl _) .nil))) ⟨rfl, rfl⟩
termination_by k => k
end Go.A
