/- Part 8 of what ParseTrees leans on: Ej Pa CodeZk. -/
import Derived.Test.YtaonfjelncbhjaaGreatDoorProg
import Derived.KernelRfl
import Derived.Test.YtaonfjelncbhjaaGreatDoorZParseTreesg
set_option linter.defProp false
set_option linter.unusedSimpArgs false
set_option linter.unusedVariables false
set_option maxRecDepth 100000
namespace Go.A
open Go.Proofs Go.Lib
theorem sgF_step {k : Nat} {r : List UInt8} (h0 : r ≠ []) (hv : decodeL r ≠ (65533, 1)) : sgF (k + 1) r = (sgF k (r.drop (decodeL r).2)).map (· + 1) := by
 rw [sgF, if_neg h0, if_neg hv]
theorem sgT_fuel : ∀ (k m : Nat) (r : List UInt8), r.length < k → r.length < m → sgF k r = sgF m r
 | 0, _, r, h, _ => absurd h (Nat.not_lt_zero _)
 | _, 0, r, _, h => absurd h (Nat.not_lt_zero _)
 | k + 1, m + 1, r, h1, h2 => by
   rw [sgF, sgF]
   by_cases h0 : r = []
   ·rw [if_pos h0, if_pos h0]
   ·rw [if_neg h0, if_neg h0]
    split
    ·rfl
    ·have hw := decodeL_width r
     have hl := List.length_pos_iff.2 h0
     rw [sgT_fuel k m _ (by rw [List.length_drop]; omega) (by rw [List.length_drop]; omega)]
def sgT (r : List UInt8) : Option Nat := sgF (r.length + 1) r
theorem sgT_nil : sgT [] = some 0 := rfl
theorem sgT_bad {r : List UInt8} (h0 : r ≠ []) (hv : decodeL r = (65533, 1)) : sgT r = none := by
 unfold sgT
 rw [sgF, if_neg h0, if_pos hv]
theorem sgT_step {r : List UInt8} (h0 : r ≠ []) (hv : decodeL r ≠ (65533, 1)) : sgT r = (sgT (r.drop (decodeL r).2)).map (· + 1) := by
 unfold sgT
 rw [sgF_step h0 hv]
 have hw := decodeL_width r
 have hl := List.length_pos_iff.2 h0
 rw [sgT_fuel r.length ((r.drop (decodeL r).2).length + 1) _ (by rw [List.length_drop]; omega) (by omega)]
def sgAV (s : List UInt8) : AV := match sgT s with
 | some n => .tuple [.int .i64 n, .bool true]
 | none => .tuple [.int .i64 0, .bool false]
def moreP (s : List UInt8) (at' lo hi : Nat) : Bool := decide (at' < s.length ∧ lo ≤ (s.getD at' 0).toNat ∧ (s.getD at' 0).toNat ≤ hi)
theorem more_ok (s : List UInt8) (at' lo hi : Nat) (ha : at' ≤ 9000000000000000000) : Pure Tryz.prog 81 [.str s, .int .i64 at', .int .i64 lo, .int .i64 hi] (.bool (moreP s at' lo hi)) := by
 intro σ
 refine a81 (by simp) ?_
 unfold moreP
 by_cases h : at' < s.length
 ·have h' : (at' : Int) < s.length := by omega
  have hx : s[at']? = some (s[at']'h) := List.getElem?_eq_getElem h
  obtain ⟨c, hc⟩ : ∃ c, s[at']'h = c := ⟨_, rfl⟩
  rw [hc] at hx
  have hg : s.getD at' 0 = c := by rw [List.getD_eq_getElem?_getD, hx]; rfl
  rw [hg]
  have hcb := u8_lt c
  by_cases h1 : lo ≤ c.toNat
  ·have h1' : (lo : Int) ≤ c.toNat := by omega
   by_cases h2 : c.toNat ≤ hi
   ·have h2' : (c.toNat : Int) ≤ hi := by omega
    rw [decide_eq_true ⟨h, h1, h2⟩]
    simp (disch := first | assumption | omega) only [go_sem, reduceCtorEq, Nat.reduceEqDiff, ↓reduceIte, h', hx, h1', h2']
    exact retC_by (by repeat' (first | exact Drop.refl _ | with_reducible refine Drop.off ?_ (by assumption))) (.refl _) ⟨rfl, rfl⟩
   ·have h2' : ¬ (c.toNat : Int) ≤ hi := by omega
    rw [decide_eq_false (fun h => h2 h.2.2)]
    simp (disch := first | assumption | omega) only [go_sem, reduceCtorEq, Nat.reduceEqDiff, ↓reduceIte, h', hx, h1', h2']
    exact retC_by (by repeat' (first | exact Drop.refl _ | with_reducible refine Drop.off ?_ (by assumption))) (.refl _) ⟨rfl, rfl⟩
  ·have h1' : ¬ (lo : Int) ≤ c.toNat := by omega
   rw [decide_eq_false (fun h => h1 h.2.1)]
   simp (disch := first | assumption | omega) only [go_sem, reduceCtorEq, Nat.reduceEqDiff, ↓reduceIte, h', hx, h1']
   exact retC_by (by repeat' (first | exact Drop.refl _ | with_reducible refine Drop.off ?_ (by assumption))) (.refl _) ⟨rfl, rfl⟩
 ·have h' : ¬ (at' : Int) < s.length := by omega
  rw [decide_eq_false (fun h2 => h h2.1)]
  simp (disch := first | assumption | omega) only [go_sem, reduceCtorEq, Nat.reduceEqDiff, ↓reduceIte, h']
  exact retC_by (by repeat' (first | exact Drop.refl _ | with_reducible refine Drop.off ?_ (by assumption))) (.refl _) ⟨rfl, rfl⟩
def sigL (r : List UInt8) : Nat := if r = [] then 0 else if decodeL r = (65533, 1) then 0 else (decodeL r).2
def sigN (n b0 b1 b2 b3 : Nat) : Nat :=
 let lo := if b0 = 224 then 160 else if b0 = 240 then 144 else 128
 let hi := if b0 = 237 then 159 else if b0 = 244 then 143 else 191
 if b0 < 128 then 1
 else if 194 ≤ b0 ∧ b0 ≤ 223 ∧ (1 < n ∧ 128 ≤ b1 ∧ b1 ≤ 191) then 2
 else if 224 ≤ b0 ∧ b0 ≤ 239 ∧ (1 < n ∧ lo ≤ b1 ∧ b1 ≤ hi) ∧ (2 < n ∧ 128 ≤ b2 ∧ b2 ≤ 191) then 3
 else if 240 ≤ b0 ∧ b0 ≤ 244 ∧ (1 < n ∧ lo ≤ b1 ∧ b1 ≤ hi) ∧ (2 < n ∧ 128 ≤ b2 ∧ b2 ≤ 191) ∧ (3 < n ∧ 128 ≤ b3 ∧ b3 ≤ 191) then 4
 else 0
set_option maxHeartbeats 2000000 in
theorem sigN_eq {n b0 b1 b2 b3 : Nat} (h0 : b0 < 256) (h1 : b1 < 256) (h2 : b2 < 256) (h3 : b3 < 256) : sigN n b0 b1 b2 b3 = if decodeN n b0 b1 b2 b3 = (65533, 1) then 0 else (decodeN n b0 b1 b2 b3).2 := by
 have key : ∀ (x : Nat × Nat) (v : Nat), v = (if x = (65533, 1) then 0 else x.2) ↔ (x.1 = 65533 ∧ x.2 = 1 → v = 0) ∧ (¬ (x.1 = 65533 ∧ x.2 = 1) → v = x.2) := by
  intro x v
  obtain ⟨x1, x2⟩ := x
  simp only [Prod.mk.injEq]
  split
  ·rename_i h; exact ⟨fun e => ⟨fun _ => e, fun hn => absurd h hn⟩, fun hh => hh.1 h⟩
  ·rename_i h; exact ⟨fun e => ⟨fun hh => absurd hh h, fun _ => e⟩, fun hh => hh.2 h⟩
 rw [key]
 unfold sigN decodeN
 dsimp only
 by_cases c1 : b0 < 128
 ·simp only [if_pos c1]; exact ⟨fun h => by omega, fun _ => trivial⟩
 simp only [if_neg c1]
 by_cases c2 : b0 / 32 = 6
 ·rw [if_neg (show ¬ (224 ≤ b0 ∧ b0 ≤ 239 ∧ _) from fun h => by omega), if_neg (show ¬ (240 ≤ b0 ∧ b0 ≤ 244 ∧ _) from fun h => by omega)]
  rw [if_neg (show ¬ (b0 / 16 = 14 ∧ _) from fun h => by omega), if_neg (show ¬ (b0 / 8 = 30 ∧ _) from fun h => by omega)]
  repeat' split
  all_goals (dsimp only; omega)
 rw [if_neg (show ¬ (194 ≤ b0 ∧ b0 ≤ 223 ∧ _) from fun h => by omega), if_neg (show ¬ (b0 / 32 = 6 ∧ _) from fun h => by omega)]
 by_cases c3 : b0 / 16 = 14
 ·rw [if_neg (show ¬ (240 ≤ b0 ∧ b0 ≤ 244 ∧ _) from fun h => by omega), if_neg (show ¬ (b0 / 8 = 30 ∧ _) from fun h => by omega)]
  rw [if_neg (show ¬ b0 = 240 by omega), if_neg (show ¬ b0 = 244 by omega)]
  repeat' split
  all_goals (dsimp only; omega)
 rw [if_neg (show ¬ (224 ≤ b0 ∧ b0 ≤ 239 ∧ _) from fun h => by omega), if_neg (show ¬ (b0 / 16 = 14 ∧ _) from fun h => by omega)]
 rw [if_neg (show ¬ b0 = 224 by omega), if_neg (show ¬ b0 = 237 by omega)]
 repeat' split
 all_goals (dsimp only; omega)
theorem sigL_N {r : List UInt8} (h : r ≠ []) : sigL r = sigN r.length (r.getD 0 0).toNat (r.getD 1 0).toNat (r.getD 2 0).toNat (r.getD 3 0).toNat := by
 unfold sigL
 rw [if_neg h, decodeL_N, sigN_eq (UInt8.toNat_lt _) (UInt8.toNat_lt _) (UInt8.toNat_lt _) (UInt8.toNat_lt _)]
theorem more_at (s : List UInt8) (p k lo hi : Nat) (hp : p + k ≤ 9000000000000000000) : Pure Tryz.prog 81 [.str s, .int .i64 ((p : Int) + k), .int .i64 lo, .int .i64 hi] (.bool (moreP s (p + k) lo hi)) := by
 have := more_ok s (p + k) lo hi hp
 rw [Int.natCast_add] at this
 exact this
theorem more_iff (s : List UInt8) (p k lo hi : Nat) (hp : p ≤ s.length) : moreP s (p + k) lo hi = true ↔ (k < (s.drop p).length ∧ lo ≤ ((s.drop p).getD k 0).toNat ∧ ((s.drop p).getD k 0).toNat ≤ hi) := by
 unfold moreP
 rw [decide_eq_true_eq, getD_dropU, List.length_drop]
 constructor
 ·rintro ⟨h1, h2, h3⟩; exact ⟨by omega, h2, h3⟩
 ·rintro ⟨h1, h2, h3⟩; exact ⟨by omega, h2, h3⟩
set_option maxHeartbeats 2000000 in
theorem rsign_ok (s : List UInt8) (p : Nat) (hp : p ≤ s.length) (hl : s.length ≤ 4611686018427387904) : Pure Tryz.prog 60 [.str s, .int .i64 p] (.int .i64 (sigL (s.drop p) : Nat)) := by
 intro σ
 refine a60 (by simp) ?_
 by_cases hlt : p < s.length
 ·have hlt' : ¬ (s.length : Int) ≤ p := by omega
  have hne : s.drop p ≠ [] := by
   intro e
   have := congrArg List.length e
   rw [List.length_drop] at this
   simp at this
   omega
  have hx : s[p]? = some (s[p]'hlt) := List.getElem?_eq_getElem hlt
  obtain ⟨c, hc⟩ : ∃ c, s[p]'hlt = c := ⟨_, rfl⟩
  rw [hc] at hx
  have hb0 : ((s.drop p).getD 0 0).toNat = c.toNat := by rw [getD_dropU, List.getD_eq_getElem?_getD, Nat.add_zero, hx]; rfl
  rw [sigL_N hne, hb0]
  have hcb := u8_lt c
  have m1 := more_iff s p 1 128 191 hp
  have m2 := more_iff s p 2 128 191 hp
  have m3 := more_iff s p 3 128 191 hp
  have q1 := more_at s p 1 128 191 (by omega)
  have q2 := more_at s p 2 128 191 (by omega)
  have q3 := more_at s p 3 128 191 (by omega)
  have mm := fun lo hi => more_iff s p 1 lo hi hp
  have qq := fun lo hi => more_at s p 1 lo hi (by omega)
  generalize ((s.drop p).getD 1 0).toNat = b1 at *
  generalize ((s.drop p).getD 2 0).toNat = b2 at *
  generalize ((s.drop p).getD 3 0).toNat = b3 at *
  generalize (s.drop p).length = n at *
  obtain ⟨C, hC⟩ : ∃ C, c.toNat = C := ⟨_, rfl⟩
  rw [hC] at hcb ⊢
  have e1 : ((1 : Nat) : Int) = 1 := rfl
  have e2 : ((2 : Nat) : Int) = 2 := rfl
  have e3 : ((3 : Nat) : Int) = 3 := rfl
  have e128 : ((128 : Nat) : Int) = 128 := rfl
  have e191 : ((191 : Nat) : Int) = 191 := rfl
  rw [e1, e128, e191] at q1
  rw [e2, e128, e191] at q2
  rw [e3, e128, e191] at q3
  simp only [e1] at qq
  generalize hM1 : moreP s (p + 1) 128 191 = M1 at *
  generalize moreP s (p + 2) 128 191 = M2 at *
  generalize moreP s (p + 3) 128 191 = M3 at *
  obtain ⟨F, hF⟩ : ∃ F, F = ACode.wp Tryz.prog c60_47 := ⟨_, rfl⟩
  have tail : ∀ (a1 : AFr) (lo hi : Nat) (T : Nat), (a1 0 = .str s ∧ a1 1 = .int .i64 p ∧ a1 5 = .int .i64 C ∧ a1 6 = .int .i64 lo ∧ a1 7 = .int .i64 hi) →
    T = (if 224 ≤ C ∧ C ≤ 239 ∧ moreP s (p + 1) lo hi = true ∧ M2 = true then 3 else if 240 ≤ C ∧ C ≤ 244 ∧ moreP s (p + 1) lo hi = true ∧ M2 = true ∧ M3 = true then 4 else 0) → F (RetQ [.t 4] fun v σ' => v = .int .i64 T ∧ σ' = σ) a1 σ := by
   intro a1 lo hi T hf hT
   rw [hF]
   have q := qq lo hi
   generalize moreP s (p + 1) lo hi = M at *
   by_cases g1 : 224 ≤ C
   ·have g1' : (224 : Int) ≤ C := by omega
    by_cases g2 : C ≤ 239
    ·have g2' : (C : Int) ≤ 239 := by omega
     have g3' : ¬ (240 : Int) ≤ C := by omega
     simp (disch := first | assumption | omega) only [go_sem, reduceCtorEq, Nat.reduceEqDiff, ↓reduceIte, hf, g1', g2']
     refine q.use ?_
     cases M with
     | false =>
       rw [if_neg (by simp), if_neg (by simp)] at hT
       subst hT
       simp (disch := first | assumption | omega) only [go_sem, Nat.reduceEqDiff, ↓reduceIte, hf, g3']
       exact retC_by (by repeat' (first | exact Drop.refl _ | with_reducible refine Drop.off ?_ (by assumption))) (.refl _) ⟨rfl, rfl⟩
     | true =>
       simp (disch := first | assumption | omega) only [go_sem, reduceCtorEq, Nat.reduceEqDiff, ↓reduceIte, hf]
       refine q2.use ?_
       cases M2 with
       | false =>
         rw [if_neg (by simp), if_neg (by simp)] at hT
         subst hT
         simp (disch := first | assumption | omega) only [go_sem, Nat.reduceEqDiff, ↓reduceIte, hf, g3']
         exact retC_by (by repeat' (first | exact Drop.refl _ | with_reducible refine Drop.off ?_ (by assumption))) (.refl _) ⟨rfl, rfl⟩
       | true =>
         rw [if_pos ⟨g1, g2, rfl, rfl⟩] at hT
         subst hT
         simp (disch := first | assumption | omega) only [go_sem, Nat.reduceEqDiff, ↓reduceIte]
         exact retC_by (by repeat' (first | exact Drop.refl _ | with_reducible refine Drop.off ?_ (by assumption))) (.refl _) ⟨rfl, rfl⟩
    ·have g2' : ¬ (C : Int) ≤ 239 := by omega
     have g3' : (240 : Int) ≤ C := by omega
     rw [if_neg (fun h => g2 h.2.1)] at hT
     by_cases g4 : C ≤ 244
     ·have g4' : (C : Int) ≤ 244 := by omega
      simp (disch := first | assumption | omega) only [go_sem, reduceCtorEq, Nat.reduceEqDiff, ↓reduceIte, hf, g1', g2', g3', g4']
      refine q.use ?_
      cases M with
      | false =>
        rw [if_neg (by simp)] at hT
        subst hT
        simp (disch := first | assumption | omega) only [go_sem, Nat.reduceEqDiff, ↓reduceIte]
        exact retC_by (by repeat' (first | exact Drop.refl _ | with_reducible refine Drop.off ?_ (by assumption))) (.refl _) ⟨rfl, rfl⟩
      | true =>
        simp (disch := first | assumption | omega) only [go_sem, reduceCtorEq, Nat.reduceEqDiff, ↓reduceIte, hf]
        refine q2.use ?_
        cases M2 with
        | false =>
          rw [if_neg (by simp)] at hT
          subst hT
          simp (disch := first | assumption | omega) only [go_sem, Nat.reduceEqDiff, ↓reduceIte]
          exact retC_by (by repeat' (first | exact Drop.refl _ | with_reducible refine Drop.off ?_ (by assumption))) (.refl _) ⟨rfl, rfl⟩
        | true =>
          simp (disch := first | assumption | omega) only [go_sem, reduceCtorEq, Nat.reduceEqDiff, ↓reduceIte, hf]
          refine q3.use ?_
          cases M3 with
          | false =>
            rw [if_neg (by simp)] at hT
            subst hT
            simp (disch := first | assumption | omega) only [go_sem, Nat.reduceEqDiff, ↓reduceIte]
            exact retC_by (by repeat' (first | exact Drop.refl _ | with_reducible refine Drop.off ?_ (by assumption))) (.refl _) ⟨rfl, rfl⟩
          | true =>
            rw [if_pos ⟨by omega, g4, rfl, rfl, rfl⟩] at hT
            subst hT
            simp (disch := first | assumption | omega) only [go_sem, Nat.reduceEqDiff, ↓reduceIte]
            exact retC_by (by repeat' (first | exact Drop.refl _ | with_reducible refine Drop.off ?_ (by assumption))) (.refl _) ⟨rfl, rfl⟩
     ·have g4' : ¬ (C : Int) ≤ 244 := by omega
      rw [if_neg (fun h => g4 h.2.1)] at hT
      subst hT
      simp (disch := first | assumption | omega) only [go_sem, Nat.reduceEqDiff, ↓reduceIte, hf, g1', g2', g3', g4']
      exact retC_by (by repeat' (first | exact Drop.refl _ | with_reducible refine Drop.off ?_ (by assumption))) (.refl _) ⟨rfl, rfl⟩
   ·have g1' : ¬ (224 : Int) ≤ C := by omega
    have g3' : ¬ (240 : Int) ≤ C := by omega
    rw [if_neg (fun h => g1 h.1), if_neg (fun h => by omega)] at hT
    subst hT
    simp (disch := first | assumption | omega) only [go_sem, Nat.reduceEqDiff, ↓reduceIte, hf, g1', g3']
    exact retC_by (by repeat' (first | exact Drop.refl _ | with_reducible refine Drop.off ?_ (by assumption))) (.refl _) ⟨rfl, rfl⟩
  have hCw : IntKind.i64.wrap (C : Int) = C := by rw [IntKind.wrap_i64]; omega
  by_cases c1 : C < 128
  ·have c1' : (C : Int) < 128 := by omega
   unfold sigN
   rw [if_pos c1]
   simp (disch := first | assumption | omega) only [go_sem, reduceCtorEq, Nat.reduceEqDiff, ↓reduceIte, hlt', hx, hC, hCw, c1']
   exact retC_by (by repeat' (first | exact Drop.refl _ | with_reducible refine Drop.off ?_ (by assumption))) (.refl _) ⟨rfl, rfl⟩
  have c1' : ¬ (C : Int) < 128 := by omega
  have step2 : ∀ (a1 : AFr), ¬ (194 ≤ C ∧ C ≤ 223 ∧ M1 = true) → (a1 0 = .str s ∧ a1 1 = .int .i64 p ∧ a1 5 = .int .i64 C) → ACode.wp Tryz.prog c60_52 (RetQ [.t 4] fun v σ' => v = .int .i64 (sigN n C b1 b2 b3 : Nat) ∧ σ' = σ) a1 σ := by
   intro a1 hno hf
   have fold : ∀ lo hi : Nat, lo = (if C = 224 then 160 else if C = 240 then 144 else 128) → hi = (if C = 237 then 159 else if C = 244 then 143 else 191) → sigN n C b1 b2 b3 = (if 224 ≤ C ∧ C ≤ 239 ∧ moreP s (p + 1) lo hi = true ∧ M2 = true then 3 else if 240 ≤ C ∧ C ≤ 244 ∧ moreP s (p + 1) lo hi = true ∧ M2 = true ∧ M3 = true then 4 else 0) := by
    intro lo hi hlo hhi
    unfold sigN
    dsimp only
    rw [← hlo, ← hhi, if_neg c1, if_neg (fun h => hno ⟨h.1, h.2.1, m1.2 h.2.2⟩)]
    simp only [mm lo hi, m2, m3]
   by_cases k1 : C = 224
   ·have k1' : (C : Int) = 224 := by omega
    simp (disch := first | assumption | omega) only [go_sem, Nat.reduceEqDiff, Int.reduceEq, ↓reduceIte, hf, k1', ←hF]
    subst k1
    refine tail _ 160 191 _ ?_ (fold 160 191 (by simp) (by simp))
    simp (disch := first | assumption | omega) only [go_sem, reduceCtorEq, Nat.reduceEqDiff, ↓reduceIte, hf]
   have k1' : ¬ (C : Int) = 224 := by omega
   by_cases k2 : C = 240
   ·have k2' : (C : Int) = 240 := by omega
    simp (disch := first | assumption | omega) only [go_sem, Nat.reduceEqDiff, Int.reduceEq, ↓reduceIte, hf, k2', ←hF]
    subst k2
    refine tail _ 144 191 _ ?_ (fold 144 191 (by simp) (by simp))
    simp (disch := first | assumption | omega) only [go_sem, reduceCtorEq, Nat.reduceEqDiff, ↓reduceIte, hf]
   have k2' : ¬ (C : Int) = 240 := by omega
   by_cases k3 : C = 237
   ·have k3' : (C : Int) = 237 := by omega
    simp (disch := first | assumption | omega) only [go_sem, Nat.reduceEqDiff, Int.reduceEq, ↓reduceIte, hf, k3', ←hF]
    subst k3
    refine tail _ 128 159 _ ?_ (fold 128 159 (by simp) (by simp))
    simp (disch := first | assumption | omega) only [go_sem, reduceCtorEq, Nat.reduceEqDiff, ↓reduceIte, hf]
   have k3' : ¬ (C : Int) = 237 := by omega
   by_cases k4 : C = 244
   ·have k4' : (C : Int) = 244 := by omega
    simp (disch := first | assumption | omega) only [go_sem, Nat.reduceEqDiff, Int.reduceEq, ↓reduceIte, hf, k4', ←hF]
    subst k4
    refine tail _ 128 143 _ ?_ (fold 128 143 (by simp) (by simp))
    simp (disch := first | assumption | omega) only [go_sem, reduceCtorEq, Nat.reduceEqDiff, ↓reduceIte, hf]
   have k4' : ¬ (C : Int) = 244 := by omega
   simp (disch := first | assumption | omega) only [go_sem, Nat.reduceEqDiff, ↓reduceIte, hf, k1', k2', k3', k4', ←hF]
   refine tail _ 128 191 _ ?_ (fold 128 191 (by rw [if_neg k1, if_neg k2]) (by rw [if_neg k3, if_neg k4]))
   simp (disch := first | assumption | omega) only [go_sem, reduceCtorEq, Nat.reduceEqDiff, ↓reduceIte, hf]
  obtain ⟨G, hG⟩ : ∃ G, G = ACode.wp Tryz.prog c60_52 := ⟨_, rfl⟩
  rw [← hG] at step2
  by_cases c2 : 194 ≤ C
  ·have c2' : (194 : Int) ≤ C := by omega
   by_cases c3 : C ≤ 223
   ·have c3' : (C : Int) ≤ 223 := by omega
    simp (disch := first | assumption | omega) only [go_sem, reduceCtorEq, Nat.reduceEqDiff, ↓reduceIte, hlt', hx, hC, hCw, c1', c2', c3', ←hG]
    refine q1.use ?_
    cases M1 with
    | true =>
      unfold sigN
      dsimp only
      rw [if_neg c1, if_pos ⟨c2, c3, m1.1 rfl⟩]
      simp (disch := first | assumption | omega) only [go_sem, Nat.reduceEqDiff, ↓reduceIte]
      exact retC_by (by repeat' (first | exact Drop.refl _ | with_reducible refine Drop.off ?_ (by assumption))) (.refl _) ⟨rfl, rfl⟩
    | false =>
      simp (disch := first | assumption | omega) only [go_sem, Nat.reduceEqDiff, ↓reduceIte]
      refine step2 _ (fun h => by cases h.2.2) ?_
      simp (disch := first | assumption | omega) only [go_sem, reduceCtorEq, Nat.reduceEqDiff, ↓reduceIte]
   ·have c3' : ¬ (C : Int) ≤ 223 := by omega
    simp (disch := first | assumption | omega) only [go_sem, reduceCtorEq, Nat.reduceEqDiff, ↓reduceIte, hlt', hx, hC, hCw, c1', c2', c3', ←hG]
    refine step2 _ (fun h => c3 h.2.1) ?_
    simp (disch := first | assumption | omega) only [go_sem, reduceCtorEq, Nat.reduceEqDiff, ↓reduceIte]
  ·have c2' : ¬ (194 : Int) ≤ C := by omega
   simp (disch := first | assumption | omega) only [go_sem, reduceCtorEq, Nat.reduceEqDiff, ↓reduceIte, hlt', hx, hC, hCw, c1', c2', ←hG]
   refine step2 _ (fun h => c2 h.1) ?_
   simp (disch := first | assumption | omega) only [go_sem, reduceCtorEq, Nat.reduceEqDiff, ↓reduceIte]
 ·have hlt' : (s.length : Int) ≤ p := by omega
  rw [List.drop_eq_nil_of_le (by omega)]
  simp (disch := first | assumption | omega) only [go_sem, reduceCtorEq, Nat.reduceEqDiff, ↓reduceIte, hlt']
  exact retC_by (by repeat' (first | exact Drop.refl _ | with_reducible refine Drop.off ?_ (by assumption))) (.refl _) ⟨rfl, rfl⟩
theorem sigL_bad {r : List UInt8} (h0 : r ≠ []) (h : sigL r = 0) : sgT r = none := by
 unfold sigL at h
 rw [if_neg h0] at h
 by_cases hb : decodeL r = (65533, 1)
 ·exact sgT_bad h0 hb
 ·rw [if_neg hb] at h
  have := decodeL_width r
  omega
theorem sigL_step {r : List UInt8} (h0 : r ≠ []) (h : sigL r ≠ 0) : sgT r = (sgT (r.drop (sigL r))).map (· + 1) ∧ sigL r ≤ r.length := by
 unfold sigL at h ⊢
 rw [if_neg h0] at h ⊢
 by_cases hb : decodeL r = (65533, 1)
 ·rw [if_pos hb] at h; exact absurd rfl h
 ·rw [if_neg hb]
  exact ⟨sgT_step h0 hb, decodeL_le r h0⟩
set_option maxHeartbeats 1000000 in
theorem rsigns_ok (s : List UInt8) (hl : s.length ≤ 4611686018427387904) : Pure Tryz.prog 36 [.str s] (sgAV s) := by
 intro σ
 refine a36 (by simp) ?_
 obtain ⟨R, hR⟩ : ∃ R, sgT s = R := ⟨_, rfl⟩
 unfold sgAV
 rw [hR]
 simp (disch := first | assumption | omega) only [go_sem]
 refine wp_loop_on (fun (p : Nat) a s2 => p ≤ s.length ∧ (∃ n : Nat, R = (sgT (s.drop p)).map (· + n) ∧ n ≤ p ∧ a 4 = .int .i64 n) ∧ (a 0 = .str s ∧ a 5 = .int .i64 p) ∧ s2 = σ) (fun p => s.length - p) 0 ⟨Nat.zero_le _, ⟨0, ?_, Nat.le_refl _, ?_⟩, ?_, rfl⟩ ?_
 ·rw [← hR, List.drop_zero]; cases sgT s <;> rfl
 ·simp (disch := first | assumption | omega) only [go_sem, Nat.reduceEqDiff, ↓reduceIte]
 ·simp (disch := first | assumption | omega) only [go_sem, reduceCtorEq, ↓reduceIte]
 rintro p a s2 ⟨hp, ⟨n, hm, hn, h4⟩, hf, rfl⟩
 by_cases hlt : p < s.length
 ·have hlt' : (p : Int) < s.length := by omega
  have hne : s.drop p ≠ [] := by
   intro e
   have := congrArg List.length e
   rw [List.length_drop] at this
   simp at this
   omega
  have hS := rsign_ok s p hp hl
  have hbad := sigL_bad hne
  have hstep := sigL_step hne
  rw [List.length_drop] at hstep
  generalize sigL (s.drop p) = w at *
  by_cases hw : w = 0
  ·have hw' : (w : Int) = 0 := by omega
   rw [hbad hw] at hm
   simp only [Option.map_none] at hm
   subst hm
   simp (disch := first | assumption | omega) only [go_sem, reduceCtorEq, Nat.reduceEqDiff, ↓reduceIte, hf, hlt']
   refine hS.use ?_
   simp (disch := first | assumption | omega) only [go_sem, Nat.reduceEqDiff, ↓reduceIte, hw']
   exact retC_by (by repeat' (first | exact Drop.refl _ | with_reducible refine Drop.off ?_ (by assumption))) (.refl _) ⟨rfl, rfl⟩
  ·have hw' : ¬ (w : Int) = 0 := by omega
   obtain ⟨h1, h2⟩ := hstep hw
   rw [h1, List.drop_drop, Option.map_map] at hm
   simp (disch := first | assumption | omega) only [go_sem, reduceCtorEq, Nat.reduceEqDiff, ↓reduceIte, hf, hlt']
   refine hS.use ?_
   simp (disch := first | assumption | omega) only [go_sem, reduceCtorEq, Nat.reduceEqDiff, ↓reduceIte, hf, h4, hw']
   refine ⟨p + w, by omega, by omega, ⟨n + 1, ?_, by omega, rfl⟩, rfl⟩
   rw [hm]
   congr 1
   funext x
   simp only [Function.comp]
   omega
 ·have hlt' : ¬ (p : Int) < s.length := by omega
  rw [List.drop_eq_nil_of_le (by omega), sgT_nil] at hm
  simp only [Option.map_some, Nat.zero_add] at hm
  subst hm
  simp (disch := first | assumption | omega) only [go_sem, reduceCtorEq, Nat.reduceEqDiff, ↓reduceIte, hf, h4, hlt']
  exact retC_by (by repeat' (first | exact Drop.refl _ | with_reducible refine Drop.off ?_ (by assumption))) (.refl _) ⟨rfl, rfl⟩
end Go.A
namespace Go.A
open Go.Proofs Go.Lib
structure Pt where
 op : Int
 n : Int
 s : List UInt8
 a : Ref
 b : Ref
 deriving Inhabited
def Pt.cs (p : Pt) : List AV := [.int .i64 p.op, .int .i64 p.n, .str p.s, .int .i64 p.a.row, .int .i64 p.a.col, .bool p.a.absRow, .bool p.a.absCol, .int .i64 p.b.row, .int .i64 p.b.col, .bool p.b.absRow, .bool p.b.absCol]
def Pt.av (p : Pt) : AV := .agg p.cs
section
variable {p : Pt}
@[go_sem] theorem pt_0 : (Pt.cs p)[0]? = some (.int .i64 p.op) := id rfl
@[go_sem] theorem pt_1 : (Pt.cs p)[1]? = some (.int .i64 p.n) := id rfl
@[go_sem] theorem pt_2 : (Pt.cs p)[2]? = some (.str p.s) := id rfl
@[go_sem] theorem pt_len : (Pt.cs p).length = 11 := id rfl
@[go_sem] theorem pt_leaves : leaves (Pt.cs p) = true := id rfl
@[go_sem] theorem pt_take : (Pt.cs p).take 11 = Pt.cs p := id rfl
@[go_sem] theorem pt_ta : ((Pt.cs p).drop 3).take 4 = [.int .i64 p.a.row, .int .i64 p.a.col, .bool p.a.absRow, .bool p.a.absCol] := id rfl
@[go_sem] theorem pt_tb : ((Pt.cs p).drop 7).take 4 = [.int .i64 p.b.row, .int .i64 p.b.col, .bool p.b.absRow, .bool p.b.absCol] := id rfl
end
theorem Pt.get {l : List Pt} {i : Nat} {x : Pt} (h : l[i]? = some x) : (l.map Pt.av)[i]? = some (.agg x.cs) := by rw [List.getElem?_map, h]; rfl
def ndV (o m : Int) (s : List UInt8) (a b : Ref) (v : AV) : List AV := [.int .i64 o, .int .i64 m, .str s, .int .i64 a.row, .int .i64 a.col, .bool a.absRow, .bool a.absCol, .int .i64 b.row, .int .i64 b.col, .bool b.absRow, .bool b.absCol, v]
section
variable {o m : Int} {s : List UInt8} {a b : Ref} {v w : AV}
@[go_sem] theorem nv_0 : (ndV o m s a b v)[0]? = some (.int .i64 o) := id rfl
@[go_sem] theorem nv_11 : (ndV o m s a b v)[11]? = some v := id rfl
@[go_sem] theorem nv_len : (ndV o m s a b v).length = 12 := id rfl
@[go_sem] theorem nv_take : (ndV o m s a b v).take 12 = ndV o m s a b v := id rfl
@[go_sem] theorem nv_drop : (ndV o m s a b v).drop 12 = [] := id rfl
@[go_sem] theorem nv_put'' : (ndV o m s a b v).take 11 ++ [w] = ndV o m s a b w := id rfl
theorem nv_leaves (h : v.leaf = true) : leaves (ndV o m s a b v) = true := by
 cases v <;> first | rfl | cases h
end
theorem mod2 (x : Int) {m : Int} (hm : 0 < m) : (-m < x.tmod m ∧ x.tmod m < m) ∧ 0 ≤ (x.tmod m + m).tmod m ∧ (x.tmod m + m).tmod m < m := by
 have h1 := Int.lt_tmod_of_pos x hm
 have h2 := Int.tmod_lt_of_pos x hm
 exact ⟨⟨h1, h2⟩, Int.tmod_nonneg _ (by omega), Int.tmod_lt_of_pos _ hm⟩
def opG (x : Int) : Int := 1 + (x.tmod 23 + 23).tmod 23
def kkG (x : Int) : Int := (x.tmod 100000 + 100000).tmod 100000
def placeR (r : Ref) : Ref := ⟨(r.row.tmod 3000 + 3000).tmod 3000, (r.col.tmod 700 + 700).tmod 700, r.absRow, r.absCol⟩
def cntG (op kk : Int) : Nat := if op = 7 ∨ op = 8 ∨ op = 9 then 1 else if op = 22 then ((kk.tdiv 4).tmod 4).toNat else if 10 ≤ op ∧ op ≤ 21 then 2 else 0
def callL : List (List UInt8) := [[83, 85, 77], [73, 70], [88, 46, 89], [95, 65]]
def nodeG (p : Pt) (ks : List Nd) : Nd :=
 if opG p.op = 1 then .mk 1 (kkG p.n) [] .zero .zero ks
 else if opG p.op = 3 then .mk 3 ((kkG p.n).tmod 2) [] .zero .zero ks
 else if opG p.op = 4 then .mk 4 ((1 + (kkG p.n).tmod 7) * 10000) [] .zero .zero ks
 else if opG p.op = 2 then .mk 2 0 (if (sgT (p.s.take 20)).isSome = true then p.s.take 20 else []) .zero .zero ks
 else if opG p.op = 5 then .mk 5 0 [] (placeR p.a) .zero ks
 else if opG p.op = 6 then .mk 6 0 [] (placeR p.a) (placeR p.b) ks
 else if opG p.op = 23 then .mk 3 0 [] .zero .zero ks
 else if opG p.op = 22 then .mk 22 0 (callL.getD ((kkG p.n).tmod 4).toNat []) .zero .zero ks
 else .mk (opG p.op) 0 [] .zero .zero ks
def missN : Nd := .mk 23 0 [] .zero .zero []
def missG (op kk : Int) (ks : List Nd) : List Nd := if op = 22 ∧ 1 < ks.length ∧ kk.tmod 3 = 0 then missN :: ks.tail else ks
def growN (g : Nat → Nd × Nat) : Nat → Nat → List Nd × Nat
 | 0, i => ([], i)
 | c + 1, i => ((g i).1 :: (growN g c (g i).2).1, (growN g c (g i).2).2)
def growK (L : List Pt) : Nat → Nat → Nd × Nat
 | 0, i => (.mk 1 0 [] .zero .zero [], i)
 | k + 1, i => match L[i]? with
   | none => (.mk 1 0 [] .zero .zero [], i)
   | some p => (nodeG p (missG (opG p.op) (kkG p.n) (growN (growK L k) (cntG (opG p.op) (kkG p.n)) (i + 1)).1), (growN (growK L k) (cntG (opG p.op) (kkG p.n)) (i + 1)).2)
def growP (L : List Pt) : Nd := (growK (L.take 40) 41 0).1
theorem opG_rng (x : Int) : 1 ≤ opG x ∧ opG x ≤ 23 := by have := (mod2 x (m := 23) (by decide)).2; unfold opG; omega
theorem kkG_rng (x : Int) : 0 ≤ kkG x ∧ kkG x ≤ 99999 := by have := (mod2 x (m := 100000) (by decide)).2; unfold kkG; omega
theorem placeR_good (r : Ref) : (placeR r).good = true := by
 have h1 := (mod2 r.row (m := 3000) (by decide)).2
 have h2 := (mod2 r.col (m := 700) (by decide)).2
 unfold Ref.good placeR
 exact decide_eq_true ⟨h1.1, h1.2, h2.1, h2.2⟩
theorem cntG_le (op kk : Int) (h : 0 ≤ kk) : cntG op kk ≤ 3 := by
 unfold cntG
 repeat' split
 all_goals try omega
 have := Int.tmod_lt_of_pos (kk.tdiv 4) (show (0 : Int) < 4 by decide)
 omega
theorem growN_len (g : Nat → Nd × Nat) : ∀ c i, (growN g c i).1.length = c
 | 0, i => rfl
 | c + 1, i => by rw [growN, List.length_cons, growN_len g c]
theorem missG_len (op kk : Int) (ks : List Nd) : (missG op kk ks).length = ks.length := by
 unfold missG
 split
 ·rename_i h
  rw [List.length_cons, List.length_tail]; omega
 ·rfl
theorem growN_ge (g : Nat → Nd × Nat) (hg : ∀ i, i ≤ (g i).2) : ∀ c i, i ≤ (growN g c i).2
 | 0, i => Nat.le_refl _
 | c + 1, i => by rw [growN]; exact Nat.le_trans (hg i) (growN_ge g hg c _)
theorem growK_ge (L : List Pt) : ∀ k i, i ≤ (growK L k i).2
 | 0, i => Nat.le_refl _
 | k + 1, i => by
   rw [growK]
   split
   ·exact Nat.le_refl _
   ·have := growN_ge (growK L k) (growK_ge L k) (cntG (opG (‹Pt› : Pt).op) (kkG (‹Pt› : Pt).n)) (i + 1)
    dsimp only
    omega
theorem growN_le (g : Nat → Nd × Nat) (M : Nat) (hg : ∀ i, i ≤ M → (g i).2 ≤ M) : ∀ c i, i ≤ M → (growN g c i).2 ≤ M
 | 0, i, h => h
 | c + 1, i, h => by rw [growN]; exact growN_le g M hg c _ (hg i h)
theorem growK_le (L : List Pt) (M : Nat) (hM : L.length ≤ M) : ∀ k i, i ≤ M → (growK L k i).2 ≤ M
 | 0, i, h => h
 | k + 1, i, h => by
   rw [growK]
   split
   ·exact h
   ·rename_i p hp
    have hi : i < L.length := (List.getElem?_eq_some_iff.1 hp).1
    exact growN_le (growK L k) M (growK_le L M hM k) _ _ (by omega)
end Go.A
namespace Go.A
open Go.Proofs Go.Lib
def zero12 : List AV := [.int .i64 0, .int .i64 0, .str [], .int .i64 0, .int .i64 0, .bool false, .bool false, .int .i64 0, .int .i64 0, .bool false, .bool false, .sl .full []]
theorem place_ok (r : Ref) : Pure Tryz.prog 37 [refAV r] (refAV (placeR r)) := by
 intro σ
 have m1 := mod2 r.row (m := 3000) (by decide)
 have m2 := mod2 r.col (m := 700) (by decide)
 obtain ⟨row, col, ar, ac⟩ := r
 unfold refAV placeR
 dsimp only at m1 m2 ⊢
 obtain ⟨x, hx⟩ : ∃ x, row.tmod 3000 = x := ⟨_, rfl⟩
 obtain ⟨y, hy⟩ : ∃ y, (x + 3000).tmod 3000 = y := ⟨_, rfl⟩
 obtain ⟨z, hz⟩ : ∃ z, col.tmod 700 = z := ⟨_, rfl⟩
 obtain ⟨w, hw⟩ : ∃ w, (z + 700).tmod 700 = w := ⟨_, rfl⟩
 rw [hx, hy] at m1 ⊢
 rw [hz, hw] at m2 ⊢
 refine a37 (by simp) ?_
 simp (disch := first | assumption | omega) only [go_sem]
 refine boxC_by rfl fun c hc => ?_
 simp (disch := first | assumption | omega) only [go_sem]
 refine allocC_by fun d hd => ?_
 have hcd : c ≠ d := by rintro rfl; rw [ASt.set_same] at hd; cases hd
 repeat (with_reducible replace hd := set_none hd; obtain ⟨_, _, hd⟩ := hd)
 have hsw : ∀ (ρ : ASt) (X Y Z : Option Role), ((ρ.set c X).set d Y).set c Z = (ρ.set c Z).set d Y := fun _ _ _ _ => set_mid hcd
 simp (disch := first | assumption | omega) only [go_sem, Nat.reduceEqDiff, Nat.reduceAdd, Nat.reduceLeDiff, ↓reduceIte, Bool.true_and, hx, hy, hz, hw, hsw, ASt.set_set]
 exact retC_by ((Drop.set hc).off (by assumption)) (.refl _) ⟨rfl, rfl⟩
theorem OwnSl.len {σ0 σ : ASt} {v : AV} {xs : List AV} {s : Nat} (h : OwnSl σ0 σ v xs s) : lenC v = some (.int .i64 xs.length) := by
 rcases h with ⟨rfl, rfl, rfl⟩ | ⟨b, c, rest, rfl, _⟩ <;> rfl
theorem OwnSl.leaf {σ0 σ : ASt} {v : AV} {xs : List AV} {s : Nat} (h : OwnSl σ0 σ v xs s) : v.leaf = true ∧ v.cells = [v] := by
 rcases h with ⟨rfl, rfl, rfl⟩ | ⟨b, c, rest, rfl, _⟩ <;> exact ⟨rfl, rfl⟩
theorem OwnSl.put {σ0 σ : ASt} {d : Nat} {r : Role} {v : AV} {xs : List AV} {s : Nat} (h : OwnSl σ0 σ v xs s) (hd : σ0 d = some r) (r' : Option Role) : OwnSl (σ0.set d r') (σ.set d r') v xs s := by
 rcases h with ⟨h1, h2, rfl⟩ | ⟨b, c, rest, h1, h2, h3, h4, rfl⟩
 ·exact .inl ⟨h1, h2, rfl⟩
 ·have hbd : b ≠ d := by rintro rfl; rw [hd] at h4; cases h4
  exact .inr ⟨b, c, rest, h1, h2, h3, by rw [ASt.set_ne hbd]; exact h4, set_swap hbd⟩
theorem deeps_map : ∀ l : List Nd, Go.A.deeps (l.map Nd.av) = l.map Nd.av
 | [] => rfl
 | x :: xs => by rw [List.map_cons, deeps_cons, Nd.deep x, deeps_map xs]
theorem leaf1 {v : AV} : leaves [v] = v.leaf := by simp [leaves]
theorem Drop.had {σ σ' : ASt} {b : Nat} {r : Role} (h : Drop σ σ') (hb : σ' b = some r) : σ b = some r := by
 rcases h b with h1 | h1
 ·rw [← h1]; exact hb
 ·rw [h1] at hb; cases hb
theorem Drop.nil {σ σ' : ASt} {b : Nat} (h : Drop σ σ') (hb : σ b = none) : σ' b = none := by
 rcases h b with h1 | h1
 ·rw [h1]; exact hb
 ·exact h1
set_option maxHeartbeats 8000000 in
theorem grow_le (L : List Pt) (hL : L.length ≤ 1000) : ∀ (k i : Nat), L.length + 1 ≤ i + k → i ≤ 2000 → Pure Tryz.prog 19 [.sl .shr (L.map Pt.av), .int .i64 i] (.tuple [(growK L k i).1.av, .int .i64 (growK L k i).2])
 | k, i, hk, hi => by
   intro σ
   by_cases hlt : i < L.length
   ·obtain ⟨k, rfl⟩ : ∃ k', k = k' + 1 := ⟨k - 1, by omega⟩
    have ih : ∀ j, i + 1 ≤ j → j ≤ 2000 → Pure Tryz.prog 19 [.sl .shr (L.map Pt.av), .int .i64 j] (.tuple [(growK L k j).1.av, .int .i64 (growK L k j).2]) := fun j h1 h2 => grow_le L hL k j (by omega) h2
    have hmx := growK_le L 2000 (by omega) k
    have hge := growK_ge L k
    have hlt' : (i : Int) < L.length := by omega
    have hlt2 : ¬ (L.length : Int) ≤ i := by omega
    have hx : L[i]? = some (L[i]'hlt) := List.getElem?_eq_getElem hlt
    obtain ⟨p, hp⟩ : ∃ p, L[i]'hlt = p := ⟨_, rfl⟩
    rw [hp] at hx
    have hmp := Pt.get hx
    rw [growK, hx]
    dsimp only
    have hop := opG_rng p.op
    have hkk := kkG_rng p.n
    have hcn := cntG_le (opG p.op) (kkG p.n) hkk.1
    have m1 := mod2 p.op (m := 23) (by decide)
    have m2 := mod2 p.n (m := 100000) (by decide)
    obtain ⟨KS, hKS⟩ : ∃ KS, (growN (growK L k) (cntG (opG p.op) (kkG p.n)) (i + 1)).1 = KS := ⟨_, rfl⟩
    obtain ⟨J, hJ⟩ : ∃ J, (growN (growK L k) (cntG (opG p.op) (kkG p.n)) (i + 1)).2 = J := ⟨_, rfl⟩
    have hKl : KS.length = cntG (opG p.op) (kkG p.n) := by rw [← hKS, growN_len]
    rw [hKS, hJ]
    have hopu : opG p.op = 1 + (p.op.tmod 23 + 23).tmod 23 := rfl
    have hkku : kkG p.n = (p.n.tmod 100000 + 100000).tmod 100000 := rfl
    obtain ⟨x1, hx1⟩ : ∃ x, p.op.tmod 23 = x := ⟨_, rfl⟩
    obtain ⟨x2, hx2⟩ : ∃ x, (x1 + 23).tmod 23 = x := ⟨_, rfl⟩
    obtain ⟨y1, hy1⟩ : ∃ x, p.n.tmod 100000 = x := ⟨_, rfl⟩
    obtain ⟨y2, hy2⟩ : ∃ x, (y1 + 100000).tmod 100000 = x := ⟨_, rfl⟩
    rw [hx1, hx2] at m1 hopu
    rw [hy1, hy2] at m2 hkku
    obtain ⟨F, hF⟩ : ∃ F, F = ACode.wp Tryz.prog c19_87 := ⟨_, rfl⟩
    obtain ⟨cnt, hcnt⟩ : ∃ cnt, cntG (opG p.op) (kkG p.n) = cnt := ⟨_, rfl⟩
    rw [hcnt] at hcn hKS hJ hKl
    have fin : ∀ (b4 b6 b7 : Nat) (o m : Int) (s : List UInt8) (a b : Ref) (a1 : AFr), σ b4 = none → σ b6 = none → σ b7 = none → b4 ≠ b6 → b4 ≠ b7 → b6 ≠ b7 → (∀ ks, nodeG p ks = .mk o m s a b ks) → (o = 22 ↔ opG p.op = 22) →
      (a1 0 = .sl .shr (L.map Pt.av) ∧ a1 1 = .int .i64 ((i : Int) + 1) ∧ a1 4 = .ptr b4 0 ∧ a1 7 = .ptr b7 0 ∧ a1 8 = .int .i64 cnt ∧ a1 9 = .int .i64 (kkG p.n)) →
      F (RetQ [.c 4 (some 12), .t 5] fun v σ' => Go.A.deep v = .tuple [(nodeG p (missG (opG p.op) (kkG p.n) KS)).av, .int .i64 J] ∧ σ' = σ) a1 (((σ.set b4 (some (.obj zero12))).set b6 (some (.obj p.cs))).set b7 (some (.obj (ndV o m s a b (.sl .full []))))) := by
     intro b4 b6 b7 o m s a b a1 z4 z6 z7 n46 n47 n67 hN ho hf
     rw [hF]
     rw [hN]
     have h7t : ((σ.set b4 (some (.obj zero12))).set b6 (some (.obj p.cs))) b7 = none := by rw [ASt.set_ne (Ne.symm n67), ASt.set_ne (Ne.symm n47)]; exact z7
     have h4t : ((σ.set b4 (some (.obj zero12))).set b6 (some (.obj p.cs))) b4 = some (.obj zero12) := by rw [ASt.set_ne n46, ASt.set_same]
     have hD4 : ∀ X R : Option Role, Drop ((((σ.set b4 (some (.obj zero12))).set b6 (some (.obj p.cs))).set b7 R).set b4 X) σ := fun X R => (((Drop.set z4).off z6).off z7).off z4
     generalize (σ.set b4 (some (.obj zero12))).set b6 (some (.obj p.cs)) = τ at *
     obtain ⟨G, hG⟩ : ∃ G, G = ACode.wp Tryz.prog c19_86 := ⟨_, rfl⟩
     obtain ⟨H, hH⟩ : ∃ H, H = ACode.wp Tryz.prog c19_85 := ⟨_, rfl⟩
     have fin3 : ∀ (a1 : AFr) (σ1 : ASt) (v : AV) (XS : List AV) (ks : List Nd), OwnSl (τ.set b7 (some (.obj (ndV o m s a b v)))) σ1 v XS 12 → (∀ x ∈ XS, x.cells.length = 12) → Go.A.deeps XS = ks.map Nd.av → (a1 1 = .int .i64 J ∧ a1 4 = .ptr b4 0 ∧ a1 7 = .ptr b7 0) →
       H (RetQ [.c 4 (some 12), .t 5] fun v σ' => Go.A.deep v = .tuple [(Nd.mk o m s a b ks).av, .int .i64 J] ∧ σ' = σ) a1 σ1 := by
      intro a1 σ1 v XS ks hO hxl hdp hf
      rw [hH]
      have hb7 := hO.at (x := b7) (ASt.set_same _ _ _)
      have h40 : (τ.set b7 (some (.obj (ndV o m s a b v)))) b4 = some (.obj zero12) := by rw [ASt.set_ne n47]; exact h4t
      have hb4 := hO.at h40
      unfold zero12 at hb4
      have hnl := nv_leaves (o := o) (m := m) (s := s) (a := a) (b := b) hO.leaf.1
      have hO2 := hO.put h40 (some (.obj (ndV o m s a b v)))
      have hDz := hD4 (some (.obj (ndV o m s a b v))) (some (.obj (ndV o m s a b v)))
      have hz := hO2.fz hxl (fun x hx => hDz.nil hx)
      simp (disch := first | assumption | omega) only [go_sem, Nat.reduceEqDiff, Nat.reduceAdd, Nat.reduceLeDiff, ↓reduceIte, hf, hb7, hb4, hnl]
      refine retC_by (r := .tuple [.agg (ndV o m s a b (.sl .shr XS)), .int .i64 J]) (hO2.drop.trans hDz) ?_ ⟨by rw [Nd.av_cs, ← hdp]; rfl, rfl⟩
      exact .tuple (.cons (.agg (.cons (.refl _) (.cons (.refl _) (.cons (.refl _) (.cons (.refl _) (.cons (.refl _) (.cons (.refl _) (.cons (.refl _) (.cons (.refl _) (.cons (.refl _) (.cons (.refl _) (.cons (.refl _) (.cons hz .nil))))))))))))) (.cons (.refl _) .nil))
     have hKxl : ∀ x ∈ KS.map Nd.av, x.cells.length = 12 := by
      intro x hx
      obtain ⟨y, _, rfl⟩ := List.mem_map.1 hx
      exact Nd.av_len y
     have fin2 : ∀ (a1 : AFr) (σ1 : ASt) (v : AV), OwnSl (τ.set b7 (some (.obj (ndV o m s a b v)))) σ1 v (KS.map Nd.av) 12 → (a1 1 = .int .i64 J ∧ a1 4 = .ptr b4 0 ∧ a1 7 = .ptr b7 0 ∧ a1 9 = .int .i64 (kkG p.n)) →
       G (RetQ [.c 4 (some 12), .t 5] fun v σ' => Go.A.deep v = .tuple [(Nd.mk o m s a b (missG (opG p.op) (kkG p.n) KS)).av, .int .i64 J] ∧ σ' = σ) a1 σ1 := by
      intro a1 σ1 v hO hf
      rw [hG]
      have hb7 := hO.at (x := b7) (ASt.set_same _ _ _)
      have hlen := hO.len
      rw [List.length_map] at hlen
      by_cases h22 : o = 22
      ·by_cases h1 : 1 < KS.length
       ·have h1' : (1 : Int) < KS.length := by omega
        by_cases h3 : (kkG p.n).tmod 3 = 0
        ·have hmiss : missG (opG p.op) (kkG p.n) KS = missN :: KS.tail := if_pos ⟨ho.1 h22, h1, h3⟩
         obtain ⟨x, KT, hKT⟩ : ∃ x KT, KS = x :: KT := by
          cases KS with
          | nil => simp at h1
          | cons x KT => exact ⟨x, KT, rfl⟩
         have hmt : missN :: KS.tail = missN :: KT := by rw [hKT]; rfl
         rw [hmiss, hmt]
         rcases hO with ⟨he, _, _⟩ | ⟨bb, c, rest, hv, hc, hr, hbb, hs1⟩
         ·rw [hKT] at he; cases he
         ·rw [List.length_map] at hv
          have hc1 : KS.length ≤ c := by simpa using hc
          subst hv
          have hbb7 : b7 ≠ bb := by rintro rfl; rw [ASt.set_same] at hbb; cases hbb
          have hxl : x.av.cells.length = 12 := Nd.av_len x
          obtain ⟨X, hX⟩ : ∃ X, (KS.map Nd.av).flatMap AV.cells ++ rest = X := ⟨_, rfl⟩
          have hXl : 12 ≤ X.length := by rw [← hX, hKT, List.map_cons, List.flatMap_cons, List.length_append, List.length_append]; omega
          have hXd : X.drop 12 = (KT.map Nd.av).flatMap AV.cells ++ rest := by
           rw [← hX, hKT, List.map_cons, List.flatMap_cons, List.append_assoc, ← hxl, List.drop_left]
          rw [hX] at hs1
          have hbo : σ1 bb = some (.obj X) := by rw [hs1, ASt.set_same]
          have hs2 : ∀ R : Option Role, σ1.set bb R = (τ.set b7 (some (.obj (ndV o m s a b (.msl bb 0 KS.length c))))).set bb R := fun R => by rw [hs1, ASt.set_set]
          have hp0 : (0 : Int) < KS.length := by omega
          simp (disch := first | assumption | omega) only [go_sem, Nat.reduceEqDiff, Nat.reduceAdd, Nat.reduceMul, Nat.reduceLeDiff, ↓reduceIte, Bool.true_and, hf, hb7, h22, h1', h3, hbo, hXl, hXd, hs2, ←hH]
          subst h22
          refine fin3 _ _ (.msl bb 0 KS.length c) (.agg [.int .i64 23, .int .i64 0, .str [], .int .i64 0, .int .i64 0, .bool false, .bool false, .int .i64 0, .int .i64 0, .bool false, .bool false, .sl .full []] :: KT.map Nd.av) (missN :: KT) (.inr ⟨bb, c, rest, ?_, ?_, ?_, hbb, rfl⟩) ?_ ?_ ?_
          ·rw [hKT]; simp
          ·rw [hKT] at hc1; simpa using hc1
          ·rw [hKT] at hr; simpa using hr
          ·intro y hy
           rcases List.mem_cons.1 hy with rfl | hy
           ·rfl
           ·exact hKxl y (by rw [hKT, List.map_cons]; exact List.mem_cons_of_mem _ hy)
          ·rw [List.map_cons, missN, Nd.av_cs, deeps_cons, deeps_map]
           rfl
          ·simp (disch := first | assumption | omega) only [go_sem, Nat.reduceEqDiff, ↓reduceIte, hf]
        ·have hmiss : missG (opG p.op) (kkG p.n) KS = KS := if_neg (fun h => h3 h.2.2)
         rw [hmiss]
         simp (disch := first | assumption | omega) only [go_sem, Nat.reduceEqDiff, ↓reduceIte, hf, hb7, h22, hlen, h1', h3, ←hH]
         subst h22
         refine fin3 _ _ v _ KS hO hKxl (deeps_map KS) ?_
         simp (disch := first | assumption | omega) only [go_sem, Nat.reduceEqDiff, ↓reduceIte, hf]
       ·have h1' : ¬ (1 : Int) < KS.length := by omega
        have hmiss : missG (opG p.op) (kkG p.n) KS = KS := if_neg (fun h => h1 h.2.1)
        rw [hmiss]
        simp (disch := first | assumption | omega) only [go_sem, Nat.reduceEqDiff, ↓reduceIte, hf, hb7, h22, hlen, h1', ←hH]
        subst h22
        refine fin3 _ _ v _ KS hO hKxl (deeps_map KS) ?_
        simp (disch := first | assumption | omega) only [go_sem, Nat.reduceEqDiff, ↓reduceIte, hf]
      ·have hmiss : missG (opG p.op) (kkG p.n) KS = KS := if_neg (fun h => h22 (ho.2 h.1))
       rw [hmiss]
       simp (disch := first | assumption | omega) only [go_sem, Nat.reduceEqDiff, ↓reduceIte, hf, hb7, h22, ←hH]
       refine fin3 _ _ v _ KS hO hKxl (deeps_map KS) ?_
       simp (disch := first | assumption | omega) only [go_sem, Nat.reduceEqDiff, ↓reduceIte, hf]
     simp (disch := first | assumption | omega) only [go_sem, ←hG]
     refine wp_loop_by (fun (q : List Nd × Nat) a1 s2 => (q.1.length ≤ cnt ∧ i + 1 ≤ q.2 ∧ q.2 ≤ 2000 ∧ q.1 ++ (growN (growK L k) (cnt - q.1.length) q.2).1 = KS ∧ (growN (growK L k) (cnt - q.1.length) q.2).2 = J) ∧
       (a1 0 = .sl .shr (L.map Pt.av) ∧ a1 1 = .int .i64 q.2 ∧ a1 4 = .ptr b4 0 ∧ a1 7 = .ptr b7 0 ∧ a1 8 = .int .i64 ((cnt - q.1.length : Nat) : Int) ∧ a1 9 = .int .i64 (kkG p.n)) ∧
       ∃ v, OwnSl (τ.set b7 (some (.obj (ndV o m s a b v)))) s2 v (q.1.map Nd.av) 12) (fun q => cnt - q.1.length) ([], i + 1) (Dr.now ⟨⟨Nat.zero_le _, Nat.le_refl _, by dsimp only; omega, ?_, ?_⟩, ?_, .sl .full [], .inl ⟨rfl, rfl, rfl⟩⟩) ?_
     ·simpa using hKS
     ·simpa using hJ
     ·simp only [List.length_nil, Nat.sub_zero]
      simp (disch := first | assumption | omega) only [go_sem, hf]
     rintro ⟨D, j⟩ a2 s2 ⟨⟨d1, d2, d2', d3, d4⟩, hf, v, hO⟩
     dsimp only at d1 d2 d2' d3 d4 hf hO
     have hb7 := hO.at (x := b7) (ASt.set_same _ _ _)
     by_cases hdl : D.length < cnt
     ·have hdl' : (0 : Int) < ((cnt - D.length : Nat) : Int) := by omega
      have e1 : cnt - D.length = (cnt - (D.length + 1)) + 1 := by omega
      have e2 : ((cnt - D.length : Nat) : Int) - 1 = ((cnt - (D.length + 1) : Nat) : Int) := by omega
      rw [e1, growN] at d3 d4
      dsimp only at d3 d4
      have hcall := ih j d2 d2'
      have hj2 := hmx j d2'
      have hj1 := hge j
      obtain ⟨x, hxx⟩ : ∃ x, (growK L k j).1 = x := ⟨_, rfl⟩
      obtain ⟨j', hjj⟩ : ∃ x, (growK L k j).2 = x := ⟨_, rfl⟩
      rw [hxx, hjj] at d3 hcall
      rw [hjj] at d4 hj2 hj1
      have hDx : ((D ++ [x]).map Nd.av) = D.map Nd.av ++ [x.av] := by simp
      have hDl : (D ++ [x]).length = D.length + 1 := by simp
      have hDm : (D.map Nd.av).length = D.length := by simp
      have d3' : (D ++ [x]) ++ (growN (growK L k) (cnt - (D.length + 1)) j').1 = KS := by rw [← d3]; simp
      obtain ⟨xo, xm, xs, xa, xb, xk⟩ := x
      rw [Nd.av_cs] at hcall hDx
      generalize hXK : xk.map Nd.av = XK at *
      have hlD : ∀ y ∈ D.map Nd.av, y.cells.length = 12 := by
       intro y hy
       obtain ⟨z, _, rfl⟩ := List.mem_map.1 hy
       exact Nd.av_len z
      simp (disch := first | assumption | omega) only [go_sem, reduceCtorEq, Nat.reduceEqDiff, ↓reduceIte, hf, hdl']
      refine hcall.use ?_
      simp (disch := first | assumption | omega) only [go_sem, Nat.reduceEqDiff, ↓reduceIte]
      refine allocC_by fun e he => ?_
      have he7 : b7 ≠ e := by rintro rfl; rw [hb7] at he; cases he
      have he0 : τ e = none := by
       have := hO.fresh he
       rw [ASt.set_ne (Ne.symm he7)] at this
       exact this
      have hOe := hO.add (r := some (.obj (Nd.cs xo xm xs xa xb XK))) he
      have hb7e : (s2.set e (some (.obj (Nd.cs xo xm xs xa xb XK)))) b7 = some (.obj (ndV o m s a b v)) := by rw [ASt.set_ne he7]; exact hb7
      simp (disch := first | assumption | omega) only [go_sem, Nat.reduceEqDiff, Nat.reduceAdd, Nat.reduceLeDiff, ↓reduceIte, Bool.true_and, hf, hb7e, ASt.set_set]
      refine OwnSl.app hOe hlD rfl rfl (by rw [hDm]; simp only [List.length_cons, List.length_nil]; omega) (by rw [hDm]; simp only [List.length_cons, List.length_nil]; omega) (by simp) fun v' σ' ⟨σ2, hd, hO2⟩ => ?_
      have h70 : ((τ.set b7 (some (.obj (ndV o m s a b v)))).set e (some (.obj (Nd.cs xo xm xs xa xb XK)))) b7 = some (.obj (ndV o m s a b v)) := by rw [ASt.set_ne he7, ASt.set_same]
      have hb7' := hd.had (hO2.at h70)
      have hO3 := hO2.put h70 (some (.obj (ndV o m s a b v')))
      rw [set_mid he7] at hO3
      obtain ⟨σ5, hd5, hO5⟩ := hO3.less (by rw [ASt.set_ne (Ne.symm he7)]; exact he0)
      have hvl := hO2.leaf
      have hvc := hvl.2
      have hvv : leaves [v'] = true := by rw [leaf1]; exact hvl.1
      have hD5 : Drop (σ'.set b7 (some (.obj (ndV o m s a b v')))) σ5 := hd.set_cong.trans hd5
      simp (disch := first | assumption | omega) only [go_sem, Nat.reduceEqDiff, Nat.reduceAdd, Nat.reduceLeDiff, ↓reduceIte, hf, hb7', e2, hvc, hvv]
      refine ⟨(D ++ [Nd.mk xo xm xs xa xb xk], j'), by dsimp only; rw [hDl]; omega, Dr.drop hD5 ⟨⟨by dsimp only; omega, by dsimp only; omega, by dsimp only; omega, ?_, ?_⟩, ?_, v', ?_⟩⟩
      ·dsimp only; rw [hDl]; exact d3'
      ·dsimp only; rw [hDl]; exact d4
      ·dsimp only
       rw [hDl]
       simp (disch := first | assumption | omega) only [go_sem, reduceCtorEq, Nat.reduceEqDiff, ↓reduceIte, hf]
      ·dsimp only
       rw [hDx]; exact hO5
     ·have hdl' : ¬ (0 : Int) < ((cnt - D.length : Nat) : Int) := by omega
      have e0 : cnt - D.length = 0 := by omega
      rw [e0, growN] at d3 d4
      dsimp only at d3 d4
      rw [List.append_nil] at d3
      subst d3 d4
      simp (disch := first | assumption | omega) only [go_sem, ↓reduceIte, hf, hdl']
      refine fin2 _ _ v hO ?_
      simp (disch := first | assumption | omega) only [go_sem, Nat.reduceEqDiff, ↓reduceIte, hf]
    refine ACalls.retd (K := fun v σ' => Go.A.deep v = .tuple [(nodeG p (missG (opG p.op) (kkG p.n) KS)).av, .int .i64 J] ∧ σ' = σ) ?_ (fun v σ' h => h)
    refine a19 (by simp) ?_
    simp (disch := first | assumption | omega) only [go_sem]
    refine allocC_by fun b4 hb4 => ?_
    have z4 := hb4
    simp (disch := first | assumption | omega) only [go_sem, reduceCtorEq, Nat.reduceEqDiff, Nat.reduceLeDiff, ↓reduceIte, hlt2, hmp]
    refine allocC_by fun b6 hb6 => ?_
    have z6' := hb6
    repeat (with_reducible replace hb6 := set_none hb6; obtain ⟨_, _, hb6⟩ := hb6)
    have z6 : σ b6 = none := by assumption
    have n46 : b4 ≠ b6 := by assumption
    obtain ⟨B, hB⟩ : ∃ B, B = ACode.wp Tryz.prog c19_88 := ⟨_, rfl⟩
    simp (disch := first | assumption | omega) only [go_sem, Nat.reduceEqDiff, Nat.reduceAdd, Nat.reduceLeDiff, ↓reduceIte, hx1, hx2, ←hopu, ASt.set_set]
    refine allocC_by fun b7 hb7 => ?_
    have z7' := hb7
    repeat (with_reducible replace hb7 := set_none hb7; obtain ⟨_, _, hb7⟩ := hb7)
    have z7 : σ b7 = none := by assumption
    have n47 : b4 ≠ b7 := by assumption
    have n67 : b6 ≠ b7 := by assumption
    simp (disch := first | assumption | omega) only [go_sem, Nat.reduceEqDiff, Nat.reduceAdd, Nat.reduceLeDiff, ↓reduceIte, Bool.true_and, hy1, hy2, ←hkku, ASt.set_set, ←hB]
    obtain ⟨Q, hQ⟩ : ∃ Q, Q = RetQ [.c 4 (some 12), .t 5] fun v σ' => Go.A.deep v = .tuple [(nodeG p (missG (opG p.op) (kkG p.n) KS)).av, .int .i64 J] ∧ σ' = σ := ⟨_, rfl⟩
    rw [← hQ] at fin
    have brs : ∀ (a1 : AFr), (a1 0 = .sl .shr (L.map Pt.av) ∧ a1 1 = .int .i64 ((i : Int) + 1) ∧ a1 4 = .ptr b4 0 ∧ a1 6 = .ptr b6 0 ∧ a1 7 = .ptr b7 0 ∧ a1 8 = .int .i64 0 ∧ a1 9 = .int .i64 (kkG p.n)) →
      B Q a1 (((σ.set b4 (some (.obj zero12))).set b6 (some (.obj p.cs))).set b7 (some (.obj [.int .i64 (opG p.op), .int .i64 0, .str [], .int .i64 0, .int .i64 0, .bool false, .bool false, .int .i64 0, .int .i64 0, .bool false, .bool false, .sl .full []]))) := by
     intro a1 hf
     rw [hB]
     clear hB hQ ih hmx hge hKS hJ z6' z7' hb6 hb7
     have hw7 : 0 ≤ (kkG p.n).tmod 7 ∧ (kkG p.n).tmod 7 < 7 := ⟨Int.tmod_nonneg _ hkk.1, Int.tmod_lt_of_pos _ (by decide)⟩
     obtain ⟨w7, hw7e⟩ : ∃ w, (kkG p.n).tmod 7 = w := ⟨_, rfl⟩
     rw [hw7e] at hw7
     generalize hzz : zero12 = Z12 at *
     by_cases h1 : opG p.op = 1
     ·have hc : (cnt : Int) = 0 := by rw [← hcnt]; unfold cntG; rw [if_neg (by omega), if_neg (by omega), if_neg (by omega)]; rfl
      simp (disch := first | assumption | omega) only [go_sem, Nat.reduceEqDiff, Nat.reduceAdd, Nat.reduceLeDiff, ↓reduceIte, Bool.true_and, hf, h1, ASt.set_set, ←hF]
      refine fin b4 b6 b7 1 (kkG p.n) [] .zero .zero _ z4 z6 z7 n46 n47 n67 (fun ks => by unfold nodeG; rw [if_pos h1]) (by omega) ?_
      simp (disch := first | assumption | omega) only [go_sem, reduceCtorEq, Nat.reduceEqDiff, ↓reduceIte, hf, hc]
     by_cases h3 : opG p.op = 3
     ·have hc : (cnt : Int) = 0 := by rw [← hcnt]; unfold cntG; rw [if_neg (by omega), if_neg (by omega), if_neg (by omega)]; rfl
      simp (disch := first | assumption | omega) only [go_sem, Nat.reduceEqDiff, Nat.reduceAdd, Nat.reduceLeDiff, Int.reduceEq, ↓reduceIte, Bool.true_and, hf, h3, ASt.set_set, ←hF]
      refine fin b4 b6 b7 3 ((kkG p.n).tmod 2) [] .zero .zero _ z4 z6 z7 n46 n47 n67 (fun ks => by unfold nodeG; rw [if_neg (by omega), if_pos h3]) (by omega) ?_
      simp (disch := first | assumption | omega) only [go_sem, reduceCtorEq, Nat.reduceEqDiff, ↓reduceIte, hf, hc]
     by_cases h4 : opG p.op = 4
     ·have hc : (cnt : Int) = 0 := by rw [← hcnt]; unfold cntG; rw [if_neg (by omega), if_neg (by omega), if_neg (by omega)]; rfl
      simp (disch := first | assumption | omega) only [go_sem, Nat.reduceEqDiff, Nat.reduceAdd, Nat.reduceLeDiff, Int.reduceEq, ↓reduceIte, Bool.true_and, hf, h4, hw7e, ASt.set_set, ←hF]
      refine fin b4 b6 b7 4 ((1 + w7) * 10000) [] .zero .zero _ z4 z6 z7 n46 n47 n67 (fun ks => by unfold nodeG; rw [if_neg (by omega), if_neg (by omega), if_pos h4, hw7e]) (by omega) ?_
      simp (disch := first | assumption | omega) only [go_sem, reduceCtorEq, Nat.reduceEqDiff, ↓reduceIte, hf, hc]
     by_cases h2 : opG p.op = 2
     ·have hc : (cnt : Int) = 0 := by rw [← hcnt]; unfold cntG; rw [if_neg (by omega), if_neg (by omega), if_neg (by omega)]; rfl
      have hC := lcut_ok p.s 20
      have hS := rsigns_ok (p.s.take 20) (by rw [List.length_take]; omega)
      rw [show (((20 : Nat)) : Int) = 20 from rfl] at hC
      unfold sgAV at hS
      cases hsg : sgT (p.s.take 20) with
      | some q =>
        rw [hsg] at hS
        dsimp only at hS
        have hN : ∀ ks, nodeG p ks = .mk 2 0 (p.s.take 20) .zero .zero ks := fun ks => by unfold nodeG; rw [if_neg (by omega), if_neg (by omega), if_neg (by omega), if_pos h2, hsg]; rfl
        simp (disch := first | assumption | omega) only [go_sem, Nat.reduceEqDiff, Int.reduceEq, ↓reduceIte, hf, h2, ←hF]
        refine hC.use ?_
        simp (disch := first | assumption | omega) only [go_sem, ↓reduceIte]
        refine hS.use ?_
        simp (disch := first | assumption | omega) only [go_sem, Nat.reduceEqDiff, ↓reduceIte, hf]
        refine hC.use ?_
        simp (disch := first | assumption | omega) only [go_sem, Nat.reduceEqDiff, Nat.reduceAdd, Nat.reduceLeDiff, ↓reduceIte, Bool.true_and, hf, ASt.set_set]
        refine fin b4 b6 b7 2 0 (p.s.take 20) .zero .zero _ z4 z6 z7 n46 n47 n67 hN (by omega) ?_
        simp (disch := first | assumption | omega) only [go_sem, reduceCtorEq, Nat.reduceEqDiff, ↓reduceIte, hf, hc]
      | none =>
        rw [hsg] at hS
        dsimp only at hS
        have hN : ∀ ks, nodeG p ks = .mk 2 0 [] .zero .zero ks := fun ks => by unfold nodeG; rw [if_neg (by omega), if_neg (by omega), if_neg (by omega), if_pos h2, hsg]; rfl
        simp (disch := first | assumption | omega) only [go_sem, Nat.reduceEqDiff, Int.reduceEq, ↓reduceIte, hf, h2, ←hF]
        refine hC.use ?_
        simp (disch := first | assumption | omega) only [go_sem, ↓reduceIte]
        refine hS.use ?_
        simp (disch := first | assumption | omega) only [go_sem, Nat.reduceEqDiff, ↓reduceIte]
        refine fin b4 b6 b7 2 0 [] .zero .zero _ z4 z6 z7 n46 n47 n67 hN (by omega) ?_
        simp (disch := first | assumption | omega) only [go_sem, reduceCtorEq, Nat.reduceEqDiff, ↓reduceIte, hf, hc]
     by_cases h5 : opG p.op = 5
     ·have hc : (cnt : Int) = 0 := by rw [← hcnt]; unfold cntG; rw [if_neg (by omega), if_neg (by omega), if_neg (by omega)]; rfl
      have hpa := place_ok p.a
      unfold refAV at hpa
      simp (disch := first | assumption | omega) only [go_sem, Nat.reduceEqDiff, Nat.reduceAdd, Nat.reduceLeDiff, Int.reduceEq, ↓reduceIte, hf, h5, ←hF]
      refine hpa.use ?_
      simp (disch := first | assumption | omega) only [go_sem, Nat.reduceEqDiff, Nat.reduceAdd, Nat.reduceLeDiff, ↓reduceIte, Bool.true_and, hf, ASt.set_set]
      refine fin b4 b6 b7 5 0 [] (placeR p.a) .zero _ z4 z6 z7 n46 n47 n67 (fun ks => by unfold nodeG; rw [if_neg (by omega), if_neg (by omega), if_neg (by omega), if_neg (by omega), if_pos h5]) (by omega) ?_
      simp (disch := first | assumption | omega) only [go_sem, reduceCtorEq, Nat.reduceEqDiff, ↓reduceIte, hf, hc]
     by_cases h6 : opG p.op = 6
     ·have hc : (cnt : Int) = 0 := by rw [← hcnt]; unfold cntG; rw [if_neg (by omega), if_neg (by omega), if_neg (by omega)]; rfl
      have hpa := place_ok p.a
      have hpb := place_ok p.b
      unfold refAV at hpa hpb
      simp (disch := first | assumption | omega) only [go_sem, Nat.reduceEqDiff, Nat.reduceAdd, Nat.reduceLeDiff, Int.reduceEq, ↓reduceIte, hf, h6, ←hF]
      refine hpa.use ?_
      simp (disch := first | assumption | omega) only [go_sem, Nat.reduceEqDiff, Nat.reduceAdd, Nat.reduceLeDiff, ↓reduceIte, Bool.true_and, hf, ASt.set_set]
      refine hpb.use ?_
      simp (disch := first | assumption | omega) only [go_sem, Nat.reduceEqDiff, Nat.reduceAdd, Nat.reduceLeDiff, ↓reduceIte, Bool.true_and, hf, ASt.set_set]
      refine fin b4 b6 b7 6 0 [] (placeR p.a) (placeR p.b) _ z4 z6 z7 n46 n47 n67 (fun ks => by unfold nodeG; rw [if_neg (by omega), if_neg (by omega), if_neg (by omega), if_neg (by omega), if_neg (by omega), if_pos h6]) (by omega) ?_
      simp (disch := first | assumption | omega) only [go_sem, reduceCtorEq, Nat.reduceEqDiff, ↓reduceIte, hf, hc]
     by_cases h7 : opG p.op = 7
     ·have hc : (cnt : Int) = 1 := by rw [← hcnt]; unfold cntG; rw [if_pos (by omega)]; rfl
      simp (disch := first | assumption | omega) only [go_sem, Nat.reduceEqDiff, Int.reduceEq, ↓reduceIte, hf, h7, ←hF]
      refine fin b4 b6 b7 7 0 [] .zero .zero _ z4 z6 z7 n46 n47 n67 (fun ks => by unfold nodeG; rw [if_neg (by omega), if_neg (by omega), if_neg (by omega), if_neg (by omega), if_neg (by omega), if_neg (by omega), if_neg (by omega), if_neg (by omega), h7]) (by omega) ?_
      simp (disch := first | assumption | omega) only [go_sem, reduceCtorEq, Nat.reduceEqDiff, ↓reduceIte, hf, hc]
     by_cases h8 : opG p.op = 8
     ·have hc : (cnt : Int) = 1 := by rw [← hcnt]; unfold cntG; rw [if_pos (by omega)]; rfl
      simp (disch := first | assumption | omega) only [go_sem, Nat.reduceEqDiff, Int.reduceEq, ↓reduceIte, hf, h8, ←hF]
      refine fin b4 b6 b7 8 0 [] .zero .zero _ z4 z6 z7 n46 n47 n67 (fun ks => by unfold nodeG; rw [if_neg (by omega), if_neg (by omega), if_neg (by omega), if_neg (by omega), if_neg (by omega), if_neg (by omega), if_neg (by omega), if_neg (by omega), h8]) (by omega) ?_
      simp (disch := first | assumption | omega) only [go_sem, reduceCtorEq, Nat.reduceEqDiff, ↓reduceIte, hf, hc]
     by_cases h9 : opG p.op = 9
     ·have hc : (cnt : Int) = 1 := by rw [← hcnt]; unfold cntG; rw [if_pos (by omega)]; rfl
      simp (disch := first | assumption | omega) only [go_sem, Nat.reduceEqDiff, Int.reduceEq, ↓reduceIte, hf, h9, ←hF]
      refine fin b4 b6 b7 9 0 [] .zero .zero _ z4 z6 z7 n46 n47 n67 (fun ks => by unfold nodeG; rw [if_neg (by omega), if_neg (by omega), if_neg (by omega), if_neg (by omega), if_neg (by omega), if_neg (by omega), if_neg (by omega), if_neg (by omega), h9]) (by omega) ?_
      simp (disch := first | assumption | omega) only [go_sem, reduceCtorEq, Nat.reduceEqDiff, ↓reduceIte, hf, hc]
     by_cases h23 : opG p.op = 23
     ·have hc : (cnt : Int) = 0 := by rw [← hcnt]; unfold cntG; rw [if_neg (by omega), if_neg (by omega), if_neg (by omega)]; rfl
      simp (disch := first | assumption | omega) only [go_sem, Nat.reduceEqDiff, Nat.reduceAdd, Nat.reduceLeDiff, Int.reduceEq, ↓reduceIte, Bool.true_and, hf, h23, ASt.set_set, ←hF]
      refine fin b4 b6 b7 3 0 [] .zero .zero _ z4 z6 z7 n46 n47 n67 (fun ks => by unfold nodeG; rw [if_neg (by omega), if_neg (by omega), if_neg (by omega), if_neg (by omega), if_neg (by omega), if_neg (by omega), if_pos h23]) (by omega) ?_
      simp (disch := first | assumption | omega) only [go_sem, reduceCtorEq, Nat.reduceEqDiff, ↓reduceIte, hf, hc]
     by_cases h22 : opG p.op = 22
     ·have hu : 0 ≤ (kkG p.n).tdiv 4 ∧ (kkG p.n).tdiv 4 ≤ 25000 := by rw [Int.tdiv_eq_ediv_of_nonneg hkk.1]; omega
      have hw : 0 ≤ ((kkG p.n).tdiv 4).tmod 4 ∧ ((kkG p.n).tdiv 4).tmod 4 < 4 := ⟨Int.tmod_nonneg _ hu.1, Int.tmod_lt_of_pos _ (by decide)⟩
      have hr : 0 ≤ (kkG p.n).tmod 4 ∧ (kkG p.n).tmod 4 < 4 := ⟨Int.tmod_nonneg _ hkk.1, Int.tmod_lt_of_pos _ (by decide)⟩
      have hc : (cnt : Int) = ((kkG p.n).tdiv 4).tmod 4 := by rw [← hcnt]; unfold cntG; rw [if_neg (by omega), if_pos h22]; omega
      have hN : ∀ ks, nodeG p ks = .mk 22 0 (callL.getD ((kkG p.n).tmod 4).toNat []) .zero .zero ks := fun ks => by unfold nodeG; rw [if_neg (by omega), if_neg (by omega), if_neg (by omega), if_neg (by omega), if_neg (by omega), if_neg (by omega), if_neg (by omega), if_pos h22]
      obtain ⟨u, hue⟩ : ∃ u, (kkG p.n).tdiv 4 = u := ⟨_, rfl⟩
      rw [hue] at hu hw hc
      obtain ⟨w, hwe⟩ : ∃ w, u.tmod 4 = w := ⟨_, rfl⟩
      rw [hwe] at hw hc
      have hr4 : (kkG p.n).tmod 4 = 0 ∨ (kkG p.n).tmod 4 = 1 ∨ (kkG p.n).tmod 4 = 2 ∨ (kkG p.n).tmod 4 = 3 := by omega
      rcases hr4 with hr4 | hr4 | hr4 | hr4
      all_goals
       rw [hr4] at hN
       simp (disch := first | assumption | omega) only [go_sem, Nat.reduceEqDiff, Nat.reduceAdd, Nat.reduceLeDiff, Int.reduceEq, ↓reduceIte, Int.reduceToNat, Bool.true_and, hf, h22, hr4, hue, hwe, ASt.set_set, ←hF]
       refine fin b4 b6 b7 22 0 _ .zero .zero _ z4 z6 z7 n46 n47 n67 hN (by omega) ?_
       simp (disch := first | assumption | omega) only [go_sem, reduceCtorEq, Nat.reduceEqDiff, ↓reduceIte, hf, hc]
     have hc : (cnt : Int) = 2 := by rw [← hcnt]; unfold cntG; rw [if_neg (by omega), if_neg (by omega), if_pos (by omega)]; rfl
     simp (disch := first | assumption | omega) only [go_sem, Nat.reduceEqDiff, ↓reduceIte, hf, h1, h3, h4, h2, h5, h6, h7, h8, h9, h23, h22, ←hF]
     refine fin b4 b6 b7 (opG p.op) 0 [] .zero .zero _ z4 z6 z7 n46 n47 n67 (fun ks => by unfold nodeG; rw [if_neg (by omega), if_neg (by omega), if_neg (by omega), if_neg (by omega), if_neg (by omega), if_neg (by omega), if_neg (by omega), if_neg (by omega)]) (by omega) ?_
     simp (disch := first | assumption | omega) only [go_sem, reduceCtorEq, Nat.reduceEqDiff, ↓reduceIte, hf, hc]
    rw [← hQ]
    unfold zero12 at brs
    refine brs _ ?_
    simp (disch := first | assumption | omega) only [go_sem, reduceCtorEq, Nat.reduceEqDiff, ↓reduceIte]
   ·have hlt' : ¬ (i : Int) < L.length := by omega
    have hge : (L.length : Int) ≤ i := by omega
    have hx : L[i]? = none := List.getElem?_eq_none (by omega)
    have hg : growK L k i = (.mk 1 0 [] .zero .zero [], i) := by
     cases k with
     | zero => rfl
     | succ k => rw [growK, hx]
    rw [hg]
    dsimp only
    rw [Nd.av_cs]
    refine a19 (by simp) ?_
    simp (disch := first | assumption | omega) only [go_sem]
    refine allocC_by fun b4 hb4 => ?_
    simp (disch := first | assumption | omega) only [go_sem, reduceCtorEq, Nat.reduceEqDiff, Nat.reduceAdd, Nat.reduceLeDiff, ↓reduceIte, Bool.true_and, hge, ASt.set_set]
    exact retC_by (Drop.set hb4) (.tuple (.cons (.agg (.cons (.refl _) (.cons (.refl _) (.cons (.refl _) (.cons (.refl _) (.cons (.refl _) (.cons (.refl _) (.cons (.refl _) (.cons (.refl _) (.cons (.refl _) (.cons (.refl _) (.cons (.refl _) (.cons (.sl _ _) .nil))))))))))))) (.cons (.refl _) .nil))) ⟨rfl, rfl⟩
termination_by k => k
end Go.A
namespace Go.A
open Go.Proofs Go.Lib
structure PSt where
 i : Nat
 deep : Int
 err : Int
 bad : Int
 deriving DecidableEq
def endT : Tok := ⟨0, [], 0, 0⟩
def zN : Nd := .mk 0 0 [] .zero .zero []
section
variable (T : List Tok)
def PSt.next (s : PSt) : PSt := { s with i := s.i + 1 }
def curT (s : PSt) : Tok := if s.err ≠ 0 then endT else T.getD s.i endT
def failP (s : PSt) (e : Int) : PSt := if s.err = 0 then { s with err := e, bad := ((T.getD s.i endT).at' : Nat) } else s
def isOp (s : PSt) (x : List UInt8) : Bool := decide ((curT T s).kind = 6) && decide ((curT T s).text = x)
def mustP (s : PSt) (x : List UInt8) : PSt := if isOp T s x then s.next else failP T s 10
def enterP (s : PSt) : PSt := if 40 < s.deep + 1 then failP T { s with deep := s.deep + 1 } 12 else { s with deep := s.deep + 1 }
def leaveP (s : PSt) : PSt := { s with deep := s.deep - 1 }
def stepP1 (s : PSt) : PSt := if s.err = 0 then s.next else s
def levelsL : List (List (List UInt8)) := [[[61], [60, 62], [60], [60, 61], [62], [62, 61]], [[38]], [[43], [45]], [[42], [47]], [[94]]]
def idxS (x : List UInt8) : List (List UInt8) → Nat → Int
 | [], _ => -1
 | y :: l, i => if x = y then i else idxS x l (i + 1)
def idxP (l : List (List UInt8)) (x : List UInt8) : Int := idxS x l 0
theorem idxS_mem (x : List UInt8) : ∀ (l : List (List UInt8)) (k : Nat), decide (0 ≤ idxS x l k) = decide (x ∈ l)
 | [], k => by simp [idxS]
 | y :: l, k => by
   rw [idxS]
   by_cases h : x = y
   ·subst h; simp
   ·rw [if_neg h, idxS_mem x l (k + 1)]; simp [h]
theorem idxS_rng (x : List UInt8) : ∀ (l : List (List UInt8)) (k : Nat), -1 ≤ idxS x l k ∧ idxS x l k ≤ k + l.length
 | [], k => by simp only [idxS]; omega
 | y :: l, k => by
   rw [idxS]
   split
   ·simp only [List.length_cons]; omega
   ·have := idxS_rng x l (k + 1); simp only [List.length_cons]; omega
def sgn (s : PSt) (lvl : Nat) : Bool := decide ((curT T s).kind = 6) && decide ((curT T s).text ∈ levelsL.getD lvl [])
def refT (t : Tok) : Ref := (parseP t.text).1
def areaP (s : PSt) : Nd × PSt :=
 if isOp T s.next [58] = false then (.mk 5 0 [] (refT (curT T s)) .zero [], s.next)
 else if (curT T s.next.next).kind ≠ 4 then (zN, failP T s.next.next 10)
 else (.mk 6 0 [] (refT (curT T s)) (refT (curT T s.next.next)) [], s.next.next.next)
mutual
def betwP : Nat → Nat → PSt → Option (Nd × PSt)
 | 0, _, _ => none
 | f + 1, lvl, s => if lvl = 5 then signedP f s else match betwP f (lvl + 1) s with
   | none => none
   | some r => loopP f lvl r.1 r.2
def loopP : Nat → Nat → Nd → PSt → Option (Nd × PSt)
 | 0, _, _, _ => none
 | f + 1, lvl, n, s => if sgn T s lvl = true then (match betwP f (lvl + 1) s.next with
   | none => none
   | some r => loopP f lvl (.mk (10 + idxP signL (curT T s).text) 0 [] .zero .zero [n, r.1]) r.2) else some (n, s)
def signedP : Nat → PSt → Option (Nd × PSt)
 | 0, _ => none
 | f + 1, s => if isOp T s [45] = true then (match signedP f (stepP1 (enterP T s)) with
   | none => none
   | some r => some (.mk 7 0 [] .zero .zero [r.1], leaveP r.2))
  else if isOp T s [43] = true then (match signedP f (stepP1 (enterP T s)) with
   | none => none
   | some r => some (.mk 8 0 [] .zero .zero [r.1], leaveP r.2))
  else hundredP f s
def hundredP : Nat → PSt → Option (Nd × PSt)
 | 0, _ => none
 | f + 1, s => match primP f s with
   | none => none
   | some r => hloopP f r.1 r.2
def hloopP : Nat → Nd → PSt → Option (Nd × PSt)
 | 0, _, _ => none
 | f + 1, n, s => if isOp T s [37] = true then hloopP f (.mk 9 0 [] .zero .zero [n]) s.next else some (n, s)
def primP : Nat → PSt → Option (Nd × PSt)
 | 0, _ => none
 | f + 1, s =>
   if (curT T s).kind = 1 then (match parseD (curT T s).text with
    | none => some (zN, failP T s 10)
    | some v => some (.mk 1 v [] .zero .zero [], s.next))
   else if (curT T s).kind = 2 then some (.mk 2 0 (curT T s).text .zero .zero [], s.next)
   else if (curT T s).kind = 5 then some (.mk 4 ((idxP errL (curT T s).text + 1) * 10000) [] .zero .zero [], s.next)
   else if (curT T s).kind = 4 then some (areaP T s)
   else if (curT T s).kind = 3 then nameP f s
   else if isOp T s [40] = true then (match betwP f 0 (stepP1 (enterP T s)) with
    | none => none
    | some r => some (r.1, leaveP (mustP T r.2 [41])))
   else some (zN, failP T s 10)
def nameP : Nat → PSt → Option (Nd × PSt)
 | 0, _ => none
 | f + 1, s =>
   if (T.getD (s.i + 1) endT).kind = 6 ∧ (T.getD (s.i + 1) endT).text = [40] then
    (if (enterP T s).err ≠ 0 then some (zN, leaveP (enterP T s))
     else match argsP f (enterP T s).next.next with
      | none => none
      | some r => some (.mk 22 0 (curT T s).text .zero .zero r.1, leaveP r.2))
   else if (curT T s).text = [84, 82, 85, 69] then some (.mk 3 1 [] .zero .zero [], s.next)
   else if (curT T s).text = [70, 65, 76, 83, 69] then some (.mk 3 0 [] .zero .zero [], s.next)
   else some (zN, failP T s 10)
def argsP : Nat → PSt → Option (List Nd × PSt)
 | 0, _ => none
 | f + 1, s => if isOp T s [41] = true then some ([], s.next) else aloopP f [] s
def aloopP : Nat → List Nd → PSt → Option (List Nd × PSt)
 | 0, _, _ => none
 | f + 1, l, s => if s.err ≠ 0 then some (l, s) else
   match (if isOp T s [44] = true ∨ isOp T s [41] = true then some (missN, s) else betwP f 0 s) with
   | none => none
   | some r => if isOp T r.2 [44] = true then aloopP f (l ++ [r.1]) r.2.next else some (l ++ [r.1], mustP T r.2 [41])
end
def parseT (f : Nat) (s : List UInt8) : Option (Nd × Int × Int) :=
 if (lexP s).2.2 ≠ 0 then some (zN, (lexP s).2.1, (lexP s).2.2) else
 match betwP (lexP s).1 f 0 ⟨0, 0, 0, 0⟩ with
 | none => none
 | some r =>
   if (if (curT (lexP s).1 r.2).kind ≠ 0 then failP (lexP s).1 r.2 10 else r.2).err ≠ 0 then some (zN, (if (curT (lexP s).1 r.2).kind ≠ 0 then failP (lexP s).1 r.2 10 else r.2).bad, (if (curT (lexP s).1 r.2).kind ≠ 0 then failP (lexP s).1 r.2 10 else r.2).err)
   else some (r.1, 0, 0)
end
structure Ends (T : List Tok) : Prop where
 pos : 0 < T.length
 last : ∀ i, i + 1 = T.length → (T.getD i endT).kind = 0
 more : ∀ i, i < T.length → (T.getD i endT).kind ≠ 0 → i + 1 < T.length
structure Fit (T : List Tok) (s : PSt) : Prop where
 i : s.i < T.length
 d0 : 0 ≤ s.deep
 d1 : s.deep ≤ 41
 d2 : s.err = 0 → s.deep ≤ 40
structure Went (T : List Tok) (s s' : PSt) : Prop where
 fit : Fit T s'
 le : s.i ≤ s'.i
 deep : s'.deep = s.deep
 err : s.err ≠ 0 → s'.err = s.err ∧ s'.i = s.i
section
variable {T : List Tok}
theorem Went.refl {s : PSt} (h : Fit T s) : Went T s s := ⟨h, Nat.le_refl _, rfl, fun _ => ⟨rfl, rfl⟩⟩
theorem Went.trans {s s' s'' : PSt} (h : Went T s s') (k : Went T s' s'') : Went T s s'' :=
 ⟨k.fit, Nat.le_trans h.le k.le, k.deep.trans h.deep, fun he => by
  obtain ⟨h1, h2⟩ := h.err he
  obtain ⟨k1, k2⟩ := k.err (by rw [h1]; exact he)
  exact ⟨k1.trans h1, k2.trans h2⟩⟩
theorem Fit.next {s : PSt} (hT : Ends T) (h : Fit T s) (hk : (curT T s).kind ≠ 0) : Fit T s.next ∧ s.err = 0 := by
 unfold curT at hk
 split at hk
 ·exact absurd rfl hk
 ·rename_i he
  have := hT.more s.i h.i hk
  exact ⟨⟨this, h.d0, h.d1, h.d2⟩, by simpa using he⟩
theorem Went.next {s : PSt} (hT : Ends T) (h : Fit T s) (hk : (curT T s).kind ≠ 0) : Went T s s.next :=
 ⟨(h.next hT hk).1, Nat.le_succ _, rfl, fun he => absurd (h.next hT hk).2 he⟩
theorem Fit.fail {s : PSt} (h : Fit T s) (e : Int) (he : e ≠ 0) : Fit T (failP T s e) := by
 unfold failP
 split
 ·exact ⟨h.i, h.d0, h.d1, fun h0 => absurd h0 he⟩
 ·exact h
theorem Went.fail {s : PSt} (h : Fit T s) (e : Int) (he : e ≠ 0) : Went T s (failP T s e) := by
 refine ⟨h.fail e he, ?_, ?_, fun h0 => ?_⟩
 ·unfold failP; split <;> exact Nat.le_refl _
 ·unfold failP; split <;> rfl
 ·unfold failP; rw [if_neg h0]; exact ⟨rfl, rfl⟩
theorem isOp_kind {s : PSt} {x : List UInt8} (h : isOp T s x = true) : (curT T s).kind ≠ 0 := by
 unfold isOp at h
 simp only [Bool.and_eq_true, decide_eq_true_eq] at h
 omega
theorem sgn_kind {s : PSt} {l : Nat} (h : sgn T s l = true) : (curT T s).kind ≠ 0 := by
 unfold sgn at h
 simp only [Bool.and_eq_true, decide_eq_true_eq] at h
 omega
theorem Went.must {s : PSt} (hT : Ends T) (h : Fit T s) (x : List UInt8) : Went T s (mustP T s x) := by
 unfold mustP
 split
 ·rename_i hx; exact Went.next hT h (isOp_kind hx)
 ·exact Went.fail h 10 (by decide)
theorem enter_fit {s : PSt} (hT : Ends T) (h : Fit T s) (hk : (curT T s).kind ≠ 0) : Fit T (stepP1 (enterP T s)) ∧ (stepP1 (enterP T s)).deep = s.deep + 1 ∧ s.i ≤ (stepP1 (enterP T s)).i := by
 obtain ⟨h1, h2⟩ := h.next hT hk
 have hd := h.d2 h2
 unfold enterP
 split
 ·unfold failP
  dsimp only
  rw [if_pos h2]
  unfold stepP1
  dsimp only
  rw [if_neg (by decide)]
  exact ⟨⟨h.i, by have := h.d0; dsimp only; omega, by dsimp only; omega, fun h0 => absurd h0 (by dsimp only; decide)⟩, rfl, Nat.le_refl _⟩
 ·unfold stepP1
  dsimp only
  rw [if_pos h2]
  exact ⟨⟨h1.i, by have := h.d0; dsimp only [PSt.next]; omega, by dsimp only [PSt.next]; omega, fun _ => by dsimp only [PSt.next]; omega⟩, rfl, Nat.le_succ _⟩
theorem Went.leave {s s1 s2 : PSt} (h1 : s1.deep = s.deep + 1) (hle : s.i ≤ s1.i) (h0 : s.err = 0) (hs : Fit T s) (h : Went T s1 s2) : Went T s (leaveP s2) := by
 have hd := h.deep
 have e : (leaveP s2).deep = s2.deep - 1 := rfl
 have := hs.d0
 have := hs.d2 h0
 exact ⟨⟨h.fit.i, by omega, by omega, fun _ => by omega⟩, Nat.le_trans hle h.le, by omega, fun he => absurd h0 he⟩
theorem cur_err {s : PSt} (h : (curT T s).kind ≠ 0) : s.err = 0 := by
 unfold curT at h
 split at h
 ·exact absurd rfl h
 ·rename_i he; simpa using he
theorem cur_at {s : PSt} (h : s.err = 0) : curT T s = T.getD s.i endT := by unfold curT; rw [if_neg (by simp [h])]
theorem Went.area {s : PSt} (hT : Ends T) (h : Fit T s) (hk : (curT T s).kind = 4) : Went T s (areaP T s).2 := by
 have h1 := Went.next hT h (by omega)
 unfold areaP
 split
 ·exact h1
 ·rename_i ho
  have ho' : isOp T s.next [58] = true := by simpa using ho
  have h2 := h1.trans (Went.next hT h1.fit (isOp_kind ho'))
  split
  ·exact h2.trans (Went.fail h2.fit 10 (by decide))
  ·rename_i hk2
   exact h2.trans (Went.next hT h2.fit (by omega))
structure WentF (T : List Tok) (f : Nat) : Prop where
 betw : ∀ lvl s r, betwP T f lvl s = some r → Fit T s → Went T s r.2
 loop : ∀ lvl n s r, loopP T f lvl n s = some r → Fit T s → Went T s r.2
 signed : ∀ s r, signedP T f s = some r → Fit T s → Went T s r.2
 hundred : ∀ s r, hundredP T f s = some r → Fit T s → Went T s r.2
 hloop : ∀ n s r, hloopP T f n s = some r → Fit T s → Went T s r.2
 prim : ∀ s r, primP T f s = some r → Fit T s → Went T s r.2
 name : ∀ s r, nameP T f s = some r → Fit T s → (curT T s).kind = 3 → Went T s r.2
 args : ∀ s r, argsP T f s = some r → Fit T s → Went T s r.2
 aloop : ∀ l s r, aloopP T f l s = some r → Fit T s → Went T s r.2
theorem enter2 {s : PSt} (hT : Ends T) (h : Fit T s) (hk : (curT T s).kind ≠ 0) (he : (enterP T s).err = 0) : Fit T (enterP T s).next ∧ (enterP T s).deep = s.deep + 1 ∧ (enterP T s).i = s.i ∧ (enterP T s).next = stepP1 (enterP T s) := by
 have h1 := enter_fit hT h hk
 have e : stepP1 (enterP T s) = (enterP T s).next := if_pos he
 rw [e] at h1
 refine ⟨h1.1, h1.2.1, ?_, e.symm⟩
 unfold enterP failP
 split
 ·split <;> rfl
 ·rfl
theorem enter_err {s : PSt} (hT : Ends T) (h : Fit T s) (h0 : s.err = 0) : Fit T (enterP T s) ∧ (enterP T s).deep = s.deep + 1 ∧ (enterP T s).i = s.i := by
 have hd := h.d2 h0
 have := h.d0
 unfold enterP
 split
 ·unfold failP
  dsimp only
  rw [if_pos h0]
  exact ⟨⟨h.i, by dsimp only; omega, by dsimp only; omega, fun h => absurd h (by dsimp only; decide)⟩, rfl, rfl⟩
 ·exact ⟨⟨h.i, by dsimp only; omega, by dsimp only; omega, fun _ => by dsimp only; omega⟩, rfl, rfl⟩
theorem wentF (hT : Ends T) : ∀ f, WentF T f
 | 0 => by
   constructor
   all_goals intros
   all_goals first
    | (rename_i h _; simp only [betwP, loopP, signedP, hundredP, hloopP, primP, argsP, aloopP, reduceCtorEq] at h)
    | (rename_i h _ _; simp only [nameP, reduceCtorEq] at h)
 | f + 1 => by
   have ih := wentF hT f
   constructor
   ·intro lvl s r h hf
    rw [betwP] at h
    split at h
    ·exact ih.signed s r h hf
    ·split at h
     ·cases h
     ·rename_i r1 h1
      have w1 := ih.betw _ _ _ h1 hf
      exact w1.trans (ih.loop _ _ _ _ h w1.fit)
   ·intro lvl n s r h hf
    rw [loopP] at h
    split at h
    ·rename_i hk
     split at h
     ·cases h
     ·rename_i r1 h1
      have w0 := Went.next hT hf (sgn_kind hk)
      have w1 := w0.trans (ih.betw _ _ _ h1 w0.fit)
      exact w1.trans (ih.loop _ _ _ _ h w1.fit)
    ·injection h with h; subst h; exact Went.refl hf
   ·intro s r h hf
    rw [signedP] at h
    split at h
    ·rename_i hk
     split at h
     ·cases h
     ·rename_i r1 h1
      injection h with h; subst h
      obtain ⟨g1, g2, g3⟩ := enter_fit hT hf (isOp_kind hk)
      exact Went.leave g2 g3 (cur_err (isOp_kind hk)) hf (ih.signed _ _ h1 g1)
    split at h
    ·rename_i hk
     split at h
     ·cases h
     ·rename_i r1 h1
      injection h with h; subst h
      obtain ⟨g1, g2, g3⟩ := enter_fit hT hf (isOp_kind hk)
      exact Went.leave g2 g3 (cur_err (isOp_kind hk)) hf (ih.signed _ _ h1 g1)
    ·exact ih.hundred _ _ h hf
   ·intro s r h hf
    rw [hundredP] at h
    split at h
    ·cases h
    ·rename_i r1 h1
     have w1 := ih.prim _ _ h1 hf
     exact w1.trans (ih.hloop _ _ _ h w1.fit)
   ·intro n s r h hf
    rw [hloopP] at h
    split at h
    ·rename_i hk
     have w0 := Went.next hT hf (isOp_kind hk)
     exact w0.trans (ih.hloop _ _ _ h w0.fit)
    ·injection h with h; subst h; exact Went.refl hf
   ·intro s r h hf
    rw [primP] at h
    split at h
    ·rename_i hk
     split at h
     ·injection h with h; subst h; exact Went.fail hf 10 (by decide)
     ·injection h with h; subst h; exact Went.next hT hf (by rw [hk]; decide)
    split at h
    ·rename_i hk
     injection h with h; subst h; exact Went.next hT hf (by omega)
    split at h
    ·rename_i hk
     injection h with h; subst h; exact Went.next hT hf (by omega)
    split at h
    ·rename_i hk
     injection h with h; subst h; exact Went.area hT hf hk
    split at h
    ·rename_i hk
     exact ih.name _ _ h hf hk
    split at h
    ·rename_i hk
     split at h
     ·cases h
     ·rename_i r1 h1
      injection h with h; subst h
      obtain ⟨g1, g2, g3⟩ := enter_fit hT hf (isOp_kind hk)
      have w1 := ih.betw _ _ _ h1 g1
      exact Went.leave g2 g3 (cur_err (isOp_kind hk)) hf (w1.trans (Went.must hT w1.fit _))
    ·injection h with h; subst h; exact Went.fail hf 10 (by decide)
   ·intro s r h hf hk3
    have h0 : s.err = 0 := cur_err (T := T) (by omega)
    have hn := hf.next hT (by omega)
    rw [nameP] at h
    split at h
    ·rename_i hk
     obtain ⟨e1, e2, e3⟩ := enter_err hT hf h0
     split at h
     ·injection h with h; subst h
      exact Went.leave e2 (by omega) h0 hf (Went.refl e1)
     ·rename_i he
      split at h
      ·cases h
      ·rename_i r1 h1
       injection h with h; subst h
       obtain ⟨g1, g2, g3, _⟩ := enter2 hT hf (by omega) (by simpa using he)
       have hl := hT.more (s.i + 1) hn.1.i (by omega)
       have g4 : Fit T (enterP T s).next.next := ⟨by show (enterP T s).i + 1 + 1 < _; omega, g1.d0, g1.d1, g1.d2⟩
       exact Went.leave (s1 := (enterP T s).next.next) g2 (by show s.i ≤ (enterP T s).i + 1 + 1; omega) h0 hf (ih.args _ _ h1 g4)
    split at h
    ·injection h with h; subst h; exact Went.next hT hf (by omega)
    split at h
    ·injection h with h; subst h; exact Went.next hT hf (by omega)
    ·injection h with h; subst h; exact Went.fail hf 10 (by decide)
   ·intro s r h hf
    rw [argsP] at h
    split at h
    ·rename_i hk
     injection h with h; subst h; exact Went.next hT hf (isOp_kind hk)
    ·exact ih.aloop _ _ _ h hf
   ·intro l s r h hf
    rw [aloopP] at h
    split at h
    ·injection h with h; subst h; exact Went.refl hf
    ·rename_i he
     split at h
     ·cases h
     ·rename_i r1 h1
      have w1 : Went T s r1.2 := by
       split at h1
       ·injection h1 with h1; subst h1; exact Went.refl hf
       ·exact ih.betw _ _ _ h1 hf
      split at h
      ·rename_i hk
       have w2 := w1.trans (Went.next hT w1.fit (isOp_kind hk))
       exact w2.trans (ih.aloop _ _ _ h w2.fit)
      ·injection h with h; subst h; exact w1.trans (Went.must hT w1.fit _)
end
end Go.A
namespace Go.A
open Go.Proofs
/-! 11: tabular/token.Lex -/
def c11_0 : ACode := .ops [
 ⟨some 2, none, .q (.mv (.v (.sl .full []))), []⟩,
 ⟨some 3, none, .q (.mv (.v (.int .i64 0))), []⟩,
 ⟨some 4, none, .q (.mv (.v (.int .i64 0))), []⟩]
def c11_1 : ACode := .ops [
 ⟨some 7, none, .q (.mv (.t 0)), []⟩,
 ⟨some 8, none, .q (.lenS (.t 7)), []⟩,
 ⟨some 9, none, .q (.bin .gtr (.t 8) (.v (.int .i64 2000))), []⟩]
def c11_2 : ACode := .ops [
 ⟨some 2, none, .q (.mv (.v (.sl .full []))), []⟩,
 ⟨some 3, none, .q (.mv (.v (.int .i64 0))), []⟩,
 ⟨some 4, none, .q (.mv (.v (.int .i64 11))), []⟩]
def c11_3 : ACode := .seq c11_2 .ret
def c11_4 : ACode := .cond (.t 9) c11_3 .skip
def c11_5 : ACode := .seq c11_1 c11_4
def c11_6 : ACode := .ops [
 ⟨some 10, none, .q (.mv (.t 0)), []⟩,
 ⟨some 11, none, .q (.build [(.str []), (.int .i64 0), (.int .i64 0), (.sl .full [])] [(0, 1, (.t 10))]), []⟩,
 ⟨some 12, none, .e (.box (.t 11)), []⟩,
 ⟨some 5, none, .q (.mv (.t 12)), []⟩]
def c11_7 : ACode := .ops [
 ⟨some 13, none, .q (.mv (.t 5)), []⟩,
 ⟨some 14, none, .q (.nc (.t 13)), []⟩,
 ⟨some 15, none, .q (.fa 1 (.t 14)), []⟩,
 ⟨some 16, none, .q (.ld none (.t 15)), []⟩,
 ⟨some 17, none, .q (.mv (.t 0)), []⟩,
 ⟨some 18, none, .q (.lenS (.t 17)), []⟩,
 ⟨some 19, none, .q (.bin .lss (.t 16) (.t 18)), []⟩]
def c11_8 : ACode := .cond (.t 19) .skip (.exit 0)
def c11_9 : ACode := .seq c11_7 c11_8
def c11_10 : ACode := .ops [
 ⟨some 20, none, .q (.mv (.t 5)), []⟩,
 ⟨some 21, none, .e (.call 20 [(.t 20)]), []⟩,
 ⟨some 6, none, .q (.mv (.t 21)), []⟩]
def c11_11 : ACode := .ops [
 ⟨some 22, none, .q (.mv (.t 6)), []⟩,
 ⟨some 23, none, .q (.bin .neq (.t 22) (.v (.int .i64 0))), []⟩]
def c11_12 : ACode := .ops [
 ⟨some 24, none, .q (.mv (.t 5)), []⟩,
 ⟨some 25, none, .q (.nc (.t 24)), []⟩,
 ⟨some 26, none, .q (.fa 1 (.t 25)), []⟩,
 ⟨some 27, none, .q (.ld none (.t 26)), []⟩,
 ⟨some 28, none, .q (.mv (.t 6)), []⟩,
 ⟨some 2, none, .q (.mv (.v (.sl .full []))), []⟩,
 ⟨some 3, none, .q (.mv (.t 27)), []⟩,
 ⟨some 4, none, .q (.mv (.t 28)), []⟩]
def c11_13 : ACode := .seq c11_12 .ret
def c11_14 : ACode := .cond (.t 23) c11_13 .skip
def c11_15 : ACode := .seq c11_11 c11_14
def c11_16 : ACode := .seq c11_10 c11_15
def c11_17 : ACode := .block 1 c11_16
def c11_18 : ACode := .seq c11_9 c11_17
def c11_19 : ACode := .loop c11_18
def c11_20 : ACode := .block 0 c11_19
def c11_21 : ACode := .ops [
 ⟨some 29, none, .q (.mv (.t 5)), []⟩,
 ⟨some 30, none, .e (.call 21 [(.t 29), (.v (.int .i64 0)), (.v (.str [])), (.v (.int .i64 0))]), []⟩]
def c11_22 : ACode := .ops [
 ⟨some 31, none, .q (.mv (.t 5)), []⟩,
 ⟨some 32, none, .q (.nc (.t 31)), []⟩,
 ⟨some 33, none, .q (.fa 3 (.t 32)), []⟩,
 ⟨some 34, none, .q (.ld none (.t 33)), []⟩,
 ⟨some 2, none, .q (.mv (.t 34)), []⟩,
 ⟨some 3, none, .q (.mv (.v (.int .i64 0))), []⟩,
 ⟨some 4, none, .q (.mv (.v (.int .i64 0))), []⟩]
def c11_23 : ACode := .seq c11_22 .ret
def c11_24 : ACode := .seq c11_21 c11_23
def c11_25 : ACode := .seq c11_20 c11_24
def c11_26 : ACode := .seq c11_6 c11_25
def c11_27 : ACode := .seq c11_5 c11_26
def c11_28 : ACode := .seq c11_0 c11_27
@[go_sem] def c11_0_wp := wp_of c11_0.eq_1
@[go_sem] def c11_1_wp := wp_of c11_1.eq_1
@[go_sem] def c11_2_wp := wp_of c11_2.eq_1
@[go_sem] def c11_3_wp := wp_of c11_3.eq_1
@[go_sem] def c11_4_wp := wp_of c11_4.eq_1
@[go_sem] def c11_5_wp := wp_of c11_5.eq_1
@[go_sem] def c11_6_wp := wp_of c11_6.eq_1
@[go_sem] def c11_7_wp := wp_of c11_7.eq_1
@[go_sem] def c11_8_wp := wp_of c11_8.eq_1
@[go_sem] def c11_9_wp := wp_of c11_9.eq_1
@[go_sem] def c11_10_wp := wp_of c11_10.eq_1
@[go_sem] def c11_11_wp := wp_of c11_11.eq_1
@[go_sem] def c11_12_wp := wp_of c11_12.eq_1
@[go_sem] def c11_13_wp := wp_of c11_13.eq_1
@[go_sem] def c11_14_wp := wp_of c11_14.eq_1
@[go_sem] def c11_15_wp := wp_of c11_15.eq_1
@[go_sem] def c11_16_wp := wp_of c11_16.eq_1
@[go_sem] def c11_17_wp := wp_of c11_17.eq_1
@[go_sem] def c11_18_wp := wp_of c11_18.eq_1
@[go_sem] def c11_19_wp := wp_of c11_19.eq_1
@[go_sem] def c11_20_wp := wp_of c11_20.eq_1
@[go_sem] def c11_21_wp := wp_of c11_21.eq_1
@[go_sem] def c11_22_wp := wp_of c11_22.eq_1
@[go_sem] def c11_23_wp := wp_of c11_23.eq_1
@[go_sem] def c11_24_wp := wp_of c11_24.eq_1
@[go_sem] def c11_25_wp := wp_of c11_25.eq_1
@[go_sem] def c11_26_wp := wp_of c11_26.eq_1
@[go_sem] def c11_27_wp := wp_of c11_27.eq_1
@[go_sem] def c11_28_wp := wp_of c11_28.eq_1
def c11 : AFn := ⟨35, [.t 2, .t 3, .t 4], c11_28⟩
theorem c11_ok : compF Tryz.prog Tryz.f11 = some c11 := by kernel_rfl
theorem a11 {args : List AV} {σ : ASt} {R : AV → ASt → Prop} (hl : args.length ≤ 35) (h : c11_28.wp Tryz.prog (RetQ [.t 2, .t 3, .t 4] R) (init args) σ) : ACalls Tryz.prog 11 args σ R := acalls_of Tryz.func11 c11_ok hl h
/-! 20: (*tabular/token.lexer).next -/
def c20_0 : ACode := .ops [
 ⟨some 2, none, .q (.mv (.v (.int .i64 0))), []⟩]
def c20_1 : ACode := .ops [
 ⟨some 6, none, .q (.mv (.t 0)), []⟩,
 ⟨some 7, none, .e (.call 38 [(.t 6)]), []⟩,
 ⟨some 5, none, .q (.mv (.t 7)), []⟩,
 ⟨some 8, none, .q (.ext 0 (.t 5)), []⟩,
 ⟨some 9, none, .q (.ext 1 (.t 5)), []⟩,
 ⟨some 3, none, .q (.mv (.t 8)), []⟩,
 ⟨some 4, none, .q (.mv (.t 9)), []⟩]
def c20_2 : ACode := .ops [
 ⟨some 15, none, .q (.mv (.t 4)), []⟩,
 ⟨some 16, none, .q (.bin .lss (.t 15) (.v (.int .i64 0))), []⟩,
 ⟨some 14, none, .q (.mv (.t 16)), []⟩]
def c20_3 : ACode := .ops [
 ⟨some 2, none, .q (.mv (.v (.int .i64 10))), []⟩]
def c20_4 : ACode := .seq c20_3 .ret
def c20_5 : ACode := .ops [
 ⟨some 18, none, .q (.mv (.t 3)), []⟩,
 ⟨some 19, none, .q (.bin .eql (.t 18) (.v (.int .i32 32))), []⟩,
 ⟨some 17, none, .q (.mv (.t 19)), []⟩]
def c20_6 : ACode := .ops [
 ⟨some 20, none, .q (.mv (.t 3)), []⟩,
 ⟨some 21, none, .q (.bin .eql (.t 20) (.v (.int .i32 9))), []⟩,
 ⟨some 17, none, .q (.mv (.t 21)), []⟩]
def c20_7 : ACode := .ops [
 ⟨some 22, none, .q (.mv (.t 3)), []⟩,
 ⟨some 23, none, .q (.bin .eql (.t 22) (.v (.int .i32 10))), []⟩,
 ⟨some 17, none, .q (.mv (.t 23)), []⟩]
def c20_8 : ACode := .cond (.t 17) .skip c20_7
def c20_9 : ACode := .seq c20_6 c20_8
def c20_10 : ACode := .cond (.t 17) .skip c20_9
def c20_11 : ACode := .seq c20_5 c20_10
def c20_12 : ACode := .ops [
 ⟨some 24, none, .q (.mv (.t 0)), []⟩,
 ⟨some 25, none, .q (.mv (.t 0)), []⟩,
 ⟨some 26, none, .q (.nc (.t 25)), []⟩,
 ⟨some 27, none, .q (.fa 1 (.t 26)), []⟩,
 ⟨some 28, none, .q (.ld none (.t 27)), []⟩,
 ⟨some 29, none, .q (.mv (.t 4)), []⟩,
 ⟨some 30, none, .q (.bin .add (.t 28) (.t 29)), []⟩,
 ⟨some 31, none, .e (.call 39 [(.t 24), (.t 30)]), []⟩]
def c20_13 : ACode := .ops [
 ⟨some 33, none, .q (.mv (.t 3)), []⟩,
 ⟨some 34, none, .q (.bin .lss (.t 33) (.v (.int .i32 128))), []⟩,
 ⟨some 35, none, .q (.mv (.t 34)), []⟩,
 ⟨some 36, some (35, true), .q (.mv (.t 3)), []⟩,
 ⟨some 37, some (35, true), .q (.conv .u8 (.t 36)), []⟩,
 ⟨some 38, some (35, true), .e (.call 40 [(.t 37)]), []⟩,
 ⟨some 39, none, .q (.pick (.t 35) (.t 38) (.v (.bool false))), []⟩,
 ⟨some 32, none, .q (.mv (.t 39)), []⟩]
def c20_14 : ACode := .ops [
 ⟨some 40, none, .q (.mv (.t 0)), []⟩,
 ⟨some 41, none, .e (.call 41 [(.t 40)]), []⟩,
 ⟨some 2, none, .q (.mv (.t 41)), []⟩]
def c20_15 : ACode := .seq c20_14 .ret
def c20_16 : ACode := .ops [
 ⟨some 43, none, .q (.mv (.t 3)), []⟩,
 ⟨some 44, none, .q (.bin .eql (.t 43) (.v (.int .i32 34))), []⟩,
 ⟨some 42, none, .q (.mv (.t 44)), []⟩]
def c20_17 : ACode := .ops [
 ⟨some 45, none, .q (.mv (.t 0)), []⟩,
 ⟨some 46, none, .e (.call 42 [(.t 45)]), []⟩,
 ⟨some 2, none, .q (.mv (.t 46)), []⟩]
def c20_18 : ACode := .seq c20_17 .ret
def c20_19 : ACode := .ops [
 ⟨some 48, none, .q (.mv (.t 3)), []⟩,
 ⟨some 49, none, .q (.bin .eql (.t 48) (.v (.int .i32 35))), []⟩,
 ⟨some 47, none, .q (.mv (.t 49)), []⟩]
def c20_20 : ACode := .ops [
 ⟨some 50, none, .q (.mv (.t 0)), []⟩,
 ⟨some 51, none, .e (.call 43 [(.t 50)]), []⟩,
 ⟨some 2, none, .q (.mv (.t 51)), []⟩]
def c20_21 : ACode := .seq c20_20 .ret
def c20_22 : ACode := .ops [
 ⟨some 10, none, .q (.mv (.t 0)), []⟩,
 ⟨some 11, none, .q (.mv (.t 3)), []⟩,
 ⟨some 12, none, .q (.mv (.t 4)), []⟩,
 ⟨some 13, none, .e (.call 44 [(.t 10), (.t 11), (.t 12)]), []⟩,
 ⟨some 2, none, .q (.mv (.t 13)), []⟩]
def c20_23 : ACode := .seq c20_22 .ret
def c20_24 : ACode := .cond (.t 47) c20_21 c20_23
def c20_25 : ACode := .seq c20_19 c20_24
def c20_26 : ACode := .cond (.t 42) c20_18 c20_25
def c20_27 : ACode := .seq c20_16 c20_26
def c20_28 : ACode := .cond (.t 32) c20_15 c20_27
def c20_29 : ACode := .seq c20_13 c20_28
def c20_30 : ACode := .cond (.t 17) c20_12 c20_29
def c20_31 : ACode := .seq c20_11 c20_30
def c20_32 : ACode := .cond (.t 14) c20_4 c20_31
def c20_33 : ACode := .seq c20_2 c20_32
def c20_34 : ACode := .block 0 c20_33
def c20_35 : ACode := .ops [
 ⟨some 2, none, .q (.mv (.v (.int .i64 0))), []⟩]
def c20_36 : ACode := .seq c20_35 .ret
def c20_37 : ACode := .seq c20_34 c20_36
def c20_38 : ACode := .seq c20_1 c20_37
def c20_39 : ACode := .seq c20_0 c20_38
@[go_sem] def c20_0_wp := wp_of c20_0.eq_1
@[go_sem] def c20_1_wp := wp_of c20_1.eq_1
@[go_sem] def c20_2_wp := wp_of c20_2.eq_1
@[go_sem] def c20_3_wp := wp_of c20_3.eq_1
@[go_sem] def c20_4_wp := wp_of c20_4.eq_1
@[go_sem] def c20_5_wp := wp_of c20_5.eq_1
@[go_sem] def c20_6_wp := wp_of c20_6.eq_1
@[go_sem] def c20_7_wp := wp_of c20_7.eq_1
@[go_sem] def c20_8_wp := wp_of c20_8.eq_1
@[go_sem] def c20_9_wp := wp_of c20_9.eq_1
@[go_sem] def c20_10_wp := wp_of c20_10.eq_1
@[go_sem] def c20_11_wp := wp_of c20_11.eq_1
@[go_sem] def c20_12_wp := wp_of c20_12.eq_1
@[go_sem] def c20_13_wp := wp_of c20_13.eq_1
@[go_sem] def c20_14_wp := wp_of c20_14.eq_1
@[go_sem] def c20_15_wp := wp_of c20_15.eq_1
@[go_sem] def c20_16_wp := wp_of c20_16.eq_1
@[go_sem] def c20_17_wp := wp_of c20_17.eq_1
@[go_sem] def c20_18_wp := wp_of c20_18.eq_1
@[go_sem] def c20_19_wp := wp_of c20_19.eq_1
@[go_sem] def c20_20_wp := wp_of c20_20.eq_1
@[go_sem] def c20_21_wp := wp_of c20_21.eq_1
@[go_sem] def c20_22_wp := wp_of c20_22.eq_1
@[go_sem] def c20_23_wp := wp_of c20_23.eq_1
@[go_sem] def c20_24_wp := wp_of c20_24.eq_1
@[go_sem] def c20_25_wp := wp_of c20_25.eq_1
@[go_sem] def c20_26_wp := wp_of c20_26.eq_1
@[go_sem] def c20_27_wp := wp_of c20_27.eq_1
@[go_sem] def c20_28_wp := wp_of c20_28.eq_1
@[go_sem] def c20_29_wp := wp_of c20_29.eq_1
@[go_sem] def c20_30_wp := wp_of c20_30.eq_1
@[go_sem] def c20_31_wp := wp_of c20_31.eq_1
@[go_sem] def c20_32_wp := wp_of c20_32.eq_1
@[go_sem] def c20_33_wp := wp_of c20_33.eq_1
@[go_sem] def c20_34_wp := wp_of c20_34.eq_1
@[go_sem] def c20_35_wp := wp_of c20_35.eq_1
@[go_sem] def c20_36_wp := wp_of c20_36.eq_1
@[go_sem] def c20_37_wp := wp_of c20_37.eq_1
@[go_sem] def c20_38_wp := wp_of c20_38.eq_1
@[go_sem] def c20_39_wp := wp_of c20_39.eq_1
def c20 : AFn := ⟨52, [.t 2], c20_39⟩
theorem c20_ok : compF Tryz.prog Tryz.f20 = some c20 := by kernel_rfl
theorem a20 {args : List AV} {σ : ASt} {R : AV → ASt → Prop} (hl : args.length ≤ 52) (h : c20_39.wp Tryz.prog (RetQ [.t 2] R) (init args) σ) : ACalls Tryz.prog 20 args σ R := acalls_of Tryz.func20 c20_ok hl h
/-! 21: (*tabular/token.lexer).put -/
def c21_0 : ACode := .ops [
 ⟨some 8, none, .q (.mv (.t 0)), []⟩,
 ⟨some 9, none, .q (.mv (.t 0)), []⟩,
 ⟨some 10, none, .q (.nc (.t 9)), []⟩,
 ⟨some 11, none, .q (.fa 3 (.t 10)), []⟩,
 ⟨some 12, none, .q (.ld none (.t 11)), []⟩,
 ⟨some 13, none, .q (.mv (.t 1)), []⟩,
 ⟨some 14, none, .q (.mv (.t 2)), []⟩,
 ⟨some 15, none, .q (.mv (.t 0)), []⟩,
 ⟨some 16, none, .q (.nc (.t 15)), []⟩,
 ⟨some 17, none, .q (.fa 1 (.t 16)), []⟩,
 ⟨some 18, none, .q (.ld none (.t 17)), []⟩,
 ⟨some 19, none, .q (.mv (.t 0)), []⟩,
 ⟨some 20, none, .q (.nc (.t 19)), []⟩,
 ⟨some 21, none, .q (.fa 2 (.t 20)), []⟩,
 ⟨some 22, none, .q (.ld none (.t 21)), []⟩,
 ⟨some 23, none, .q (.build [(.int .i64 0), (.str []), (.int .i64 0), (.int .i64 0)] [(0, 1, (.t 13)), (1, 1, (.t 14)), (2, 1, (.t 18)), (3, 1, (.t 22))]), []⟩,
 ⟨some 24, none, .q (.bsl 4 [(.t 23)]), []⟩,
 ⟨some 25, none, .e (.app 47 4 40 [(.int .i64 0), (.str []), (.int .i64 0), (.int .i64 0)] (.t 12) (.t 24)), []⟩,
 ⟨some 26, none, .q (.nc (.t 8)), []⟩,
 ⟨some 27, none, .q (.fa 3 (.t 26)), []⟩,
 ⟨none, none, .e (.store 1 (.t 27) (.t 25)), []⟩]
def c21_1 : ACode := .ops [
 ⟨some 28, none, .q (.mv (.t 0)), []⟩,
 ⟨some 29, none, .q (.nc (.t 28)), []⟩,
 ⟨some 30, none, .q (.fa 2 (.t 29)), []⟩,
 ⟨some 31, none, .q (.ld none (.t 30)), []⟩,
 ⟨some 32, none, .q (.mv (.t 0)), []⟩,
 ⟨some 33, none, .q (.nc (.t 32)), []⟩,
 ⟨some 34, none, .q (.fa 0 (.t 33)), []⟩,
 ⟨some 35, none, .q (.ld none (.t 34)), []⟩,
 ⟨some 36, none, .q (.mv (.t 0)), []⟩,
 ⟨some 37, none, .q (.nc (.t 36)), []⟩,
 ⟨some 38, none, .q (.fa 1 (.t 37)), []⟩,
 ⟨some 39, none, .q (.ld none (.t 38)), []⟩,
 ⟨some 40, none, .q (.mv (.t 0)), []⟩,
 ⟨some 41, none, .q (.nc (.t 40)), []⟩,
 ⟨some 42, none, .q (.fa 1 (.t 41)), []⟩,
 ⟨some 43, none, .q (.ld none (.t 42)), []⟩,
 ⟨some 44, none, .q (.mv (.t 3)), []⟩,
 ⟨some 45, none, .q (.bin .add (.t 43) (.t 44)), []⟩,
 ⟨some 46, none, .q (.sls (true, 0) (.t 35) (.t 39) (.t 45)), []⟩,
 ⟨some 47, none, .e (.call 45 [(.t 46)]), [⟨none, .ld none (.t 30), 31⟩]⟩,
 ⟨some 48, none, .q (.bin .add (.t 31) (.t 47)), []⟩,
 ⟨some 49, none, .q (.nc (.t 28)), []⟩,
 ⟨some 50, none, .q (.fa 2 (.t 49)), []⟩,
 ⟨none, none, .e (.store 1 (.t 50) (.t 48)), []⟩]
def c21_2 : ACode := .ops [
 ⟨some 51, none, .q (.mv (.t 0)), []⟩,
 ⟨some 52, none, .q (.nc (.t 51)), []⟩,
 ⟨some 53, none, .q (.fa 1 (.t 52)), []⟩,
 ⟨some 54, none, .q (.ld none (.t 53)), []⟩,
 ⟨some 55, none, .q (.mv (.t 3)), []⟩,
 ⟨some 56, none, .q (.bin .add (.t 54) (.t 55)), []⟩,
 ⟨some 57, none, .q (.nc (.t 51)), []⟩,
 ⟨some 58, none, .q (.fa 1 (.t 57)), []⟩,
 ⟨none, none, .e (.store 1 (.t 58) (.t 56)), []⟩]
def c21_3 : ACode := .seq c21_1 c21_2
def c21_4 : ACode := .seq c21_0 c21_3
@[go_sem] def c21_0_wp := wp_of c21_0.eq_1
@[go_sem] def c21_1_wp := wp_of c21_1.eq_1
@[go_sem] def c21_2_wp := wp_of c21_2.eq_1
@[go_sem] def c21_3_wp := wp_of c21_3.eq_1
@[go_sem] def c21_4_wp := wp_of c21_4.eq_1
def c21 : AFn := ⟨59, [], c21_4⟩
theorem c21_ok : compF Tryz.prog Tryz.f21 = some c21 := by kernel_rfl
theorem a21 {args : List AV} {σ : ASt} {R : AV → ASt → Prop} (hl : args.length ≤ 59) (h : c21_4.wp Tryz.prog (RetQ [] R) (init args) σ) : ACalls Tryz.prog 21 args σ R := acalls_of Tryz.func21 c21_ok hl h
/-! 38: (*tabular/token.lexer).sign -/
def c38_0 : ACode := .ops [
 ⟨some 2, none, .q (.mv (.v (.int .i32 0))), []⟩,
 ⟨some 3, none, .q (.mv (.v (.int .i64 0))), []⟩]
def c38_1 : ACode := .ops [
 ⟨some 6, none, .q (.mv (.t 0)), []⟩,
 ⟨some 7, none, .q (.nc (.t 6)), []⟩,
 ⟨some 8, none, .q (.fa 1 (.t 7)), []⟩,
 ⟨some 9, none, .q (.ld none (.t 8)), []⟩,
 ⟨some 10, none, .q (.mv (.t 0)), []⟩,
 ⟨some 11, none, .q (.nc (.t 10)), []⟩,
 ⟨some 12, none, .q (.fa 0 (.t 11)), []⟩,
 ⟨some 13, none, .q (.ld none (.t 12)), []⟩,
 ⟨some 14, none, .q (.lenS (.t 13)), []⟩,
 ⟨some 15, none, .q (.bin .geq (.t 9) (.t 14)), []⟩]
def c38_2 : ACode := .ops [
 ⟨some 2, none, .q (.mv (.v (.int .i32 0))), []⟩,
 ⟨some 3, none, .q (.mv (.v (.int .i64 0))), []⟩]
def c38_3 : ACode := .seq c38_2 .ret
def c38_4 : ACode := .cond (.t 15) c38_3 .skip
def c38_5 : ACode := .seq c38_1 c38_4
def c38_6 : ACode := .ops [
 ⟨some 17, none, .q (.mv (.t 0)), []⟩,
 ⟨some 18, none, .q (.nc (.t 17)), []⟩,
 ⟨some 19, none, .q (.fa 0 (.t 18)), []⟩,
 ⟨some 20, none, .q (.ld none (.t 19)), []⟩,
 ⟨some 21, none, .q (.mv (.t 0)), []⟩,
 ⟨some 22, none, .q (.nc (.t 21)), []⟩,
 ⟨some 23, none, .q (.fa 1 (.t 22)), []⟩,
 ⟨some 24, none, .q (.ld none (.t 23)), []⟩,
 ⟨some 25, none, .q (.slfrom (true, 0) (.t 20) (.t 24)), []⟩,
 ⟨some 26, none, .e (.call 61 [(.t 25)]), []⟩,
 ⟨some 16, none, .q (.mv (.t 26)), []⟩,
 ⟨some 27, none, .q (.ext 0 (.t 16)), []⟩,
 ⟨some 28, none, .q (.ext 1 (.t 16)), []⟩,
 ⟨some 4, none, .q (.mv (.t 27)), []⟩,
 ⟨some 5, none, .q (.mv (.t 28)), []⟩]
def c38_7 : ACode := .ops [
 ⟨some 29, none, .q (.mv (.t 4)), []⟩,
 ⟨some 30, none, .q (.bin .eql (.t 29) (.v (.int .i32 65533))), []⟩,
 ⟨some 31, none, .q (.mv (.t 30)), []⟩,
 ⟨some 32, some (31, true), .q (.mv (.t 5)), []⟩,
 ⟨some 33, some (31, true), .q (.bin .eql (.t 32) (.v (.int .i64 1))), []⟩,
 ⟨some 34, none, .q (.pick (.t 31) (.t 33) (.v (.bool false))), []⟩]
def c38_8 : ACode := .ops [
 ⟨some 2, none, .q (.mv (.v (.int .i32 0))), []⟩,
 ⟨some 3, none, .q (.mv (.v (.int .i64 (-1)))), []⟩]
def c38_9 : ACode := .seq c38_8 .ret
def c38_10 : ACode := .cond (.t 34) c38_9 .skip
def c38_11 : ACode := .seq c38_7 c38_10
def c38_12 : ACode := .ops [
 ⟨some 35, none, .q (.mv (.t 4)), []⟩,
 ⟨some 36, none, .q (.mv (.t 5)), []⟩,
 ⟨some 2, none, .q (.mv (.t 35)), []⟩,
 ⟨some 3, none, .q (.mv (.t 36)), []⟩]
def c38_13 : ACode := .seq c38_12 .ret
def c38_14 : ACode := .seq c38_11 c38_13
def c38_15 : ACode := .seq c38_6 c38_14
def c38_16 : ACode := .seq c38_5 c38_15
def c38_17 : ACode := .seq c38_0 c38_16
@[go_sem] def c38_0_wp := wp_of c38_0.eq_1
@[go_sem] def c38_1_wp := wp_of c38_1.eq_1
@[go_sem] def c38_4_wp := wp_of c38_4.eq_1
@[go_sem] def c38_5_wp := wp_of c38_5.eq_1
@[go_sem] def c38_6_wp := wp_of c38_6.eq_1
@[go_sem] def c38_7_wp := wp_of c38_7.eq_1
@[go_sem] def c38_8_wp := wp_of c38_8.eq_1
@[go_sem] def c38_9_wp := wp_of c38_9.eq_1
@[go_sem] def c38_10_wp := wp_of c38_10.eq_1
@[go_sem] def c38_11_wp := wp_of c38_11.eq_1
@[go_sem] def c38_12_wp := wp_of c38_12.eq_1
@[go_sem] def c38_13_wp := wp_of c38_13.eq_1
@[go_sem] def c38_14_wp := wp_of c38_14.eq_1
@[go_sem] def c38_15_wp := wp_of c38_15.eq_1
@[go_sem] def c38_16_wp := wp_of c38_16.eq_1
@[go_sem] def c38_17_wp := wp_of c38_17.eq_1
def c38 : AFn := ⟨37, [.t 2, .t 3], c38_17⟩
theorem c38_ok : compF Tryz.prog Tryz.f38 = some c38 := by kernel_rfl
theorem a38 {args : List AV} {σ : ASt} {R : AV → ASt → Prop} (hl : args.length ≤ 37) (h : c38_17.wp Tryz.prog (RetQ [.t 2, .t 3] R) (init args) σ) : ACalls Tryz.prog 38 args σ R := acalls_of Tryz.func38 c38_ok hl h
/-! 39: (*tabular/token.lexer).pass -/
def c39_0 : ACode := .ops [
 ⟨some 4, none, .q (.mv (.t 0)), []⟩,
 ⟨some 5, none, .q (.nc (.t 4)), []⟩,
 ⟨some 6, none, .q (.fa 2 (.t 5)), []⟩,
 ⟨some 7, none, .q (.ld none (.t 6)), []⟩,
 ⟨some 8, none, .q (.mv (.t 0)), []⟩,
 ⟨some 9, none, .q (.nc (.t 8)), []⟩,
 ⟨some 10, none, .q (.fa 0 (.t 9)), []⟩,
 ⟨some 11, none, .q (.ld none (.t 10)), []⟩,
 ⟨some 12, none, .q (.mv (.t 0)), []⟩,
 ⟨some 13, none, .q (.nc (.t 12)), []⟩,
 ⟨some 14, none, .q (.fa 1 (.t 13)), []⟩,
 ⟨some 15, none, .q (.ld none (.t 14)), []⟩,
 ⟨some 16, none, .q (.mv (.t 1)), []⟩,
 ⟨some 17, none, .q (.sls (true, 0) (.t 11) (.t 15) (.t 16)), []⟩,
 ⟨some 18, none, .e (.call 45 [(.t 17)]), [⟨none, .ld none (.t 6), 7⟩]⟩,
 ⟨some 19, none, .q (.bin .add (.t 7) (.t 18)), []⟩,
 ⟨some 20, none, .q (.nc (.t 4)), []⟩,
 ⟨some 21, none, .q (.fa 2 (.t 20)), []⟩,
 ⟨none, none, .e (.store 1 (.t 21) (.t 19)), []⟩]
def c39_1 : ACode := .ops [
 ⟨some 22, none, .q (.mv (.t 0)), []⟩,
 ⟨some 23, none, .q (.mv (.t 1)), []⟩,
 ⟨some 24, none, .q (.nc (.t 22)), []⟩,
 ⟨some 25, none, .q (.fa 1 (.t 24)), []⟩,
 ⟨none, none, .e (.store 1 (.t 25) (.t 23)), []⟩]
def c39_2 : ACode := .seq c39_0 c39_1
@[go_sem] def c39_0_wp := wp_of c39_0.eq_1
@[go_sem] def c39_1_wp := wp_of c39_1.eq_1
@[go_sem] def c39_2_wp := wp_of c39_2.eq_1
def c39 : AFn := ⟨26, [], c39_2⟩
theorem c39_ok : compF Tryz.prog Tryz.f39 = some c39 := by kernel_rfl
theorem a39 {args : List AV} {σ : ASt} {R : AV → ASt → Prop} (hl : args.length ≤ 26) (h : c39_2.wp Tryz.prog (RetQ [] R) (init args) σ) : ACalls Tryz.prog 39 args σ R := acalls_of Tryz.func39 c39_ok hl h
/-! 41: (*tabular/token.lexer).words -/
def c41_0 : ACode := .ops [
 ⟨some 2, none, .q (.mv (.v (.int .i64 0))), []⟩]
def c41_1 : ACode := .ops [
 ⟨some 3, none, .q (.mv (.v (.int .i64 0))), []⟩]
def c41_2 : ACode := .ops [
 ⟨some 5, none, .q (.mv (.t 0)), []⟩,
 ⟨some 6, none, .q (.nc (.t 5)), []⟩,
 ⟨some 7, none, .q (.fa 1 (.t 6)), []⟩,
 ⟨some 8, none, .q (.ld none (.t 7)), []⟩,
 ⟨some 9, none, .q (.mv (.t 3)), []⟩,
 ⟨some 10, none, .q (.bin .add (.t 8) (.t 9)), []⟩,
 ⟨some 11, none, .q (.mv (.t 0)), []⟩,
 ⟨some 12, none, .q (.nc (.t 11)), []⟩,
 ⟨some 13, none, .q (.fa 0 (.t 12)), []⟩,
 ⟨some 14, none, .q (.ld none (.t 13)), []⟩,
 ⟨some 15, none, .q (.lenS (.t 14)), []⟩,
 ⟨some 16, none, .q (.bin .lss (.t 10) (.t 15)), []⟩,
 ⟨some 17, none, .q (.mv (.t 16)), []⟩,
 ⟨some 18, some (17, true), .q (.mv (.t 0)), []⟩,
 ⟨some 19, some (17, true), .q (.nc (.t 18)), []⟩,
 ⟨some 20, some (17, true), .q (.fa 0 (.t 19)), []⟩,
 ⟨some 21, some (17, true), .q (.ld none (.t 20)), []⟩,
 ⟨some 22, some (17, true), .q (.mv (.t 0)), []⟩,
 ⟨some 23, some (17, true), .q (.nc (.t 22)), []⟩,
 ⟨some 24, some (17, true), .q (.fa 1 (.t 23)), []⟩,
 ⟨some 25, some (17, true), .q (.ld none (.t 24)), []⟩,
 ⟨some 26, some (17, true), .q (.mv (.t 3)), []⟩,
 ⟨some 27, some (17, true), .q (.bin .add (.t 25) (.t 26)), []⟩,
 ⟨some 28, some (17, true), .q (.idx (.t 21) (.t 27)), []⟩,
 ⟨some 29, some (17, true), .e (.call 40 [(.t 28)]), []⟩,
 ⟨some 30, none, .q (.pick (.t 17) (.t 29) (.v (.bool false))), []⟩]
def c41_3 : ACode := .cond (.t 30) .skip (.exit 0)
def c41_4 : ACode := .seq c41_2 c41_3
def c41_5 : ACode := .ops [
 ⟨some 31, none, .q (.mv (.t 3)), []⟩,
 ⟨some 32, none, .q (.bin .add (.t 31) (.v (.int .i64 1))), []⟩,
 ⟨some 3, none, .q (.mv (.t 32)), []⟩]
def c41_6 : ACode := .block 1 c41_5
def c41_7 : ACode := .seq c41_4 c41_6
def c41_8 : ACode := .loop c41_7
def c41_9 : ACode := .block 0 c41_8
def c41_10 : ACode := .ops [
 ⟨some 33, none, .q (.mv (.t 0)), []⟩,
 ⟨some 34, none, .q (.nc (.t 33)), []⟩,
 ⟨some 35, none, .q (.fa 0 (.t 34)), []⟩,
 ⟨some 36, none, .q (.ld none (.t 35)), []⟩,
 ⟨some 37, none, .q (.mv (.t 0)), []⟩,
 ⟨some 38, none, .q (.nc (.t 37)), []⟩,
 ⟨some 39, none, .q (.fa 1 (.t 38)), []⟩,
 ⟨some 40, none, .q (.ld none (.t 39)), []⟩,
 ⟨some 41, none, .q (.mv (.t 0)), []⟩,
 ⟨some 42, none, .q (.nc (.t 41)), []⟩,
 ⟨some 43, none, .q (.fa 1 (.t 42)), []⟩,
 ⟨some 44, none, .q (.ld none (.t 43)), []⟩,
 ⟨some 45, none, .q (.mv (.t 3)), []⟩,
 ⟨some 46, none, .q (.bin .add (.t 44) (.t 45)), []⟩,
 ⟨some 47, none, .q (.sls (true, 0) (.t 36) (.t 40) (.t 46)), []⟩,
 ⟨some 4, none, .q (.mv (.t 47)), []⟩]
def c41_11 : ACode := .ops [
 ⟨some 49, none, .q (.mv (.t 4)), []⟩,
 ⟨some 50, none, .e (.call 62 [(.t 49)]), []⟩,
 ⟨some 48, none, .q (.mv (.t 50)), []⟩]
def c41_12 : ACode := .ops [
 ⟨some 51, none, .q (.mv (.t 0)), []⟩,
 ⟨some 52, none, .q (.mv (.t 4)), []⟩,
 ⟨some 53, none, .q (.mv (.t 3)), []⟩,
 ⟨some 54, none, .e (.call 21 [(.t 51), (.v (.int .i64 1)), (.t 52), (.t 53)]), []⟩]
def c41_13 : ACode := .ops [
 ⟨some 56, none, .q (.mv (.t 4)), []⟩,
 ⟨some 57, none, .e (.call 63 [(.t 56)]), []⟩,
 ⟨some 55, none, .q (.mv (.t 57)), []⟩]
def c41_14 : ACode := .ops [
 ⟨some 58, none, .q (.mv (.t 0)), []⟩,
 ⟨some 59, none, .q (.mv (.t 4)), []⟩,
 ⟨some 60, none, .e (.call 64 [(.t 59)]), []⟩,
 ⟨some 61, none, .q (.mv (.t 3)), []⟩,
 ⟨some 62, none, .e (.call 21 [(.t 58), (.v (.int .i64 4)), (.t 60), (.t 61)]), []⟩]
def c41_15 : ACode := .ops [
 ⟨some 64, none, .q (.mv (.t 4)), []⟩,
 ⟨some 65, none, .e (.call 65 [(.t 64)]), []⟩,
 ⟨some 63, none, .q (.mv (.t 65)), []⟩]
def c41_16 : ACode := .ops [
 ⟨some 66, none, .q (.mv (.t 0)), []⟩,
 ⟨some 67, none, .q (.mv (.t 4)), []⟩,
 ⟨some 68, none, .e (.call 64 [(.t 67)]), []⟩,
 ⟨some 69, none, .q (.mv (.t 3)), []⟩,
 ⟨some 70, none, .e (.call 21 [(.t 66), (.v (.int .i64 3)), (.t 68), (.t 69)]), []⟩]
def c41_17 : ACode := .ops [
 ⟨some 2, none, .q (.mv (.v (.int .i64 10))), []⟩]
def c41_18 : ACode := .seq c41_17 .ret
def c41_19 : ACode := .cond (.t 63) c41_16 c41_18
def c41_20 : ACode := .seq c41_15 c41_19
def c41_21 : ACode := .cond (.t 55) c41_14 c41_20
def c41_22 : ACode := .seq c41_13 c41_21
def c41_23 : ACode := .cond (.t 48) c41_12 c41_22
def c41_24 : ACode := .seq c41_11 c41_23
def c41_25 : ACode := .block 2 c41_24
def c41_26 : ACode := .ops [
 ⟨some 2, none, .q (.mv (.v (.int .i64 0))), []⟩]
def c41_27 : ACode := .seq c41_26 .ret
def c41_28 : ACode := .seq c41_25 c41_27
def c41_29 : ACode := .seq c41_10 c41_28
def c41_30 : ACode := .seq c41_9 c41_29
def c41_31 : ACode := .seq c41_1 c41_30
def c41_32 : ACode := .seq c41_0 c41_31
@[go_sem] def c41_0_wp := wp_of c41_0.eq_1
@[go_sem] def c41_1_wp := wp_of c41_1.eq_1
@[go_sem] def c41_2_wp := wp_of c41_2.eq_1
@[go_sem] def c41_3_wp := wp_of c41_3.eq_1
@[go_sem] def c41_4_wp := wp_of c41_4.eq_1
@[go_sem] def c41_5_wp := wp_of c41_5.eq_1
@[go_sem] def c41_6_wp := wp_of c41_6.eq_1
@[go_sem] def c41_7_wp := wp_of c41_7.eq_1
@[go_sem] def c41_8_wp := wp_of c41_8.eq_1
@[go_sem] def c41_9_wp := wp_of c41_9.eq_1
@[go_sem] def c41_10_wp := wp_of c41_10.eq_1
@[go_sem] def c41_11_wp := wp_of c41_11.eq_1
@[go_sem] def c41_12_wp := wp_of c41_12.eq_1
@[go_sem] def c41_13_wp := wp_of c41_13.eq_1
@[go_sem] def c41_14_wp := wp_of c41_14.eq_1
@[go_sem] def c41_15_wp := wp_of c41_15.eq_1
@[go_sem] def c41_16_wp := wp_of c41_16.eq_1
@[go_sem] def c41_17_wp := wp_of c41_17.eq_1
@[go_sem] def c41_18_wp := wp_of c41_18.eq_1
@[go_sem] def c41_19_wp := wp_of c41_19.eq_1
@[go_sem] def c41_20_wp := wp_of c41_20.eq_1
@[go_sem] def c41_21_wp := wp_of c41_21.eq_1
@[go_sem] def c41_22_wp := wp_of c41_22.eq_1
@[go_sem] def c41_23_wp := wp_of c41_23.eq_1
@[go_sem] def c41_24_wp := wp_of c41_24.eq_1
@[go_sem] def c41_25_wp := wp_of c41_25.eq_1
@[go_sem] def c41_26_wp := wp_of c41_26.eq_1
@[go_sem] def c41_27_wp := wp_of c41_27.eq_1
@[go_sem] def c41_28_wp := wp_of c41_28.eq_1
@[go_sem] def c41_29_wp := wp_of c41_29.eq_1
@[go_sem] def c41_30_wp := wp_of c41_30.eq_1
@[go_sem] def c41_31_wp := wp_of c41_31.eq_1
@[go_sem] def c41_32_wp := wp_of c41_32.eq_1
def c41 : AFn := ⟨71, [.t 2], c41_32⟩
theorem c41_ok : compF Tryz.prog Tryz.f41 = some c41 := by kernel_rfl
theorem a41 {args : List AV} {σ : ASt} {R : AV → ASt → Prop} (hl : args.length ≤ 71) (h : c41_32.wp Tryz.prog (RetQ [.t 2] R) (init args) σ) : ACalls Tryz.prog 41 args σ R := acalls_of Tryz.func41 c41_ok hl h
/-! 42: (*tabular/token.lexer).quoted -/
def c42_0 : ACode := .ops [
 ⟨some 2, none, .q (.mv (.v (.int .i64 0))), []⟩]
def c42_1 : ACode := .ops [
 ⟨some 3, none, .e (.allocT 55), []⟩]
def c42_2 : ACode := .ops [
 ⟨some 4, none, .q (.mv (.v (.bool true))), []⟩]
def c42_3 : ACode := .ops [
 ⟨some 5, none, .q (.mv (.v (.int .i64 1))), []⟩]
def c42_4 : ACode := .ops [
 ⟨some 11, none, .q (.mv (.t 0)), []⟩,
 ⟨some 12, none, .q (.nc (.t 11)), []⟩,
 ⟨some 13, none, .q (.fa 0 (.t 12)), []⟩,
 ⟨some 14, none, .q (.ld none (.t 13)), []⟩,
 ⟨some 15, none, .q (.mv (.t 0)), []⟩,
 ⟨some 16, none, .q (.nc (.t 15)), []⟩,
 ⟨some 17, none, .q (.fa 1 (.t 16)), []⟩,
 ⟨some 18, none, .q (.ld none (.t 17)), []⟩,
 ⟨some 19, none, .q (.bin .add (.t 18) (.v (.int .i64 1))), []⟩,
 ⟨some 20, none, .q (.slfrom (true, 0) (.t 14) (.t 19)), []⟩,
 ⟨some 21, none, .e (.rng (.t 20)), []⟩]
def c42_5 : ACode := .ops [
 ⟨some 22, none, .e (.nxt (.t 21)), []⟩,
 ⟨some 23, none, .q (.ext 0 (.t 22)), []⟩]
def c42_6 : ACode := .cond (.t 23) .skip (.exit 0)
def c42_7 : ACode := .ops [
 ⟨some 24, none, .q (.ext 1 (.t 22)), []⟩,
 ⟨some 25, none, .q (.ext 2 (.t 22)), []⟩,
 ⟨some 6, none, .q (.mv (.t 24)), []⟩,
 ⟨some 7, none, .q (.mv (.t 25)), []⟩]
def c42_8 : ACode := .ops [
 ⟨some 26, none, .q (.mv (.t 6)), []⟩,
 ⟨some 27, none, .q (.bin .add (.t 26) (.v (.int .i64 1))), []⟩,
 ⟨some 28, none, .q (.mv (.t 5)), []⟩,
 ⟨some 29, none, .q (.bin .lss (.t 27) (.t 28)), []⟩]
def c42_9 : ACode := .cond (.t 29) (.exit 1) .skip
def c42_10 : ACode := .seq c42_8 c42_9
def c42_11 : ACode := .ops [
 ⟨some 30, none, .q (.mv (.t 0)), []⟩,
 ⟨some 31, none, .q (.nc (.t 30)), []⟩,
 ⟨some 32, none, .q (.fa 1 (.t 31)), []⟩,
 ⟨some 33, none, .q (.ld none (.t 32)), []⟩,
 ⟨some 34, none, .q (.bin .add (.t 33) (.v (.int .i64 1))), []⟩,
 ⟨some 35, none, .q (.mv (.t 6)), []⟩,
 ⟨some 36, none, .q (.bin .add (.t 34) (.t 35)), []⟩,
 ⟨some 8, none, .q (.mv (.t 36)), []⟩]
def c42_12 : ACode := .ops [
 ⟨some 37, none, .q (.mv (.t 7)), []⟩,
 ⟨some 38, none, .q (.bin .eql (.t 37) (.v (.int .i32 65533))), []⟩]
def c42_13 : ACode := .ops [
 ⟨some 40, none, .q (.mv (.t 0)), []⟩,
 ⟨some 41, none, .q (.nc (.t 40)), []⟩,
 ⟨some 42, none, .q (.fa 0 (.t 41)), []⟩,
 ⟨some 43, none, .q (.ld none (.t 42)), []⟩,
 ⟨some 44, none, .q (.mv (.t 8)), []⟩,
 ⟨some 45, none, .q (.slfrom (true, 0) (.t 43) (.t 44)), []⟩,
 ⟨some 46, none, .e (.call 61 [(.t 45)]), []⟩,
 ⟨some 39, none, .q (.mv (.t 46)), []⟩,
 ⟨some 47, none, .q (.ext 0 (.t 39)), []⟩,
 ⟨some 48, none, .q (.ext 1 (.t 39)), []⟩,
 ⟨some 9, none, .q (.mv (.t 47)), []⟩,
 ⟨some 10, none, .q (.mv (.t 48)), []⟩]
def c42_14 : ACode := .ops [
 ⟨some 49, none, .q (.mv (.t 10)), []⟩,
 ⟨some 50, none, .q (.bin .eql (.t 49) (.v (.int .i64 1))), []⟩]
def c42_15 : ACode := .ops [
 ⟨some 51, none, .q (.mv (.t 0)), []⟩,
 ⟨some 52, none, .q (.mv (.t 8)), []⟩,
 ⟨some 53, none, .e (.call 39 [(.t 51), (.t 52)]), []⟩]
def c42_16 : ACode := .ops [
 ⟨some 2, none, .q (.mv (.v (.int .i64 10))), []⟩]
def c42_17 : ACode := .seq c42_16 .ret
def c42_18 : ACode := .seq c42_15 c42_17
def c42_19 : ACode := .cond (.t 50) c42_18 .skip
def c42_20 : ACode := .seq c42_14 c42_19
def c42_21 : ACode := .seq c42_13 c42_20
def c42_22 : ACode := .cond (.t 38) c42_21 .skip
def c42_23 : ACode := .seq c42_12 c42_22
def c42_24 : ACode := .ops [
 ⟨some 54, none, .q (.mv (.t 7)), []⟩,
 ⟨some 55, none, .q (.bin .neq (.t 54) (.v (.int .i32 34))), []⟩]
def c42_25 : ACode := .ops [
 ⟨some 56, none, .q (.mv (.t 7)), []⟩,
 ⟨some 57, none, .e (.call 66 [(.t 3), (.t 56)]), []⟩]
def c42_26 : ACode := .ops [
 ⟨some 58, none, .q (.mv (.t 6)), []⟩,
 ⟨some 59, none, .q (.bin .add (.t 58) (.v (.int .i64 1))), []⟩,
 ⟨some 60, none, .q (.mv (.t 7)), []⟩,
 ⟨some 61, none, .e (.call 67 [(.t 60)]), []⟩,
 ⟨some 62, none, .q (.bin .add (.t 59) (.t 61)), []⟩,
 ⟨some 5, none, .q (.mv (.t 62)), []⟩]
def c42_27 : ACode := .seq c42_26 (.exit 1)
def c42_28 : ACode := .seq c42_25 c42_27
def c42_29 : ACode := .cond (.t 55) c42_28 .skip
def c42_30 : ACode := .seq c42_24 c42_29
def c42_31 : ACode := .ops [
 ⟨some 63, none, .q (.mv (.t 8)), []⟩,
 ⟨some 64, none, .q (.bin .add (.t 63) (.v (.int .i64 1))), []⟩,
 ⟨some 65, none, .q (.mv (.t 0)), []⟩,
 ⟨some 66, none, .q (.nc (.t 65)), []⟩,
 ⟨some 67, none, .q (.fa 0 (.t 66)), []⟩,
 ⟨some 68, none, .q (.ld none (.t 67)), []⟩,
 ⟨some 69, none, .q (.lenS (.t 68)), []⟩,
 ⟨some 70, none, .q (.bin .lss (.t 64) (.t 69)), []⟩,
 ⟨some 71, none, .q (.mv (.t 70)), []⟩,
 ⟨some 72, some (71, true), .q (.mv (.t 0)), []⟩,
 ⟨some 73, some (71, true), .q (.nc (.t 72)), []⟩,
 ⟨some 74, some (71, true), .q (.fa 0 (.t 73)), []⟩,
 ⟨some 75, some (71, true), .q (.ld none (.t 74)), []⟩,
 ⟨some 76, some (71, true), .q (.mv (.t 8)), []⟩,
 ⟨some 77, some (71, true), .q (.bin .add (.t 76) (.v (.int .i64 1))), []⟩,
 ⟨some 78, some (71, true), .q (.idx (.t 75) (.t 77)), []⟩,
 ⟨some 79, some (71, true), .q (.bin .eql (.t 78) (.v (.int .u8 34))), []⟩,
 ⟨some 80, none, .q (.pick (.t 71) (.t 79) (.v (.bool false))), []⟩]
def c42_32 : ACode := .ops [
 ⟨some 81, none, .e (.call 33 [(.t 3), (.v (.int .u8 34))]), []⟩]
def c42_33 : ACode := .ops [
 ⟨some 82, none, .q (.mv (.t 6)), []⟩,
 ⟨some 83, none, .q (.bin .add (.t 82) (.v (.int .i64 3))), []⟩,
 ⟨some 5, none, .q (.mv (.t 83)), []⟩]
def c42_34 : ACode := .seq c42_33 (.exit 1)
def c42_35 : ACode := .seq c42_32 c42_34
def c42_36 : ACode := .cond (.t 80) c42_35 .skip
def c42_37 : ACode := .seq c42_31 c42_36
def c42_38 : ACode := .ops [
 ⟨some 84, none, .q (.mv (.t 6)), []⟩,
 ⟨some 85, none, .q (.bin .add (.t 84) (.v (.int .i64 2))), []⟩,
 ⟨some 5, none, .q (.mv (.t 85)), []⟩]
def c42_39 : ACode := .ops [
 ⟨some 4, none, .q (.mv (.v (.bool false))), []⟩]
def c42_40 : ACode := .seq c42_39 (.exit 0)
def c42_41 : ACode := .seq c42_38 c42_40
def c42_42 : ACode := .seq c42_37 c42_41
def c42_43 : ACode := .seq c42_30 c42_42
def c42_44 : ACode := .seq c42_23 c42_43
def c42_45 : ACode := .seq c42_11 c42_44
def c42_46 : ACode := .seq c42_10 c42_45
def c42_47 : ACode := .seq c42_7 c42_46
def c42_48 : ACode := .block 1 c42_47
def c42_49 : ACode := .seq c42_6 c42_48
def c42_50 : ACode := .seq c42_5 c42_49
def c42_51 : ACode := .loop c42_50
def c42_52 : ACode := .block 0 c42_51
def c42_53 : ACode := .seq c42_4 c42_52
def c42_54 : ACode := .ops [
 ⟨some 86, none, .q (.mv (.t 4)), []⟩]
def c42_55 : ACode := .ops [
 ⟨some 2, none, .q (.mv (.v (.int .i64 10))), []⟩]
def c42_56 : ACode := .seq c42_55 .ret
def c42_57 : ACode := .cond (.t 86) c42_56 .skip
def c42_58 : ACode := .seq c42_54 c42_57
def c42_59 : ACode := .ops [
 ⟨some 87, none, .q (.mv (.t 0)), []⟩,
 ⟨some 88, none, .e (.call 17 [(.t 3)]), []⟩,
 ⟨some 89, none, .q (.mv (.t 5)), []⟩,
 ⟨some 90, none, .e (.call 21 [(.t 87), (.v (.int .i64 2)), (.t 88), (.t 89)]), []⟩]
def c42_60 : ACode := .ops [
 ⟨some 2, none, .q (.mv (.v (.int .i64 0))), []⟩]
def c42_61 : ACode := .seq c42_60 .ret
def c42_62 : ACode := .seq c42_59 c42_61
def c42_63 : ACode := .seq c42_58 c42_62
def c42_64 : ACode := .seq c42_53 c42_63
def c42_65 : ACode := .seq c42_3 c42_64
def c42_66 : ACode := .seq c42_2 c42_65
def c42_67 : ACode := .seq c42_1 c42_66
def c42_68 : ACode := .seq c42_0 c42_67
@[go_sem] def c42_0_wp := wp_of c42_0.eq_1
@[go_sem] def c42_1_wp := wp_of c42_1.eq_1
@[go_sem] def c42_2_wp := wp_of c42_2.eq_1
@[go_sem] def c42_3_wp := wp_of c42_3.eq_1
@[go_sem] def c42_4_wp := wp_of c42_4.eq_1
@[go_sem] def c42_5_wp := wp_of c42_5.eq_1
@[go_sem] def c42_6_wp := wp_of c42_6.eq_1
@[go_sem] def c42_7_wp := wp_of c42_7.eq_1
@[go_sem] def c42_8_wp := wp_of c42_8.eq_1
@[go_sem] def c42_9_wp := wp_of c42_9.eq_1
@[go_sem] def c42_10_wp := wp_of c42_10.eq_1
@[go_sem] def c42_11_wp := wp_of c42_11.eq_1
@[go_sem] def c42_12_wp := wp_of c42_12.eq_1
@[go_sem] def c42_13_wp := wp_of c42_13.eq_1
@[go_sem] def c42_14_wp := wp_of c42_14.eq_1
@[go_sem] def c42_15_wp := wp_of c42_15.eq_1
@[go_sem] def c42_16_wp := wp_of c42_16.eq_1
@[go_sem] def c42_17_wp := wp_of c42_17.eq_1
@[go_sem] def c42_18_wp := wp_of c42_18.eq_1
@[go_sem] def c42_19_wp := wp_of c42_19.eq_1
@[go_sem] def c42_20_wp := wp_of c42_20.eq_1
@[go_sem] def c42_21_wp := wp_of c42_21.eq_1
@[go_sem] def c42_22_wp := wp_of c42_22.eq_1
@[go_sem] def c42_23_wp := wp_of c42_23.eq_1
@[go_sem] def c42_24_wp := wp_of c42_24.eq_1
@[go_sem] def c42_25_wp := wp_of c42_25.eq_1
@[go_sem] def c42_26_wp := wp_of c42_26.eq_1
@[go_sem] def c42_27_wp := wp_of c42_27.eq_1
@[go_sem] def c42_28_wp := wp_of c42_28.eq_1
@[go_sem] def c42_29_wp := wp_of c42_29.eq_1
@[go_sem] def c42_30_wp := wp_of c42_30.eq_1
@[go_sem] def c42_31_wp := wp_of c42_31.eq_1
@[go_sem] def c42_32_wp := wp_of c42_32.eq_1
@[go_sem] def c42_33_wp := wp_of c42_33.eq_1
@[go_sem] def c42_34_wp := wp_of c42_34.eq_1
@[go_sem] def c42_35_wp := wp_of c42_35.eq_1
@[go_sem] def c42_36_wp := wp_of c42_36.eq_1
@[go_sem] def c42_37_wp := wp_of c42_37.eq_1
@[go_sem] def c42_38_wp := wp_of c42_38.eq_1
@[go_sem] def c42_39_wp := wp_of c42_39.eq_1
@[go_sem] def c42_40_wp := wp_of c42_40.eq_1
@[go_sem] def c42_41_wp := wp_of c42_41.eq_1
@[go_sem] def c42_42_wp := wp_of c42_42.eq_1
@[go_sem] def c42_43_wp := wp_of c42_43.eq_1
@[go_sem] def c42_44_wp := wp_of c42_44.eq_1
@[go_sem] def c42_45_wp := wp_of c42_45.eq_1
@[go_sem] def c42_46_wp := wp_of c42_46.eq_1
@[go_sem] def c42_47_wp := wp_of c42_47.eq_1
@[go_sem] def c42_48_wp := wp_of c42_48.eq_1
@[go_sem] def c42_49_wp := wp_of c42_49.eq_1
@[go_sem] def c42_50_wp := wp_of c42_50.eq_1
@[go_sem] def c42_51_wp := wp_of c42_51.eq_1
@[go_sem] def c42_52_wp := wp_of c42_52.eq_1
@[go_sem] def c42_53_wp := wp_of c42_53.eq_1
@[go_sem] def c42_54_wp := wp_of c42_54.eq_1
@[go_sem] def c42_55_wp := wp_of c42_55.eq_1
@[go_sem] def c42_56_wp := wp_of c42_56.eq_1
@[go_sem] def c42_57_wp := wp_of c42_57.eq_1
@[go_sem] def c42_58_wp := wp_of c42_58.eq_1
@[go_sem] def c42_59_wp := wp_of c42_59.eq_1
@[go_sem] def c42_60_wp := wp_of c42_60.eq_1
@[go_sem] def c42_61_wp := wp_of c42_61.eq_1
@[go_sem] def c42_62_wp := wp_of c42_62.eq_1
@[go_sem] def c42_63_wp := wp_of c42_63.eq_1
@[go_sem] def c42_64_wp := wp_of c42_64.eq_1
@[go_sem] def c42_65_wp := wp_of c42_65.eq_1
@[go_sem] def c42_66_wp := wp_of c42_66.eq_1
@[go_sem] def c42_67_wp := wp_of c42_67.eq_1
@[go_sem] def c42_68_wp := wp_of c42_68.eq_1
def c42 : AFn := ⟨91, [.t 2], c42_68⟩
theorem c42_ok : compF Tryz.prog Tryz.f42 = some c42 := by kernel_rfl
theorem a42 {args : List AV} {σ : ASt} {R : AV → ASt → Prop} (hl : args.length ≤ 91) (h : c42_68.wp Tryz.prog (RetQ [.t 2] R) (init args) σ) : ACalls Tryz.prog 42 args σ R := acalls_of Tryz.func42 c42_ok hl h
/-! 43: (*tabular/token.lexer).failure -/
def c43_0 : ACode := .ops [
 ⟨some 2, none, .q (.mv (.v (.int .i64 0))), []⟩]
def c43_1 : ACode := .ops [
 ⟨some 6, none, .e (.call 56 []), []⟩,
 ⟨some 7, none, .q (.len (.t 6)), []⟩,
 ⟨some 8, none, .q (.mv (.v (.int .i64 0))), []⟩]
def c43_2 : ACode := .ops [
 ⟨some 9, none, .q (.bin .lss (.t 8) (.t 7)), []⟩]
def c43_3 : ACode := .cond (.t 9) .skip (.exit 0)
def c43_4 : ACode := .ops [
 ⟨some 10, none, .q (.ia 1 (.t 6) (.t 8)), []⟩,
 ⟨some 11, none, .q (.ld none (.t 10)), []⟩,
 ⟨some 4, none, .q (.mv (.t 11)), []⟩]
def c43_5 : ACode := .ops [
 ⟨some 12, none, .q (.mv (.t 4)), []⟩,
 ⟨some 13, none, .q (.lenS (.t 12)), []⟩,
 ⟨some 5, none, .q (.mv (.t 13)), []⟩]
def c43_6 : ACode := .ops [
 ⟨some 14, none, .q (.mv (.t 0)), []⟩,
 ⟨some 15, none, .q (.nc (.t 14)), []⟩,
 ⟨some 16, none, .q (.fa 1 (.t 15)), []⟩,
 ⟨some 17, none, .q (.ld none (.t 16)), []⟩,
 ⟨some 18, none, .q (.mv (.t 5)), []⟩,
 ⟨some 19, none, .q (.bin .add (.t 17) (.t 18)), []⟩,
 ⟨some 20, none, .q (.mv (.t 0)), []⟩,
 ⟨some 21, none, .q (.nc (.t 20)), []⟩,
 ⟨some 22, none, .q (.fa 0 (.t 21)), []⟩,
 ⟨some 23, none, .q (.ld none (.t 22)), []⟩,
 ⟨some 24, none, .q (.lenS (.t 23)), []⟩,
 ⟨some 25, none, .q (.bin .leq (.t 19) (.t 24)), []⟩,
 ⟨some 26, none, .q (.mv (.t 25)), []⟩,
 ⟨some 27, some (26, true), .q (.mv (.t 0)), []⟩,
 ⟨some 28, some (26, true), .q (.nc (.t 27)), []⟩,
 ⟨some 29, some (26, true), .q (.fa 0 (.t 28)), []⟩,
 ⟨some 30, some (26, true), .q (.ld none (.t 29)), []⟩,
 ⟨some 31, some (26, true), .q (.mv (.t 0)), []⟩,
 ⟨some 32, some (26, true), .q (.nc (.t 31)), []⟩,
 ⟨some 33, some (26, true), .q (.fa 1 (.t 32)), []⟩,
 ⟨some 34, some (26, true), .q (.ld none (.t 33)), []⟩,
 ⟨some 35, some (26, true), .q (.mv (.t 0)), []⟩,
 ⟨some 36, some (26, true), .q (.nc (.t 35)), []⟩,
 ⟨some 37, some (26, true), .q (.fa 1 (.t 36)), []⟩,
 ⟨some 38, some (26, true), .q (.ld none (.t 37)), []⟩,
 ⟨some 39, some (26, true), .q (.mv (.t 5)), []⟩,
 ⟨some 40, some (26, true), .q (.bin .add (.t 38) (.t 39)), []⟩,
 ⟨some 41, some (26, true), .q (.sls (true, 0) (.t 30) (.t 34) (.t 40)), []⟩,
 ⟨some 43, some (26, true), .q (.mv (.t 4)), []⟩,
 ⟨some 42, some (26, true), .e (.call 64 [(.t 41)]), []⟩,
 ⟨some 44, some (26, true), .q (.bin .eql (.t 42) (.t 43)), []⟩,
 ⟨some 45, none, .q (.pick (.t 26) (.t 44) (.v (.bool false))), []⟩]
def c43_7 : ACode := .ops [
 ⟨some 46, none, .q (.mv (.t 0)), []⟩,
 ⟨some 47, none, .q (.mv (.t 4)), []⟩,
 ⟨some 48, none, .q (.mv (.t 5)), []⟩,
 ⟨some 49, none, .e (.call 21 [(.t 46), (.v (.int .i64 5)), (.t 47), (.t 48)]), []⟩]
def c43_8 : ACode := .ops [
 ⟨some 2, none, .q (.mv (.v (.int .i64 0))), []⟩]
def c43_9 : ACode := .seq c43_8 .ret
def c43_10 : ACode := .seq c43_7 c43_9
def c43_11 : ACode := .cond (.t 45) c43_10 .skip
def c43_12 : ACode := .seq c43_6 c43_11
def c43_13 : ACode := .seq c43_5 c43_12
def c43_14 : ACode := .seq c43_4 c43_13
def c43_15 : ACode := .block 1 c43_14
def c43_16 : ACode := .ops [
 ⟨some 50, none, .q (.bin .add (.t 8) (.v (.int .i64 1))), []⟩,
 ⟨some 8, none, .q (.mv (.t 50)), []⟩]
def c43_17 : ACode := .seq c43_15 c43_16
def c43_18 : ACode := .seq c43_3 c43_17
def c43_19 : ACode := .seq c43_2 c43_18
def c43_20 : ACode := .loop c43_19
def c43_21 : ACode := .block 0 c43_20
def c43_22 : ACode := .seq c43_1 c43_21
def c43_23 : ACode := .ops [
 ⟨some 2, none, .q (.mv (.v (.int .i64 10))), []⟩]
def c43_24 : ACode := .seq c43_23 .ret
def c43_25 : ACode := .seq c43_22 c43_24
def c43_26 : ACode := .seq c43_0 c43_25
@[go_sem] def c43_0_wp := wp_of c43_0.eq_1
@[go_sem] def c43_1_wp := wp_of c43_1.eq_1
@[go_sem] def c43_2_wp := wp_of c43_2.eq_1
@[go_sem] def c43_3_wp := wp_of c43_3.eq_1
@[go_sem] def c43_4_wp := wp_of c43_4.eq_1
@[go_sem] def c43_5_wp := wp_of c43_5.eq_1
@[go_sem] def c43_6_wp := wp_of c43_6.eq_1
@[go_sem] def c43_7_wp := wp_of c43_7.eq_1
@[go_sem] def c43_8_wp := wp_of c43_8.eq_1
@[go_sem] def c43_9_wp := wp_of c43_9.eq_1
@[go_sem] def c43_10_wp := wp_of c43_10.eq_1
@[go_sem] def c43_11_wp := wp_of c43_11.eq_1
@[go_sem] def c43_12_wp := wp_of c43_12.eq_1
@[go_sem] def c43_13_wp := wp_of c43_13.eq_1
@[go_sem] def c43_14_wp := wp_of c43_14.eq_1
@[go_sem] def c43_15_wp := wp_of c43_15.eq_1
@[go_sem] def c43_16_wp := wp_of c43_16.eq_1
@[go_sem] def c43_17_wp := wp_of c43_17.eq_1
@[go_sem] def c43_18_wp := wp_of c43_18.eq_1
@[go_sem] def c43_19_wp := wp_of c43_19.eq_1
@[go_sem] def c43_20_wp := wp_of c43_20.eq_1
@[go_sem] def c43_21_wp := wp_of c43_21.eq_1
@[go_sem] def c43_22_wp := wp_of c43_22.eq_1
@[go_sem] def c43_23_wp := wp_of c43_23.eq_1
@[go_sem] def c43_24_wp := wp_of c43_24.eq_1
@[go_sem] def c43_25_wp := wp_of c43_25.eq_1
@[go_sem] def c43_26_wp := wp_of c43_26.eq_1
def c43 : AFn := ⟨51, [.t 2], c43_26⟩
theorem c43_ok : compF Tryz.prog Tryz.f43 = some c43 := by kernel_rfl
theorem a43 {args : List AV} {σ : ASt} {R : AV → ASt → Prop} (hl : args.length ≤ 51) (h : c43_26.wp Tryz.prog (RetQ [.t 2] R) (init args) σ) : ACalls Tryz.prog 43 args σ R := acalls_of Tryz.func43 c43_ok hl h
/-! 44: (*tabular/token.lexer).op -/
def c44_0 : ACode := .ops [
 ⟨some 6, none, .q (.mv (.v (.int .i64 0))), []⟩]
def c44_1 : ACode := .ops [
 ⟨some 10, none, .q (.mv (.t 1)), []⟩,
 ⟨some 11, none, .e (.call 68 [(.t 10)]), []⟩,
 ⟨some 7, none, .q (.mv (.t 11)), []⟩]
def c44_2 : ACode := .ops [
 ⟨some 12, none, .q (.mv (.t 7)), []⟩,
 ⟨some 13, none, .q (.bin .neq (.t 12) (.v (.str []))), []⟩]
def c44_3 : ACode := .ops [
 ⟨some 14, none, .q (.mv (.t 0)), []⟩,
 ⟨some 15, none, .q (.mv (.t 7)), []⟩,
 ⟨some 16, none, .q (.mv (.t 2)), []⟩,
 ⟨some 17, none, .e (.call 21 [(.t 14), (.v (.int .i64 6)), (.t 15), (.t 16)]), []⟩]
def c44_4 : ACode := .ops [
 ⟨some 6, none, .q (.mv (.v (.int .i64 0))), []⟩]
def c44_5 : ACode := .seq c44_4 .ret
def c44_6 : ACode := .seq c44_3 c44_5
def c44_7 : ACode := .cond (.t 13) c44_6 .skip
def c44_8 : ACode := .seq c44_2 c44_7
def c44_9 : ACode := .seq c44_1 c44_8
def c44_10 : ACode := .ops [
 ⟨some 18, none, .q (.bsl 1 [(.v (.str [60, 61])), (.v (.str [62, 61])), (.v (.str [60, 62]))]), []⟩,
 ⟨some 19, none, .q (.len (.t 18)), []⟩,
 ⟨some 20, none, .q (.mv (.v (.int .i64 0))), []⟩]
def c44_11 : ACode := .ops [
 ⟨some 21, none, .q (.bin .lss (.t 20) (.t 19)), []⟩]
def c44_12 : ACode := .cond (.t 21) .skip (.exit 0)
def c44_13 : ACode := .ops [
 ⟨some 22, none, .q (.ia 1 (.t 18) (.t 20)), []⟩,
 ⟨some 23, none, .q (.ld none (.t 22)), []⟩,
 ⟨some 9, none, .q (.mv (.t 23)), []⟩]
def c44_14 : ACode := .ops [
 ⟨some 24, none, .q (.mv (.t 0)), []⟩,
 ⟨some 25, none, .q (.nc (.t 24)), []⟩,
 ⟨some 26, none, .q (.fa 0 (.t 25)), []⟩,
 ⟨some 27, none, .q (.ld none (.t 26)), []⟩,
 ⟨some 28, none, .q (.mv (.t 0)), []⟩,
 ⟨some 29, none, .q (.nc (.t 28)), []⟩,
 ⟨some 30, none, .q (.fa 1 (.t 29)), []⟩,
 ⟨some 31, none, .q (.ld none (.t 30)), []⟩,
 ⟨some 32, none, .q (.slfrom (true, 0) (.t 27) (.t 31)), []⟩,
 ⟨some 33, none, .q (.mv (.t 9)), []⟩,
 ⟨some 34, none, .e (.call 69 [(.t 32), (.t 33)]), []⟩]
def c44_15 : ACode := .ops [
 ⟨some 35, none, .q (.mv (.t 0)), []⟩,
 ⟨some 36, none, .q (.mv (.t 9)), []⟩,
 ⟨some 37, none, .e (.call 21 [(.t 35), (.v (.int .i64 6)), (.t 36), (.v (.int .i64 2))]), []⟩]
def c44_16 : ACode := .ops [
 ⟨some 6, none, .q (.mv (.v (.int .i64 0))), []⟩]
def c44_17 : ACode := .seq c44_16 .ret
def c44_18 : ACode := .seq c44_15 c44_17
def c44_19 : ACode := .cond (.t 34) c44_18 .skip
def c44_20 : ACode := .seq c44_14 c44_19
def c44_21 : ACode := .seq c44_13 c44_20
def c44_22 : ACode := .block 1 c44_21
def c44_23 : ACode := .ops [
 ⟨some 38, none, .q (.bin .add (.t 20) (.v (.int .i64 1))), []⟩,
 ⟨some 20, none, .q (.mv (.t 38)), []⟩]
def c44_24 : ACode := .seq c44_22 c44_23
def c44_25 : ACode := .seq c44_12 c44_24
def c44_26 : ACode := .seq c44_11 c44_25
def c44_27 : ACode := .loop c44_26
def c44_28 : ACode := .block 0 c44_27
def c44_29 : ACode := .seq c44_10 c44_28
def c44_30 : ACode := .ops [
 ⟨some 39, none, .q (.mv (.t 0)), []⟩,
 ⟨some 40, none, .q (.nc (.t 39)), []⟩,
 ⟨some 41, none, .q (.fa 0 (.t 40)), []⟩,
 ⟨some 42, none, .q (.ld none (.t 41)), []⟩,
 ⟨some 43, none, .q (.mv (.t 0)), []⟩,
 ⟨some 44, none, .q (.nc (.t 43)), []⟩,
 ⟨some 45, none, .q (.fa 1 (.t 44)), []⟩,
 ⟨some 46, none, .q (.ld none (.t 45)), []⟩,
 ⟨some 47, none, .q (.idx (.t 42) (.t 46)), []⟩,
 ⟨some 48, none, .q (.bsl 1 [(.t 47)]), []⟩,
 ⟨some 49, none, .q (.b2s (.t 48)), []⟩,
 ⟨some 50, none, .e (.call 70 [(.v (.str [43, 45, 42, 47, 94, 38, 61, 60, 62, 37, 40, 41, 58, 44])), (.t 49)]), []⟩,
 ⟨some 51, none, .q (.un .not (.t 50)), []⟩]
def c44_31 : ACode := .ops [
 ⟨some 6, none, .q (.mv (.v (.int .i64 10))), []⟩]
def c44_32 : ACode := .seq c44_31 .ret
def c44_33 : ACode := .cond (.t 51) c44_32 .skip
def c44_34 : ACode := .seq c44_30 c44_33
def c44_35 : ACode := .ops [
 ⟨some 52, none, .q (.mv (.t 0)), []⟩,
 ⟨some 53, none, .q (.mv (.t 0)), []⟩,
 ⟨some 54, none, .q (.nc (.t 53)), []⟩,
 ⟨some 55, none, .q (.fa 0 (.t 54)), []⟩,
 ⟨some 56, none, .q (.ld none (.t 55)), []⟩,
 ⟨some 57, none, .q (.mv (.t 0)), []⟩,
 ⟨some 58, none, .q (.nc (.t 57)), []⟩,
 ⟨some 59, none, .q (.fa 1 (.t 58)), []⟩,
 ⟨some 60, none, .q (.ld none (.t 59)), []⟩,
 ⟨some 61, none, .q (.mv (.t 0)), []⟩,
 ⟨some 62, none, .q (.nc (.t 61)), []⟩,
 ⟨some 63, none, .q (.fa 1 (.t 62)), []⟩,
 ⟨some 64, none, .q (.ld none (.t 63)), []⟩,
 ⟨some 65, none, .q (.bin .add (.t 64) (.v (.int .i64 1))), []⟩,
 ⟨some 66, none, .q (.sls (true, 0) (.t 56) (.t 60) (.t 65)), []⟩,
 ⟨some 67, none, .e (.call 21 [(.t 52), (.v (.int .i64 6)), (.t 66), (.v (.int .i64 1))]), []⟩]
def c44_36 : ACode := .ops [
 ⟨some 6, none, .q (.mv (.v (.int .i64 0))), []⟩]
def c44_37 : ACode := .seq c44_36 .ret
def c44_38 : ACode := .seq c44_35 c44_37
def c44_39 : ACode := .seq c44_34 c44_38
def c44_40 : ACode := .seq c44_29 c44_39
def c44_41 : ACode := .seq c44_9 c44_40
def c44_42 : ACode := .seq c44_0 c44_41
@[go_sem] def c44_0_wp := wp_of c44_0.eq_1
@[go_sem] def c44_1_wp := wp_of c44_1.eq_1
@[go_sem] def c44_2_wp := wp_of c44_2.eq_1
@[go_sem] def c44_3_wp := wp_of c44_3.eq_1
@[go_sem] def c44_4_wp := wp_of c44_4.eq_1
@[go_sem] def c44_5_wp := wp_of c44_5.eq_1
@[go_sem] def c44_6_wp := wp_of c44_6.eq_1
@[go_sem] def c44_7_wp := wp_of c44_7.eq_1
@[go_sem] def c44_8_wp := wp_of c44_8.eq_1
@[go_sem] def c44_9_wp := wp_of c44_9.eq_1
@[go_sem] def c44_10_wp := wp_of c44_10.eq_1
@[go_sem] def c44_11_wp := wp_of c44_11.eq_1
@[go_sem] def c44_12_wp := wp_of c44_12.eq_1
@[go_sem] def c44_13_wp := wp_of c44_13.eq_1
@[go_sem] def c44_14_wp := wp_of c44_14.eq_1
@[go_sem] def c44_15_wp := wp_of c44_15.eq_1
@[go_sem] def c44_16_wp := wp_of c44_16.eq_1
@[go_sem] def c44_17_wp := wp_of c44_17.eq_1
@[go_sem] def c44_18_wp := wp_of c44_18.eq_1
@[go_sem] def c44_19_wp := wp_of c44_19.eq_1
@[go_sem] def c44_20_wp := wp_of c44_20.eq_1
@[go_sem] def c44_21_wp := wp_of c44_21.eq_1
@[go_sem] def c44_22_wp := wp_of c44_22.eq_1
@[go_sem] def c44_23_wp := wp_of c44_23.eq_1
@[go_sem] def c44_24_wp := wp_of c44_24.eq_1
@[go_sem] def c44_25_wp := wp_of c44_25.eq_1
@[go_sem] def c44_26_wp := wp_of c44_26.eq_1
@[go_sem] def c44_27_wp := wp_of c44_27.eq_1
@[go_sem] def c44_28_wp := wp_of c44_28.eq_1
@[go_sem] def c44_29_wp := wp_of c44_29.eq_1
@[go_sem] def c44_30_wp := wp_of c44_30.eq_1
@[go_sem] def c44_31_wp := wp_of c44_31.eq_1
@[go_sem] def c44_32_wp := wp_of c44_32.eq_1
@[go_sem] def c44_33_wp := wp_of c44_33.eq_1
@[go_sem] def c44_34_wp := wp_of c44_34.eq_1
@[go_sem] def c44_35_wp := wp_of c44_35.eq_1
@[go_sem] def c44_36_wp := wp_of c44_36.eq_1
@[go_sem] def c44_37_wp := wp_of c44_37.eq_1
@[go_sem] def c44_38_wp := wp_of c44_38.eq_1
@[go_sem] def c44_39_wp := wp_of c44_39.eq_1
@[go_sem] def c44_40_wp := wp_of c44_40.eq_1
@[go_sem] def c44_41_wp := wp_of c44_41.eq_1
@[go_sem] def c44_42_wp := wp_of c44_42.eq_1
def c44 : AFn := ⟨68, [.t 6], c44_42⟩
theorem c44_ok : compF Tryz.prog Tryz.f44 = some c44 := by kernel_rfl
theorem a44 {args : List AV} {σ : ASt} {R : AV → ASt → Prop} (hl : args.length ≤ 68) (h : c44_42.wp Tryz.prog (RetQ [.t 6] R) (init args) σ) : ACalls Tryz.prog 44 args σ R := acalls_of Tryz.func44 c44_ok hl h
end Go.A
