/- Part 10 of what ParseDeep leans on: Qd CodeQb Qb Ms Mv Mw Mx. -/
import Derived.Test.YtkgondgecdmjpaaGreatDoorProg
import Derived.KernelRfl
import Derived.Test.YtkgondgecdmjpaaGreatDoorRows
import Derived.ProofKit
import Derived.LaidMore
import Derived.OpenShut
import Derived.Stop.LaidErr
import Derived.MakeChecks
import Derived.SevenTiedAt
import Derived.Lay
import Derived.ChangeArms
import Derived.Lib.LaidU8
import Derived.Lib.LaidTab
import Derived.Shelf.Vars
import Derived.HandedShaped
import Derived.Test.YtkgondgecdmjpaaGreatDoorZParseDeepi
set_option linter.defProp false
set_option linter.unusedSimpArgs false
set_option linter.unusedVariables false
set_option maxRecDepth 100000
namespace Go.A
open Go.Proofs Go.Lib
section
variable {T : List Tok}
theorem cur_bad {s : PSt} (h : s.err ≠ 0) : curT T s = endT := if_pos h
theorem isOp_bad {s : PSt} (h : s.err ≠ 0) (x : List UInt8) : isOp T s x = false := by unfold isOp; rw [cur_bad h]; simp [endT]
theorem sgn_bad {s : PSt} (h : s.err ≠ 0) (l : Nat) : sgn T s l = false := by unfold sgn; rw [cur_bad h]; simp [endT]
theorem fail_bad {s : PSt} (h : s.err ≠ 0) (e : Int) : failP T s e = s := if_neg h
theorem must_bad {s : PSt} (h : s.err ≠ 0) (x : List UInt8) : mustP T s x = s := by unfold mustP; rw [isOp_bad h, fail_bad h]; simp
structure StayF (T : List Tok) (f : Nat) : Prop where
  betw : ∀ lvl s r, betwP T f lvl s = some r → s.err ≠ 0 → r.2 = s
  loop : ∀ lvl n s r, loopP T f lvl n s = some r → s.err ≠ 0 → r.2 = s
  signed : ∀ s r, signedP T f s = some r → s.err ≠ 0 → r.2 = s
  hundred : ∀ s r, hundredP T f s = some r → s.err ≠ 0 → r.2 = s
  hloop : ∀ n s r, hloopP T f n s = some r → s.err ≠ 0 → r.2 = s
  prim : ∀ s r, primP T f s = some r → s.err ≠ 0 → r.2 = s
theorem stayF : ∀ f, StayF T f
  | 0 => by
    constructor
    all_goals intros
    all_goals (rename_i h _; simp only [betwP, loopP, signedP, hundredP, hloopP, primP, reduceCtorEq] at h)
  | f + 1 => by
    have ih := stayF f
    constructor
    · intro lvl s r h he
      rw [betwP] at h
      split at h
      · exact ih.signed s r h he
      · split at h
        · cases h
        · rename_i r1 h1
          have e1 := ih.betw _ _ _ h1 he
          have := ih.loop _ _ _ _ h (by rw [e1]; exact he)
          rw [this, e1]
    · intro lvl n s r h he
      rw [loopP, sgn_bad he] at h
      simp only [Bool.false_eq_true, if_false, Option.some.injEq] at h
      rw [← h]
    · intro s r h he
      rw [signedP, isOp_bad he, isOp_bad he] at h
      simp only [Bool.false_eq_true, if_false] at h
      exact ih.hundred s r h he
    · intro s r h he
      rw [hundredP] at h
      split at h
      · cases h
      · rename_i r1 h1
        have e1 := ih.prim _ _ h1 he
        have := ih.hloop _ _ _ h (by rw [e1]; exact he)
        rw [this, e1]
    · intro n s r h he
      rw [hloopP, isOp_bad he] at h
      simp only [Bool.false_eq_true, if_false, Option.some.injEq] at h
      rw [← h]
    · intro s r h he
      rw [primP, cur_bad he, isOp_bad he, fail_bad he] at h
      simp [endT] at h
      rw [← h]
def Bad (B : Int) (s : PSt) : Prop := s.err = 12 ∧ s.bad = B
theorem Bad.ne {B : Int} {s : PSt} (h : Bad B s) : s.err ≠ 0 := by rw [h.1]; decide
theorem Bad.leave {B : Int} {s : PSt} (h : Bad B s) : Bad B (leaveP s) := h
theorem Bad.must {B : Int} {s : PSt} (h : Bad B s) (x : List UInt8) : Bad B (mustP T s x) := by rw [must_bad h.ne]; exact h
theorem bad_hundred {B : Int} {s : PSt} (h : ∀ f r, primP T f s = some r → Bad B r.2) : ∀ f r, hundredP T f s = some r → Bad B r.2
  | 0, r, hh => by simp [hundredP] at hh
  | f + 1, r, hh => by
    rw [hundredP] at hh
    split at hh
    · cases hh
    · rename_i r1 h1
      have b1 := h f r1 h1
      rw [(stayF f).hloop _ _ _ hh b1.ne]
      exact b1
theorem bad_signed {B : Int} {s : PSt} (h1 : isOp T s [45] = false) (h2 : isOp T s [43] = false) (h : ∀ f r, primP T f s = some r → Bad B r.2) : ∀ f r, signedP T f s = some r → Bad B r.2
  | 0, r, hh => by simp [signedP] at hh
  | f + 1, r, hh => by
    rw [signedP, h1, h2] at hh
    simp only [Bool.false_eq_true, if_false] at hh
    exact bad_hundred h f r hh
theorem bad_betw {B : Int} {s : PSt} (h : ∀ f r, signedP T f s = some r → Bad B r.2) : ∀ f lvl r, betwP T f lvl s = some r → Bad B r.2
  | 0, lvl, r, hh => by simp [betwP] at hh
  | f + 1, lvl, r, hh => by
    rw [betwP] at hh
    split at hh
    · exact h f r hh
    · split at hh
      · cases hh
      · rename_i r1 h1
        have b1 := bad_betw h f _ r1 h1
        rw [(stayF f).loop _ _ _ _ hh b1.ne]
        exact b1
theorem cur_d {T : List Tok} (i : Nat) (d : Int) : curT T ⟨i, d, 0, 0⟩ = T.getD i endT := if_neg (by simp)
theorem step_in {T : List Tok} (i d : Nat) (hd : d ≤ 40) : (d = 40 ∧ stepP1 (enterP T ⟨i, d, 0, 0⟩) = ⟨i, 41, 12, ((T.getD i endT).at' : Nat)⟩) ∨ (d < 40 ∧ stepP1 (enterP T ⟨i, d, 0, 0⟩) = ⟨i + 1, ((d + 1 : Nat) : Int), 0, 0⟩) := by
  rcases Nat.lt_or_ge d 40 with h | h
  · right
    refine ⟨h, ?_⟩
    unfold enterP
    dsimp only
    rw [if_neg (by omega)]
    rfl
  · obtain rfl : d = 40 := by omega
    left
    exact ⟨rfl, rfl⟩
theorem op_is {T : List Tok} {s : PSt} {t x : List UInt8} {a c : Nat} (hc : curT T s = ⟨6, t, a, c⟩) : isOp T s x = decide (t = x) := by unfold isOp; rw [hc]; simp
theorem op_no {T : List Tok} {s : PSt} {k : Int} {t x : List UInt8} {a c : Nat} (hc : curT T s = ⟨k, t, a, c⟩) (hk : k ≠ 6) : isOp T s x = false := by unfold isOp; rw [hc]; simp [hk]
theorem deep_brackets {T : List Tok} (hT : ∀ i ≤ 40, T.getD i endT = ⟨6, [40], i, i⟩) : ∀ (m d : Nat), d + m = 40 → ∀ f lvl r, betwP T f lvl ⟨d, d, 0, 0⟩ = some r → Bad 40 r.2 := by
  intro m
  induction m with
  | zero =>
    intro d hd
    have hc := cur_d (T := T) d d
    rw [hT d (by omega)] at hc
    refine bad_betw (bad_signed (by rw [op_is hc]; decide) (by rw [op_is hc]; decide) fun f r h => ?_)
    cases f with
    | zero => simp [primP] at h
    | succ f =>
      rw [primP, hc, op_is hc] at h
      simp only [Int.reduceEq, if_false, decide_true, if_true] at h
      split at h
      · cases h
      · rename_i r1 h1
        rcases step_in (T := T) d d (by omega) with ⟨_, hs⟩ | ⟨h, _⟩
        · rw [hT d (by omega)] at hs
          rw [hs] at h1
          have e1 := (stayF f).betw _ _ _ h1 (by simp)
          injection h with h
          rw [← h]
          refine Bad.leave (Bad.must ?_ _)
          rw [e1]
          exact ⟨rfl, by dsimp only; omega⟩
        · omega
  | succ m ih =>
    intro d hd
    have hc := cur_d (T := T) d d
    rw [hT d (by omega)] at hc
    refine bad_betw (bad_signed (by rw [op_is hc]; decide) (by rw [op_is hc]; decide) fun f r h => ?_)
    cases f with
    | zero => simp [primP] at h
    | succ f =>
      rw [primP, hc, op_is hc] at h
      simp only [Int.reduceEq, if_false, decide_true, if_true] at h
      split at h
      · cases h
      · rename_i r1 h1
        rcases step_in (T := T) d d (by omega) with ⟨h, _⟩ | ⟨_, hs⟩
        · omega
        · rw [hs] at h1
          injection h with h
          rw [← h]
          exact Bad.leave (Bad.must (ih (d + 1) (by omega) f 0 r1 h1) _)
theorem deep_signs {T : List Tok} (hT : ∀ i ≤ 40, T.getD i endT = ⟨6, [45], i, i⟩) : ∀ (m d : Nat), d + m = 40 → ∀ f r, signedP T f ⟨d, d, 0, 0⟩ = some r → Bad 40 r.2 := by
  intro m
  induction m with
  | zero =>
    intro d hd f r h
    have hc := cur_d (T := T) d d
    rw [hT d (by omega)] at hc
    cases f with
    | zero => simp [signedP] at h
    | succ f =>
      rw [signedP, op_is hc] at h
      simp only [decide_true, if_true] at h
      split at h
      · cases h
      · rename_i r1 h1
        rcases step_in (T := T) d d (by omega) with ⟨_, hs⟩ | ⟨h, _⟩
        · rw [hT d (by omega)] at hs
          rw [hs] at h1
          have e1 := (stayF f).signed _ _ h1 (by simp)
          injection h with h
          rw [← h]
          refine Bad.leave ?_
          rw [e1]
          exact ⟨rfl, by dsimp only; omega⟩
        · omega
  | succ m ih =>
    intro d hd f r h
    have hc := cur_d (T := T) d d
    rw [hT d (by omega)] at hc
    cases f with
    | zero => simp [signedP] at h
    | succ f =>
      rw [signedP, op_is hc] at h
      simp only [decide_true, if_true] at h
      split at h
      · cases h
      · rename_i r1 h1
        rcases step_in (T := T) d d (by omega) with ⟨h, _⟩ | ⟨_, hs⟩
        · omega
        · rw [hs] at h1
          injection h with h
          rw [← h]
          exact Bad.leave (ih (d + 1) (by omega) f r1 h1)
theorem deep_calls {T : List Tok} (hT : ∀ i ≤ 40, T.getD (2 * i) endT = ⟨3, [70], 2 * i, 2 * i⟩ ∧ T.getD (2 * i + 1) endT = ⟨6, [40], 2 * i + 1, 2 * i + 1⟩) : ∀ (m d : Nat), d + m = 40 → ∀ f lvl r, betwP T f lvl ⟨2 * d, d, 0, 0⟩ = some r → Bad 80 r.2 := by
  intro m
  induction m with
  | zero =>
    intro d hd
    have hc := cur_d (T := T) (2 * d) d
    rw [(hT d (by omega)).1] at hc
    refine bad_betw (bad_signed (op_no hc (by decide)) (op_no hc (by decide)) fun f r h => ?_)
    cases f with
    | zero => simp [primP] at h
    | succ f =>
      rw [primP, hc] at h
      simp only [Int.reduceEq, if_false, if_true] at h
      cases f with
      | zero => simp [nameP] at h
      | succ f =>
        have he : enterP T ⟨2 * d, (d : Int), 0, 0⟩ = ⟨2 * d, (d : Int) + 1, 12, ((T.getD (2 * d) endT).at' : Nat)⟩ := by
          unfold enterP
          dsimp only
          rw [if_pos (by omega)]
          rfl
        rw [nameP] at h
        dsimp only at h
        rw [(hT d (by omega)).2, if_pos (by simp), he, if_pos (by simp)] at h
        injection h with h
        rw [← h, (hT d (by omega)).1]
        exact ⟨rfl, by show ((2 * d : Nat) : Int) = 80; omega⟩
  | succ m ih =>
    intro d hd
    have hc := cur_d (T := T) (2 * d) d
    rw [(hT d (by omega)).1] at hc
    refine bad_betw (bad_signed (op_no hc (by decide)) (op_no hc (by decide)) fun f r h => ?_)
    cases f with
    | zero => simp [primP] at h
    | succ f =>
      rw [primP, hc] at h
      simp only [Int.reduceEq, if_false, if_true] at h
      cases f with
      | zero => simp [nameP] at h
      | succ f =>
        have he : enterP T ⟨2 * d, (d : Int), 0, 0⟩ = ⟨2 * d, ((d + 1 : Nat) : Int), 0, 0⟩ := by
          unfold enterP
          dsimp only
          rw [if_neg (by omega)]
          rfl
        rw [nameP] at h
        dsimp only at h
        rw [(hT d (by omega)).2, if_pos (by simp), he, if_neg (by simp)] at h
        split at h
        · cases h
        · rename_i r1 h1
          injection h with h
          rw [← h]
          refine Bad.leave ?_
          have hn : (⟨2 * d, ((d + 1 : Nat) : Int), 0, 0⟩ : PSt).next.next = ⟨2 * (d + 1), ((d + 1 : Nat) : Int), 0, 0⟩ := rfl
          rw [hn] at h1
          have hc2 := cur_d (T := T) (2 * (d + 1)) ((d + 1 : Nat) : Int)
          rw [(hT (d + 1) (by omega)).1] at hc2
          have n41 : isOp T ⟨2 * (d + 1), ((d + 1 : Nat) : Int), 0, 0⟩ [41] = false := op_no hc2 (by decide)
          have n44 : isOp T ⟨2 * (d + 1), ((d + 1 : Nat) : Int), 0, 0⟩ [44] = false := op_no hc2 (by decide)
          cases f with
          | zero => simp [argsP] at h1
          | succ f =>
            rw [argsP, n41] at h1
            simp only [Bool.false_eq_true, if_false] at h1
            cases f with
            | zero => simp [aloopP] at h1
            | succ f =>
              rw [aloopP, n41, n44] at h1
              simp only [Bool.false_eq_true, or_self, if_false, ne_eq, not_true_eq_false] at h1
              split at h1
              · cases h1
              · rename_i r2 h2
                have b2 := ih (d + 1) (by omega) f 0 r2 h2
                rw [isOp_bad b2.ne] at h1
                simp only [Bool.false_eq_true, if_false, Option.some.injEq] at h1
                rw [← h1]
                exact b2.must _
end
theorem parse_bad {s : List UInt8} {B : Int} (h0 : (lexP s).2.2 = 0) (h : ∀ f r, betwP (lexP s).1 f 0 st0 = some r → Bad B r.2) : (parseR s).2 = (B, 12) := by
  obtain ⟨r, hr⟩ := betw_some h0
  have hb := h _ _ hr
  unfold parseR parseT
  rw [if_neg (by simp [h0])]
  have hr' : betwP (lexP s).1 (30 * (lexP s).1.length + 30) 0 ⟨0, 0, 0, 0⟩ = some r := hr
  rw [hr']
  dsimp only
  have hk : (if (curT (lexP s).1 r.2).kind ≠ 0 then failP (lexP s).1 r.2 10 else r.2) = r.2 := by rw [cur_bad hb.ne]; exact if_neg (by simp [endT])
  rw [hk, if_pos hb.ne]
  show (r.2.bad, r.2.err) = _
  rw [hb.1, hb.2]
/-! Such texts' tokens. -/
theorem step_op (c : UInt8) (r : List UInt8) (h : c = 40 ∨ c = 41 ∨ c = 45) : stepP (c :: r) = .tok 6 [c] 1 := by
  have hd : decodeL (c :: r) = (c.toNat, 1) := dec_one c r (by rcases h with rfl | rfl | rfl <;> decide)
  unfold stepP opS
  rw [hd]
  rcases h with rfl | rfl | rfl <;> simp (config := { decide := true }) [twoS, twos, List.isPrefixOf, opChars]
theorem step_f (r : List UInt8) : stepP (70 :: 40 :: r) = .tok 3 [70] 1 := by
  have hd : decodeL (70 :: 40 :: r) = (70, 1) := dec_one 70 _ (by decide)
  have hr : runL wordB (70 :: 40 :: r) = 1 := by simp (config := { decide := true }) [runL]
  unfold stepP wordsS
  rw [hd, hr]
  dsimp only
  rw [show (70 :: 40 :: r).take 1 = [70] from rfl, if_neg (by decide), if_neg (by decide), if_pos (by decide), if_neg (by decide +kernel), if_neg (by decide +kernel), if_pos (by decide +kernel)]
  rfl
theorem step_1 (r : List UInt8) (h : r = [] ∨ ∃ t, r = 41 :: t) : stepP (49 :: r) = .tok 1 [49] 1 := by
  have hd : decodeL (49 :: r) = (49, 1) := dec_one 49 _ (by decide)
  have hr : runL wordB (49 :: r) = 1 := by
    rcases h with rfl | ⟨t, rfl⟩ <;> simp (config := { decide := true }) [runL]
  unfold stepP wordsS
  rw [hd, hr]
  dsimp only
  rw [show (49 :: r).take 1 = [49] from rfl, if_neg (by decide), if_neg (by decide), if_pos (by decide), if_pos (by decide +kernel)]
theorem lexF_tok {k : Nat} {c : UInt8} {r : List UInt8} {a col : Nat} {acc : List Tok} {kd : Int} {t : List UInt8} (hs : stepP (c :: r) = .tok kd t 1) (hc : signsN [c] = 1) : lexF (k + 1) (c :: r) a col acc = lexF k r (a + 1) (col + 1) (acc ++ [⟨kd, t, a, col⟩]) := by
  rw [lexF, if_neg (by simp), hs]
  show lexF k r (a + 1) (col + signsN [c]) _ = _
  rw [hc]
theorem lex_ops (c : UInt8) (h : c = 40 ∨ c = 41 ∨ c = 45) (hc : signsN [c] = 1) : ∀ (m k : Nat) (r : List UInt8) (a col : Nat) (acc : List Tok), lexF (k + m) (List.replicate m c ++ r) a col acc = lexF k r (a + m) (col + m) (acc ++ (List.range m).map fun j => ⟨6, [c], a + j, col + j⟩)
  | 0, k, r, a, col, acc => by simp
  | m + 1, k, r, a, col, acc => by
    rw [List.replicate_succ, List.cons_append, show k + (m + 1) = (k + m) + 1 by omega, lexF_tok (step_op c _ h) hc, lex_ops c h hc m k r, List.range_succ_eq_map]
    simp only [List.map_cons, List.map_map, List.append_assoc, List.cons_append, List.nil_append]
    congr 1
    · omega
    · omega
    · congr 2
      apply List.map_congr_left
      intro j _
      simp only [Function.comp, Nat.succ_eq_add_one, Tok.mk.injEq, true_and]
      omega
theorem lex_fs : ∀ (m k : Nat) (r : List UInt8) (a col : Nat) (acc : List Tok), lexF (k + 2 * m) ((List.replicate m [70, 40]).flatten ++ r) a col acc = lexF k r (a + 2 * m) (col + 2 * m) (acc ++ (List.range m).flatMap fun j => [⟨3, [70], a + 2 * j, col + 2 * j⟩, ⟨6, [40], a + 2 * j + 1, col + 2 * j + 1⟩])
  | 0, k, r, a, col, acc => by simp
  | m + 1, k, r, a, col, acc => by
    have e1 : (List.replicate (m + 1) [(70 : UInt8), 40]).flatten ++ r = 70 :: 40 :: ((List.replicate m [70, 40]).flatten ++ r) := by simp [List.replicate_succ]
    rw [e1, show k + 2 * (m + 1) = (k + 2 * m) + 1 + 1 by omega, lexF_tok (step_f _) (by decide +kernel), lexF_tok (step_op 40 _ (.inl rfl)) (by decide +kernel), lex_fs m k r, List.range_succ_eq_map]
    simp only [List.flatMap_cons, List.flatMap_map, List.append_assoc, List.cons_append, List.nil_append]
    congr 1
    · omega
    · omega
    · congr 3
      refine congrArg (fun F => List.flatMap F (List.range m)) (funext fun j => ?_)
      simp only [Nat.succ_eq_add_one, List.cons.injEq, Tok.mk.injEq, true_and, and_true]
      omega
theorem lex_end (k a col : Nat) (acc : List Tok) : lexF (k + 1) [] a col acc = (acc ++ [⟨0, [], a, col⟩], 0, 0) := by rw [lexF]; rfl
theorem lex_rest (m k a col : Nat) (acc : List Tok) (h : m + 2 ≤ k) : ∃ L, lexF k (49 :: List.replicate m 41) a col acc = (acc ++ L, 0, 0) := by
  obtain ⟨k, rfl⟩ : ∃ j, k = (j + 1 + m) + 1 := ⟨k - m - 2, by omega⟩
  rw [lexF_tok (step_1 _ (by cases m with | zero => exact .inl rfl | succ m => exact .inr ⟨_, List.replicate_succ ..⟩)) (by decide +kernel)]
  have := lex_ops 41 (.inr (.inl rfl)) (by decide +kernel) m (k + 1) [] (a + 1) (col + 1) (acc ++ [⟨1, [49], a, col⟩])
  rw [List.append_nil] at this
  rw [this, lex_end]
  simp only [List.append_assoc]
  exact ⟨_, rfl⟩
def repL (s : List UInt8) : Nat → List UInt8
  | 0 => []
  | n + 1 => repL s n ++ s
theorem repL_len (s : List UInt8) : ∀ n, (repL s n).length = n * s.length
  | 0 => by simp [repL]
  | n + 1 => by rw [repL, List.length_append, repL_len s n, Nat.succ_mul]
theorem repL_flat (s : List UInt8) : ∀ n, repL s n = (List.replicate n s).flatten
  | 0 => rfl
  | n + 1 => by rw [repL, repL_flat s n, List.replicate_succ', List.flatten_append]; simp
theorem repL_one (c : UInt8) : ∀ n, repL [c] n = List.replicate n c
  | 0 => rfl
  | n + 1 => by rw [repL, repL_one c n, List.replicate_succ']
theorem repL_nil : ∀ n, repL [] n = []
  | 0 => rfl
  | n + 1 => by rw [repL, repL_nil n]; rfl
def opensD : List (List UInt8) := [[40], [45], [70, 40]]
def shutsD : List (List UInt8) := [[41], [], [41]]
def deepT (k n : Nat) : List UInt8 := repL (opensD.getD k []) n ++ [49] ++ repL (shutsD.getD k []) n
theorem range_getD {f : Nat → Tok} {n i : Nat} (h : i < n) (L : List Tok) : (((List.range n).map f) ++ L).getD i endT = f i := by
  rw [List.getD_eq_getElem?_getD, List.getElem?_append_left (by simpa using h)]
  simp [h]
theorem pairs_getD (f g : Nat → Tok) (L : List Tok) : ∀ (n i : Nat), i < n → (((List.range n).flatMap fun j => [f j, g j]) ++ L).getD (2 * i) endT = f i ∧ (((List.range n).flatMap fun j => [f j, g j]) ++ L).getD (2 * i + 1) endT = g i := by
  intro n
  induction n generalizing L with
  | zero => intro i h; omega
  | succ n ih =>
    intro i h
    have hl : ∀ n, ((List.range n).flatMap fun j => [f j, g j]).length = 2 * n := by
      intro n
      induction n with
      | zero => rfl
      | succ n ih => rw [List.range_succ, List.flatMap_append, List.length_append, ih]; simp; omega
    rw [List.range_succ, List.flatMap_append, List.append_assoc]
    rcases Nat.lt_or_ge i n with hi | hi
    · exact ih _ i hi
    · obtain rfl : i = n := by omega
      have hx : ∀ j, (List.flatMap (fun j => [f j, g j]) (List.range i) ++ (List.flatMap (fun j => [f j, g j]) [i] ++ L)).getD (2 * i + j) endT = (f i :: g i :: L).getD j endT := fun j => by
        rw [List.getD_eq_getElem?_getD, List.getElem?_append_right (by rw [hl]; omega), hl, List.getD_eq_getElem?_getD]
        rw [show 2 * i + j - 2 * i = j by omega]
        rfl
      exact ⟨hx 0, hx 1⟩
theorem deep_more (k n : Nat) (hk : k < 3) (h1 : 40 < n) (h2 : n ≤ 100) : (parseR (deepT k n)).2 = (40 * ((opensD.getD k []).length : Int), 12) := by
  have hk' : k = 0 ∨ k = 1 ∨ k = 2 := by omega
  rcases hk' with rfl | rfl | rfl
  · have e : deepT 0 n = List.replicate n 40 ++ (49 :: List.replicate n 41) := by
      unfold deepT; rw [show opensD.getD 0 [] = [40] from rfl, show shutsD.getD 0 [] = [41] from rfl, repL_one, repL_one, List.append_assoc]; rfl
    rw [e]
    have hlen : (List.replicate n (40 : UInt8) ++ (49 :: List.replicate n 41)).length = 2 * n + 1 := by simp; omega
    have hx := lex_ops 40 (.inl rfl) (by decide +kernel) n (n + 2) (49 :: List.replicate n 41) 0 0 []
    obtain ⟨L, hL⟩ := lex_rest n (n + 2) (0 + n) (0 + n) ([] ++ (List.range n).map fun j => ⟨6, [40], 0 + j, 0 + j⟩) (Nat.le_refl _)
    rw [hL] at hx
    have hlex : lexP (List.replicate n 40 ++ (49 :: List.replicate n 41)) = (([] ++ (List.range n).map fun j => ⟨6, [40], 0 + j, 0 + j⟩) ++ L, 0, 0) := by
      unfold lexP
      rw [if_neg (by rw [hlen]; omega), hlen, show 2 * n + 1 + 1 = n + 2 + n by omega]
      exact hx
    refine parse_bad (by rw [hlex]) fun f r h => ?_
    rw [hlex] at h
    refine deep_brackets (fun i hi => ?_) 40 0 rfl f 0 r h
    rw [List.nil_append, range_getD (by omega)]
    simp
  · have e : deepT 1 n = List.replicate n 45 ++ (49 :: List.replicate 0 41) := by
      unfold deepT; rw [show opensD.getD 1 [] = [45] from rfl, show shutsD.getD 1 [] = [] from rfl, repL_one, repL_nil, List.append_assoc]; rfl
    rw [e]
    have hlen : (List.replicate n (45 : UInt8) ++ (49 :: List.replicate 0 41)).length = n + 1 := by simp
    have hx := lex_ops 45 (.inr (.inr rfl)) (by decide +kernel) n 2 (49 :: List.replicate 0 41) 0 0 []
    obtain ⟨L, hL⟩ := lex_rest 0 2 (0 + n) (0 + n) ([] ++ (List.range n).map fun j => ⟨6, [45], 0 + j, 0 + j⟩) (Nat.le_refl _)
    rw [hL] at hx
    have hlex : lexP (List.replicate n 45 ++ (49 :: List.replicate 0 41)) = (([] ++ (List.range n).map fun j => ⟨6, [45], 0 + j, 0 + j⟩) ++ L, 0, 0) := by
      unfold lexP
      rw [if_neg (by rw [hlen]; omega), hlen, show n + 1 + 1 = 2 + n by omega]
      exact hx
    refine parse_bad (by rw [hlex]) fun f r h => ?_
    rw [hlex] at h
    refine bad_betw (deep_signs (fun i hi => ?_) 40 0 rfl) f 0 r h
    rw [List.nil_append, range_getD (by omega)]
    simp
  · have e : deepT 2 n = (List.replicate n [70, 40]).flatten ++ (49 :: List.replicate n 41) := by
      unfold deepT; rw [show opensD.getD 2 [] = [70, 40] from rfl, show shutsD.getD 2 [] = [41] from rfl, repL_flat, repL_one, List.append_assoc]; rfl
    rw [e]
    have hlen : ((List.replicate n [(70 : UInt8), 40]).flatten ++ (49 :: List.replicate n 41)).length = 3 * n + 1 := by
      rw [List.length_append, List.length_flatten]; simp; omega
    have hx := lex_fs n (n + 2) (49 :: List.replicate n 41) 0 0 []
    obtain ⟨L, hL⟩ := lex_rest n (n + 2) (0 + 2 * n) (0 + 2 * n) ([] ++ (List.range n).flatMap fun j => [⟨3, [70], 0 + 2 * j, 0 + 2 * j⟩, ⟨6, [40], 0 + 2 * j + 1, 0 + 2 * j + 1⟩]) (Nat.le_refl _)
    rw [hL] at hx
    have hlex : lexP ((List.replicate n [(70 : UInt8), 40]).flatten ++ (49 :: List.replicate n 41)) = (([] ++ (List.range n).flatMap fun j => [⟨3, [70], 0 + 2 * j, 0 + 2 * j⟩, ⟨6, [40], 0 + 2 * j + 1, 0 + 2 * j + 1⟩]) ++ L, 0, 0) := by
      unfold lexP
      rw [if_neg (by rw [hlen]; omega), hlen, show 3 * n + 1 + 1 = n + 2 + 2 * n by omega]
      exact hx
    refine parse_bad (by rw [hlex]) fun f r h => ?_
    rw [hlex] at h
    refine deep_calls (fun i hi => ?_) 40 0 rfl f 0 r h
    rw [List.nil_append]
    have := pairs_getD (fun j => ⟨3, [70], 0 + 2 * j, 0 + 2 * j⟩) (fun j => ⟨6, [40], 0 + 2 * j + 1, 0 + 2 * j + 1⟩) L n i (by omega)
    refine ⟨this.1.trans (by simp), this.2.trans (by simp)⟩
theorem deep_less : ∀ k < 3, ((List.range 41).all fun n => decide ((parseR (deepT k n)).2 = (0, 0))) = true
  | 0, _ => by kernel_rfl
  | 1, _ => by kernel_rfl
  | 2, _ => by kernel_rfl
  | k + 3, h => by omega
theorem deep_fact (k n : Nat) (hk : k < 3) (hn : n ≤ 100) : (parseR (deepT k n)).2 = (if 40 < n then (40 * ((opensD.getD k []).length : Int), 12) else (0, 0)) := by
  split
  · rename_i h; exact deep_more k n hk h hn
  · rename_i h
    have := List.all_eq_true.1 (deep_less k hk) n (List.mem_range.2 (by omega))
    simpa using this
end Go.A
namespace Go.A
open Go.Proofs
/-! 3: tabular/tabularlaw13.ParseDeep -/
def c3_0 : ACode := .ops [
 ⟨some 4, none, .q (.mv (.v (.bool false))), []⟩]
def c3_1 : ACode := .ops [
 ⟨some 13, none, .q (.mv (.t 0)), []⟩,
 ⟨some 14, none, .q (.bin .lss (.t 13) (.v (.int .i64 0))), []⟩,
 ⟨some 15, none, .q (.mv (.t 14)), []⟩,
 ⟨some 16, some (15, false), .q (.mv (.t 0)), []⟩,
 ⟨some 17, some (15, false), .q (.bin .gtr (.t 16) (.v (.int .i64 100))), []⟩,
 ⟨some 18, none, .q (.pick (.t 15) (.v (.bool true)) (.t 17)), []⟩,
 ⟨some 19, none, .q (.mv (.t 18)), []⟩,
 ⟨some 20, some (19, false), .q (.mv (.t 1)), []⟩,
 ⟨some 21, some (19, false), .q (.bin .lss (.t 20) (.v (.int .i64 0))), []⟩,
 ⟨some 22, none, .q (.pick (.t 19) (.v (.bool true)) (.t 21)), []⟩,
 ⟨some 23, none, .q (.mv (.t 22)), []⟩,
 ⟨some 24, some (23, false), .q (.mv (.t 1)), []⟩,
 ⟨some 25, some (23, false), .q (.bin .gtr (.t 24) (.v (.int .i64 2))), []⟩,
 ⟨some 26, none, .q (.pick (.t 23) (.v (.bool true)) (.t 25)), []⟩]
def c3_2 : ACode := .ops [
 ⟨some 27, none, .e (.call 7 []), []⟩,
 ⟨some 4, none, .q (.mv (.t 27)), []⟩]
def c3_3 : ACode := .seq c3_2 .ret
def c3_4 : ACode := .cond (.t 26) c3_3 .skip
def c3_5 : ACode := .seq c3_1 c3_4
def c3_6 : ACode := .ops [
 ⟨some 28, none, .q (.bsl 1 [(.v (.str [40])), (.v (.str [45])), (.v (.str [70, 40]))]), []⟩,
 ⟨some 29, none, .q (.mv (.t 1)), []⟩,
 ⟨some 30, none, .q (.ia 1 (.t 28) (.t 29)), []⟩,
 ⟨some 31, none, .q (.ld none (.t 30)), []⟩,
 ⟨some 32, none, .q (.bsl 1 [(.v (.str [41])), (.v (.str [])), (.v (.str [41]))]), []⟩,
 ⟨some 33, none, .q (.mv (.t 1)), []⟩,
 ⟨some 34, none, .q (.ia 1 (.t 32) (.t 33)), []⟩,
 ⟨some 35, none, .q (.ld none (.t 34)), []⟩,
 ⟨some 5, none, .q (.mv (.t 31)), []⟩,
 ⟨some 6, none, .q (.mv (.t 35)), []⟩]
def c3_7 : ACode := .ops [
 ⟨some 7, none, .q (.mv (.v (.str []))), []⟩,
 ⟨some 8, none, .q (.mv (.v (.str []))), []⟩]
def c3_8 : ACode := .ops [
 ⟨some 9, none, .q (.mv (.v (.int .i64 0))), []⟩]
def c3_9 : ACode := .ops [
 ⟨some 36, none, .q (.mv (.t 9)), []⟩,
 ⟨some 37, none, .q (.mv (.t 0)), []⟩,
 ⟨some 38, none, .q (.bin .lss (.t 36) (.t 37)), []⟩]
def c3_10 : ACode := .cond (.t 38) .skip (.exit 0)
def c3_11 : ACode := .seq c3_9 c3_10
def c3_12 : ACode := .ops [
 ⟨some 41, none, .q (.mv (.t 7)), []⟩,
 ⟨some 42, none, .q (.mv (.t 5)), []⟩,
 ⟨some 43, none, .q (.bin .add (.t 41) (.t 42)), []⟩,
 ⟨some 7, none, .q (.mv (.t 43)), []⟩]
def c3_13 : ACode := .ops [
 ⟨some 44, none, .q (.mv (.t 8)), []⟩,
 ⟨some 45, none, .q (.mv (.t 6)), []⟩,
 ⟨some 46, none, .q (.bin .add (.t 44) (.t 45)), []⟩,
 ⟨some 8, none, .q (.mv (.t 46)), []⟩]
def c3_14 : ACode := .seq c3_12 c3_13
def c3_15 : ACode := .block 1 c3_14
def c3_16 : ACode := .ops [
 ⟨some 39, none, .q (.mv (.t 9)), []⟩,
 ⟨some 40, none, .q (.bin .add (.t 39) (.v (.int .i64 1))), []⟩,
 ⟨some 9, none, .q (.mv (.t 40)), []⟩]
def c3_17 : ACode := .seq c3_15 c3_16
def c3_18 : ACode := .seq c3_11 c3_17
def c3_19 : ACode := .loop c3_18
def c3_20 : ACode := .block 0 c3_19
def c3_21 : ACode := .seq c3_8 c3_20
def c3_22 : ACode := .ops [
 ⟨some 48, none, .q (.mv (.t 7)), []⟩,
 ⟨some 49, none, .q (.bin .add (.t 48) (.v (.str [49]))), []⟩,
 ⟨some 50, none, .q (.mv (.t 8)), []⟩,
 ⟨some 51, none, .q (.bin .add (.t 49) (.t 50)), []⟩,
 ⟨some 52, none, .e (.call 8 [(.t 51)]), []⟩,
 ⟨some 47, none, .q (.mv (.t 52)), []⟩,
 ⟨some 53, none, .q (.ext 0 (.t 47)), []⟩,
 ⟨some 54, none, .q (.ext 1 (.t 47)), []⟩,
 ⟨some 55, none, .q (.ext 2 (.t 47)), []⟩,
 ⟨some 10, none, .e (.alloc [(.int .i64 0), (.int .i64 0), (.str []), (.int .i64 0), (.int .i64 0), (.bool false), (.bool false), (.int .i64 0), (.int .i64 0), (.bool false), (.bool false), (.sl .full [])]), []⟩,
 ⟨none, none, .e (.store 12 (.t 10) (.t 53)), []⟩,
 ⟨some 11, none, .q (.mv (.t 54)), []⟩,
 ⟨some 12, none, .q (.mv (.t 55)), []⟩]
def c3_23 : ACode := .ops [
 ⟨some 56, none, .q (.mv (.t 0)), []⟩,
 ⟨some 57, none, .q (.bin .gtr (.t 56) (.v (.int .i64 40))), []⟩]
def c3_24 : ACode := .ops [
 ⟨some 58, none, .e (.call 7 []), []⟩,
 ⟨some 59, none, .q (.mv (.t 58)), []⟩,
 ⟨some 60, some (59, true), .q (.mv (.t 12)), []⟩,
 ⟨some 61, some (59, true), .q (.bin .eql (.t 60) (.v (.int .i64 12))), []⟩,
 ⟨some 62, none, .q (.pick (.t 59) (.t 61) (.v (.bool false))), []⟩,
 ⟨some 63, none, .q (.mv (.t 62)), []⟩,
 ⟨some 64, some (63, true), .q (.mv (.t 11)), []⟩,
 ⟨some 65, some (63, true), .q (.mv (.t 5)), []⟩,
 ⟨some 66, some (63, true), .q (.lenS (.t 65)), []⟩,
 ⟨some 67, some (63, true), .q (.bin .mul (.v (.int .i64 40)) (.t 66)), []⟩,
 ⟨some 68, some (63, true), .q (.bin .eql (.t 64) (.t 67)), []⟩,
 ⟨some 69, none, .q (.pick (.t 63) (.t 68) (.v (.bool false))), []⟩,
 ⟨some 4, none, .q (.mv (.t 69)), []⟩]
def c3_25 : ACode := .seq c3_24 .ret
def c3_26 : ACode := .cond (.t 57) c3_25 .skip
def c3_27 : ACode := .seq c3_23 c3_26
def c3_28 : ACode := .ops [
 ⟨some 70, none, .e (.call 7 []), []⟩,
 ⟨some 71, none, .q (.mv (.t 70)), []⟩,
 ⟨some 72, some (71, true), .q (.mv (.t 12)), []⟩,
 ⟨some 73, some (71, true), .q (.bin .eql (.t 72) (.v (.int .i64 0))), []⟩,
 ⟨some 74, none, .q (.pick (.t 71) (.t 73) (.v (.bool false))), []⟩,
 ⟨some 75, none, .q (.mv (.t 74)), []⟩,
 ⟨some 76, some (75, true), .q (.mv (.t 11)), []⟩,
 ⟨some 77, some (75, true), .q (.bin .eql (.t 76) (.v (.int .i64 0))), []⟩,
 ⟨some 78, none, .q (.pick (.t 75) (.t 77) (.v (.bool false))), []⟩,
 ⟨some 4, none, .q (.mv (.t 78)), []⟩]
def c3_29 : ACode := .seq c3_28 .ret
def c3_30 : ACode := .seq c3_27 c3_29
def c3_31 : ACode := .seq c3_22 c3_30
def c3_32 : ACode := .seq c3_21 c3_31
def c3_33 : ACode := .seq c3_7 c3_32
def c3_34 : ACode := .seq c3_6 c3_33
def c3_35 : ACode := .seq c3_5 c3_34
def c3_36 : ACode := .seq c3_0 c3_35
@[go_sem] def c3_0_wp := wp_of c3_0.eq_1
@[go_sem] def c3_1_wp := wp_of c3_1.eq_1
@[go_sem] def c3_2_wp := wp_of c3_2.eq_1
@[go_sem] def c3_3_wp := wp_of c3_3.eq_1
@[go_sem] def c3_4_wp := wp_of c3_4.eq_1
@[go_sem] def c3_5_wp := wp_of c3_5.eq_1
@[go_sem] def c3_6_wp := wp_of c3_6.eq_1
@[go_sem] def c3_7_wp := wp_of c3_7.eq_1
@[go_sem] def c3_8_wp := wp_of c3_8.eq_1
@[go_sem] def c3_9_wp := wp_of c3_9.eq_1
@[go_sem] def c3_10_wp := wp_of c3_10.eq_1
@[go_sem] def c3_11_wp := wp_of c3_11.eq_1
@[go_sem] def c3_12_wp := wp_of c3_12.eq_1
@[go_sem] def c3_13_wp := wp_of c3_13.eq_1
@[go_sem] def c3_14_wp := wp_of c3_14.eq_1
@[go_sem] def c3_15_wp := wp_of c3_15.eq_1
@[go_sem] def c3_16_wp := wp_of c3_16.eq_1
@[go_sem] def c3_17_wp := wp_of c3_17.eq_1
@[go_sem] def c3_18_wp := wp_of c3_18.eq_1
@[go_sem] def c3_19_wp := wp_of c3_19.eq_1
@[go_sem] def c3_20_wp := wp_of c3_20.eq_1
@[go_sem] def c3_21_wp := wp_of c3_21.eq_1
@[go_sem] def c3_22_wp := wp_of c3_22.eq_1
@[go_sem] def c3_23_wp := wp_of c3_23.eq_1
@[go_sem] def c3_24_wp := wp_of c3_24.eq_1
@[go_sem] def c3_25_wp := wp_of c3_25.eq_1
@[go_sem] def c3_26_wp := wp_of c3_26.eq_1
@[go_sem] def c3_27_wp := wp_of c3_27.eq_1
@[go_sem] def c3_28_wp := wp_of c3_28.eq_1
@[go_sem] def c3_29_wp := wp_of c3_29.eq_1
@[go_sem] def c3_30_wp := wp_of c3_30.eq_1
@[go_sem] def c3_31_wp := wp_of c3_31.eq_1
@[go_sem] def c3_32_wp := wp_of c3_32.eq_1
@[go_sem] def c3_33_wp := wp_of c3_33.eq_1
@[go_sem] def c3_34_wp := wp_of c3_34.eq_1
@[go_sem] def c3_35_wp := wp_of c3_35.eq_1
@[go_sem] def c3_36_wp := wp_of c3_36.eq_1
def c3 : AFn := ⟨79, [.t 4], c3_36⟩
theorem c3_ok : compF Tryz.prog Tryz.f3 = some c3 := by kernel_rfl
theorem a3 {args : List AV} {σ : ASt} {R : AV → ASt → Prop} (hl : args.length ≤ 79) (h : c3_36.wp Tryz.prog (RetQ [.t 4] R) (init args) σ) : ACalls Tryz.prog 3 args σ R := acalls_of Tryz.func3 c3_ok hl h
end Go.A
namespace Go.A
open Go.Proofs Go.Lib
theorem ParseDeep_any {σ : ASt} (hT : Tab σ) (hM : MaxL σ) (hU : U8 σ) (hV : LV σ) (n k : Int) : ACalls Tryz.prog 3 [.int .i64 n, .int .i64 k] σ fun v σ' => v = .bool true ∧ σ' = σ := by
  have hA := pawake_ok hT hM hU hV
  by_cases hin : 0 ≤ n ∧ n ≤ 100 ∧ 0 ≤ k ∧ k ≤ 2
  · obtain ⟨h0, h1, h2, h3⟩ := hin
    obtain ⟨N, rfl⟩ : ∃ N : Nat, n = (N : Int) := ⟨n.toNat, by omega⟩
    refine a3 (by simp) ?_
    obtain ⟨F, hF⟩ : ∃ F, F = ACode.wp Tryz.prog c3_33 := ⟨_, rfl⟩
    have tail : ∀ (O S : List UInt8) (a1 : AFr), O.length ≤ 2 → S.length ≤ 2 → (parseR (repL O N ++ [49] ++ repL S N)).2 = (if 40 < N then (40 * (O.length : Int), 12) else (0, 0)) →
        (a1 0 = .int .i64 N ∧ a1 5 = .str O ∧ a1 6 = .str S) → F (RetQ [.t 4] fun v σ' => v = .bool true ∧ σ' = σ) a1 σ := by
      intro O S a1 hO hS hfact hf1
      rw [hF]
      have hlen : (repL O N ++ [49] ++ repL S N).length ≤ 100000 := by
        rw [List.length_append, List.length_append, repL_len, repL_len]
        have e1 : N * O.length ≤ 100 * 2 := Nat.mul_le_mul (by omega) hO
        have e2 : N * S.length ≤ 100 * 2 := Nat.mul_le_mul (by omega) hS
        simp only [List.length_cons, List.length_nil]
        omega
      have hP := parseR_ok hU hV _ hlen
      obtain ⟨⟨nd, k', er⟩, hR⟩ : ∃ R, parseR (repL O N ++ [49] ++ repL S N) = R := ⟨_, rfl⟩
      rw [hR] at hP hfact
      dsimp only at hP hfact
      obtain ⟨op, m, x, a, b, ks⟩ := nd
      have hav : (Nd.mk op m x a b ks).av = .agg [.int .i64 op, .int .i64 m, .str x, .int .i64 a.row, .int .i64 a.col, .bool a.absRow, .bool a.absCol, .int .i64 b.row, .int .i64 b.col, .bool b.absRow, .bool b.absCol, .sl .shr (ks.map Nd.av)] := Nd.av_cs ..
      rw [hav] at hP
      generalize ks.map Nd.av = L at *
      simp (disch := first | assumption | omega | (simp only [List.length_append, List.length_cons, List.length_nil]; omega)) only [go_sem]
      refine wp_loop_by (fun (i : Nat) a' σ' => σ' = σ ∧ i ≤ N ∧ (a' 0 = .int .i64 N ∧ a' 5 = .str O ∧ a' 7 = .str (repL O i) ∧ a' 6 = .str S ∧ a' 8 = .str (repL S i) ∧ a' 9 = .int .i64 i)) (fun i => N - i) 0 (Dr.now ⟨rfl, Nat.zero_le _, by simp [hf1, repL, AFr.upd]⟩) ?_
      rintro i a2 σ2 ⟨rfl, hi, hf2⟩
      have l1 : (repL O i).length ≤ 200 := by
        rw [repL_len]
        have e1 : i * O.length ≤ 100 * 2 := Nat.mul_le_mul (by omega) hO
        omega
      have l2 : (repL S i).length ≤ 200 := by
        rw [repL_len]
        have e1 : i * S.length ≤ 100 * 2 := Nat.mul_le_mul (by omega) hS
        omega
      by_cases hlt : i < N
      · simp (disch := first | assumption | omega | (simp only [List.length_append, List.length_cons, List.length_nil]; omega)) only [go_sem, reduceCtorEq, Nat.reduceEqDiff, ↓reduceIte, hf2]
        refine ⟨i + 1, by dsimp only; omega, Dr.now ⟨rfl, hlt, ?_⟩⟩
        simp [hf2, repL, AFr.upd]
      · obtain rfl : i = N := by omega
        simp (disch := first | assumption | omega | (simp only [List.length_append, List.length_cons, List.length_nil]; omega)) only [go_sem, reduceCtorEq, Nat.reduceEqDiff, ↓reduceIte, hf2]
        refine hP.mono ?_
        rintro v σ' ⟨rfl, rfl⟩
        simp (disch := first | assumption | omega | (simp only [List.length_append, List.length_cons, List.length_nil]; omega)) only [go_sem, Nat.reduceEqDiff, ↓reduceIte]
        refine allocC_by fun d hd => ?_
        have T1 := Tab.set (r := some (.obj [.int .i64 op, .int .i64 m, .str x, .int .i64 a.row, .int .i64 a.col, .bool a.absRow, .bool a.absCol, .int .i64 b.row, .int .i64 b.col, .bool b.absRow, .bool b.absCol, .sl .shr L])) hT hd
        have M1 := MaxL.set (r := some (.obj [.int .i64 op, .int .i64 m, .str x, .int .i64 a.row, .int .i64 a.col, .bool a.absRow, .bool a.absCol, .int .i64 b.row, .int .i64 b.col, .bool b.absRow, .bool b.absCol, .sl .shr L])) hM hd
        have U1 := U8.set (r := some (.obj [.int .i64 op, .int .i64 m, .str x, .int .i64 a.row, .int .i64 a.col, .bool a.absRow, .bool a.absCol, .int .i64 b.row, .int .i64 b.col, .bool b.absRow, .bool b.absCol, .sl .shr L])) hU hd
        have V1 := lv_set (r := some (.obj [.int .i64 op, .int .i64 m, .str x, .int .i64 a.row, .int .i64 a.col, .bool a.absRow, .bool a.absCol, .int .i64 b.row, .int .i64 b.col, .bool b.absRow, .bool b.absCol, .sl .shr L])) hV hd
        have hA2 := pawake_ok T1 M1 U1 V1
        by_cases h40 : 40 < i
        · rw [if_pos h40, Prod.mk.injEq] at hfact
          obtain ⟨rfl, rfl⟩ := hfact
          simp (disch := first | assumption | omega | (simp only [List.length_append, List.length_cons, List.length_nil]; omega)) only [go_sem, reduceCtorEq, Nat.reduceEqDiff, Nat.reduceAdd, Nat.reduceLeDiff, ↓reduceIte, Bool.true_and, hf2, ASt.set_set]
          refine hA2.mono ?_
          rintro v τ ⟨rfl, rfl⟩
          simp (disch := first | assumption | omega | (simp only [List.length_append, List.length_cons, List.length_nil]; omega)) only [go_sem, Nat.reduceEqDiff, ↓reduceIte, hf2]
          exact retC_by (by repeat' (first | exact Drop.refl _ | with_reducible refine Drop.off ?_ (by assumption))) (.refl _) ⟨rfl, rfl⟩
        · rw [if_neg h40, Prod.mk.injEq] at hfact
          obtain ⟨rfl, rfl⟩ := hfact
          simp (disch := first | assumption | omega | (simp only [List.length_append, List.length_cons, List.length_nil]; omega)) only [go_sem, reduceCtorEq, Nat.reduceEqDiff, Nat.reduceAdd, Nat.reduceLeDiff, ↓reduceIte, Bool.true_and, hf2, ASt.set_set]
          refine hA2.mono ?_
          rintro v τ ⟨rfl, rfl⟩
          simp (disch := first | assumption | omega | (simp only [List.length_append, List.length_cons, List.length_nil]; omega)) only [go_sem, Nat.reduceEqDiff, ↓reduceIte]
          exact retC_by (by repeat' (first | exact Drop.refl _ | with_reducible refine Drop.off ?_ (by assumption))) (.refl _) ⟨rfl, rfl⟩
    obtain ⟨K, rfl⟩ : ∃ K : Nat, k = (K : Int) := ⟨k.toNat, by omega⟩
    have hfact := deep_fact K N (by omega) (by omega)
    unfold deepT at hfact
    have hK : K = 0 ∨ K = 1 ∨ K = 2 := by omega
    rcases hK with rfl | rfl | rfl
    · simp (disch := first | assumption | omega | (simp only [List.length_append, List.length_cons, List.length_nil]; omega)) only [go_sem, reduceCtorEq, Nat.reduceEqDiff, Int.reduceLT, ↓reduceIte, Bool.true_and, ←hF]
      exact tail [40] [41] _ (by decide) (by decide) hfact (by simp [AFr.upd, init])
    · simp (disch := first | assumption | omega | (simp only [List.length_append, List.length_cons, List.length_nil]; omega)) only [go_sem, reduceCtorEq, Nat.reduceEqDiff, Int.reduceLT, ↓reduceIte, Int.reduceToNat, Bool.true_and, ←hF]
      exact tail [45] [] _ (by decide) (by decide) hfact (by simp [AFr.upd, init])
    · simp (disch := first | assumption | omega | (simp only [List.length_append, List.length_cons, List.length_nil]; omega)) only [go_sem, reduceCtorEq, Nat.reduceEqDiff, Int.reduceLT, ↓reduceIte, Int.reduceToNat, Bool.true_and, ←hF]
      exact tail [70, 40] [41] _ (by decide) (by decide) hfact (by simp [AFr.upd, init])
  · refine a3 (by simp) ?_
    repeat' (first | (simp (disch := first | assumption | omega | (simp only [List.length_append, List.length_cons, List.length_nil]; omega)) only [go_sem, reduceCtorEq, Nat.reduceEqDiff, ↓reduceIte]) | with_reducible refine gC_d (fun h => ?_) (fun h => ?_) | with_reducible refine gC_dn (fun h => ?_) (fun h => ?_) | with_reducible refine condC_d (fun h => ?_) (fun h => ?_) | with_reducible refine condC_n (fun h => ?_) (fun h => ?_) | with_reducible refine condC_b (fun h => ?_) (fun h => ?_) | with_reducible refine boxC_by ?_ fun b hb => ?_)
    all_goals first
      | (exfalso; omega)
      | (refine hA.mono ?_; rintro v σ' ⟨rfl, rfl⟩; simp (disch := first | assumption | omega | (simp only [List.length_append, List.length_cons, List.length_nil]; omega)) only [go_sem, ↓reduceIte]; exact retC_by (.refl _) (.refl _) ⟨rfl, rfl⟩)
end Go.A
namespace Go.Proofs.YtkgondgecdmjpaaGreatDoor
open Go Go.ChangeShapes Go.WideShapes Go.ChangeAt Go.RowKit Go.A Go.Lib Go.Shelf
theorem row_own : ownKnob Tryz.prog.godebug = none := by kernel_rfl
theorem row_laid : laidOutB Tryz.prog = true := by kernel_rfl
theorem first_eq : Rows.laid_unicode_utf8_first = firstData := by kernel_rfl
theorem acc_eq : (Rows.laid_unicode_utf8_acceptRanges : DataW Unit) = acceptData := by kernel_rfl
theorem u8_extra : U8Extra Tryz.prog Tryz.lays260_ren := ⟨by kernel_rfl, by kernel_rfl, by kernel_rfl, by kernel_rfl, by kernel_rfl, by kernel_rfl, by kernel_rfl⟩
theorem var_size {P : Program} {w : World} {n : String} {d : DataW Unit} (h : VarReads P w n d) {g : Nat} (hg : P.globalNamed n = some g) {t e : TypeId} {k : Nat} (hty : (P.globals[g]?).map (·.type) = some t) (ht : P.underlying t = some (.array k e)) :
    ∃ cs T fr, w.heap[g]? = some (.cells cs T fr) ∧ cs.size = P.cellsOf t := by
  obtain ⟨g', t', cs, fuel, p, hg', hty', hvar, hd⟩ := h
  obtain rfl := Option.some.inj (hg.symm.trans hg')
  obtain rfl := Option.some.inj (hty.symm.trans hty')
  have hlen : cs.toList.length = P.cellsOf t := by
    cases fuel with
    | zero => simp [DataW.trod] at hd
    | succ fuel =>
      simp only [DataW.trod, ht] at hd
      split at hd
      · assumption
      · cases hd
  unfold World.var? at hvar
  rw [hg, Option.bind_some] at hvar
  split at hvar
  · rename_i cs' T fr hheap
    injection hvar with hvar
    subst hvar
    exact ⟨_, _, _, hheap, by simpa using hlen⟩
  · cases hvar
theorem ints_reps {σ : ASt} {w : World} {k : IntKind} : ∀ zs : List Int, Reps σ w (zs.map (AV.int k)) (zs.map (Value.int k))
  | [] => .nil
  | z :: zs => .cons (.int k z) (ints_reps zs)
theorem fix_ok {σ : ASt} {W : World} {b : Nat} {zs : List Int} (hs : σ b = some (.fix (zs.map (AV.int .u8)))) {cs : Array Value} {T : TypeId} {fr : Nat × Nat} (hh : W.heap[b]? = some (.cells cs T fr)) (hsz : cs.size = zs.length)
    (hc : ∀ j z, zs[j]? = some z → W.cell? ⟨b, j, none⟩ = some (.int .u8 z)) : RoleOk σ W b (.fix (zs.map (AV.int .u8))) := by
  have hlt : b < W.heap.size := (Array.getElem?_eq_some_iff.1 hh).1
  refine ⟨At.mk' (ints_reps _) (fun j _ => ⟨hlt, .inr (.inl ⟨_, hs⟩)⟩) (fun j v hj => ?_), cs, T, fr, hh, by simpa using hsz⟩
  rw [List.getElem?_map] at hj
  obtain ⟨z, hz, rfl⟩ := Option.map_eq_some_iff.1 hj
  rw [Nat.zero_add]
  exact hc j z hz
def stOf : List (Nat × List AV) → ASt
  | [], _ => none
  | p :: ps, b => if b = p.1 then some (.fix p.2) else stOf ps b
theorem stOf_fix : ∀ {ps : List (Nat × List AV)} {b : Nat} {r : Role}, stOf ps b = some r → ∃ l, r = .fix l
  | [], _, _, h => by cases h
  | p :: ps, b, r, h => by
    simp only [stOf] at h
    split at h
    · injection h with h; exact ⟨_, h.symm⟩
    · exact stOf_fix h
theorem stOf_mem : ∀ {ps : List (Nat × List AV)} {b : Nat} {r : Role}, stOf ps b = some r → ∃ l, (b, l) ∈ ps ∧ r = .fix l
  | [], _, _, h => by cases h
  | p :: ps, b, r, h => by
    simp only [stOf] at h
    split at h
    · rename_i hb
      injection h with h
      subst hb
      exact ⟨p.2, List.mem_cons_self, h.symm⟩
    · obtain ⟨l, hl, he⟩ := stOf_mem h
      exact ⟨l, List.mem_cons_of_mem _ hl, he⟩
theorem still_fix {σ : ASt} (hfx : ∀ b r, σ b = some r → ∃ l, r = .fix l) {w : World} {b o : Nat} (h : b < w.heap.size) : Still σ w b o := by
  refine ⟨h, ?_⟩
  cases hb : σ b with
  | none => exact .inl rfl
  | some r => obtain ⟨l, rfl⟩ := hfx b r hb; exact .inr (.inl ⟨_, rfl⟩)
end Go.Proofs.YtkgondgecdmjpaaGreatDoor
namespace Go.A
section
variable {σ : ASt} {w : World}
theorem Still.fixed (hfx : ∀ b r, σ b = some r → ∃ l, r = .fix l) {b o : Nat} (h : Still noRole w b o) : Still σ w b o := by
  refine ⟨h.1, ?_⟩
  cases hb : σ b with
  | none => exact .inl rfl
  | some r => obtain ⟨l, rfl⟩ := hfx b r hb; exact .inr (.inl ⟨_, rfl⟩)
theorem Stands.fixed (hfx : ∀ b r, σ b = some r → ∃ l, r = .fix l) (b : Nat) : Stands σ b := by
  refine ⟨fun cs h => ?_, fun l p h => ?_, fun T cs h => ?_⟩ <;> (obtain ⟨l, hl⟩ := hfx b _ h; cases hl)
theorem SK.ok_fixed (hfx : ∀ b r, σ b = some r → ∃ l, r = .fix l) {k : SK} {b o n c sz : Nat} (h : k.ok noRole w b o n c sz) : k.ok σ w b o n c sz := by
  cases k with
  | shr => trivial
  | full => exact h
  | tok t s T => exact ⟨h.1, h.2.1, h.2.2.1, h.2.2.2.1, Stands.fixed hfx b⟩
mutual
theorem Rep.fixed (hfx : ∀ b r, σ b = some r → ∃ l, r = .fix l) : ∀ {a : AV} {v : Value}, Rep noRole w a v → Rep σ w a v
  | _, _, .any v => .any v
  | _, _, .bool b => .bool b
  | _, _, .int k n => .int k n
  | _, _, .str l => .str l
  | _, _, .ptr b o => .ptr b o
  | _, _, .imm h1 => .imm (h1.fixed hfx)
  | _, _, .nilp => .nilp
  | _, _, .slE A c => .slE A c
  | _, _, .slN => .slN
  | _, _, .sl h1 h2 h3 h4 h5 => .sl (h1.fixed hfx) h2 h3 (SK.ok_fixed hfx h4) h5
  | _, _, .msl b o n c => .msl b o n c
  | _, _, .agg h1 => .agg (h1.fixed hfx)
  | _, _, .tuple h1 => .tuple (h1.fixed hfx)
  | _, _, .iface h1 => .iface (h1.fixed hfx)
  | _, _, .nili => .nili
  | _, _, .func h1 h2 => .func (h1.fixed hfx) (h2.fixed hfx)
  | _, _, .nilf => .nilf
theorem Reps.fixed (hfx : ∀ b r, σ b = some r → ∃ l, r = .fix l) : ∀ {avs : List AV} {vs : List Value}, Reps noRole w avs vs → Reps σ w avs vs
  | _, _, .nil => .nil
  | _, _, .cons h1 h2 => .cons (h1.fixed hfx) (h2.fixed hfx)
theorem At.fixed (hfx : ∀ b r, σ b = some r → ∃ l, r = .fix l) : ∀ {b o : Nat} {avs : List AV}, At noRole w b o avs → At σ w b o avs
  | _, _, _, .nil b o => .nil b o
  | _, _, _, .cons h1 h2 h3 h4 => .cons (h1.fixed hfx) h2 (h3.fixed hfx) (h4.fixed hfx)
theorem Row.fixed (hfx : ∀ b r, σ b = some r → ∃ l, r = .fix l) : ∀ {b o sz : Nat} {avs : List AV}, Row noRole w b o sz avs → Row σ w b o sz avs
  | _, _, _, _, .nil b o sz => .nil b o sz
  | _, _, _, _, .cons h1 h2 h3 => .cons h1 (h2.fixed hfx) (h3.fixed hfx)
end
end
end Go.A
namespace Go.Proofs.YtkgondgecdmjpaaGreatDoor
open Go Go.ChangeShapes Go.WideShapes Go.ChangeAt Go.RowKit Go.A Go.Lib Go.Shelf
theorem u8_roles {σ : ASt} {W : World} (h3 : VarReads Tryz.prog W "unicode/utf8.first" firstData) (h4 : VarReads Tryz.prog W "unicode/utf8.acceptRanges" acceptData) :
    (σ 1 = some (.fix (firstTab.map (AV.int .u8))) → RoleOk σ W 1 (.fix (firstTab.map (AV.int .u8)))) ∧ (σ 2 = some (.fix (accTab.map (AV.int .u8))) → RoleOk σ W 2 (.fix (accTab.map (AV.int .u8)))) := by
  have hT := utf8Tabs_of_reads (ρ := Tryz.lays260_ren) Tryz.lays260 u8_extra h3 h4
  obtain ⟨hT1, hT2⟩ := hT
  have hT1 : ∀ c, c < 256 → W.cell? ⟨1, c, none⟩ = some (.int .u8 (firstT c)) := hT1
  have hT2 : ∀ i, i < 16 → W.cell? ⟨2, 2 * i, none⟩ = some (.int .u8 (accLo i)) ∧ W.cell? ⟨2, 2 * i + 1, none⟩ = some (.int .u8 (accHi i)) := hT2
  constructor
  · intro hs
    obtain ⟨cs, T, fr, hh, hsz⟩ := var_size h3 (g := 1) (by kernel_rfl) u8_extra.y3 (Tryz.lays260.t119)
    refine fix_ok hs hh (hsz.trans (by kernel_rfl)) fun j z hj => ?_
    have hl := (List.getElem?_eq_some_iff.1 hj).1
    simp only [firstTab, List.length_map, List.length_range] at hl
    simp only [firstTab, List.getElem?_map, List.getElem?_range hl, Option.map_some, Option.some.injEq] at hj
    subst hj
    exact hT1 j hl
  · intro hs
    obtain ⟨cs, T, fr, hh, hsz⟩ := var_size h4 (g := 2) (by kernel_rfl) u8_extra.y4 (Tryz.lays260.t139)
    refine fix_ok hs hh (hsz.trans (by kernel_rfl)) fun j z hj => ?_
    have hl := (List.getElem?_eq_some_iff.1 hj).1
    have key : ∀ j, j < 32 → accTab[j]? = some (if j % 2 = 0 then (accLo (j / 2) : Int) else accHi (j / 2)) := by decide
    have hl : j < 32 := hl
    rw [key j hl] at hj
    injection hj with hj
    subst hj
    obtain ⟨g1, g2⟩ := hT2 (j / 2) (by omega)
    split
    · rw [show 2 * (j / 2) = j by omega] at g1; exact g1
    · rw [show 2 * (j / 2) + 1 = j by omega] at g2; exact g2
theorem pow_role {σ : ASt} {W : World} (hfx : ∀ b r, σ b = some r → ∃ l, r = .fix l) (h3 : VarReads Tryz.prog W "internal/strconv.uint64pow10" (Lib.tabData .u64 Lib.pow10Tab)) :
    RoleOk σ W 3 (.fix (Lib.pow10Tab.map (AV.int .u64))) := by
  obtain ⟨g', t', cs, fuel, p, hg', ht', hvar, hd⟩ := h3
  obtain rfl := Option.some.inj ((show Tryz.prog.globalNamed "internal/strconv.uint64pow10" = some 3 by kernel_rfl).symm.trans hg')
  obtain rfl := Option.some.inj ((show (Tryz.prog.globals[3]?).map (·.type) = some 152 by kernel_rfl).symm.trans ht')
  have hcs := cells_of_tab (n := 20) (e := 97) (k := .u64) (by kernel_rfl) (by kernel_rfl) (by kernel_rfl) (by kernel_rfl) hd
  unfold World.var? at hvar
  rw [show Tryz.prog.globalNamed "internal/strconv.uint64pow10" = some 3 by kernel_rfl, Option.bind_some] at hvar
  split at hvar
  · rename_i cs' T fr hheap
    injection hvar with hvar
    have hlt : 3 < W.heap.size := (Array.getElem?_eq_some_iff.1 hheap).1
    have he : cs' = (Lib.pow10Tab.map fun z => Value.int .u64 z).toArray := by rw [hvar]; exact Array.ext' (by simpa using hcs)
    refine ⟨At.mk' (ints_reps _) (fun j _ => still_fix hfx hlt) (fun j v hj => ?_), cs', T, fr, hheap, by rw [he]; simp⟩
    simp only [World.cell?, hheap, Nat.zero_add, he]
    simpa using hj
  · cases hvar
end Go.Proofs.YtkgondgecdmjpaaGreatDoor
namespace Go.Proofs.YtkgondgecdmjpaaGreatDoor
open Go Go.ChangeShapes Go.WideShapes Go.ChangeAt Go.RowKit Go.A Go.Lib Go.Shelf
def vPs : List (Nat × List AV) := [(1, firstTab.map (AV.int .u8)), (2, accTab.map (AV.int .u8)), (3, Lib.pow10Tab.map (AV.int .u64))]
def vSt : ASt := stOf vPs
end Go.Proofs.YtkgondgecdmjpaaGreatDoor
namespace Go
variable {H : Type} {enc : TypeId × Value → H}
theorem A.returnsInHanded_and_shaped {a : Assume} {C : Checked} {os : Os} {f : FuncId} {fn : Func} {s : ChangeSpec} {conds : List PathCond} {apart fresh handsOn again : Bool} {X : World → Array Value → Prop}
    (hX : ∀ (w w' : World) (args : Array Value), w.heap = w'.heap → X w args → X w' args)
    (own : ownKnob C.prog.godebug = none) (started : os.Started) (noInit : C.prog.inits.idxOf? f = none) (hfn : C.prog.funcs[f]? = some fn)
    (witness : ∃ (w : World) (tape : Tape) (i : Input), w.os = os ∧ (w.forCall tape i).Shaped C.prog ∧ i.vars = [] ∧ Input.okWide C.prog (w.forCall tape i) .any w.heap.size f i ∧
      ((s.pre enc C.prog fn conds apart (w.forCall tape i).memory i.args ∧ X (w.forCall tape i).memory i.args) ∧ sizedMet enc C.prog fn (OpenSpec.ofChange s) apart (w.forCall tape i).memory i.args) ∧ a.holds C.prog (lone (Frame.enter C.prog f i.args .normal) [] (w.forCall tape i)))
    (contract : ∀ (W : World) (base : Nat) (args : Array Value) (ds gs : List (DataW H)) (before : List MemPlace),
      (∀ (j : Nat) t v, fn.params[j]? = some t → args[j]? = some v → Value.okWide C.prog W .any base t v) →
      DataW.Whole enc C.prog fn.params.toList s.vars apart W args.toList ds gs before →
      W.ShapedOpen C.prog → X W args →
      Calls C.prog f args W fun e W' => ∃ v, e = .returned v ∧ s.post enc C.prog fn apart fresh handsOn again W args v W') :
    ReturnsInHanded a C os f .any (fun w args => (s.pre enc C.prog fn conds apart w args ∧ X w args) ∧ sizedMet enc C.prog fn (OpenSpec.ofChange s) apart w args) (s.post enc C.prog fn apart fresh handsOn again) := by
  refine returnsInHanded_of_calls own started noInit witness ?_
  intro w tape i _ hsh _ hok hpre hholds
  obtain ⟨_, _, _, fn', hfn', _, _, _, _, hval⟩ := hok
  have e : fn' = fn := Option.some.inj (hfn'.symm.trans hfn)
  subst e
  obtain ⟨⟨⟨ds, gs, before, hw, hc⟩, hx⟩, hz⟩ := hpre
  have hw' := DataW.Whole.of_heap (w' := w.forCall tape i) (by rfl) hw
  refine (contract (w.forCall tape i) w.heap.size i.args ds gs before hval hw' hsh (hX _ _ _ (by rfl) hx)).mono fun e W' ⟨v, he, hp⟩ => ?_
  subst he
  exact ChangeSpec.post_blind hp
end Go
namespace Go.Proofs.YtkgondgecdmjpaaGreatDoor
open Go Go.ChangeShapes Go.WideShapes Go.ChangeAt Go.RowKit Go.A Go.Lib Go.Shelf
def wSt (m : Int) : ASt := fun b => if b = 4 then some (.fix ([m].map (AV.int .i64))) else vSt b
theorem wSt_fix {m : Int} {b : Nat} {r : Role} (h : wSt m b = some r) : ∃ l, r = .fix l := by
  unfold wSt at h
  split at h
  · injection h with h; exact ⟨_, h.symm⟩
  · exact stOf_fix h
end Go.Proofs.YtkgondgecdmjpaaGreatDoor
namespace Go.Proofs.YtkgondgecdmjpaaGreatDoor
open Go Go.ChangeShapes Go.WideShapes Go.ChangeAt Go.RowKit Go.A Go.Lib Go.Shelf
theorem strs_trod {H : Type} {enc : TypeId × Value → H} {P : Program} {w : World} {base : Nat} {spare : Nat → Bool} {held : Bool} {fuel : Nat} {t e : TypeId} {cs : List Value} {l : List (List UInt8)} {m : List MemPlace}
    (ht : P.underlying t = some (.slice e)) (he : P.underlying e = some .string) (hc : P.cellsOf e = 1) (hl : 0 < l.length)
    (hd : DataW.trod enc P w base spare held fuel t cs = some (.slice (l.map fun s => .lit (.string s)) [], m)) :
    ∃ R o cap, cs = [.slice (some ⟨R, o, none⟩) l.length cap] ∧ l.length ≤ cap ∧ ∀ j s, l[j]? = some s → w.cell? ⟨R, o + j, none⟩ = some (.string ⟨⟨s⟩⟩) := by
  rcases DataW.trod_slice ht hd with ⟨_, hx⟩ | ⟨a, len, cap, el, rs, k, rfl, hcs, hx, _, hlc, _, hel, helem, hsp, _⟩
  · cases hx
  have e0 := congrArg Prod.fst hx
  simp only [DataW.slice.injEq] at e0
  obtain ⟨eE, eR⟩ := e0
  have hlen : len = l.length := by
    have := congrArg List.length eE
    simp at this
    omega
  have hcell : ∀ i z, l[i]? = some z → w.cell? (a.add i) = some (.string ⟨⟨z⟩⟩) := by
    intro i z hiz
    have hi : i < l.length := (List.getElem?_eq_some_iff.1 hiz).1
    have h1 := helem i (by omega)
    rw [hc] at h1
    obtain ⟨b, hb⟩ : ∃ b, el[i]? = some b := ⟨el[i]'(by omega), List.getElem?_eq_getElem (by omega)⟩
    rw [hb] at h1
    obtain ⟨ce, hce, hte⟩ := Option.bind_eq_some_iff.1 h1
    obtain ⟨z', hz, hbz, _⟩ := DataW.trod_string he hte
    have hb1 : b.1 = .lit (.string z) := by
      have := congrArg (·[i]?) eE
      simp only [List.getElem?_map, hiz, hb, Option.map_some, Option.some.injEq] at this
      exact this.symm
    rw [hbz] at hb1
    simp only [DataW.lit.injEq, Lit.string.injEq] at hb1
    obtain ⟨_, _, hcc⟩ := World.cells?_some hce
    have := hcc 0 (by omega)
    rw [hz] at this
    simp only [Nat.mul_one] at this
    have e1 : (a.add i).add 0 = a.add i := by simp [Addr.add]
    rw [e1] at this
    rw [this, ← hb1]
    rfl
  obtain ⟨z0, hz0⟩ : ∃ z, l[0]? = some z := ⟨l[0], List.getElem?_eq_getElem hl⟩
  obtain ⟨R, o, sR⟩ := a
  obtain rfl : sR = none := by
    have h00 := hcell 0 z0 hz0
    have : (Addr.add ⟨R, o, sR⟩ 0) = ⟨R, o, sR⟩ := by simp [Addr.add]
    rw [this] at h00
    exact Go.Proofs.cell_spot h00
  exact ⟨R, o, cap, by rw [hcs, hlen], by omega, fun j s hj => by have := hcell j s hj; rwa [Addr.add_lit] at this⟩
theorem block_lt {w : World} {R o : Nat} {s : Option Nat} {v : Value} (h : w.cell? ⟨R, o, none⟩ = some v) : R < w.heap.size := by
  refine Nat.lt_of_not_le fun hge => ?_
  simp [World.cell?, Array.getElem?_eq_none hge] at h
theorem strs_row {σ : ASt} {w : World} {b : Nat} (hst : ∀ o, Still σ w b o) : ∀ (zs : List (List UInt8)) (o : Nat), (∀ j z, zs[j]? = some z → w.cell? ⟨b, o + j, none⟩ = some (.string ⟨⟨z⟩⟩)) → Row σ w b o 1 (zs.map AV.str)
  | [], o, _ => .nil _ _ _
  | z :: zs, o, h => .cons rfl (.cons (hst o) (h 0 z rfl) (.str z) (.nil _ _)) (strs_row hst zs (o + 1) fun j z' hj => by
      have := h (j + 1) z' (by simpa using hj)
      rwa [show o + (j + 1) = o + 1 + j by omega] at this)
theorem strss_row {σ : ASt} {w : World} {b : Nat} (hst : ∀ o, Still σ w b o) : ∀ (zs : List (List (List UInt8))) (o : Nat),
    (∀ j z, zs[j]? = some z → ∃ v, w.cell? ⟨b, o + j, none⟩ = some v ∧ Rep σ w (.sl .shr (z.map AV.str)) v) → Row σ w b o 1 (zs.map fun l => AV.sl .shr (l.map AV.str))
  | [], o, _ => .nil _ _ _
  | z :: zs, o, h => by
    obtain ⟨v, hv, hr⟩ := h 0 z rfl
    exact .cons rfl (.cons (hst o) hv hr (.nil _ _)) (strss_row hst zs (o + 1) fun j z' hj => by
      have := h (j + 1) z' (by simpa using hj)
      rwa [show o + (j + 1) = o + 1 + j by omega] at this)
theorem levels_role {σ : ASt} {W : World} (hfx : ∀ b r, σ b = some r → ∃ l, r = .fix l) (h : VarReads Tryz.prog W "tabular/parse.levels" (.slice (levelsL.map fun l => .slice (l.map fun s => .lit (.string s)) []) [])) :
    RoleOk σ W 0 (.fix [lvAV]) := by
  obtain ⟨g', t', cs, fuel, p, hg, hty, hvar, hd⟩ := h
  obtain rfl := Option.some.inj ((show Tryz.prog.globalNamed "tabular/parse.levels" = some 0 by kernel_rfl).symm.trans hg)
  obtain rfl := Option.some.inj ((show (Tryz.prog.globals[0]?).map (·.type) = some 70 by kernel_rfl).symm.trans hty)
  have ht : Tryz.prog.underlying 70 = some (.slice 23) := by kernel_rfl
  have ht2 : Tryz.prog.underlying 23 = some (.slice 9) := by kernel_rfl
  have he : Tryz.prog.underlying 9 = some .string := by kernel_rfl
  have hc : Tryz.prog.cellsOf 23 = 1 := by kernel_rfl
  have hc2 : Tryz.prog.cellsOf 9 = 1 := by kernel_rfl
  have hpos : ∀ (j : Nat) (z : List (List UInt8)), levelsL[j]? = some z → 0 < z.length := by
    intro j z hj
    match j, hj with
    | 0, hj | 1, hj | 2, hj | 3, hj | 4, hj => injection hj with hj; subst hj; decide
  rcases DataW.trod_slice ht hd with ⟨_, hx⟩ | ⟨a, len, cap, el, rs, k, rfl, hcs, hx, _, hlc, _, hel, helem, hsp, _⟩
  · cases hx
  have e0 := congrArg Prod.fst hx
  simp only [DataW.slice.injEq] at e0
  obtain ⟨eE, eR⟩ := e0
  have hlen : len = levelsL.length := by
    have := congrArg List.length eE
    simp at this
    omega
  have hcell : ∀ i z, levelsL[i]? = some z → ∃ v, W.cell? (a.add i) = some v ∧ Rep σ W (.sl .shr (z.map AV.str)) v := by
    intro i z hiz
    have hi : i < levelsL.length := (List.getElem?_eq_some_iff.1 hiz).1
    have h1 := helem i (by omega)
    rw [hc] at h1
    obtain ⟨b, hb⟩ : ∃ b, el[i]? = some b := ⟨el[i]'(by omega), List.getElem?_eq_getElem (by omega)⟩
    rw [hb] at h1
    obtain ⟨ce, hce, hte⟩ := Option.bind_eq_some_iff.1 h1
    have hb1 : b.1 = .slice (z.map fun s => .lit (.string s)) [] := by
      have := congrArg (·[i]?) eE
      simp only [List.getElem?_map, hiz, hb, Option.map_some, Option.some.injEq] at this
      exact this.symm
    obtain ⟨b1, b2⟩ := b
    dsimp only at hb1
    subst hb1
    obtain ⟨R, o, cap', rfl, hle, hcells⟩ := strs_trod ht2 he hc2 (hpos i z hiz) hte
    obtain ⟨_, _, hcc⟩ := World.cells?_some hce
    have := hcc 0 (by omega)
    simp only [Nat.mul_one] at this
    have e1 : (a.add i).add 0 = a.add i := by simp [Addr.add]
    rw [e1] at this
    obtain ⟨z0, hz0⟩ : ∃ z0, z[0]? = some z0 := ⟨z[0]'(hpos i z hiz), List.getElem?_eq_getElem (hpos i z hiz)⟩
    have hR := block_lt (s := none) (hcells 0 z0 hz0)
    exact ⟨_, this, .sl (sz := 1) (strs_row (fun o => still_fix hfx hR) z o hcells) (by simp) hle trivial hR⟩
  obtain ⟨R, o, sR⟩ := a
  obtain ⟨v0, h00, _⟩ := hcell 0 [[61], [60, 62], [60], [60, 61], [62], [62, 61]] rfl
  obtain rfl : sR = none := by
    have : (Addr.add ⟨R, o, sR⟩ 0) = ⟨R, o, sR⟩ := by simp [Addr.add]
    rw [this] at h00
    exact Go.Proofs.cell_spot h00
  have hR : R < W.heap.size := by
    have : (Addr.add ⟨R, o, none⟩ 0) = ⟨R, o, none⟩ := by simp [Addr.add]
    rw [this] at h00
    exact block_lt (s := none) h00
  have hrow := strss_row (fun o => still_fix hfx hR) levelsL o fun j z hj => by
    obtain ⟨v, hv, hr⟩ := hcell j z hj
    rw [Addr.add_lit] at hv
    exact ⟨v, hv, hr⟩
  unfold World.var? at hvar
  rw [hg, Option.bind_some] at hvar
  split at hvar
  · rename_i cs' T fr hheap
    injection hvar with hvar
    subst hvar
    have hcs2 : cs' = #[.slice (some ⟨R, o, none⟩) levelsL.length cap] := by
      rw [← hlen]
      exact Array.ext' (by simpa using hcs)
    subst hcs2
    have hlt : 0 < W.heap.size := (Array.getElem?_eq_some_iff.1 hheap).1
    have hce : W.cell? ⟨0, 0, none⟩ = some (.slice (some ⟨R, o, none⟩) levelsL.length cap) := by simp [World.cell?, hheap]
    have hrep : Rep σ W lvAV (.slice (some ⟨R, o, none⟩) levelsL.length cap) := .sl (sz := 1) hrow (by simp) (by omega) trivial hR
    exact ⟨.cons (still_fix hfx hlt) hce hrep (.nil _ _), _, T, fr, hheap, rfl⟩
  · cases hvar
def laidX : List (String × DataW Unit) := [("math/bits.deBruijn32tab", Rows.laid_math_bits_deBruijn32tab), ("math/bits.deBruijn64tab", Rows.laid_math_bits_deBruijn64tab), ("internal/strconv.uint64pow10", Rows.laid_internal_strconv_uint64pow10), ("unicode/utf8.acceptRanges", Rows.laid_unicode_utf8_acceptRanges), ("tabular/parse.levels", Rows.laid_tabular_parse_levels), ("unicode/utf8.first", Rows.laid_unicode_utf8_first)]
def xSt (m : Int) : ASt := fun b => if b = 0 then some (.fix [lvAV]) else wSt m b
theorem xSt_u8 (m : Int) : U8 (xSt m) := ⟨by simp [xSt, wSt, vSt, vPs, stOf], by simp [xSt, wSt, vSt, vPs, stOf]⟩
theorem xSt_tab (m : Int) : Tab (xSt m) := by simp [Tab, xSt, wSt, vSt, vPs, stOf]
theorem xSt_max (m : Int) : MaxL (xSt m) := ⟨m, by simp [xSt, wSt]⟩
theorem xSt_lv (m : Int) : LV (xSt m) := by simp [LV, xSt]
theorem xSt_fix {m : Int} {b : Nat} {r : Role} (h : xSt m b = some r) : ∃ l, r = .fix l := by
  unfold xSt at h
  split at h
  · injection h with h; exact ⟨_, h.symm⟩
  · exact wSt_fix h
theorem x_sim {W : World} (hsh : W.ShapedOpen Tryz.prog) (h : laidMetH Tryz.prog laidX W) : ∃ m, Sim (xSt m) W := by
  rw [MakeChecks.laidMetH_plain _ _ _ (by kernel_rfl)] at h
  have hp : VarReads Tryz.prog W "internal/strconv.uint64pow10" (Lib.tabData .u64 Lib.pow10Tab) := Lib.laidMet.reads h (.tail _ (.tail _ (.head _)))
  have h4 : VarReads Tryz.prog W "unicode/utf8.acceptRanges" acceptData := acc_eq ▸ Lib.laidMet.reads h (.tail _ (.tail _ (.tail _ (.head _))))
  have h5 : VarReads Tryz.prog W "tabular/parse.levels" (.slice (levelsL.map fun l => .slice (l.map fun s => .lit (.string s)) []) []) := Lib.laidMet.reads h (.tail _ (.tail _ (.tail _ (.tail _ (.head _)))))
  have h3 : VarReads Tryz.prog W "unicode/utf8.first" firstData := first_eq ▸ Lib.laidMet.reads h (.tail _ (.tail _ (.tail _ (.tail _ (.tail _ (.head _))))))
  obtain ⟨m, hm⟩ := Tryz.laysM155.s1_3 W hsh
  have hm : W.cell? ⟨4, 0, none⟩ = some (.int .i64 m) := hm
  obtain ⟨cs, hh, hsz, _⟩ := hsh.1 4 #[.int .i64 0] 3 (of_decide_eq_true (by kernel_rfl)) (by kernel_rfl)
  obtain ⟨r1, r2⟩ := u8_roles (σ := xSt m) h3 h4
  refine ⟨m, fun b r hb => ?_⟩
  have hb0 := hb
  unfold xSt at hb
  split at hb
  · rename_i hbb
    subst hbb
    injection hb with hb
    subst hb
    exact levels_role (fun _ _ => xSt_fix) h5
  unfold wSt at hb
  split at hb
  · rename_i hbb
    subst hbb
    injection hb with hb
    subst hb
    have hlt : 4 < W.heap.size := (Array.getElem?_eq_some_iff.1 hh).1
    refine ⟨At.mk' (ints_reps _) (fun j _ => ⟨hlt, .inr (.inl ⟨_, hb0⟩)⟩) (fun j v hj => ?_), cs, _, _, hh, hsz⟩
    match j, hj with
    | 0, hj => injection hj with hj; subst hj; exact hm
  · obtain ⟨l, hl, rfl⟩ := stOf_mem hb
    simp only [vPs, List.mem_cons, List.not_mem_nil, or_false, Prod.mk.injEq] at hl
    rcases hl with ⟨rfl, rfl⟩ | ⟨rfl, rfl⟩ | ⟨rfl, rfl⟩
    · exact r1 (xSt_u8 m).1
    · exact r2 (xSt_u8 m).2
    · exact pow_role (fun _ _ => xSt_fix) hp
theorem calls_x {m : Int} {f : FuncId} {args : List AV} {vs : List Value} {w : World} (h : ACalls Tryz.prog f args (xSt m) fun r σ' => r = .bool true ∧ σ' = xSt m) (hs : Sim (xSt m) w) (hr : Reps (xSt m) w args vs) :
    Calls Tryz.prog f ⟨vs⟩ w fun e w' => e = .returned (.bool true) ∧ Ext w w' :=
  (h w vs hs hr).mono fun e w' ⟨u, r, σ', he, ⟨hrt, hst⟩, hle, _, hrep⟩ => by
    subst hrt hst
    cases hrep
    refine ⟨he, Ext.of_below ⟨hle.os, hle.tape, hle.output, hle.size, fun k hk => ?_⟩⟩
    cases hn : xSt m k with
    | none => exact (hle.keep k hk hn).2
    | some r =>
      obtain ⟨l, rfl⟩ := xSt_fix hn
      exact (hle.fix k _ hk hn).2
end Go.Proofs.YtkgondgecdmjpaaGreatDoor
