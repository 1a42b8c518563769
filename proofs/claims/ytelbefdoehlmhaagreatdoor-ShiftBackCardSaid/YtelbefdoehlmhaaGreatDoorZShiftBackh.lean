/- Part 8 of what ShiftBack leans on: Pa CodeZk Zk CodePb. -/
import Derived.Test.YtelbefdoehlmhaaGreatDoorProg
import Derived.KernelRfl
import Derived.Test.YtelbefdoehlmhaaGreatDoorZShiftBackg
set_option linter.defProp false
set_option linter.unusedSimpArgs false
set_option linter.unusedVariables false
set_option maxRecDepth 100000
namespace Go.A
open Go.Proofs Go.Lib
structure PSt where
 i : Nat
 deep : Int
 err : Int
 bad : Int
 deriving DecidableEq
def endT : Tok := ⟨0, [], 0, 0⟩
def zN : Nd := .mk 0 0 [] .zero .zero []
section
variable (T : List Tok)
def PSt.next (s : PSt) : PSt := { s with i := s.i + 1 }
def curT (s : PSt) : Tok := if s.err ≠ 0 then endT else T.getD s.i endT
def failP (s : PSt) (e : Int) : PSt := if s.err = 0 then { s with err := e, bad := ((T.getD s.i endT).at' : Nat) } else s
def isOp (s : PSt) (x : List UInt8) : Bool := decide ((curT T s).kind = 6) && decide ((curT T s).text = x)
def mustP (s : PSt) (x : List UInt8) : PSt := if isOp T s x then s.next else failP T s 10
def enterP (s : PSt) : PSt := if 40 < s.deep + 1 then failP T { s with deep := s.deep + 1 } 12 else { s with deep := s.deep + 1 }
def leaveP (s : PSt) : PSt := { s with deep := s.deep - 1 }
def stepP1 (s : PSt) : PSt := if s.err = 0 then s.next else s
def levelsL : List (List (List UInt8)) := [[[61], [60, 62], [60], [60, 61], [62], [62, 61]], [[38]], [[43], [45]], [[42], [47]], [[94]]]
def idxS (x : List UInt8) : List (List UInt8) → Nat → Int
 | [], _ => -1
 | y :: l, i => if x = y then i else idxS x l (i + 1)
def idxP (l : List (List UInt8)) (x : List UInt8) : Int := idxS x l 0
theorem idxS_mem (x : List UInt8) : ∀ (l : List (List UInt8)) (k : Nat), decide (0 ≤ idxS x l k) = decide (x ∈ l)
 | [], k => by simp [idxS]
 | y :: l, k => by
   rw [idxS]
   by_cases h : x = y
   ·subst h; simp
   ·rw [if_neg h, idxS_mem x l (k + 1)]; simp [h]
theorem idxS_rng (x : List UInt8) : ∀ (l : List (List UInt8)) (k : Nat), -1 ≤ idxS x l k ∧ idxS x l k ≤ k + l.length
 | [], k => by simp only [idxS]; omega
 | y :: l, k => by
   rw [idxS]
   split
   ·simp only [List.length_cons]; omega
   ·have := idxS_rng x l (k + 1); simp only [List.length_cons]; omega
def sgn (s : PSt) (lvl : Nat) : Bool := decide ((curT T s).kind = 6) && decide ((curT T s).text ∈ levelsL.getD lvl [])
def refT (t : Tok) : Ref := (parseP t.text).1
def areaP (s : PSt) : Nd × PSt :=
 if isOp T s.next [58] = false then (.mk 5 0 [] (refT (curT T s)) .zero [], s.next)
 else if (curT T s.next.next).kind ≠ 4 then (zN, failP T s.next.next 10)
 else (.mk 6 0 [] (refT (curT T s)) (refT (curT T s.next.next)) [], s.next.next.next)
mutual
def betwP : Nat → Nat → PSt → Option (Nd × PSt)
 | 0, _, _ => none
 | f + 1, lvl, s => if lvl = 5 then signedP f s else match betwP f (lvl + 1) s with
   | none => none
   | some r => loopP f lvl r.1 r.2
def loopP : Nat → Nat → Nd → PSt → Option (Nd × PSt)
 | 0, _, _, _ => none
 | f + 1, lvl, n, s => if sgn T s lvl = true then (match betwP f (lvl + 1) s.next with
   | none => none
   | some r => loopP f lvl (.mk (10 + idxP signL (curT T s).text) 0 [] .zero .zero [n, r.1]) r.2) else some (n, s)
def signedP : Nat → PSt → Option (Nd × PSt)
 | 0, _ => none
 | f + 1, s => if isOp T s [45] = true then (match signedP f (stepP1 (enterP T s)) with
   | none => none
   | some r => some (.mk 7 0 [] .zero .zero [r.1], leaveP r.2))
  else if isOp T s [43] = true then (match signedP f (stepP1 (enterP T s)) with
   | none => none
   | some r => some (.mk 8 0 [] .zero .zero [r.1], leaveP r.2))
  else hundredP f s
def hundredP : Nat → PSt → Option (Nd × PSt)
 | 0, _ => none
 | f + 1, s => match primP f s with
   | none => none
   | some r => hloopP f r.1 r.2
def hloopP : Nat → Nd → PSt → Option (Nd × PSt)
 | 0, _, _ => none
 | f + 1, n, s => if isOp T s [37] = true then hloopP f (.mk 9 0 [] .zero .zero [n]) s.next else some (n, s)
def primP : Nat → PSt → Option (Nd × PSt)
 | 0, _ => none
 | f + 1, s =>
   if (curT T s).kind = 1 then (match parseD (curT T s).text with
    | none => some (zN, failP T s 10)
    | some v => some (.mk 1 v [] .zero .zero [], s.next))
   else if (curT T s).kind = 2 then some (.mk 2 0 (curT T s).text .zero .zero [], s.next)
   else if (curT T s).kind = 5 then some (.mk 4 ((idxP errL (curT T s).text + 1) * 10000) [] .zero .zero [], s.next)
   else if (curT T s).kind = 4 then some (areaP T s)
   else if (curT T s).kind = 3 then nameP f s
   else if isOp T s [40] = true then (match betwP f 0 (stepP1 (enterP T s)) with
    | none => none
    | some r => some (r.1, leaveP (mustP T r.2 [41])))
   else some (zN, failP T s 10)
def nameP : Nat → PSt → Option (Nd × PSt)
 | 0, _ => none
 | f + 1, s =>
   if (T.getD (s.i + 1) endT).kind = 6 ∧ (T.getD (s.i + 1) endT).text = [40] then
    (if (enterP T s).err ≠ 0 then some (zN, leaveP (enterP T s))
     else match argsP f (enterP T s).next.next with
      | none => none
      | some r => some (.mk 22 0 (curT T s).text .zero .zero r.1, leaveP r.2))
   else if (curT T s).text = [84, 82, 85, 69] then some (.mk 3 1 [] .zero .zero [], s.next)
   else if (curT T s).text = [70, 65, 76, 83, 69] then some (.mk 3 0 [] .zero .zero [], s.next)
   else some (zN, failP T s 10)
def argsP : Nat → PSt → Option (List Nd × PSt)
 | 0, _ => none
 | f + 1, s => if isOp T s [41] = true then some ([], s.next) else aloopP f [] s
def aloopP : Nat → List Nd → PSt → Option (List Nd × PSt)
 | 0, _, _ => none
 | f + 1, l, s => if s.err ≠ 0 then some (l, s) else
   match (if isOp T s [44] = true ∨ isOp T s [41] = true then some (missN, s) else betwP f 0 s) with
   | none => none
   | some r => if isOp T r.2 [44] = true then aloopP f (l ++ [r.1]) r.2.next else some (l ++ [r.1], mustP T r.2 [41])
end
def parseT (f : Nat) (s : List UInt8) : Option (Nd × Int × Int) :=
 if (lexP s).2.2 ≠ 0 then some (zN, (lexP s).2.1, (lexP s).2.2) else
 match betwP (lexP s).1 f 0 ⟨0, 0, 0, 0⟩ with
 | none => none
 | some r =>
   if (if (curT (lexP s).1 r.2).kind ≠ 0 then failP (lexP s).1 r.2 10 else r.2).err ≠ 0 then some (zN, (if (curT (lexP s).1 r.2).kind ≠ 0 then failP (lexP s).1 r.2 10 else r.2).bad, (if (curT (lexP s).1 r.2).kind ≠ 0 then failP (lexP s).1 r.2 10 else r.2).err)
   else some (r.1, 0, 0)
end
structure Ends (T : List Tok) : Prop where
 pos : 0 < T.length
 last : ∀ i, i + 1 = T.length → (T.getD i endT).kind = 0
 more : ∀ i, i < T.length → (T.getD i endT).kind ≠ 0 → i + 1 < T.length
structure Fit (T : List Tok) (s : PSt) : Prop where
 i : s.i < T.length
 d0 : 0 ≤ s.deep
 d1 : s.deep ≤ 41
 d2 : s.err = 0 → s.deep ≤ 40
structure Went (T : List Tok) (s s' : PSt) : Prop where
 fit : Fit T s'
 le : s.i ≤ s'.i
 deep : s'.deep = s.deep
 err : s.err ≠ 0 → s'.err = s.err ∧ s'.i = s.i
section
variable {T : List Tok}
theorem Went.refl {s : PSt} (h : Fit T s) : Went T s s := ⟨h, Nat.le_refl _, rfl, fun _ => ⟨rfl, rfl⟩⟩
theorem Went.trans {s s' s'' : PSt} (h : Went T s s') (k : Went T s' s'') : Went T s s'' :=
 ⟨k.fit, Nat.le_trans h.le k.le, k.deep.trans h.deep, fun he => by
  obtain ⟨h1, h2⟩ := h.err he
  obtain ⟨k1, k2⟩ := k.err (by rw [h1]; exact he)
  exact ⟨k1.trans h1, k2.trans h2⟩⟩
theorem Fit.next {s : PSt} (hT : Ends T) (h : Fit T s) (hk : (curT T s).kind ≠ 0) : Fit T s.next ∧ s.err = 0 := by
 unfold curT at hk
 split at hk
 ·exact absurd rfl hk
 ·rename_i he
  have := hT.more s.i h.i hk
  exact ⟨⟨this, h.d0, h.d1, h.d2⟩, by simpa using he⟩
theorem Went.next {s : PSt} (hT : Ends T) (h : Fit T s) (hk : (curT T s).kind ≠ 0) : Went T s s.next :=
 ⟨(h.next hT hk).1, Nat.le_succ _, rfl, fun he => absurd (h.next hT hk).2 he⟩
theorem Fit.fail {s : PSt} (h : Fit T s) (e : Int) (he : e ≠ 0) : Fit T (failP T s e) := by
 unfold failP
 split
 ·exact ⟨h.i, h.d0, h.d1, fun h0 => absurd h0 he⟩
 ·exact h
theorem Went.fail {s : PSt} (h : Fit T s) (e : Int) (he : e ≠ 0) : Went T s (failP T s e) := by
 refine ⟨h.fail e he, ?_, ?_, fun h0 => ?_⟩
 ·unfold failP; split <;> exact Nat.le_refl _
 ·unfold failP; split <;> rfl
 ·unfold failP; rw [if_neg h0]; exact ⟨rfl, rfl⟩
theorem isOp_kind {s : PSt} {x : List UInt8} (h : isOp T s x = true) : (curT T s).kind ≠ 0 := by
 unfold isOp at h
 simp only [Bool.and_eq_true, decide_eq_true_eq] at h
 omega
theorem sgn_kind {s : PSt} {l : Nat} (h : sgn T s l = true) : (curT T s).kind ≠ 0 := by
 unfold sgn at h
 simp only [Bool.and_eq_true, decide_eq_true_eq] at h
 omega
theorem Went.must {s : PSt} (hT : Ends T) (h : Fit T s) (x : List UInt8) : Went T s (mustP T s x) := by
 unfold mustP
 split
 ·rename_i hx; exact Went.next hT h (isOp_kind hx)
 ·exact Went.fail h 10 (by decide)
theorem enter_fit {s : PSt} (hT : Ends T) (h : Fit T s) (hk : (curT T s).kind ≠ 0) : Fit T (stepP1 (enterP T s)) ∧ (stepP1 (enterP T s)).deep = s.deep + 1 ∧ s.i ≤ (stepP1 (enterP T s)).i := by
 obtain ⟨h1, h2⟩ := h.next hT hk
 have hd := h.d2 h2
 unfold enterP
 split
 ·unfold failP
  dsimp only
  rw [if_pos h2]
  unfold stepP1
  dsimp only
  rw [if_neg (by decide)]
  exact ⟨⟨h.i, by have := h.d0; dsimp only; omega, by dsimp only; omega, fun h0 => absurd h0 (by dsimp only; decide)⟩, rfl, Nat.le_refl _⟩
 ·unfold stepP1
  dsimp only
  rw [if_pos h2]
  exact ⟨⟨h1.i, by have := h.d0; dsimp only [PSt.next]; omega, by dsimp only [PSt.next]; omega, fun _ => by dsimp only [PSt.next]; omega⟩, rfl, Nat.le_succ _⟩
theorem Went.leave {s s1 s2 : PSt} (h1 : s1.deep = s.deep + 1) (hle : s.i ≤ s1.i) (h0 : s.err = 0) (hs : Fit T s) (h : Went T s1 s2) : Went T s (leaveP s2) := by
 have hd := h.deep
 have e : (leaveP s2).deep = s2.deep - 1 := rfl
 have := hs.d0
 have := hs.d2 h0
 exact ⟨⟨h.fit.i, by omega, by omega, fun _ => by omega⟩, Nat.le_trans hle h.le, by omega, fun he => absurd h0 he⟩
theorem cur_err {s : PSt} (h : (curT T s).kind ≠ 0) : s.err = 0 := by
 unfold curT at h
 split at h
 ·exact absurd rfl h
 ·rename_i he; simpa using he
theorem cur_at {s : PSt} (h : s.err = 0) : curT T s = T.getD s.i endT := by unfold curT; rw [if_neg (by simp [h])]
theorem Went.area {s : PSt} (hT : Ends T) (h : Fit T s) (hk : (curT T s).kind = 4) : Went T s (areaP T s).2 := by
 have h1 := Went.next hT h (by omega)
 unfold areaP
 split
 ·exact h1
 ·rename_i ho
  have ho' : isOp T s.next [58] = true := by simpa using ho
  have h2 := h1.trans (Went.next hT h1.fit (isOp_kind ho'))
  split
  ·exact h2.trans (Went.fail h2.fit 10 (by decide))
  ·rename_i hk2
   exact h2.trans (Went.next hT h2.fit (by omega))
structure WentF (T : List Tok) (f : Nat) : Prop where
 betw : ∀ lvl s r, betwP T f lvl s = some r → Fit T s → Went T s r.2
 loop : ∀ lvl n s r, loopP T f lvl n s = some r → Fit T s → Went T s r.2
 signed : ∀ s r, signedP T f s = some r → Fit T s → Went T s r.2
 hundred : ∀ s r, hundredP T f s = some r → Fit T s → Went T s r.2
 hloop : ∀ n s r, hloopP T f n s = some r → Fit T s → Went T s r.2
 prim : ∀ s r, primP T f s = some r → Fit T s → Went T s r.2
 name : ∀ s r, nameP T f s = some r → Fit T s → (curT T s).kind = 3 → Went T s r.2
 args : ∀ s r, argsP T f s = some r → Fit T s → Went T s r.2
 aloop : ∀ l s r, aloopP T f l s = some r → Fit T s → Went T s r.2
theorem enter2 {s : PSt} (hT : Ends T) (h : Fit T s) (hk : (curT T s).kind ≠ 0) (he : (enterP T s).err = 0) : Fit T (enterP T s).next ∧ (enterP T s).deep = s.deep + 1 ∧ (enterP T s).i = s.i ∧ (enterP T s).next = stepP1 (enterP T s) := by
 have h1 := enter_fit hT h hk
 have e : stepP1 (enterP T s) = (enterP T s).next := if_pos he
 rw [e] at h1
 refine ⟨h1.1, h1.2.1, ?_, e.symm⟩
 unfold enterP failP
 split
 ·split <;> rfl
 ·rfl
theorem enter_err {s : PSt} (hT : Ends T) (h : Fit T s) (h0 : s.err = 0) : Fit T (enterP T s) ∧ (enterP T s).deep = s.deep + 1 ∧ (enterP T s).i = s.i := by
 have hd := h.d2 h0
 have := h.d0
 unfold enterP
 split
 ·unfold failP
  dsimp only
  rw [if_pos h0]
  exact ⟨⟨h.i, by dsimp only; omega, by dsimp only; omega, fun h => absurd h (by dsimp only; decide)⟩, rfl, rfl⟩
 ·exact ⟨⟨h.i, by dsimp only; omega, by dsimp only; omega, fun _ => by dsimp only; omega⟩, rfl, rfl⟩
theorem wentF (hT : Ends T) : ∀ f, WentF T f
 | 0 => by
   constructor
   all_goals intros
   all_goals first
    | (rename_i h _; simp only [betwP, loopP, signedP, hundredP, hloopP, primP, argsP, aloopP, reduceCtorEq] at h)
    | (rename_i h _ _; simp only [nameP, reduceCtorEq] at h)
 | f + 1 => by
   have ih := wentF hT f
   constructor
   ·intro lvl s r h hf
    rw [betwP] at h
    split at h
    ·exact ih.signed s r h hf
    ·split at h
     ·cases h
     ·rename_i r1 h1
      have w1 := ih.betw _ _ _ h1 hf
      exact w1.trans (ih.loop _ _ _ _ h w1.fit)
   ·intro lvl n s r h hf
    rw [loopP] at h
    split at h
    ·rename_i hk
     split at h
     ·cases h
     ·rename_i r1 h1
      have w0 := Went.next hT hf (sgn_kind hk)
      have w1 := w0.trans (ih.betw _ _ _ h1 w0.fit)
      exact w1.trans (ih.loop _ _ _ _ h w1.fit)
    ·injection h with h; subst h; exact Went.refl hf
   ·intro s r h hf
    rw [signedP] at h
    split at h
    ·rename_i hk
     split at h
     ·cases h
     ·rename_i r1 h1
      injection h with h; subst h
      obtain ⟨g1, g2, g3⟩ := enter_fit hT hf (isOp_kind hk)
      exact Went.leave g2 g3 (cur_err (isOp_kind hk)) hf (ih.signed _ _ h1 g1)
    split at h
    ·rename_i hk
     split at h
     ·cases h
     ·rename_i r1 h1
      injection h with h; subst h
      obtain ⟨g1, g2, g3⟩ := enter_fit hT hf (isOp_kind hk)
      exact Went.leave g2 g3 (cur_err (isOp_kind hk)) hf (ih.signed _ _ h1 g1)
    ·exact ih.hundred _ _ h hf
   ·intro s r h hf
    rw [hundredP] at h
    split at h
    ·cases h
    ·rename_i r1 h1
     have w1 := ih.prim _ _ h1 hf
     exact w1.trans (ih.hloop _ _ _ h w1.fit)
   ·intro n s r h hf
    rw [hloopP] at h
    split at h
    ·rename_i hk
     have w0 := Went.next hT hf (isOp_kind hk)
     exact w0.trans (ih.hloop _ _ _ h w0.fit)
    ·injection h with h; subst h; exact Went.refl hf
   ·intro s r h hf
    rw [primP] at h
    split at h
    ·rename_i hk
     split at h
     ·injection h with h; subst h; exact Went.fail hf 10 (by decide)
     ·injection h with h; subst h; exact Went.next hT hf (by rw [hk]; decide)
    split at h
    ·rename_i hk
     injection h with h; subst h; exact Went.next hT hf (by omega)
    split at h
    ·rename_i hk
     injection h with h; subst h; exact Went.next hT hf (by omega)
    split at h
    ·rename_i hk
     injection h with h; subst h; exact Went.area hT hf hk
    split at h
    ·rename_i hk
     exact ih.name _ _ h hf hk
    split at h
    ·rename_i hk
     split at h
     ·cases h
     ·rename_i r1 h1
      injection h with h; subst h
      obtain ⟨g1, g2, g3⟩ := enter_fit hT hf (isOp_kind hk)
      have w1 := ih.betw _ _ _ h1 g1
      exact Went.leave g2 g3 (cur_err (isOp_kind hk)) hf (w1.trans (Went.must hT w1.fit _))
    ·injection h with h; subst h; exact Went.fail hf 10 (by decide)
   ·intro s r h hf hk3
    have h0 : s.err = 0 := cur_err (T := T) (by omega)
    have hn := hf.next hT (by omega)
    rw [nameP] at h
    split at h
    ·rename_i hk
     obtain ⟨e1, e2, e3⟩ := enter_err hT hf h0
     split at h
     ·injection h with h; subst h
      exact Went.leave e2 (by omega) h0 hf (Went.refl e1)
     ·rename_i he
      split at h
      ·cases h
      ·rename_i r1 h1
       injection h with h; subst h
       obtain ⟨g1, g2, g3, _⟩ := enter2 hT hf (by omega) (by simpa using he)
       have hl := hT.more (s.i + 1) hn.1.i (by omega)
       have g4 : Fit T (enterP T s).next.next := ⟨by show (enterP T s).i + 1 + 1 < _; omega, g1.d0, g1.d1, g1.d2⟩
       exact Went.leave (s1 := (enterP T s).next.next) g2 (by show s.i ≤ (enterP T s).i + 1 + 1; omega) h0 hf (ih.args _ _ h1 g4)
    split at h
    ·injection h with h; subst h; exact Went.next hT hf (by omega)
    split at h
    ·injection h with h; subst h; exact Went.next hT hf (by omega)
    ·injection h with h; subst h; exact Went.fail hf 10 (by decide)
   ·intro s r h hf
    rw [argsP] at h
    split at h
    ·rename_i hk
     injection h with h; subst h; exact Went.next hT hf (isOp_kind hk)
    ·exact ih.aloop _ _ _ h hf
   ·intro l s r h hf
    rw [aloopP] at h
    split at h
    ·injection h with h; subst h; exact Went.refl hf
    ·rename_i he
     split at h
     ·cases h
     ·rename_i r1 h1
      have w1 : Went T s r1.2 := by
       split at h1
       ·injection h1 with h1; subst h1; exact Went.refl hf
       ·exact ih.betw _ _ _ h1 hf
      split at h
      ·rename_i hk
       have w2 := w1.trans (Went.next hT w1.fit (isOp_kind hk))
       exact w2.trans (ih.aloop _ _ _ h w2.fit)
      ·injection h with h; subst h; exact w1.trans (Went.must hT w1.fit _)
end
end Go.A
namespace Go.A
open Go.Proofs
/-! 27: tabular/token.Lex -/
def c27_0 : ACode := .ops [
 ⟨some 2, none, .q (.mv (.v (.sl .full []))), []⟩,
 ⟨some 3, none, .q (.mv (.v (.int .i64 0))), []⟩,
 ⟨some 4, none, .q (.mv (.v (.int .i64 0))), []⟩]
def c27_1 : ACode := .ops [
 ⟨some 7, none, .q (.mv (.t 0)), []⟩,
 ⟨some 8, none, .q (.lenS (.t 7)), []⟩,
 ⟨some 9, none, .q (.bin .gtr (.t 8) (.v (.int .i64 2000))), []⟩]
def c27_2 : ACode := .ops [
 ⟨some 2, none, .q (.mv (.v (.sl .full []))), []⟩,
 ⟨some 3, none, .q (.mv (.v (.int .i64 0))), []⟩,
 ⟨some 4, none, .q (.mv (.v (.int .i64 11))), []⟩]
def c27_3 : ACode := .seq c27_2 .ret
def c27_4 : ACode := .cond (.t 9) c27_3 .skip
def c27_5 : ACode := .seq c27_1 c27_4
def c27_6 : ACode := .ops [
 ⟨some 10, none, .q (.mv (.t 0)), []⟩,
 ⟨some 11, none, .q (.build [(.str []), (.int .i64 0), (.int .i64 0), (.sl .full [])] [(0, 1, (.t 10))]), []⟩,
 ⟨some 12, none, .e (.box (.t 11)), []⟩,
 ⟨some 5, none, .q (.mv (.t 12)), []⟩]
def c27_7 : ACode := .ops [
 ⟨some 13, none, .q (.mv (.t 5)), []⟩,
 ⟨some 14, none, .q (.nc (.t 13)), []⟩,
 ⟨some 15, none, .q (.fa 1 (.t 14)), []⟩,
 ⟨some 16, none, .q (.ld none (.t 15)), []⟩,
 ⟨some 17, none, .q (.mv (.t 0)), []⟩,
 ⟨some 18, none, .q (.lenS (.t 17)), []⟩,
 ⟨some 19, none, .q (.bin .lss (.t 16) (.t 18)), []⟩]
def c27_8 : ACode := .cond (.t 19) .skip (.exit 0)
def c27_9 : ACode := .seq c27_7 c27_8
def c27_10 : ACode := .ops [
 ⟨some 20, none, .q (.mv (.t 5)), []⟩,
 ⟨some 21, none, .e (.call 46 [(.t 20)]), []⟩,
 ⟨some 6, none, .q (.mv (.t 21)), []⟩]
def c27_11 : ACode := .ops [
 ⟨some 22, none, .q (.mv (.t 6)), []⟩,
 ⟨some 23, none, .q (.bin .neq (.t 22) (.v (.int .i64 0))), []⟩]
def c27_12 : ACode := .ops [
 ⟨some 24, none, .q (.mv (.t 5)), []⟩,
 ⟨some 25, none, .q (.nc (.t 24)), []⟩,
 ⟨some 26, none, .q (.fa 1 (.t 25)), []⟩,
 ⟨some 27, none, .q (.ld none (.t 26)), []⟩,
 ⟨some 28, none, .q (.mv (.t 6)), []⟩,
 ⟨some 2, none, .q (.mv (.v (.sl .full []))), []⟩,
 ⟨some 3, none, .q (.mv (.t 27)), []⟩,
 ⟨some 4, none, .q (.mv (.t 28)), []⟩]
def c27_13 : ACode := .seq c27_12 .ret
def c27_14 : ACode := .cond (.t 23) c27_13 .skip
def c27_15 : ACode := .seq c27_11 c27_14
def c27_16 : ACode := .seq c27_10 c27_15
def c27_17 : ACode := .block 1 c27_16
def c27_18 : ACode := .seq c27_9 c27_17
def c27_19 : ACode := .loop c27_18
def c27_20 : ACode := .block 0 c27_19
def c27_21 : ACode := .ops [
 ⟨some 29, none, .q (.mv (.t 5)), []⟩,
 ⟨some 30, none, .e (.call 47 [(.t 29), (.v (.int .i64 0)), (.v (.str [])), (.v (.int .i64 0))]), []⟩]
def c27_22 : ACode := .ops [
 ⟨some 31, none, .q (.mv (.t 5)), []⟩,
 ⟨some 32, none, .q (.nc (.t 31)), []⟩,
 ⟨some 33, none, .q (.fa 3 (.t 32)), []⟩,
 ⟨some 34, none, .q (.ld none (.t 33)), []⟩,
 ⟨some 2, none, .q (.mv (.t 34)), []⟩,
 ⟨some 3, none, .q (.mv (.v (.int .i64 0))), []⟩,
 ⟨some 4, none, .q (.mv (.v (.int .i64 0))), []⟩]
def c27_23 : ACode := .seq c27_22 .ret
def c27_24 : ACode := .seq c27_21 c27_23
def c27_25 : ACode := .seq c27_20 c27_24
def c27_26 : ACode := .seq c27_6 c27_25
def c27_27 : ACode := .seq c27_5 c27_26
def c27_28 : ACode := .seq c27_0 c27_27
@[go_sem] def c27_0_wp := wp_of c27_0.eq_1
@[go_sem] def c27_1_wp := wp_of c27_1.eq_1
@[go_sem] def c27_2_wp := wp_of c27_2.eq_1
@[go_sem] def c27_3_wp := wp_of c27_3.eq_1
@[go_sem] def c27_4_wp := wp_of c27_4.eq_1
@[go_sem] def c27_5_wp := wp_of c27_5.eq_1
@[go_sem] def c27_6_wp := wp_of c27_6.eq_1
@[go_sem] def c27_7_wp := wp_of c27_7.eq_1
@[go_sem] def c27_8_wp := wp_of c27_8.eq_1
@[go_sem] def c27_9_wp := wp_of c27_9.eq_1
@[go_sem] def c27_10_wp := wp_of c27_10.eq_1
@[go_sem] def c27_11_wp := wp_of c27_11.eq_1
@[go_sem] def c27_12_wp := wp_of c27_12.eq_1
@[go_sem] def c27_13_wp := wp_of c27_13.eq_1
@[go_sem] def c27_14_wp := wp_of c27_14.eq_1
@[go_sem] def c27_15_wp := wp_of c27_15.eq_1
@[go_sem] def c27_16_wp := wp_of c27_16.eq_1
@[go_sem] def c27_17_wp := wp_of c27_17.eq_1
@[go_sem] def c27_18_wp := wp_of c27_18.eq_1
@[go_sem] def c27_19_wp := wp_of c27_19.eq_1
@[go_sem] def c27_20_wp := wp_of c27_20.eq_1
@[go_sem] def c27_21_wp := wp_of c27_21.eq_1
@[go_sem] def c27_22_wp := wp_of c27_22.eq_1
@[go_sem] def c27_23_wp := wp_of c27_23.eq_1
@[go_sem] def c27_24_wp := wp_of c27_24.eq_1
@[go_sem] def c27_25_wp := wp_of c27_25.eq_1
@[go_sem] def c27_26_wp := wp_of c27_26.eq_1
@[go_sem] def c27_27_wp := wp_of c27_27.eq_1
@[go_sem] def c27_28_wp := wp_of c27_28.eq_1
def c27 : AFn := ⟨35, [.t 2, .t 3, .t 4], c27_28⟩
theorem c27_ok : compF Tryz.prog Tryz.f27 = some c27 := by kernel_rfl
theorem a27 {args : List AV} {σ : ASt} {R : AV → ASt → Prop} (hl : args.length ≤ 35) (h : c27_28.wp Tryz.prog (RetQ [.t 2, .t 3, .t 4] R) (init args) σ) : ACalls Tryz.prog 27 args σ R := acalls_of Tryz.func27 c27_ok hl h
/-! 46: (*tabular/token.lexer).next -/
def c46_0 : ACode := .ops [
 ⟨some 2, none, .q (.mv (.v (.int .i64 0))), []⟩]
def c46_1 : ACode := .ops [
 ⟨some 6, none, .q (.mv (.t 0)), []⟩,
 ⟨some 7, none, .e (.call 60 [(.t 6)]), []⟩,
 ⟨some 5, none, .q (.mv (.t 7)), []⟩,
 ⟨some 8, none, .q (.ext 0 (.t 5)), []⟩,
 ⟨some 9, none, .q (.ext 1 (.t 5)), []⟩,
 ⟨some 3, none, .q (.mv (.t 8)), []⟩,
 ⟨some 4, none, .q (.mv (.t 9)), []⟩]
def c46_2 : ACode := .ops [
 ⟨some 15, none, .q (.mv (.t 4)), []⟩,
 ⟨some 16, none, .q (.bin .lss (.t 15) (.v (.int .i64 0))), []⟩,
 ⟨some 14, none, .q (.mv (.t 16)), []⟩]
def c46_3 : ACode := .ops [
 ⟨some 2, none, .q (.mv (.v (.int .i64 10))), []⟩]
def c46_4 : ACode := .seq c46_3 .ret
def c46_5 : ACode := .ops [
 ⟨some 18, none, .q (.mv (.t 3)), []⟩,
 ⟨some 19, none, .q (.bin .eql (.t 18) (.v (.int .i32 32))), []⟩,
 ⟨some 17, none, .q (.mv (.t 19)), []⟩]
def c46_6 : ACode := .ops [
 ⟨some 20, none, .q (.mv (.t 3)), []⟩,
 ⟨some 21, none, .q (.bin .eql (.t 20) (.v (.int .i32 9))), []⟩,
 ⟨some 17, none, .q (.mv (.t 21)), []⟩]
def c46_7 : ACode := .ops [
 ⟨some 22, none, .q (.mv (.t 3)), []⟩,
 ⟨some 23, none, .q (.bin .eql (.t 22) (.v (.int .i32 10))), []⟩,
 ⟨some 17, none, .q (.mv (.t 23)), []⟩]
def c46_8 : ACode := .cond (.t 17) .skip c46_7
def c46_9 : ACode := .seq c46_6 c46_8
def c46_10 : ACode := .cond (.t 17) .skip c46_9
def c46_11 : ACode := .seq c46_5 c46_10
def c46_12 : ACode := .ops [
 ⟨some 24, none, .q (.mv (.t 0)), []⟩,
 ⟨some 25, none, .q (.mv (.t 0)), []⟩,
 ⟨some 26, none, .q (.nc (.t 25)), []⟩,
 ⟨some 27, none, .q (.fa 1 (.t 26)), []⟩,
 ⟨some 28, none, .q (.ld none (.t 27)), []⟩,
 ⟨some 29, none, .q (.mv (.t 4)), []⟩,
 ⟨some 30, none, .q (.bin .add (.t 28) (.t 29)), []⟩,
 ⟨some 31, none, .e (.call 61 [(.t 24), (.t 30)]), []⟩]
def c46_13 : ACode := .ops [
 ⟨some 33, none, .q (.mv (.t 3)), []⟩,
 ⟨some 34, none, .q (.bin .lss (.t 33) (.v (.int .i32 128))), []⟩,
 ⟨some 35, none, .q (.mv (.t 34)), []⟩,
 ⟨some 36, some (35, true), .q (.mv (.t 3)), []⟩,
 ⟨some 37, some (35, true), .q (.conv .u8 (.t 36)), []⟩,
 ⟨some 38, some (35, true), .e (.call 62 [(.t 37)]), []⟩,
 ⟨some 39, none, .q (.pick (.t 35) (.t 38) (.v (.bool false))), []⟩,
 ⟨some 32, none, .q (.mv (.t 39)), []⟩]
def c46_14 : ACode := .ops [
 ⟨some 40, none, .q (.mv (.t 0)), []⟩,
 ⟨some 41, none, .e (.call 63 [(.t 40)]), []⟩,
 ⟨some 2, none, .q (.mv (.t 41)), []⟩]
def c46_15 : ACode := .seq c46_14 .ret
def c46_16 : ACode := .ops [
 ⟨some 43, none, .q (.mv (.t 3)), []⟩,
 ⟨some 44, none, .q (.bin .eql (.t 43) (.v (.int .i32 34))), []⟩,
 ⟨some 42, none, .q (.mv (.t 44)), []⟩]
def c46_17 : ACode := .ops [
 ⟨some 45, none, .q (.mv (.t 0)), []⟩,
 ⟨some 46, none, .e (.call 64 [(.t 45)]), []⟩,
 ⟨some 2, none, .q (.mv (.t 46)), []⟩]
def c46_18 : ACode := .seq c46_17 .ret
def c46_19 : ACode := .ops [
 ⟨some 48, none, .q (.mv (.t 3)), []⟩,
 ⟨some 49, none, .q (.bin .eql (.t 48) (.v (.int .i32 35))), []⟩,
 ⟨some 47, none, .q (.mv (.t 49)), []⟩]
def c46_20 : ACode := .ops [
 ⟨some 50, none, .q (.mv (.t 0)), []⟩,
 ⟨some 51, none, .e (.call 65 [(.t 50)]), []⟩,
 ⟨some 2, none, .q (.mv (.t 51)), []⟩]
def c46_21 : ACode := .seq c46_20 .ret
def c46_22 : ACode := .ops [
 ⟨some 10, none, .q (.mv (.t 0)), []⟩,
 ⟨some 11, none, .q (.mv (.t 3)), []⟩,
 ⟨some 12, none, .q (.mv (.t 4)), []⟩,
 ⟨some 13, none, .e (.call 66 [(.t 10), (.t 11), (.t 12)]), []⟩,
 ⟨some 2, none, .q (.mv (.t 13)), []⟩]
def c46_23 : ACode := .seq c46_22 .ret
def c46_24 : ACode := .cond (.t 47) c46_21 c46_23
def c46_25 : ACode := .seq c46_19 c46_24
def c46_26 : ACode := .cond (.t 42) c46_18 c46_25
def c46_27 : ACode := .seq c46_16 c46_26
def c46_28 : ACode := .cond (.t 32) c46_15 c46_27
def c46_29 : ACode := .seq c46_13 c46_28
def c46_30 : ACode := .cond (.t 17) c46_12 c46_29
def c46_31 : ACode := .seq c46_11 c46_30
def c46_32 : ACode := .cond (.t 14) c46_4 c46_31
def c46_33 : ACode := .seq c46_2 c46_32
def c46_34 : ACode := .block 0 c46_33
def c46_35 : ACode := .ops [
 ⟨some 2, none, .q (.mv (.v (.int .i64 0))), []⟩]
def c46_36 : ACode := .seq c46_35 .ret
def c46_37 : ACode := .seq c46_34 c46_36
def c46_38 : ACode := .seq c46_1 c46_37
def c46_39 : ACode := .seq c46_0 c46_38
@[go_sem] def c46_0_wp := wp_of c46_0.eq_1
@[go_sem] def c46_1_wp := wp_of c46_1.eq_1
@[go_sem] def c46_2_wp := wp_of c46_2.eq_1
@[go_sem] def c46_3_wp := wp_of c46_3.eq_1
@[go_sem] def c46_4_wp := wp_of c46_4.eq_1
@[go_sem] def c46_5_wp := wp_of c46_5.eq_1
@[go_sem] def c46_6_wp := wp_of c46_6.eq_1
@[go_sem] def c46_7_wp := wp_of c46_7.eq_1
@[go_sem] def c46_8_wp := wp_of c46_8.eq_1
@[go_sem] def c46_9_wp := wp_of c46_9.eq_1
@[go_sem] def c46_10_wp := wp_of c46_10.eq_1
@[go_sem] def c46_11_wp := wp_of c46_11.eq_1
@[go_sem] def c46_12_wp := wp_of c46_12.eq_1
@[go_sem] def c46_13_wp := wp_of c46_13.eq_1
@[go_sem] def c46_14_wp := wp_of c46_14.eq_1
@[go_sem] def c46_15_wp := wp_of c46_15.eq_1
@[go_sem] def c46_16_wp := wp_of c46_16.eq_1
@[go_sem] def c46_17_wp := wp_of c46_17.eq_1
@[go_sem] def c46_18_wp := wp_of c46_18.eq_1
@[go_sem] def c46_19_wp := wp_of c46_19.eq_1
@[go_sem] def c46_20_wp := wp_of c46_20.eq_1
@[go_sem] def c46_21_wp := wp_of c46_21.eq_1
@[go_sem] def c46_22_wp := wp_of c46_22.eq_1
@[go_sem] def c46_23_wp := wp_of c46_23.eq_1
@[go_sem] def c46_24_wp := wp_of c46_24.eq_1
@[go_sem] def c46_25_wp := wp_of c46_25.eq_1
@[go_sem] def c46_26_wp := wp_of c46_26.eq_1
@[go_sem] def c46_27_wp := wp_of c46_27.eq_1
@[go_sem] def c46_28_wp := wp_of c46_28.eq_1
@[go_sem] def c46_29_wp := wp_of c46_29.eq_1
@[go_sem] def c46_30_wp := wp_of c46_30.eq_1
@[go_sem] def c46_31_wp := wp_of c46_31.eq_1
@[go_sem] def c46_32_wp := wp_of c46_32.eq_1
@[go_sem] def c46_33_wp := wp_of c46_33.eq_1
@[go_sem] def c46_34_wp := wp_of c46_34.eq_1
@[go_sem] def c46_35_wp := wp_of c46_35.eq_1
@[go_sem] def c46_36_wp := wp_of c46_36.eq_1
@[go_sem] def c46_37_wp := wp_of c46_37.eq_1
@[go_sem] def c46_38_wp := wp_of c46_38.eq_1
@[go_sem] def c46_39_wp := wp_of c46_39.eq_1
def c46 : AFn := ⟨52, [.t 2], c46_39⟩
theorem c46_ok : compF Tryz.prog Tryz.f46 = some c46 := by kernel_rfl
theorem a46 {args : List AV} {σ : ASt} {R : AV → ASt → Prop} (hl : args.length ≤ 52) (h : c46_39.wp Tryz.prog (RetQ [.t 2] R) (init args) σ) : ACalls Tryz.prog 46 args σ R := acalls_of Tryz.func46 c46_ok hl h
/-! 47: (*tabular/token.lexer).put -/
def c47_0 : ACode := .ops [
 ⟨some 8, none, .q (.mv (.t 0)), []⟩,
 ⟨some 9, none, .q (.mv (.t 0)), []⟩,
 ⟨some 10, none, .q (.nc (.t 9)), []⟩,
 ⟨some 11, none, .q (.fa 3 (.t 10)), []⟩,
 ⟨some 12, none, .q (.ld none (.t 11)), []⟩,
 ⟨some 13, none, .q (.mv (.t 1)), []⟩,
 ⟨some 14, none, .q (.mv (.t 2)), []⟩,
 ⟨some 15, none, .q (.mv (.t 0)), []⟩,
 ⟨some 16, none, .q (.nc (.t 15)), []⟩,
 ⟨some 17, none, .q (.fa 1 (.t 16)), []⟩,
 ⟨some 18, none, .q (.ld none (.t 17)), []⟩,
 ⟨some 19, none, .q (.mv (.t 0)), []⟩,
 ⟨some 20, none, .q (.nc (.t 19)), []⟩,
 ⟨some 21, none, .q (.fa 2 (.t 20)), []⟩,
 ⟨some 22, none, .q (.ld none (.t 21)), []⟩,
 ⟨some 23, none, .q (.build [(.int .i64 0), (.str []), (.int .i64 0), (.int .i64 0)] [(0, 1, (.t 13)), (1, 1, (.t 14)), (2, 1, (.t 18)), (3, 1, (.t 22))]), []⟩,
 ⟨some 24, none, .q (.bsl 4 [(.t 23)]), []⟩,
 ⟨some 25, none, .e (.app 75 4 40 [(.int .i64 0), (.str []), (.int .i64 0), (.int .i64 0)] (.t 12) (.t 24)), []⟩,
 ⟨some 26, none, .q (.nc (.t 8)), []⟩,
 ⟨some 27, none, .q (.fa 3 (.t 26)), []⟩,
 ⟨none, none, .e (.store 1 (.t 27) (.t 25)), []⟩]
def c47_1 : ACode := .ops [
 ⟨some 28, none, .q (.mv (.t 0)), []⟩,
 ⟨some 29, none, .q (.nc (.t 28)), []⟩,
 ⟨some 30, none, .q (.fa 2 (.t 29)), []⟩,
 ⟨some 31, none, .q (.ld none (.t 30)), []⟩,
 ⟨some 32, none, .q (.mv (.t 0)), []⟩,
 ⟨some 33, none, .q (.nc (.t 32)), []⟩,
 ⟨some 34, none, .q (.fa 0 (.t 33)), []⟩,
 ⟨some 35, none, .q (.ld none (.t 34)), []⟩,
 ⟨some 36, none, .q (.mv (.t 0)), []⟩,
 ⟨some 37, none, .q (.nc (.t 36)), []⟩,
 ⟨some 38, none, .q (.fa 1 (.t 37)), []⟩,
 ⟨some 39, none, .q (.ld none (.t 38)), []⟩,
 ⟨some 40, none, .q (.mv (.t 0)), []⟩,
 ⟨some 41, none, .q (.nc (.t 40)), []⟩,
 ⟨some 42, none, .q (.fa 1 (.t 41)), []⟩,
 ⟨some 43, none, .q (.ld none (.t 42)), []⟩,
 ⟨some 44, none, .q (.mv (.t 3)), []⟩,
 ⟨some 45, none, .q (.bin .add (.t 43) (.t 44)), []⟩,
 ⟨some 46, none, .q (.sls (true, 0) (.t 35) (.t 39) (.t 45)), []⟩,
 ⟨some 47, none, .e (.call 67 [(.t 46)]), [⟨none, .ld none (.t 30), 31⟩]⟩,
 ⟨some 48, none, .q (.bin .add (.t 31) (.t 47)), []⟩,
 ⟨some 49, none, .q (.nc (.t 28)), []⟩,
 ⟨some 50, none, .q (.fa 2 (.t 49)), []⟩,
 ⟨none, none, .e (.store 1 (.t 50) (.t 48)), []⟩]
def c47_2 : ACode := .ops [
 ⟨some 51, none, .q (.mv (.t 0)), []⟩,
 ⟨some 52, none, .q (.nc (.t 51)), []⟩,
 ⟨some 53, none, .q (.fa 1 (.t 52)), []⟩,
 ⟨some 54, none, .q (.ld none (.t 53)), []⟩,
 ⟨some 55, none, .q (.mv (.t 3)), []⟩,
 ⟨some 56, none, .q (.bin .add (.t 54) (.t 55)), []⟩,
 ⟨some 57, none, .q (.nc (.t 51)), []⟩,
 ⟨some 58, none, .q (.fa 1 (.t 57)), []⟩,
 ⟨none, none, .e (.store 1 (.t 58) (.t 56)), []⟩]
def c47_3 : ACode := .seq c47_1 c47_2
def c47_4 : ACode := .seq c47_0 c47_3
@[go_sem] def c47_0_wp := wp_of c47_0.eq_1
@[go_sem] def c47_1_wp := wp_of c47_1.eq_1
@[go_sem] def c47_2_wp := wp_of c47_2.eq_1
@[go_sem] def c47_3_wp := wp_of c47_3.eq_1
@[go_sem] def c47_4_wp := wp_of c47_4.eq_1
def c47 : AFn := ⟨59, [], c47_4⟩
theorem c47_ok : compF Tryz.prog Tryz.f47 = some c47 := by kernel_rfl
theorem a47 {args : List AV} {σ : ASt} {R : AV → ASt → Prop} (hl : args.length ≤ 59) (h : c47_4.wp Tryz.prog (RetQ [] R) (init args) σ) : ACalls Tryz.prog 47 args σ R := acalls_of Tryz.func47 c47_ok hl h
/-! 60: (*tabular/token.lexer).sign -/
def c60_0 : ACode := .ops [
 ⟨some 2, none, .q (.mv (.v (.int .i32 0))), []⟩,
 ⟨some 3, none, .q (.mv (.v (.int .i64 0))), []⟩]
def c60_1 : ACode := .ops [
 ⟨some 6, none, .q (.mv (.t 0)), []⟩,
 ⟨some 7, none, .q (.nc (.t 6)), []⟩,
 ⟨some 8, none, .q (.fa 1 (.t 7)), []⟩,
 ⟨some 9, none, .q (.ld none (.t 8)), []⟩,
 ⟨some 10, none, .q (.mv (.t 0)), []⟩,
 ⟨some 11, none, .q (.nc (.t 10)), []⟩,
 ⟨some 12, none, .q (.fa 0 (.t 11)), []⟩,
 ⟨some 13, none, .q (.ld none (.t 12)), []⟩,
 ⟨some 14, none, .q (.lenS (.t 13)), []⟩,
 ⟨some 15, none, .q (.bin .geq (.t 9) (.t 14)), []⟩]
def c60_2 : ACode := .ops [
 ⟨some 2, none, .q (.mv (.v (.int .i32 0))), []⟩,
 ⟨some 3, none, .q (.mv (.v (.int .i64 0))), []⟩]
def c60_3 : ACode := .seq c60_2 .ret
def c60_4 : ACode := .cond (.t 15) c60_3 .skip
def c60_5 : ACode := .seq c60_1 c60_4
def c60_6 : ACode := .ops [
 ⟨some 17, none, .q (.mv (.t 0)), []⟩,
 ⟨some 18, none, .q (.nc (.t 17)), []⟩,
 ⟨some 19, none, .q (.fa 0 (.t 18)), []⟩,
 ⟨some 20, none, .q (.ld none (.t 19)), []⟩,
 ⟨some 21, none, .q (.mv (.t 0)), []⟩,
 ⟨some 22, none, .q (.nc (.t 21)), []⟩,
 ⟨some 23, none, .q (.fa 1 (.t 22)), []⟩,
 ⟨some 24, none, .q (.ld none (.t 23)), []⟩,
 ⟨some 25, none, .q (.slfrom (true, 0) (.t 20) (.t 24)), []⟩,
 ⟨some 26, none, .e (.call 84 [(.t 25)]), []⟩,
 ⟨some 16, none, .q (.mv (.t 26)), []⟩,
 ⟨some 27, none, .q (.ext 0 (.t 16)), []⟩,
 ⟨some 28, none, .q (.ext 1 (.t 16)), []⟩,
 ⟨some 4, none, .q (.mv (.t 27)), []⟩,
 ⟨some 5, none, .q (.mv (.t 28)), []⟩]
def c60_7 : ACode := .ops [
 ⟨some 29, none, .q (.mv (.t 4)), []⟩,
 ⟨some 30, none, .q (.bin .eql (.t 29) (.v (.int .i32 65533))), []⟩,
 ⟨some 31, none, .q (.mv (.t 30)), []⟩,
 ⟨some 32, some (31, true), .q (.mv (.t 5)), []⟩,
 ⟨some 33, some (31, true), .q (.bin .eql (.t 32) (.v (.int .i64 1))), []⟩,
 ⟨some 34, none, .q (.pick (.t 31) (.t 33) (.v (.bool false))), []⟩]
def c60_8 : ACode := .ops [
 ⟨some 2, none, .q (.mv (.v (.int .i32 0))), []⟩,
 ⟨some 3, none, .q (.mv (.v (.int .i64 (-1)))), []⟩]
def c60_9 : ACode := .seq c60_8 .ret
def c60_10 : ACode := .cond (.t 34) c60_9 .skip
def c60_11 : ACode := .seq c60_7 c60_10
def c60_12 : ACode := .ops [
 ⟨some 35, none, .q (.mv (.t 4)), []⟩,
 ⟨some 36, none, .q (.mv (.t 5)), []⟩,
 ⟨some 2, none, .q (.mv (.t 35)), []⟩,
 ⟨some 3, none, .q (.mv (.t 36)), []⟩]
def c60_13 : ACode := .seq c60_12 .ret
def c60_14 : ACode := .seq c60_11 c60_13
def c60_15 : ACode := .seq c60_6 c60_14
def c60_16 : ACode := .seq c60_5 c60_15
def c60_17 : ACode := .seq c60_0 c60_16
@[go_sem] def c60_0_wp := wp_of c60_0.eq_1
@[go_sem] def c60_1_wp := wp_of c60_1.eq_1
@[go_sem] def c60_4_wp := wp_of c60_4.eq_1
@[go_sem] def c60_5_wp := wp_of c60_5.eq_1
@[go_sem] def c60_6_wp := wp_of c60_6.eq_1
@[go_sem] def c60_7_wp := wp_of c60_7.eq_1
@[go_sem] def c60_8_wp := wp_of c60_8.eq_1
@[go_sem] def c60_9_wp := wp_of c60_9.eq_1
@[go_sem] def c60_10_wp := wp_of c60_10.eq_1
@[go_sem] def c60_11_wp := wp_of c60_11.eq_1
@[go_sem] def c60_12_wp := wp_of c60_12.eq_1
@[go_sem] def c60_13_wp := wp_of c60_13.eq_1
@[go_sem] def c60_14_wp := wp_of c60_14.eq_1
@[go_sem] def c60_15_wp := wp_of c60_15.eq_1
@[go_sem] def c60_16_wp := wp_of c60_16.eq_1
@[go_sem] def c60_17_wp := wp_of c60_17.eq_1
def c60 : AFn := ⟨37, [.t 2, .t 3], c60_17⟩
theorem c60_ok : compF Tryz.prog Tryz.f60 = some c60 := by kernel_rfl
theorem a60 {args : List AV} {σ : ASt} {R : AV → ASt → Prop} (hl : args.length ≤ 37) (h : c60_17.wp Tryz.prog (RetQ [.t 2, .t 3] R) (init args) σ) : ACalls Tryz.prog 60 args σ R := acalls_of Tryz.func60 c60_ok hl h
/-! 61: (*tabular/token.lexer).pass -/
def c61_0 : ACode := .ops [
 ⟨some 4, none, .q (.mv (.t 0)), []⟩,
 ⟨some 5, none, .q (.nc (.t 4)), []⟩,
 ⟨some 6, none, .q (.fa 2 (.t 5)), []⟩,
 ⟨some 7, none, .q (.ld none (.t 6)), []⟩,
 ⟨some 8, none, .q (.mv (.t 0)), []⟩,
 ⟨some 9, none, .q (.nc (.t 8)), []⟩,
 ⟨some 10, none, .q (.fa 0 (.t 9)), []⟩,
 ⟨some 11, none, .q (.ld none (.t 10)), []⟩,
 ⟨some 12, none, .q (.mv (.t 0)), []⟩,
 ⟨some 13, none, .q (.nc (.t 12)), []⟩,
 ⟨some 14, none, .q (.fa 1 (.t 13)), []⟩,
 ⟨some 15, none, .q (.ld none (.t 14)), []⟩,
 ⟨some 16, none, .q (.mv (.t 1)), []⟩,
 ⟨some 17, none, .q (.sls (true, 0) (.t 11) (.t 15) (.t 16)), []⟩,
 ⟨some 18, none, .e (.call 67 [(.t 17)]), [⟨none, .ld none (.t 6), 7⟩]⟩,
 ⟨some 19, none, .q (.bin .add (.t 7) (.t 18)), []⟩,
 ⟨some 20, none, .q (.nc (.t 4)), []⟩,
 ⟨some 21, none, .q (.fa 2 (.t 20)), []⟩,
 ⟨none, none, .e (.store 1 (.t 21) (.t 19)), []⟩]
def c61_1 : ACode := .ops [
 ⟨some 22, none, .q (.mv (.t 0)), []⟩,
 ⟨some 23, none, .q (.mv (.t 1)), []⟩,
 ⟨some 24, none, .q (.nc (.t 22)), []⟩,
 ⟨some 25, none, .q (.fa 1 (.t 24)), []⟩,
 ⟨none, none, .e (.store 1 (.t 25) (.t 23)), []⟩]
def c61_2 : ACode := .seq c61_0 c61_1
@[go_sem] def c61_0_wp := wp_of c61_0.eq_1
@[go_sem] def c61_1_wp := wp_of c61_1.eq_1
@[go_sem] def c61_2_wp := wp_of c61_2.eq_1
def c61 : AFn := ⟨26, [], c61_2⟩
theorem c61_ok : compF Tryz.prog Tryz.f61 = some c61 := by kernel_rfl
theorem a61 {args : List AV} {σ : ASt} {R : AV → ASt → Prop} (hl : args.length ≤ 26) (h : c61_2.wp Tryz.prog (RetQ [] R) (init args) σ) : ACalls Tryz.prog 61 args σ R := acalls_of Tryz.func61 c61_ok hl h
/-! 63: (*tabular/token.lexer).words -/
def c63_0 : ACode := .ops [
 ⟨some 2, none, .q (.mv (.v (.int .i64 0))), []⟩]
def c63_1 : ACode := .ops [
 ⟨some 3, none, .q (.mv (.v (.int .i64 0))), []⟩]
def c63_2 : ACode := .ops [
 ⟨some 5, none, .q (.mv (.t 0)), []⟩,
 ⟨some 6, none, .q (.nc (.t 5)), []⟩,
 ⟨some 7, none, .q (.fa 1 (.t 6)), []⟩,
 ⟨some 8, none, .q (.ld none (.t 7)), []⟩,
 ⟨some 9, none, .q (.mv (.t 3)), []⟩,
 ⟨some 10, none, .q (.bin .add (.t 8) (.t 9)), []⟩,
 ⟨some 11, none, .q (.mv (.t 0)), []⟩,
 ⟨some 12, none, .q (.nc (.t 11)), []⟩,
 ⟨some 13, none, .q (.fa 0 (.t 12)), []⟩,
 ⟨some 14, none, .q (.ld none (.t 13)), []⟩,
 ⟨some 15, none, .q (.lenS (.t 14)), []⟩,
 ⟨some 16, none, .q (.bin .lss (.t 10) (.t 15)), []⟩,
 ⟨some 17, none, .q (.mv (.t 16)), []⟩,
 ⟨some 18, some (17, true), .q (.mv (.t 0)), []⟩,
 ⟨some 19, some (17, true), .q (.nc (.t 18)), []⟩,
 ⟨some 20, some (17, true), .q (.fa 0 (.t 19)), []⟩,
 ⟨some 21, some (17, true), .q (.ld none (.t 20)), []⟩,
 ⟨some 22, some (17, true), .q (.mv (.t 0)), []⟩,
 ⟨some 23, some (17, true), .q (.nc (.t 22)), []⟩,
 ⟨some 24, some (17, true), .q (.fa 1 (.t 23)), []⟩,
 ⟨some 25, some (17, true), .q (.ld none (.t 24)), []⟩,
 ⟨some 26, some (17, true), .q (.mv (.t 3)), []⟩,
 ⟨some 27, some (17, true), .q (.bin .add (.t 25) (.t 26)), []⟩,
 ⟨some 28, some (17, true), .q (.idx (.t 21) (.t 27)), []⟩,
 ⟨some 29, some (17, true), .e (.call 62 [(.t 28)]), []⟩,
 ⟨some 30, none, .q (.pick (.t 17) (.t 29) (.v (.bool false))), []⟩]
def c63_3 : ACode := .cond (.t 30) .skip (.exit 0)
def c63_4 : ACode := .seq c63_2 c63_3
def c63_5 : ACode := .ops [
 ⟨some 31, none, .q (.mv (.t 3)), []⟩,
 ⟨some 32, none, .q (.bin .add (.t 31) (.v (.int .i64 1))), []⟩,
 ⟨some 3, none, .q (.mv (.t 32)), []⟩]
def c63_6 : ACode := .block 1 c63_5
def c63_7 : ACode := .seq c63_4 c63_6
def c63_8 : ACode := .loop c63_7
def c63_9 : ACode := .block 0 c63_8
def c63_10 : ACode := .ops [
 ⟨some 33, none, .q (.mv (.t 0)), []⟩,
 ⟨some 34, none, .q (.nc (.t 33)), []⟩,
 ⟨some 35, none, .q (.fa 0 (.t 34)), []⟩,
 ⟨some 36, none, .q (.ld none (.t 35)), []⟩,
 ⟨some 37, none, .q (.mv (.t 0)), []⟩,
 ⟨some 38, none, .q (.nc (.t 37)), []⟩,
 ⟨some 39, none, .q (.fa 1 (.t 38)), []⟩,
 ⟨some 40, none, .q (.ld none (.t 39)), []⟩,
 ⟨some 41, none, .q (.mv (.t 0)), []⟩,
 ⟨some 42, none, .q (.nc (.t 41)), []⟩,
 ⟨some 43, none, .q (.fa 1 (.t 42)), []⟩,
 ⟨some 44, none, .q (.ld none (.t 43)), []⟩,
 ⟨some 45, none, .q (.mv (.t 3)), []⟩,
 ⟨some 46, none, .q (.bin .add (.t 44) (.t 45)), []⟩,
 ⟨some 47, none, .q (.sls (true, 0) (.t 36) (.t 40) (.t 46)), []⟩,
 ⟨some 4, none, .q (.mv (.t 47)), []⟩]
def c63_11 : ACode := .ops [
 ⟨some 49, none, .q (.mv (.t 4)), []⟩,
 ⟨some 50, none, .e (.call 85 [(.t 49)]), []⟩,
 ⟨some 48, none, .q (.mv (.t 50)), []⟩]
def c63_12 : ACode := .ops [
 ⟨some 51, none, .q (.mv (.t 0)), []⟩,
 ⟨some 52, none, .q (.mv (.t 4)), []⟩,
 ⟨some 53, none, .q (.mv (.t 3)), []⟩,
 ⟨some 54, none, .e (.call 47 [(.t 51), (.v (.int .i64 1)), (.t 52), (.t 53)]), []⟩]
def c63_13 : ACode := .ops [
 ⟨some 56, none, .q (.mv (.t 4)), []⟩,
 ⟨some 57, none, .e (.call 86 [(.t 56)]), []⟩,
 ⟨some 55, none, .q (.mv (.t 57)), []⟩]
def c63_14 : ACode := .ops [
 ⟨some 58, none, .q (.mv (.t 0)), []⟩,
 ⟨some 59, none, .q (.mv (.t 4)), []⟩,
 ⟨some 60, none, .e (.call 87 [(.t 59)]), []⟩,
 ⟨some 61, none, .q (.mv (.t 3)), []⟩,
 ⟨some 62, none, .e (.call 47 [(.t 58), (.v (.int .i64 4)), (.t 60), (.t 61)]), []⟩]
def c63_15 : ACode := .ops [
 ⟨some 64, none, .q (.mv (.t 4)), []⟩,
 ⟨some 65, none, .e (.call 88 [(.t 64)]), []⟩,
 ⟨some 63, none, .q (.mv (.t 65)), []⟩]
def c63_16 : ACode := .ops [
 ⟨some 66, none, .q (.mv (.t 0)), []⟩,
 ⟨some 67, none, .q (.mv (.t 4)), []⟩,
 ⟨some 68, none, .e (.call 87 [(.t 67)]), []⟩,
 ⟨some 69, none, .q (.mv (.t 3)), []⟩,
 ⟨some 70, none, .e (.call 47 [(.t 66), (.v (.int .i64 3)), (.t 68), (.t 69)]), []⟩]
def c63_17 : ACode := .ops [
 ⟨some 2, none, .q (.mv (.v (.int .i64 10))), []⟩]
def c63_18 : ACode := .seq c63_17 .ret
def c63_19 : ACode := .cond (.t 63) c63_16 c63_18
def c63_20 : ACode := .seq c63_15 c63_19
def c63_21 : ACode := .cond (.t 55) c63_14 c63_20
def c63_22 : ACode := .seq c63_13 c63_21
def c63_23 : ACode := .cond (.t 48) c63_12 c63_22
def c63_24 : ACode := .seq c63_11 c63_23
def c63_25 : ACode := .block 2 c63_24
def c63_26 : ACode := .ops [
 ⟨some 2, none, .q (.mv (.v (.int .i64 0))), []⟩]
def c63_27 : ACode := .seq c63_26 .ret
def c63_28 : ACode := .seq c63_25 c63_27
def c63_29 : ACode := .seq c63_10 c63_28
def c63_30 : ACode := .seq c63_9 c63_29
def c63_31 : ACode := .seq c63_1 c63_30
def c63_32 : ACode := .seq c63_0 c63_31
@[go_sem] def c63_0_wp := wp_of c63_0.eq_1
@[go_sem] def c63_1_wp := wp_of c63_1.eq_1
@[go_sem] def c63_2_wp := wp_of c63_2.eq_1
@[go_sem] def c63_3_wp := wp_of c63_3.eq_1
@[go_sem] def c63_4_wp := wp_of c63_4.eq_1
@[go_sem] def c63_5_wp := wp_of c63_5.eq_1
@[go_sem] def c63_6_wp := wp_of c63_6.eq_1
@[go_sem] def c63_7_wp := wp_of c63_7.eq_1
@[go_sem] def c63_8_wp := wp_of c63_8.eq_1
@[go_sem] def c63_9_wp := wp_of c63_9.eq_1
@[go_sem] def c63_10_wp := wp_of c63_10.eq_1
@[go_sem] def c63_11_wp := wp_of c63_11.eq_1
@[go_sem] def c63_12_wp := wp_of c63_12.eq_1
@[go_sem] def c63_13_wp := wp_of c63_13.eq_1
@[go_sem] def c63_14_wp := wp_of c63_14.eq_1
@[go_sem] def c63_15_wp := wp_of c63_15.eq_1
@[go_sem] def c63_16_wp := wp_of c63_16.eq_1
@[go_sem] def c63_17_wp := wp_of c63_17.eq_1
@[go_sem] def c63_18_wp := wp_of c63_18.eq_1
@[go_sem] def c63_19_wp := wp_of c63_19.eq_1
@[go_sem] def c63_20_wp := wp_of c63_20.eq_1
@[go_sem] def c63_21_wp := wp_of c63_21.eq_1
@[go_sem] def c63_22_wp := wp_of c63_22.eq_1
@[go_sem] def c63_23_wp := wp_of c63_23.eq_1
@[go_sem] def c63_24_wp := wp_of c63_24.eq_1
@[go_sem] def c63_25_wp := wp_of c63_25.eq_1
@[go_sem] def c63_26_wp := wp_of c63_26.eq_1
@[go_sem] def c63_27_wp := wp_of c63_27.eq_1
@[go_sem] def c63_28_wp := wp_of c63_28.eq_1
@[go_sem] def c63_29_wp := wp_of c63_29.eq_1
@[go_sem] def c63_30_wp := wp_of c63_30.eq_1
@[go_sem] def c63_31_wp := wp_of c63_31.eq_1
@[go_sem] def c63_32_wp := wp_of c63_32.eq_1
def c63 : AFn := ⟨71, [.t 2], c63_32⟩
theorem c63_ok : compF Tryz.prog Tryz.f63 = some c63 := by kernel_rfl
theorem a63 {args : List AV} {σ : ASt} {R : AV → ASt → Prop} (hl : args.length ≤ 71) (h : c63_32.wp Tryz.prog (RetQ [.t 2] R) (init args) σ) : ACalls Tryz.prog 63 args σ R := acalls_of Tryz.func63 c63_ok hl h
/-! 64: (*tabular/token.lexer).quoted -/
def c64_0 : ACode := .ops [
 ⟨some 2, none, .q (.mv (.v (.int .i64 0))), []⟩]
def c64_1 : ACode := .ops [
 ⟨some 3, none, .e (.allocT 106), []⟩]
def c64_2 : ACode := .ops [
 ⟨some 4, none, .q (.mv (.v (.bool true))), []⟩]
def c64_3 : ACode := .ops [
 ⟨some 5, none, .q (.mv (.v (.int .i64 1))), []⟩]
def c64_4 : ACode := .ops [
 ⟨some 11, none, .q (.mv (.t 0)), []⟩,
 ⟨some 12, none, .q (.nc (.t 11)), []⟩,
 ⟨some 13, none, .q (.fa 0 (.t 12)), []⟩,
 ⟨some 14, none, .q (.ld none (.t 13)), []⟩,
 ⟨some 15, none, .q (.mv (.t 0)), []⟩,
 ⟨some 16, none, .q (.nc (.t 15)), []⟩,
 ⟨some 17, none, .q (.fa 1 (.t 16)), []⟩,
 ⟨some 18, none, .q (.ld none (.t 17)), []⟩,
 ⟨some 19, none, .q (.bin .add (.t 18) (.v (.int .i64 1))), []⟩,
 ⟨some 20, none, .q (.slfrom (true, 0) (.t 14) (.t 19)), []⟩,
 ⟨some 21, none, .e (.rng (.t 20)), []⟩]
def c64_5 : ACode := .ops [
 ⟨some 22, none, .e (.nxt (.t 21)), []⟩,
 ⟨some 23, none, .q (.ext 0 (.t 22)), []⟩]
def c64_6 : ACode := .cond (.t 23) .skip (.exit 0)
def c64_7 : ACode := .ops [
 ⟨some 24, none, .q (.ext 1 (.t 22)), []⟩,
 ⟨some 25, none, .q (.ext 2 (.t 22)), []⟩,
 ⟨some 6, none, .q (.mv (.t 24)), []⟩,
 ⟨some 7, none, .q (.mv (.t 25)), []⟩]
def c64_8 : ACode := .ops [
 ⟨some 26, none, .q (.mv (.t 6)), []⟩,
 ⟨some 27, none, .q (.bin .add (.t 26) (.v (.int .i64 1))), []⟩,
 ⟨some 28, none, .q (.mv (.t 5)), []⟩,
 ⟨some 29, none, .q (.bin .lss (.t 27) (.t 28)), []⟩]
def c64_9 : ACode := .cond (.t 29) (.exit 1) .skip
def c64_10 : ACode := .seq c64_8 c64_9
def c64_11 : ACode := .ops [
 ⟨some 30, none, .q (.mv (.t 0)), []⟩,
 ⟨some 31, none, .q (.nc (.t 30)), []⟩,
 ⟨some 32, none, .q (.fa 1 (.t 31)), []⟩,
 ⟨some 33, none, .q (.ld none (.t 32)), []⟩,
 ⟨some 34, none, .q (.bin .add (.t 33) (.v (.int .i64 1))), []⟩,
 ⟨some 35, none, .q (.mv (.t 6)), []⟩,
 ⟨some 36, none, .q (.bin .add (.t 34) (.t 35)), []⟩,
 ⟨some 8, none, .q (.mv (.t 36)), []⟩]
def c64_12 : ACode := .ops [
 ⟨some 37, none, .q (.mv (.t 7)), []⟩,
 ⟨some 38, none, .q (.bin .eql (.t 37) (.v (.int .i32 65533))), []⟩]
def c64_13 : ACode := .ops [
 ⟨some 40, none, .q (.mv (.t 0)), []⟩,
 ⟨some 41, none, .q (.nc (.t 40)), []⟩,
 ⟨some 42, none, .q (.fa 0 (.t 41)), []⟩,
 ⟨some 43, none, .q (.ld none (.t 42)), []⟩,
 ⟨some 44, none, .q (.mv (.t 8)), []⟩,
 ⟨some 45, none, .q (.slfrom (true, 0) (.t 43) (.t 44)), []⟩,
 ⟨some 46, none, .e (.call 84 [(.t 45)]), []⟩,
 ⟨some 39, none, .q (.mv (.t 46)), []⟩,
 ⟨some 47, none, .q (.ext 0 (.t 39)), []⟩,
 ⟨some 48, none, .q (.ext 1 (.t 39)), []⟩,
 ⟨some 9, none, .q (.mv (.t 47)), []⟩,
 ⟨some 10, none, .q (.mv (.t 48)), []⟩]
def c64_14 : ACode := .ops [
 ⟨some 49, none, .q (.mv (.t 10)), []⟩,
 ⟨some 50, none, .q (.bin .eql (.t 49) (.v (.int .i64 1))), []⟩]
def c64_15 : ACode := .ops [
 ⟨some 51, none, .q (.mv (.t 0)), []⟩,
 ⟨some 52, none, .q (.mv (.t 8)), []⟩,
 ⟨some 53, none, .e (.call 61 [(.t 51), (.t 52)]), []⟩]
def c64_16 : ACode := .ops [
 ⟨some 2, none, .q (.mv (.v (.int .i64 10))), []⟩]
def c64_17 : ACode := .seq c64_16 .ret
def c64_18 : ACode := .seq c64_15 c64_17
def c64_19 : ACode := .cond (.t 50) c64_18 .skip
def c64_20 : ACode := .seq c64_14 c64_19
def c64_21 : ACode := .seq c64_13 c64_20
def c64_22 : ACode := .cond (.t 38) c64_21 .skip
def c64_23 : ACode := .seq c64_12 c64_22
def c64_24 : ACode := .ops [
 ⟨some 54, none, .q (.mv (.t 7)), []⟩,
 ⟨some 55, none, .q (.bin .neq (.t 54) (.v (.int .i32 34))), []⟩]
def c64_25 : ACode := .ops [
 ⟨some 56, none, .q (.mv (.t 7)), []⟩,
 ⟨some 57, none, .e (.call 89 [(.t 3), (.t 56)]), []⟩]
def c64_26 : ACode := .ops [
 ⟨some 58, none, .q (.mv (.t 6)), []⟩,
 ⟨some 59, none, .q (.bin .add (.t 58) (.v (.int .i64 1))), []⟩,
 ⟨some 60, none, .q (.mv (.t 7)), []⟩,
 ⟨some 61, none, .e (.call 90 [(.t 60)]), []⟩,
 ⟨some 62, none, .q (.bin .add (.t 59) (.t 61)), []⟩,
 ⟨some 5, none, .q (.mv (.t 62)), []⟩]
def c64_27 : ACode := .seq c64_26 (.exit 1)
def c64_28 : ACode := .seq c64_25 c64_27
def c64_29 : ACode := .cond (.t 55) c64_28 .skip
def c64_30 : ACode := .seq c64_24 c64_29
def c64_31 : ACode := .ops [
 ⟨some 63, none, .q (.mv (.t 8)), []⟩,
 ⟨some 64, none, .q (.bin .add (.t 63) (.v (.int .i64 1))), []⟩,
 ⟨some 65, none, .q (.mv (.t 0)), []⟩,
 ⟨some 66, none, .q (.nc (.t 65)), []⟩,
 ⟨some 67, none, .q (.fa 0 (.t 66)), []⟩,
 ⟨some 68, none, .q (.ld none (.t 67)), []⟩,
 ⟨some 69, none, .q (.lenS (.t 68)), []⟩,
 ⟨some 70, none, .q (.bin .lss (.t 64) (.t 69)), []⟩,
 ⟨some 71, none, .q (.mv (.t 70)), []⟩,
 ⟨some 72, some (71, true), .q (.mv (.t 0)), []⟩,
 ⟨some 73, some (71, true), .q (.nc (.t 72)), []⟩,
 ⟨some 74, some (71, true), .q (.fa 0 (.t 73)), []⟩,
 ⟨some 75, some (71, true), .q (.ld none (.t 74)), []⟩,
 ⟨some 76, some (71, true), .q (.mv (.t 8)), []⟩,
 ⟨some 77, some (71, true), .q (.bin .add (.t 76) (.v (.int .i64 1))), []⟩,
 ⟨some 78, some (71, true), .q (.idx (.t 75) (.t 77)), []⟩,
 ⟨some 79, some (71, true), .q (.bin .eql (.t 78) (.v (.int .u8 34))), []⟩,
 ⟨some 80, none, .q (.pick (.t 71) (.t 79) (.v (.bool false))), []⟩]
def c64_32 : ACode := .ops [
 ⟨some 81, none, .e (.call 79 [(.t 3), (.v (.int .u8 34))]), []⟩]
def c64_33 : ACode := .ops [
 ⟨some 82, none, .q (.mv (.t 6)), []⟩,
 ⟨some 83, none, .q (.bin .add (.t 82) (.v (.int .i64 3))), []⟩,
 ⟨some 5, none, .q (.mv (.t 83)), []⟩]
def c64_34 : ACode := .seq c64_33 (.exit 1)
def c64_35 : ACode := .seq c64_32 c64_34
def c64_36 : ACode := .cond (.t 80) c64_35 .skip
def c64_37 : ACode := .seq c64_31 c64_36
def c64_38 : ACode := .ops [
 ⟨some 84, none, .q (.mv (.t 6)), []⟩,
 ⟨some 85, none, .q (.bin .add (.t 84) (.v (.int .i64 2))), []⟩,
 ⟨some 5, none, .q (.mv (.t 85)), []⟩]
def c64_39 : ACode := .ops [
 ⟨some 4, none, .q (.mv (.v (.bool false))), []⟩]
def c64_40 : ACode := .seq c64_39 (.exit 0)
def c64_41 : ACode := .seq c64_38 c64_40
def c64_42 : ACode := .seq c64_37 c64_41
def c64_43 : ACode := .seq c64_30 c64_42
def c64_44 : ACode := .seq c64_23 c64_43
def c64_45 : ACode := .seq c64_11 c64_44
def c64_46 : ACode := .seq c64_10 c64_45
def c64_47 : ACode := .seq c64_7 c64_46
def c64_48 : ACode := .block 1 c64_47
def c64_49 : ACode := .seq c64_6 c64_48
def c64_50 : ACode := .seq c64_5 c64_49
def c64_51 : ACode := .loop c64_50
def c64_52 : ACode := .block 0 c64_51
def c64_53 : ACode := .seq c64_4 c64_52
def c64_54 : ACode := .ops [
 ⟨some 86, none, .q (.mv (.t 4)), []⟩]
def c64_55 : ACode := .ops [
 ⟨some 2, none, .q (.mv (.v (.int .i64 10))), []⟩]
def c64_56 : ACode := .seq c64_55 .ret
def c64_57 : ACode := .cond (.t 86) c64_56 .skip
def c64_58 : ACode := .seq c64_54 c64_57
def c64_59 : ACode := .ops [
 ⟨some 87, none, .q (.mv (.t 0)), []⟩,
 ⟨some 88, none, .e (.call 53 [(.t 3)]), []⟩,
 ⟨some 89, none, .q (.mv (.t 5)), []⟩,
 ⟨some 90, none, .e (.call 47 [(.t 87), (.v (.int .i64 2)), (.t 88), (.t 89)]), []⟩]
def c64_60 : ACode := .ops [
 ⟨some 2, none, .q (.mv (.v (.int .i64 0))), []⟩]
def c64_61 : ACode := .seq c64_60 .ret
def c64_62 : ACode := .seq c64_59 c64_61
def c64_63 : ACode := .seq c64_58 c64_62
def c64_64 : ACode := .seq c64_53 c64_63
def c64_65 : ACode := .seq c64_3 c64_64
def c64_66 : ACode := .seq c64_2 c64_65
def c64_67 : ACode := .seq c64_1 c64_66
def c64_68 : ACode := .seq c64_0 c64_67
@[go_sem] def c64_0_wp := wp_of c64_0.eq_1
@[go_sem] def c64_1_wp := wp_of c64_1.eq_1
@[go_sem] def c64_2_wp := wp_of c64_2.eq_1
@[go_sem] def c64_3_wp := wp_of c64_3.eq_1
@[go_sem] def c64_4_wp := wp_of c64_4.eq_1
@[go_sem] def c64_5_wp := wp_of c64_5.eq_1
@[go_sem] def c64_6_wp := wp_of c64_6.eq_1
@[go_sem] def c64_7_wp := wp_of c64_7.eq_1
@[go_sem] def c64_8_wp := wp_of c64_8.eq_1
@[go_sem] def c64_9_wp := wp_of c64_9.eq_1
@[go_sem] def c64_10_wp := wp_of c64_10.eq_1
@[go_sem] def c64_11_wp := wp_of c64_11.eq_1
@[go_sem] def c64_12_wp := wp_of c64_12.eq_1
@[go_sem] def c64_13_wp := wp_of c64_13.eq_1
@[go_sem] def c64_14_wp := wp_of c64_14.eq_1
@[go_sem] def c64_15_wp := wp_of c64_15.eq_1
@[go_sem] def c64_16_wp := wp_of c64_16.eq_1
@[go_sem] def c64_17_wp := wp_of c64_17.eq_1
@[go_sem] def c64_18_wp := wp_of c64_18.eq_1
@[go_sem] def c64_19_wp := wp_of c64_19.eq_1
@[go_sem] def c64_20_wp := wp_of c64_20.eq_1
@[go_sem] def c64_21_wp := wp_of c64_21.eq_1
@[go_sem] def c64_22_wp := wp_of c64_22.eq_1
@[go_sem] def c64_23_wp := wp_of c64_23.eq_1
@[go_sem] def c64_24_wp := wp_of c64_24.eq_1
@[go_sem] def c64_25_wp := wp_of c64_25.eq_1
@[go_sem] def c64_26_wp := wp_of c64_26.eq_1
@[go_sem] def c64_27_wp := wp_of c64_27.eq_1
@[go_sem] def c64_28_wp := wp_of c64_28.eq_1
@[go_sem] def c64_29_wp := wp_of c64_29.eq_1
@[go_sem] def c64_30_wp := wp_of c64_30.eq_1
@[go_sem] def c64_31_wp := wp_of c64_31.eq_1
@[go_sem] def c64_32_wp := wp_of c64_32.eq_1
@[go_sem] def c64_33_wp := wp_of c64_33.eq_1
@[go_sem] def c64_34_wp := wp_of c64_34.eq_1
@[go_sem] def c64_35_wp := wp_of c64_35.eq_1
@[go_sem] def c64_36_wp := wp_of c64_36.eq_1
@[go_sem] def c64_37_wp := wp_of c64_37.eq_1
@[go_sem] def c64_38_wp := wp_of c64_38.eq_1
@[go_sem] def c64_39_wp := wp_of c64_39.eq_1
@[go_sem] def c64_40_wp := wp_of c64_40.eq_1
@[go_sem] def c64_41_wp := wp_of c64_41.eq_1
@[go_sem] def c64_42_wp := wp_of c64_42.eq_1
@[go_sem] def c64_43_wp := wp_of c64_43.eq_1
@[go_sem] def c64_44_wp := wp_of c64_44.eq_1
@[go_sem] def c64_45_wp := wp_of c64_45.eq_1
@[go_sem] def c64_46_wp := wp_of c64_46.eq_1
@[go_sem] def c64_47_wp := wp_of c64_47.eq_1
@[go_sem] def c64_48_wp := wp_of c64_48.eq_1
@[go_sem] def c64_49_wp := wp_of c64_49.eq_1
@[go_sem] def c64_50_wp := wp_of c64_50.eq_1
@[go_sem] def c64_51_wp := wp_of c64_51.eq_1
@[go_sem] def c64_52_wp := wp_of c64_52.eq_1
@[go_sem] def c64_53_wp := wp_of c64_53.eq_1
@[go_sem] def c64_54_wp := wp_of c64_54.eq_1
@[go_sem] def c64_55_wp := wp_of c64_55.eq_1
@[go_sem] def c64_56_wp := wp_of c64_56.eq_1
@[go_sem] def c64_57_wp := wp_of c64_57.eq_1
@[go_sem] def c64_58_wp := wp_of c64_58.eq_1
@[go_sem] def c64_59_wp := wp_of c64_59.eq_1
@[go_sem] def c64_60_wp := wp_of c64_60.eq_1
@[go_sem] def c64_61_wp := wp_of c64_61.eq_1
@[go_sem] def c64_62_wp := wp_of c64_62.eq_1
@[go_sem] def c64_63_wp := wp_of c64_63.eq_1
@[go_sem] def c64_64_wp := wp_of c64_64.eq_1
@[go_sem] def c64_65_wp := wp_of c64_65.eq_1
@[go_sem] def c64_66_wp := wp_of c64_66.eq_1
@[go_sem] def c64_67_wp := wp_of c64_67.eq_1
@[go_sem] def c64_68_wp := wp_of c64_68.eq_1
def c64 : AFn := ⟨91, [.t 2], c64_68⟩
theorem c64_ok : compF Tryz.prog Tryz.f64 = some c64 := by kernel_rfl
theorem a64 {args : List AV} {σ : ASt} {R : AV → ASt → Prop} (hl : args.length ≤ 91) (h : c64_68.wp Tryz.prog (RetQ [.t 2] R) (init args) σ) : ACalls Tryz.prog 64 args σ R := acalls_of Tryz.func64 c64_ok hl h
/-! 65: (*tabular/token.lexer).failure -/
def c65_0 : ACode := .ops [
 ⟨some 2, none, .q (.mv (.v (.int .i64 0))), []⟩]
def c65_1 : ACode := .ops [
 ⟨some 6, none, .e (.call 91 []), []⟩,
 ⟨some 7, none, .q (.len (.t 6)), []⟩,
 ⟨some 8, none, .q (.mv (.v (.int .i64 0))), []⟩]
def c65_2 : ACode := .ops [
 ⟨some 9, none, .q (.bin .lss (.t 8) (.t 7)), []⟩]
def c65_3 : ACode := .cond (.t 9) .skip (.exit 0)
def c65_4 : ACode := .ops [
 ⟨some 10, none, .q (.ia 1 (.t 6) (.t 8)), []⟩,
 ⟨some 11, none, .q (.ld none (.t 10)), []⟩,
 ⟨some 4, none, .q (.mv (.t 11)), []⟩]
def c65_5 : ACode := .ops [
 ⟨some 12, none, .q (.mv (.t 4)), []⟩,
 ⟨some 13, none, .q (.lenS (.t 12)), []⟩,
 ⟨some 5, none, .q (.mv (.t 13)), []⟩]
def c65_6 : ACode := .ops [
 ⟨some 14, none, .q (.mv (.t 0)), []⟩,
 ⟨some 15, none, .q (.nc (.t 14)), []⟩,
 ⟨some 16, none, .q (.fa 1 (.t 15)), []⟩,
 ⟨some 17, none, .q (.ld none (.t 16)), []⟩,
 ⟨some 18, none, .q (.mv (.t 5)), []⟩,
 ⟨some 19, none, .q (.bin .add (.t 17) (.t 18)), []⟩,
 ⟨some 20, none, .q (.mv (.t 0)), []⟩,
 ⟨some 21, none, .q (.nc (.t 20)), []⟩,
 ⟨some 22, none, .q (.fa 0 (.t 21)), []⟩,
 ⟨some 23, none, .q (.ld none (.t 22)), []⟩,
 ⟨some 24, none, .q (.lenS (.t 23)), []⟩,
 ⟨some 25, none, .q (.bin .leq (.t 19) (.t 24)), []⟩,
 ⟨some 26, none, .q (.mv (.t 25)), []⟩,
 ⟨some 27, some (26, true), .q (.mv (.t 0)), []⟩,
 ⟨some 28, some (26, true), .q (.nc (.t 27)), []⟩,
 ⟨some 29, some (26, true), .q (.fa 0 (.t 28)), []⟩,
 ⟨some 30, some (26, true), .q (.ld none (.t 29)), []⟩,
 ⟨some 31, some (26, true), .q (.mv (.t 0)), []⟩,
 ⟨some 32, some (26, true), .q (.nc (.t 31)), []⟩,
 ⟨some 33, some (26, true), .q (.fa 1 (.t 32)), []⟩,
 ⟨some 34, some (26, true), .q (.ld none (.t 33)), []⟩,
 ⟨some 35, some (26, true), .q (.mv (.t 0)), []⟩,
 ⟨some 36, some (26, true), .q (.nc (.t 35)), []⟩,
 ⟨some 37, some (26, true), .q (.fa 1 (.t 36)), []⟩,
 ⟨some 38, some (26, true), .q (.ld none (.t 37)), []⟩,
 ⟨some 39, some (26, true), .q (.mv (.t 5)), []⟩,
 ⟨some 40, some (26, true), .q (.bin .add (.t 38) (.t 39)), []⟩,
 ⟨some 41, some (26, true), .q (.sls (true, 0) (.t 30) (.t 34) (.t 40)), []⟩,
 ⟨some 43, some (26, true), .q (.mv (.t 4)), []⟩,
 ⟨some 42, some (26, true), .e (.call 87 [(.t 41)]), []⟩,
 ⟨some 44, some (26, true), .q (.bin .eql (.t 42) (.t 43)), []⟩,
 ⟨some 45, none, .q (.pick (.t 26) (.t 44) (.v (.bool false))), []⟩]
def c65_7 : ACode := .ops [
 ⟨some 46, none, .q (.mv (.t 0)), []⟩,
 ⟨some 47, none, .q (.mv (.t 4)), []⟩,
 ⟨some 48, none, .q (.mv (.t 5)), []⟩,
 ⟨some 49, none, .e (.call 47 [(.t 46), (.v (.int .i64 5)), (.t 47), (.t 48)]), []⟩]
def c65_8 : ACode := .ops [
 ⟨some 2, none, .q (.mv (.v (.int .i64 0))), []⟩]
def c65_9 : ACode := .seq c65_8 .ret
def c65_10 : ACode := .seq c65_7 c65_9
def c65_11 : ACode := .cond (.t 45) c65_10 .skip
def c65_12 : ACode := .seq c65_6 c65_11
def c65_13 : ACode := .seq c65_5 c65_12
def c65_14 : ACode := .seq c65_4 c65_13
def c65_15 : ACode := .block 1 c65_14
def c65_16 : ACode := .ops [
 ⟨some 50, none, .q (.bin .add (.t 8) (.v (.int .i64 1))), []⟩,
 ⟨some 8, none, .q (.mv (.t 50)), []⟩]
def c65_17 : ACode := .seq c65_15 c65_16
def c65_18 : ACode := .seq c65_3 c65_17
def c65_19 : ACode := .seq c65_2 c65_18
def c65_20 : ACode := .loop c65_19
def c65_21 : ACode := .block 0 c65_20
def c65_22 : ACode := .seq c65_1 c65_21
def c65_23 : ACode := .ops [
 ⟨some 2, none, .q (.mv (.v (.int .i64 10))), []⟩]
def c65_24 : ACode := .seq c65_23 .ret
def c65_25 : ACode := .seq c65_22 c65_24
def c65_26 : ACode := .seq c65_0 c65_25
@[go_sem] def c65_0_wp := wp_of c65_0.eq_1
@[go_sem] def c65_1_wp := wp_of c65_1.eq_1
@[go_sem] def c65_2_wp := wp_of c65_2.eq_1
@[go_sem] def c65_3_wp := wp_of c65_3.eq_1
@[go_sem] def c65_4_wp := wp_of c65_4.eq_1
@[go_sem] def c65_5_wp := wp_of c65_5.eq_1
@[go_sem] def c65_6_wp := wp_of c65_6.eq_1
@[go_sem] def c65_7_wp := wp_of c65_7.eq_1
@[go_sem] def c65_8_wp := wp_of c65_8.eq_1
@[go_sem] def c65_9_wp := wp_of c65_9.eq_1
@[go_sem] def c65_10_wp := wp_of c65_10.eq_1
@[go_sem] def c65_11_wp := wp_of c65_11.eq_1
@[go_sem] def c65_12_wp := wp_of c65_12.eq_1
@[go_sem] def c65_13_wp := wp_of c65_13.eq_1
@[go_sem] def c65_14_wp := wp_of c65_14.eq_1
@[go_sem] def c65_15_wp := wp_of c65_15.eq_1
@[go_sem] def c65_16_wp := wp_of c65_16.eq_1
@[go_sem] def c65_17_wp := wp_of c65_17.eq_1
@[go_sem] def c65_18_wp := wp_of c65_18.eq_1
@[go_sem] def c65_19_wp := wp_of c65_19.eq_1
@[go_sem] def c65_20_wp := wp_of c65_20.eq_1
@[go_sem] def c65_21_wp := wp_of c65_21.eq_1
@[go_sem] def c65_22_wp := wp_of c65_22.eq_1
@[go_sem] def c65_23_wp := wp_of c65_23.eq_1
@[go_sem] def c65_24_wp := wp_of c65_24.eq_1
@[go_sem] def c65_25_wp := wp_of c65_25.eq_1
@[go_sem] def c65_26_wp := wp_of c65_26.eq_1
def c65 : AFn := ⟨51, [.t 2], c65_26⟩
theorem c65_ok : compF Tryz.prog Tryz.f65 = some c65 := by kernel_rfl
theorem a65 {args : List AV} {σ : ASt} {R : AV → ASt → Prop} (hl : args.length ≤ 51) (h : c65_26.wp Tryz.prog (RetQ [.t 2] R) (init args) σ) : ACalls Tryz.prog 65 args σ R := acalls_of Tryz.func65 c65_ok hl h
/-! 66: (*tabular/token.lexer).op -/
def c66_0 : ACode := .ops [
 ⟨some 6, none, .q (.mv (.v (.int .i64 0))), []⟩]
def c66_1 : ACode := .ops [
 ⟨some 10, none, .q (.mv (.t 1)), []⟩,
 ⟨some 11, none, .e (.call 92 [(.t 10)]), []⟩,
 ⟨some 7, none, .q (.mv (.t 11)), []⟩]
def c66_2 : ACode := .ops [
 ⟨some 12, none, .q (.mv (.t 7)), []⟩,
 ⟨some 13, none, .q (.bin .neq (.t 12) (.v (.str []))), []⟩]
def c66_3 : ACode := .ops [
 ⟨some 14, none, .q (.mv (.t 0)), []⟩,
 ⟨some 15, none, .q (.mv (.t 7)), []⟩,
 ⟨some 16, none, .q (.mv (.t 2)), []⟩,
 ⟨some 17, none, .e (.call 47 [(.t 14), (.v (.int .i64 6)), (.t 15), (.t 16)]), []⟩]
def c66_4 : ACode := .ops [
 ⟨some 6, none, .q (.mv (.v (.int .i64 0))), []⟩]
def c66_5 : ACode := .seq c66_4 .ret
def c66_6 : ACode := .seq c66_3 c66_5
def c66_7 : ACode := .cond (.t 13) c66_6 .skip
def c66_8 : ACode := .seq c66_2 c66_7
def c66_9 : ACode := .seq c66_1 c66_8
def c66_10 : ACode := .ops [
 ⟨some 18, none, .q (.bsl 1 [(.v (.str [60, 61])), (.v (.str [62, 61])), (.v (.str [60, 62]))]), []⟩,
 ⟨some 19, none, .q (.len (.t 18)), []⟩,
 ⟨some 20, none, .q (.mv (.v (.int .i64 0))), []⟩]
def c66_11 : ACode := .ops [
 ⟨some 21, none, .q (.bin .lss (.t 20) (.t 19)), []⟩]
def c66_12 : ACode := .cond (.t 21) .skip (.exit 0)
def c66_13 : ACode := .ops [
 ⟨some 22, none, .q (.ia 1 (.t 18) (.t 20)), []⟩,
 ⟨some 23, none, .q (.ld none (.t 22)), []⟩,
 ⟨some 9, none, .q (.mv (.t 23)), []⟩]
def c66_14 : ACode := .ops [
 ⟨some 24, none, .q (.mv (.t 0)), []⟩,
 ⟨some 25, none, .q (.nc (.t 24)), []⟩,
 ⟨some 26, none, .q (.fa 0 (.t 25)), []⟩,
 ⟨some 27, none, .q (.ld none (.t 26)), []⟩,
 ⟨some 28, none, .q (.mv (.t 0)), []⟩,
 ⟨some 29, none, .q (.nc (.t 28)), []⟩,
 ⟨some 30, none, .q (.fa 1 (.t 29)), []⟩,
 ⟨some 31, none, .q (.ld none (.t 30)), []⟩,
 ⟨some 32, none, .q (.slfrom (true, 0) (.t 27) (.t 31)), []⟩,
 ⟨some 33, none, .q (.mv (.t 9)), []⟩,
 ⟨some 34, none, .e (.call 93 [(.t 32), (.t 33)]), []⟩]
def c66_15 : ACode := .ops [
 ⟨some 35, none, .q (.mv (.t 0)), []⟩,
 ⟨some 36, none, .q (.mv (.t 9)), []⟩,
 ⟨some 37, none, .e (.call 47 [(.t 35), (.v (.int .i64 6)), (.t 36), (.v (.int .i64 2))]), []⟩]
def c66_16 : ACode := .ops [
 ⟨some 6, none, .q (.mv (.v (.int .i64 0))), []⟩]
def c66_17 : ACode := .seq c66_16 .ret
def c66_18 : ACode := .seq c66_15 c66_17
def c66_19 : ACode := .cond (.t 34) c66_18 .skip
def c66_20 : ACode := .seq c66_14 c66_19
def c66_21 : ACode := .seq c66_13 c66_20
def c66_22 : ACode := .block 1 c66_21
def c66_23 : ACode := .ops [
 ⟨some 38, none, .q (.bin .add (.t 20) (.v (.int .i64 1))), []⟩,
 ⟨some 20, none, .q (.mv (.t 38)), []⟩]
def c66_24 : ACode := .seq c66_22 c66_23
def c66_25 : ACode := .seq c66_12 c66_24
def c66_26 : ACode := .seq c66_11 c66_25
def c66_27 : ACode := .loop c66_26
def c66_28 : ACode := .block 0 c66_27
def c66_29 : ACode := .seq c66_10 c66_28
def c66_30 : ACode := .ops [
 ⟨some 39, none, .q (.mv (.t 0)), []⟩,
 ⟨some 40, none, .q (.nc (.t 39)), []⟩,
 ⟨some 41, none, .q (.fa 0 (.t 40)), []⟩,
 ⟨some 42, none, .q (.ld none (.t 41)), []⟩,
 ⟨some 43, none, .q (.mv (.t 0)), []⟩,
 ⟨some 44, none, .q (.nc (.t 43)), []⟩,
 ⟨some 45, none, .q (.fa 1 (.t 44)), []⟩,
 ⟨some 46, none, .q (.ld none (.t 45)), []⟩,
 ⟨some 47, none, .q (.idx (.t 42) (.t 46)), []⟩,
 ⟨some 48, none, .q (.bsl 1 [(.t 47)]), []⟩,
 ⟨some 49, none, .q (.b2s (.t 48)), []⟩,
 ⟨some 50, none, .e (.call 94 [(.v (.str [43, 45, 42, 47, 94, 38, 61, 60, 62, 37, 40, 41, 58, 44])), (.t 49)]), []⟩,
 ⟨some 51, none, .q (.un .not (.t 50)), []⟩]
def c66_31 : ACode := .ops [
 ⟨some 6, none, .q (.mv (.v (.int .i64 10))), []⟩]
def c66_32 : ACode := .seq c66_31 .ret
def c66_33 : ACode := .cond (.t 51) c66_32 .skip
def c66_34 : ACode := .seq c66_30 c66_33
def c66_35 : ACode := .ops [
 ⟨some 52, none, .q (.mv (.t 0)), []⟩,
 ⟨some 53, none, .q (.mv (.t 0)), []⟩,
 ⟨some 54, none, .q (.nc (.t 53)), []⟩,
 ⟨some 55, none, .q (.fa 0 (.t 54)), []⟩,
 ⟨some 56, none, .q (.ld none (.t 55)), []⟩,
 ⟨some 57, none, .q (.mv (.t 0)), []⟩,
 ⟨some 58, none, .q (.nc (.t 57)), []⟩,
 ⟨some 59, none, .q (.fa 1 (.t 58)), []⟩,
 ⟨some 60, none, .q (.ld none (.t 59)), []⟩,
 ⟨some 61, none, .q (.mv (.t 0)), []⟩,
 ⟨some 62, none, .q (.nc (.t 61)), []⟩,
 ⟨some 63, none, .q (.fa 1 (.t 62)), []⟩,
 ⟨some 64, none, .q (.ld none (.t 63)), []⟩,
 ⟨some 65, none, .q (.bin .add (.t 64) (.v (.int .i64 1))), []⟩,
 ⟨some 66, none, .q (.sls (true, 0) (.t 56) (.t 60) (.t 65)), []⟩,
 ⟨some 67, none, .e (.call 47 [(.t 52), (.v (.int .i64 6)), (.t 66), (.v (.int .i64 1))]), []⟩]
def c66_36 : ACode := .ops [
 ⟨some 6, none, .q (.mv (.v (.int .i64 0))), []⟩]
def c66_37 : ACode := .seq c66_36 .ret
def c66_38 : ACode := .seq c66_35 c66_37
def c66_39 : ACode := .seq c66_34 c66_38
def c66_40 : ACode := .seq c66_29 c66_39
def c66_41 : ACode := .seq c66_9 c66_40
def c66_42 : ACode := .seq c66_0 c66_41
@[go_sem] def c66_0_wp := wp_of c66_0.eq_1
@[go_sem] def c66_1_wp := wp_of c66_1.eq_1
@[go_sem] def c66_2_wp := wp_of c66_2.eq_1
@[go_sem] def c66_3_wp := wp_of c66_3.eq_1
@[go_sem] def c66_4_wp := wp_of c66_4.eq_1
@[go_sem] def c66_5_wp := wp_of c66_5.eq_1
@[go_sem] def c66_6_wp := wp_of c66_6.eq_1
@[go_sem] def c66_7_wp := wp_of c66_7.eq_1
@[go_sem] def c66_8_wp := wp_of c66_8.eq_1
@[go_sem] def c66_9_wp := wp_of c66_9.eq_1
@[go_sem] def c66_10_wp := wp_of c66_10.eq_1
@[go_sem] def c66_11_wp := wp_of c66_11.eq_1
@[go_sem] def c66_12_wp := wp_of c66_12.eq_1
@[go_sem] def c66_13_wp := wp_of c66_13.eq_1
@[go_sem] def c66_14_wp := wp_of c66_14.eq_1
@[go_sem] def c66_15_wp := wp_of c66_15.eq_1
@[go_sem] def c66_16_wp := wp_of c66_16.eq_1
@[go_sem] def c66_17_wp := wp_of c66_17.eq_1
@[go_sem] def c66_18_wp := wp_of c66_18.eq_1
@[go_sem] def c66_19_wp := wp_of c66_19.eq_1
@[go_sem] def c66_20_wp := wp_of c66_20.eq_1
@[go_sem] def c66_21_wp := wp_of c66_21.eq_1
@[go_sem] def c66_22_wp := wp_of c66_22.eq_1
@[go_sem] def c66_23_wp := wp_of c66_23.eq_1
@[go_sem] def c66_24_wp := wp_of c66_24.eq_1
@[go_sem] def c66_25_wp := wp_of c66_25.eq_1
@[go_sem] def c66_26_wp := wp_of c66_26.eq_1
@[go_sem] def c66_27_wp := wp_of c66_27.eq_1
@[go_sem] def c66_28_wp := wp_of c66_28.eq_1
@[go_sem] def c66_29_wp := wp_of c66_29.eq_1
@[go_sem] def c66_30_wp := wp_of c66_30.eq_1
@[go_sem] def c66_31_wp := wp_of c66_31.eq_1
@[go_sem] def c66_32_wp := wp_of c66_32.eq_1
@[go_sem] def c66_33_wp := wp_of c66_33.eq_1
@[go_sem] def c66_34_wp := wp_of c66_34.eq_1
@[go_sem] def c66_35_wp := wp_of c66_35.eq_1
@[go_sem] def c66_36_wp := wp_of c66_36.eq_1
@[go_sem] def c66_37_wp := wp_of c66_37.eq_1
@[go_sem] def c66_38_wp := wp_of c66_38.eq_1
@[go_sem] def c66_39_wp := wp_of c66_39.eq_1
@[go_sem] def c66_40_wp := wp_of c66_40.eq_1
@[go_sem] def c66_41_wp := wp_of c66_41.eq_1
@[go_sem] def c66_42_wp := wp_of c66_42.eq_1
def c66 : AFn := ⟨68, [.t 6], c66_42⟩
theorem c66_ok : compF Tryz.prog Tryz.f66 = some c66 := by kernel_rfl
theorem a66 {args : List AV} {σ : ASt} {R : AV → ASt → Prop} (hl : args.length ≤ 68) (h : c66_42.wp Tryz.prog (RetQ [.t 6] R) (init args) σ) : ACalls Tryz.prog 66 args σ R := acalls_of Tryz.func66 c66_ok hl h
end Go.A
namespace Go.A
open Go.Proofs Go.Lib
def lexCells (s : List UInt8) (p c : Nat) (ts : List Tok) (k : SK) : List AV := [.str s, .int .i64 p, .int .i64 c, .sl k (ts.map tokAV)]
def LX (σ0 : ASt) (b : Nat) (s : List UInt8) (p c : Nat) (ts : List Tok) (σ : ASt) : Prop := GO σ0 b (lexCells s p c ts) (ts.map tokAV).length 4 σ
theorem LX.cell {σ0 σ : ASt} {b : Nat} {s : List UInt8} {p c : Nat} {ts : List Tok} (h : LX σ0 b s p c ts σ) : ∃ k, Grown (σ0.set b (some (.obj [.str s, .int .i64 p, .int .i64 c, .sl k (ts.map tokAV)]))) σ k (ts.map tokAV).length 4 ∧ σ b = some (.obj [.str s, .int .i64 p, .int .i64 c, .sl k (ts.map tokAV)]) := by
 obtain ⟨k, hg⟩ := h
 exact ⟨k, hg, GO.cell (cs := lexCells s p c ts) hg⟩
structure Bnd (s : List UInt8) (p c : Nat) (ts : List Tok) : Prop where
 hs : s.length ≤ 100000
 hp : p ≤ s.length
 hc : c ≤ p
 ht : ts.length ≤ 200000
theorem take_len {s : List UInt8} {p n : Nat} (h : p + n ≤ s.length) : ((s.drop p).take n).length = n := by simp; omega
theorem cut_eq {s : List UInt8} {p n : Nat} : (s.take (p + n)).drop p = (s.drop p).take n := by rw [List.drop_take]; congr 1; omega
set_option maxHeartbeats 1000000 in
theorem put_ok {σ0 σ : ASt} {b : Nat} {s : List UInt8} {p c : Nat} {ts : List Tok} (h : LX σ0 b s p c ts σ) (hB : Bnd s p c ts) (kind : Int) (text : List UInt8) (n : Nat) (hn : p + n ≤ s.length) :
  ACalls Tryz.prog 47 [.ptr b 0, .int .i64 kind, .str text, .int .i64 n] σ fun v σ' => v = .tuple [] ∧ LX σ0 b s (p + n) (c + signsN ((s.drop p).take n)) (ts ++ [Tok.mk kind text p c]) σ' := by
 obtain ⟨k, hg, hb⟩ := h.cell
 obtain ⟨hs, hp, hc, ht⟩ := hB
 have hm : ts.map tokAV ++ [tokAV (Tok.mk kind text p c)] = (ts ++ [Tok.mk kind text p c]).map tokAV := by simp
 have hlen : (ts.map tokAV).length = ts.length := by simp
 have e1 : ((p : Int) + n).toNat = p + n := by omega
 have e2 := cut_eq (s := s) (p := p) (n := n)
 have hsl := signsN_le ((s.drop p).take n)
 rw [take_len hn] at hsl
 refine a47 (by simp) ?_
 simp (disch := first | assumption | omega) only [go_sem, reduceCtorEq, Nat.reduceEqDiff, Nat.reduceAdd, Nat.reduceLeDiff, ↓reduceIte, Bool.true_and, hb]
 refine appC_by (ys := [tokAV (Tok.mk kind text p c)]) hg rfl rfl (by simp only [hlen, List.length_cons, List.length_nil]; omega) (by simp only [hlen, List.length_cons, List.length_nil]; omega) fun k' σ' hg' => ?_
 rw [hm] at hg' ⊢
 have hb' := hg'.at (ASt.set_same _ _ _)
 have hg2 := hg'.obj (r' := .obj [.str s, .int .i64 p, .int .i64 c, .sl k' ((ts ++ [Tok.mk kind text p c]).map tokAV)])
 simp (disch := first | assumption | omega) only [go_sem, reduceCtorEq, Nat.reduceEqDiff, Nat.reduceAdd, Nat.reduceLeDiff, ↓reduceIte, Bool.true_and, hb', e1, e2]
 refine (count_ok _ (by rw [take_len hn]; omega)).use ?_
 simp (disch := first | assumption | omega) only [go_sem, reduceCtorEq, Nat.reduceEqDiff, Nat.reduceAdd, Nat.reduceLeDiff, ↓reduceIte, Bool.true_and, ASt.set_set]
 refine retC_by (Drop.refl _) (.refl _) ⟨rfl, k', ?_⟩
 exact hg'.obj (r' := .obj [.str s, .int .i64 (p + n : Nat), .int .i64 (c + signsN ((s.drop p).take n) : Nat), .sl k' ((ts ++ [Tok.mk kind text p c]).map tokAV)])
theorem pass_ok {σ0 σ : ASt} {b : Nat} {s : List UInt8} {p c : Nat} {ts : List Tok} (h : LX σ0 b s p c ts σ) (hB : Bnd s p c ts) (n : Nat) (hn : p + n ≤ s.length) :
  ACalls Tryz.prog 61 [.ptr b 0, .int .i64 (p + n : Nat)] σ fun v σ' => v = .tuple [] ∧ LX σ0 b s (p + n) (c + signsN ((s.drop p).take n)) ts σ' := by
 obtain ⟨k, hg, hb⟩ := h.cell
 obtain ⟨hs, hp, hc, ht⟩ := hB
 have e1 : (((p + n : Nat) : Int)).toNat = p + n := by omega
 have e2 := cut_eq (s := s) (p := p) (n := n)
 have hsl := signsN_le ((s.drop p).take n)
 rw [take_len hn] at hsl
 have e3 : ((p + n : Nat) : Int) ≤ s.length := by omega
 have e4 : (p : Int) ≤ ((p + n : Nat) : Int) := by omega
 obtain ⟨q, hq⟩ : ∃ q, p + n = q := ⟨_, rfl⟩
 rw [hq] at e1 e2 e3 e4 ⊢
 refine a61 (by simp) ?_
 simp (disch := first | assumption | omega) only [go_sem, reduceCtorEq, Nat.reduceEqDiff, ↓reduceIte, hb, e1, e2]
 refine (count_ok _ (by rw [take_len hn]; omega)).use ?_
 simp (disch := first | assumption | omega) only [go_sem, reduceCtorEq, Nat.reduceEqDiff, Nat.reduceAdd, Nat.reduceLeDiff, ↓reduceIte, Bool.true_and, hb, ASt.set_set]
 refine retC_by (Drop.refl _) (.refl _) ⟨rfl, k, ?_⟩
 exact hg.obj (r' := .obj [.str s, .int .i64 q, .int .i64 (c + signsN ((s.drop p).take n) : Nat), .sl k (ts.map tokAV)])
theorem dec_bd (l : List UInt8) : (decodeL l).1 ≤ 1114111 ∧ 1 ≤ (decodeL l).2 := ⟨decodeL_rune l, decodeL_width l⟩
theorem sign_ok {σ0 σ : ASt} (hU : U8 σ) {b : Nat} {s : List UInt8} {p c : Nat} {ts : List Tok} (h : LX σ0 b s p c ts σ) (hB : Bnd s p c ts) (hp : p < s.length) :
  ACalls Tryz.prog 60 [.ptr b 0] σ fun v σ' => v = .tuple [.int .i32 (if decodeL (s.drop p) = (65533, 1) then 0 else (decodeL (s.drop p)).1), .int .i64 (if decodeL (s.drop p) = (65533, 1) then -1 else (decodeL (s.drop p)).2)] ∧ σ' = σ := by
 obtain ⟨k, hg, hb⟩ := h.cell
 obtain ⟨hs, _, hc, ht⟩ := hB
 have hne : s.drop p ≠ [] := by
  intro h
  have := congrArg List.length h
  simp at this
  omega
 have hd := dec_ok hU hne
 obtain ⟨⟨r, w⟩, hD⟩ : ∃ D, decodeL (s.drop p) = D := ⟨_, rfl⟩
 rw [hD] at hd ⊢
 dsimp only at hd ⊢
 have e1 : ¬ (s.length : Int) ≤ p := by omega
 refine a60 (by simp) ?_
 simp (disch := first | assumption | omega) only [go_sem, reduceCtorEq, Nat.reduceEqDiff, ↓reduceIte, Int.reduceNeg, hb, e1, List.take_length]
 refine hd.mono ?_
 rintro v σ' ⟨rfl, rfl⟩
 by_cases h1 : (r : Int) = 65533
 ·by_cases h2 : (w : Int) = 1
  ·have e : (r, w) = (65533, 1) := by rw [Prod.mk.injEq]; omega
   rw [if_pos e, if_pos e]
   simp (disch := first | assumption | omega) only [go_sem, Nat.reduceEqDiff, ↓reduceIte, Int.reduceNeg, h1, h2]
   exact retC_by (Drop.refl _) (.refl _) ⟨rfl, rfl⟩
  ·have e : ¬ (r, w) = (65533, 1) := by rw [Prod.mk.injEq]; omega
   rw [if_neg e, if_neg e]
   simp (disch := first | assumption | omega) only [go_sem, Nat.reduceEqDiff, ↓reduceIte, h1, h2]
   exact retC_by (Drop.refl _) (.refl _) ⟨rfl, rfl⟩
 ·have e : ¬ (r, w) = (65533, 1) := by rw [Prod.mk.injEq]; omega
  rw [if_neg e, if_neg e]
  simp (disch := first | assumption | omega) only [go_sem, Nat.reduceEqDiff, ↓reduceIte, h1]
  exact retC_by (Drop.refl _) (.refl _) ⟨rfl, rfl⟩
def After (σ0 : ASt) (b : Nat) (s : List UInt8) (p c : Nat) (ts : List Tok) : Step → AV → ASt → Prop
 | .bad k, v, σ' => v = .int .i64 10 ∧ ∃ c', LX σ0 b s (p + k) c' ts σ'
 | .blank, v, σ' => v = .int .i64 0 ∧ LX σ0 b s (p + 1) (c + 1) ts σ'
 | .tok kind t n, v, σ' => v = .int .i64 0 ∧ LX σ0 b s (p + n) (c + signsN ((s.drop p).take n)) (ts ++ [⟨kind, t, p, c⟩]) σ'
set_option maxHeartbeats 1000000 in
theorem words_ok {σ0 σ : ASt} {b : Nat} {s : List UInt8} {p c : Nat} {ts : List Tok} (h : LX σ0 b s p c ts σ) (hB : Bnd s p c ts) :
  ACalls Tryz.prog 63 [.ptr b 0] σ fun v σ' => After σ0 b s p c ts (wordsS (s.drop p)) v σ' := by
 obtain ⟨k, hg, hb⟩ := h.cell
 have hB' := hB
 obtain ⟨hs, hp, hc, ht⟩ := hB
 have hrl := runL_le wordB (s.drop p)
 obtain ⟨st, hst⟩ : ∃ st, wordsS (s.drop p) = st := ⟨_, rfl⟩
 rw [hst]
 unfold wordsS at hst
 dsimp only at hst
 obtain ⟨n, hn⟩ : ∃ n, runL wordB (s.drop p) = n := ⟨_, rfl⟩
 rw [hn] at hst hrl
 rw [List.length_drop] at hrl
 have hwl : ((s.drop p).take n).length = n := take_len (by omega)
 obtain ⟨w, hw⟩ : ∃ w, (s.drop p).take n = w := ⟨_, rfl⟩
 rw [hw] at hst hwl
 have i1 := isNum_ok w (by omega)
 have i2 := isRef_ok w (by omega)
 have i3 := isName_ok w (by omega)
 have i4 := tgreat_ok w (by omega)
 have P1 := fun kind text => put_ok h hB' kind text n (by omega)
 refine a63 (by simp) ?_
 obtain ⟨F, hF⟩ : ∃ F, F = ACode.wp Tryz.prog c63_29 := ⟨_, rfl⟩
 simp (disch := first | assumption | omega) only [go_sem, ←hF]
 refine wp_loop_on (fun (i : Nat) a σ' => i ≤ n ∧ i + runL wordB (s.drop (p + i)) = n ∧ (a 0 = .ptr b 0 ∧ a 3 = .int .i64 i) ∧ σ' = σ) (fun i => n - i) 0 ⟨Nat.zero_le _, by rw [Nat.add_zero, Nat.zero_add]; exact hn, ?_, rfl⟩ ?_
 ·simp (disch := first | assumption | omega) only [go_sem, reduceCtorEq, ↓reduceIte]
 rintro i a σ1 ⟨hi, hrun, hf, rfl⟩
 have fin : i = n → ∀ a : AFr, (a 0 = .ptr b 0 ∧ a 3 = .int .i64 i) → F (RetQ [.t 2] fun v σ' => After σ0 b s p c ts st v σ') a σ1 := by
  rintro rfl a hf
  have e1 : ((p : Int) + i).toNat = p + i := by omega
  have e2 : (s.take (p + i)).drop p = w := by rw [cut_eq, hw]
  rw [hF]
  simp (disch := first | assumption | omega) only [go_sem, reduceCtorEq, Nat.reduceEqDiff, ↓reduceIte, hf, hb, e1, e2]
  refine i1.use ?_
  cases hnum : numB w with
  | true =>
    rw [hnum, if_pos rfl] at hst
    subst hst
    simp (disch := first | assumption | omega) only [go_sem, reduceCtorEq, Nat.reduceEqDiff, ↓reduceIte, hf]
    refine (P1 1 w).mono ?_
    rintro v σ' ⟨rfl, hL⟩
    simp (disch := first | assumption | omega) only [go_sem, ↓reduceIte]
    exact retC_by (Drop.refl _) (.refl _) ⟨rfl, hL⟩
  | false =>
  rw [hnum, if_neg (by simp)] at hst
  simp (disch := first | assumption | omega) only [go_sem, Nat.reduceEqDiff, ↓reduceIte]
  refine i2.use ?_
  cases href : refB w with
  | true =>
    rw [href, if_pos rfl] at hst
    subst hst
    simp (disch := first | assumption | omega) only [go_sem, reduceCtorEq, Nat.reduceEqDiff, ↓reduceIte, hf]
    refine i4.use ?_
    simp (disch := first | assumption | omega) only [go_sem, Nat.reduceEqDiff, ↓reduceIte, hf]
    refine (P1 4 (greatP w)).mono ?_
    rintro v σ' ⟨rfl, hL⟩
    simp (disch := first | assumption | omega) only [go_sem, ↓reduceIte]
    exact retC_by (Drop.refl _) (.refl _) ⟨rfl, hL⟩
  | false =>
  rw [href, if_neg (by simp)] at hst
  simp (disch := first | assumption | omega) only [go_sem, Nat.reduceEqDiff, ↓reduceIte]
  refine i3.use ?_
  cases hnam : nameB w with
  | true =>
    rw [hnam, if_pos rfl] at hst
    subst hst
    simp (disch := first | assumption | omega) only [go_sem, reduceCtorEq, Nat.reduceEqDiff, ↓reduceIte, hf]
    refine i4.use ?_
    simp (disch := first | assumption | omega) only [go_sem, Nat.reduceEqDiff, ↓reduceIte, hf]
    refine (P1 3 (greatP w)).mono ?_
    rintro v σ' ⟨rfl, hL⟩
    simp (disch := first | assumption | omega) only [go_sem, ↓reduceIte]
    exact retC_by (Drop.refl _) (.refl _) ⟨rfl, hL⟩
  | false =>
    rw [hnam, if_neg (by simp)] at hst
    subst hst
    simp (disch := first | assumption | omega) only [go_sem, ↓reduceIte]
    exact retC_by (Drop.refl _) (.refl _) ⟨rfl, c, h⟩
 by_cases hlt : p + i < s.length
 ·have hidx : s[p + i]? = some (s[p + i]'hlt) := List.getElem?_eq_getElem hlt
  obtain ⟨d, hd⟩ : ∃ d, s[p + i]'hlt = d := ⟨_, rfl⟩
  rw [hd] at hidx
  have e3 : ((p : Int) + i) < s.length := by omega
  have e4 : ((p : Int) + i).toNat = p + i := by omega
  rw [List.drop_eq_getElem_cons hlt, hd, runL] at hrun
  simp (disch := first | assumption | omega) only [go_sem, reduceCtorEq, Nat.reduceEqDiff, ↓reduceIte, hf, hb, e3, e4, hidx]
  refine (word_ok d).use ?_
  cases hwd : wordB d with
  | true =>
    rw [hwd, if_pos rfl] at hrun
    simp (disch := first | assumption | omega) only [go_sem, reduceCtorEq, Nat.reduceEqDiff, ↓reduceIte, hf]
    exact ⟨i + 1, by omega, by omega, by rw [← Nat.add_assoc]; omega, rfl⟩
  | false =>
    rw [hwd, if_neg (by simp)] at hrun
    simp (disch := first | assumption | omega) only [go_sem, Nat.reduceEqDiff, ↓reduceIte]
    refine fin (by omega) _ ?_
    simp (disch := first | assumption | omega) only [go_sem, reduceCtorEq, Nat.reduceEqDiff, ↓reduceIte, hf]
 ·have e : s.drop (p + i) = [] := List.drop_eq_nil_of_le (by omega)
  rw [e, runL] at hrun
  have e3 : ¬ ((p : Int) + i) < s.length := by omega
  simp (disch := first | assumption | omega) only [go_sem, reduceCtorEq, Nat.reduceEqDiff, ↓reduceIte, hf, hb, e3]
  refine fin (by omega) _ ?_
  simp (disch := first | assumption | omega) only [go_sem, reduceCtorEq, Nat.reduceEqDiff, ↓reduceIte, hf]
end Go.A
namespace Go.A
open Go.Proofs Go.Lib
theorem errTexts_len : ∀ e ∈ errTexts, 1 ≤ e.length ∧ e.length ≤ 7 := by decide
set_option maxHeartbeats 1000000 in
theorem lfail_ok {σ0 σ : ASt} {b : Nat} {s : List UInt8} {p c : Nat} {ts : List Tok} (h : LX σ0 b s p c ts σ) (hB : Bnd s p c ts) :
  ACalls Tryz.prog 65 [.ptr b 0] σ fun v σ' => After σ0 b s p c ts (failS (s.drop p) errTexts) v σ' := by
 obtain ⟨k, hg, hb⟩ := h.cell
 have hB' := hB
 obtain ⟨hs, hp, hc, ht⟩ := hB
 obtain ⟨st, hst⟩ : ∃ st, failS (s.drop p) errTexts = st := ⟨_, rfl⟩
 rw [hst]
 have hE := errTexts_len
 have herr := errs_ok
 obtain ⟨E, hE2⟩ : ∃ E, errTexts = E := ⟨_, rfl⟩
 have hEl : E.length = 7 := by rw [← hE2]; rfl
 rw [hE2] at hst hE herr
 clear hE2
 refine a65 (by simp) ?_
 simp (disch := first | assumption | omega) only [go_sem]
 refine herr.use ?_
 simp (disch := first | assumption | omega) only [go_sem, ↓reduceIte, hEl]
 refine wp_loop_on (fun (i : Nat) a σ' => i ≤ 7 ∧ failS (s.drop p) (E.drop i) = st ∧ (a 0 = .ptr b 0 ∧ a 6 = .sl .full (E.map AV.str) ∧ a 7 = .int .i64 7 ∧ a 8 = .int .i64 i) ∧ σ' = σ) (fun i => 7 - i) 0 ⟨Nat.zero_le _, hst, ?_, rfl⟩ ?_
 ·simp (disch := first | assumption | omega) only [go_sem, reduceCtorEq, Nat.reduceEqDiff, ↓reduceIte]
 rintro i a σ1 ⟨hi, hst, hf, rfl⟩
 by_cases hlt : i < 7
 ·have hlt' : (i : Int) < 7 := by omega
  have hidx0 : E[i]? = some (E[i]'(by omega)) := List.getElem?_eq_getElem (by omega)
  obtain ⟨h1, h2⟩ := hE _ (List.getElem_mem (by omega : i < E.length))
  rw [List.drop_eq_getElem_cons (by omega : i < E.length), failS] at hst
  obtain ⟨e, he⟩ : ∃ e, E[i]'(by omega) = e := ⟨_, rfl⟩
  rw [he] at hidx0 hst h1 h2
  have hidx : (E.map AV.str)[i]? = some (.str e) := by rw [List.getElem?_map, hidx0]; rfl
  rw [List.length_drop] at hst
  by_cases hfit : p + e.length ≤ s.length
  ·have e1 : (p : Int) + e.length ≤ s.length := by omega
   have e2 : ((p : Int) + e.length).toNat = p + e.length := by omega
   have e3 := cut_eq (s := s) (p := p) (n := e.length)
   have hgr := tgreat_ok ((s.drop p).take e.length) (by rw [take_len hfit]; omega)
   simp (disch := first | assumption | omega) only [go_sem, reduceCtorEq, Nat.reduceEqDiff, ↓reduceIte, hf, hb, hlt', hidx, e1, e2, e3]
   refine hgr.use ?_
   by_cases heq : greatP ((s.drop p).take e.length) = e
   ·rw [if_pos ⟨by omega, heq⟩] at hst
    subst hst
    simp (disch := first | assumption | omega) only [go_sem, reduceCtorEq, Nat.reduceEqDiff, ↓reduceIte, hf, heq]
    refine (put_ok h hB' 5 e e.length hfit).mono ?_
    rintro v σ' ⟨rfl, hL⟩
    simp (disch := first | assumption | omega) only [go_sem, ↓reduceIte]
    exact retC_by (Drop.refl _) (.refl _) ⟨rfl, hL⟩
   ·rw [if_neg (by rintro ⟨_, h⟩; exact heq h)] at hst
    simp (disch := first | assumption | omega) only [go_sem, reduceCtorEq, Nat.reduceEqDiff, ↓reduceIte, hf, heq]
    refine ⟨i + 1, by omega, by omega, hst, rfl⟩
  ·have e1 : ¬ (p : Int) + e.length ≤ s.length := by omega
   rw [if_neg (by rintro ⟨h, _⟩; omega)] at hst
   simp (disch := first | assumption | omega) only [go_sem, reduceCtorEq, Nat.reduceEqDiff, ↓reduceIte, hf, hb, hlt', hidx, e1]
   refine ⟨i + 1, by omega, by omega, hst, rfl⟩
 ·have hlt' : ¬ (i : Int) < 7 := by omega
  rw [List.drop_eq_nil_of_le (show E.length ≤ i by omega), failS] at hst
  subst hst
  simp (disch := first | assumption | omega) only [go_sem, ↓reduceIte, hf, hlt']
  exact retC_by (Drop.refl _) (.refl _) ⟨rfl, c, h⟩
theorem mem_index (c : UInt8) : ∀ l : List UInt8, (-1 ≤ indexByte l c) ∧ (0 ≤ indexByte l c ↔ c ∈ l)
 | [] => by simp [indexByte]
 | x :: l => by
   obtain ⟨h1, h2⟩ := mem_index c l
   unfold indexByte
   by_cases hx : x = c
   ·subst hx; simp
   ·have hx' : ¬ (x == c) = true := by simpa using hx
    rw [if_neg hx']
    by_cases hm : indexByte l c = -1
    ·rw [if_pos (by simpa using hm)]
     refine ⟨by omega, ?_⟩
     simp only [List.mem_cons, ← h2, hm]
     constructor
     ·intro h; omega
     ·rintro (h | h)
      ·exact absurd h.symm hx
      ·omega
    ·rw [if_neg (by simpa using hm)]
     refine ⟨by omega, ?_⟩
     simp only [List.mem_cons, ← h2]
     constructor
     ·intro h; right; omega
     ·rintro (h | h)
      ·exact absurd h.symm hx
      ·omega
theorem twos_len : ∀ e ∈ twos, e.length = 2 := by decide
set_option maxHeartbeats 1000000 in
theorem op_ok {σ0 σ : ASt} {b : Nat} {s : List UInt8} {p c : Nat} {ts : List Tok} (h : LX σ0 b s p c ts σ) (hB : Bnd s p c ts) (hp1 : p < s.length) (r : Int) (n : Nat) (hn : p + n ≤ s.length) :
  ACalls Tryz.prog 66 [.ptr b 0, .int .i32 r, .int .i64 n] σ fun v σ' => After σ0 b s p c ts (opS r n (s.drop p)) v σ' := by
 obtain ⟨k, hg, hb⟩ := h.cell
 have hB' := hB
 obtain ⟨hs, hp, hc, ht⟩ := hB
 obtain ⟨st, hst⟩ : ∃ st, opS r n (s.drop p) = st := ⟨_, rfl⟩
 rw [hst]
 unfold opS at hst
 have hal := alike_ok r
 obtain ⟨A, hA⟩ : ∃ A, alikeP r = A := ⟨_, rfl⟩
 rw [hA] at hst hal
 obtain ⟨F, hF⟩ : ∃ F, F = ACode.wp Tryz.prog c66_39 := ⟨_, rfl⟩
 refine a66 (by simp) ?_
 simp (disch := first | assumption | omega) only [go_sem, Nat.reduceEqDiff, ↓reduceIte]
 refine hal.use ?_
 by_cases hA0 : A = []
 ·subst hA0
  rw [if_neg (by simp)] at hst
  have hE := twos_len
  obtain ⟨E, hE2⟩ : ∃ E, twos = E := ⟨_, rfl⟩
  have hEl : E.length = 3 := by rw [← hE2]; rfl
  have hEm : E.map AV.str = [AV.str [60, 61], AV.str [62, 61], AV.str [60, 62]] := by rw [← hE2]; rfl
  rw [hE2] at hst hE
  simp (disch := first | assumption | omega) only [go_sem, Nat.reduceAdd, ↓reduceIte, Bool.true_and, ←hF]
  refine wp_loop_on (fun (i : Nat) a σ' => i ≤ 3 ∧ (match twoS (s.drop p) (E.drop i) with | some e => Step.tok 6 e 2 | none => if ((s.drop p).headD 0) ∈ opChars then .tok 6 ((s.drop p).take 1) 1 else .bad 0) = st ∧ (a 0 = .ptr b 0 ∧ a 18 = .sl .full (E.map AV.str) ∧ a 19 = .int .i64 3 ∧ a 20 = .int .i64 i) ∧ σ' = σ) (fun i => 3 - i) 0 ⟨Nat.zero_le _, hst, ?_, rfl⟩ ?_
  ·simp (disch := first | assumption | omega) only [go_sem, reduceCtorEq, Nat.reduceEqDiff, ↓reduceIte, hEm]
  rintro i a σ1 ⟨hi, hst, hf, rfl⟩
  by_cases hlt : i < 3
  ·have hlt' : (i : Int) < 3 := by omega
   have hidx0 : E[i]? = some (E[i]'(by omega)) := List.getElem?_eq_getElem (by omega)
   have h2 := hE _ (List.getElem_mem (by omega : i < E.length))
   rw [List.drop_eq_getElem_cons (by omega : i < E.length), twoS] at hst
   obtain ⟨e, he⟩ : ∃ e, E[i]'(by omega) = e := ⟨_, rfl⟩
   rw [he] at hidx0 hst h2
   have hidx : (E.map AV.str)[i]? = some (.str e) := by rw [List.getElem?_map, hidx0]; rfl
   have hpr := prefix_ok (s.drop p) e (by simp; omega) (by omega)
   simp (disch := first | assumption | omega) only [go_sem, reduceCtorEq, Nat.reduceEqDiff, ↓reduceIte, hf, hb, hlt', hidx, List.take_length]
   refine hpr.use ?_
   cases hpe : e.isPrefixOf (s.drop p) with
   | true =>
     rw [hpe, if_pos rfl] at hst
     dsimp only at hst
     subst hst
     have hle : 2 ≤ (s.drop p).length := by
      have := (List.isPrefixOf_iff_prefix.1 hpe).length_le
      omega
     rw [List.length_drop] at hle
     simp (disch := first | assumption | omega) only [go_sem, reduceCtorEq, Nat.reduceEqDiff, ↓reduceIte, hf]
     refine (put_ok h hB' 6 e 2 (by omega)).mono ?_
     rintro v σ' ⟨rfl, hL⟩
     simp (disch := first | assumption | omega) only [go_sem, ↓reduceIte]
     exact retC_by (Drop.refl _) (.refl _) ⟨rfl, hL⟩
   | false =>
     rw [hpe, if_neg (by simp)] at hst
     simp (disch := first | assumption | omega) only [go_sem, reduceCtorEq, Nat.reduceEqDiff, ↓reduceIte, hf]
     exact ⟨i + 1, by omega, by omega, hst, rfl⟩
  ·have hlt' : ¬ (i : Int) < 3 := by omega
   rw [List.drop_eq_nil_of_le (show E.length ≤ i by omega), twoS] at hst
   dsimp only at hst
   have hidx : s[p]? = some (s[p]'hp1) := List.getElem?_eq_getElem hp1
   obtain ⟨d, hd⟩ : ∃ d, s[p]'hp1 = d := ⟨_, rfl⟩
   rw [hd] at hidx
   have hdr : s.drop p = d :: s.drop (p + 1) := by rw [List.drop_eq_getElem_cons hp1, hd]
   rw [hdr] at hst
   have hst : (if d ∈ opChars then Step.tok 6 [d] 1 else Step.bad 0) = st := hst
   have hcon := contains_ok opChars d
   obtain ⟨_, hmi⟩ := mem_index d opChars
   have hbb : UInt8.ofNat d.toNat = d := by simp
   simp (disch := first | assumption | omega) only [go_sem, ↓reduceIte, hf, hlt']
   rw [hF]
   simp (disch := first | assumption | omega) only [go_sem, reduceCtorEq, Nat.reduceEqDiff, ↓reduceIte, Bool.true_and, hf, hb, hidx, hbb]
   refine hcon.use ?_
   by_cases hm : d ∈ opChars
   ·rw [if_pos hm] at hst
    subst hst
    have e0 := hmi.2 hm
    have e1 : ((p : Int) + 1).toNat = p + 1 := by omega
    have e2 : (s.take (p + 1)).drop p = [d] := by rw [cut_eq (n := 1), hdr]; rfl
    simp (disch := first | assumption | omega) only [go_sem, reduceCtorEq, Nat.reduceEqDiff, ↓reduceIte, hf, hb, e0, e1, e2]
    refine (put_ok h hB' 6 [d] 1 (by omega)).mono ?_
    rintro v σ' ⟨rfl, hL⟩
    simp (disch := first | assumption | omega) only [go_sem, ↓reduceIte]
    exact retC_by (Drop.refl _) (.refl _) ⟨rfl, hL⟩
   ·rw [if_neg hm] at hst
    subst hst
    have e0 : ¬ 0 ≤ indexByte opChars d := fun h => hm (hmi.1 h)
    simp (disch := first | assumption | omega) only [go_sem, ↓reduceIte, e0]
    exact retC_by (Drop.refl _) (.refl _) ⟨rfl, c, h⟩
 ·rw [if_pos hA0] at hst
  subst hst
  simp (disch := first | assumption | omega) only [go_sem, reduceCtorEq, Nat.reduceEqDiff, ↓reduceIte, hA0]
  refine (put_ok h hB' 6 A n hn).mono ?_
  rintro v σ' ⟨rfl, hL⟩
  simp (disch := first | assumption | omega) only [go_sem, ↓reduceIte]
  exact retC_by (Drop.refl _) (.refl _) ⟨rfl, hL⟩
end Go.A
namespace Go.A
open Go.Proofs Go.Lib
theorem dec_len (l : List UInt8) (hv : decodeL l ≠ (65533, 1)) : runeLen ((decodeL l).1 : Int) = ((decodeL l).2 : Int) := by
 rw [decodeL_N] at hv ⊢
 have k0 := (l.getD 0 0).toNat_lt
 have k1 := (l.getD 1 0).toNat_lt
 have k2 := (l.getD 2 0).toNat_lt
 have k3 := (l.getD 3 0).toNat_lt
 unfold runeLen
 rcases decodeN_shape l.length (l.getD 0 0).toNat (l.getD 1 0).toNat (l.getD 2 0).toNat (l.getD 3 0).toNat with ⟨c, e⟩ | ⟨c1, c2, c3, cv, e⟩ | ⟨c1, c2, c3, c4, cv, cs, e⟩ | ⟨c1, c2, c3, c4, c5, cv, cw, e⟩ | e
 all_goals (rw [e] at hv ⊢; dsimp only at hv ⊢)
 all_goals (try (exact absurd rfl hv))
 all_goals (repeat' split)
 all_goals omega
theorem dec_rune (l : List UInt8) : RuneOk ((decodeL l).1 : Int) := by
 rw [decodeL_N]
 have k0 := (l.getD 0 0).toNat_lt
 have k1 := (l.getD 1 0).toNat_lt
 have k2 := (l.getD 2 0).toNat_lt
 have k3 := (l.getD 3 0).toNat_lt
 unfold RuneOk
 rcases decodeN_shape l.length (l.getD 0 0).toNat (l.getD 1 0).toNat (l.getD 2 0).toNat (l.getD 3 0).toNat with ⟨c, e⟩ | ⟨c1, c2, c3, cv, e⟩ | ⟨c1, c2, c3, c4, cv, cs, e⟩ | ⟨c1, c2, c3, c4, c5, cv, cw, e⟩ | e
 all_goals (rw [e]; dsimp only; omega)
theorem dec_ascii {l : List UInt8} (h0 : l ≠ []) (h : (decodeL l).1 < 128) : ∃ c t, l = c :: t ∧ c.toNat = (decodeL l).1 ∧ (decodeL l).2 = 1 := by
 cases l with
 | nil => exact absurd rfl h0
 | cons c t =>
   refine ⟨c, t, rfl, ?_⟩
   rw [decodeL_N] at h ⊢
   have k0 := ((c :: t).getD 0 0).toNat_lt
   have hc : ((c :: t).getD 0 0) = c := rfl
   rcases decodeN_shape (c :: t).length ((c :: t).getD 0 0).toNat ((c :: t).getD 1 0).toNat ((c :: t).getD 2 0).toNat ((c :: t).getD 3 0).toNat with ⟨c, e⟩ | ⟨c1, c2, c3, cv, e⟩ | ⟨c1, c2, c3, c4, cv, cs, e⟩ | ⟨c1, c2, c3, c4, c5, cv, cw, e⟩ | e
   ·rw [e]; exact ⟨rfl, rfl⟩
   all_goals (rw [e] at h; dsimp only at h; omega)
theorem dec_one (c : UInt8) (t : List UInt8) (h : c.toNat < 128) : decodeL (c :: t) = (c.toNat, 1) := by
 rw [decodeL_N]
 unfold decodeN
 rw [if_pos (show ((c :: t).getD 0 0).toNat < 128 from h)]
 rfl
theorem U8.over {τ σ : ASt} (h : U8 τ) (ho : Over τ σ) : U8 σ := ⟨ho.at h.1, ho.at h.2⟩
theorem quotedF_nil : ∀ k p acc, quotedF k [] p acc = .bad 0
 | 0, _, _ => rfl
 | _ + 1, _, _ => by unfold quotedF; rw [if_pos rfl]
theorem enc_le (r : Int) : (encodeRune r).length ≤ 4 := enc_len r
set_option maxHeartbeats 2000000 in
theorem quoted_ok {σ0 τ : ASt} (hU : U8 τ) {b : Nat} {s : List UInt8} {p c : Nat} {ts : List Tok} (h : LX σ0 b s p c ts τ) (hB : Bnd s p c ts) (hp1 : p < s.length) :
  ACalls Tryz.prog 64 [.ptr b 0] τ fun v σ' => After σ0 b s p c ts (quotedF (s.drop p).length (s.drop (p + 1)) 0 []) v σ' := by
 obtain ⟨k0, hg0, hb⟩ := h.cell
 have hB' := hB
 obtain ⟨hs, hp, hc, ht⟩ := hB
 obtain ⟨st, hst⟩ : ∃ st, quotedF (s.drop p).length (s.drop (p + 1)) 0 [] = st := ⟨_, rfl⟩
 rw [hst]
 obtain ⟨body, hbody⟩ : ∃ body, s.drop (p + 1) = body := ⟨_, rfl⟩
 have hbl : body.length = s.length - (p + 1) := by rw [← hbody]; simp
 have hdrop : ∀ q, s.drop (p + 1 + q) = body.drop q := fun q => by rw [← hbody, List.drop_drop]
 have hget : ∀ q, s[p + 1 + q]? = body[q]? := fun q => by rw [← hbody, List.getElem?_drop]
 rw [hbody] at hst
 obtain ⟨F, hF⟩ : ∃ F, F = ACode.wp Tryz.prog c64_63 := ⟨_, rfl⟩
 refine a64 (by simp) ?_
 simp (disch := first | assumption | omega) only [go_sem]
 refine allocTC_by fun bB hbB => ?_
 have nb := ne_of_role hb hbB
 obtain ⟨nb1, nb2⟩ := nb
 have e1 : ((p : Int) + 1).toNat = p + 1 := by omega
 simp (disch := first | assumption | omega) only [go_sem, reduceCtorEq, Nat.reduceEqDiff, ↓reduceIte, hb, e1, hbody, List.take_length, ←hF]
 refine rngC_by fun it hit => ?_
 obtain ⟨ni1, ni2, hit0⟩ := set_none hit
 obtain ⟨nt1, nt2⟩ := ne_of_role hb hit0
 have hbase : ∀ r : Role, (τ.set it (some r)) bB = none := fun r => by rw [ASt.set_ne ni2]; exact hbB
 have fin : ∀ (q : Nat) (acc : List UInt8) (a : AFr) (σ : ASt), q ≤ body.length → acc.length ≤ 4 * q + 4 → BD (τ.set it (some (.iter body q))) bB acc σ →
   ((st = .bad 0 ∧ a 4 = .bool true) ∨ (st = .tok 2 acc (q + 1) ∧ q + 1 ≤ body.length + 1 ∧ a 4 = .bool false ∧ a 5 = .int .i64 (q + 1 : Nat))) → (a 0 = .ptr b 0 ∧ a 3 = .ptr bB 0) →
   F (RetQ [.t 2] fun v σ' => After σ0 b s p c ts st v σ') a σ := by
  intro q acc a σ hq hacc hW hcase hf
  have hov : Over τ σ := (Over.set it _ .refl hit0).trans (hW.over (hbase _))
  rw [hF]
  rcases hcase with ⟨rfl, h4⟩ | ⟨rfl, hq1, h4, h5⟩
  ·simp (disch := first | assumption | omega) only [go_sem, ↓reduceIte, h4]
   exact retC_by hov.drop (.refl _) ⟨rfl, c, h⟩
  ·obtain ⟨σ0', hL, _, hback⟩ := GO.over h hov
   have hstr := bstring_ok hW (by omega)
   simp (disch := first | assumption | omega) only [go_sem, reduceCtorEq, Nat.reduceEqDiff, ↓reduceIte, hf, h4]
   refine hstr.mono ?_
   rintro v σ' ⟨rfl, rfl⟩
   simp (disch := first | assumption | omega) only [go_sem, Nat.reduceEqDiff, ↓reduceIte, h5]
   refine (put_ok hL hB' 2 acc (q + 1) (by omega)).mono ?_
   rintro v σ' ⟨rfl, hL2⟩
   obtain ⟨σ'', hd, hL3⟩ := hback _ _ _ hL2
   simp (disch := first | assumption | omega) only [go_sem, ↓reduceIte]
   exact retC_by hd (.refl _) ⟨rfl, hL3⟩
 have hst0 : BD (τ.set it (some (.iter body 0))) bB [] ((τ.set bB (some (.typ 106 [.pointer none, .slice none 0 0]))).set it (some (.iter body 0))) := .inl ⟨rfl, set_swap ni2⟩
 simp (disch := first | assumption | omega) only [go_sem]
 refine wp_loop_on (fun (i : Nat × List UInt8 × Bool) a σ' => i.1 ≤ body.length ∧ i.2.1.length ≤ 4 * i.1 + 4 ∧ BD (τ.set it (some (.iter body i.1))) bB i.2.1 σ' ∧
   (i.2.2 = false → a 5 = .int .i64 (i.1 + 1 : Nat) ∧ ∃ k, (body.drop i.1).length ≤ k ∧ quotedF k (body.drop i.1) i.1 i.2.1 = st) ∧
   (i.2.2 = true → body[i.1]? = some 34 ∧ a 5 = .int .i64 (i.1 + 2 : Nat) ∧ ∃ k, (body.drop (i.1 + 1)).length ≤ k ∧ quotedF k (body.drop (i.1 + 1)) (i.1 + 1) i.2.1 = st) ∧
   (a 0 = .ptr b 0 ∧ a 3 = .ptr bB 0 ∧ a 4 = .bool true ∧ a 21 = .ptr it 0))
  (fun i => body.length - i.1) (0, [], false) ⟨Nat.zero_le _, by simp, hst0, fun _ => ⟨?_, _, ?_, hst⟩, fun h => (by cases h), ?_⟩ ?_
 ·simp (disch := first | assumption | omega) only [go_sem, Nat.reduceEqDiff, ↓reduceIte]
 ·simp; omega
 ·simp (disch := first | assumption | omega) only [go_sem, reduceCtorEq, Nat.reduceEqDiff, ↓reduceIte]
 rintro ⟨q, acc, skip⟩ a σ ⟨hq, hacc, hW, hns, hsk, hf⟩
 dsimp only at hq hacc hW hns hsk
 obtain ⟨-, hitr⟩ := hW.iter (r' := .iter body q) ni1
 have hov : Over τ σ := (Over.set it _ .refl hit0).trans (hW.over (hbase _))
 have hbs := hov.at hb
 by_cases hlt : q < body.length
 ·have hne : body.drop q ≠ [] := by
   intro h
   have := congrArg List.length h
   simp at this
   omega
  obtain ⟨⟨r, w⟩, hD⟩ : ∃ D, decodeL (body.drop q) = D := ⟨_, rfl⟩
  have hD2 : Utf8.decode ⟨⟨body⟩⟩ q = (r, w) := by rw [← hD]; exact (decodeL_drop ⟨⟨body⟩⟩ q).symm
  have hDrop : decodeL (s.drop (p + 1 + q)) = (r, w) := by rw [hdrop]; exact hD
  have hwle := decodeL_le (body.drop q) hne
  have hbd := dec_bd (body.drop q)
  have hrk := dec_rune (body.drop q)
  rw [hD] at hwle hbd hrk
  dsimp only at hwle hbd hrk
  rw [List.length_drop] at hwle
  obtain ⟨hW2, -⟩ := hW.iter (r' := .iter body (q + w)) ni1
  have hov2 : Over τ (σ.set it (some (.iter body (q + w)))) := (Over.set it _ .refl hit0).trans (hW2.over (hbase _))
  have hb2 := hov2.at hb
  simp (disch := first | assumption | omega) only [go_sem, hf, hitr]
  refine nxt_more hlt ?_
  rw [hD2]
  cases skip with
  | true =>
    obtain ⟨h34, h5, kk, hk1, hk2⟩ := hsk rfl
    have hd34 : body.drop q = 34 :: body.drop (q + 1) := by
     rw [List.drop_eq_getElem_cons hlt]
     rw [List.getElem?_eq_getElem hlt] at h34
     injection h34 with h34
     rw [h34]
    have hw1 : (r, w) = (34, 1) := by
     rw [← hD, hd34]
     exact dec_one 34 _ (by decide)
    injection hw1 with hr1 hw1
    subst hr1 hw1
    have e2 : (q : Int) + 1 < (q + 2 : Nat) := by omega
    simp (disch := first | assumption | omega) only [go_sem, reduceCtorEq, Nat.reduceEqDiff, ↓reduceIte, hf, h5]
    exact ⟨(q + 1, acc, false), by dsimp only; omega, by dsimp only; omega, by dsimp only; omega, hW2, fun _ => ⟨rfl, kk, hk1, hk2⟩, fun h => (by cases h)⟩
  | false =>
    obtain ⟨h5, kk, hk1, hk2⟩ := hns rfl
    have e2 : ¬ (q : Int) + 1 < (q + 1 : Nat) := by omega
    have e3 : (p : Int) + 1 + q = (p + 1 + q : Nat) := by omega
    cases kk with
    | zero => simp at hk1; omega
    | succ kk =>
    rw [quotedF, if_neg hne, hD] at hk2
    dsimp only at hk2
    rw [List.length_drop] at hk1
    have hlen : decodeL (body.drop q) ≠ (65533, 1) → runeLen (r : Int) = w := fun hv => by
     have := dec_len (body.drop q) hv
     rw [hD] at this
     exact this
    have hasc := dec_ascii hne
    rw [hD] at hasc hlen
    dsimp only at hasc
    have hel := enc_le (r : Int)
    obtain ⟨G, hG⟩ : ∃ F, F = ACode.wp Tryz.prog c64_43 := ⟨_, rfl⟩
    have step : (r, w) ≠ (65533, 1) → ∀ (Q : APost) (a : AFr), (a 0 = .ptr b 0 ∧ a 3 = .ptr bB 0 ∧ a 4 = .bool true ∧ a 6 = .int .i64 q ∧ a 7 = .int .i32 r ∧ a 8 = .int .i64 (p + 1 + q : Nat) ∧ a 21 = .ptr it 0) →
      (∀ a' σ', (a' 0 = .ptr b 0 ∧ a' 3 = .ptr bB 0 ∧ a' 4 = .bool false ∧ a' 5 = .int .i64 (q + 1 + 1 : Nat)) → BD (τ.set it (some (.iter body (q + 1)))) bB acc σ' → st = .tok 2 acc (q + 1 + 1) → Q (.exit 0) a' σ') →
      (∀ a' σ' q' acc' skip', q < q' → q' ≤ body.length → acc'.length ≤ 4 * q' + 4 → BD (τ.set it (some (.iter body q'))) bB acc' σ' →
       (skip' = false → a' 5 = .int .i64 (q' + 1 : Nat) ∧ ∃ k, (body.drop q').length ≤ k ∧ quotedF k (body.drop q') q' acc' = st) →
       (skip' = true → body[q']? = some 34 ∧ a' 5 = .int .i64 (q' + 2 : Nat) ∧ ∃ k, (body.drop (q' + 1)).length ≤ k ∧ quotedF k (body.drop (q' + 1)) (q' + 1) acc' = st) →
       (a' 0 = .ptr b 0 ∧ a' 3 = .ptr bB 0 ∧ a' 4 = .bool true ∧ a' 21 = .ptr it 0) → Q (.exit 1) a' σ') →
      G Q a (σ.set it (some (.iter body (q + w)))) := by
     intro hv Q a hf hQ0 hQ1
     rw [if_neg hv] at hk2
     have hlen := hlen hv
     rw [hG]
     by_cases h34 : (r : Int) = 34
     ·have hr34 : r = 34 := by omega
      rw [if_neg (by simpa using hr34)] at hk2
      obtain ⟨d, t, hdt, hdc, hw1⟩ := hasc (by omega)
      subst hw1
      have hq1 : (body.drop q)[1]? = body[q + 1]? := by rw [List.getElem?_drop]
      rw [hq1] at hk2
      have hg1 := hget (q + 1)
      obtain ⟨P, hP⟩ : ∃ P, p + 1 + (q + 1) = P := ⟨_, rfl⟩
      have e4 : ((p : Int) + 1 + q + 1).toNat = P := by omega
      rw [hP] at hg1
      by_cases h2 : body[q + 1]? = some 34
      ·rw [if_pos h2] at hk2
       have hlt2 := (List.getElem?_eq_some_iff.1 h2).1
       rw [h2] at hg1
       have e5 : (p : Int) + 1 + q + 1 < s.length := by omega
       have e6 : ((UInt8.toNat 34 : Nat) : Int) = 34 := rfl
       simp (disch := first | assumption | omega) only [go_sem, reduceCtorEq, Nat.reduceEqDiff, ↓reduceIte, hf, hb2, h34, e4, e5, e6, hg1]
       refine (writeByte_ok hW2 34 (by omega)).mono ?_
       rintro v σ' ⟨rfl, hW3⟩
       simp (disch := first | assumption | omega) only [go_sem, Nat.reduceEqDiff, ↓reduceIte, hf]
       refine hQ1 _ _ (q + 1) (acc ++ [34]) true (by omega) (by omega) (by simp; omega) hW3 (fun h => by cases h) (fun _ => ⟨h2, ?_, kk, ?_, ?_⟩) ?_
       ·simp (disch := first | assumption | omega) only [go_sem, ↓reduceIte]
        rfl
       ·simp; omega
       ·rw [List.drop_drop] at hk2
        exact hk2
       ·simp (disch := first | assumption | omega) only [go_sem, reduceCtorEq, Nat.reduceEqDiff, ↓reduceIte, hf]
      ·rw [if_neg h2] at hk2
       by_cases hlt2 : q + 1 < body.length
       ·have e5 : (p : Int) + 1 + q + 1 < s.length := by omega
        have hx : body[q + 1]? = some (body[q + 1]'hlt2) := List.getElem?_eq_getElem hlt2
        obtain ⟨x, hxe⟩ : ∃ x, body[q + 1]'hlt2 = x := ⟨_, rfl⟩
        rw [hxe] at hx
        rw [hx] at hg1 h2
        have hx34 : ¬ (x.toNat : Int) = 34 := by
         intro h
         apply h2
         congr 1
         apply UInt8.toNat_inj.1
         have : x.toNat = 34 := by omega
         simpa using this
        simp (disch := first | assumption | omega) only [go_sem, reduceCtorEq, Nat.reduceEqDiff, ↓reduceIte, hf, hb2, h34, e4, e5, hg1, hx34]
        refine hQ0 _ _ ?_ hW2 hk2.symm
        simp (disch := first | assumption | omega) only [go_sem, reduceCtorEq, Nat.reduceEqDiff, ↓reduceIte, hf]
        rfl
       ·have e5 : ¬ (p : Int) + 1 + q + 1 < s.length := by omega
        simp (disch := first | assumption | omega) only [go_sem, reduceCtorEq, Nat.reduceEqDiff, ↓reduceIte, hf, hb2, h34, e5]
        refine hQ0 _ _ ?_ hW2 hk2.symm
        simp (disch := first | assumption | omega) only [go_sem, reduceCtorEq, Nat.reduceEqDiff, ↓reduceIte, hf]
        rfl
     ·have hr34 : r ≠ 34 := by omega
      rw [if_pos hr34] at hk2
      clear hasc
      simp (disch := first | assumption | omega) only [go_sem, Nat.reduceEqDiff, ↓reduceIte, hf, h34]
      refine (writeRune_ok hW2 hrk (by omega)).mono ?_
      rintro v σ' hW3
      simp (disch := first | assumption | omega) only [go_sem, Nat.reduceEqDiff, ↓reduceIte, hf]
      refine (runeLen_ok r).use ?_
      rw [hlen]
      simp (disch := first | assumption | omega) only [go_sem, Nat.reduceEqDiff, ↓reduceIte]
      refine hQ1 _ _ (q + w) (acc ++ encodeRune r) false (by omega) (by omega) (by simp; omega) hW3 (fun _ => ⟨?_, kk, ?_, ?_⟩) (fun h => by cases h) ?_
      ·simp (disch := first | assumption | omega) only [go_sem, ↓reduceIte]
       congr 1
       omega
      ·simp; omega
      ·rw [List.drop_drop] at hk2
       exact hk2
      ·simp (disch := first | assumption | omega) only [go_sem, reduceCtorEq, Nat.reduceEqDiff, ↓reduceIte, hf]
    have hQ0 : ∀ (a' : AFr) σ', (a' 0 = .ptr b 0 ∧ a' 3 = .ptr bB 0 ∧ a' 4 = .bool false ∧ a' 5 = .int .i64 (q + 1 + 1 : Nat)) → BD (τ.set it (some (.iter body (q + 1)))) bB acc σ' → st = .tok 2 acc (q + 1 + 1) →
      F (RetQ [.t 2] fun v σ' => After σ0 b s p c ts st v σ') a' σ' := fun a' σ' hf' hW3 hst3 =>
     fin (q + 1) acc a' σ' (by omega) (by omega) hW3 (.inr ⟨hst3, by omega, hf'.2.2.1, hf'.2.2.2⟩) ⟨hf'.1, hf'.2.1⟩
    by_cases hbad : (r, w) = (65533, 1)
    ·rw [if_pos hbad] at hk2
     injection hbad with hr1 hw1
     subst hr1 hw1
     obtain ⟨σ0', hL, _, hback⟩ := GO.over h hov2
     have hdec := dec_ok (hU.over hov2) (l := s.drop (p + 1 + q)) (by rw [hdrop]; exact hne)
     rw [hDrop] at hdec
     have hpass := pass_ok hL hB' (1 + q) (by omega)
     rw [show p + (1 + q) = p + 1 + q by omega] at hpass
     have e7 : ((p : Int) + 1 + q).toNat = p + 1 + q := by omega
     clear hasc step
     simp (disch := first | assumption | omega) only [go_sem, reduceCtorEq, Nat.reduceEqDiff, ↓reduceIte, hf, h5, hb2, e7, List.take_length, ←hG]
     refine hdec.mono ?_
     rintro v σ' ⟨rfl, rfl⟩
     simp (disch := first | assumption | omega) only [go_sem, reduceCtorEq, Nat.reduceEqDiff, ↓reduceIte, hf]
     refine hpass.mono ?_
     rintro v σ' ⟨rfl, hL2⟩
     obtain ⟨σ'', hd, hL3⟩ := hback _ _ _ hL2
     simp (disch := first | assumption | omega) only [go_sem, ↓reduceIte]
     subst hk2
     refine retC_by hd (.refl _) ⟨rfl, c + signsN ((s.drop p).take (1 + q)), ?_⟩
     rw [show p + (1 + q) = p + 1 + q by omega]
     exact hL3
    have stp := step hbad
    clear step hasc
    by_cases h65 : (r : Int) = 65533
    ·have hw1 : ¬ (w : Int) = 1 := by
      intro h
      apply hbad
      rw [Prod.mk.injEq]
      omega
     have hdec := dec_ok (hU.over hov2) (l := s.drop (p + 1 + q)) (by rw [hdrop]; exact hne)
     rw [hDrop] at hdec
     have e7 : ((p : Int) + 1 + q).toNat = p + 1 + q := by omega
     simp (disch := first | assumption | omega) only [go_sem, reduceCtorEq, Nat.reduceEqDiff, ↓reduceIte, hf, h5, hb2, e7, h65, List.take_length, ←hG]
     refine hdec.mono ?_
     rintro v σ' ⟨rfl, rfl⟩
     simp (disch := first | assumption | omega) only [go_sem, Nat.reduceEqDiff, ↓reduceIte, hw1]
     refine stp _ _ ?_ ?_ ?_
     ·simp (disch := first | assumption | omega) only [go_sem, reduceCtorEq, Nat.reduceEqDiff, ↓reduceIte, hf]
      rw [← h65]
     ·intro a' σ' hf' hW3 hst3
      simp (disch := first | assumption | omega) only [go_sem, reduceCtorEq, ↓reduceIte]
      exact hQ0 a' σ' hf' hW3 hst3
     ·intro a' σ' q' acc' skip' h1 h2 h3 h4 h5 h6 h7
      simp (disch := first | assumption | omega) only [go_sem, ↓reduceIte]
      exact ⟨(q', acc', skip'), by dsimp only; omega, h2, h3, h4, h5, h6, h7⟩
    ·simp (disch := first | assumption | omega) only [go_sem, reduceCtorEq, Nat.reduceEqDiff, ↓reduceIte, hf, h5, hb2, h65, ←hG]
     refine stp _ _ ?_ ?_ ?_
     ·simp (disch := first | assumption | omega) only [go_sem, reduceCtorEq, Nat.reduceEqDiff, ↓reduceIte, hf]
     ·intro a' σ' hf' hW3 hst3
      simp (disch := first | assumption | omega) only [go_sem, reduceCtorEq, ↓reduceIte]
      exact hQ0 a' σ' hf' hW3 hst3
     ·intro a' σ' q' acc' skip' h1 h2 h3 h4 h5 h6 h7
      simp (disch := first | assumption | omega) only [go_sem, ↓reduceIte]
      exact ⟨(q', acc', skip'), by dsimp only; omega, h2, h3, h4, h5, h6, h7⟩
 ·have hq' : q = body.length := by omega
  cases skip with
  | true =>
    obtain ⟨h34, _⟩ := hsk rfl
    rw [List.getElem?_eq_none (by omega)] at h34
    cases h34
  | false =>
  obtain ⟨h5, kk, hk1, hk2⟩ := hns rfl
  rw [List.drop_eq_nil_of_le (by omega), quotedF_nil] at hk2
  simp (disch := first | assumption | omega) only [go_sem, hf, hitr]
  refine nxt_over (by omega) ?_
  simp (disch := first | assumption | omega) only [go_sem, ↓reduceIte]
  refine fin q acc _ σ (by omega) hacc hW (.inl ⟨hk2.symm, ?_⟩) ?_
  ·simp (disch := first | assumption | omega) only [go_sem, Nat.reduceEqDiff, ↓reduceIte, hf]
  ·simp (disch := first | assumption | omega) only [go_sem, reduceCtorEq, Nat.reduceEqDiff, ↓reduceIte, hf]
end Go.A
namespace Go.A
open Go.Proofs Go.Lib
theorem signs_one {c : UInt8} (h : c.toNat < 128) : signsN [c] = 1 := by
 unfold signsN
 have := runeCount_ascii ⟨⟨[c]⟩⟩ (fun j hj => by
  have : j = 0 := by simp [ByteArray.size] at hj; omega
  subst this
  exact h)
 simpa [ByteArray.size] using this
set_option maxHeartbeats 1000000 in
theorem tnext_ok {σ0 σ : ASt} (hU : U8 σ) {b : Nat} {s : List UInt8} {p c : Nat} {ts : List Tok} (h : LX σ0 b s p c ts σ) (hB : Bnd s p c ts) (hp : p < s.length) :
  ACalls Tryz.prog 46 [.ptr b 0] σ fun v σ' => After σ0 b s p c ts (stepP (s.drop p)) v σ' := by
 obtain ⟨st, hst⟩ : ∃ st, stepP (s.drop p) = st := ⟨_, rfl⟩
 rw [hst]
 have hne : s.drop p ≠ [] := by
  intro h
  have := congrArg List.length h
  simp at this
  omega
 have hs1 := hB.hs
 have hsg := sign_ok hU h hB hp
 have hasc := dec_ascii hne
 have hle := decodeL_le _ hne
 have hbd := dec_bd (s.drop p)
 have hwo := words_ok h hB
 have hqu := quoted_ok hU h hB hp
 have hfa := lfail_ok h hB
 have hop := op_ok h hB hp
 have hps := pass_ok h hB 1 (by omega)
 obtain ⟨k, hg, hb⟩ := h.cell
 rw [List.length_drop] at hle
 unfold stepP at hst
 dsimp only at hst
 obtain ⟨⟨r, w⟩, hD⟩ : ∃ D, decodeL (s.drop p) = D := ⟨_, rfl⟩
 rw [hD] at hst hsg hasc hle hbd
 dsimp only at hst hsg hasc hle hbd
 refine a46 (by simp) ?_
 simp (disch := first | assumption | omega) only [go_sem, reduceCtorEq, ↓reduceIte]
 refine hsg.mono ?_
 rintro v σ' ⟨rfl, rfl⟩
 by_cases hbad : (r, w) = (65533, 1)
 ·rw [if_pos hbad] at hst
  rw [if_pos hbad, if_pos hbad]
  subst hst
  simp (disch := first | assumption | omega) only [go_sem, Nat.reduceEqDiff, Int.reduceLT, ↓reduceIte, Int.reduceNeg]
  exact retC_by (Drop.refl _) (.refl _) ⟨rfl, c, h⟩
 rw [if_neg hbad] at hst
 rw [if_neg hbad, if_neg hbad]
 have e0 : ¬ (w : Int) < 0 := by omega
 by_cases hbl : r = 32 ∨ r = 9 ∨ r = 10
 ·rw [if_pos hbl] at hst
  subst hst
  obtain ⟨d, t, hdt, hdc, hw1⟩ := hasc (by omega)
  have hs1 : signsN ((s.drop p).take 1) = 1 := by rw [hdt, List.take_succ_cons, List.take_zero]; exact signs_one (by omega)
  rw [hs1] at hps
  subst hw1
  have e1 : ((1 : Nat) : Int) = 1 := rfl
  rcases hbl with rfl | rfl | rfl
  all_goals
   simp (disch := first | assumption | omega) only [go_sem, reduceCtorEq, Nat.reduceEqDiff, Int.reduceLT, Int.reduceEq, ↓reduceIte, hb]
   refine hps.mono ?_
   rintro v σ2 ⟨rfl, hL⟩
   simp (disch := first | assumption | omega) only [go_sem, ↓reduceIte]
   exact retC_by (Drop.refl _) (.refl _) ⟨rfl, hL⟩
 rw [if_neg hbl] at hst
 have n1 : ¬ (r : Int) = 32 := by omega
 have n2 : ¬ (r : Int) = 9 := by omega
 have n3 : ¬ (r : Int) = 10 := by omega
 by_cases h128 : r < 128
 ·obtain ⟨d, t, hdt, hdc, hw1⟩ := hasc h128
  clear hasc
  have hdr : UInt8.ofNat r = d := by rw [← hdc]; simp
  have hwd := word_ok d
  rw [hdc] at hwd
  rw [hdr] at hst
  have i128 : (r : Int) < 128 := by omega
  simp (disch := first | assumption | omega) only [go_sem, Nat.reduceEqDiff, ↓reduceIte, e0, n1, n2, n3, i128]
  refine hwd.use ?_
  cases hw : wordB d with
  | true =>
    rw [if_pos ⟨h128, hw⟩] at hst
    subst hst
    simp (disch := first | assumption | omega) only [go_sem, reduceCtorEq, Nat.reduceEqDiff, ↓reduceIte]
    refine hwo.mono ?_
    intro v σ' hA
    simp (disch := first | assumption | omega) only [go_sem, ↓reduceIte]
    exact retC_by (Drop.refl _) (.refl _) hA
  | false =>
  rw [if_neg (by rintro ⟨_, h⟩; rw [hw] at h; cases h)] at hst
  by_cases h34 : r = 34
  ·rw [if_pos h34, List.drop_drop] at hst
   subst hst
   have i34 : (r : Int) = 34 := by omega
   simp (disch := first | assumption | omega) only [go_sem, reduceCtorEq, Nat.reduceEqDiff, ↓reduceIte, i34]
   refine hqu.mono ?_
   intro v σ' hA
   simp (disch := first | assumption | omega) only [go_sem, ↓reduceIte]
   exact retC_by (Drop.refl _) (.refl _) hA
  rw [if_neg h34] at hst
  have i34 : ¬ (r : Int) = 34 := by omega
  by_cases h35 : r = 35
  ·rw [if_pos h35] at hst
   subst hst
   have i35 : (r : Int) = 35 := by omega
   simp (disch := first | assumption | omega) only [go_sem, reduceCtorEq, Nat.reduceEqDiff, Int.reduceEq, ↓reduceIte, i35]
   refine hfa.mono ?_
   intro v σ' hA
   simp (disch := first | assumption | omega) only [go_sem, ↓reduceIte]
   exact retC_by (Drop.refl _) (.refl _) hA
  rw [if_neg h35] at hst
  have i35 : ¬ (r : Int) = 35 := by omega
  subst hst
  simp (disch := first | assumption | omega) only [go_sem, reduceCtorEq, Nat.reduceEqDiff, ↓reduceIte, i34, i35]
  refine (hop r w (by omega)).mono ?_
  intro v σ' hA
  simp (disch := first | assumption | omega) only [go_sem, ↓reduceIte]
  exact retC_by (Drop.refl _) (.refl _) hA
 ·rw [if_neg (by rintro ⟨h, _⟩; exact h128 h), if_neg (by omega), if_neg (by omega)] at hst
  subst hst
  have i128 : ¬ (r : Int) < 128 := by omega
  have i34 : ¬ (r : Int) = 34 := by omega
  have i35 : ¬ (r : Int) = 35 := by omega
  simp (disch := first | assumption | omega) only [go_sem, reduceCtorEq, Nat.reduceEqDiff, ↓reduceIte, e0, n1, n2, n3, i128, i34, i35]
  refine (hop r w (by omega)).mono ?_
  intro v σ' hA
  simp (disch := first | assumption | omega) only [go_sem, ↓reduceIte]
  exact retC_by (Drop.refl _) (.refl _) hA
theorem quotedF_fits : ∀ (k : Nat) (r : List UInt8) (p : Nat) (acc : List UInt8), (∀ j, quotedF k r p acc = .bad j → j < 1 + p + r.length) ∧ quotedF k r p acc ≠ .blank ∧ ∀ kd t n, quotedF k r p acc = .tok kd t n → p + 2 ≤ n ∧ n ≤ p + 1 + r.length
 | 0, r, p, acc => by
   refine ⟨fun j h => ?_, by simp [quotedF], fun kd t n h => by simp [quotedF] at h⟩
   simp only [quotedF, Step.bad.injEq] at h
   omega
 | k + 1, r, p, acc => by
   by_cases hr : r = []
   ·subst hr
    rw [quotedF_nil]
    refine ⟨fun j h => ?_, by simp, fun kd t n h => by simp at h⟩
    simp only [Step.bad.injEq] at h
    omega
   have hpos := List.length_pos_iff.2 hr
   have hle := decodeL_le r hr
   have hw := decodeL_width r
   unfold quotedF
   rw [if_neg hr]
   split
   ·refine ⟨fun j h => ?_, by simp, fun kd t n h => by simp at h⟩
    simp only [Step.bad.injEq] at h
    omega
   split
   ·obtain ⟨h1, h2, h3⟩ := quotedF_fits k (r.drop (decodeL r).2) (p + (decodeL r).2) (acc ++ encodeRune ((decodeL r).1 : Int))
    rw [List.length_drop] at h1 h3
    exact ⟨fun j h => by have := h1 j h; omega, h2, fun kd t n h => by have := h3 kd t n h; omega⟩
   split
   ·rename_i h1 h2 h3
    have hl2 := (List.getElem?_eq_some_iff.1 h3).1
    obtain ⟨h1, h2, h3⟩ := quotedF_fits k (r.drop 2) (p + 2) (acc ++ [34])
    rw [List.length_drop] at h1 h3
    exact ⟨fun j h => by have := h1 j h; omega, h2, fun kd t n h => by have := h3 kd t n h; omega⟩
   ·refine ⟨fun j h => by simp at h, by simp, fun kd t n h => ?_⟩
    simp only [Step.tok.injEq] at h
    omega
theorem failS_fits (r : List UInt8) (hr : r ≠ []) : ∀ (es : List (List UInt8)), (∀ e ∈ es, 1 ≤ e.length) → (∀ j, failS r es = .bad j → j < r.length) ∧ failS r es ≠ .blank ∧ ∀ kd t n, failS r es = .tok kd t n → 1 ≤ n ∧ n ≤ r.length
 | [], _ => by
   have := List.length_pos_iff.2 hr
   refine ⟨fun j h => ?_, by simp [failS], fun kd t n h => by simp [failS] at h⟩
   simp only [failS, Step.bad.injEq] at h
   omega
 | e :: es, he => by
   unfold failS
   split
   ·rename_i h1
    have := he e (by simp)
    refine ⟨fun j h => by simp at h, by simp, fun kd t n h => ?_⟩
    simp only [Step.tok.injEq] at h
    omega
   ·exact failS_fits r hr es fun e h => he e (by simp [h])
theorem twoS_fits (r : List UInt8) : ∀ (es : List (List UInt8)) e, twoS r es = some e → e ∈ es ∧ e.isPrefixOf r = true
 | [], e, h => by simp [twoS] at h
 | x :: es, e, h => by
   unfold twoS at h
   split at h
   ·injection h with h; subst h; exact ⟨by simp, by assumption⟩
   ·obtain ⟨h1, h2⟩ := twoS_fits r es e h
    exact ⟨by simp [h1], h2⟩
theorem stepP_fits (r : List UInt8) (hr : r ≠ []) : (∀ j, stepP r = .bad j → j < r.length) ∧ ∀ kd t n, stepP r = .tok kd t n → 1 ≤ n ∧ n ≤ r.length := by
 have hpos := List.length_pos_iff.2 hr
 have hle := decodeL_le r hr
 have hw := decodeL_width r
 have hasc := dec_ascii hr
 have bad0 : (∀ j, Step.bad 0 = .bad j → j < r.length) ∧ ∀ kd t n, Step.bad 0 = .tok kd t n → 1 ≤ n ∧ n ≤ r.length := by
  refine ⟨fun j h => ?_, fun kd t n h => by simp at h⟩
  simp only [Step.bad.injEq] at h
  omega
 have tok1 : ∀ kd t n, 1 ≤ n → n ≤ r.length → (∀ j, Step.tok kd t n = .bad j → j < r.length) ∧ ∀ kd' t' n', Step.tok kd t n = .tok kd' t' n' → 1 ≤ n' ∧ n' ≤ r.length := by
  intro kd t n h1 h2
  refine ⟨fun j h => by simp at h, fun kd t n h => ?_⟩
  simp only [Step.tok.injEq] at h
  omega
 unfold stepP
 dsimp only
 split
 ·exact bad0
 split
 ·exact ⟨fun j h => by simp at h, fun kd t n h => by simp at h⟩
 split
 ·rename_i h1 h2 h3
  obtain ⟨d, t, hdt, hdc, _⟩ := hasc h3.1
  have hrl := runL_le wordB r
  have h1 : 1 ≤ runL wordB r := by
   rw [hdt, runL]
   have : UInt8.ofNat (decodeL r).1 = d := by rw [← hdc]; simp
   rw [this] at h3
   rw [if_pos h3.2]
   omega
  unfold wordsS
  dsimp only
  repeat' split
  all_goals first | exact tok1 _ _ _ h1 hrl | exact bad0
 split
 ·obtain ⟨h1, h2, h3⟩ := quotedF_fits r.length (r.drop 1) 0 []
  rw [List.length_drop] at h1 h3
  exact ⟨fun j h => by have := h1 j h; omega, fun kd t n h => by have := h3 kd t n h; omega⟩
 split
 ·obtain ⟨h1, h2, h3⟩ := failS_fits r hr errTexts (by decide)
  exact ⟨h1, h3⟩
 ·unfold opS
  split
  ·exact tok1 _ _ _ hw hle
  ·split
   ·rename_i e he
    obtain ⟨h1, h2⟩ := twoS_fits r _ _ he
    have := twos_len e h1
    have := (List.isPrefixOf_iff_prefix.1 h2).length_le
    exact tok1 _ _ _ (by omega) (by omega)
   ·split
    ·exact tok1 _ _ _ (by omega) (by omega)
    ·exact bad0
theorem After.u8 {σ0 σ' : ASt} (hU : U8 σ0) {b : Nat} (hb : σ0 b = none) {s : List UInt8} {p c : Nat} {ts : List Tok} (h : LX σ0 b s p c ts σ') : U8 σ' := by
 have hne : ∀ x r, σ0 x = some r → x ≠ b := by rintro x r hx rfl; rw [hb] at hx; cases hx
 exact ⟨GO.at h (hne _ _ hU.1) hU.1, GO.at h (hne _ _ hU.2) hU.2⟩
theorem lex_ok {σ : ASt} (hU : U8 σ) (s : List UInt8) (hs : s.length ≤ 100000) :
  ACalls Tryz.prog 27 [.str s] σ fun v σ' => v = .tuple [.sl .shr ((lexP s).1.map tokAV), .int .i64 (lexP s).2.1, .int .i64 (lexP s).2.2] ∧ σ' = σ := by
 obtain ⟨R, hR⟩ : ∃ R, lexP s = R := ⟨_, rfl⟩
 rw [hR]
 unfold lexP at hR
 refine a27 (by simp) ?_
 obtain ⟨F, hF⟩ : ∃ F, F = ACode.wp Tryz.prog c27_24 := ⟨_, rfl⟩
 by_cases hbig : 2000 < s.length
 ·rw [if_pos hbig] at hR
  subst hR
  have e1 : (2000 : Int) < s.length := by omega
  simp (disch := first | assumption | omega) only [go_sem, reduceCtorEq, Nat.reduceEqDiff, ↓reduceIte, e1]
  exact retC_by (Drop.refl _) (.tuple (.cons (.sl _ _) (.cons (.refl _) (.cons (.refl _) .nil)))) ⟨rfl, rfl⟩
 rw [if_neg hbig] at hR
 have e1 : ¬ (2000 : Int) < s.length := by omega
 simp (disch := first | assumption | omega) only [go_sem, reduceCtorEq, Nat.reduceAdd, Nat.reduceLeDiff, ↓reduceIte, e1]
 refine boxC_by rfl fun b hb => ?_
 simp (disch := first | assumption | omega) only [go_sem, ↓reduceIte, ←hF]
 have h0 : LX σ b s 0 0 [] (σ.set b (some (.obj [.str s, .int .i64 0, .int .i64 0, .sl .full []]))) := ⟨.full, .inl ⟨rfl, rfl, rfl⟩⟩
 refine wp_loop_on (fun (i : Nat × Nat × List Tok) a σ' => i.1 ≤ s.length ∧ i.2.1 ≤ i.1 ∧ i.2.2.length ≤ i.1 ∧ LX σ b s i.1 i.2.1 i.2.2 σ' ∧ (∃ k, (s.drop i.1).length < k ∧ lexF k (s.drop i.1) i.1 i.2.1 i.2.2 = R) ∧ (a 0 = .str s ∧ a 5 = .ptr b 0))
  (fun i => s.length - i.1) (0, 0, []) ⟨Nat.zero_le _, Nat.le_refl _, Nat.le_refl _, h0, ⟨s.length + 1, by simp, hR⟩, ?_⟩ ?_
 ·simp (disch := first | assumption | omega) only [go_sem, reduceCtorEq, ↓reduceIte]
 rintro ⟨p, c, ts⟩ a σ1 ⟨hp, hc, ht, hL, ⟨k, hk, hlex⟩, hf⟩
 dsimp only at hp hc ht hL hk hlex hf
 have hB : Bnd s p c ts := ⟨hs, hp, hc, by omega⟩
 have hU1 := After.u8 hU hb hL
 obtain ⟨kk, hg, hcell⟩ := hL.cell
 cases k with
 | zero => omega
 | succ k =>
 rw [List.length_drop] at hk
 by_cases hlt : p < s.length
 ·have hne : s.drop p ≠ [] := by
   intro h
   have := congrArg List.length h
   simp at this
   omega
  have hlt' : (p : Int) < s.length := by omega
  have hfit := stepP_fits _ hne
  have hnx := tnext_ok hU1 hL hB hlt
  rw [lexF, if_neg hne] at hlex
  obtain ⟨st, hst⟩ : ∃ st, stepP (s.drop p) = st := ⟨_, rfl⟩
  rw [hst] at hlex hfit hnx
  rw [List.length_drop] at hfit
  simp (disch := first | assumption | omega) only [go_sem, reduceCtorEq, Nat.reduceEqDiff, ↓reduceIte, hf, hcell, hlt']
  refine hnx.mono ?_
  intro v σ' hA
  cases st with
  | bad j =>
    obtain ⟨rfl, c', hL2⟩ := hA
    obtain ⟨k2, hg2, hcell2⟩ := hL2.cell
    dsimp only at hlex
    subst hlex
    simp (disch := first | assumption | omega) only [go_sem, Nat.reduceEqDiff, Int.reduceEq, ↓reduceIte, hf, hcell2]
    exact retC_by (Drop.trans hg2.drop (Drop.set hb)) (.tuple (.cons (.sl _ _) (.cons (.refl _) (.cons (.refl _) .nil)))) ⟨rfl, rfl⟩
  | blank =>
    obtain ⟨rfl, hL2⟩ := hA
    dsimp only at hlex
    rw [List.drop_drop] at hlex
    simp (disch := first | assumption | omega) only [go_sem, reduceCtorEq, Nat.reduceEqDiff, ↓reduceIte, hf]
    exact ⟨(p + 1, c + 1, ts), by dsimp only; omega, by dsimp only; omega, by dsimp only; omega, by dsimp only; omega, hL2, ⟨k, by simp; omega, hlex⟩⟩
  | tok kd t n =>
    obtain ⟨rfl, hL2⟩ := hA
    dsimp only at hlex
    rw [List.drop_drop] at hlex
    obtain ⟨g1, g2⟩ := hfit.2 kd t n rfl
    have hsn := signsN_le ((s.drop p).take n)
    rw [take_len (by omega)] at hsn
    simp (disch := first | assumption | omega) only [go_sem, reduceCtorEq, Nat.reduceEqDiff, ↓reduceIte, hf]
    exact ⟨(p + n, c + signsN ((s.drop p).take n), ts ++ [⟨kd, t, p, c⟩]), by dsimp only; omega, by dsimp only; omega, by dsimp only; omega, by simp; omega, hL2, ⟨k, by simp; omega, hlex⟩⟩
 ·have hlt' : ¬ (p : Int) < s.length := by omega
  have hpe : s.drop p = [] := List.drop_eq_nil_of_le (by omega)
  rw [lexF, hpe, if_pos rfl] at hlex
  subst hlex
  simp (disch := first | assumption | omega) only [go_sem, reduceCtorEq, Nat.reduceEqDiff, ↓reduceIte, hf, hcell, hlt']
  rw [hF]
  simp (disch := first | assumption | omega) only [go_sem, Nat.reduceEqDiff, ↓reduceIte, hf]
  refine (put_ok hL hB 0 [] 0 (by omega)).mono ?_
  rintro v σ' ⟨rfl, hL2⟩
  obtain ⟨k2, hg2, hcell2⟩ := hL2.cell
  have hz : signsN ((s.drop p).take 0) = 0 := by rw [List.take_zero]; rfl
  simp (disch := first | assumption | omega) only [go_sem, Nat.reduceEqDiff, ↓reduceIte, hf, hcell2]
  exact retC_by (Drop.trans hg2.drop (Drop.set hb)) (.tuple (.cons (.sl _ _) (.cons (.refl _) (.cons (.refl _) .nil)))) ⟨rfl, rfl⟩
end Go.A
namespace Go.A
open Go.Proofs
/-! 29: (*tabular/parse.parser).cur -/
def c29_0 : ACode := .ops [
 ⟨some 2, none, .e (.alloc [(.int .i64 0), (.str []), (.int .i64 0), (.int .i64 0)]), []⟩]
def c29_1 : ACode := .ops [
 ⟨some 3, none, .q (.mv (.t 0)), []⟩,
 ⟨some 4, none, .q (.nc (.t 3)), []⟩,
 ⟨some 5, none, .q (.fa 3 (.t 4)), []⟩,
 ⟨some 6, none, .q (.ld none (.t 5)), []⟩,
 ⟨some 7, none, .q (.bin .neq (.t 6) (.v (.int .i64 0))), []⟩]
def c29_2 : ACode := .ops [
 ⟨some 8, none, .q (.build [(.int .i64 0), (.str []), (.int .i64 0), (.int .i64 0)] []), []⟩,
 ⟨none, none, .e (.store 4 (.t 2) (.t 8)), []⟩]
def c29_3 : ACode := .seq c29_2 .ret
def c29_4 : ACode := .cond (.t 7) c29_3 .skip
def c29_5 : ACode := .seq c29_1 c29_4
def c29_6 : ACode := .ops [
 ⟨some 9, none, .q (.mv (.t 0)), []⟩,
 ⟨some 10, none, .q (.nc (.t 9)), []⟩,
 ⟨some 11, none, .q (.fa 0 (.t 10)), []⟩,
 ⟨some 12, none, .q (.ld none (.t 11)), []⟩,
 ⟨some 13, none, .q (.mv (.t 0)), []⟩,
 ⟨some 14, none, .q (.nc (.t 13)), []⟩,
 ⟨some 15, none, .q (.fa 1 (.t 14)), []⟩,
 ⟨some 16, none, .q (.ld none (.t 15)), []⟩,
 ⟨some 17, none, .q (.ia 4 (.t 12) (.t 16)), []⟩,
 ⟨some 18, none, .q (.ld (some 4) (.t 17)), []⟩,
 ⟨none, none, .e (.store 4 (.t 2) (.t 18)), []⟩]
def c29_7 : ACode := .seq c29_6 .ret
def c29_8 : ACode := .seq c29_5 c29_7
def c29_9 : ACode := .seq c29_0 c29_8
@[go_sem] def c29_0_wp := wp_of c29_0.eq_1
@[go_sem] def c29_1_wp := wp_of c29_1.eq_1
@[go_sem] def c29_2_wp := wp_of c29_2.eq_1
@[go_sem] def c29_3_wp := wp_of c29_3.eq_1
@[go_sem] def c29_4_wp := wp_of c29_4.eq_1
@[go_sem] def c29_5_wp := wp_of c29_5.eq_1
@[go_sem] def c29_6_wp := wp_of c29_6.eq_1
@[go_sem] def c29_7_wp := wp_of c29_7.eq_1
@[go_sem] def c29_8_wp := wp_of c29_8.eq_1
@[go_sem] def c29_9_wp := wp_of c29_9.eq_1
def c29 : AFn := ⟨19, [.c 2 (some 4)], c29_9⟩
theorem c29_ok : compF Tryz.prog Tryz.f29 = some c29 := by kernel_rfl
theorem a29 {args : List AV} {σ : ASt} {R : AV → ASt → Prop} (hl : args.length ≤ 19) (h : c29_9.wp Tryz.prog (RetQ [.c 2 (some 4)] R) (init args) σ) : ACalls Tryz.prog 29 args σ R := acalls_of Tryz.func29 c29_ok hl h
/-! 30: (*tabular/parse.parser).fail -/
def c30_0 : ACode := .ops [
 ⟨some 4, none, .e (.alloc [(.int .i64 0), (.int .i64 0), (.str []), (.int .i64 0), (.int .i64 0), (.bool false), (.bool false), (.int .i64 0), (.int .i64 0), (.bool false), (.bool false), (.sl .full [])]), []⟩]
def c30_1 : ACode := .ops [
 ⟨some 5, none, .q (.mv (.t 0)), []⟩,
 ⟨some 6, none, .q (.nc (.t 5)), []⟩,
 ⟨some 7, none, .q (.fa 3 (.t 6)), []⟩,
 ⟨some 8, none, .q (.ld none (.t 7)), []⟩,
 ⟨some 9, none, .q (.bin .eql (.t 8) (.v (.int .i64 0))), []⟩]
def c30_2 : ACode := .ops [
 ⟨some 10, none, .q (.mv (.t 0)), []⟩,
 ⟨some 11, none, .q (.mv (.t 0)), []⟩,
 ⟨some 12, none, .q (.mv (.t 1)), []⟩,
 ⟨some 13, none, .q (.mv (.t 0)), []⟩,
 ⟨some 14, none, .q (.nc (.t 13)), []⟩,
 ⟨some 15, none, .q (.fa 0 (.t 14)), []⟩,
 ⟨some 16, none, .q (.ld none (.t 15)), []⟩,
 ⟨some 17, none, .q (.mv (.t 0)), []⟩,
 ⟨some 18, none, .q (.nc (.t 17)), []⟩,
 ⟨some 19, none, .q (.fa 1 (.t 18)), []⟩,
 ⟨some 20, none, .q (.ld none (.t 19)), []⟩,
 ⟨some 21, none, .q (.ia 4 (.t 16) (.t 20)), []⟩,
 ⟨some 22, none, .q (.fa 2 (.t 21)), []⟩,
 ⟨some 23, none, .q (.ld none (.t 22)), []⟩,
 ⟨some 24, none, .q (.nc (.t 10)), []⟩,
 ⟨some 25, none, .q (.fa 3 (.t 24)), []⟩,
 ⟨none, none, .e (.store 1 (.t 25) (.t 12)), []⟩,
 ⟨some 26, none, .q (.nc (.t 11)), []⟩,
 ⟨some 27, none, .q (.fa 4 (.t 26)), []⟩,
 ⟨none, none, .e (.store 1 (.t 27) (.t 23)), []⟩]
def c30_3 : ACode := .cond (.t 9) c30_2 .skip
def c30_4 : ACode := .seq c30_1 c30_3
def c30_5 : ACode := .ops [
 ⟨some 28, none, .q (.build [(.int .i64 0), (.int .i64 0), (.str []), (.int .i64 0), (.int .i64 0), (.bool false), (.bool false), (.int .i64 0), (.int .i64 0), (.bool false), (.bool false), (.sl .full [])] []), []⟩,
 ⟨none, none, .e (.store 12 (.t 4) (.t 28)), []⟩]
def c30_6 : ACode := .seq c30_5 .ret
def c30_7 : ACode := .seq c30_4 c30_6
def c30_8 : ACode := .seq c30_0 c30_7
@[go_sem] def c30_0_wp := wp_of c30_0.eq_1
@[go_sem] def c30_1_wp := wp_of c30_1.eq_1
@[go_sem] def c30_2_wp := wp_of c30_2.eq_1
@[go_sem] def c30_3_wp := wp_of c30_3.eq_1
@[go_sem] def c30_4_wp := wp_of c30_4.eq_1
@[go_sem] def c30_5_wp := wp_of c30_5.eq_1
@[go_sem] def c30_6_wp := wp_of c30_6.eq_1
@[go_sem] def c30_7_wp := wp_of c30_7.eq_1
@[go_sem] def c30_8_wp := wp_of c30_8.eq_1
def c30 : AFn := ⟨29, [.c 4 (some 12)], c30_8⟩
theorem c30_ok : compF Tryz.prog Tryz.f30 = some c30 := by kernel_rfl
theorem a30 {args : List AV} {σ : ASt} {R : AV → ASt → Prop} (hl : args.length ≤ 29) (h : c30_8.wp Tryz.prog (RetQ [.c 4 (some 12)] R) (init args) σ) : ACalls Tryz.prog 30 args σ R := acalls_of Tryz.func30 c30_ok hl h
/-! 49: slices.Contains[[]string,string] -/
def c49_0 : ACode := .ops [
 ⟨some 4, none, .q (.mv (.v (.bool false))), []⟩]
def c49_1 : ACode := .ops [
 ⟨some 5, none, .q (.mv (.t 0)), []⟩,
 ⟨some 6, none, .q (.mv (.t 1)), []⟩,
 ⟨some 7, none, .e (.call 50 [(.t 5), (.t 6)]), []⟩,
 ⟨some 8, none, .q (.bin .geq (.t 7) (.v (.int .i64 0))), []⟩,
 ⟨some 4, none, .q (.mv (.t 8)), []⟩]
def c49_2 : ACode := .seq c49_1 .ret
def c49_3 : ACode := .seq c49_0 c49_2
@[go_sem] def c49_0_wp := wp_of c49_0.eq_1
@[go_sem] def c49_1_wp := wp_of c49_1.eq_1
@[go_sem] def c49_2_wp := wp_of c49_2.eq_1
@[go_sem] def c49_3_wp := wp_of c49_3.eq_1
def c49 : AFn := ⟨9, [.t 4], c49_3⟩
theorem c49_ok : compF Tryz.prog Tryz.f49 = some c49 := by kernel_rfl
theorem a49 {args : List AV} {σ : ASt} {R : AV → ASt → Prop} (hl : args.length ≤ 9) (h : c49_3.wp Tryz.prog (RetQ [.t 4] R) (init args) σ) : ACalls Tryz.prog 49 args σ R := acalls_of Tryz.func49 c49_ok hl h
/-! 50: slices.Index[[]string,string] -/
def c50_0 : ACode := .ops [
 ⟨some 4, none, .q (.mv (.v (.int .i64 0))), []⟩]
def c50_1 : ACode := .ops [
 ⟨some 6, none, .q (.mv (.t 0)), []⟩,
 ⟨some 7, none, .q (.len (.t 6)), []⟩,
 ⟨some 8, none, .q (.mv (.v (.int .i64 0))), []⟩]
def c50_2 : ACode := .ops [
 ⟨some 9, none, .q (.bin .lss (.t 8) (.t 7)), []⟩]
def c50_3 : ACode := .cond (.t 9) .skip (.exit 0)
def c50_4 : ACode := .ops [
 ⟨some 10, none, .q (.mv (.t 8)), []⟩,
 ⟨some 5, none, .q (.mv (.t 10)), []⟩]
def c50_5 : ACode := .ops [
 ⟨some 11, none, .q (.mv (.t 1)), []⟩,
 ⟨some 12, none, .q (.mv (.t 0)), []⟩,
 ⟨some 13, none, .q (.mv (.t 5)), []⟩,
 ⟨some 14, none, .q (.ia 1 (.t 12) (.t 13)), []⟩,
 ⟨some 15, none, .q (.ld none (.t 14)), []⟩,
 ⟨some 16, none, .q (.bin .eql (.t 11) (.t 15)), []⟩]
def c50_6 : ACode := .ops [
 ⟨some 17, none, .q (.mv (.t 5)), []⟩,
 ⟨some 4, none, .q (.mv (.t 17)), []⟩]
def c50_7 : ACode := .seq c50_6 .ret
def c50_8 : ACode := .cond (.t 16) c50_7 .skip
def c50_9 : ACode := .seq c50_5 c50_8
def c50_10 : ACode := .seq c50_4 c50_9
def c50_11 : ACode := .block 1 c50_10
def c50_12 : ACode := .ops [
 ⟨some 18, none, .q (.bin .add (.t 8) (.v (.int .i64 1))), []⟩,
 ⟨some 8, none, .q (.mv (.t 18)), []⟩]
def c50_13 : ACode := .seq c50_11 c50_12
def c50_14 : ACode := .seq c50_3 c50_13
def c50_15 : ACode := .seq c50_2 c50_14
def c50_16 : ACode := .loop c50_15
def c50_17 : ACode := .block 0 c50_16
def c50_18 : ACode := .seq c50_1 c50_17
def c50_19 : ACode := .ops [
 ⟨some 4, none, .q (.mv (.v (.int .i64 (-1)))), []⟩]
def c50_20 : ACode := .seq c50_19 .ret
def c50_21 : ACode := .seq c50_18 c50_20
def c50_22 : ACode := .seq c50_0 c50_21
@[go_sem] def c50_0_wp := wp_of c50_0.eq_1
@[go_sem] def c50_1_wp := wp_of c50_1.eq_1
@[go_sem] def c50_2_wp := wp_of c50_2.eq_1
@[go_sem] def c50_3_wp := wp_of c50_3.eq_1
@[go_sem] def c50_4_wp := wp_of c50_4.eq_1
@[go_sem] def c50_5_wp := wp_of c50_5.eq_1
@[go_sem] def c50_6_wp := wp_of c50_6.eq_1
@[go_sem] def c50_7_wp := wp_of c50_7.eq_1
@[go_sem] def c50_8_wp := wp_of c50_8.eq_1
@[go_sem] def c50_9_wp := wp_of c50_9.eq_1
@[go_sem] def c50_10_wp := wp_of c50_10.eq_1
@[go_sem] def c50_11_wp := wp_of c50_11.eq_1
@[go_sem] def c50_12_wp := wp_of c50_12.eq_1
@[go_sem] def c50_13_wp := wp_of c50_13.eq_1
@[go_sem] def c50_14_wp := wp_of c50_14.eq_1
@[go_sem] def c50_15_wp := wp_of c50_15.eq_1
@[go_sem] def c50_16_wp := wp_of c50_16.eq_1
@[go_sem] def c50_17_wp := wp_of c50_17.eq_1
@[go_sem] def c50_18_wp := wp_of c50_18.eq_1
@[go_sem] def c50_19_wp := wp_of c50_19.eq_1
@[go_sem] def c50_20_wp := wp_of c50_20.eq_1
@[go_sem] def c50_21_wp := wp_of c50_21.eq_1
@[go_sem] def c50_22_wp := wp_of c50_22.eq_1
def c50 : AFn := ⟨19, [.t 4], c50_22⟩
theorem c50_ok : compF Tryz.prog Tryz.f50 = some c50 := by kernel_rfl
theorem a50 {args : List AV} {σ : ASt} {R : AV → ASt → Prop} (hl : args.length ≤ 19) (h : c50_22.wp Tryz.prog (RetQ [.t 4] R) (init args) σ) : ACalls Tryz.prog 50 args σ R := acalls_of Tryz.func50 c50_ok hl h
/-! 68: (*tabular/parse.parser).at -/
def c68_0 : ACode := .ops [
 ⟨some 4, none, .q (.mv (.v (.bool false))), []⟩]
def c68_1 : ACode := .ops [
 ⟨some 6, none, .q (.mv (.t 0)), []⟩,
 ⟨some 7, none, .e (.call 29 [(.t 6)]), []⟩,
 ⟨some 5, none, .e (.alloc [(.int .i64 0), (.str []), (.int .i64 0), (.int .i64 0)]), []⟩,
 ⟨none, none, .e (.store 4 (.t 5) (.t 7)), []⟩]
def c68_2 : ACode := .ops [
 ⟨some 8, none, .q (.fa 0 (.t 5)), []⟩,
 ⟨some 9, none, .q (.ld none (.t 8)), []⟩,
 ⟨some 10, none, .q (.bin .eql (.t 9) (.v (.int .i64 6))), []⟩,
 ⟨some 11, none, .q (.mv (.t 10)), []⟩,
 ⟨some 12, some (11, true), .q (.fa 1 (.t 5)), []⟩,
 ⟨some 13, some (11, true), .q (.ld none (.t 12)), []⟩,
 ⟨some 14, some (11, true), .q (.mv (.t 1)), []⟩,
 ⟨some 15, some (11, true), .q (.bin .eql (.t 13) (.t 14)), []⟩,
 ⟨some 16, none, .q (.pick (.t 11) (.t 15) (.v (.bool false))), []⟩,
 ⟨some 4, none, .q (.mv (.t 16)), []⟩]
def c68_3 : ACode := .seq c68_2 .ret
def c68_4 : ACode := .seq c68_1 c68_3
def c68_5 : ACode := .seq c68_0 c68_4
@[go_sem] def c68_0_wp := wp_of c68_0.eq_1
@[go_sem] def c68_1_wp := wp_of c68_1.eq_1
@[go_sem] def c68_2_wp := wp_of c68_2.eq_1
@[go_sem] def c68_3_wp := wp_of c68_3.eq_1
@[go_sem] def c68_4_wp := wp_of c68_4.eq_1
@[go_sem] def c68_5_wp := wp_of c68_5.eq_1
def c68 : AFn := ⟨17, [.t 4], c68_5⟩
theorem c68_ok : compF Tryz.prog Tryz.f68 = some c68 := by kernel_rfl
theorem a68 {args : List AV} {σ : ASt} {R : AV → ASt → Prop} (hl : args.length ≤ 17) (h : c68_5.wp Tryz.prog (RetQ [.t 4] R) (init args) σ) : ACalls Tryz.prog 68 args σ R := acalls_of Tryz.func68 c68_ok hl h
/-! 70: (*tabular/parse.parser).enter -/
def c70_0 : ACode := .ops [
 ⟨some 2, none, .q (.mv (.t 0)), []⟩,
 ⟨some 3, none, .q (.nc (.t 2)), []⟩,
 ⟨some 4, none, .q (.fa 2 (.t 3)), []⟩,
 ⟨some 5, none, .q (.ld none (.t 4)), []⟩,
 ⟨some 6, none, .q (.bin .add (.t 5) (.v (.int .i64 1))), []⟩,
 ⟨some 7, none, .q (.nc (.t 2)), []⟩,
 ⟨some 8, none, .q (.fa 2 (.t 7)), []⟩,
 ⟨none, none, .e (.store 1 (.t 8) (.t 6)), []⟩]
def c70_1 : ACode := .ops [
 ⟨some 9, none, .q (.mv (.t 0)), []⟩,
 ⟨some 10, none, .q (.nc (.t 9)), []⟩,
 ⟨some 11, none, .q (.fa 2 (.t 10)), []⟩,
 ⟨some 12, none, .q (.ld none (.t 11)), []⟩,
 ⟨some 13, none, .q (.bin .gtr (.t 12) (.v (.int .i64 40))), []⟩]
def c70_2 : ACode := .ops [
 ⟨some 14, none, .q (.mv (.t 0)), []⟩,
 ⟨some 15, none, .e (.call 30 [(.t 14), (.v (.int .i64 12))]), []⟩]
def c70_3 : ACode := .cond (.t 13) c70_2 .skip
def c70_4 : ACode := .seq c70_1 c70_3
def c70_5 : ACode := .seq c70_0 c70_4
@[go_sem] def c70_0_wp := wp_of c70_0.eq_1
@[go_sem] def c70_1_wp := wp_of c70_1.eq_1
@[go_sem] def c70_2_wp := wp_of c70_2.eq_1
@[go_sem] def c70_3_wp := wp_of c70_3.eq_1
@[go_sem] def c70_4_wp := wp_of c70_4.eq_1
@[go_sem] def c70_5_wp := wp_of c70_5.eq_1
def c70 : AFn := ⟨16, [], c70_5⟩
theorem c70_ok : compF Tryz.prog Tryz.f70 = some c70 := by kernel_rfl
theorem a70 {args : List AV} {σ : ASt} {R : AV → ASt → Prop} (hl : args.length ≤ 16) (h : c70_5.wp Tryz.prog (RetQ [] R) (init args) σ) : ACalls Tryz.prog 70 args σ R := acalls_of Tryz.func70 c70_ok hl h
/-! 71: (*tabular/parse.parser).leave -/
def c71_0 : ACode := .ops [
 ⟨some 2, none, .q (.mv (.t 0)), []⟩,
 ⟨some 3, none, .q (.nc (.t 2)), []⟩,
 ⟨some 4, none, .q (.fa 2 (.t 3)), []⟩,
 ⟨some 5, none, .q (.ld none (.t 4)), []⟩,
 ⟨some 6, none, .q (.bin .sub (.t 5) (.v (.int .i64 1))), []⟩,
 ⟨some 7, none, .q (.nc (.t 2)), []⟩,
 ⟨some 8, none, .q (.fa 2 (.t 7)), []⟩,
 ⟨none, none, .e (.store 1 (.t 8) (.t 6)), []⟩]
@[go_sem] def c71_0_wp := wp_of c71_0.eq_1
def c71 : AFn := ⟨9, [], c71_0⟩
theorem c71_ok : compF Tryz.prog Tryz.f71 = some c71 := by kernel_rfl
theorem d71 {args : List AV} {σ : ASt} {R : AV → ASt → Prop} (hl : args.length ≤ 9) (h : c71_0.wp Tryz.prog (fun _ _ σ' => R (.tuple []) σ') (init args) σ) : ADefer Tryz.prog 71 args σ R := adefer_of (R := R) Tryz.func71 c71_ok (by kernel_rfl) rfl rfl hl h
/-! 96: (*tabular/parse.parser).accept -/
def c96_0 : ACode := .ops [
 ⟨some 4, none, .q (.mv (.v (.bool false))), []⟩]
def c96_1 : ACode := .ops [
 ⟨some 5, none, .q (.mv (.t 0)), []⟩,
 ⟨some 6, none, .q (.mv (.t 1)), []⟩,
 ⟨some 7, none, .e (.call 68 [(.t 5), (.t 6)]), []⟩,
 ⟨some 8, none, .q (.un .not (.t 7)), []⟩]
def c96_2 : ACode := .ops [
 ⟨some 4, none, .q (.mv (.v (.bool false))), []⟩]
def c96_3 : ACode := .seq c96_2 .ret
def c96_4 : ACode := .cond (.t 8) c96_3 .skip
def c96_5 : ACode := .seq c96_1 c96_4
def c96_6 : ACode := .ops [
 ⟨some 9, none, .q (.mv (.t 0)), []⟩,
 ⟨some 10, none, .q (.nc (.t 9)), []⟩,
 ⟨some 11, none, .q (.fa 1 (.t 10)), []⟩,
 ⟨some 12, none, .q (.ld none (.t 11)), []⟩,
 ⟨some 13, none, .q (.bin .add (.t 12) (.v (.int .i64 1))), []⟩,
 ⟨some 14, none, .q (.nc (.t 9)), []⟩,
 ⟨some 15, none, .q (.fa 1 (.t 14)), []⟩,
 ⟨none, none, .e (.store 1 (.t 15) (.t 13)), []⟩]
def c96_7 : ACode := .ops [
 ⟨some 4, none, .q (.mv (.v (.bool true))), []⟩]
def c96_8 : ACode := .seq c96_7 .ret
def c96_9 : ACode := .seq c96_6 c96_8
def c96_10 : ACode := .seq c96_5 c96_9
def c96_11 : ACode := .seq c96_0 c96_10
@[go_sem] def c96_0_wp := wp_of c96_0.eq_1
@[go_sem] def c96_1_wp := wp_of c96_1.eq_1
@[go_sem] def c96_2_wp := wp_of c96_2.eq_1
@[go_sem] def c96_3_wp := wp_of c96_3.eq_1
@[go_sem] def c96_4_wp := wp_of c96_4.eq_1
@[go_sem] def c96_5_wp := wp_of c96_5.eq_1
@[go_sem] def c96_6_wp := wp_of c96_6.eq_1
@[go_sem] def c96_7_wp := wp_of c96_7.eq_1
@[go_sem] def c96_8_wp := wp_of c96_8.eq_1
@[go_sem] def c96_9_wp := wp_of c96_9.eq_1
@[go_sem] def c96_10_wp := wp_of c96_10.eq_1
@[go_sem] def c96_11_wp := wp_of c96_11.eq_1
def c96 : AFn := ⟨16, [.t 4], c96_11⟩
theorem c96_ok : compF Tryz.prog Tryz.f96 = some c96 := by kernel_rfl
theorem a96 {args : List AV} {σ : ASt} {R : AV → ASt → Prop} (hl : args.length ≤ 16) (h : c96_11.wp Tryz.prog (RetQ [.t 4] R) (init args) σ) : ACalls Tryz.prog 96 args σ R := acalls_of Tryz.func96 c96_ok hl h
/-! 116: (*tabular/parse.parser).must -/
def c116_0 : ACode := .ops [
 ⟨some 4, none, .q (.mv (.t 0)), []⟩,
 ⟨some 5, none, .q (.mv (.t 1)), []⟩,
 ⟨some 6, none, .e (.call 96 [(.t 4), (.t 5)]), []⟩,
 ⟨some 7, none, .q (.un .not (.t 6)), []⟩]
def c116_1 : ACode := .ops [
 ⟨some 8, none, .q (.mv (.t 0)), []⟩,
 ⟨some 9, none, .e (.call 30 [(.t 8), (.v (.int .i64 10))]), []⟩]
def c116_2 : ACode := .cond (.t 7) c116_1 .skip
def c116_3 : ACode := .seq c116_0 c116_2
@[go_sem] def c116_0_wp := wp_of c116_0.eq_1
@[go_sem] def c116_1_wp := wp_of c116_1.eq_1
@[go_sem] def c116_2_wp := wp_of c116_2.eq_1
@[go_sem] def c116_3_wp := wp_of c116_3.eq_1
def c116 : AFn := ⟨10, [], c116_3⟩
theorem c116_ok : compF Tryz.prog Tryz.f116 = some c116 := by kernel_rfl
theorem a116 {args : List AV} {σ : ASt} {R : AV → ASt → Prop} (hl : args.length ≤ 10) (h : c116_3.wp Tryz.prog (RetQ [] R) (init args) σ) : ACalls Tryz.prog 116 args σ R := acalls_of Tryz.func116 c116_ok hl h
/-! 131: tabular/parse.ref -/
def c131_0 : ACode := .ops [
 ⟨some 1, none, .e (.box (.t 0)), []⟩,
 ⟨some 2, none, .e (.alloc [(.int .i64 0), (.int .i64 0), (.bool false), (.bool false)]), []⟩]
def c131_1 : ACode := .ops [
 ⟨some 6, none, .q (.fa 1 (.t 1)), []⟩,
 ⟨some 7, none, .q (.ld none (.t 6)), []⟩,
 ⟨some 8, none, .e (.call 109 [(.t 7)]), []⟩,
 ⟨some 5, none, .q (.mv (.t 8)), []⟩,
 ⟨some 9, none, .q (.ext 0 (.t 5)), []⟩,
 ⟨some 10, none, .q (.ext 1 (.t 5)), []⟩,
 ⟨some 3, none, .e (.alloc [(.int .i64 0), (.int .i64 0), (.bool false), (.bool false)]), []⟩,
 ⟨none, none, .e (.store 4 (.t 3) (.t 9)), []⟩,
 ⟨some 4, none, .q (.mv (.t 10)), []⟩]
def c131_2 : ACode := .ops [
 ⟨some 11, none, .q (.ld (some 4) (.t 3)), []⟩,
 ⟨none, none, .e (.store 4 (.t 2) (.t 11)), []⟩]
def c131_3 : ACode := .seq c131_2 .ret
def c131_4 : ACode := .seq c131_1 c131_3
def c131_5 : ACode := .seq c131_0 c131_4
@[go_sem] def c131_0_wp := wp_of c131_0.eq_1
@[go_sem] def c131_1_wp := wp_of c131_1.eq_1
@[go_sem] def c131_2_wp := wp_of c131_2.eq_1
@[go_sem] def c131_3_wp := wp_of c131_3.eq_1
@[go_sem] def c131_4_wp := wp_of c131_4.eq_1
@[go_sem] def c131_5_wp := wp_of c131_5.eq_1
def c131 : AFn := ⟨12, [.c 2 (some 4)], c131_5⟩
theorem c131_ok : compF Tryz.prog Tryz.f131 = some c131 := by kernel_rfl
theorem a131 {args : List AV} {σ : ASt} {R : AV → ASt → Prop} (hl : args.length ≤ 12) (h : c131_5.wp Tryz.prog (RetQ [.c 2 (some 4)] R) (init args) σ) : ACalls Tryz.prog 131 args σ R := acalls_of Tryz.func131 c131_ok hl h
end Go.A
