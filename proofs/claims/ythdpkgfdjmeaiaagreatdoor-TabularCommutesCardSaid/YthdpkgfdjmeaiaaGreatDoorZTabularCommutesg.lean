/- Part 7 of what TabularCommutes leans on: Pa CodeZk Zk CodePb Pb CodePc Pc CodePd. -/
import Derived.Test.YthdpkgfdjmeaiaaGreatDoorProg
import Derived.KernelRfl
import Derived.Test.YthdpkgfdjmeaiaaGreatDoorZTabularCommutesf
set_option linter.defProp false
set_option linter.unusedSimpArgs false
set_option linter.unusedVariables false
set_option maxRecDepth 100000
namespace Go.A
open Go.Proofs Go.Lib
structure PSt where
 i : Nat
 deep : Int
 err : Int
 bad : Int
 deriving DecidableEq
def endT : Tok := ⟨0, [], 0, 0⟩
def zN : Nd := .mk 0 0 [] .zero .zero []
section
variable (T : List Tok)
def PSt.next (s : PSt) : PSt := { s with i := s.i + 1 }
def curT (s : PSt) : Tok := if s.err ≠ 0 then endT else T.getD s.i endT
def failP (s : PSt) (e : Int) : PSt := if s.err = 0 then { s with err := e, bad := ((T.getD s.i endT).at' : Nat) } else s
def isOp (s : PSt) (x : List UInt8) : Bool := decide ((curT T s).kind = 6) && decide ((curT T s).text = x)
def mustP (s : PSt) (x : List UInt8) : PSt := if isOp T s x then s.next else failP T s 10
def enterP (s : PSt) : PSt := if 40 < s.deep + 1 then failP T { s with deep := s.deep + 1 } 12 else { s with deep := s.deep + 1 }
def leaveP (s : PSt) : PSt := { s with deep := s.deep - 1 }
def stepP1 (s : PSt) : PSt := if s.err = 0 then s.next else s
def levelsL : List (List (List UInt8)) := [[[61], [60, 62], [60], [60, 61], [62], [62, 61]], [[38]], [[43], [45]], [[42], [47]], [[94]]]
def idxS (x : List UInt8) : List (List UInt8) → Nat → Int
 | [], _ => -1
 | y :: l, i => if x = y then i else idxS x l (i + 1)
def idxP (l : List (List UInt8)) (x : List UInt8) : Int := idxS x l 0
theorem idxS_mem (x : List UInt8) : ∀ (l : List (List UInt8)) (k : Nat), decide (0 ≤ idxS x l k) = decide (x ∈ l)
 | [], k => by simp [idxS]
 | y :: l, k => by
   rw [idxS]
   by_cases h : x = y
   ·subst h; simp
   ·rw [if_neg h, idxS_mem x l (k + 1)]; simp [h]
theorem idxS_rng (x : List UInt8) : ∀ (l : List (List UInt8)) (k : Nat), -1 ≤ idxS x l k ∧ idxS x l k ≤ k + l.length
 | [], k => by simp only [idxS]; omega
 | y :: l, k => by
   rw [idxS]
   split
   ·simp only [List.length_cons]; omega
   ·have := idxS_rng x l (k + 1); simp only [List.length_cons]; omega
def sgn (s : PSt) (lvl : Nat) : Bool := decide ((curT T s).kind = 6) && decide ((curT T s).text ∈ levelsL.getD lvl [])
def refT (t : Tok) : Ref := (parseP t.text).1
def areaP (s : PSt) : Nd × PSt :=
 if isOp T s.next [58] = false then (.mk 5 0 [] (refT (curT T s)) .zero [], s.next)
 else if (curT T s.next.next).kind ≠ 4 then (zN, failP T s.next.next 10)
 else (.mk 6 0 [] (refT (curT T s)) (refT (curT T s.next.next)) [], s.next.next.next)
mutual
def betwP : Nat → Nat → PSt → Option (Nd × PSt)
 | 0, _, _ => none
 | f + 1, lvl, s => if lvl = 5 then signedP f s else match betwP f (lvl + 1) s with
   | none => none
   | some r => loopP f lvl r.1 r.2
def loopP : Nat → Nat → Nd → PSt → Option (Nd × PSt)
 | 0, _, _, _ => none
 | f + 1, lvl, n, s => if sgn T s lvl = true then (match betwP f (lvl + 1) s.next with
   | none => none
   | some r => loopP f lvl (.mk (10 + idxP signL (curT T s).text) 0 [] .zero .zero [n, r.1]) r.2) else some (n, s)
def signedP : Nat → PSt → Option (Nd × PSt)
 | 0, _ => none
 | f + 1, s => if isOp T s [45] = true then (match signedP f (stepP1 (enterP T s)) with
   | none => none
   | some r => some (.mk 7 0 [] .zero .zero [r.1], leaveP r.2))
  else if isOp T s [43] = true then (match signedP f (stepP1 (enterP T s)) with
   | none => none
   | some r => some (.mk 8 0 [] .zero .zero [r.1], leaveP r.2))
  else hundredP f s
def hundredP : Nat → PSt → Option (Nd × PSt)
 | 0, _ => none
 | f + 1, s => match primP f s with
   | none => none
   | some r => hloopP f r.1 r.2
def hloopP : Nat → Nd → PSt → Option (Nd × PSt)
 | 0, _, _ => none
 | f + 1, n, s => if isOp T s [37] = true then hloopP f (.mk 9 0 [] .zero .zero [n]) s.next else some (n, s)
def primP : Nat → PSt → Option (Nd × PSt)
 | 0, _ => none
 | f + 1, s =>
   if (curT T s).kind = 1 then (match parseD (curT T s).text with
    | none => some (zN, failP T s 10)
    | some v => some (.mk 1 v [] .zero .zero [], s.next))
   else if (curT T s).kind = 2 then some (.mk 2 0 (curT T s).text .zero .zero [], s.next)
   else if (curT T s).kind = 5 then some (.mk 4 ((idxP errL (curT T s).text + 1) * 10000) [] .zero .zero [], s.next)
   else if (curT T s).kind = 4 then some (areaP T s)
   else if (curT T s).kind = 3 then nameP f s
   else if isOp T s [40] = true then (match betwP f 0 (stepP1 (enterP T s)) with
    | none => none
    | some r => some (r.1, leaveP (mustP T r.2 [41])))
   else some (zN, failP T s 10)
def nameP : Nat → PSt → Option (Nd × PSt)
 | 0, _ => none
 | f + 1, s =>
   if (T.getD (s.i + 1) endT).kind = 6 ∧ (T.getD (s.i + 1) endT).text = [40] then
    (if (enterP T s).err ≠ 0 then some (zN, leaveP (enterP T s))
     else match argsP f (enterP T s).next.next with
      | none => none
      | some r => some (.mk 22 0 (curT T s).text .zero .zero r.1, leaveP r.2))
   else if (curT T s).text = [84, 82, 85, 69] then some (.mk 3 1 [] .zero .zero [], s.next)
   else if (curT T s).text = [70, 65, 76, 83, 69] then some (.mk 3 0 [] .zero .zero [], s.next)
   else some (zN, failP T s 10)
def argsP : Nat → PSt → Option (List Nd × PSt)
 | 0, _ => none
 | f + 1, s => if isOp T s [41] = true then some ([], s.next) else aloopP f [] s
def aloopP : Nat → List Nd → PSt → Option (List Nd × PSt)
 | 0, _, _ => none
 | f + 1, l, s => if s.err ≠ 0 then some (l, s) else
   match (if isOp T s [44] = true ∨ isOp T s [41] = true then some (missN, s) else betwP f 0 s) with
   | none => none
   | some r => if isOp T r.2 [44] = true then aloopP f (l ++ [r.1]) r.2.next else some (l ++ [r.1], mustP T r.2 [41])
end
def parseT (f : Nat) (s : List UInt8) : Option (Nd × Int × Int) :=
 if (lexP s).2.2 ≠ 0 then some (zN, (lexP s).2.1, (lexP s).2.2) else
 match betwP (lexP s).1 f 0 ⟨0, 0, 0, 0⟩ with
 | none => none
 | some r =>
   if (if (curT (lexP s).1 r.2).kind ≠ 0 then failP (lexP s).1 r.2 10 else r.2).err ≠ 0 then some (zN, (if (curT (lexP s).1 r.2).kind ≠ 0 then failP (lexP s).1 r.2 10 else r.2).bad, (if (curT (lexP s).1 r.2).kind ≠ 0 then failP (lexP s).1 r.2 10 else r.2).err)
   else some (r.1, 0, 0)
end
structure Ends (T : List Tok) : Prop where
 pos : 0 < T.length
 last : ∀ i, i + 1 = T.length → (T.getD i endT).kind = 0
 more : ∀ i, i < T.length → (T.getD i endT).kind ≠ 0 → i + 1 < T.length
structure Fit (T : List Tok) (s : PSt) : Prop where
 i : s.i < T.length
 d0 : 0 ≤ s.deep
 d1 : s.deep ≤ 41
 d2 : s.err = 0 → s.deep ≤ 40
structure Went (T : List Tok) (s s' : PSt) : Prop where
 fit : Fit T s'
 le : s.i ≤ s'.i
 deep : s'.deep = s.deep
 err : s.err ≠ 0 → s'.err = s.err ∧ s'.i = s.i
section
variable {T : List Tok}
theorem Went.refl {s : PSt} (h : Fit T s) : Went T s s := ⟨h, Nat.le_refl _, rfl, fun _ => ⟨rfl, rfl⟩⟩
theorem Went.trans {s s' s'' : PSt} (h : Went T s s') (k : Went T s' s'') : Went T s s'' :=
 ⟨k.fit, Nat.le_trans h.le k.le, k.deep.trans h.deep, fun he => by
  obtain ⟨h1, h2⟩ := h.err he
  obtain ⟨k1, k2⟩ := k.err (by rw [h1]; exact he)
  exact ⟨k1.trans h1, k2.trans h2⟩⟩
theorem Fit.next {s : PSt} (hT : Ends T) (h : Fit T s) (hk : (curT T s).kind ≠ 0) : Fit T s.next ∧ s.err = 0 := by
 unfold curT at hk
 split at hk
 ·exact absurd rfl hk
 ·rename_i he
  have := hT.more s.i h.i hk
  exact ⟨⟨this, h.d0, h.d1, h.d2⟩, by simpa using he⟩
theorem Went.next {s : PSt} (hT : Ends T) (h : Fit T s) (hk : (curT T s).kind ≠ 0) : Went T s s.next :=
 ⟨(h.next hT hk).1, Nat.le_succ _, rfl, fun he => absurd (h.next hT hk).2 he⟩
theorem Fit.fail {s : PSt} (h : Fit T s) (e : Int) (he : e ≠ 0) : Fit T (failP T s e) := by
 unfold failP
 split
 ·exact ⟨h.i, h.d0, h.d1, fun h0 => absurd h0 he⟩
 ·exact h
theorem Went.fail {s : PSt} (h : Fit T s) (e : Int) (he : e ≠ 0) : Went T s (failP T s e) := by
 refine ⟨h.fail e he, ?_, ?_, fun h0 => ?_⟩
 ·unfold failP; split <;> exact Nat.le_refl _
 ·unfold failP; split <;> rfl
 ·unfold failP; rw [if_neg h0]; exact ⟨rfl, rfl⟩
theorem isOp_kind {s : PSt} {x : List UInt8} (h : isOp T s x = true) : (curT T s).kind ≠ 0 := by
 unfold isOp at h
 simp only [Bool.and_eq_true, decide_eq_true_eq] at h
 omega
theorem sgn_kind {s : PSt} {l : Nat} (h : sgn T s l = true) : (curT T s).kind ≠ 0 := by
 unfold sgn at h
 simp only [Bool.and_eq_true, decide_eq_true_eq] at h
 omega
theorem Went.must {s : PSt} (hT : Ends T) (h : Fit T s) (x : List UInt8) : Went T s (mustP T s x) := by
 unfold mustP
 split
 ·rename_i hx; exact Went.next hT h (isOp_kind hx)
 ·exact Went.fail h 10 (by decide)
theorem enter_fit {s : PSt} (hT : Ends T) (h : Fit T s) (hk : (curT T s).kind ≠ 0) : Fit T (stepP1 (enterP T s)) ∧ (stepP1 (enterP T s)).deep = s.deep + 1 ∧ s.i ≤ (stepP1 (enterP T s)).i := by
 obtain ⟨h1, h2⟩ := h.next hT hk
 have hd := h.d2 h2
 unfold enterP
 split
 ·unfold failP
  dsimp only
  rw [if_pos h2]
  unfold stepP1
  dsimp only
  rw [if_neg (by decide)]
  exact ⟨⟨h.i, by have := h.d0; dsimp only; omega, by dsimp only; omega, fun h0 => absurd h0 (by dsimp only; decide)⟩, rfl, Nat.le_refl _⟩
 ·unfold stepP1
  dsimp only
  rw [if_pos h2]
  exact ⟨⟨h1.i, by have := h.d0; dsimp only [PSt.next]; omega, by dsimp only [PSt.next]; omega, fun _ => by dsimp only [PSt.next]; omega⟩, rfl, Nat.le_succ _⟩
theorem Went.leave {s s1 s2 : PSt} (h1 : s1.deep = s.deep + 1) (hle : s.i ≤ s1.i) (h0 : s.err = 0) (hs : Fit T s) (h : Went T s1 s2) : Went T s (leaveP s2) := by
 have hd := h.deep
 have e : (leaveP s2).deep = s2.deep - 1 := rfl
 have := hs.d0
 have := hs.d2 h0
 exact ⟨⟨h.fit.i, by omega, by omega, fun _ => by omega⟩, Nat.le_trans hle h.le, by omega, fun he => absurd h0 he⟩
theorem cur_err {s : PSt} (h : (curT T s).kind ≠ 0) : s.err = 0 := by
 unfold curT at h
 split at h
 ·exact absurd rfl h
 ·rename_i he; simpa using he
theorem cur_at {s : PSt} (h : s.err = 0) : curT T s = T.getD s.i endT := by unfold curT; rw [if_neg (by simp [h])]
theorem Went.area {s : PSt} (hT : Ends T) (h : Fit T s) (hk : (curT T s).kind = 4) : Went T s (areaP T s).2 := by
 have h1 := Went.next hT h (by omega)
 unfold areaP
 split
 ·exact h1
 ·rename_i ho
  have ho' : isOp T s.next [58] = true := by simpa using ho
  have h2 := h1.trans (Went.next hT h1.fit (isOp_kind ho'))
  split
  ·exact h2.trans (Went.fail h2.fit 10 (by decide))
  ·rename_i hk2
   exact h2.trans (Went.next hT h2.fit (by omega))
structure WentF (T : List Tok) (f : Nat) : Prop where
 betw : ∀ lvl s r, betwP T f lvl s = some r → Fit T s → Went T s r.2
 loop : ∀ lvl n s r, loopP T f lvl n s = some r → Fit T s → Went T s r.2
 signed : ∀ s r, signedP T f s = some r → Fit T s → Went T s r.2
 hundred : ∀ s r, hundredP T f s = some r → Fit T s → Went T s r.2
 hloop : ∀ n s r, hloopP T f n s = some r → Fit T s → Went T s r.2
 prim : ∀ s r, primP T f s = some r → Fit T s → Went T s r.2
 name : ∀ s r, nameP T f s = some r → Fit T s → (curT T s).kind = 3 → Went T s r.2
 args : ∀ s r, argsP T f s = some r → Fit T s → Went T s r.2
 aloop : ∀ l s r, aloopP T f l s = some r → Fit T s → Went T s r.2
theorem enter2 {s : PSt} (hT : Ends T) (h : Fit T s) (hk : (curT T s).kind ≠ 0) (he : (enterP T s).err = 0) : Fit T (enterP T s).next ∧ (enterP T s).deep = s.deep + 1 ∧ (enterP T s).i = s.i ∧ (enterP T s).next = stepP1 (enterP T s) := by
 have h1 := enter_fit hT h hk
 have e : stepP1 (enterP T s) = (enterP T s).next := if_pos he
 rw [e] at h1
 refine ⟨h1.1, h1.2.1, ?_, e.symm⟩
 unfold enterP failP
 split
 ·split <;> rfl
 ·rfl
theorem enter_err {s : PSt} (hT : Ends T) (h : Fit T s) (h0 : s.err = 0) : Fit T (enterP T s) ∧ (enterP T s).deep = s.deep + 1 ∧ (enterP T s).i = s.i := by
 have hd := h.d2 h0
 have := h.d0
 unfold enterP
 split
 ·unfold failP
  dsimp only
  rw [if_pos h0]
  exact ⟨⟨h.i, by dsimp only; omega, by dsimp only; omega, fun h => absurd h (by dsimp only; decide)⟩, rfl, rfl⟩
 ·exact ⟨⟨h.i, by dsimp only; omega, by dsimp only; omega, fun _ => by dsimp only; omega⟩, rfl, rfl⟩
theorem wentF (hT : Ends T) : ∀ f, WentF T f
 | 0 => by
   constructor
   all_goals intros
   all_goals first
    | (rename_i h _; simp only [betwP, loopP, signedP, hundredP, hloopP, primP, argsP, aloopP, reduceCtorEq] at h)
    | (rename_i h _ _; simp only [nameP, reduceCtorEq] at h)
 | f + 1 => by
   have ih := wentF hT f
   constructor
   ·intro lvl s r h hf
    rw [betwP] at h
    split at h
    ·exact ih.signed s r h hf
    ·split at h
     ·cases h
     ·rename_i r1 h1
      have w1 := ih.betw _ _ _ h1 hf
      exact w1.trans (ih.loop _ _ _ _ h w1.fit)
   ·intro lvl n s r h hf
    rw [loopP] at h
    split at h
    ·rename_i hk
     split at h
     ·cases h
     ·rename_i r1 h1
      have w0 := Went.next hT hf (sgn_kind hk)
      have w1 := w0.trans (ih.betw _ _ _ h1 w0.fit)
      exact w1.trans (ih.loop _ _ _ _ h w1.fit)
    ·injection h with h; subst h; exact Went.refl hf
   ·intro s r h hf
    rw [signedP] at h
    split at h
    ·rename_i hk
     split at h
     ·cases h
     ·rename_i r1 h1
      injection h with h; subst h
      obtain ⟨g1, g2, g3⟩ := enter_fit hT hf (isOp_kind hk)
      exact Went.leave g2 g3 (cur_err (isOp_kind hk)) hf (ih.signed _ _ h1 g1)
    split at h
    ·rename_i hk
     split at h
     ·cases h
     ·rename_i r1 h1
      injection h with h; subst h
      obtain ⟨g1, g2, g3⟩ := enter_fit hT hf (isOp_kind hk)
      exact Went.leave g2 g3 (cur_err (isOp_kind hk)) hf (ih.signed _ _ h1 g1)
    ·exact ih.hundred _ _ h hf
   ·intro s r h hf
    rw [hundredP] at h
    split at h
    ·cases h
    ·rename_i r1 h1
     have w1 := ih.prim _ _ h1 hf
     exact w1.trans (ih.hloop _ _ _ h w1.fit)
   ·intro n s r h hf
    rw [hloopP] at h
    split at h
    ·rename_i hk
     have w0 := Went.next hT hf (isOp_kind hk)
     exact w0.trans (ih.hloop _ _ _ h w0.fit)
    ·injection h with h; subst h; exact Went.refl hf
   ·intro s r h hf
    rw [primP] at h
    split at h
    ·rename_i hk
     split at h
     ·injection h with h; subst h; exact Went.fail hf 10 (by decide)
     ·injection h with h; subst h; exact Went.next hT hf (by rw [hk]; decide)
    split at h
    ·rename_i hk
     injection h with h; subst h; exact Went.next hT hf (by omega)
    split at h
    ·rename_i hk
     injection h with h; subst h; exact Went.next hT hf (by omega)
    split at h
    ·rename_i hk
     injection h with h; subst h; exact Went.area hT hf hk
    split at h
    ·rename_i hk
     exact ih.name _ _ h hf hk
    split at h
    ·rename_i hk
     split at h
     ·cases h
     ·rename_i r1 h1
      injection h with h; subst h
      obtain ⟨g1, g2, g3⟩ := enter_fit hT hf (isOp_kind hk)
      have w1 := ih.betw _ _ _ h1 g1
      exact Went.leave g2 g3 (cur_err (isOp_kind hk)) hf (w1.trans (Went.must hT w1.fit _))
    ·injection h with h; subst h; exact Went.fail hf 10 (by decide)
   ·intro s r h hf hk3
    have h0 : s.err = 0 := cur_err (T := T) (by omega)
    have hn := hf.next hT (by omega)
    rw [nameP] at h
    split at h
    ·rename_i hk
     obtain ⟨e1, e2, e3⟩ := enter_err hT hf h0
     split at h
     ·injection h with h; subst h
      exact Went.leave e2 (by omega) h0 hf (Went.refl e1)
     ·rename_i he
      split at h
      ·cases h
      ·rename_i r1 h1
       injection h with h; subst h
       obtain ⟨g1, g2, g3, _⟩ := enter2 hT hf (by omega) (by simpa using he)
       have hl := hT.more (s.i + 1) hn.1.i (by omega)
       have g4 : Fit T (enterP T s).next.next := ⟨by show (enterP T s).i + 1 + 1 < _; omega, g1.d0, g1.d1, g1.d2⟩
       exact Went.leave (s1 := (enterP T s).next.next) g2 (by show s.i ≤ (enterP T s).i + 1 + 1; omega) h0 hf (ih.args _ _ h1 g4)
    split at h
    ·injection h with h; subst h; exact Went.next hT hf (by omega)
    split at h
    ·injection h with h; subst h; exact Went.next hT hf (by omega)
    ·injection h with h; subst h; exact Went.fail hf 10 (by decide)
   ·intro s r h hf
    rw [argsP] at h
    split at h
    ·rename_i hk
     injection h with h; subst h; exact Went.next hT hf (isOp_kind hk)
    ·exact ih.aloop _ _ _ h hf
   ·intro l s r h hf
    rw [aloopP] at h
    split at h
    ·injection h with h; subst h; exact Went.refl hf
    ·rename_i he
     split at h
     ·cases h
     ·rename_i r1 h1
      have w1 : Went T s r1.2 := by
       split at h1
       ·injection h1 with h1; subst h1; exact Went.refl hf
       ·exact ih.betw _ _ _ h1 hf
      split at h
      ·rename_i hk
       have w2 := w1.trans (Went.next hT w1.fit (isOp_kind hk))
       exact w2.trans (ih.aloop _ _ _ h w2.fit)
      ·injection h with h; subst h; exact w1.trans (Went.must hT w1.fit _)
end
end Go.A
namespace Go.A
open Go.Proofs
/-! 31: tabular/token.Lex -/
def c31_18 : ACode := .seq (.seq (.ops [ oq 13 (.mv (.t 5)), oq 14 (.nc (.t 13)), oq 15 (.fa 1 (.t 14)), oq 16 (.ld none (.t 15)), oq 17 (.mv (.t 0)), oq 18 (.lenS (.t 17)), oq 19 (.bin .lss (.t 16) (.t 18))]) (.cond (.t 19) .skip (.exit 0))) (.block 1 (.seq (.ops [ oq 20 (.mv (.t 5)), oe 21 (.call 66 [(.t 20)]), oq 6 (.mv (.t 21))]) (.seq (.ops [ oq 22 (.mv (.t 6)), oq 23 (.bin .neq (.t 22) (.v (.int .i64 0)))]) (.cond (.t 23) (.seq (.ops [ oq 24 (.mv (.t 5)), oq 25 (.nc (.t 24)), oq 26 (.fa 1 (.t 25)), oq 27 (.ld none (.t 26)), oq 28 (.mv (.t 6)), oq 2 (.mv (.v (.sl .full []))), oq 3 (.mv (.t 27)), oq 4 (.mv (.t 28))]) .ret) .skip))))
def c31_24 : ACode := .seq (.ops [ oq 29 (.mv (.t 5)), oe 30 (.call 67 [(.t 29), (.v (.int .i64 0)), (.v (.str [])), (.v (.int .i64 0))])]) (.seq (.ops [ oq 31 (.mv (.t 5)), oq 32 (.nc (.t 31)), oq 33 (.fa 3 (.t 32)), oq 34 (.ld none (.t 33)), oq 2 (.mv (.t 34)), oq 3 (.mv (.v (.int .i64 0))), oq 4 (.mv (.v (.int .i64 0)))]) .ret)
def c31_28 : ACode := .seq (.ops [ oq 2 (.mv (.v (.sl .full []))), oq 3 (.mv (.v (.int .i64 0))), oq 4 (.mv (.v (.int .i64 0)))]) (.seq (.seq (.ops [ oq 7 (.mv (.t 0)), oq 8 (.lenS (.t 7)), oq 9 (.bin .gtr (.t 8) (.v (.int .i64 2000)))]) (.cond (.t 9) (.seq (.ops [ oq 2 (.mv (.v (.sl .full []))), oq 3 (.mv (.v (.int .i64 0))), oq 4 (.mv (.v (.int .i64 11)))]) .ret) .skip)) (.seq (.ops [ oq 10 (.mv (.t 0)), oq 11 (.build [(.str []), (.int .i64 0), (.int .i64 0), (.sl .full [])] [(0, 1, (.t 10))]), oe 12 (.box (.t 11)), oq 5 (.mv (.t 12))]) (.seq (.block 0 (.loop c31_18)) c31_24)))
@[go_sem] def c31_18_wp := wp_of c31_18.eq_1
@[go_sem] def c31_24_wp := wp_of c31_24.eq_1
@[go_sem] def c31_28_wp := wp_of c31_28.eq_1
def c31 : AFn := ⟨35, [.t 2, .t 3, .t 4], c31_28⟩
theorem c31_ok : compF Tryz.prog Tryz.f31 = some c31 := by kernel_rfl
theorem a31 {args : List AV} {σ : ASt} {R : AV → ASt → Prop} (hl : args.length ≤ 35) (h : c31_28.wp Tryz.prog (RetQ [.t 2, .t 3, .t 4] R) (init args) σ) : ACalls Tryz.prog 31 args σ R := acalls_of Tryz.func31 c31_ok hl h
/-! 66: (*tabular/token.lexer).next -/
def c66_39 : ACode := .seq (.ops [ oq 2 (.mv (.v (.int .i64 0)))]) (.seq (.ops [ oq 6 (.mv (.t 0)), oe 7 (.call 101 [(.t 6)]), oq 5 (.mv (.t 7)), oq 8 (.ext 0 (.t 5)), oq 9 (.ext 1 (.t 5)), oq 3 (.mv (.t 8)), oq 4 (.mv (.t 9))]) (.seq (.block 0 (.seq (.ops [ oq 15 (.mv (.t 4)), oq 16 (.bin .lss (.t 15) (.v (.int .i64 0))), oq 14 (.mv (.t 16))]) (.cond (.t 14) (.seq (.ops [ oq 2 (.mv (.v (.int .i64 10)))]) .ret) (.seq (.seq (.ops [ oq 18 (.mv (.t 3)), oq 19 (.bin .eql (.t 18) (.v (.int .i32 32))), oq 17 (.mv (.t 19))]) (.cond (.t 17) .skip (.seq (.ops [ oq 20 (.mv (.t 3)), oq 21 (.bin .eql (.t 20) (.v (.int .i32 9))), oq 17 (.mv (.t 21))]) (.cond (.t 17) .skip (.ops [ oq 22 (.mv (.t 3)), oq 23 (.bin .eql (.t 22) (.v (.int .i32 10))), oq 17 (.mv (.t 23))]))))) (.cond (.t 17) (.ops [ oq 24 (.mv (.t 0)), oq 25 (.mv (.t 0)), oq 26 (.nc (.t 25)), oq 27 (.fa 1 (.t 26)), oq 28 (.ld none (.t 27)), oq 29 (.mv (.t 4)), oq 30 (.bin .add (.t 28) (.t 29)), oe 31 (.call 102 [(.t 24), (.t 30)])]) (.seq (.ops [ oq 33 (.mv (.t 3)), oq 34 (.bin .lss (.t 33) (.v (.int .i32 128))), oq 35 (.mv (.t 34)), ⟨some 36, some (35, true), .q (.mv (.t 3)), []⟩, ⟨some 37, some (35, true), .q (.conv .u8 (.t 36)), []⟩, ⟨some 38, some (35, true), .e (.call 103 [(.t 37)]), []⟩, oq 39 (.pick (.t 35) (.t 38) (.v (.bool false))), oq 32 (.mv (.t 39))]) (.cond (.t 32) (.seq (.ops [ oq 40 (.mv (.t 0)), oe 41 (.call 104 [(.t 40)]), oq 2 (.mv (.t 41))]) .ret) (.seq (.ops [ oq 43 (.mv (.t 3)), oq 44 (.bin .eql (.t 43) (.v (.int .i32 34))), oq 42 (.mv (.t 44))]) (.cond (.t 42) (.seq (.ops [ oq 45 (.mv (.t 0)), oe 46 (.call 105 [(.t 45)]), oq 2 (.mv (.t 46))]) .ret) (.seq (.ops [ oq 48 (.mv (.t 3)), oq 49 (.bin .eql (.t 48) (.v (.int .i32 35))), oq 47 (.mv (.t 49))]) (.cond (.t 47) (.seq (.ops [ oq 50 (.mv (.t 0)), oe 51 (.call 106 [(.t 50)]), oq 2 (.mv (.t 51))]) .ret) (.seq (.ops [ oq 10 (.mv (.t 0)), oq 11 (.mv (.t 3)), oq 12 (.mv (.t 4)), oe 13 (.call 107 [(.t 10), (.t 11), (.t 12)]), oq 2 (.mv (.t 13))]) .ret)))))))))))) (.seq (.ops [ oq 2 (.mv (.v (.int .i64 0)))]) .ret)))
@[go_sem] def c66_39_wp := wp_of c66_39.eq_1
def c66 : AFn := ⟨52, [.t 2], c66_39⟩
theorem c66_ok : compF Tryz.prog Tryz.f66 = some c66 := by kernel_rfl
theorem a66 {args : List AV} {σ : ASt} {R : AV → ASt → Prop} (hl : args.length ≤ 52) (h : c66_39.wp Tryz.prog (RetQ [.t 2] R) (init args) σ) : ACalls Tryz.prog 66 args σ R := acalls_of Tryz.func66 c66_ok hl h
/-! 67: (*tabular/token.lexer).put -/
def c67_4 : ACode := .seq (.ops [ oq 8 (.mv (.t 0)), oq 9 (.mv (.t 0)), oq 10 (.nc (.t 9)), oq 11 (.fa 3 (.t 10)), oq 12 (.ld none (.t 11)), oq 13 (.mv (.t 1)), oq 14 (.mv (.t 2)), oq 15 (.mv (.t 0)), oq 16 (.nc (.t 15)), oq 17 (.fa 1 (.t 16)), oq 18 (.ld none (.t 17)), oq 19 (.mv (.t 0)), oq 20 (.nc (.t 19)), oq 21 (.fa 2 (.t 20)), oq 22 (.ld none (.t 21)), oq 23 (.build [(.int .i64 0), (.str []), (.int .i64 0), (.int .i64 0)] [(0, 1, (.t 13)), (1, 1, (.t 14)), (2, 1, (.t 18)), (3, 1, (.t 22))]), oq 24 (.bsl 4 [(.t 23)]), oe 25 (.app 83 4 40 [(.int .i64 0), (.str []), (.int .i64 0), (.int .i64 0)] (.t 12) (.t 24)), oq 26 (.nc (.t 8)), oq 27 (.fa 3 (.t 26)), oz (.store 1 (.t 27) (.t 25))]) (.seq (.ops [ oq 28 (.mv (.t 0)), oq 29 (.nc (.t 28)), oq 30 (.fa 2 (.t 29)), oq 31 (.ld none (.t 30)), oq 32 (.mv (.t 0)), oq 33 (.nc (.t 32)), oq 34 (.fa 0 (.t 33)), oq 35 (.ld none (.t 34)), oq 36 (.mv (.t 0)), oq 37 (.nc (.t 36)), oq 38 (.fa 1 (.t 37)), oq 39 (.ld none (.t 38)), oq 40 (.mv (.t 0)), oq 41 (.nc (.t 40)), oq 42 (.fa 1 (.t 41)), oq 43 (.ld none (.t 42)), oq 44 (.mv (.t 3)), oq 45 (.bin .add (.t 43) (.t 44)), oq 46 (.sls (true, 0) (.t 35) (.t 39) (.t 45)), ⟨some 47, none, .e (.call 108 [(.t 46)]), [⟨none, .ld none (.t 30), 31⟩]⟩, oq 48 (.bin .add (.t 31) (.t 47)), oq 49 (.nc (.t 28)), oq 50 (.fa 2 (.t 49)), oz (.store 1 (.t 50) (.t 48))]) (.ops [ oq 51 (.mv (.t 0)), oq 52 (.nc (.t 51)), oq 53 (.fa 1 (.t 52)), oq 54 (.ld none (.t 53)), oq 55 (.mv (.t 3)), oq 56 (.bin .add (.t 54) (.t 55)), oq 57 (.nc (.t 51)), oq 58 (.fa 1 (.t 57)), oz (.store 1 (.t 58) (.t 56))]))
@[go_sem] def c67_4_wp := wp_of c67_4.eq_1
def c67 : AFn := ⟨59, [], c67_4⟩
theorem c67_ok : compF Tryz.prog Tryz.f67 = some c67 := by kernel_rfl
theorem a67 {args : List AV} {σ : ASt} {R : AV → ASt → Prop} (hl : args.length ≤ 59) (h : c67_4.wp Tryz.prog (RetQ [] R) (init args) σ) : ACalls Tryz.prog 67 args σ R := acalls_of Tryz.func67 c67_ok hl h
/-! 101: (*tabular/token.lexer).sign -/
def c101_17 : ACode := .seq (.ops [ oq 2 (.mv (.v (.int .i32 0))), oq 3 (.mv (.v (.int .i64 0)))]) (.seq (.seq (.ops [ oq 6 (.mv (.t 0)), oq 7 (.nc (.t 6)), oq 8 (.fa 1 (.t 7)), oq 9 (.ld none (.t 8)), oq 10 (.mv (.t 0)), oq 11 (.nc (.t 10)), oq 12 (.fa 0 (.t 11)), oq 13 (.ld none (.t 12)), oq 14 (.lenS (.t 13)), oq 15 (.bin .geq (.t 9) (.t 14))]) (.cond (.t 15) (.seq (.ops [ oq 2 (.mv (.v (.int .i32 0))), oq 3 (.mv (.v (.int .i64 0)))]) .ret) .skip)) (.seq (.ops [ oq 17 (.mv (.t 0)), oq 18 (.nc (.t 17)), oq 19 (.fa 0 (.t 18)), oq 20 (.ld none (.t 19)), oq 21 (.mv (.t 0)), oq 22 (.nc (.t 21)), oq 23 (.fa 1 (.t 22)), oq 24 (.ld none (.t 23)), oq 25 (.slfrom (true, 0) (.t 20) (.t 24)), oe 26 (.call 126 [(.t 25)]), oq 16 (.mv (.t 26)), oq 27 (.ext 0 (.t 16)), oq 28 (.ext 1 (.t 16)), oq 4 (.mv (.t 27)), oq 5 (.mv (.t 28))]) (.seq (.seq (.ops [ oq 29 (.mv (.t 4)), oq 30 (.bin .eql (.t 29) (.v (.int .i32 65533))), oq 31 (.mv (.t 30)), ⟨some 32, some (31, true), .q (.mv (.t 5)), []⟩, ⟨some 33, some (31, true), .q (.bin .eql (.t 32) (.v (.int .i64 1))), []⟩, oq 34 (.pick (.t 31) (.t 33) (.v (.bool false)))]) (.cond (.t 34) (.seq (.ops [ oq 2 (.mv (.v (.int .i32 0))), oq 3 (.mv (.v (.int .i64 (-1))))]) .ret) .skip)) (.seq (.ops [ oq 35 (.mv (.t 4)), oq 36 (.mv (.t 5)), oq 2 (.mv (.t 35)), oq 3 (.mv (.t 36))]) .ret))))
@[go_sem] def c101_17_wp := wp_of c101_17.eq_1
def c101 : AFn := ⟨37, [.t 2, .t 3], c101_17⟩
theorem c101_ok : compF Tryz.prog Tryz.f101 = some c101 := by kernel_rfl
theorem a101 {args : List AV} {σ : ASt} {R : AV → ASt → Prop} (hl : args.length ≤ 37) (h : c101_17.wp Tryz.prog (RetQ [.t 2, .t 3] R) (init args) σ) : ACalls Tryz.prog 101 args σ R := acalls_of Tryz.func101 c101_ok hl h
/-! 102: (*tabular/token.lexer).pass -/
def c102_2 : ACode := .seq (.ops [ oq 4 (.mv (.t 0)), oq 5 (.nc (.t 4)), oq 6 (.fa 2 (.t 5)), oq 7 (.ld none (.t 6)), oq 8 (.mv (.t 0)), oq 9 (.nc (.t 8)), oq 10 (.fa 0 (.t 9)), oq 11 (.ld none (.t 10)), oq 12 (.mv (.t 0)), oq 13 (.nc (.t 12)), oq 14 (.fa 1 (.t 13)), oq 15 (.ld none (.t 14)), oq 16 (.mv (.t 1)), oq 17 (.sls (true, 0) (.t 11) (.t 15) (.t 16)), ⟨some 18, none, .e (.call 108 [(.t 17)]), [⟨none, .ld none (.t 6), 7⟩]⟩, oq 19 (.bin .add (.t 7) (.t 18)), oq 20 (.nc (.t 4)), oq 21 (.fa 2 (.t 20)), oz (.store 1 (.t 21) (.t 19))]) (.ops [ oq 22 (.mv (.t 0)), oq 23 (.mv (.t 1)), oq 24 (.nc (.t 22)), oq 25 (.fa 1 (.t 24)), oz (.store 1 (.t 25) (.t 23))])
@[go_sem] def c102_2_wp := wp_of c102_2.eq_1
def c102 : AFn := ⟨26, [], c102_2⟩
theorem c102_ok : compF Tryz.prog Tryz.f102 = some c102 := by kernel_rfl
theorem a102 {args : List AV} {σ : ASt} {R : AV → ASt → Prop} (hl : args.length ≤ 26) (h : c102_2.wp Tryz.prog (RetQ [] R) (init args) σ) : ACalls Tryz.prog 102 args σ R := acalls_of Tryz.func102 c102_ok hl h
/-! 104: (*tabular/token.lexer).words -/
def c104_7 : ACode := .seq (.seq (.ops [ oq 5 (.mv (.t 0)), oq 6 (.nc (.t 5)), oq 7 (.fa 1 (.t 6)), oq 8 (.ld none (.t 7)), oq 9 (.mv (.t 3)), oq 10 (.bin .add (.t 8) (.t 9)), oq 11 (.mv (.t 0)), oq 12 (.nc (.t 11)), oq 13 (.fa 0 (.t 12)), oq 14 (.ld none (.t 13)), oq 15 (.lenS (.t 14)), oq 16 (.bin .lss (.t 10) (.t 15)), oq 17 (.mv (.t 16)), ⟨some 18, some (17, true), .q (.mv (.t 0)), []⟩, ⟨some 19, some (17, true), .q (.nc (.t 18)), []⟩, ⟨some 20, some (17, true), .q (.fa 0 (.t 19)), []⟩, ⟨some 21, some (17, true), .q (.ld none (.t 20)), []⟩, ⟨some 22, some (17, true), .q (.mv (.t 0)), []⟩, ⟨some 23, some (17, true), .q (.nc (.t 22)), []⟩, ⟨some 24, some (17, true), .q (.fa 1 (.t 23)), []⟩, ⟨some 25, some (17, true), .q (.ld none (.t 24)), []⟩, ⟨some 26, some (17, true), .q (.mv (.t 3)), []⟩, ⟨some 27, some (17, true), .q (.bin .add (.t 25) (.t 26)), []⟩, ⟨some 28, some (17, true), .q (.idx (.t 21) (.t 27)), []⟩, ⟨some 29, some (17, true), .e (.call 103 [(.t 28)]), []⟩, oq 30 (.pick (.t 17) (.t 29) (.v (.bool false)))]) (.cond (.t 30) .skip (.exit 0))) (.block 1 (.ops [ oq 31 (.mv (.t 3)), oq 32 (.bin .add (.t 31) (.v (.int .i64 1))), oq 3 (.mv (.t 32))]))
def c104_29 : ACode := .seq (.ops [ oq 33 (.mv (.t 0)), oq 34 (.nc (.t 33)), oq 35 (.fa 0 (.t 34)), oq 36 (.ld none (.t 35)), oq 37 (.mv (.t 0)), oq 38 (.nc (.t 37)), oq 39 (.fa 1 (.t 38)), oq 40 (.ld none (.t 39)), oq 41 (.mv (.t 0)), oq 42 (.nc (.t 41)), oq 43 (.fa 1 (.t 42)), oq 44 (.ld none (.t 43)), oq 45 (.mv (.t 3)), oq 46 (.bin .add (.t 44) (.t 45)), oq 47 (.sls (true, 0) (.t 36) (.t 40) (.t 46)), oq 4 (.mv (.t 47))]) (.seq (.block 2 (.seq (.ops [ oq 49 (.mv (.t 4)), oe 50 (.call 130 [(.t 49)]), oq 48 (.mv (.t 50))]) (.cond (.t 48) (.ops [ oq 51 (.mv (.t 0)), oq 52 (.mv (.t 4)), oq 53 (.mv (.t 3)), oe 54 (.call 67 [(.t 51), (.v (.int .i64 1)), (.t 52), (.t 53)])]) (.seq (.ops [ oq 56 (.mv (.t 4)), oe 57 (.call 131 [(.t 56)]), oq 55 (.mv (.t 57))]) (.cond (.t 55) (.ops [ oq 58 (.mv (.t 0)), oq 59 (.mv (.t 4)), oe 60 (.call 132 [(.t 59)]), oq 61 (.mv (.t 3)), oe 62 (.call 67 [(.t 58), (.v (.int .i64 4)), (.t 60), (.t 61)])]) (.seq (.ops [ oq 64 (.mv (.t 4)), oe 65 (.call 133 [(.t 64)]), oq 63 (.mv (.t 65))]) (.cond (.t 63) (.ops [ oq 66 (.mv (.t 0)), oq 67 (.mv (.t 4)), oe 68 (.call 132 [(.t 67)]), oq 69 (.mv (.t 3)), oe 70 (.call 67 [(.t 66), (.v (.int .i64 3)), (.t 68), (.t 69)])]) (.seq (.ops [ oq 2 (.mv (.v (.int .i64 10)))]) .ret)))))))) (.seq (.ops [ oq 2 (.mv (.v (.int .i64 0)))]) .ret))
def c104_32 : ACode := .seq (.ops [ oq 2 (.mv (.v (.int .i64 0)))]) (.seq (.ops [ oq 3 (.mv (.v (.int .i64 0)))]) (.seq (.block 0 (.loop c104_7)) c104_29))
@[go_sem] def c104_7_wp := wp_of c104_7.eq_1
@[go_sem] def c104_29_wp := wp_of c104_29.eq_1
@[go_sem] def c104_32_wp := wp_of c104_32.eq_1
def c104 : AFn := ⟨71, [.t 2], c104_32⟩
theorem c104_ok : compF Tryz.prog Tryz.f104 = some c104 := by kernel_rfl
theorem a104 {args : List AV} {σ : ASt} {R : AV → ASt → Prop} (hl : args.length ≤ 71) (h : c104_32.wp Tryz.prog (RetQ [.t 2] R) (init args) σ) : ACalls Tryz.prog 104 args σ R := acalls_of Tryz.func104 c104_ok hl h
/-! 105: (*tabular/token.lexer).quoted -/
def c105_43 : ACode := .seq (.seq (.ops [ oq 54 (.mv (.t 7)), oq 55 (.bin .neq (.t 54) (.v (.int .i32 34)))]) (.cond (.t 55) (.seq (.ops [ oq 56 (.mv (.t 7)), oe 57 (.call 134 [(.t 3), (.t 56)])]) (.seq (.ops [ oq 58 (.mv (.t 6)), oq 59 (.bin .add (.t 58) (.v (.int .i64 1))), oq 60 (.mv (.t 7)), oe 61 (.call 135 [(.t 60)]), oq 62 (.bin .add (.t 59) (.t 61)), oq 5 (.mv (.t 62))]) (.exit 1))) .skip)) (.seq (.seq (.ops [ oq 63 (.mv (.t 8)), oq 64 (.bin .add (.t 63) (.v (.int .i64 1))), oq 65 (.mv (.t 0)), oq 66 (.nc (.t 65)), oq 67 (.fa 0 (.t 66)), oq 68 (.ld none (.t 67)), oq 69 (.lenS (.t 68)), oq 70 (.bin .lss (.t 64) (.t 69)), oq 71 (.mv (.t 70)), ⟨some 72, some (71, true), .q (.mv (.t 0)), []⟩, ⟨some 73, some (71, true), .q (.nc (.t 72)), []⟩, ⟨some 74, some (71, true), .q (.fa 0 (.t 73)), []⟩, ⟨some 75, some (71, true), .q (.ld none (.t 74)), []⟩, ⟨some 76, some (71, true), .q (.mv (.t 8)), []⟩, ⟨some 77, some (71, true), .q (.bin .add (.t 76) (.v (.int .i64 1))), []⟩, ⟨some 78, some (71, true), .q (.idx (.t 75) (.t 77)), []⟩, ⟨some 79, some (71, true), .q (.bin .eql (.t 78) (.v (.int .u8 34))), []⟩, oq 80 (.pick (.t 71) (.t 79) (.v (.bool false)))]) (.cond (.t 80) (.seq (.ops [ oe 81 (.call 83 [(.t 3), (.v (.int .u8 34))])]) (.seq (.ops [ oq 82 (.mv (.t 6)), oq 83 (.bin .add (.t 82) (.v (.int .i64 3))), oq 5 (.mv (.t 83))]) (.exit 1))) .skip)) (.seq (.ops [ oq 84 (.mv (.t 6)), oq 85 (.bin .add (.t 84) (.v (.int .i64 2))), oq 5 (.mv (.t 85))]) (.seq (.ops [ oq 4 (.mv (.v (.bool false)))]) (.exit 0))))
def c105_50 : ACode := .seq (.ops [ oe 22 (.nxt (.t 21)), oq 23 (.ext 0 (.t 22))]) (.seq (.cond (.t 23) .skip (.exit 0)) (.block 1 (.seq (.ops [ oq 24 (.ext 1 (.t 22)), oq 25 (.ext 2 (.t 22)), oq 6 (.mv (.t 24)), oq 7 (.mv (.t 25))]) (.seq (.seq (.ops [ oq 26 (.mv (.t 6)), oq 27 (.bin .add (.t 26) (.v (.int .i64 1))), oq 28 (.mv (.t 5)), oq 29 (.bin .lss (.t 27) (.t 28))]) (.cond (.t 29) (.exit 1) .skip)) (.seq (.ops [ oq 30 (.mv (.t 0)), oq 31 (.nc (.t 30)), oq 32 (.fa 1 (.t 31)), oq 33 (.ld none (.t 32)), oq 34 (.bin .add (.t 33) (.v (.int .i64 1))), oq 35 (.mv (.t 6)), oq 36 (.bin .add (.t 34) (.t 35)), oq 8 (.mv (.t 36))]) (.seq (.seq (.ops [ oq 37 (.mv (.t 7)), oq 38 (.bin .eql (.t 37) (.v (.int .i32 65533)))]) (.cond (.t 38) (.seq (.ops [ oq 40 (.mv (.t 0)), oq 41 (.nc (.t 40)), oq 42 (.fa 0 (.t 41)), oq 43 (.ld none (.t 42)), oq 44 (.mv (.t 8)), oq 45 (.slfrom (true, 0) (.t 43) (.t 44)), oe 46 (.call 126 [(.t 45)]), oq 39 (.mv (.t 46)), oq 47 (.ext 0 (.t 39)), oq 48 (.ext 1 (.t 39)), oq 9 (.mv (.t 47)), oq 10 (.mv (.t 48))]) (.seq (.ops [ oq 49 (.mv (.t 10)), oq 50 (.bin .eql (.t 49) (.v (.int .i64 1)))]) (.cond (.t 50) (.seq (.ops [ oq 51 (.mv (.t 0)), oq 52 (.mv (.t 8)), oe 53 (.call 102 [(.t 51), (.t 52)])]) (.seq (.ops [ oq 2 (.mv (.v (.int .i64 10)))]) .ret)) .skip))) .skip)) c105_43))))))
def c105_63 : ACode := .seq (.seq (.ops [ oq 86 (.mv (.t 4))]) (.cond (.t 86) (.seq (.ops [ oq 2 (.mv (.v (.int .i64 10)))]) .ret) .skip)) (.seq (.ops [ oq 87 (.mv (.t 0)), oe 88 (.call 49 [(.t 3)]), oq 89 (.mv (.t 5)), oe 90 (.call 67 [(.t 87), (.v (.int .i64 2)), (.t 88), (.t 89)])]) (.seq (.ops [ oq 2 (.mv (.v (.int .i64 0)))]) .ret))
def c105_68 : ACode := .seq (.ops [ oq 2 (.mv (.v (.int .i64 0)))]) (.seq (.ops [ oe 3 (.allocT 100)]) (.seq (.ops [ oq 4 (.mv (.v (.bool true)))]) (.seq (.ops [ oq 5 (.mv (.v (.int .i64 1)))]) (.seq (.seq (.ops [ oq 11 (.mv (.t 0)), oq 12 (.nc (.t 11)), oq 13 (.fa 0 (.t 12)), oq 14 (.ld none (.t 13)), oq 15 (.mv (.t 0)), oq 16 (.nc (.t 15)), oq 17 (.fa 1 (.t 16)), oq 18 (.ld none (.t 17)), oq 19 (.bin .add (.t 18) (.v (.int .i64 1))), oq 20 (.slfrom (true, 0) (.t 14) (.t 19)), oe 21 (.rng (.t 20))]) (.block 0 (.loop c105_50))) c105_63))))
@[go_sem] def c105_43_wp := wp_of c105_43.eq_1
@[go_sem] def c105_50_wp := wp_of c105_50.eq_1
@[go_sem] def c105_63_wp := wp_of c105_63.eq_1
@[go_sem] def c105_68_wp := wp_of c105_68.eq_1
def c105 : AFn := ⟨91, [.t 2], c105_68⟩
theorem c105_ok : compF Tryz.prog Tryz.f105 = some c105 := by kernel_rfl
theorem a105 {args : List AV} {σ : ASt} {R : AV → ASt → Prop} (hl : args.length ≤ 91) (h : c105_68.wp Tryz.prog (RetQ [.t 2] R) (init args) σ) : ACalls Tryz.prog 105 args σ R := acalls_of Tryz.func105 c105_ok hl h
/-! 106: (*tabular/token.lexer).failure -/
def c106_19 : ACode := .seq (.ops [ oq 9 (.bin .lss (.t 8) (.t 7))]) (.seq (.cond (.t 9) .skip (.exit 0)) (.seq (.block 1 (.seq (.ops [ oq 10 (.ia 1 (.t 6) (.t 8)), oq 11 (.ld none (.t 10)), oq 4 (.mv (.t 11))]) (.seq (.ops [ oq 12 (.mv (.t 4)), oq 13 (.lenS (.t 12)), oq 5 (.mv (.t 13))]) (.seq (.ops [ oq 14 (.mv (.t 0)), oq 15 (.nc (.t 14)), oq 16 (.fa 1 (.t 15)), oq 17 (.ld none (.t 16)), oq 18 (.mv (.t 5)), oq 19 (.bin .add (.t 17) (.t 18)), oq 20 (.mv (.t 0)), oq 21 (.nc (.t 20)), oq 22 (.fa 0 (.t 21)), oq 23 (.ld none (.t 22)), oq 24 (.lenS (.t 23)), oq 25 (.bin .leq (.t 19) (.t 24)), oq 26 (.mv (.t 25)), ⟨some 27, some (26, true), .q (.mv (.t 0)), []⟩, ⟨some 28, some (26, true), .q (.nc (.t 27)), []⟩, ⟨some 29, some (26, true), .q (.fa 0 (.t 28)), []⟩, ⟨some 30, some (26, true), .q (.ld none (.t 29)), []⟩, ⟨some 31, some (26, true), .q (.mv (.t 0)), []⟩, ⟨some 32, some (26, true), .q (.nc (.t 31)), []⟩, ⟨some 33, some (26, true), .q (.fa 1 (.t 32)), []⟩, ⟨some 34, some (26, true), .q (.ld none (.t 33)), []⟩, ⟨some 35, some (26, true), .q (.mv (.t 0)), []⟩, ⟨some 36, some (26, true), .q (.nc (.t 35)), []⟩, ⟨some 37, some (26, true), .q (.fa 1 (.t 36)), []⟩, ⟨some 38, some (26, true), .q (.ld none (.t 37)), []⟩, ⟨some 39, some (26, true), .q (.mv (.t 5)), []⟩, ⟨some 40, some (26, true), .q (.bin .add (.t 38) (.t 39)), []⟩, ⟨some 41, some (26, true), .q (.sls (true, 0) (.t 30) (.t 34) (.t 40)), []⟩, ⟨some 43, some (26, true), .q (.mv (.t 4)), []⟩, ⟨some 42, some (26, true), .e (.call 132 [(.t 41)]), []⟩, ⟨some 44, some (26, true), .q (.bin .eql (.t 42) (.t 43)), []⟩, oq 45 (.pick (.t 26) (.t 44) (.v (.bool false)))]) (.cond (.t 45) (.seq (.ops [ oq 46 (.mv (.t 0)), oq 47 (.mv (.t 4)), oq 48 (.mv (.t 5)), oe 49 (.call 67 [(.t 46), (.v (.int .i64 5)), (.t 47), (.t 48)])]) (.seq (.ops [ oq 2 (.mv (.v (.int .i64 0)))]) .ret)) .skip))))) (.ops [ oq 50 (.bin .add (.t 8) (.v (.int .i64 1))), oq 8 (.mv (.t 50))])))
def c106_26 : ACode := .seq (.ops [ oq 2 (.mv (.v (.int .i64 0)))]) (.seq (.seq (.ops [ oe 6 (.call 119 []), oq 7 (.len (.t 6)), oq 8 (.mv (.v (.int .i64 0)))]) (.block 0 (.loop c106_19))) (.seq (.ops [ oq 2 (.mv (.v (.int .i64 10)))]) .ret))
@[go_sem] def c106_19_wp := wp_of c106_19.eq_1
@[go_sem] def c106_26_wp := wp_of c106_26.eq_1
def c106 : AFn := ⟨51, [.t 2], c106_26⟩
theorem c106_ok : compF Tryz.prog Tryz.f106 = some c106 := by kernel_rfl
theorem a106 {args : List AV} {σ : ASt} {R : AV → ASt → Prop} (hl : args.length ≤ 51) (h : c106_26.wp Tryz.prog (RetQ [.t 2] R) (init args) σ) : ACalls Tryz.prog 106 args σ R := acalls_of Tryz.func106 c106_ok hl h
/-! 107: (*tabular/token.lexer).op -/
def c107_26 : ACode := .seq (.ops [ oq 21 (.bin .lss (.t 20) (.t 19))]) (.seq (.cond (.t 21) .skip (.exit 0)) (.seq (.block 1 (.seq (.ops [ oq 22 (.ia 1 (.t 18) (.t 20)), oq 23 (.ld none (.t 22)), oq 9 (.mv (.t 23))]) (.seq (.ops [ oq 24 (.mv (.t 0)), oq 25 (.nc (.t 24)), oq 26 (.fa 0 (.t 25)), oq 27 (.ld none (.t 26)), oq 28 (.mv (.t 0)), oq 29 (.nc (.t 28)), oq 30 (.fa 1 (.t 29)), oq 31 (.ld none (.t 30)), oq 32 (.slfrom (true, 0) (.t 27) (.t 31)), oq 33 (.mv (.t 9)), oe 34 (.call 137 [(.t 32), (.t 33)])]) (.cond (.t 34) (.seq (.ops [ oq 35 (.mv (.t 0)), oq 36 (.mv (.t 9)), oe 37 (.call 67 [(.t 35), (.v (.int .i64 6)), (.t 36), (.v (.int .i64 2))])]) (.seq (.ops [ oq 6 (.mv (.v (.int .i64 0)))]) .ret)) .skip)))) (.ops [ oq 38 (.bin .add (.t 20) (.v (.int .i64 1))), oq 20 (.mv (.t 38))])))
def c107_39 : ACode := .seq (.seq (.ops [ oq 39 (.mv (.t 0)), oq 40 (.nc (.t 39)), oq 41 (.fa 0 (.t 40)), oq 42 (.ld none (.t 41)), oq 43 (.mv (.t 0)), oq 44 (.nc (.t 43)), oq 45 (.fa 1 (.t 44)), oq 46 (.ld none (.t 45)), oq 47 (.idx (.t 42) (.t 46)), oq 48 (.bsl 1 [(.t 47)]), oq 49 (.b2s (.t 48)), oe 50 (.call 138 [(.v (.str [43, 45, 42, 47, 94, 38, 61, 60, 62, 37, 40, 41, 58, 44])), (.t 49)]), oq 51 (.un .not (.t 50))]) (.cond (.t 51) (.seq (.ops [ oq 6 (.mv (.v (.int .i64 10)))]) .ret) .skip)) (.seq (.ops [ oq 52 (.mv (.t 0)), oq 53 (.mv (.t 0)), oq 54 (.nc (.t 53)), oq 55 (.fa 0 (.t 54)), oq 56 (.ld none (.t 55)), oq 57 (.mv (.t 0)), oq 58 (.nc (.t 57)), oq 59 (.fa 1 (.t 58)), oq 60 (.ld none (.t 59)), oq 61 (.mv (.t 0)), oq 62 (.nc (.t 61)), oq 63 (.fa 1 (.t 62)), oq 64 (.ld none (.t 63)), oq 65 (.bin .add (.t 64) (.v (.int .i64 1))), oq 66 (.sls (true, 0) (.t 56) (.t 60) (.t 65)), oe 67 (.call 67 [(.t 52), (.v (.int .i64 6)), (.t 66), (.v (.int .i64 1))])]) (.seq (.ops [ oq 6 (.mv (.v (.int .i64 0)))]) .ret))
def c107_42 : ACode := .seq (.ops [ oq 6 (.mv (.v (.int .i64 0)))]) (.seq (.seq (.ops [ oq 10 (.mv (.t 1)), oe 11 (.call 136 [(.t 10)]), oq 7 (.mv (.t 11))]) (.seq (.ops [ oq 12 (.mv (.t 7)), oq 13 (.bin .neq (.t 12) (.v (.str [])))]) (.cond (.t 13) (.seq (.ops [ oq 14 (.mv (.t 0)), oq 15 (.mv (.t 7)), oq 16 (.mv (.t 2)), oe 17 (.call 67 [(.t 14), (.v (.int .i64 6)), (.t 15), (.t 16)])]) (.seq (.ops [ oq 6 (.mv (.v (.int .i64 0)))]) .ret)) .skip))) (.seq (.seq (.ops [ oq 18 (.bsl 1 [(.v (.str [60, 61])), (.v (.str [62, 61])), (.v (.str [60, 62]))]), oq 19 (.len (.t 18)), oq 20 (.mv (.v (.int .i64 0)))]) (.block 0 (.loop c107_26))) c107_39))
@[go_sem] def c107_26_wp := wp_of c107_26.eq_1
@[go_sem] def c107_39_wp := wp_of c107_39.eq_1
@[go_sem] def c107_42_wp := wp_of c107_42.eq_1
def c107 : AFn := ⟨68, [.t 6], c107_42⟩
theorem c107_ok : compF Tryz.prog Tryz.f107 = some c107 := by kernel_rfl
theorem a107 {args : List AV} {σ : ASt} {R : AV → ASt → Prop} (hl : args.length ≤ 68) (h : c107_42.wp Tryz.prog (RetQ [.t 6] R) (init args) σ) : ACalls Tryz.prog 107 args σ R := acalls_of Tryz.func107 c107_ok hl h
end Go.A
namespace Go.A
open Go.Proofs Go.Lib
def lexCells (s : List UInt8) (p c : Nat) (ts : List Tok) (k : SK) : List AV := [.str s, .int .i64 p, .int .i64 c, .sl k (ts.map tokAV)]
def LX (σ0 : ASt) (b : Nat) (s : List UInt8) (p c : Nat) (ts : List Tok) (σ : ASt) : Prop := GO σ0 b (lexCells s p c ts) (ts.map tokAV).length 4 σ
theorem LX.cell {σ0 σ : ASt} {b : Nat} {s : List UInt8} {p c : Nat} {ts : List Tok} (h : LX σ0 b s p c ts σ) : ∃ k, Grown (σ0.set b (some (.obj [.str s, .int .i64 p, .int .i64 c, .sl k (ts.map tokAV)]))) σ k (ts.map tokAV).length 4 ∧ σ b = some (.obj [.str s, .int .i64 p, .int .i64 c, .sl k (ts.map tokAV)]) := by
 obtain ⟨k, hg⟩ := h
 exact ⟨k, hg, GO.cell (cs := lexCells s p c ts) hg⟩
structure Bnd (s : List UInt8) (p c : Nat) (ts : List Tok) : Prop where
 hs : s.length ≤ 100000
 hp : p ≤ s.length
 hc : c ≤ p
 ht : ts.length ≤ 200000
theorem take_len {s : List UInt8} {p n : Nat} (h : p + n ≤ s.length) : ((s.drop p).take n).length = n := by simp; omega
theorem cut_eq {s : List UInt8} {p n : Nat} : (s.take (p + n)).drop p = (s.drop p).take n := by rw [List.drop_take]; congr 1; omega
set_option maxHeartbeats 1000000 in
theorem put_ok {σ0 σ : ASt} {b : Nat} {s : List UInt8} {p c : Nat} {ts : List Tok} (h : LX σ0 b s p c ts σ) (hB : Bnd s p c ts) (kind : Int) (text : List UInt8) (n : Nat) (hn : p + n ≤ s.length) :
  ACalls Tryz.prog 67 [.ptr b 0, .int .i64 kind, .str text, .int .i64 n] σ fun v σ' => v = .tuple [] ∧ LX σ0 b s (p + n) (c + signsN ((s.drop p).take n)) (ts ++ [Tok.mk kind text p c]) σ' := by
 obtain ⟨k, hg, hb⟩ := h.cell
 obtain ⟨hs, hp, hc, ht⟩ := hB
 have hm : ts.map tokAV ++ [tokAV (Tok.mk kind text p c)] = (ts ++ [Tok.mk kind text p c]).map tokAV := by simp
 have hlen : (ts.map tokAV).length = ts.length := by simp
 have e1 : ((p : Int) + n).toNat = p + n := by omega
 have e2 := cut_eq (s := s) (p := p) (n := n)
 have hsl := signsN_le ((s.drop p).take n)
 rw [take_len hn] at hsl
 refine a67 (by simp) ?_
 simp (disch := first | assumption | omega) only [go_sem, reduceCtorEq, Nat.reduceEqDiff, Nat.reduceAdd, Nat.reduceLeDiff, ↓reduceIte, Bool.true_and, hb]
 refine appC_by (ys := [tokAV (Tok.mk kind text p c)]) hg rfl rfl (by simp only [hlen, List.length_cons, List.length_nil]; omega) (by simp only [hlen, List.length_cons, List.length_nil]; omega) fun k' σ' hg' => ?_
 rw [hm] at hg' ⊢
 have hb' := hg'.at (ASt.set_same _ _ _)
 have hg2 := hg'.obj (r' := .obj [.str s, .int .i64 p, .int .i64 c, .sl k' ((ts ++ [Tok.mk kind text p c]).map tokAV)])
 simp (disch := first | assumption | omega) only [go_sem, reduceCtorEq, Nat.reduceEqDiff, Nat.reduceAdd, Nat.reduceLeDiff, ↓reduceIte, Bool.true_and, hb', e1, e2]
 refine (count_ok _ (by rw [take_len hn]; omega)).use ?_
 simp (disch := first | assumption | omega) only [go_sem, reduceCtorEq, Nat.reduceEqDiff, Nat.reduceAdd, Nat.reduceLeDiff, ↓reduceIte, Bool.true_and, ASt.set_set]
 refine retC_by (Drop.refl _) (.refl _) ⟨rfl, k', ?_⟩
 exact hg'.obj (r' := .obj [.str s, .int .i64 (p + n : Nat), .int .i64 (c + signsN ((s.drop p).take n) : Nat), .sl k' ((ts ++ [Tok.mk kind text p c]).map tokAV)])
theorem pass_ok {σ0 σ : ASt} {b : Nat} {s : List UInt8} {p c : Nat} {ts : List Tok} (h : LX σ0 b s p c ts σ) (hB : Bnd s p c ts) (n : Nat) (hn : p + n ≤ s.length) :
  ACalls Tryz.prog 102 [.ptr b 0, .int .i64 (p + n : Nat)] σ fun v σ' => v = .tuple [] ∧ LX σ0 b s (p + n) (c + signsN ((s.drop p).take n)) ts σ' := by
 obtain ⟨k, hg, hb⟩ := h.cell
 obtain ⟨hs, hp, hc, ht⟩ := hB
 have e1 : (((p + n : Nat) : Int)).toNat = p + n := by omega
 have e2 := cut_eq (s := s) (p := p) (n := n)
 have hsl := signsN_le ((s.drop p).take n)
 rw [take_len hn] at hsl
 have e3 : ((p + n : Nat) : Int) ≤ s.length := by omega
 have e4 : (p : Int) ≤ ((p + n : Nat) : Int) := by omega
 obtain ⟨q, hq⟩ : ∃ q, p + n = q := ⟨_, rfl⟩
 rw [hq] at e1 e2 e3 e4 ⊢
 refine a102 (by simp) ?_
 simp (disch := first | assumption | omega) only [go_sem, reduceCtorEq, Nat.reduceEqDiff, ↓reduceIte, hb, e1, e2]
 refine (count_ok _ (by rw [take_len hn]; omega)).use ?_
 simp (disch := first | assumption | omega) only [go_sem, reduceCtorEq, Nat.reduceEqDiff, Nat.reduceAdd, Nat.reduceLeDiff, ↓reduceIte, Bool.true_and, hb, ASt.set_set]
 refine retC_by (Drop.refl _) (.refl _) ⟨rfl, k, ?_⟩
 exact hg.obj (r' := .obj [.str s, .int .i64 q, .int .i64 (c + signsN ((s.drop p).take n) : Nat), .sl k (ts.map tokAV)])
theorem dec_bd (l : List UInt8) : (decodeL l).1 ≤ 1114111 ∧ 1 ≤ (decodeL l).2 := ⟨decodeL_rune l, decodeL_width l⟩
theorem sign_ok {σ0 σ : ASt} (hU : U8 σ) {b : Nat} {s : List UInt8} {p c : Nat} {ts : List Tok} (h : LX σ0 b s p c ts σ) (hB : Bnd s p c ts) (hp : p < s.length) :
  ACalls Tryz.prog 101 [.ptr b 0] σ fun v σ' => v = .tuple [.int .i32 (if decodeL (s.drop p) = (65533, 1) then 0 else (decodeL (s.drop p)).1), .int .i64 (if decodeL (s.drop p) = (65533, 1) then -1 else (decodeL (s.drop p)).2)] ∧ σ' = σ := by
 obtain ⟨k, hg, hb⟩ := h.cell
 obtain ⟨hs, _, hc, ht⟩ := hB
 have hne : s.drop p ≠ [] := by
  intro h
  have := congrArg List.length h
  simp at this
  omega
 have hd := dec_ok hU hne
 obtain ⟨⟨r, w⟩, hD⟩ : ∃ D, decodeL (s.drop p) = D := ⟨_, rfl⟩
 rw [hD] at hd ⊢
 dsimp only at hd ⊢
 have e1 : ¬ (s.length : Int) ≤ p := by omega
 refine a101 (by simp) ?_
 simp (disch := first | assumption | omega) only [go_sem, reduceCtorEq, Nat.reduceEqDiff, ↓reduceIte, Int.reduceNeg, hb, e1, List.take_length]
 refine hd.mono ?_
 rintro v σ' ⟨rfl, rfl⟩
 by_cases h1 : (r : Int) = 65533
 ·by_cases h2 : (w : Int) = 1
  ·have e : (r, w) = (65533, 1) := by rw [Prod.mk.injEq]; omega
   rw [if_pos e, if_pos e]
   simp (disch := first | assumption | omega) only [go_sem, Nat.reduceEqDiff, ↓reduceIte, Int.reduceNeg, h1, h2]
   exact retC_by (Drop.refl _) (.refl _) ⟨rfl, rfl⟩
  ·have e : ¬ (r, w) = (65533, 1) := by rw [Prod.mk.injEq]; omega
   rw [if_neg e, if_neg e]
   simp (disch := first | assumption | omega) only [go_sem, Nat.reduceEqDiff, ↓reduceIte, h1, h2]
   exact retC_by (Drop.refl _) (.refl _) ⟨rfl, rfl⟩
 ·have e : ¬ (r, w) = (65533, 1) := by rw [Prod.mk.injEq]; omega
  rw [if_neg e, if_neg e]
  simp (disch := first | assumption | omega) only [go_sem, Nat.reduceEqDiff, ↓reduceIte, h1]
  exact retC_by (Drop.refl _) (.refl _) ⟨rfl, rfl⟩
def After (σ0 : ASt) (b : Nat) (s : List UInt8) (p c : Nat) (ts : List Tok) : Step → AV → ASt → Prop
 | .bad k, v, σ' => v = .int .i64 10 ∧ ∃ c', LX σ0 b s (p + k) c' ts σ'
 | .blank, v, σ' => v = .int .i64 0 ∧ LX σ0 b s (p + 1) (c + 1) ts σ'
 | .tok kind t n, v, σ' => v = .int .i64 0 ∧ LX σ0 b s (p + n) (c + signsN ((s.drop p).take n)) (ts ++ [⟨kind, t, p, c⟩]) σ'
set_option maxHeartbeats 1000000 in
theorem words_ok {σ0 σ : ASt} {b : Nat} {s : List UInt8} {p c : Nat} {ts : List Tok} (h : LX σ0 b s p c ts σ) (hB : Bnd s p c ts) :
  ACalls Tryz.prog 104 [.ptr b 0] σ fun v σ' => After σ0 b s p c ts (wordsS (s.drop p)) v σ' := by
 obtain ⟨k, hg, hb⟩ := h.cell
 have hB' := hB
 obtain ⟨hs, hp, hc, ht⟩ := hB
 have hrl := runL_le wordB (s.drop p)
 obtain ⟨st, hst⟩ : ∃ st, wordsS (s.drop p) = st := ⟨_, rfl⟩
 rw [hst]
 unfold wordsS at hst
 dsimp only at hst
 obtain ⟨n, hn⟩ : ∃ n, runL wordB (s.drop p) = n := ⟨_, rfl⟩
 rw [hn] at hst hrl
 rw [List.length_drop] at hrl
 have hwl : ((s.drop p).take n).length = n := take_len (by omega)
 obtain ⟨w, hw⟩ : ∃ w, (s.drop p).take n = w := ⟨_, rfl⟩
 rw [hw] at hst hwl
 have i1 := isNum_ok w (by omega)
 have i2 := isRef_ok w (by omega)
 have i3 := isName_ok w (by omega)
 have i4 := tgreat_ok w (by omega)
 have P1 := fun kind text => put_ok h hB' kind text n (by omega)
 refine a104 (by simp) ?_
 obtain ⟨F, hF⟩ : ∃ F, F = ACode.wp Tryz.prog c104_29 := ⟨_, rfl⟩
 simp (disch := first | assumption | omega) only [go_sem, ←hF]
 refine wp_loop_on (fun (i : Nat) a σ' => i ≤ n ∧ i + runL wordB (s.drop (p + i)) = n ∧ (a 0 = .ptr b 0 ∧ a 3 = .int .i64 i) ∧ σ' = σ) (fun i => n - i) 0 ⟨Nat.zero_le _, by rw [Nat.add_zero, Nat.zero_add]; exact hn, ?_, rfl⟩ ?_
 ·simp (disch := first | assumption | omega) only [go_sem, reduceCtorEq, ↓reduceIte]
 rintro i a σ1 ⟨hi, hrun, hf, rfl⟩
 have fin : i = n → ∀ a : AFr, (a 0 = .ptr b 0 ∧ a 3 = .int .i64 i) → F (RetQ [.t 2] fun v σ' => After σ0 b s p c ts st v σ') a σ1 := by
  rintro rfl a hf
  have e1 : ((p : Int) + i).toNat = p + i := by omega
  have e2 : (s.take (p + i)).drop p = w := by rw [cut_eq, hw]
  rw [hF]
  simp (disch := first | assumption | omega) only [go_sem, reduceCtorEq, Nat.reduceEqDiff, ↓reduceIte, hf, hb, e1, e2]
  refine i1.use ?_
  cases hnum : numB w with
  | true =>
    rw [hnum, if_pos rfl] at hst
    subst hst
    simp (disch := first | assumption | omega) only [go_sem, reduceCtorEq, Nat.reduceEqDiff, ↓reduceIte, hf]
    refine (P1 1 w).mono ?_
    rintro v σ' ⟨rfl, hL⟩
    simp (disch := first | assumption | omega) only [go_sem, ↓reduceIte]
    exact retC_by (Drop.refl _) (.refl _) ⟨rfl, hL⟩
  | false =>
  rw [hnum, if_neg (by simp)] at hst
  simp (disch := first | assumption | omega) only [go_sem, Nat.reduceEqDiff, ↓reduceIte]
  refine i2.use ?_
  cases href : refB w with
  | true =>
    rw [href, if_pos rfl] at hst
    subst hst
    simp (disch := first | assumption | omega) only [go_sem, reduceCtorEq, Nat.reduceEqDiff, ↓reduceIte, hf]
    refine i4.use ?_
    simp (disch := first | assumption | omega) only [go_sem, Nat.reduceEqDiff, ↓reduceIte, hf]
    refine (P1 4 (greatP w)).mono ?_
    rintro v σ' ⟨rfl, hL⟩
    simp (disch := first | assumption | omega) only [go_sem, ↓reduceIte]
    exact retC_by (Drop.refl _) (.refl _) ⟨rfl, hL⟩
  | false =>
  rw [href, if_neg (by simp)] at hst
  simp (disch := first | assumption | omega) only [go_sem, Nat.reduceEqDiff, ↓reduceIte]
  refine i3.use ?_
  cases hnam : nameB w with
  | true =>
    rw [hnam, if_pos rfl] at hst
    subst hst
    simp (disch := first | assumption | omega) only [go_sem, reduceCtorEq, Nat.reduceEqDiff, ↓reduceIte, hf]
    refine i4.use ?_
    simp (disch := first | assumption | omega) only [go_sem, Nat.reduceEqDiff, ↓reduceIte, hf]
    refine (P1 3 (greatP w)).mono ?_
    rintro v σ' ⟨rfl, hL⟩
    simp (disch := first | assumption | omega) only [go_sem, ↓reduceIte]
    exact retC_by (Drop.refl _) (.refl _) ⟨rfl, hL⟩
  | false =>
    rw [hnam, if_neg (by simp)] at hst
    subst hst
    simp (disch := first | assumption | omega) only [go_sem, ↓reduceIte]
    exact retC_by (Drop.refl _) (.refl _) ⟨rfl, c, h⟩
 by_cases hlt : p + i < s.length
 ·have hidx : s[p + i]? = some (s[p + i]'hlt) := List.getElem?_eq_getElem hlt
  obtain ⟨d, hd⟩ : ∃ d, s[p + i]'hlt = d := ⟨_, rfl⟩
  rw [hd] at hidx
  have e3 : ((p : Int) + i) < s.length := by omega
  have e4 : ((p : Int) + i).toNat = p + i := by omega
  rw [List.drop_eq_getElem_cons hlt, hd, runL] at hrun
  simp (disch := first | assumption | omega) only [go_sem, reduceCtorEq, Nat.reduceEqDiff, ↓reduceIte, hf, hb, e3, e4, hidx]
  refine (word_ok d).use ?_
  cases hwd : wordB d with
  | true =>
    rw [hwd, if_pos rfl] at hrun
    simp (disch := first | assumption | omega) only [go_sem, reduceCtorEq, Nat.reduceEqDiff, ↓reduceIte, hf]
    exact ⟨i + 1, by omega, by omega, by rw [← Nat.add_assoc]; omega, rfl⟩
  | false =>
    rw [hwd, if_neg (by simp)] at hrun
    simp (disch := first | assumption | omega) only [go_sem, Nat.reduceEqDiff, ↓reduceIte]
    refine fin (by omega) _ ?_
    simp (disch := first | assumption | omega) only [go_sem, reduceCtorEq, Nat.reduceEqDiff, ↓reduceIte, hf]
 ·have e : s.drop (p + i) = [] := List.drop_eq_nil_of_le (by omega)
  rw [e, runL] at hrun
  have e3 : ¬ ((p : Int) + i) < s.length := by omega
  simp (disch := first | assumption | omega) only [go_sem, reduceCtorEq, Nat.reduceEqDiff, ↓reduceIte, hf, hb, e3]
  refine fin (by omega) _ ?_
  simp (disch := first | assumption | omega) only [go_sem, reduceCtorEq, Nat.reduceEqDiff, ↓reduceIte, hf]
end Go.A
namespace Go.A
open Go.Proofs Go.Lib
theorem errTexts_len : ∀ e ∈ errTexts, 1 ≤ e.length ∧ e.length ≤ 7 := by decide
set_option maxHeartbeats 1000000 in
theorem lfail_ok {σ0 σ : ASt} {b : Nat} {s : List UInt8} {p c : Nat} {ts : List Tok} (h : LX σ0 b s p c ts σ) (hB : Bnd s p c ts) :
  ACalls Tryz.prog 106 [.ptr b 0] σ fun v σ' => After σ0 b s p c ts (failS (s.drop p) errTexts) v σ' := by
 obtain ⟨k, hg, hb⟩ := h.cell
 have hB' := hB
 obtain ⟨hs, hp, hc, ht⟩ := hB
 obtain ⟨st, hst⟩ : ∃ st, failS (s.drop p) errTexts = st := ⟨_, rfl⟩
 rw [hst]
 have hE := errTexts_len
 have herr := errs_ok
 obtain ⟨E, hE2⟩ : ∃ E, errTexts = E := ⟨_, rfl⟩
 have hEl : E.length = 7 := by rw [← hE2]; rfl
 rw [hE2] at hst hE herr
 clear hE2
 refine a106 (by simp) ?_
 simp (disch := first | assumption | omega) only [go_sem]
 refine herr.use ?_
 simp (disch := first | assumption | omega) only [go_sem, ↓reduceIte, hEl]
 refine wp_loop_on (fun (i : Nat) a σ' => i ≤ 7 ∧ failS (s.drop p) (E.drop i) = st ∧ (a 0 = .ptr b 0 ∧ a 6 = .sl .full (E.map AV.str) ∧ a 7 = .int .i64 7 ∧ a 8 = .int .i64 i) ∧ σ' = σ) (fun i => 7 - i) 0 ⟨Nat.zero_le _, hst, ?_, rfl⟩ ?_
 ·simp (disch := first | assumption | omega) only [go_sem, reduceCtorEq, Nat.reduceEqDiff, ↓reduceIte]
 rintro i a σ1 ⟨hi, hst, hf, rfl⟩
 by_cases hlt : i < 7
 ·have hlt' : (i : Int) < 7 := by omega
  have hidx0 : E[i]? = some (E[i]'(by omega)) := List.getElem?_eq_getElem (by omega)
  obtain ⟨h1, h2⟩ := hE _ (List.getElem_mem (by omega : i < E.length))
  rw [List.drop_eq_getElem_cons (by omega : i < E.length), failS] at hst
  obtain ⟨e, he⟩ : ∃ e, E[i]'(by omega) = e := ⟨_, rfl⟩
  rw [he] at hidx0 hst h1 h2
  have hidx : (E.map AV.str)[i]? = some (.str e) := by rw [List.getElem?_map, hidx0]; rfl
  rw [List.length_drop] at hst
  by_cases hfit : p + e.length ≤ s.length
  ·have e1 : (p : Int) + e.length ≤ s.length := by omega
   have e2 : ((p : Int) + e.length).toNat = p + e.length := by omega
   have e3 := cut_eq (s := s) (p := p) (n := e.length)
   have hgr := tgreat_ok ((s.drop p).take e.length) (by rw [take_len hfit]; omega)
   simp (disch := first | assumption | omega) only [go_sem, reduceCtorEq, Nat.reduceEqDiff, ↓reduceIte, hf, hb, hlt', hidx, e1, e2, e3]
   refine hgr.use ?_
   by_cases heq : greatP ((s.drop p).take e.length) = e
   ·rw [if_pos ⟨by omega, heq⟩] at hst
    subst hst
    simp (disch := first | assumption | omega) only [go_sem, reduceCtorEq, Nat.reduceEqDiff, ↓reduceIte, hf, heq]
    refine (put_ok h hB' 5 e e.length hfit).mono ?_
    rintro v σ' ⟨rfl, hL⟩
    simp (disch := first | assumption | omega) only [go_sem, ↓reduceIte]
    exact retC_by (Drop.refl _) (.refl _) ⟨rfl, hL⟩
   ·rw [if_neg (by rintro ⟨_, h⟩; exact heq h)] at hst
    simp (disch := first | assumption | omega) only [go_sem, reduceCtorEq, Nat.reduceEqDiff, ↓reduceIte, hf, heq]
    refine ⟨i + 1, by omega, by omega, hst, rfl⟩
  ·have e1 : ¬ (p : Int) + e.length ≤ s.length := by omega
   rw [if_neg (by rintro ⟨h, _⟩; omega)] at hst
   simp (disch := first | assumption | omega) only [go_sem, reduceCtorEq, Nat.reduceEqDiff, ↓reduceIte, hf, hb, hlt', hidx, e1]
   refine ⟨i + 1, by omega, by omega, hst, rfl⟩
 ·have hlt' : ¬ (i : Int) < 7 := by omega
  rw [List.drop_eq_nil_of_le (show E.length ≤ i by omega), failS] at hst
  subst hst
  simp (disch := first | assumption | omega) only [go_sem, ↓reduceIte, hf, hlt']
  exact retC_by (Drop.refl _) (.refl _) ⟨rfl, c, h⟩
theorem mem_index (c : UInt8) : ∀ l : List UInt8, (-1 ≤ indexByte l c) ∧ (0 ≤ indexByte l c ↔ c ∈ l)
 | [] => by simp [indexByte]
 | x :: l => by
   obtain ⟨h1, h2⟩ := mem_index c l
   unfold indexByte
   by_cases hx : x = c
   ·subst hx; simp
   ·have hx' : ¬ (x == c) = true := by simpa using hx
    rw [if_neg hx']
    by_cases hm : indexByte l c = -1
    ·rw [if_pos (by simpa using hm)]
     refine ⟨by omega, ?_⟩
     simp only [List.mem_cons, ← h2, hm]
     constructor
     ·intro h; omega
     ·rintro (h | h)
      ·exact absurd h.symm hx
      ·omega
    ·rw [if_neg (by simpa using hm)]
     refine ⟨by omega, ?_⟩
     simp only [List.mem_cons, ← h2]
     constructor
     ·intro h; right; omega
     ·rintro (h | h)
      ·exact absurd h.symm hx
      ·omega
theorem twos_len : ∀ e ∈ twos, e.length = 2 := by decide
set_option maxHeartbeats 1000000 in
theorem op_ok {σ0 σ : ASt} {b : Nat} {s : List UInt8} {p c : Nat} {ts : List Tok} (h : LX σ0 b s p c ts σ) (hB : Bnd s p c ts) (hp1 : p < s.length) (r : Int) (n : Nat) (hn : p + n ≤ s.length) :
  ACalls Tryz.prog 107 [.ptr b 0, .int .i32 r, .int .i64 n] σ fun v σ' => After σ0 b s p c ts (opS r n (s.drop p)) v σ' := by
 obtain ⟨k, hg, hb⟩ := h.cell
 have hB' := hB
 obtain ⟨hs, hp, hc, ht⟩ := hB
 obtain ⟨st, hst⟩ : ∃ st, opS r n (s.drop p) = st := ⟨_, rfl⟩
 rw [hst]
 unfold opS at hst
 have hal := alike_ok r
 obtain ⟨A, hA⟩ : ∃ A, alikeP r = A := ⟨_, rfl⟩
 rw [hA] at hst hal
 obtain ⟨F, hF⟩ : ∃ F, F = ACode.wp Tryz.prog c107_39 := ⟨_, rfl⟩
 refine a107 (by simp) ?_
 simp (disch := first | assumption | omega) only [go_sem, Nat.reduceEqDiff, ↓reduceIte]
 refine hal.use ?_
 by_cases hA0 : A = []
 ·subst hA0
  rw [if_neg (by simp)] at hst
  have hE := twos_len
  obtain ⟨E, hE2⟩ : ∃ E, twos = E := ⟨_, rfl⟩
  have hEl : E.length = 3 := by rw [← hE2]; rfl
  have hEm : E.map AV.str = [AV.str [60, 61], AV.str [62, 61], AV.str [60, 62]] := by rw [← hE2]; rfl
  rw [hE2] at hst hE
  simp (disch := first | assumption | omega) only [go_sem, Nat.reduceAdd, ↓reduceIte, Bool.true_and, ←hF]
  refine wp_loop_on (fun (i : Nat) a σ' => i ≤ 3 ∧ (match twoS (s.drop p) (E.drop i) with | some e => Step.tok 6 e 2 | none => if ((s.drop p).headD 0) ∈ opChars then .tok 6 ((s.drop p).take 1) 1 else .bad 0) = st ∧ (a 0 = .ptr b 0 ∧ a 18 = .sl .full (E.map AV.str) ∧ a 19 = .int .i64 3 ∧ a 20 = .int .i64 i) ∧ σ' = σ) (fun i => 3 - i) 0 ⟨Nat.zero_le _, hst, ?_, rfl⟩ ?_
  ·simp (disch := first | assumption | omega) only [go_sem, reduceCtorEq, Nat.reduceEqDiff, ↓reduceIte, hEm]
  rintro i a σ1 ⟨hi, hst, hf, rfl⟩
  by_cases hlt : i < 3
  ·have hlt' : (i : Int) < 3 := by omega
   have hidx0 : E[i]? = some (E[i]'(by omega)) := List.getElem?_eq_getElem (by omega)
   have h2 := hE _ (List.getElem_mem (by omega : i < E.length))
   rw [List.drop_eq_getElem_cons (by omega : i < E.length), twoS] at hst
   obtain ⟨e, he⟩ : ∃ e, E[i]'(by omega) = e := ⟨_, rfl⟩
   rw [he] at hidx0 hst h2
   have hidx : (E.map AV.str)[i]? = some (.str e) := by rw [List.getElem?_map, hidx0]; rfl
   have hpr := prefix_ok (s.drop p) e (by simp; omega) (by omega)
   simp (disch := first | assumption | omega) only [go_sem, reduceCtorEq, Nat.reduceEqDiff, ↓reduceIte, hf, hb, hlt', hidx, List.take_length]
   refine hpr.use ?_
   cases hpe : e.isPrefixOf (s.drop p) with
   | true =>
     rw [hpe, if_pos rfl] at hst
     dsimp only at hst
     subst hst
     have hle : 2 ≤ (s.drop p).length := by
      have := (List.isPrefixOf_iff_prefix.1 hpe).length_le
      omega
     rw [List.length_drop] at hle
     simp (disch := first | assumption | omega) only [go_sem, reduceCtorEq, Nat.reduceEqDiff, ↓reduceIte, hf]
     refine (put_ok h hB' 6 e 2 (by omega)).mono ?_
     rintro v σ' ⟨rfl, hL⟩
     simp (disch := first | assumption | omega) only [go_sem, ↓reduceIte]
     exact retC_by (Drop.refl _) (.refl _) ⟨rfl, hL⟩
   | false =>
     rw [hpe, if_neg (by simp)] at hst
     simp (disch := first | assumption | omega) only [go_sem, reduceCtorEq, Nat.reduceEqDiff, ↓reduceIte, hf]
     exact ⟨i + 1, by omega, by omega, hst, rfl⟩
  ·have hlt' : ¬ (i : Int) < 3 := by omega
   rw [List.drop_eq_nil_of_le (show E.length ≤ i by omega), twoS] at hst
   dsimp only at hst
   have hidx : s[p]? = some (s[p]'hp1) := List.getElem?_eq_getElem hp1
   obtain ⟨d, hd⟩ : ∃ d, s[p]'hp1 = d := ⟨_, rfl⟩
   rw [hd] at hidx
   have hdr : s.drop p = d :: s.drop (p + 1) := by rw [List.drop_eq_getElem_cons hp1, hd]
   rw [hdr] at hst
   have hst : (if d ∈ opChars then Step.tok 6 [d] 1 else Step.bad 0) = st := hst
   have hcon := contains_ok opChars d
   obtain ⟨_, hmi⟩ := mem_index d opChars
   have hbb : UInt8.ofNat d.toNat = d := by simp
   simp (disch := first | assumption | omega) only [go_sem, ↓reduceIte, hf, hlt']
   rw [hF]
   simp (disch := first | assumption | omega) only [go_sem, reduceCtorEq, Nat.reduceEqDiff, ↓reduceIte, Bool.true_and, hf, hb, hidx, hbb]
   refine hcon.use ?_
   by_cases hm : d ∈ opChars
   ·rw [if_pos hm] at hst
    subst hst
    have e0 := hmi.2 hm
    have e1 : ((p : Int) + 1).toNat = p + 1 := by omega
    have e2 : (s.take (p + 1)).drop p = [d] := by rw [cut_eq (n := 1), hdr]; rfl
    simp (disch := first | assumption | omega) only [go_sem, reduceCtorEq, Nat.reduceEqDiff, ↓reduceIte, hf, hb, e0, e1, e2]
    refine (put_ok h hB' 6 [d] 1 (by omega)).mono ?_
    rintro v σ' ⟨rfl, hL⟩
    simp (disch := first | assumption | omega) only [go_sem, ↓reduceIte]
    exact retC_by (Drop.refl _) (.refl _) ⟨rfl, hL⟩
   ·rw [if_neg hm] at hst
    subst hst
    have e0 : ¬ 0 ≤ indexByte opChars d := fun h => hm (hmi.1 h)
    simp (disch := first | assumption | omega) only [go_sem, ↓reduceIte, e0]
    exact retC_by (Drop.refl _) (.refl _) ⟨rfl, c, h⟩
 ·rw [if_pos hA0] at hst
  subst hst
  simp (disch := first | assumption | omega) only [go_sem, reduceCtorEq, Nat.reduceEqDiff, ↓reduceIte, hA0]
  refine (put_ok h hB' 6 A n hn).mono ?_
  rintro v σ' ⟨rfl, hL⟩
  simp (disch := first | assumption | omega) only [go_sem, ↓reduceIte]
  exact retC_by (Drop.refl _) (.refl _) ⟨rfl, hL⟩
end Go.A
namespace Go.A
open Go.Proofs Go.Lib
theorem dec_len (l : List UInt8) (hv : decodeL l ≠ (65533, 1)) : runeLen ((decodeL l).1 : Int) = ((decodeL l).2 : Int) := by
 rw [decodeL_N] at hv ⊢
 have k0 := (l.getD 0 0).toNat_lt
 have k1 := (l.getD 1 0).toNat_lt
 have k2 := (l.getD 2 0).toNat_lt
 have k3 := (l.getD 3 0).toNat_lt
 unfold runeLen
 rcases decodeN_shape l.length (l.getD 0 0).toNat (l.getD 1 0).toNat (l.getD 2 0).toNat (l.getD 3 0).toNat with ⟨c, e⟩ | ⟨c1, c2, c3, cv, e⟩ | ⟨c1, c2, c3, c4, cv, cs, e⟩ | ⟨c1, c2, c3, c4, c5, cv, cw, e⟩ | e
 all_goals (rw [e] at hv ⊢; dsimp only at hv ⊢)
 all_goals (try (exact absurd rfl hv))
 all_goals (repeat' split)
 all_goals omega
theorem dec_rune (l : List UInt8) : RuneOk ((decodeL l).1 : Int) := by
 rw [decodeL_N]
 have k0 := (l.getD 0 0).toNat_lt
 have k1 := (l.getD 1 0).toNat_lt
 have k2 := (l.getD 2 0).toNat_lt
 have k3 := (l.getD 3 0).toNat_lt
 unfold RuneOk
 rcases decodeN_shape l.length (l.getD 0 0).toNat (l.getD 1 0).toNat (l.getD 2 0).toNat (l.getD 3 0).toNat with ⟨c, e⟩ | ⟨c1, c2, c3, cv, e⟩ | ⟨c1, c2, c3, c4, cv, cs, e⟩ | ⟨c1, c2, c3, c4, c5, cv, cw, e⟩ | e
 all_goals (rw [e]; dsimp only; omega)
theorem dec_ascii {l : List UInt8} (h0 : l ≠ []) (h : (decodeL l).1 < 128) : ∃ c t, l = c :: t ∧ c.toNat = (decodeL l).1 ∧ (decodeL l).2 = 1 := by
 cases l with
 | nil => exact absurd rfl h0
 | cons c t =>
   refine ⟨c, t, rfl, ?_⟩
   rw [decodeL_N] at h ⊢
   have k0 := ((c :: t).getD 0 0).toNat_lt
   have hc : ((c :: t).getD 0 0) = c := rfl
   rcases decodeN_shape (c :: t).length ((c :: t).getD 0 0).toNat ((c :: t).getD 1 0).toNat ((c :: t).getD 2 0).toNat ((c :: t).getD 3 0).toNat with ⟨c, e⟩ | ⟨c1, c2, c3, cv, e⟩ | ⟨c1, c2, c3, c4, cv, cs, e⟩ | ⟨c1, c2, c3, c4, c5, cv, cw, e⟩ | e
   ·rw [e]; exact ⟨rfl, rfl⟩
   all_goals (rw [e] at h; dsimp only at h; omega)
theorem dec_one (c : UInt8) (t : List UInt8) (h : c.toNat < 128) : decodeL (c :: t) = (c.toNat, 1) := by
 rw [decodeL_N]
 unfold decodeN
 rw [if_pos (show ((c :: t).getD 0 0).toNat < 128 from h)]
 rfl
theorem U8.over {τ σ : ASt} (h : U8 τ) (ho : Over τ σ) : U8 σ := ⟨ho.at h.1, ho.at h.2⟩
theorem quotedF_nil : ∀ k p acc, quotedF k [] p acc = .bad 0
 | 0, _, _ => rfl
 | _ + 1, _, _ => by unfold quotedF; rw [if_pos rfl]
theorem enc_le (r : Int) : (encodeRune r).length ≤ 4 := enc_len r
set_option maxHeartbeats 2000000 in
theorem quoted_ok {σ0 τ : ASt} (hU : U8 τ) {b : Nat} {s : List UInt8} {p c : Nat} {ts : List Tok} (h : LX σ0 b s p c ts τ) (hB : Bnd s p c ts) (hp1 : p < s.length) :
  ACalls Tryz.prog 105 [.ptr b 0] τ fun v σ' => After σ0 b s p c ts (quotedF (s.drop p).length (s.drop (p + 1)) 0 []) v σ' := by
 obtain ⟨k0, hg0, hb⟩ := h.cell
 have hB' := hB
 obtain ⟨hs, hp, hc, ht⟩ := hB
 obtain ⟨st, hst⟩ : ∃ st, quotedF (s.drop p).length (s.drop (p + 1)) 0 [] = st := ⟨_, rfl⟩
 rw [hst]
 obtain ⟨body, hbody⟩ : ∃ body, s.drop (p + 1) = body := ⟨_, rfl⟩
 have hbl : body.length = s.length - (p + 1) := by rw [← hbody]; simp
 have hdrop : ∀ q, s.drop (p + 1 + q) = body.drop q := fun q => by rw [← hbody, List.drop_drop]
 have hget : ∀ q, s[p + 1 + q]? = body[q]? := fun q => by rw [← hbody, List.getElem?_drop]
 rw [hbody] at hst
 obtain ⟨F, hF⟩ : ∃ F, F = ACode.wp Tryz.prog c105_63 := ⟨_, rfl⟩
 refine a105 (by simp) ?_
 simp (disch := first | assumption | omega) only [go_sem]
 refine allocTC_by fun bB hbB => ?_
 have nb := ne_of_role hb hbB
 obtain ⟨nb1, nb2⟩ := nb
 have e1 : ((p : Int) + 1).toNat = p + 1 := by omega
 simp (disch := first | assumption | omega) only [go_sem, reduceCtorEq, Nat.reduceEqDiff, ↓reduceIte, hb, e1, hbody, List.take_length, ←hF]
 refine rngC_by fun it hit => ?_
 obtain ⟨ni1, ni2, hit0⟩ := set_none hit
 obtain ⟨nt1, nt2⟩ := ne_of_role hb hit0
 have hbase : ∀ r : Role, (τ.set it (some r)) bB = none := fun r => by rw [ASt.set_ne ni2]; exact hbB
 have fin : ∀ (q : Nat) (acc : List UInt8) (a : AFr) (σ : ASt), q ≤ body.length → acc.length ≤ 4 * q + 4 → BD (τ.set it (some (.iter body q))) bB acc σ →
   ((st = .bad 0 ∧ a 4 = .bool true) ∨ (st = .tok 2 acc (q + 1) ∧ q + 1 ≤ body.length + 1 ∧ a 4 = .bool false ∧ a 5 = .int .i64 (q + 1 : Nat))) → (a 0 = .ptr b 0 ∧ a 3 = .ptr bB 0) →
   F (RetQ [.t 2] fun v σ' => After σ0 b s p c ts st v σ') a σ := by
  intro q acc a σ hq hacc hW hcase hf
  have hov : Over τ σ := (Over.set it _ .refl hit0).trans (hW.over (hbase _))
  rw [hF]
  rcases hcase with ⟨rfl, h4⟩ | ⟨rfl, hq1, h4, h5⟩
  ·simp (disch := first | assumption | omega) only [go_sem, ↓reduceIte, h4]
   exact retC_by hov.drop (.refl _) ⟨rfl, c, h⟩
  ·obtain ⟨σ0', hL, _, hback⟩ := GO.over h hov
   have hstr := bstring_ok hW (by omega)
   simp (disch := first | assumption | omega) only [go_sem, reduceCtorEq, Nat.reduceEqDiff, ↓reduceIte, hf, h4]
   refine hstr.mono ?_
   rintro v σ' ⟨rfl, rfl⟩
   simp (disch := first | assumption | omega) only [go_sem, Nat.reduceEqDiff, ↓reduceIte, h5]
   refine (put_ok hL hB' 2 acc (q + 1) (by omega)).mono ?_
   rintro v σ' ⟨rfl, hL2⟩
   obtain ⟨σ'', hd, hL3⟩ := hback _ _ _ hL2
   simp (disch := first | assumption | omega) only [go_sem, ↓reduceIte]
   exact retC_by hd (.refl _) ⟨rfl, hL3⟩
 have hst0 : BD (τ.set it (some (.iter body 0))) bB [] ((τ.set bB (some (.typ 100 [.pointer none, .slice none 0 0]))).set it (some (.iter body 0))) := .inl ⟨rfl, set_swap ni2⟩
 simp (disch := first | assumption | omega) only [go_sem]
 refine wp_loop_on (fun (i : Nat × List UInt8 × Bool) a σ' => i.1 ≤ body.length ∧ i.2.1.length ≤ 4 * i.1 + 4 ∧ BD (τ.set it (some (.iter body i.1))) bB i.2.1 σ' ∧
   (i.2.2 = false → a 5 = .int .i64 (i.1 + 1 : Nat) ∧ ∃ k, (body.drop i.1).length ≤ k ∧ quotedF k (body.drop i.1) i.1 i.2.1 = st) ∧
   (i.2.2 = true → body[i.1]? = some 34 ∧ a 5 = .int .i64 (i.1 + 2 : Nat) ∧ ∃ k, (body.drop (i.1 + 1)).length ≤ k ∧ quotedF k (body.drop (i.1 + 1)) (i.1 + 1) i.2.1 = st) ∧
   (a 0 = .ptr b 0 ∧ a 3 = .ptr bB 0 ∧ a 4 = .bool true ∧ a 21 = .ptr it 0))
  (fun i => body.length - i.1) (0, [], false) ⟨Nat.zero_le _, by simp, hst0, fun _ => ⟨?_, _, ?_, hst⟩, fun h => (by cases h), ?_⟩ ?_
 ·simp (disch := first | assumption | omega) only [go_sem, Nat.reduceEqDiff, ↓reduceIte]
 ·simp; omega
 ·simp (disch := first | assumption | omega) only [go_sem, reduceCtorEq, Nat.reduceEqDiff, ↓reduceIte]
 rintro ⟨q, acc, skip⟩ a σ ⟨hq, hacc, hW, hns, hsk, hf⟩
 dsimp only at hq hacc hW hns hsk
 obtain ⟨-, hitr⟩ := hW.iter (r' := .iter body q) ni1
 have hov : Over τ σ := (Over.set it _ .refl hit0).trans (hW.over (hbase _))
 have hbs := hov.at hb
 by_cases hlt : q < body.length
 ·have hne : body.drop q ≠ [] := by
   intro h
   have := congrArg List.length h
   simp at this
   omega
  obtain ⟨⟨r, w⟩, hD⟩ : ∃ D, decodeL (body.drop q) = D := ⟨_, rfl⟩
  have hD2 : Utf8.decode ⟨⟨body⟩⟩ q = (r, w) := by rw [← hD]; exact (decodeL_drop ⟨⟨body⟩⟩ q).symm
  have hDrop : decodeL (s.drop (p + 1 + q)) = (r, w) := by rw [hdrop]; exact hD
  have hwle := decodeL_le (body.drop q) hne
  have hbd := dec_bd (body.drop q)
  have hrk := dec_rune (body.drop q)
  rw [hD] at hwle hbd hrk
  dsimp only at hwle hbd hrk
  rw [List.length_drop] at hwle
  obtain ⟨hW2, -⟩ := hW.iter (r' := .iter body (q + w)) ni1
  have hov2 : Over τ (σ.set it (some (.iter body (q + w)))) := (Over.set it _ .refl hit0).trans (hW2.over (hbase _))
  have hb2 := hov2.at hb
  simp (disch := first | assumption | omega) only [go_sem, hf, hitr]
  refine nxt_more hlt ?_
  rw [hD2]
  cases skip with
  | true =>
    obtain ⟨h34, h5, kk, hk1, hk2⟩ := hsk rfl
    have hd34 : body.drop q = 34 :: body.drop (q + 1) := by
     rw [List.drop_eq_getElem_cons hlt]
     rw [List.getElem?_eq_getElem hlt] at h34
     injection h34 with h34
     rw [h34]
    have hw1 : (r, w) = (34, 1) := by
     rw [← hD, hd34]
     exact dec_one 34 _ (by decide)
    injection hw1 with hr1 hw1
    subst hr1 hw1
    have e2 : (q : Int) + 1 < (q + 2 : Nat) := by omega
    simp (disch := first | assumption | omega) only [go_sem, reduceCtorEq, Nat.reduceEqDiff, ↓reduceIte, hf, h5]
    exact ⟨(q + 1, acc, false), by dsimp only; omega, by dsimp only; omega, by dsimp only; omega, hW2, fun _ => ⟨rfl, kk, hk1, hk2⟩, fun h => (by cases h)⟩
  | false =>
    obtain ⟨h5, kk, hk1, hk2⟩ := hns rfl
    have e2 : ¬ (q : Int) + 1 < (q + 1 : Nat) := by omega
    have e3 : (p : Int) + 1 + q = (p + 1 + q : Nat) := by omega
    cases kk with
    | zero => simp at hk1; omega
    | succ kk =>
    rw [quotedF, if_neg hne, hD] at hk2
    dsimp only at hk2
    rw [List.length_drop] at hk1
    have hlen : decodeL (body.drop q) ≠ (65533, 1) → runeLen (r : Int) = w := fun hv => by
     have := dec_len (body.drop q) hv
     rw [hD] at this
     exact this
    have hasc := dec_ascii hne
    rw [hD] at hasc hlen
    dsimp only at hasc
    have hel := enc_le (r : Int)
    obtain ⟨G, hG⟩ : ∃ F, F = ACode.wp Tryz.prog c105_43 := ⟨_, rfl⟩
    have step : (r, w) ≠ (65533, 1) → ∀ (Q : APost) (a : AFr), (a 0 = .ptr b 0 ∧ a 3 = .ptr bB 0 ∧ a 4 = .bool true ∧ a 6 = .int .i64 q ∧ a 7 = .int .i32 r ∧ a 8 = .int .i64 (p + 1 + q : Nat) ∧ a 21 = .ptr it 0) →
      (∀ a' σ', (a' 0 = .ptr b 0 ∧ a' 3 = .ptr bB 0 ∧ a' 4 = .bool false ∧ a' 5 = .int .i64 (q + 1 + 1 : Nat)) → BD (τ.set it (some (.iter body (q + 1)))) bB acc σ' → st = .tok 2 acc (q + 1 + 1) → Q (.exit 0) a' σ') →
      (∀ a' σ' q' acc' skip', q < q' → q' ≤ body.length → acc'.length ≤ 4 * q' + 4 → BD (τ.set it (some (.iter body q'))) bB acc' σ' →
       (skip' = false → a' 5 = .int .i64 (q' + 1 : Nat) ∧ ∃ k, (body.drop q').length ≤ k ∧ quotedF k (body.drop q') q' acc' = st) →
       (skip' = true → body[q']? = some 34 ∧ a' 5 = .int .i64 (q' + 2 : Nat) ∧ ∃ k, (body.drop (q' + 1)).length ≤ k ∧ quotedF k (body.drop (q' + 1)) (q' + 1) acc' = st) →
       (a' 0 = .ptr b 0 ∧ a' 3 = .ptr bB 0 ∧ a' 4 = .bool true ∧ a' 21 = .ptr it 0) → Q (.exit 1) a' σ') →
      G Q a (σ.set it (some (.iter body (q + w)))) := by
     intro hv Q a hf hQ0 hQ1
     rw [if_neg hv] at hk2
     have hlen := hlen hv
     rw [hG]
     by_cases h34 : (r : Int) = 34
     ·have hr34 : r = 34 := by omega
      rw [if_neg (by simpa using hr34)] at hk2
      obtain ⟨d, t, hdt, hdc, hw1⟩ := hasc (by omega)
      subst hw1
      have hq1 : (body.drop q)[1]? = body[q + 1]? := by rw [List.getElem?_drop]
      rw [hq1] at hk2
      have hg1 := hget (q + 1)
      obtain ⟨P, hP⟩ : ∃ P, p + 1 + (q + 1) = P := ⟨_, rfl⟩
      have e4 : ((p : Int) + 1 + q + 1).toNat = P := by omega
      rw [hP] at hg1
      by_cases h2 : body[q + 1]? = some 34
      ·rw [if_pos h2] at hk2
       have hlt2 := (List.getElem?_eq_some_iff.1 h2).1
       rw [h2] at hg1
       have e5 : (p : Int) + 1 + q + 1 < s.length := by omega
       have e6 : ((UInt8.toNat 34 : Nat) : Int) = 34 := rfl
       simp (disch := first | assumption | omega) only [go_sem, reduceCtorEq, Nat.reduceEqDiff, ↓reduceIte, hf, hb2, h34, e4, e5, e6, hg1]
       refine (writeByte_ok hW2 34 (by omega)).mono ?_
       rintro v σ' ⟨rfl, hW3⟩
       simp (disch := first | assumption | omega) only [go_sem, Nat.reduceEqDiff, ↓reduceIte, hf]
       refine hQ1 _ _ (q + 1) (acc ++ [34]) true (by omega) (by omega) (by simp; omega) hW3 (fun h => by cases h) (fun _ => ⟨h2, ?_, kk, ?_, ?_⟩) ?_
       ·simp (disch := first | assumption | omega) only [go_sem, ↓reduceIte]
        rfl
       ·simp; omega
       ·rw [List.drop_drop] at hk2
        exact hk2
       ·simp (disch := first | assumption | omega) only [go_sem, reduceCtorEq, Nat.reduceEqDiff, ↓reduceIte, hf]
      ·rw [if_neg h2] at hk2
       by_cases hlt2 : q + 1 < body.length
       ·have e5 : (p : Int) + 1 + q + 1 < s.length := by omega
        have hx : body[q + 1]? = some (body[q + 1]'hlt2) := List.getElem?_eq_getElem hlt2
        obtain ⟨x, hxe⟩ : ∃ x, body[q + 1]'hlt2 = x := ⟨_, rfl⟩
        rw [hxe] at hx
        rw [hx] at hg1 h2
        have hx34 : ¬ (x.toNat : Int) = 34 := by
         intro h
         apply h2
         congr 1
         apply UInt8.toNat_inj.1
         have : x.toNat = 34 := by omega
         simpa using this
        simp (disch := first | assumption | omega) only [go_sem, reduceCtorEq, Nat.reduceEqDiff, ↓reduceIte, hf, hb2, h34, e4, e5, hg1, hx34]
        refine hQ0 _ _ ?_ hW2 hk2.symm
        simp (disch := first | assumption | omega) only [go_sem, reduceCtorEq, Nat.reduceEqDiff, ↓reduceIte, hf]
        rfl
       ·have e5 : ¬ (p : Int) + 1 + q + 1 < s.length := by omega
        simp (disch := first | assumption | omega) only [go_sem, reduceCtorEq, Nat.reduceEqDiff, ↓reduceIte, hf, hb2, h34, e5]
        refine hQ0 _ _ ?_ hW2 hk2.symm
        simp (disch := first | assumption | omega) only [go_sem, reduceCtorEq, Nat.reduceEqDiff, ↓reduceIte, hf]
        rfl
     ·have hr34 : r ≠ 34 := by omega
      rw [if_pos hr34] at hk2
      clear hasc
      simp (disch := first | assumption | omega) only [go_sem, Nat.reduceEqDiff, ↓reduceIte, hf, h34]
      refine (writeRune_ok hW2 hrk (by omega)).mono ?_
      rintro v σ' hW3
      simp (disch := first | assumption | omega) only [go_sem, Nat.reduceEqDiff, ↓reduceIte, hf]
      refine (runeLen_ok r).use ?_
      rw [hlen]
      simp (disch := first | assumption | omega) only [go_sem, Nat.reduceEqDiff, ↓reduceIte]
      refine hQ1 _ _ (q + w) (acc ++ encodeRune r) false (by omega) (by omega) (by simp; omega) hW3 (fun _ => ⟨?_, kk, ?_, ?_⟩) (fun h => by cases h) ?_
      ·simp (disch := first | assumption | omega) only [go_sem, ↓reduceIte]
       congr 1
       omega
      ·simp; omega
      ·rw [List.drop_drop] at hk2
       exact hk2
      ·simp (disch := first | assumption | omega) only [go_sem, reduceCtorEq, Nat.reduceEqDiff, ↓reduceIte, hf]
    have hQ0 : ∀ (a' : AFr) σ', (a' 0 = .ptr b 0 ∧ a' 3 = .ptr bB 0 ∧ a' 4 = .bool false ∧ a' 5 = .int .i64 (q + 1 + 1 : Nat)) → BD (τ.set it (some (.iter body (q + 1)))) bB acc σ' → st = .tok 2 acc (q + 1 + 1) →
      F (RetQ [.t 2] fun v σ' => After σ0 b s p c ts st v σ') a' σ' := fun a' σ' hf' hW3 hst3 =>
     fin (q + 1) acc a' σ' (by omega) (by omega) hW3 (.inr ⟨hst3, by omega, hf'.2.2.1, hf'.2.2.2⟩) ⟨hf'.1, hf'.2.1⟩
    by_cases hbad : (r, w) = (65533, 1)
    ·rw [if_pos hbad] at hk2
     injection hbad with hr1 hw1
     subst hr1 hw1
     obtain ⟨σ0', hL, _, hback⟩ := GO.over h hov2
     have hdec := dec_ok (hU.over hov2) (l := s.drop (p + 1 + q)) (by rw [hdrop]; exact hne)
     rw [hDrop] at hdec
     have hpass := pass_ok hL hB' (1 + q) (by omega)
     rw [show p + (1 + q) = p + 1 + q by omega] at hpass
     have e7 : ((p : Int) + 1 + q).toNat = p + 1 + q := by omega
     clear hasc step
     simp (disch := first | assumption | omega) only [go_sem, reduceCtorEq, Nat.reduceEqDiff, ↓reduceIte, hf, h5, hb2, e7, List.take_length, ←hG]
     refine hdec.mono ?_
     rintro v σ' ⟨rfl, rfl⟩
     simp (disch := first | assumption | omega) only [go_sem, reduceCtorEq, Nat.reduceEqDiff, ↓reduceIte, hf]
     refine hpass.mono ?_
     rintro v σ' ⟨rfl, hL2⟩
     obtain ⟨σ'', hd, hL3⟩ := hback _ _ _ hL2
     simp (disch := first | assumption | omega) only [go_sem, ↓reduceIte]
     subst hk2
     refine retC_by hd (.refl _) ⟨rfl, c + signsN ((s.drop p).take (1 + q)), ?_⟩
     rw [show p + (1 + q) = p + 1 + q by omega]
     exact hL3
    have stp := step hbad
    clear step hasc
    by_cases h65 : (r : Int) = 65533
    ·have hw1 : ¬ (w : Int) = 1 := by
      intro h
      apply hbad
      rw [Prod.mk.injEq]
      omega
     have hdec := dec_ok (hU.over hov2) (l := s.drop (p + 1 + q)) (by rw [hdrop]; exact hne)
     rw [hDrop] at hdec
     have e7 : ((p : Int) + 1 + q).toNat = p + 1 + q := by omega
     simp (disch := first | assumption | omega) only [go_sem, reduceCtorEq, Nat.reduceEqDiff, ↓reduceIte, hf, h5, hb2, e7, h65, List.take_length, ←hG]
     refine hdec.mono ?_
     rintro v σ' ⟨rfl, rfl⟩
     simp (disch := first | assumption | omega) only [go_sem, Nat.reduceEqDiff, ↓reduceIte, hw1]
     refine stp _ _ ?_ ?_ ?_
     ·simp (disch := first | assumption | omega) only [go_sem, reduceCtorEq, Nat.reduceEqDiff, ↓reduceIte, hf]
      rw [← h65]
     ·intro a' σ' hf' hW3 hst3
      simp (disch := first | assumption | omega) only [go_sem, reduceCtorEq, ↓reduceIte]
      exact hQ0 a' σ' hf' hW3 hst3
     ·intro a' σ' q' acc' skip' h1 h2 h3 h4 h5 h6 h7
      simp (disch := first | assumption | omega) only [go_sem, ↓reduceIte]
      exact ⟨(q', acc', skip'), by dsimp only; omega, h2, h3, h4, h5, h6, h7⟩
    ·simp (disch := first | assumption | omega) only [go_sem, reduceCtorEq, Nat.reduceEqDiff, ↓reduceIte, hf, h5, hb2, h65, ←hG]
     refine stp _ _ ?_ ?_ ?_
     ·simp (disch := first | assumption | omega) only [go_sem, reduceCtorEq, Nat.reduceEqDiff, ↓reduceIte, hf]
     ·intro a' σ' hf' hW3 hst3
      simp (disch := first | assumption | omega) only [go_sem, reduceCtorEq, ↓reduceIte]
      exact hQ0 a' σ' hf' hW3 hst3
     ·intro a' σ' q' acc' skip' h1 h2 h3 h4 h5 h6 h7
      simp (disch := first | assumption | omega) only [go_sem, ↓reduceIte]
      exact ⟨(q', acc', skip'), by dsimp only; omega, h2, h3, h4, h5, h6, h7⟩
 ·have hq' : q = body.length := by omega
  cases skip with
  | true =>
    obtain ⟨h34, _⟩ := hsk rfl
    rw [List.getElem?_eq_none (by omega)] at h34
    cases h34
  | false =>
  obtain ⟨h5, kk, hk1, hk2⟩ := hns rfl
  rw [List.drop_eq_nil_of_le (by omega), quotedF_nil] at hk2
  simp (disch := first | assumption | omega) only [go_sem, hf, hitr]
  refine nxt_over (by omega) ?_
  simp (disch := first | assumption | omega) only [go_sem, ↓reduceIte]
  refine fin q acc _ σ (by omega) hacc hW (.inl ⟨hk2.symm, ?_⟩) ?_
  ·simp (disch := first | assumption | omega) only [go_sem, Nat.reduceEqDiff, ↓reduceIte, hf]
  ·simp (disch := first | assumption | omega) only [go_sem, reduceCtorEq, Nat.reduceEqDiff, ↓reduceIte, hf]
end Go.A
namespace Go.A
open Go.Proofs Go.Lib
theorem signs_one {c : UInt8} (h : c.toNat < 128) : signsN [c] = 1 := by
 unfold signsN
 have := runeCount_ascii ⟨⟨[c]⟩⟩ (fun j hj => by
  have : j = 0 := by simp [ByteArray.size] at hj; omega
  subst this
  exact h)
 simpa [ByteArray.size] using this
set_option maxHeartbeats 1000000 in
theorem tnext_ok {σ0 σ : ASt} (hU : U8 σ) {b : Nat} {s : List UInt8} {p c : Nat} {ts : List Tok} (h : LX σ0 b s p c ts σ) (hB : Bnd s p c ts) (hp : p < s.length) :
  ACalls Tryz.prog 66 [.ptr b 0] σ fun v σ' => After σ0 b s p c ts (stepP (s.drop p)) v σ' := by
 obtain ⟨st, hst⟩ : ∃ st, stepP (s.drop p) = st := ⟨_, rfl⟩
 rw [hst]
 have hne : s.drop p ≠ [] := by
  intro h
  have := congrArg List.length h
  simp at this
  omega
 have hs1 := hB.hs
 have hsg := sign_ok hU h hB hp
 have hasc := dec_ascii hne
 have hle := decodeL_le _ hne
 have hbd := dec_bd (s.drop p)
 have hwo := words_ok h hB
 have hqu := quoted_ok hU h hB hp
 have hfa := lfail_ok h hB
 have hop := op_ok h hB hp
 have hps := pass_ok h hB 1 (by omega)
 obtain ⟨k, hg, hb⟩ := h.cell
 rw [List.length_drop] at hle
 unfold stepP at hst
 dsimp only at hst
 obtain ⟨⟨r, w⟩, hD⟩ : ∃ D, decodeL (s.drop p) = D := ⟨_, rfl⟩
 rw [hD] at hst hsg hasc hle hbd
 dsimp only at hst hsg hasc hle hbd
 refine a66 (by simp) ?_
 simp (disch := first | assumption | omega) only [go_sem, reduceCtorEq, ↓reduceIte]
 refine hsg.mono ?_
 rintro v σ' ⟨rfl, rfl⟩
 by_cases hbad : (r, w) = (65533, 1)
 ·rw [if_pos hbad] at hst
  rw [if_pos hbad, if_pos hbad]
  subst hst
  simp (disch := first | assumption | omega) only [go_sem, Nat.reduceEqDiff, Int.reduceLT, ↓reduceIte, Int.reduceNeg]
  exact retC_by (Drop.refl _) (.refl _) ⟨rfl, c, h⟩
 rw [if_neg hbad] at hst
 rw [if_neg hbad, if_neg hbad]
 have e0 : ¬ (w : Int) < 0 := by omega
 by_cases hbl : r = 32 ∨ r = 9 ∨ r = 10
 ·rw [if_pos hbl] at hst
  subst hst
  obtain ⟨d, t, hdt, hdc, hw1⟩ := hasc (by omega)
  have hs1 : signsN ((s.drop p).take 1) = 1 := by rw [hdt, List.take_succ_cons, List.take_zero]; exact signs_one (by omega)
  rw [hs1] at hps
  subst hw1
  have e1 : ((1 : Nat) : Int) = 1 := rfl
  rcases hbl with rfl | rfl | rfl
  all_goals
   simp (disch := first | assumption | omega) only [go_sem, reduceCtorEq, Nat.reduceEqDiff, Int.reduceLT, Int.reduceEq, ↓reduceIte, hb]
   refine hps.mono ?_
   rintro v σ2 ⟨rfl, hL⟩
   simp (disch := first | assumption | omega) only [go_sem, ↓reduceIte]
   exact retC_by (Drop.refl _) (.refl _) ⟨rfl, hL⟩
 rw [if_neg hbl] at hst
 have n1 : ¬ (r : Int) = 32 := by omega
 have n2 : ¬ (r : Int) = 9 := by omega
 have n3 : ¬ (r : Int) = 10 := by omega
 by_cases h128 : r < 128
 ·obtain ⟨d, t, hdt, hdc, hw1⟩ := hasc h128
  clear hasc
  have hdr : UInt8.ofNat r = d := by rw [← hdc]; simp
  have hwd := word_ok d
  rw [hdc] at hwd
  rw [hdr] at hst
  have i128 : (r : Int) < 128 := by omega
  simp (disch := first | assumption | omega) only [go_sem, Nat.reduceEqDiff, ↓reduceIte, e0, n1, n2, n3, i128]
  refine hwd.use ?_
  cases hw : wordB d with
  | true =>
    rw [if_pos ⟨h128, hw⟩] at hst
    subst hst
    simp (disch := first | assumption | omega) only [go_sem, reduceCtorEq, Nat.reduceEqDiff, ↓reduceIte]
    refine hwo.mono ?_
    intro v σ' hA
    simp (disch := first | assumption | omega) only [go_sem, ↓reduceIte]
    exact retC_by (Drop.refl _) (.refl _) hA
  | false =>
  rw [if_neg (by rintro ⟨_, h⟩; rw [hw] at h; cases h)] at hst
  by_cases h34 : r = 34
  ·rw [if_pos h34, List.drop_drop] at hst
   subst hst
   have i34 : (r : Int) = 34 := by omega
   simp (disch := first | assumption | omega) only [go_sem, reduceCtorEq, Nat.reduceEqDiff, ↓reduceIte, i34]
   refine hqu.mono ?_
   intro v σ' hA
   simp (disch := first | assumption | omega) only [go_sem, ↓reduceIte]
   exact retC_by (Drop.refl _) (.refl _) hA
  rw [if_neg h34] at hst
  have i34 : ¬ (r : Int) = 34 := by omega
  by_cases h35 : r = 35
  ·rw [if_pos h35] at hst
   subst hst
   have i35 : (r : Int) = 35 := by omega
   simp (disch := first | assumption | omega) only [go_sem, reduceCtorEq, Nat.reduceEqDiff, Int.reduceEq, ↓reduceIte, i35]
   refine hfa.mono ?_
   intro v σ' hA
   simp (disch := first | assumption | omega) only [go_sem, ↓reduceIte]
   exact retC_by (Drop.refl _) (.refl _) hA
  rw [if_neg h35] at hst
  have i35 : ¬ (r : Int) = 35 := by omega
  subst hst
  simp (disch := first | assumption | omega) only [go_sem, reduceCtorEq, Nat.reduceEqDiff, ↓reduceIte, i34, i35]
  refine (hop r w (by omega)).mono ?_
  intro v σ' hA
  simp (disch := first | assumption | omega) only [go_sem, ↓reduceIte]
  exact retC_by (Drop.refl _) (.refl _) hA
 ·rw [if_neg (by rintro ⟨h, _⟩; exact h128 h), if_neg (by omega), if_neg (by omega)] at hst
  subst hst
  have i128 : ¬ (r : Int) < 128 := by omega
  have i34 : ¬ (r : Int) = 34 := by omega
  have i35 : ¬ (r : Int) = 35 := by omega
  simp (disch := first | assumption | omega) only [go_sem, reduceCtorEq, Nat.reduceEqDiff, ↓reduceIte, e0, n1, n2, n3, i128, i34, i35]
  refine (hop r w (by omega)).mono ?_
  intro v σ' hA
  simp (disch := first | assumption | omega) only [go_sem, ↓reduceIte]
  exact retC_by (Drop.refl _) (.refl _) hA
theorem quotedF_fits : ∀ (k : Nat) (r : List UInt8) (p : Nat) (acc : List UInt8), (∀ j, quotedF k r p acc = .bad j → j < 1 + p + r.length) ∧ quotedF k r p acc ≠ .blank ∧ ∀ kd t n, quotedF k r p acc = .tok kd t n → p + 2 ≤ n ∧ n ≤ p + 1 + r.length
 | 0, r, p, acc => by
   refine ⟨fun j h => ?_, by simp [quotedF], fun kd t n h => by simp [quotedF] at h⟩
   simp only [quotedF, Step.bad.injEq] at h
   omega
 | k + 1, r, p, acc => by
   by_cases hr : r = []
   ·subst hr
    rw [quotedF_nil]
    refine ⟨fun j h => ?_, by simp, fun kd t n h => by simp at h⟩
    simp only [Step.bad.injEq] at h
    omega
   have hpos := List.length_pos_iff.2 hr
   have hle := decodeL_le r hr
   have hw := decodeL_width r
   unfold quotedF
   rw [if_neg hr]
   split
   ·refine ⟨fun j h => ?_, by simp, fun kd t n h => by simp at h⟩
    simp only [Step.bad.injEq] at h
    omega
   split
   ·obtain ⟨h1, h2, h3⟩ := quotedF_fits k (r.drop (decodeL r).2) (p + (decodeL r).2) (acc ++ encodeRune ((decodeL r).1 : Int))
    rw [List.length_drop] at h1 h3
    exact ⟨fun j h => by have := h1 j h; omega, h2, fun kd t n h => by have := h3 kd t n h; omega⟩
   split
   ·rename_i h1 h2 h3
    have hl2 := (List.getElem?_eq_some_iff.1 h3).1
    obtain ⟨h1, h2, h3⟩ := quotedF_fits k (r.drop 2) (p + 2) (acc ++ [34])
    rw [List.length_drop] at h1 h3
    exact ⟨fun j h => by have := h1 j h; omega, h2, fun kd t n h => by have := h3 kd t n h; omega⟩
   ·refine ⟨fun j h => by simp at h, by simp, fun kd t n h => ?_⟩
    simp only [Step.tok.injEq] at h
    omega
theorem failS_fits (r : List UInt8) (hr : r ≠ []) : ∀ (es : List (List UInt8)), (∀ e ∈ es, 1 ≤ e.length) → (∀ j, failS r es = .bad j → j < r.length) ∧ failS r es ≠ .blank ∧ ∀ kd t n, failS r es = .tok kd t n → 1 ≤ n ∧ n ≤ r.length
 | [], _ => by
   have := List.length_pos_iff.2 hr
   refine ⟨fun j h => ?_, by simp [failS], fun kd t n h => by simp [failS] at h⟩
   simp only [failS, Step.bad.injEq] at h
   omega
 | e :: es, he => by
   unfold failS
   split
   ·rename_i h1
    have := he e (by simp)
    refine ⟨fun j h => by simp at h, by simp, fun kd t n h => ?_⟩
    simp only [Step.tok.injEq] at h
    omega
   ·exact failS_fits r hr es fun e h => he e (by simp [h])
theorem twoS_fits (r : List UInt8) : ∀ (es : List (List UInt8)) e, twoS r es = some e → e ∈ es ∧ e.isPrefixOf r = true
 | [], e, h => by simp [twoS] at h
 | x :: es, e, h => by
   unfold twoS at h
   split at h
   ·injection h with h; subst h; exact ⟨by simp, by assumption⟩
   ·obtain ⟨h1, h2⟩ := twoS_fits r es e h
    exact ⟨by simp [h1], h2⟩
theorem stepP_fits (r : List UInt8) (hr : r ≠ []) : (∀ j, stepP r = .bad j → j < r.length) ∧ ∀ kd t n, stepP r = .tok kd t n → 1 ≤ n ∧ n ≤ r.length := by
 have hpos := List.length_pos_iff.2 hr
 have hle := decodeL_le r hr
 have hw := decodeL_width r
 have hasc := dec_ascii hr
 have bad0 : (∀ j, Step.bad 0 = .bad j → j < r.length) ∧ ∀ kd t n, Step.bad 0 = .tok kd t n → 1 ≤ n ∧ n ≤ r.length := by
  refine ⟨fun j h => ?_, fun kd t n h => by simp at h⟩
  simp only [Step.bad.injEq] at h
  omega
 have tok1 : ∀ kd t n, 1 ≤ n → n ≤ r.length → (∀ j, Step.tok kd t n = .bad j → j < r.length) ∧ ∀ kd' t' n', Step.tok kd t n = .tok kd' t' n' → 1 ≤ n' ∧ n' ≤ r.length := by
  intro kd t n h1 h2
  refine ⟨fun j h => by simp at h, fun kd t n h => ?_⟩
  simp only [Step.tok.injEq] at h
  omega
 unfold stepP
 dsimp only
 split
 ·exact bad0
 split
 ·exact ⟨fun j h => by simp at h, fun kd t n h => by simp at h⟩
 split
 ·rename_i h1 h2 h3
  obtain ⟨d, t, hdt, hdc, _⟩ := hasc h3.1
  have hrl := runL_le wordB r
  have h1 : 1 ≤ runL wordB r := by
   rw [hdt, runL]
   have : UInt8.ofNat (decodeL r).1 = d := by rw [← hdc]; simp
   rw [this] at h3
   rw [if_pos h3.2]
   omega
  unfold wordsS
  dsimp only
  repeat' split
  all_goals first | exact tok1 _ _ _ h1 hrl | exact bad0
 split
 ·obtain ⟨h1, h2, h3⟩ := quotedF_fits r.length (r.drop 1) 0 []
  rw [List.length_drop] at h1 h3
  exact ⟨fun j h => by have := h1 j h; omega, fun kd t n h => by have := h3 kd t n h; omega⟩
 split
 ·obtain ⟨h1, h2, h3⟩ := failS_fits r hr errTexts (by decide)
  exact ⟨h1, h3⟩
 ·unfold opS
  split
  ·exact tok1 _ _ _ hw hle
  ·split
   ·rename_i e he
    obtain ⟨h1, h2⟩ := twoS_fits r _ _ he
    have := twos_len e h1
    have := (List.isPrefixOf_iff_prefix.1 h2).length_le
    exact tok1 _ _ _ (by omega) (by omega)
   ·split
    ·exact tok1 _ _ _ (by omega) (by omega)
    ·exact bad0
theorem After.u8 {σ0 σ' : ASt} (hU : U8 σ0) {b : Nat} (hb : σ0 b = none) {s : List UInt8} {p c : Nat} {ts : List Tok} (h : LX σ0 b s p c ts σ') : U8 σ' := by
 have hne : ∀ x r, σ0 x = some r → x ≠ b := by rintro x r hx rfl; rw [hb] at hx; cases hx
 exact ⟨GO.at h (hne _ _ hU.1) hU.1, GO.at h (hne _ _ hU.2) hU.2⟩
theorem lex_ok {σ : ASt} (hU : U8 σ) (s : List UInt8) (hs0 : s.length ≤ 1000000000) :
  ACalls Tryz.prog 31 [.str s] σ fun v σ' => v = .tuple [.sl .shr ((lexP s).1.map tokAV), .int .i64 (lexP s).2.1, .int .i64 (lexP s).2.2] ∧ σ' = σ := by
 obtain ⟨R, hR⟩ : ∃ R, lexP s = R := ⟨_, rfl⟩
 rw [hR]
 unfold lexP at hR
 refine a31 (by simp) ?_
 obtain ⟨F, hF⟩ : ∃ F, F = ACode.wp Tryz.prog c31_24 := ⟨_, rfl⟩
 by_cases hbig : 2000 < s.length
 ·rw [if_pos hbig] at hR
  subst hR
  have e1 : (2000 : Int) < s.length := by omega
  simp (disch := first | assumption | omega) only [go_sem, reduceCtorEq, Nat.reduceEqDiff, ↓reduceIte, e1]
  exact retC_by (Drop.refl _) (.tuple (.cons (.sl _ _) (.cons (.refl _) (.cons (.refl _) .nil)))) ⟨rfl, rfl⟩
 rw [if_neg hbig] at hR
 have hs : s.length ≤ 100000 := by omega
 have e1 : ¬ (2000 : Int) < s.length := by omega
 simp (disch := first | assumption | omega) only [go_sem, reduceCtorEq, Nat.reduceAdd, Nat.reduceLeDiff, ↓reduceIte, e1]
 refine boxC_by rfl fun b hb => ?_
 simp (disch := first | assumption | omega) only [go_sem, ↓reduceIte, ←hF]
 have h0 : LX σ b s 0 0 [] (σ.set b (some (.obj [.str s, .int .i64 0, .int .i64 0, .sl .full []]))) := ⟨.full, .inl ⟨rfl, rfl, rfl⟩⟩
 refine wp_loop_on (fun (i : Nat × Nat × List Tok) a σ' => i.1 ≤ s.length ∧ i.2.1 ≤ i.1 ∧ i.2.2.length ≤ i.1 ∧ LX σ b s i.1 i.2.1 i.2.2 σ' ∧ (∃ k, (s.drop i.1).length < k ∧ lexF k (s.drop i.1) i.1 i.2.1 i.2.2 = R) ∧ (a 0 = .str s ∧ a 5 = .ptr b 0))
  (fun i => s.length - i.1) (0, 0, []) ⟨Nat.zero_le _, Nat.le_refl _, Nat.le_refl _, h0, ⟨s.length + 1, by simp, hR⟩, ?_⟩ ?_
 ·simp (disch := first | assumption | omega) only [go_sem, reduceCtorEq, ↓reduceIte]
 rintro ⟨p, c, ts⟩ a σ1 ⟨hp, hc, ht, hL, ⟨k, hk, hlex⟩, hf⟩
 dsimp only at hp hc ht hL hk hlex hf
 have hB : Bnd s p c ts := ⟨hs, hp, hc, by omega⟩
 have hU1 := After.u8 hU hb hL
 obtain ⟨kk, hg, hcell⟩ := hL.cell
 cases k with
 | zero => omega
 | succ k =>
 rw [List.length_drop] at hk
 by_cases hlt : p < s.length
 ·have hne : s.drop p ≠ [] := by
   intro h
   have := congrArg List.length h
   simp at this
   omega
  have hlt' : (p : Int) < s.length := by omega
  have hfit := stepP_fits _ hne
  have hnx := tnext_ok hU1 hL hB hlt
  rw [lexF, if_neg hne] at hlex
  obtain ⟨st, hst⟩ : ∃ st, stepP (s.drop p) = st := ⟨_, rfl⟩
  rw [hst] at hlex hfit hnx
  rw [List.length_drop] at hfit
  simp (disch := first | assumption | omega) only [go_sem, reduceCtorEq, Nat.reduceEqDiff, ↓reduceIte, hf, hcell, hlt']
  refine hnx.mono ?_
  intro v σ' hA
  cases st with
  | bad j =>
    obtain ⟨rfl, c', hL2⟩ := hA
    obtain ⟨k2, hg2, hcell2⟩ := hL2.cell
    dsimp only at hlex
    subst hlex
    simp (disch := first | assumption | omega) only [go_sem, Nat.reduceEqDiff, Int.reduceEq, ↓reduceIte, hf, hcell2]
    exact retC_by (Drop.trans hg2.drop (Drop.set hb)) (.tuple (.cons (.sl _ _) (.cons (.refl _) (.cons (.refl _) .nil)))) ⟨rfl, rfl⟩
  | blank =>
    obtain ⟨rfl, hL2⟩ := hA
    dsimp only at hlex
    rw [List.drop_drop] at hlex
    simp (disch := first | assumption | omega) only [go_sem, reduceCtorEq, Nat.reduceEqDiff, ↓reduceIte, hf]
    exact ⟨(p + 1, c + 1, ts), by dsimp only; omega, by dsimp only; omega, by dsimp only; omega, by dsimp only; omega, hL2, ⟨k, by simp; omega, hlex⟩⟩
  | tok kd t n =>
    obtain ⟨rfl, hL2⟩ := hA
    dsimp only at hlex
    rw [List.drop_drop] at hlex
    obtain ⟨g1, g2⟩ := hfit.2 kd t n rfl
    have hsn := signsN_le ((s.drop p).take n)
    rw [take_len (by omega)] at hsn
    simp (disch := first | assumption | omega) only [go_sem, reduceCtorEq, Nat.reduceEqDiff, ↓reduceIte, hf]
    exact ⟨(p + n, c + signsN ((s.drop p).take n), ts ++ [⟨kd, t, p, c⟩]), by dsimp only; omega, by dsimp only; omega, by dsimp only; omega, by simp; omega, hL2, ⟨k, by simp; omega, hlex⟩⟩
 ·have hlt' : ¬ (p : Int) < s.length := by omega
  have hpe : s.drop p = [] := List.drop_eq_nil_of_le (by omega)
  rw [lexF, hpe, if_pos rfl] at hlex
  subst hlex
  simp (disch := first | assumption | omega) only [go_sem, reduceCtorEq, Nat.reduceEqDiff, ↓reduceIte, hf, hcell, hlt']
  rw [hF]
  simp (disch := first | assumption | omega) only [go_sem, Nat.reduceEqDiff, ↓reduceIte, hf]
  refine (put_ok hL hB 0 [] 0 (by omega)).mono ?_
  rintro v σ' ⟨rfl, hL2⟩
  obtain ⟨k2, hg2, hcell2⟩ := hL2.cell
  have hz : signsN ((s.drop p).take 0) = 0 := by rw [List.take_zero]; rfl
  simp (disch := first | assumption | omega) only [go_sem, Nat.reduceEqDiff, ↓reduceIte, hf, hcell2]
  exact retC_by (Drop.trans hg2.drop (Drop.set hb)) (.tuple (.cons (.sl _ _) (.cons (.refl _) (.cons (.refl _) .nil)))) ⟨rfl, rfl⟩
end Go.A
namespace Go.A
open Go.Proofs
/-! 33: (*tabular/parse.parser).cur -/
def c33_9 : ACode := .seq (.ops [ oe 2 (.alloc [(.int .i64 0), (.str []), (.int .i64 0), (.int .i64 0)])]) (.seq (.seq (.ops [ oq 3 (.mv (.t 0)), oq 4 (.nc (.t 3)), oq 5 (.fa 3 (.t 4)), oq 6 (.ld none (.t 5)), oq 7 (.bin .neq (.t 6) (.v (.int .i64 0)))]) (.cond (.t 7) (.seq (.ops [ oq 8 (.build [(.int .i64 0), (.str []), (.int .i64 0), (.int .i64 0)] []), oz (.store 4 (.t 2) (.t 8))]) .ret) .skip)) (.seq (.ops [ oq 9 (.mv (.t 0)), oq 10 (.nc (.t 9)), oq 11 (.fa 0 (.t 10)), oq 12 (.ld none (.t 11)), oq 13 (.mv (.t 0)), oq 14 (.nc (.t 13)), oq 15 (.fa 1 (.t 14)), oq 16 (.ld none (.t 15)), oq 17 (.ia 4 (.t 12) (.t 16)), oq 18 (.ld (some 4) (.t 17)), oz (.store 4 (.t 2) (.t 18))]) .ret))
@[go_sem] def c33_9_wp := wp_of c33_9.eq_1
def c33 : AFn := ⟨19, [.c 2 (some 4)], c33_9⟩
theorem c33_ok : compF Tryz.prog Tryz.f33 = some c33 := by kernel_rfl
theorem a33 {args : List AV} {σ : ASt} {R : AV → ASt → Prop} (hl : args.length ≤ 19) (h : c33_9.wp Tryz.prog (RetQ [.c 2 (some 4)] R) (init args) σ) : ACalls Tryz.prog 33 args σ R := acalls_of Tryz.func33 c33_ok hl h
/-! 34: (*tabular/parse.parser).fail -/
def c34_8 : ACode := .seq (.ops [ oe 4 (.alloc [(.int .i64 0), (.int .i64 0), (.str []), (.int .i64 0), (.int .i64 0), (.bool false), (.bool false), (.int .i64 0), (.int .i64 0), (.bool false), (.bool false), (.sl .full [])])]) (.seq (.seq (.ops [ oq 5 (.mv (.t 0)), oq 6 (.nc (.t 5)), oq 7 (.fa 3 (.t 6)), oq 8 (.ld none (.t 7)), oq 9 (.bin .eql (.t 8) (.v (.int .i64 0)))]) (.cond (.t 9) (.ops [ oq 10 (.mv (.t 0)), oq 11 (.mv (.t 0)), oq 12 (.mv (.t 1)), oq 13 (.mv (.t 0)), oq 14 (.nc (.t 13)), oq 15 (.fa 0 (.t 14)), oq 16 (.ld none (.t 15)), oq 17 (.mv (.t 0)), oq 18 (.nc (.t 17)), oq 19 (.fa 1 (.t 18)), oq 20 (.ld none (.t 19)), oq 21 (.ia 4 (.t 16) (.t 20)), oq 22 (.fa 2 (.t 21)), oq 23 (.ld none (.t 22)), oq 24 (.nc (.t 10)), oq 25 (.fa 3 (.t 24)), oz (.store 1 (.t 25) (.t 12)), oq 26 (.nc (.t 11)), oq 27 (.fa 4 (.t 26)), oz (.store 1 (.t 27) (.t 23))]) .skip)) (.seq (.ops [ oq 28 (.build [(.int .i64 0), (.int .i64 0), (.str []), (.int .i64 0), (.int .i64 0), (.bool false), (.bool false), (.int .i64 0), (.int .i64 0), (.bool false), (.bool false), (.sl .full [])] []), oz (.store 12 (.t 4) (.t 28))]) .ret))
@[go_sem] def c34_8_wp := wp_of c34_8.eq_1
def c34 : AFn := ⟨29, [.c 4 (some 12)], c34_8⟩
theorem c34_ok : compF Tryz.prog Tryz.f34 = some c34 := by kernel_rfl
theorem a34 {args : List AV} {σ : ASt} {R : AV → ASt → Prop} (hl : args.length ≤ 29) (h : c34_8.wp Tryz.prog (RetQ [.c 4 (some 12)] R) (init args) σ) : ACalls Tryz.prog 34 args σ R := acalls_of Tryz.func34 c34_ok hl h
/-! 69: slices.Contains[[]string,string] -/
def c69_3 : ACode := .seq (.ops [ oq 4 (.mv (.v (.bool false)))]) (.seq (.ops [ oq 5 (.mv (.t 0)), oq 6 (.mv (.t 1)), oe 7 (.call 70 [(.t 5), (.t 6)]), oq 8 (.bin .geq (.t 7) (.v (.int .i64 0))), oq 4 (.mv (.t 8))]) .ret)
@[go_sem] def c69_3_wp := wp_of c69_3.eq_1
def c69 : AFn := ⟨9, [.t 4], c69_3⟩
theorem c69_ok : compF Tryz.prog Tryz.f69 = some c69 := by kernel_rfl
theorem a69 {args : List AV} {σ : ASt} {R : AV → ASt → Prop} (hl : args.length ≤ 9) (h : c69_3.wp Tryz.prog (RetQ [.t 4] R) (init args) σ) : ACalls Tryz.prog 69 args σ R := acalls_of Tryz.func69 c69_ok hl h
/-! 70: slices.Index[[]string,string] -/
def c70_15 : ACode := .seq (.ops [ oq 9 (.bin .lss (.t 8) (.t 7))]) (.seq (.cond (.t 9) .skip (.exit 0)) (.seq (.block 1 (.seq (.ops [ oq 10 (.mv (.t 8)), oq 5 (.mv (.t 10))]) (.seq (.ops [ oq 11 (.mv (.t 1)), oq 12 (.mv (.t 0)), oq 13 (.mv (.t 5)), oq 14 (.ia 1 (.t 12) (.t 13)), oq 15 (.ld none (.t 14)), oq 16 (.bin .eql (.t 11) (.t 15))]) (.cond (.t 16) (.seq (.ops [ oq 17 (.mv (.t 5)), oq 4 (.mv (.t 17))]) .ret) .skip)))) (.ops [ oq 18 (.bin .add (.t 8) (.v (.int .i64 1))), oq 8 (.mv (.t 18))])))
def c70_22 : ACode := .seq (.ops [ oq 4 (.mv (.v (.int .i64 0)))]) (.seq (.seq (.ops [ oq 6 (.mv (.t 0)), oq 7 (.len (.t 6)), oq 8 (.mv (.v (.int .i64 0)))]) (.block 0 (.loop c70_15))) (.seq (.ops [ oq 4 (.mv (.v (.int .i64 (-1))))]) .ret))
@[go_sem] def c70_15_wp := wp_of c70_15.eq_1
@[go_sem] def c70_22_wp := wp_of c70_22.eq_1
def c70 : AFn := ⟨19, [.t 4], c70_22⟩
theorem c70_ok : compF Tryz.prog Tryz.f70 = some c70 := by kernel_rfl
theorem a70 {args : List AV} {σ : ASt} {R : AV → ASt → Prop} (hl : args.length ≤ 19) (h : c70_22.wp Tryz.prog (RetQ [.t 4] R) (init args) σ) : ACalls Tryz.prog 70 args σ R := acalls_of Tryz.func70 c70_ok hl h
/-! 109: (*tabular/parse.parser).at -/
def c109_5 : ACode := .seq (.ops [ oq 4 (.mv (.v (.bool false)))]) (.seq (.ops [ oq 6 (.mv (.t 0)), oe 7 (.call 33 [(.t 6)]), oe 5 (.alloc [(.int .i64 0), (.str []), (.int .i64 0), (.int .i64 0)]), oz (.store 4 (.t 5) (.t 7))]) (.seq (.ops [ oq 8 (.fa 0 (.t 5)), oq 9 (.ld none (.t 8)), oq 10 (.bin .eql (.t 9) (.v (.int .i64 6))), oq 11 (.mv (.t 10)), ⟨some 12, some (11, true), .q (.fa 1 (.t 5)), []⟩, ⟨some 13, some (11, true), .q (.ld none (.t 12)), []⟩, ⟨some 14, some (11, true), .q (.mv (.t 1)), []⟩, ⟨some 15, some (11, true), .q (.bin .eql (.t 13) (.t 14)), []⟩, oq 16 (.pick (.t 11) (.t 15) (.v (.bool false))), oq 4 (.mv (.t 16))]) .ret))
@[go_sem] def c109_5_wp := wp_of c109_5.eq_1
def c109 : AFn := ⟨17, [.t 4], c109_5⟩
theorem c109_ok : compF Tryz.prog Tryz.f109 = some c109 := by kernel_rfl
theorem a109 {args : List AV} {σ : ASt} {R : AV → ASt → Prop} (hl : args.length ≤ 17) (h : c109_5.wp Tryz.prog (RetQ [.t 4] R) (init args) σ) : ACalls Tryz.prog 109 args σ R := acalls_of Tryz.func109 c109_ok hl h
/-! 111: (*tabular/parse.parser).enter -/
def c111_5 : ACode := .seq (.ops [ oq 2 (.mv (.t 0)), oq 3 (.nc (.t 2)), oq 4 (.fa 2 (.t 3)), oq 5 (.ld none (.t 4)), oq 6 (.bin .add (.t 5) (.v (.int .i64 1))), oq 7 (.nc (.t 2)), oq 8 (.fa 2 (.t 7)), oz (.store 1 (.t 8) (.t 6))]) (.seq (.ops [ oq 9 (.mv (.t 0)), oq 10 (.nc (.t 9)), oq 11 (.fa 2 (.t 10)), oq 12 (.ld none (.t 11)), oq 13 (.bin .gtr (.t 12) (.v (.int .i64 40)))]) (.cond (.t 13) (.ops [ oq 14 (.mv (.t 0)), oe 15 (.call 34 [(.t 14), (.v (.int .i64 12))])]) .skip))
@[go_sem] def c111_5_wp := wp_of c111_5.eq_1
def c111 : AFn := ⟨16, [], c111_5⟩
theorem c111_ok : compF Tryz.prog Tryz.f111 = some c111 := by kernel_rfl
theorem a111 {args : List AV} {σ : ASt} {R : AV → ASt → Prop} (hl : args.length ≤ 16) (h : c111_5.wp Tryz.prog (RetQ [] R) (init args) σ) : ACalls Tryz.prog 111 args σ R := acalls_of Tryz.func111 c111_ok hl h
/-! 112: (*tabular/parse.parser).leave -/
def c112_0 : ACode := .ops [ oq 2 (.mv (.t 0)), oq 3 (.nc (.t 2)), oq 4 (.fa 2 (.t 3)), oq 5 (.ld none (.t 4)), oq 6 (.bin .sub (.t 5) (.v (.int .i64 1))), oq 7 (.nc (.t 2)), oq 8 (.fa 2 (.t 7)), oz (.store 1 (.t 8) (.t 6))]
@[go_sem] def c112_0_wp := wp_of c112_0.eq_1
def c112 : AFn := ⟨9, [], c112_0⟩
theorem c112_ok : compF Tryz.prog Tryz.f112 = some c112 := by kernel_rfl
theorem d112 {args : List AV} {σ : ASt} {R : AV → ASt → Prop} (hl : args.length ≤ 9) (h : c112_0.wp Tryz.prog (fun _ _ σ' => R (.tuple []) σ') (init args) σ) : ADefer Tryz.prog 112 args σ R := adefer_of (R := R) Tryz.func112 c112_ok (by kernel_rfl) rfl rfl hl h
/-! 140: (*tabular/parse.parser).accept -/
def c140_11 : ACode := .seq (.ops [ oq 4 (.mv (.v (.bool false)))]) (.seq (.seq (.ops [ oq 5 (.mv (.t 0)), oq 6 (.mv (.t 1)), oe 7 (.call 109 [(.t 5), (.t 6)]), oq 8 (.un .not (.t 7))]) (.cond (.t 8) (.seq (.ops [ oq 4 (.mv (.v (.bool false)))]) .ret) .skip)) (.seq (.ops [ oq 9 (.mv (.t 0)), oq 10 (.nc (.t 9)), oq 11 (.fa 1 (.t 10)), oq 12 (.ld none (.t 11)), oq 13 (.bin .add (.t 12) (.v (.int .i64 1))), oq 14 (.nc (.t 9)), oq 15 (.fa 1 (.t 14)), oz (.store 1 (.t 15) (.t 13))]) (.seq (.ops [ oq 4 (.mv (.v (.bool true)))]) .ret)))
@[go_sem] def c140_11_wp := wp_of c140_11.eq_1
def c140 : AFn := ⟨16, [.t 4], c140_11⟩
theorem c140_ok : compF Tryz.prog Tryz.f140 = some c140 := by kernel_rfl
theorem a140 {args : List AV} {σ : ASt} {R : AV → ASt → Prop} (hl : args.length ≤ 16) (h : c140_11.wp Tryz.prog (RetQ [.t 4] R) (init args) σ) : ACalls Tryz.prog 140 args σ R := acalls_of Tryz.func140 c140_ok hl h
/-! 160: (*tabular/parse.parser).must -/
def c160_3 : ACode := .seq (.ops [ oq 4 (.mv (.t 0)), oq 5 (.mv (.t 1)), oe 6 (.call 140 [(.t 4), (.t 5)]), oq 7 (.un .not (.t 6))]) (.cond (.t 7) (.ops [ oq 8 (.mv (.t 0)), oe 9 (.call 34 [(.t 8), (.v (.int .i64 10))])]) .skip)
@[go_sem] def c160_3_wp := wp_of c160_3.eq_1
def c160 : AFn := ⟨10, [], c160_3⟩
theorem c160_ok : compF Tryz.prog Tryz.f160 = some c160 := by kernel_rfl
theorem a160 {args : List AV} {σ : ASt} {R : AV → ASt → Prop} (hl : args.length ≤ 10) (h : c160_3.wp Tryz.prog (RetQ [] R) (init args) σ) : ACalls Tryz.prog 160 args σ R := acalls_of Tryz.func160 c160_ok hl h
/-! 175: tabular/parse.ref -/
def c175_5 : ACode := .seq (.ops [ oe 1 (.box (.t 0)), oe 2 (.alloc [(.int .i64 0), (.int .i64 0), (.bool false), (.bool false)])]) (.seq (.ops [ oq 6 (.fa 1 (.t 1)), oq 7 (.ld none (.t 6)), oe 8 (.call 155 [(.t 7)]), oq 5 (.mv (.t 8)), oq 9 (.ext 0 (.t 5)), oq 10 (.ext 1 (.t 5)), oe 3 (.alloc [(.int .i64 0), (.int .i64 0), (.bool false), (.bool false)]), oz (.store 4 (.t 3) (.t 9)), oq 4 (.mv (.t 10))]) (.seq (.ops [ oq 11 (.ld (some 4) (.t 3)), oz (.store 4 (.t 2) (.t 11))]) .ret))
@[go_sem] def c175_5_wp := wp_of c175_5.eq_1
def c175 : AFn := ⟨12, [.c 2 (some 4)], c175_5⟩
theorem c175_ok : compF Tryz.prog Tryz.f175 = some c175 := by kernel_rfl
theorem a175 {args : List AV} {σ : ASt} {R : AV → ASt → Prop} (hl : args.length ≤ 12) (h : c175_5.wp Tryz.prog (RetQ [.c 2 (some 4)] R) (init args) σ) : ACalls Tryz.prog 175 args σ R := acalls_of Tryz.func175 c175_ok hl h
end Go.A
namespace Go.A
open Go.Proofs Go.Lib
def pr (T : List Tok) (s : PSt) : Option Role := some (.obj [.sl .shr (T.map tokAV), .int .i64 s.i, .int .i64 s.deep, .int .i64 s.err, .int .i64 s.bad])
theorem set_self0 {σ : ASt} {b : Nat} {r : Option Role} (h : σ b = r) : σ.set b r = σ := by
 funext x
 simp only [ASt.set]
 split
 ·rename_i hx; rw [hx, h]
 ·rfl
theorem tok_get {T : List Tok} {i : Nat} (h : i < T.length) : (T.map tokAV)[i]? = some (tokAV (T.getD i endT)) := by
 rw [List.getElem?_map, List.getD_eq_getElem?_getD, List.getElem?_eq_getElem h]
 rfl
theorem pcur_ok {T : List Tok} {s : PSt} (hi : s.i < T.length) {σ : ASt} {b : Nat} (hb : σ b = pr T s) : ACalls Tryz.prog 33 [.ptr b 0] σ fun v σ' => v = tokAV (curT T s) ∧ σ' = σ := by
 unfold curT
 unfold pr at hb
 have ht := tok_get hi
 have hlen : (T.map tokAV).length = T.length := by simp
 have hi' : (s.i : Int) < T.length := by omega
 generalize T.getD s.i endT = t at *
 generalize T.map tokAV = TL at *
 obtain ⟨kd, tx, at', col⟩ := t
 unfold tokAV at ht
 dsimp only at ht
 refine a33 (by simp) ?_
 simp (disch := first | assumption | omega) only [go_sem]
 refine allocC_by fun d hd => ?_
 have hbd : b ≠ d := by rintro rfl; rw [hb] at hd; cases hd
 by_cases he : s.err = 0
 ·rw [if_neg (by simp [he])]
  simp (disch := first | assumption | omega) only [go_sem, reduceCtorEq, Nat.reduceEqDiff, Nat.reduceAdd, Nat.reduceLeDiff, ↓reduceIte, Bool.true_and, hb, he, ht, ASt.set_set]
  exact retC_by (Drop.set hd) (.refl _) ⟨rfl, rfl⟩
 ·rw [if_pos he]
  simp (disch := first | assumption | omega) only [go_sem, reduceCtorEq, Nat.reduceEqDiff, Nat.reduceAdd, Nat.reduceLeDiff, ↓reduceIte, Bool.true_and, hb, he, ASt.set_set]
  exact retC_by (Drop.set hd) (.refl _) ⟨rfl, rfl⟩
theorem pfail_ok {T : List Tok} {s : PSt} (hi : s.i < T.length) (e : Int) {σ : ASt} {b : Nat} (hb : σ b = pr T s) : ACalls Tryz.prog 34 [.ptr b 0, .int .i64 e] σ fun v σ' => v = zN.av ∧ σ' = σ.set b (pr T (failP T s e)) := by
 have ht := tok_get hi
 have hlen : (T.map tokAV).length = T.length := by simp
 have hi' : (s.i : Int) < T.length := by omega
 have hfl : ∀ x : PSt, x.err = 0 → failP T x e = ⟨x.i, x.deep, e, ((T.getD x.i endT).at' : Nat)⟩ := fun x hx => by unfold failP; rw [if_pos hx]
 have hfn : s.err ≠ 0 → failP T s e = s := fun hx => by unfold failP; rw [if_neg hx]
 have hfl := hfl s
 generalize T.getD s.i endT = t at *
 have hz : zN.av = .agg [.int .i64 0, .int .i64 0, .str [], .int .i64 0, .int .i64 0, .bool false, .bool false, .int .i64 0, .int .i64 0, .bool false, .bool false, .sl .shr []] := rfl
 rw [hz]
 have hdz : ∀ σ σ' : ASt, Fz σ σ' (resV [.agg [.int .i64 0, .int .i64 0, .str [], .int .i64 0, .int .i64 0, .bool false, .bool false, .int .i64 0, .int .i64 0, .bool false, .bool false, .sl .full []]]) (.agg [.int .i64 0, .int .i64 0, .str [], .int .i64 0, .int .i64 0, .bool false, .bool false, .int .i64 0, .int .i64 0, .bool false, .bool false, .sl .shr []]) := fun σ σ' => Fz.agg (.cons (.refl _) (.cons (.refl _) (.cons (.refl _) (.cons (.refl _) (.cons (.refl _) (.cons (.refl _) (.cons (.refl _) (.cons (.refl _) (.cons (.refl _) (.cons (.refl _) (.cons (.refl _) (.cons (.sl _ _) .nil))))))))))))
 refine a34 (by simp) ?_
 by_cases he : s.err = 0
 ·rw [hfl he]
  obtain ⟨si, sd, se, sb⟩ := s
  dsimp only at he ht hi' hb hlen
  subst he
  obtain ⟨kd, tx, at', col⟩ := t
  unfold pr at hb ⊢
  dsimp only at hb ⊢
  generalize T.map tokAV = TL at *
  unfold tokAV at ht
  dsimp only at ht
  simp (disch := first | assumption | omega) only [go_sem]
  refine allocC_by fun d hd => ?_
  have hbd : b ≠ d := by rintro rfl; rw [hb] at hd; cases hd
  have hsw : ∀ (X Y Z : Option Role), ((σ.set d X).set b Y).set d Z = (σ.set b Y).set d Z := fun X Y Z => by rw [set_swap (Ne.symm hbd), ASt.set_set]
  have hdr : ∀ X Y : Option Role, ((σ.set d X).set b Y) d = X := fun X Y => by rw [ASt.set_ne (Ne.symm hbd), ASt.set_same]
  have hdd : ∀ X Y : Option Role, Drop ((σ.set b X).set d Y) (σ.set b X) := fun X Y => Drop.set (by rw [ASt.set_ne (Ne.symm hbd)]; exact hd)
  simp (disch := first | assumption | omega) only [go_sem, reduceCtorEq, Nat.reduceEqDiff, Nat.reduceAdd, Nat.reduceLeDiff, ↓reduceIte, Bool.true_and, hb, ht, ASt.set_set, hdr, hsw]
  exact retC_by (hdd _ _) (hdz _ _) ⟨rfl, rfl⟩
 ·rw [hfn he, set_self0 hb]
  unfold pr at hb
  generalize T.map tokAV = TL at *
  simp (disch := first | assumption | omega) only [go_sem]
  refine allocC_by fun d hd => ?_
  have hbd : b ≠ d := by rintro rfl; rw [hb] at hd; cases hd
  simp (disch := first | assumption | omega) only [go_sem, reduceCtorEq, Nat.reduceEqDiff, Nat.reduceAdd, Nat.reduceLeDiff, ↓reduceIte, Bool.true_and, hb, he, ASt.set_set]
  exact retC_by (Drop.set hd) (hdz _ _) ⟨rfl, rfl⟩
theorem pat_ok {T : List Tok} {s : PSt} (hi : s.i < T.length) (x : List UInt8) {σ : ASt} {b : Nat} (hb : σ b = pr T s) : ACalls Tryz.prog 109 [.ptr b 0, .str x] σ fun v σ' => v = .bool (isOp T s x) ∧ σ' = σ := by
 have hc := pcur_ok hi hb
 unfold isOp
 generalize curT T s = t at *
 obtain ⟨kd, tx, at', col⟩ := t
 unfold tokAV at hc
 dsimp only at hc ⊢
 refine a109 (by simp) ?_
 simp (disch := first | assumption | omega) only [go_sem, reduceCtorEq, ↓reduceIte]
 refine hc.mono ?_
 rintro v σ' ⟨rfl, rfl⟩
 simp (disch := first | assumption | omega) only [go_sem]
 refine allocC_by fun d hd => ?_
 by_cases hk : kd = 6
 ·simp (disch := first | assumption | omega) only [go_sem, Nat.reduceEqDiff, Nat.reduceAdd, Nat.reduceLeDiff, ↓reduceIte, Bool.true_and, hk, ASt.set_set]
  exact retC_by (Drop.set hd) (.refl _) ⟨by simp [resV_one], rfl⟩
 ·simp (disch := first | assumption | omega) only [go_sem, Nat.reduceEqDiff, Nat.reduceAdd, Nat.reduceLeDiff, ↓reduceIte, Bool.true_and, Bool.false_and, hk, ASt.set_set]
  exact retC_by (Drop.set hd) (.refl _) ⟨by simp [resV_one], rfl⟩
theorem paccept_ok {T : List Tok} {s : PSt} (hT : Ends T) (hf : Fit T s) (hn : T.length ≤ 1000000) (x : List UInt8) {σ : ASt} {b : Nat} (hb : σ b = pr T s) :
  ACalls Tryz.prog 140 [.ptr b 0, .str x] σ fun v σ' => v = .bool (isOp T s x) ∧ σ' = if isOp T s x = true then σ.set b (pr T s.next) else σ := by
 have hc := pat_ok hf.i x hb
 have hil := hf.i
 refine a140 (by simp) ?_
 simp (disch := first | assumption | omega) only [go_sem, reduceCtorEq, Nat.reduceEqDiff, ↓reduceIte]
 refine hc.mono ?_
 rintro v σ' ⟨rfl, rfl⟩
 cases isOp T s x with
 | true =>
   unfold pr at hb
   simp (disch := first | assumption | omega) only [go_sem, reduceCtorEq, Nat.reduceEqDiff, Nat.reduceAdd, Nat.reduceLeDiff, ↓reduceIte, Bool.true_and, hb]
   exact retC_by (Drop.refl _) (.refl _) ⟨rfl, rfl⟩
 | false =>
   simp (disch := first | assumption | omega) only [go_sem, ↓reduceIte]
   exact retC_by (Drop.refl _) (.refl _) ⟨rfl, rfl⟩
theorem pmust_ok {T : List Tok} {s : PSt} (hT : Ends T) (hf : Fit T s) (hn : T.length ≤ 1000000) (x : List UInt8) {σ : ASt} {b : Nat} (hb : σ b = pr T s) :
  ACalls Tryz.prog 160 [.ptr b 0, .str x] σ fun v σ' => v = .tuple [] ∧ σ' = σ.set b (pr T (mustP T s x)) := by
 have hc := paccept_ok hT hf hn x hb
 have hF := pfail_ok hf.i 10 hb
 unfold mustP
 refine a160 (by simp) ?_
 simp (disch := first | assumption | omega) only [go_sem, Nat.reduceEqDiff, ↓reduceIte]
 refine hc.mono ?_
 rintro v σ' ⟨rfl, rfl⟩
 cases isOp T s x with
 | true =>
   rw [if_pos rfl, if_pos rfl]
   simp (disch := first | assumption | omega) only [go_sem, ↓reduceIte]
   exact retC_by (Drop.refl _) (.refl _) ⟨rfl, rfl⟩
 | false =>
   rw [if_neg (by simp), if_neg (by simp)]
   simp (disch := first | assumption | omega) only [go_sem, reduceCtorEq, ↓reduceIte]
   refine hF.mono ?_
   rintro v σ' ⟨rfl, rfl⟩
   simp (disch := first | assumption | omega) only [go_sem]
   exact retC_by (Drop.refl _) (.refl _) ⟨rfl, rfl⟩
theorem penter_ok {T : List Tok} {s : PSt} (hi : s.i < T.length) (hd : 0 ≤ s.deep ∧ s.deep ≤ 100) {σ : ASt} {b : Nat} (hb : σ b = pr T s) :
  ACalls Tryz.prog 111 [.ptr b 0] σ fun v σ' => v = .tuple [] ∧ σ' = σ.set b (pr T (enterP T s)) := by
 have hF := fun τ h => pfail_ok (T := T) (s := { s with deep := s.deep + 1 }) hi 12 (σ := τ) (b := b) h
 have hb' := hb
 unfold pr at hb
 refine a111 (by simp) ?_
 unfold enterP
 by_cases h40 : 40 < s.deep + 1
 ·rw [if_pos h40]
  simp (disch := first | assumption | omega) only [go_sem, reduceCtorEq, Nat.reduceEqDiff, Nat.reduceAdd, Nat.reduceLeDiff, ↓reduceIte, Bool.true_and, hb, h40]
  refine (hF _ (ASt.set_same _ _ _)).mono ?_
  rintro v σ' ⟨rfl, rfl⟩
  rw [ASt.set_set]
  simp (disch := first | assumption | omega) only [go_sem]
  exact retC_by (Drop.refl _) (.refl _) ⟨rfl, rfl⟩
 ·rw [if_neg h40]
  simp (disch := first | assumption | omega) only [go_sem, reduceCtorEq, Nat.reduceEqDiff, Nat.reduceAdd, Nat.reduceLeDiff, ↓reduceIte, Bool.true_and, hb, h40]
  exact retC_by (Drop.refl _) (.refl _) ⟨rfl, rfl⟩
theorem pleave_ok {T : List Tok} {s : PSt} (hd : 0 ≤ s.deep ∧ s.deep ≤ 100) {σ : ASt} {b : Nat} (hb : σ b = pr T s) :
  ADefer Tryz.prog 112 [.ptr b 0] σ fun v σ' => v = .tuple [] ∧ σ' = σ.set b (pr T (leaveP s)) := by
 unfold pr at hb
 refine d112 (by simp) ?_
 simp (disch := first | assumption | omega) only [go_sem, Nat.reduceEqDiff, Nat.reduceAdd, Nat.reduceLeDiff, ↓reduceIte, Bool.true_and, hb]
 exact rfl
theorem pref_ok (t : Tok) (ht : t.text.length ≤ 1000000) : Pure Tryz.prog 175 [tokAV t] (refAV (refT t)) := by
 intro σ
 have hP := parse_ok t.text (by omega)
 unfold refT
 generalize parseP t.text = R at *
 obtain ⟨⟨row, col, ar, ac⟩, ok⟩ := R
 obtain ⟨kd, tx, at', col⟩ := t
 unfold tokAV refAV at *
 dsimp only at *
 refine a175 (by simp) ?_
 simp (disch := first | assumption | omega) only [go_sem]
 refine boxC_by rfl fun c hc => ?_
 simp (disch := first | assumption | omega) only [go_sem]
 refine allocC_by fun d hd => ?_
 have hcd : c ≠ d := by rintro rfl; rw [ASt.set_same] at hd; cases hd
 have hd0 := (Drop.set hc).nil hd
 simp (disch := first | assumption | omega) only [go_sem, Nat.reduceEqDiff, ↓reduceIte]
 refine hP.use ?_
 simp (disch := first | assumption | omega) only [go_sem, Nat.reduceEqDiff, ↓reduceIte]
 refine allocC_by fun e he => ?_
 have hde : d ≠ e := by rintro rfl; rw [ASt.set_same] at he; cases he
 have he1 := he
 rw [ASt.set_ne (Ne.symm hde)] at he1
 have hsw : ∀ (ρ : ASt) (X Y Z : Option Role), ((ρ.set d X).set e Y).set d Z = (ρ.set d Z).set e Y := fun ρ X Y Z => set_mid hde
 have hdr : ∀ (ρ : ASt) (X Y : Option Role), ((ρ.set d X).set e Y) d = X := fun ρ X Y => by rw [ASt.set_ne hde, ASt.set_same]
 have hD : ∀ X Y Z : Option Role, Drop (((σ.set c X).set d Y).set e Z) σ := fun X Y Z => by
  have h1 : c ≠ e := by rintro rfl; rw [ASt.set_same] at he1; cases he1
  have h2 : σ e = none := by rw [ASt.set_ne (Ne.symm h1)] at he1; exact he1
  exact ((Drop.set hc).off hd0).off h2
 simp (disch := first | assumption | omega) only [go_sem, Nat.reduceEqDiff, Nat.reduceAdd, Nat.reduceLeDiff, ↓reduceIte, Bool.true_and, hsw, hdr, ASt.set_set]
 exact retC_by (hD _ _ _) (.refl _) ⟨rfl, rfl⟩
theorem strindex_ok (l : List (List UInt8)) (x : List UInt8) (hl : l.length ≤ 1000000) : Pure Tryz.prog 70 [.sl .shr (l.map AV.str), .str x] (.int .i64 (idxP l x)) := by
 intro σ
 obtain ⟨q, hq⟩ : ∃ q, idxP l x = q := ⟨_, rfl⟩
 rw [hq]
 unfold idxP at hq
 have hlen : (l.map AV.str).length = l.length := by simp
 refine a70 (by simp) ?_
 simp (disch := first | assumption | omega) only [go_sem, reduceCtorEq, ↓reduceIte]
 refine wp_loop_on (fun (i : Nat) a1 s2 => (i ≤ l.length ∧ idxS x (l.drop i) i = q) ∧ (a1 0 = .sl .shr (l.map AV.str) ∧ a1 1 = .str x ∧ a1 7 = .int .i64 l.length ∧ a1 8 = .int .i64 i) ∧ s2 = σ) (fun i => l.length - i) 0 ⟨⟨Nat.zero_le _, by rw [List.drop_zero]; exact hq⟩, ?_, rfl⟩ ?_
 ·simp (disch := first | assumption | omega) only [go_sem, reduceCtorEq, Nat.reduceEqDiff, ↓reduceIte]
 rintro i a1 s2 ⟨⟨hi, hqi⟩, hf, rfl⟩
 by_cases hlt : i < l.length
 ·have hlt' : (i : Int) < l.length := by omega
  have hx : l[i]? = some (l[i]'hlt) := List.getElem?_eq_getElem hlt
  rw [List.drop_eq_getElem_cons hlt, idxS] at hqi
  obtain ⟨y, hxe⟩ : ∃ y, l[i]'hlt = y := ⟨_, rfl⟩
  rw [hxe] at hx hqi
  have hmx : (l.map AV.str)[i]? = some (.str y) := by rw [List.getElem?_map, hx]; rfl
  generalize l.map AV.str = XL at *
  by_cases he : x = y
  ·rw [if_pos he] at hqi
   subst he
   simp (disch := first | assumption | omega) only [go_sem, reduceCtorEq, Nat.reduceEqDiff, ↓reduceIte, hf, hlt', hmx, eq_self]
   exact retC_by (Drop.refl _) (.refl _) ⟨by rw [← hqi]; rfl, rfl⟩
  ·rw [if_neg he] at hqi
   simp (disch := first | assumption | omega) only [go_sem, reduceCtorEq, Nat.reduceEqDiff, ↓reduceIte, hf, hlt', hmx, he]
   exact ⟨i + 1, by omega, ⟨by omega, hqi⟩, rfl⟩
 ·have hlt' : ¬ (i : Int) < l.length := by omega
  rw [List.drop_eq_nil_of_le (by omega), idxS] at hqi
  subst hqi
  simp (disch := first | assumption | omega) only [go_sem, ↓reduceIte, Int.reduceNeg, hf, hlt']
  exact retC_by (Drop.refl _) (.refl _) ⟨rfl, rfl⟩
theorem strcontains_ok (l : List (List UInt8)) (x : List UInt8) (hl : l.length ≤ 1000000) : Pure Tryz.prog 69 [.sl .shr (l.map AV.str), .str x] (.bool (decide (x ∈ l))) := by
 intro σ
 have hI := strindex_ok l x hl
 rw [← idxS_mem x l 0]
 unfold idxP at hI
 generalize idxS x l 0 = q at *
 generalize l.map AV.str = XL at *
 refine a69 (by simp) ?_
 simp (disch := first | assumption | omega) only [go_sem, reduceCtorEq, Nat.reduceEqDiff, ↓reduceIte]
 refine hI.use ?_
 simp (disch := first | assumption | omega) only [go_sem, ↓reduceIte]
 exact retC_by (Drop.refl _) (.refl _) ⟨rfl, rfl⟩
end Go.A
namespace Go.A
open Go.Proofs
/-! 32: (*tabular/parse.parser).between -/
def c32_16 : ACode := .seq (.seq (.ops [ oq 17 (.mv (.t 0)), oe 18 (.call 33 [(.t 17)]), oq 19 (.fld 0 none (.t 18)), oq 20 (.bin .eql (.t 19) (.v (.int .i64 6))), oq 21 (.mv (.t 20)), ⟨some 22, some (21, true), .q (.ld none (.v (.ptr 0 0))), []⟩, ⟨some 23, some (21, true), .q (.mv (.t 1)), []⟩, ⟨some 24, some (21, true), .q (.ia 1 (.t 22) (.t 23)), []⟩, ⟨some 25, some (21, true), .q (.ld none (.t 24)), []⟩, ⟨some 26, some (21, true), .q (.mv (.t 0)), []⟩, ⟨some 27, some (21, true), .e (.call 33 [(.t 26)]), [⟨(some (21, true)), .ld none (.v (.ptr 0 0)), 22⟩, ⟨(some (21, true)), .ld none (.t 24), 25⟩]⟩, ⟨some 28, some (21, true), .q (.fld 1 none (.t 27)), []⟩, ⟨some 29, some (21, true), .e (.call 69 [(.t 25), (.t 28)]), []⟩, oq 30 (.pick (.t 21) (.t 29) (.v (.bool false)))]) (.cond (.t 30) .skip (.exit 0))) (.block 1 (.seq (.ops [ oe 31 (.call 71 []), oq 32 (.mv (.t 0)), oe 33 (.call 33 [(.t 32)]), oq 34 (.fld 1 none (.t 33)), oe 35 (.call 70 [(.t 31), (.t 34)]), oq 36 (.bin .add (.v (.int .i64 10)) (.t 35)), oq 6 (.mv (.t 36))]) (.seq (.ops [ oq 37 (.mv (.t 0)), oq 38 (.nc (.t 37)), oq 39 (.fa 1 (.t 38)), oq 40 (.ld none (.t 39)), oq 41 (.bin .add (.t 40) (.v (.int .i64 1))), oq 42 (.nc (.t 37)), oq 43 (.fa 1 (.t 42)), oz (.store 1 (.t 43) (.t 41))]) (.ops [ oq 44 (.mv (.t 6)), oq 45 (.ld (some 12) (.t 5)), oq 46 (.mv (.t 0)), oq 47 (.mv (.t 1)), oq 48 (.bin .add (.t 47) (.v (.int .i64 1))), ⟨some 49, none, .e (.call 32 [(.t 46), (.t 48)]), [⟨none, .ld (some 12) (.t 5), 45⟩]⟩, oq 50 (.bsl 12 [(.t 45), (.t 49)]), oq 51 (.build [(.int .i64 0), (.int .i64 0), (.str []), (.int .i64 0), (.int .i64 0), (.bool false), (.bool false), (.int .i64 0), (.int .i64 0), (.bool false), (.bool false), (.sl .full [])] [(0, 1, (.t 44)), (11, 1, (.t 50))]), oz (.store 12 (.t 5) (.t 51))]))))
def c32_24 : ACode := .seq (.ops [ oe 4 (.alloc [(.int .i64 0), (.int .i64 0), (.str []), (.int .i64 0), (.int .i64 0), (.bool false), (.bool false), (.int .i64 0), (.int .i64 0), (.bool false), (.bool false), (.sl .full [])])]) (.seq (.seq (.ops [ oq 7 (.mv (.t 1)), oq 8 (.ld none (.v (.ptr 0 0))), oq 9 (.len (.t 8)), oq 10 (.bin .eql (.t 7) (.t 9))]) (.cond (.t 10) (.seq (.ops [ oq 11 (.mv (.t 0)), oe 12 (.call 68 [(.t 11)]), oz (.store 12 (.t 4) (.t 12))]) .ret) .skip)) (.seq (.ops [ oq 13 (.mv (.t 0)), oq 14 (.mv (.t 1)), oq 15 (.bin .add (.t 14) (.v (.int .i64 1))), oe 16 (.call 32 [(.t 13), (.t 15)]), oe 5 (.alloc [(.int .i64 0), (.int .i64 0), (.str []), (.int .i64 0), (.int .i64 0), (.bool false), (.bool false), (.int .i64 0), (.int .i64 0), (.bool false), (.bool false), (.sl .full [])]), oz (.store 12 (.t 5) (.t 16))]) (.seq (.block 0 (.loop c32_16)) (.seq (.ops [ oq 52 (.ld (some 12) (.t 5)), oz (.store 12 (.t 4) (.t 52))]) .ret))))
@[go_sem] def c32_16_wp := wp_of c32_16.eq_1
@[go_sem] def c32_24_wp := wp_of c32_24.eq_1
def c32 : AFn := ⟨53, [.c 4 (some 12)], c32_24⟩
theorem c32_ok : compF Tryz.prog Tryz.f32 = some c32 := by kernel_rfl
theorem a32 {args : List AV} {σ : ASt} {R : AV → ASt → Prop} (hl : args.length ≤ 53) (h : c32_24.wp Tryz.prog (RetQ [.c 4 (some 12)] R) (init args) σ) : ACalls Tryz.prog 32 args σ R := acalls_of Tryz.func32 c32_ok hl h
end Go.A
namespace Go.A
open Go.Proofs Go.Lib
structure St2 (σ : ASt) (b d : Nat) (T : Option Role → Option Role → ASt) : Prop where
 ab : ∀ X Y, (σ.set b X).set d Y = T X Y
 ba : ∀ X Y, (σ.set d Y).set b X = T X Y
 one : ∀ Y, σ.set d Y = T (σ b) Y
 a1 : ∀ X Y, T X Y b = X
 a2 : ∀ X Y, T X Y d = Y
 s1 : ∀ X Y X', (T X Y).set b X' = T X' Y
 s2 : ∀ X Y Y', (T X Y).set d Y' = T X Y'
 drop : ∀ X Y, Drop (T X Y) (σ.set b X)
 fix : ∀ X Y x l, σ x = some (.fix l) → T X Y x = some (.fix l)
 other : ∀ X Y x, x ≠ b → x ≠ d → T X Y x = σ x
theorem St2.of {σ : ASt} {b d : Nat} (hd : σ d = none) (hb : ∀ l, σ b ≠ some (.fix l)) (hb0 : σ b ≠ none) : b ≠ d ∧ ∃ T, St2 σ b d T := by
 have n : b ≠ d := by rintro rfl; exact hb0 hd
 refine ⟨n, fun X Y => (σ.set b X).set d Y, fun X Y => rfl, fun X Y => set_swap (Ne.symm n), fun Y => ?_, fun X Y => ?_, fun X Y => ASt.set_same _ _ _, fun X Y X' => ?_, fun X Y Y' => by rw [ASt.set_set], fun X Y => ?_, fun X Y x l h => ?_, fun X Y x h1 h2 => ?_⟩
 ·show σ.set d Y = (σ.set b (σ b)).set d Y
  rw [set_self0 rfl]
 ·show ((σ.set b X).set d Y) b = X
  rw [ASt.set_ne n, ASt.set_same]
 ·show ((σ.set b X).set d Y).set b X' = (σ.set b X').set d Y
  rw [set_swap (Ne.symm n), ASt.set_set]
 ·exact Drop.set (by rw [ASt.set_ne (Ne.symm n)]; exact hd)
 ·show ((σ.set b X).set d Y) x = some (.fix l)
  rw [ASt.set_ne, ASt.set_ne]
  ·exact h
  ·rintro rfl; exact hb l h
  ·rintro rfl; rw [hd] at h; cases h
 ·show ((σ.set b X).set d Y) x = σ x
  rw [ASt.set_ne h2, ASt.set_ne h1]
structure St3 (σ : ASt) (b d e : Nat) (T2 : Option Role → Option Role → ASt) (T : Option Role → Option Role → Option Role → ASt) : Prop where
 ab : ∀ X Y Z, (T2 X Y).set e Z = T X Y Z
 a1 : ∀ X Y Z, T X Y Z b = X
 a2 : ∀ X Y Z, T X Y Z d = Y
 a3 : ∀ X Y Z, T X Y Z e = Z
 s1 : ∀ X Y Z X', (T X Y Z).set b X' = T X' Y Z
 s2 : ∀ X Y Z Y', (T X Y Z).set d Y' = T X Y' Z
 s3 : ∀ X Y Z Z', (T X Y Z).set e Z' = T X Y Z'
 drop : ∀ X Y Z, Drop (T X Y Z) (σ.set b X)
 drop2 : ∀ X Y Z, Drop (T X Y Z) (T2 X Y)
 fix : ∀ X Y Z x l, σ x = some (.fix l) → T X Y Z x = some (.fix l)
 other : ∀ X Y Z x, x ≠ b → x ≠ d → x ≠ e → T X Y Z x = σ x
theorem St3.of {σ : ASt} {b d e : Nat} {T2 : Option Role → Option Role → ASt} (h : St2 σ b d T2) {X0 Y0 : Role} (he : T2 (some X0) (some Y0) e = none) : b ≠ e ∧ d ≠ e ∧ ∃ T, St3 σ b d e T2 T := by
 have nb : b ≠ e := by rintro rfl; rw [h.a1] at he; cases he
 have nd : d ≠ e := by rintro rfl; rw [h.a2] at he; cases he
 have h0 : ∀ X Y, T2 X Y e = none := fun X Y => by rw [h.other _ _ _ (Ne.symm nb) (Ne.symm nd)]; rwa [h.other _ _ _ (Ne.symm nb) (Ne.symm nd)] at he
 refine ⟨nb, nd, fun X Y Z => (T2 X Y).set e Z, fun X Y Z => rfl, fun X Y Z => ?_, fun X Y Z => ?_, fun X Y Z => ASt.set_same _ _ _, fun X Y Z X' => ?_, fun X Y Z X' => ?_, fun X Y Z Z' => by rw [ASt.set_set], fun X Y Z => ?_, fun X Y Z => Drop.set (h0 _ _), fun X Y Z x l hx => ?_, fun X Y Z x h1 h2 h3 => ?_⟩
 ·show ((T2 X Y).set e Z) b = X
  rw [ASt.set_ne nb, h.a1]
 ·show ((T2 X Y).set e Z) d = Y
  rw [ASt.set_ne nd, h.a2]
 ·show ((T2 X Y).set e Z).set b X' = (T2 X' Y).set e Z
  rw [set_swap (Ne.symm nb), h.s1]
 ·show ((T2 X Y).set e Z).set d X' = (T2 X X').set e Z
  rw [set_swap (Ne.symm nd), h.s2]
 ·exact (Drop.set (h0 _ _)).trans (h.drop _ _)
 ·show ((T2 X Y).set e Z) x = some (.fix l)
  have hx2 := h.fix X Y x l hx
  rw [ASt.set_ne]
  ·exact hx2
  ·rintro rfl; rw [h0] at hx2; cases hx2
 ·show ((T2 X Y).set e Z) x = σ x
  rw [ASt.set_ne h3, h.other _ _ _ h1 h2]
structure St4 (σ : ASt) (b d e g : Nat) (T3 : Option Role → Option Role → Option Role → ASt) (T : Option Role → Option Role → Option Role → Option Role → ASt) : Prop where
 ab : ∀ X Y Z W, (T3 X Y Z).set g W = T X Y Z W
 a1 : ∀ X Y Z W, T X Y Z W b = X
 a2 : ∀ X Y Z W, T X Y Z W d = Y
 a3 : ∀ X Y Z W, T X Y Z W e = Z
 a4 : ∀ X Y Z W, T X Y Z W g = W
 s1 : ∀ X Y Z W X', (T X Y Z W).set b X' = T X' Y Z W
 s2 : ∀ X Y Z W Y', (T X Y Z W).set d Y' = T X Y' Z W
 s4 : ∀ X Y Z W W', (T X Y Z W).set g W' = T X Y Z W'
 drop : ∀ X Y Z W, Drop (T X Y Z W) (σ.set b X)
theorem St4.of {σ : ASt} {b d e g : Nat} {T2 : Option Role → Option Role → ASt} {T3 : Option Role → Option Role → Option Role → ASt} (h : St3 σ b d e T2 T3) {X0 Y0 Z0 : Role} (hg : T3 (some X0) (some Y0) (some Z0) g = none) : ∃ T, St4 σ b d e g T3 T := by
 have nb : b ≠ g := by rintro rfl; rw [h.a1] at hg; cases hg
 have nd : d ≠ g := by rintro rfl; rw [h.a2] at hg; cases hg
 have ne : e ≠ g := by rintro rfl; rw [h.a3] at hg; cases hg
 have h0 : ∀ X Y Z, T3 X Y Z g = none := fun X Y Z => by rw [h.other _ _ _ _ (Ne.symm nb) (Ne.symm nd) (Ne.symm ne)]; rwa [h.other _ _ _ _ (Ne.symm nb) (Ne.symm nd) (Ne.symm ne)] at hg
 refine ⟨fun X Y Z W => (T3 X Y Z).set g W, fun X Y Z W => rfl, fun X Y Z W => ?_, fun X Y Z W => ?_, fun X Y Z W => ?_, fun X Y Z W => ASt.set_same _ _ _, fun X Y Z W X' => ?_, fun X Y Z W X' => ?_, fun X Y Z W W' => by rw [ASt.set_set], fun X Y Z W => (Drop.set (h0 _ _ _)).trans (h.drop _ _ _)⟩
 ·show ((T3 X Y Z).set g W) b = X
  rw [ASt.set_ne nb, h.a1]
 ·show ((T3 X Y Z).set g W) d = Y
  rw [ASt.set_ne nd, h.a2]
 ·show ((T3 X Y Z).set g W) e = Z
  rw [ASt.set_ne ne, h.a3]
 ·show ((T3 X Y Z).set g W).set b X' = (T3 X' Y Z).set g W
  rw [set_swap (Ne.symm nb), h.s1]
 ·show ((T3 X Y Z).set g W).set d X' = (T3 X X' Z).set g W
  rw [set_swap (Ne.symm nd), h.s2]
def lvAV : AV := .sl .shr (levelsL.map fun l => .sl .shr (l.map AV.str))
def LV (σ : ASt) : Prop := σ 0 = some (.fix [lvAV])
theorem pr_fix {T : List Tok} {s : PSt} {σ : ASt} {b : Nat} (hb : σ b = pr T s) : (∀ l, σ b ≠ some (.fix l)) ∧ σ b ≠ none := by
 rw [hb]; unfold pr
 exact ⟨fun l => by simp, by simp⟩
theorem level_get {lvl : Nat} (h : lvl < 5) : (levelsL.map fun l => AV.sl .shr (l.map AV.str))[lvl]? = some (.sl .shr ((levelsL.getD lvl []).map AV.str)) := by
 have : ∀ lvl, lvl < 5 → (levelsL.map fun l => AV.sl .shr (l.map AV.str))[lvl]? = some (.sl .shr ((levelsL.getD lvl []).map AV.str)) := by
  intro lvl h
  match lvl, h with
  | 0, _ => rfl
  | 1, _ => rfl
  | 2, _ => rfl
  | 3, _ => rfl
  | 4, _ => rfl
 exact this lvl h
theorem level_len (lvl : Nat) : (levelsL.getD lvl []).length ≤ 6 := by
 match lvl with
 | 0 | 1 | 2 | 3 | 4 => decide
 | n + 5 => simp [levelsL]
structure TokOk (T : List Tok) : Prop where
 ends : Ends T
 len : T.length ≤ 1000000
 text : ∀ i, (T.getD i endT).text.length ≤ 100000
theorem TokOk.cur {T : List Tok} (h : TokOk T) (s : PSt) : (curT T s).text.length ≤ 100000 := by
 unfold curT
 split
 ·decide
 ·exact h.text _
structure WalkF (T : List Tok) (f : Nat) : Prop where
 betw : ∀ (b lvl : Nat) s r, lvl ≤ 5 → betwP T f lvl s = some r → Fit T s → ∀ σ, LV σ → σ b = pr T s → ACalls Tryz.prog 32 [.ptr b 0, .int .i64 lvl] σ fun v σ' => v = r.1.av ∧ σ' = σ.set b (pr T r.2)
 signed : ∀ (b : Nat) s r, signedP T f s = some r → Fit T s → ∀ σ, LV σ → σ b = pr T s → ACalls Tryz.prog 68 [.ptr b 0] σ fun v σ' => v = r.1.av ∧ σ' = σ.set b (pr T r.2)
 hundred : ∀ (b : Nat) s r, hundredP T f s = some r → Fit T s → ∀ σ, LV σ → σ b = pr T s → ACalls Tryz.prog 110 [.ptr b 0] σ fun v σ' => v = r.1.av ∧ σ' = σ.set b (pr T r.2)
 prim : ∀ (b : Nat) s r, primP T f s = some r → Fit T s → ∀ σ, LV σ → σ b = pr T s → ACalls Tryz.prog 139 [.ptr b 0] σ fun v σ' => v = r.1.av ∧ σ' = σ.set b (pr T r.2)
 name : ∀ (b : Nat) s r, nameP T f s = some r → Fit T s → (curT T s).kind = 3 → ∀ σ, LV σ → σ b = pr T s → ACalls Tryz.prog 159 [.ptr b 0, tokAV (curT T s)] σ fun v σ' => v = r.1.av ∧ σ' = σ.set b (pr T r.2)
 args : ∀ (b : Nat) s r, argsP T f s = some r → Fit T s → ∀ σ, LV σ → σ b = pr T s → ACalls Tryz.prog 176 [.ptr b 0] σ fun v σ' => v = .sl .shr (r.1.map Nd.av) ∧ σ' = σ.set b (pr T r.2)
theorem bin_cells (op : Int) (ks : List Nd) (L : List AV) (h : Go.A.deeps L = ks.map Nd.av) : Go.A.deeps [.int .i64 op, .int .i64 0, .str [], .int .i64 0, .int .i64 0, .bool false, .bool false, .int .i64 0, .int .i64 0, .bool false, .bool false, .sl .full L] = Nd.cs op 0 [] .zero .zero (ks.map Nd.av) := by
 rw [← h]; rfl
set_option maxHeartbeats 4000000 in
theorem betw_walk {T : List Tok} (hT : TokOk T) (f : Nat) (ih : ∀ f', f' < f + 1 → WalkF T f') (b lvl : Nat) (s : PSt) (r : Nd × PSt) (hl5 : lvl ≤ 5) (h : betwP T (f + 1) lvl s = some r) (hf : Fit T s) (σ : ASt) (hV : LV σ) (hb : σ b = pr T s) :
  ACalls Tryz.prog 32 [.ptr b 0, .int .i64 lvl] σ fun v σ' => v = r.1.av ∧ σ' = σ.set b (pr T r.2) := by
 rw [betwP] at h
 have hlL : (levelsL.map fun l => AV.sl .shr (l.map AV.str)).length = 5 := rfl
 have hwent := wentF hT.ends
 refine a32 (by simp) ?_
 simp (disch := first | assumption | omega) only [go_sem]
 refine allocC_by fun d hd => ?_
 obtain ⟨hbd, T2, S2⟩ := St2.of hd (pr_fix hb).1 (pr_fix hb).2
 rw [S2.one, hb]
 have V2 : ∀ X Y, LV (T2 X Y) := fun X Y => S2.fix _ _ _ _ hV
 have v2 : ∀ X Y, T2 X Y 0 = some (.fix [.sl .shr (levelsL.map fun l => .sl .shr (l.map AV.str))]) := fun X Y => V2 X Y
 have hgl := fun h => level_get (lvl := lvl) h
 generalize hLs : (levelsL.map fun l => AV.sl .shr (l.map AV.str)) = LS at *
 by_cases h5 : lvl = 5
 ·rw [if_pos h5] at h
  have h5' : (lvl : Int) = 5 := by omega
  have hc := (ih f (by omega)).signed b s r h hf _ (V2 (pr T s) (some (.obj zero12))) (S2.a1 _ _)
  obtain ⟨n, s'⟩ := r
  dsimp only at hc ⊢
  obtain ⟨o, m, t, x, y, ks⟩ := n
  rw [Nd.av_cs] at hc ⊢
  unfold zero12 at hc
  simp (disch := first | assumption | omega) only [go_sem, reduceCtorEq, Nat.reduceEqDiff, ↓reduceIte, v2, hlL, h5']
  refine hc.mono ?_
  rintro v σ1 ⟨rfl, rfl⟩
  have hs1 := S2.s1
  have hs2 := S2.s2
  have ha2 := S2.a2
  simp (disch := first | assumption | omega) only [go_sem, Nat.reduceEqDiff, Nat.reduceAdd, Nat.reduceLeDiff, ↓reduceIte, hs1, hs2, ha2]
  exact retC_by (S2.drop _ _) (.refl _) ⟨rfl, rfl⟩
 ·rw [if_neg h5] at h
  have h5' : ¬ (lvl : Int) = 5 := by omega
  have hl5' : lvl < 5 := by omega
  cases h1 : betwP T f (lvl + 1) s with
  | none => rw [h1] at h; cases h
  | some r1 =>
    rw [h1] at h
    dsimp only at h
    have hw1 := (hwent f).betw _ _ _ h1 hf
    have hc := (ih f (by omega)).betw b (lvl + 1) s r1 (by omega) h1 hf _ (V2 (pr T s) (some (.obj zero12))) (S2.a1 _ _)
    have e1 : (((lvl + 1 : Nat)) : Int) = (lvl : Int) + 1 := by omega
    rw [e1] at hc
    have hb1 : b = b := rfl
    have hs1 := S2.s1
    have hs2 := S2.s2
    have ha2 := S2.a2
    unfold zero12 at hc
    obtain ⟨n1, s1⟩ := r1
    dsimp only at hc h hw1
    have hex : ∃ o m t x y KL, n1.av = .agg (Nd.cs o m t x y KL) := by obtain ⟨o, m, t, x, y, ks⟩ := n1; exact ⟨_, _, _, _, _, _, Nd.av_cs ..⟩
    obtain ⟨o, m, t, x, y, KL, hn1⟩ := hex
    rw [hn1] at hc
    simp (disch := first | assumption | omega) only [go_sem, reduceCtorEq, Nat.reduceEqDiff, ↓reduceIte, v2, hlL, h5']
    refine hc.mono ?_
    rintro v σ1 ⟨rfl, rfl⟩
    simp (disch := first | assumption | omega) only [go_sem, hs1]
    refine allocC_by fun e he => ?_
    obtain ⟨hbe, hde, T3, S3⟩ := St3.of S2 (X0 := .obj _) he
    have ab := S3.ab
    have k3 := S3.s3
    have k2 := S3.s2
    have k1 := S3.s1
    have q3 := S3.a3
    have q2 := S3.a2
    have q1 := S3.a1
    have v3 : ∀ X Y Z, T3 X Y Z 0 = some (.fix [.sl .shr LS]) := fun X Y Z => by
     rw [← ab]
     have := v2 X Y
     rw [ASt.set_ne]
     ·exact this
     ·rintro rfl; rw [v2] at he; cases he
    have V3 : ∀ X Y Z, LV (T3 X Y Z) := fun X Y Z => by
     have := v3 X Y Z
     rw [← hLs] at this
     exact this
    have hSg := esigns_ok
    simp (disch := first | assumption | omega) only [go_sem, Nat.reduceEqDiff, Nat.reduceAdd, Nat.reduceLeDiff, ↓reduceIte, ab, k3, q3]
    refine wp_loop_by (fun (q : Nat × Nd × PSt) a1 st => (q.1 ≤ f ∧ loopP T q.1 lvl q.2.1 q.2.2 = some r ∧ Fit T q.2.2) ∧ (a1 0 = .ptr b 0 ∧ a1 1 = .int .i64 lvl ∧ a1 4 = .ptr d 0 ∧ a1 5 = .ptr e 0) ∧ st = T3 (pr T q.2.2) (some (.obj zero12)) (some (.obj q.2.1.av.cells))) (fun q => q.1) (f, n1, s1) (Dr.now ⟨⟨Nat.le_refl _, h, hw1.fit⟩, ?_, by dsimp only; rw [hn1]; rfl⟩) ?_
    ·simp (disch := first | assumption | omega) only [go_sem, reduceCtorEq, Nat.reduceEqDiff, ↓reduceIte]
    clear h hn1 hw1 hc h1
    rintro ⟨f', n, s'⟩ a1 st ⟨⟨g1, g2, g3⟩, hf2, rfl⟩
    dsimp only at g1 g2 g3 hf2 ⊢
    obtain ⟨f'', rfl⟩ : ∃ f'', f' = f'' + 1 := by
     cases f' with
     | zero => rw [loopP] at g2; cases g2
     | succ f'' => exact ⟨f'', rfl⟩
    rw [loopP] at g2
    have hcu := pcur_ok (T := T) g3.i (q1 (pr T s') (some (.obj zero12)) (some (.obj n.av.cells)))
    have hsgn : sgn T s' lvl = (decide ((curT T s').kind = 6) && decide ((curT T s').text ∈ levelsL.getD lvl [])) := rfl
    have hkk := sgn_kind (T := T) (s := s') (l := lvl)
    have hcl := strcontains_ok (levelsL.getD lvl []) (curT T s').text (by have := level_len lvl; omega)
    have hix := strindex_ok signL (curT T s').text (by decide)
    have hrg := idxS_rng (curT T s').text signL 0
    have hll : signL.length = 12 := rfl
    have hnn : n.av = .agg n.av.cells := by cases n; rfl
    have hil := g3.i
    have htl := hT.len
    obtain ⟨NC, hNC⟩ : ∃ NC, n.av.cells = NC := ⟨_, rfl⟩
    have hlen : NC.length = 12 := by rw [← hNC]; exact Nd.av_len n
    have hlv : leaves NC = true := by rw [← hNC]; exact Nd.av_leaves n
    have htk : NC.take 12 = NC := List.take_of_length_le (by omega)
    have hdk : NC.drop 12 = [] := List.drop_of_length_le (by omega)
    rw [hNC] at hcu hnn ⊢
    generalize hct : curT T s' = tk at *
    unfold tokAV at hcu
    generalize hZ : zero12 = Z12 at *
    have v3' := v3 (pr T s') (some (.obj Z12)) (some (.obj NC))
    generalize hLL : levelsL.getD lvl [] = LL at *
    have hgl := hgl hl5'
    by_cases hk6 : tk.kind = 6
    ·simp (disch := first | assumption | omega) only [go_sem, ↓reduceIte, hf2]
     refine hcu.mono ?_
     rintro v σ1 ⟨rfl, rfl⟩
     simp (disch := first | assumption | omega) only [go_sem, reduceCtorEq, Nat.reduceEqDiff, ↓reduceIte, hf2, hk6, v3, hgl]
     refine hcu.mono ?_
     rintro v σ1 ⟨rfl, rfl⟩
     simp (disch := first | assumption | omega) only [go_sem, Nat.reduceEqDiff, ↓reduceIte, forall_const, v3]
     refine hcl.use ?_
     by_cases hmem : tk.text ∈ LL
     ·rw [decide_eq_true hk6, decide_eq_true hmem] at hsgn
      rw [decide_eq_true hmem]
      rw [hsgn, if_pos (by rfl)] at g2
      cases h2 : betwP T f'' (lvl + 1) s'.next with
      | none => rw [h2] at g2; cases g2
      | some r2 =>
        rw [h2] at g2
        dsimp only at g2
        have hfn := (g3.next hT.ends (hct ▸ hkk hsgn)).1
        have hw2 := (hwent f'').betw _ _ _ h2 hfn
        have hcb := (ih f'' (by omega)).betw b (lvl + 1) s'.next r2 (by omega) h2 hfn _ (V3 (pr T s'.next) (some (.obj Z12)) (some (.obj NC))) (q1 _ _ _)
        rw [e1] at hcb
        unfold idxP at hix
        have hidx : idxP signL tk.text = idxS tk.text signL 0 := rfl
        rw [hidx] at g2
        generalize idxS tk.text signL 0 = q at *
        obtain ⟨m2, s2⟩ := r2
        dsimp only at hcb g2 hw2
        have hmm : m2.av = .agg m2.av.cells := by cases m2; rfl
        have hcell : Go.A.deeps [.int .i64 (10 + q), .int .i64 0, .str [], .int .i64 0, .int .i64 0, .bool false, .bool false, .int .i64 0, .int .i64 0, .bool false, .bool false, .sl .full [n.av, m2.av]] = (Nd.mk (10 + q) 0 [] .zero .zero [n, m2]).av.cells := by
         have := bin_cells (10 + q) [n, m2] [n.av, m2.av] (by simp only [deeps_cons, deeps_nil, Nd.deep]; rfl)
         rw [this, Nd.av_cs]
         rfl
        obtain ⟨MC, hMC⟩ : ∃ MC, m2.av.cells = MC := ⟨_, rfl⟩
        have hlen2 : MC.length = 12 := by rw [← hMC]; exact Nd.av_len m2
        have hlv2 : leaves MC = true := by rw [← hMC]; exact Nd.av_leaves m2
        have htk2 : MC.take 12 = MC := List.take_of_length_le (by omega)
        rw [hMC] at hmm
        rw [hnn, hmm] at hcell
        rw [hmm] at hcb
        have hpr : pr T s' = some (.obj [.sl .shr (T.map tokAV), .int .i64 s'.i, .int .i64 s'.deep, .int .i64 s'.err, .int .i64 s'.bad]) := rfl
        have hpn : some (Role.obj [.sl .shr (T.map tokAV), .int .i64 ((s'.i : Int) + 1), .int .i64 s'.deep, .int .i64 s'.err, .int .i64 s'.bad]) = pr T s'.next := rfl
        simp (disch := first | assumption | omega) only [go_sem, Nat.reduceEqDiff, ↓reduceIte]
        refine hSg.use ?_
        simp (disch := first | assumption | omega) only [go_sem, reduceCtorEq, ↓reduceIte, hf2]
        refine hcu.mono ?_
        rintro v σ1 ⟨rfl, rfl⟩
        simp (disch := first | assumption | omega) only [go_sem, Nat.reduceEqDiff, ↓reduceIte]
        refine hix.use ?_
        rw [hpr] at hcu ⊢
        simp (disch := first | assumption | omega) only [go_sem, reduceCtorEq, Nat.reduceEqDiff, Nat.reduceAdd, Nat.reduceLeDiff, ↓reduceIte, Bool.true_and, hf2, q1, k1]
        rw [hpn]
        simp (disch := first | assumption | omega) only [go_sem, reduceCtorEq, Nat.reduceEqDiff, Nat.reduceLeDiff, ↓reduceIte, hf2, q3, hlen, htk]
        refine hcb.mono ?_
        rintro v σ1 ⟨rfl, rfl⟩
        simp (disch := first | assumption | omega) only [go_sem, Nat.reduceEqDiff, Nat.reduceAdd, Nat.reduceLeDiff, ↓reduceIte, Bool.true_and, hf2, k1, q3, k3, hlen, hlen2, htk, hdk]
        have hsd : SDrop (T3 (pr T s2) (some (.obj Z12)) (some (.obj [.int .i64 (10 + q), .int .i64 0, .str [], .int .i64 0, .int .i64 0, .bool false, .bool false, .int .i64 0, .int .i64 0, .bool false, .bool false, .sl .full [.agg NC, .agg MC]]))) (T3 (pr T s2) (some (.obj Z12)) (some (.obj (Nd.mk (10 + q) 0 [] .zero .zero [n, m2]).av.cells))) := by
         rw [← ab, ← ab]
         exact (SDrop.refl _).cong hcell
        refine ⟨(f'', .mk (10 + q) 0 [] .zero .zero [n, m2], s2), by dsimp only; omega, Dr.sdrop hsd ⟨⟨by dsimp only; omega, g2, hw2.fit⟩, ?_, rfl⟩⟩
        simp (disch := first | assumption | omega) only [go_sem, reduceCtorEq, Nat.reduceEqDiff, ↓reduceIte, hf2]
     ·rw [decide_eq_false hmem, Bool.and_false] at hsgn
      rw [decide_eq_false hmem]
      rw [hsgn, if_neg (by simp)] at g2
      injection g2 with g2
      subst g2
      have hzl : Z12.length = 12 := by rw [← hZ]; rfl
      have hzd : Z12.drop 12 = [] := by rw [← hZ]; rfl
      simp (disch := first | assumption | omega) only [go_sem, Nat.reduceEqDiff, Nat.reduceLeDiff, ↓reduceIte, hf2, q3, q2, k2, hlen, hlv, htk, hzl, hzd]
      exact retC_by (S3.drop _ _ _) (.refl _) ⟨hnn.symm, rfl⟩
    ·rw [decide_eq_false hk6, Bool.false_and] at hsgn
     rw [hsgn, if_neg (by simp)] at g2
     injection g2 with g2
     subst g2
     simp (disch := first | assumption | omega) only [go_sem, ↓reduceIte, hf2]
     refine hcu.mono ?_
     rintro v σ1 ⟨rfl, rfl⟩
     have hzl : Z12.length = 12 := by rw [← hZ]; rfl
     have hzd : Z12.drop 12 = [] := by rw [← hZ]; rfl
     simp (disch := first | assumption | omega) only [go_sem, Nat.reduceEqDiff, Nat.reduceLeDiff, ↓reduceIte, hf2, hk6, q3, q2, k2, hlen, hlv, htk, hzl, hzd]
     exact retC_by (S3.drop _ _ _) (.refl _) ⟨hnn.symm, rfl⟩
end Go.A
namespace Go.A
open Go.Proofs
/-! 68: (*tabular/parse.parser).signed -/
def c68_22 : ACode := .seq (.ops [ oq 12 (.mv (.t 0)), oe 13 (.call 111 [(.t 12)])]) (.dfr 112 (.t 0) 14 (.seq (.seq (.ops [ oq 15 (.mv (.t 0)), oq 16 (.nc (.t 15)), oq 17 (.fa 3 (.t 16)), oq 18 (.ld none (.t 17)), oq 19 (.bin .eql (.t 18) (.v (.int .i64 0)))]) (.cond (.t 19) (.ops [ oq 20 (.mv (.t 0)), oq 21 (.nc (.t 20)), oq 22 (.fa 1 (.t 21)), oq 23 (.ld none (.t 22)), oq 24 (.bin .add (.t 23) (.v (.int .i64 1))), oq 25 (.nc (.t 20)), oq 26 (.fa 1 (.t 25)), oz (.store 1 (.t 26) (.t 24))]) .skip)) (.seq (.ops [ oq 27 (.mv (.t 3)), oq 28 (.mv (.t 0)), oe 29 (.call 68 [(.t 28)]), oq 30 (.bsl 12 [(.t 29)]), oq 31 (.build [(.int .i64 0), (.int .i64 0), (.str []), (.int .i64 0), (.int .i64 0), (.bool false), (.bool false), (.int .i64 0), (.int .i64 0), (.bool false), (.bool false), (.sl .full [])] [(0, 1, (.t 27)), (11, 1, (.t 30))]), oz (.store 12 (.t 2) (.t 31))]) .ret)))
def c68_25 : ACode := .seq (.ops [ oe 2 (.alloc [(.int .i64 0), (.int .i64 0), (.str []), (.int .i64 0), (.int .i64 0), (.bool false), (.bool false), (.int .i64 0), (.int .i64 0), (.bool false), (.bool false), (.sl .full [])])]) (.seq (.ops [ oq 3 (.mv (.v (.int .i64 0)))]) (.seq (.block 0 (.seq (.ops [ oq 7 (.mv (.t 0)), oe 8 (.call 109 [(.t 7), (.v (.str [45]))]), oq 6 (.mv (.t 8))]) (.cond (.t 6) (.ops [ oq 3 (.mv (.v (.int .i64 7)))]) (.seq (.ops [ oq 10 (.mv (.t 0)), oe 11 (.call 109 [(.t 10), (.v (.str [43]))]), oq 9 (.mv (.t 11))]) (.cond (.t 9) (.ops [ oq 3 (.mv (.v (.int .i64 8)))]) (.seq (.ops [ oq 4 (.mv (.t 0)), oe 5 (.call 110 [(.t 4)]), oz (.store 12 (.t 2) (.t 5))]) .ret)))))) c68_22))
@[go_sem] def c68_22_wp := wp_of c68_22.eq_1
@[go_sem] def c68_25_wp := wp_of c68_25.eq_1
def c68 : AFn := ⟨32, [.c 2 (some 12)], c68_25⟩
theorem c68_ok : compF Tryz.prog Tryz.f68 = some c68 := by kernel_rfl
theorem a68 {args : List AV} {σ : ASt} {R : AV → ASt → Prop} (hl : args.length ≤ 32) (h : c68_25.wp Tryz.prog (RetQ [.c 2 (some 12)] R) (init args) σ) : ACalls Tryz.prog 68 args σ R := acalls_of Tryz.func68 c68_ok hl h
/-! 110: (*tabular/parse.parser).hundred -/
def c110_7 : ACode := .seq (.seq (.ops [ oq 6 (.mv (.t 0)), oe 7 (.call 140 [(.t 6), (.v (.str [37]))])]) (.cond (.t 7) .skip (.exit 0))) (.block 1 (.ops [ oq 8 (.ld (some 12) (.t 3)), oq 9 (.bsl 12 [(.t 8)]), oq 10 (.build [(.int .i64 0), (.int .i64 0), (.str []), (.int .i64 0), (.int .i64 0), (.bool false), (.bool false), (.int .i64 0), (.int .i64 0), (.bool false), (.bool false), (.sl .full [])] [(0, 1, (.v (.int .i64 9))), (11, 1, (.t 9))]), oz (.store 12 (.t 3) (.t 10))]))
def c110_14 : ACode := .seq (.ops [ oe 2 (.alloc [(.int .i64 0), (.int .i64 0), (.str []), (.int .i64 0), (.int .i64 0), (.bool false), (.bool false), (.int .i64 0), (.int .i64 0), (.bool false), (.bool false), (.sl .full [])])]) (.seq (.ops [ oq 4 (.mv (.t 0)), oe 5 (.call 139 [(.t 4)]), oe 3 (.alloc [(.int .i64 0), (.int .i64 0), (.str []), (.int .i64 0), (.int .i64 0), (.bool false), (.bool false), (.int .i64 0), (.int .i64 0), (.bool false), (.bool false), (.sl .full [])]), oz (.store 12 (.t 3) (.t 5))]) (.seq (.block 0 (.loop c110_7)) (.seq (.ops [ oq 11 (.ld (some 12) (.t 3)), oz (.store 12 (.t 2) (.t 11))]) .ret)))
@[go_sem] def c110_7_wp := wp_of c110_7.eq_1
@[go_sem] def c110_14_wp := wp_of c110_14.eq_1
def c110 : AFn := ⟨12, [.c 2 (some 12)], c110_14⟩
theorem c110_ok : compF Tryz.prog Tryz.f110 = some c110 := by kernel_rfl
theorem a110 {args : List AV} {σ : ASt} {R : AV → ASt → Prop} (hl : args.length ≤ 12) (h : c110_14.wp Tryz.prog (RetQ [.c 2 (some 12)] R) (init args) σ) : ACalls Tryz.prog 110 args σ R := acalls_of Tryz.func110 c110_ok hl h
end Go.A
