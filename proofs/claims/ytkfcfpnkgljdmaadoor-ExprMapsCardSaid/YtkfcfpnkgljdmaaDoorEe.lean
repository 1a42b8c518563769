/- Print, walked; the statement's first answers; ExprChains. -/
import Derived.Test.YtkfcfpnkgljdmaaDoorEd
import Derived.Test.YtkfcfpnkgljdmaaDoorCodeEe
namespace Go.A
open Go.Proofs Go.Lib
set_option maxRecDepth 100000
set_option linter.unusedSimpArgs false
set_option linter.unusedVariables false

theorem print_ok {σ : ASt} (hT : Tab σ) (hM : MaxL σ) (n : Nd) (hn : n.ok) (hl : n.spell.length ≤ 900000) : ACalls Tryd.prog 7 [n.av] σ fun v σ' => v = .str n.spell ∧ σ' = σ := by
  have hS := spell_ok n.size n (Nat.le_refl _) hn
  obtain ⟨op, m, s, a, d, kids⟩ := n
  unfold SpellOk at hS
  rw [Nd.av_cs] at hS ⊢
  generalize (Nd.mk op m s a d kids).spell = w at *
  generalize kids.map Nd.av = L at *
  refine a7 (by simp) ?_
  simp (disch := first | assumption | omega | (simp only [List.length_append, List.length_cons, List.length_nil]; omega)) only [go_sem, reduceCtorEq, Nat.reduceEqDiff, Nat.reduceAdd, Nat.reduceSub, Nat.reduceMul, Nat.reduceLeDiff, Int.reduceLT, Int.reduceLE, Int.reduceEq, ↓reduceIte, Int.reduceNeg, Int.reduceAdd, Int.reduceSub, Int.reduceMul, true_imp_iff, forall_const, Nat.mul_one, Int.reduceToNat, Nat.reducePow, Int.reducePow, Bool.true_and, Bool.false_and, Bool.and_false]
  refine boxC_by rfl fun c hc => ?_
  simp (disch := first | assumption | omega | (simp only [List.length_append, List.length_cons, List.length_nil]; omega)) only [go_sem, reduceCtorEq, Nat.reduceEqDiff, Nat.reduceAdd, Nat.reduceSub, Nat.reduceMul, Nat.reduceLeDiff, Int.reduceLT, Int.reduceLE, Int.reduceEq, ↓reduceIte, Int.reduceNeg, Int.reduceAdd, Int.reduceSub, Int.reduceMul, true_imp_iff, forall_const, Nat.mul_one, Int.reduceToNat, Nat.reducePow, Int.reducePow, Bool.true_and, Bool.false_and, Bool.and_false]
  refine allocTC_by fun b hb => ?_
  have hbb := hb
  obtain ⟨n1, n2, n3⟩ := set_none hb
  have hB : BD (σ.set c (some (.obj (Nd.cs op m s a d L)))) b [] ((σ.set c (some (.obj (Nd.cs op m s a d L)))).set b (some (.typ 49 [.pointer none, .slice none 0 0]))) := .inl ⟨rfl, rfl⟩
  have hT1 := hT.set hc (r := some (.obj (Nd.cs op m s a d L)))
  have hM1 := hM.set hc (r := some (.obj (Nd.cs op m s a d L)))
  simp (disch := first | assumption | omega | (simp only [List.length_append, List.length_cons, List.length_nil]; omega)) only [go_sem, reduceCtorEq, Nat.reduceEqDiff, Nat.reduceAdd, Nat.reduceSub, Nat.reduceMul, Nat.reduceLeDiff, Int.reduceLT, Int.reduceLE, Int.reduceEq, ↓reduceIte, Int.reduceNeg, Int.reduceAdd, Int.reduceSub, Int.reduceMul, true_imp_iff, forall_const, Nat.mul_one, Int.reduceToNat, Nat.reducePow, Int.reducePow, Bool.true_and, Bool.false_and, Bool.and_false, n1, n2]
  refine (hS _ _ _ _ hB hbb hT1 hM1 (by simp only [List.length_nil]; omega)).mono ?_
  rintro v σ1 ⟨rfl, hB1⟩
  rw [List.nil_append] at hB1
  simp (disch := first | assumption | omega | (simp only [List.length_append, List.length_cons, List.length_nil]; omega)) only [go_sem, reduceCtorEq, Nat.reduceEqDiff, Nat.reduceAdd, Nat.reduceSub, Nat.reduceMul, Nat.reduceLeDiff, Int.reduceLT, Int.reduceLE, Int.reduceEq, ↓reduceIte, Int.reduceNeg, Int.reduceAdd, Int.reduceSub, Int.reduceMul, true_imp_iff, forall_const, Nat.mul_one, Int.reduceToNat, Nat.reducePow, Int.reducePow, Bool.true_and, Bool.false_and, Bool.and_false]
  refine (bstring_ok hB1 (by omega)).mono ?_
  rintro v σ2 ⟨rfl, rfl⟩
  simp (disch := first | assumption | omega | (simp only [List.length_append, List.length_cons, List.length_nil]; omega)) only [go_sem, reduceCtorEq, Nat.reduceEqDiff, Nat.reduceAdd, Nat.reduceSub, Nat.reduceMul, Nat.reduceLeDiff, Int.reduceLT, Int.reduceLE, Int.reduceEq, ↓reduceIte, Int.reduceNeg, Int.reduceAdd, Int.reduceSub, Int.reduceMul, true_imp_iff, forall_const, Nat.mul_one, Int.reduceToNat, Nat.reducePow, Int.reducePow, Bool.true_and, Bool.false_and, Bool.and_false]
  exact retC_by ((hB1.over hbb).drop.trans (Drop.set hc)) (.refl _) ⟨rfl, rfl⟩
theorem textD_one : textD 10000 = [49] := by
  unfold textD
  rw [if_neg (by decide), show (10000 : Int).natAbs / 10000 = 1 from rfl, show (10000 : Int).natAbs % 10000 = 0 from rfl, dd_small (by decide)]
  decide
theorem textD_two : textD 20000 = [50] := by
  unfold textD
  rw [if_neg (by decide), show (20000 : Int).natAbs / 10000 = 2 from rfl, show (20000 : Int).natAbs % 10000 = 0 from rfl, dd_small (by decide)]
  decide
def numN (n : Int) : Nd := .mk 1 n [] .zero .zero []
def binN (op : Int) (x y : Nd) : Nd := .mk op 0 [] .zero .zero [x, y]
theorem numN_ok {n : Int} (h : n.natAbs ≤ 999999999999999999) : (numN n).ok := by
  unfold numN
  rw [Nd.ok]
  refine ⟨?_, trivial⟩
  unfold nodeOk
  simp
  omega
theorem binN_ok {op : Int} {x y : Nd} (h : 10 ≤ op ∧ op ≤ 21) (hx : x.ok) (hy : y.ok) : (binN op x y).ok := by
  unfold binN
  rw [Nd.ok, Nd.oks, Nd.oks, Nd.oks]
  refine ⟨?_, hx, hy, trivial⟩
  unfold nodeOk
  simp
  omega
theorem numN_spell (n : Int) : (numN n).spell = textD n := by unfold numN; rw [Nd.spell]; rfl
theorem binN_spell {op : Int} {x y : Nd} (h : 10 ≤ op ∧ op ≤ 21) : (binN op x y).spell = insT (levelP op) x.op x.spell ++ signL.getD (op - 10).toNat [] ++ insT (levelP op + 1) y.op y.spell := by
  unfold binN
  rw [Nd.spell, Nd.spells, Nd.spells, Nd.spells]
  unfold spellK
  rw [if_neg (by omega), if_neg (by omega), if_neg (by omega), if_neg (by omega), if_neg (by omega), if_neg (by omega), if_neg (by omega), if_neg (by omega), if_neg (by omega), if_neg (by omega)]
  rfl
/-- Leaning left, leaning right. -/
def leftN (op : Int) : Nat → Nd
  | 0 => numN 10000
  | k + 1 => binN (10 + op) (leftN op k) (numN 10000)
def rightN (op : Int) : Nat → Nd
  | 0 => numN 10000
  | k + 1 => binN (10 + op) (numN 10000) (rightN op k)
def leftT (sg : List UInt8) : Nat → List UInt8
  | 0 => [49]
  | k + 1 => leftT sg k ++ (sg ++ [49])
def rightT (sg : List UInt8) : Nat → List UInt8
  | 0 => [49]
  | 1 => 49 :: sg ++ [49]
  | k + 2 => 49 :: sg ++ [40] ++ rightT sg (k + 1) ++ [41]
theorem level_bin {op : Int} (h : 0 ≤ op ∧ op ≤ 11) : 1 ≤ levelP (10 + op) ∧ levelP (10 + op) ≤ 5 := by
  unfold levelP
  repeat' split
  all_goals omega
theorem left_ok {op : Int} (h : 0 ≤ op ∧ op ≤ 11) : ∀ k, (leftN op k).ok
  | 0 => numN_ok (by decide)
  | k + 1 => binN_ok (by omega) (left_ok h k) (numN_ok (by decide))
theorem right_ok {op : Int} (h : 0 ≤ op ∧ op ≤ 11) : ∀ k, (rightN op k).ok
  | 0 => numN_ok (by decide)
  | k + 1 => binN_ok (by omega) (numN_ok (by decide)) (right_ok h k)
theorem left_spell {op : Int} (h : 0 ≤ op ∧ op ≤ 11) : ∀ k, (leftN op k).spell = leftT (signL.getD op.toNat []) k
  | 0 => by rw [leftN, numN_spell, textD_one]; rfl
  | k + 1 => by
    have hl := level_bin h
    rw [leftN, binN_spell (by omega), left_spell h k, numN_spell, textD_one, show 10 + op - 10 = op by omega]
    have h1 : levelP (10 + op) ≤ levelP (leftN op k).op := by
      cases k with
      | zero => show levelP (10 + op) ≤ levelP 1; rw [show levelP 1 = 8 from rfl]; omega
      | succ k => exact Int.le_refl _
    have h2 : levelP (10 + op) + 1 ≤ levelP (numN 10000).op := by show _ ≤ levelP 1; rw [show levelP 1 = 8 from rfl]; omega
    unfold insT
    rw [if_pos h1, if_pos h2, leftT, List.append_assoc]
theorem right_spell {op : Int} (h : 0 ≤ op ∧ op ≤ 11) : ∀ k, (rightN op k).spell = rightT (signL.getD op.toNat []) k
  | 0 => by rw [rightN, numN_spell, textD_one]; rfl
  | 1 => by
    have hl := level_bin h
    rw [rightN, rightN, binN_spell (by omega), numN_spell, textD_one, show 10 + op - 10 = op by omega]
    have h2 : ∀ q, q ≤ 8 → q ≤ levelP (numN 10000).op := fun q hq => by show _ ≤ levelP 1; rw [show levelP 1 = 8 from rfl]; omega
    unfold insT
    rw [if_pos (h2 _ (by omega)), if_pos (h2 _ (by omega)), rightT]
    simp
  | k + 2 => by
    have hl := level_bin h
    rw [rightN, binN_spell (by omega), right_spell h (k + 1), numN_spell, textD_one, show 10 + op - 10 = op by omega]
    have h2 : ∀ q, q ≤ 8 → q ≤ levelP (numN 10000).op := fun q hq => by show _ ≤ levelP 1; rw [show levelP 1 = 8 from rfl]; omega
    have h3 : ¬ levelP (10 + op) + 1 ≤ levelP (rightN op (k + 1)).op := by show ¬ _ ≤ levelP (10 + op); omega
    unfold insT
    rw [if_pos (h2 _ (by omega)), if_neg h3, rightT]
    simp
theorem leftT_len {sg : List UInt8} (h : sg.length ≤ 2) : ∀ k, (leftT sg k).length ≤ 1 + 3 * k
  | 0 => by simp [leftT]
  | k + 1 => by have := leftT_len h k; simp [leftT]; omega
theorem rightT_len {sg : List UInt8} (h : sg.length ≤ 2) : ∀ k, (rightT sg k).length ≤ 1 + 5 * k
  | 0 => by simp [rightT]
  | 1 => by simp [rightT]; omega
  | k + 2 => by have := rightT_len h (k + 1); simp [rightT]; omega
theorem left_depth (op : Int) : ∀ k, (leftN op k).depth = k + 1
  | 0 => rfl
  | k + 1 => by
    rw [leftN]; unfold binN
    rw [Nd.depth, Nd.depths, Nd.depths, Nd.depths, left_depth op k]
    have : (numN 10000).depth = 1 := rfl
    omega
theorem left_size (op : Int) : ∀ k, (leftN op k).size = 1 + 2 * k
  | 0 => rfl
  | k + 1 => by
    rw [leftN]; unfold binN
    rw [Nd.size, Nd.sizes, Nd.sizes, Nd.sizes, left_size op k]
    have : (numN 10000).size = 1 := rfl
    omega
def sumN : Nd := binN 11 (numN 10000) (numN 20000)
def awl : Nd := binN 11 sumN (numN 10000)
def awr : Nd := binN 11 (numN 10000) sumN
theorem sum_spell : sumN.spell = [49, 45, 50] := by
  unfold sumN
  rw [binN_spell (by decide), numN_spell, numN_spell, textD_one, textD_two]
  rfl
theorem awl_spell : awl.spell = [49, 45, 50, 45, 49] := by
  unfold awl
  rw [binN_spell (by decide), sum_spell, numN_spell, textD_one]
  rfl
theorem awr_spell : awr.spell = [49, 45, 40, 49, 45, 50, 41] := by
  unfold awr
  rw [binN_spell (by decide), sum_spell, numN_spell, textD_one]
  rfl
theorem sum_ok : sumN.ok := binN_ok (by decide) (numN_ok (by decide)) (numN_ok (by decide))
theorem awl_ok : awl.ok := binN_ok (by decide) sum_ok (numN_ok (by decide))
theorem awr_ok : awr.ok := binN_ok (by decide) (numN_ok (by decide)) sum_ok
set_option maxHeartbeats 1000000 in
theorem eawake_ok {σ : ASt} (hT : Tab σ) (hM : MaxL σ) : ACalls Tryd.prog 5 [] σ fun v σ' => v = .bool true ∧ σ' = σ := by
  refine a5 (by simp) ?_
  simp (disch := first | assumption | omega | (simp only [List.length_append, List.length_cons, List.length_nil]; omega)) only [go_sem, reduceCtorEq, Nat.reduceEqDiff, Nat.reduceAdd, Nat.reduceSub, Nat.reduceMul, Nat.reduceLeDiff, Int.reduceLT, Int.reduceLE, Int.reduceEq, ↓reduceIte, Int.reduceNeg, Int.reduceAdd, Int.reduceSub, Int.reduceMul, true_imp_iff, forall_const, Nat.mul_one, Int.reduceToNat, Nat.reducePow, Int.reducePow, Bool.true_and, Bool.false_and, Bool.and_false]
  refine allocC_by fun b1 h1 => ?_
  simp (disch := first | assumption | omega | (simp only [List.length_append, List.length_cons, List.length_nil]; omega)) only [go_sem, reduceCtorEq, Nat.reduceEqDiff, Nat.reduceAdd, Nat.reduceSub, Nat.reduceMul, Nat.reduceLeDiff, Int.reduceLT, Int.reduceLE, Int.reduceEq, ↓reduceIte, Int.reduceNeg, Int.reduceAdd, Int.reduceSub, Int.reduceMul, true_imp_iff, forall_const, Nat.mul_one, Int.reduceToNat, Nat.reducePow, Int.reducePow, Bool.true_and, Bool.false_and, Bool.and_false, ASt.set_set]
  refine allocC_by fun b2 h2 => ?_
  have k2 := h2
  repeat (with_reducible replace h2 := set_none h2; obtain ⟨_, _, h2⟩ := h2)
  simp (disch := first | assumption | omega | (simp only [List.length_append, List.length_cons, List.length_nil]; omega)) only [go_sem, reduceCtorEq, Nat.reduceEqDiff, Nat.reduceAdd, Nat.reduceSub, Nat.reduceMul, Nat.reduceLeDiff, Int.reduceLT, Int.reduceLE, Int.reduceEq, ↓reduceIte, Int.reduceNeg, Int.reduceAdd, Int.reduceSub, Int.reduceMul, true_imp_iff, forall_const, Nat.mul_one, Int.reduceToNat, Nat.reducePow, Int.reducePow, Bool.true_and, Bool.false_and, Bool.and_false, ASt.set_set]
  refine allocC_by fun b3 h3 => ?_
  have k3 := h3
  repeat (with_reducible replace h3 := set_none h3; obtain ⟨_, _, h3⟩ := h3)
  simp (disch := first | assumption | omega | (simp only [List.length_append, List.length_cons, List.length_nil]; omega)) only [go_sem, reduceCtorEq, Nat.reduceEqDiff, Nat.reduceAdd, Nat.reduceSub, Nat.reduceMul, Nat.reduceLeDiff, Int.reduceLT, Int.reduceLE, Int.reduceEq, ↓reduceIte, Int.reduceNeg, Int.reduceAdd, Int.reduceSub, Int.reduceMul, true_imp_iff, forall_const, Nat.mul_one, Int.reduceToNat, Nat.reducePow, Int.reducePow, Bool.true_and, Bool.false_and, Bool.and_false, ASt.set_set]
  refine allocC_by fun b4 h4 => ?_
  have k4 := h4
  repeat (with_reducible replace h4 := set_none h4; obtain ⟨_, _, h4⟩ := h4)
  simp (disch := first | assumption | omega | (simp only [List.length_append, List.length_cons, List.length_nil]; omega)) only [go_sem, reduceCtorEq, Nat.reduceEqDiff, Nat.reduceAdd, Nat.reduceSub, Nat.reduceMul, Nat.reduceLeDiff, Int.reduceLT, Int.reduceLE, Int.reduceEq, ↓reduceIte, Int.reduceNeg, Int.reduceAdd, Int.reduceSub, Int.reduceMul, true_imp_iff, forall_const, Nat.mul_one, Int.reduceToNat, Nat.reducePow, Int.reducePow, Bool.true_and, Bool.false_and, Bool.and_false, ASt.set_set]
  refine allocC_by fun b5 h5 => ?_
  have k5 := h5
  repeat (with_reducible replace h5 := set_none h5; obtain ⟨_, _, h5⟩ := h5)
  have p1 := fun τ h1 h2 => print_ok (σ := τ) h1 h2 awl awl_ok (by rw [awl_spell]; decide)
  have p2 := fun τ h1 h2 => print_ok (σ := τ) h1 h2 awr awr_ok (by rw [awr_spell]; decide)
  have p3 := nsize_ok awl (by decide)
  have p4 := ndepth_ok awl (by decide)
  rw [awl_spell] at p1
  rw [awr_spell] at p2
  rw [show awl.size = 5 from rfl] at p3
  rw [show awl.depth = 3 from rfl] at p4
  simp (disch := first | assumption | omega | (simp only [List.length_append, List.length_cons, List.length_nil]; omega)) only [go_sem, reduceCtorEq, Nat.reduceEqDiff, Nat.reduceAdd, Nat.reduceSub, Nat.reduceMul, Nat.reduceLeDiff, Int.reduceLT, Int.reduceLE, Int.reduceEq, ↓reduceIte, Int.reduceNeg, Int.reduceAdd, Int.reduceSub, Int.reduceMul, true_imp_iff, forall_const, Nat.mul_one, Int.reduceToNat, Nat.reducePow, Int.reducePow, Bool.true_and, Bool.false_and, Bool.and_false, ASt.set_set]
  refine ACalls.deep (args' := [awl.av]) rfl ((p1 _ (((((hT.set h1).set k2).set k3).set k4).set k5) (((((hM.set h1).set k2).set k3).set k4).set k5)).mono ?_)
  rintro v σ' ⟨rfl, rfl⟩
  simp (disch := first | assumption | omega | (simp only [List.length_append, List.length_cons, List.length_nil]; omega)) only [go_sem, reduceCtorEq, Nat.reduceEqDiff, Nat.reduceAdd, Nat.reduceSub, Nat.reduceMul, Nat.reduceLeDiff, Int.reduceLT, Int.reduceLE, Int.reduceEq, ↓reduceIte, Int.reduceNeg, Int.reduceAdd, Int.reduceSub, Int.reduceMul, true_imp_iff, forall_const, Nat.mul_one, Int.reduceToNat, Nat.reducePow, Int.reducePow, Bool.true_and, Bool.false_and, Bool.and_false]
  refine ACalls.deep (args' := [awr.av]) rfl ((p2 _ (((((hT.set h1).set k2).set k3).set k4).set k5) (((((hM.set h1).set k2).set k3).set k4).set k5)).mono ?_)
  rintro v σ' ⟨rfl, rfl⟩
  simp (disch := first | assumption | omega | (simp only [List.length_append, List.length_cons, List.length_nil]; omega)) only [go_sem, reduceCtorEq, Nat.reduceEqDiff, Nat.reduceAdd, Nat.reduceSub, Nat.reduceMul, Nat.reduceLeDiff, Int.reduceLT, Int.reduceLE, Int.reduceEq, ↓reduceIte, Int.reduceNeg, Int.reduceAdd, Int.reduceSub, Int.reduceMul, true_imp_iff, forall_const, Nat.mul_one, Int.reduceToNat, Nat.reducePow, Int.reducePow, Bool.true_and, Bool.false_and, Bool.and_false]
  refine ACalls.deep (args' := [awl.av]) rfl (p3.use ?_)
  simp (disch := first | assumption | omega | (simp only [List.length_append, List.length_cons, List.length_nil]; omega)) only [go_sem, reduceCtorEq, Nat.reduceEqDiff, Nat.reduceAdd, Nat.reduceSub, Nat.reduceMul, Nat.reduceLeDiff, Int.reduceLT, Int.reduceLE, Int.reduceEq, ↓reduceIte, Int.reduceNeg, Int.reduceAdd, Int.reduceSub, Int.reduceMul, true_imp_iff, forall_const, Nat.mul_one, Int.reduceToNat, Nat.reducePow, Int.reducePow, Bool.true_and, Bool.false_and, Bool.and_false]
  refine ACalls.deep (args' := [awl.av]) rfl (p4.use ?_)
  simp (disch := first | assumption | omega | (simp only [List.length_append, List.length_cons, List.length_nil]; omega)) only [go_sem, reduceCtorEq, Nat.reduceEqDiff, Nat.reduceAdd, Nat.reduceSub, Nat.reduceMul, Nat.reduceLeDiff, Int.reduceLT, Int.reduceLE, Int.reduceEq, ↓reduceIte, Int.reduceNeg, Int.reduceAdd, Int.reduceSub, Int.reduceMul, true_imp_iff, forall_const, Nat.mul_one, Int.reduceToNat, Nat.reducePow, Int.reducePow, Bool.true_and, Bool.false_and, Bool.and_false]
  exact retC_by (by repeat' (first | exact Drop.refl _ | with_reducible refine Drop.off ?_ (by assumption))) (.refl _) ⟨rfl, rfl⟩
theorem deep_deep : ∀ x : AV, Go.A.deep (Go.A.deep x) = Go.A.deep x := by
  intro x
  exact go x
where
  go : ∀ x : AV, Go.A.deep (Go.A.deep x) = Go.A.deep x
  | .sl _ xs => by rw [Go.A.deep, Go.A.deep, gos xs]
  | .agg xs => by rw [Go.A.deep, Go.A.deep, gos xs]
  | .tuple xs => by rw [Go.A.deep, Go.A.deep, gos xs]
  | .iface t v => by rw [Go.A.deep, Go.A.deep, go v]
  | .any => rfl
  | .bool b => rfl
  | .int k n => rfl
  | .str l => rfl
  | .ptr b o => rfl
  | .imm cs => rfl
  | .nilp => rfl
  | .msl b o n c => rfl
  | .nili => rfl
  | .func fn f c => rfl
  | .nilf => rfl
  gos : ∀ xs : List AV, Go.A.deeps (Go.A.deeps xs) = Go.A.deeps xs
  | [] => rfl
  | x :: xs => by rw [Go.A.deeps, Go.A.deeps, go x, gos xs]
theorem SDrop.cong {σ σ' : ASt} {b : Nat} {c d : List AV} (h : SDrop σ σ') (he : Go.A.deeps c = d) : SDrop (σ.set b (some (.obj c))) (σ'.set b (some (.obj d))) := fun x => by
  by_cases hx : x = b
  · subst hx
    exact .inr (.inr ⟨c, by rw [ASt.set_same], by rw [ASt.set_same, he]⟩)
  · rw [ASt.set_ne hx, ASt.set_ne hx]
    exact h x
theorem set_mid {σ : ASt} {b c : Nat} {X Y Z : Option Role} (h : b ≠ c) : ((σ.set b X).set c Y).set b Z = (σ.set b Z).set c Y := by
  funext x
  simp only [ASt.set]
  by_cases h1 : x = b
  · subst h1; simp [h]
  · simp [h1]
theorem r12signs_ok : Pure Tryd.prog 6 [] (.sl .shr (signL.map AV.str)) := by
  intro σ
  refine a6 (by simp) ?_
  simp (disch := first | assumption | omega | (simp only [List.length_append, List.length_cons, List.length_nil]; omega)) only [go_sem, reduceCtorEq, Nat.reduceEqDiff, Nat.reduceAdd, Nat.reduceSub, Nat.reduceMul, Nat.reduceLeDiff, Int.reduceLT, Int.reduceLE, Int.reduceEq, ↓reduceIte, Int.reduceNeg, Int.reduceAdd, Int.reduceSub, Int.reduceMul, true_imp_iff, forall_const, Nat.mul_one, Int.reduceToNat, Nat.reducePow, Int.reducePow, Bool.true_and, Bool.false_and, Bool.and_false]
  exact retC_by (by repeat' (first | exact Drop.refl _ | with_reducible refine Drop.off ?_ (by assumption))) (.sl _ _) ⟨rfl, rfl⟩
theorem av_bin (op : Int) (x y : Nd) : (binN op x y).av = .agg (Nd.cs op 0 [] .zero .zero [x.av, y.av]) := by unfold binN; rw [Nd.av_cs]; rfl
set_option maxHeartbeats 2000000 in
theorem ExprChains_any {σ : ASt} (hT : Tab σ) (hM : MaxL σ) (op n : Int) : ACalls Tryd.prog 3 [.int .i64 op, .int .i64 n] σ fun v σ' => v = .bool true ∧ σ' = σ := by
  have hA := eawake_ok hT hM
  refine a3 (by simp) ?_
  by_cases h1 : op < 0
  · simp (disch := first | assumption | omega | (simp only [List.length_append, List.length_cons, List.length_nil]; omega)) only [go_sem, reduceCtorEq, Nat.reduceEqDiff, Nat.reduceAdd, Nat.reduceSub, Nat.reduceMul, Nat.reduceLeDiff, Int.reduceLT, Int.reduceLE, Int.reduceEq, ↓reduceIte, Int.reduceNeg, Int.reduceAdd, Int.reduceSub, Int.reduceMul, true_imp_iff, forall_const, Nat.mul_one, Int.reduceToNat, Nat.reducePow, Int.reducePow, Bool.true_and, Bool.false_and, Bool.and_false, h1]
    refine hA.mono ?_
    rintro v σ' ⟨rfl, rfl⟩
    simp (disch := first | assumption | omega | (simp only [List.length_append, List.length_cons, List.length_nil]; omega)) only [go_sem, reduceCtorEq, Nat.reduceEqDiff, Nat.reduceAdd, Nat.reduceSub, Nat.reduceMul, Nat.reduceLeDiff, Int.reduceLT, Int.reduceLE, Int.reduceEq, ↓reduceIte, Int.reduceNeg, Int.reduceAdd, Int.reduceSub, Int.reduceMul, true_imp_iff, forall_const, Nat.mul_one, Int.reduceToNat, Nat.reducePow, Int.reducePow, Bool.true_and, Bool.false_and, Bool.and_false]
    exact retC_by (Drop.refl _) (.refl _) ⟨rfl, rfl⟩
  by_cases h2 : 11 < op
  · simp (disch := first | assumption | omega | (simp only [List.length_append, List.length_cons, List.length_nil]; omega)) only [go_sem, reduceCtorEq, Nat.reduceEqDiff, Nat.reduceAdd, Nat.reduceSub, Nat.reduceMul, Nat.reduceLeDiff, Int.reduceLT, Int.reduceLE, Int.reduceEq, ↓reduceIte, Int.reduceNeg, Int.reduceAdd, Int.reduceSub, Int.reduceMul, true_imp_iff, forall_const, Nat.mul_one, Int.reduceToNat, Nat.reducePow, Int.reducePow, Bool.true_and, Bool.false_and, Bool.and_false, h1, h2]
    refine hA.mono ?_
    rintro v σ' ⟨rfl, rfl⟩
    simp (disch := first | assumption | omega | (simp only [List.length_append, List.length_cons, List.length_nil]; omega)) only [go_sem, reduceCtorEq, Nat.reduceEqDiff, Nat.reduceAdd, Nat.reduceSub, Nat.reduceMul, Nat.reduceLeDiff, Int.reduceLT, Int.reduceLE, Int.reduceEq, ↓reduceIte, Int.reduceNeg, Int.reduceAdd, Int.reduceSub, Int.reduceMul, true_imp_iff, forall_const, Nat.mul_one, Int.reduceToNat, Nat.reducePow, Int.reducePow, Bool.true_and, Bool.false_and, Bool.and_false]
    exact retC_by (Drop.refl _) (.refl _) ⟨rfl, rfl⟩
  by_cases h3 : n < 1
  · simp (disch := first | assumption | omega | (simp only [List.length_append, List.length_cons, List.length_nil]; omega)) only [go_sem, reduceCtorEq, Nat.reduceEqDiff, Nat.reduceAdd, Nat.reduceSub, Nat.reduceMul, Nat.reduceLeDiff, Int.reduceLT, Int.reduceLE, Int.reduceEq, ↓reduceIte, Int.reduceNeg, Int.reduceAdd, Int.reduceSub, Int.reduceMul, true_imp_iff, forall_const, Nat.mul_one, Int.reduceToNat, Nat.reducePow, Int.reducePow, Bool.true_and, Bool.false_and, Bool.and_false, h1, h2, h3]
    refine hA.mono ?_
    rintro v σ' ⟨rfl, rfl⟩
    simp (disch := first | assumption | omega | (simp only [List.length_append, List.length_cons, List.length_nil]; omega)) only [go_sem, reduceCtorEq, Nat.reduceEqDiff, Nat.reduceAdd, Nat.reduceSub, Nat.reduceMul, Nat.reduceLeDiff, Int.reduceLT, Int.reduceLE, Int.reduceEq, ↓reduceIte, Int.reduceNeg, Int.reduceAdd, Int.reduceSub, Int.reduceMul, true_imp_iff, forall_const, Nat.mul_one, Int.reduceToNat, Nat.reducePow, Int.reducePow, Bool.true_and, Bool.false_and, Bool.and_false]
    exact retC_by (Drop.refl _) (.refl _) ⟨rfl, rfl⟩
  by_cases h4 : 200 < n
  · simp (disch := first | assumption | omega | (simp only [List.length_append, List.length_cons, List.length_nil]; omega)) only [go_sem, reduceCtorEq, Nat.reduceEqDiff, Nat.reduceAdd, Nat.reduceSub, Nat.reduceMul, Nat.reduceLeDiff, Int.reduceLT, Int.reduceLE, Int.reduceEq, ↓reduceIte, Int.reduceNeg, Int.reduceAdd, Int.reduceSub, Int.reduceMul, true_imp_iff, forall_const, Nat.mul_one, Int.reduceToNat, Nat.reducePow, Int.reducePow, Bool.true_and, Bool.false_and, Bool.and_false, h1, h2, h3, h4]
    refine hA.mono ?_
    rintro v σ' ⟨rfl, rfl⟩
    simp (disch := first | assumption | omega | (simp only [List.length_append, List.length_cons, List.length_nil]; omega)) only [go_sem, reduceCtorEq, Nat.reduceEqDiff, Nat.reduceAdd, Nat.reduceSub, Nat.reduceMul, Nat.reduceLeDiff, Int.reduceLT, Int.reduceLE, Int.reduceEq, ↓reduceIte, Int.reduceNeg, Int.reduceAdd, Int.reduceSub, Int.reduceMul, true_imp_iff, forall_const, Nat.mul_one, Int.reduceToNat, Nat.reducePow, Int.reducePow, Bool.true_and, Bool.false_and, Bool.and_false]
    exact retC_by (Drop.refl _) (.refl _) ⟨rfl, rfl⟩
  obtain ⟨m, rfl⟩ : ∃ m : Nat, n = m := ⟨n.toNat, by omega⟩
  obtain ⟨j, rfl⟩ : ∃ j : Nat, op = j := ⟨op.toNat, by omega⟩
  have hj : j < 12 := by omega
  have hop : 0 ≤ (j : Int) ∧ (j : Int) ≤ 11 := by omega
  obtain ⟨sg, hsg⟩ : ∃ sg, signL[j]? = some sg := ⟨signL[j]'(by simp [signL]; omega), List.getElem?_eq_getElem _⟩
  have hsg2 : signL.getD j [] = sg := by rw [List.getD_eq_getElem?_getD, hsg]; rfl
  have hsl := sign_len j
  rw [hsg2] at hsl
  have hmg : (signL.map AV.str)[j]? = some (.str sg) := by rw [List.getElem?_map, hsg]; rfl
  have hls : ∀ k, (leftN j k).spell = leftT sg k := fun k => by rw [left_spell hop, Int.toNat_natCast, hsg2]
  have hrs : ∀ k, (rightN j k).spell = rightT sg k := fun k => by rw [right_spell hop, Int.toNat_natCast, hsg2]
  have hll := leftT_len hsl
  have hrl := rightT_len hsl
  have hSg := r12signs_ok
  generalize signL.map AV.str = SL at *
  obtain ⟨G, hG⟩ : ∃ G, G = ACode.wp Tryd.prog c3_32 := ⟨_, rfl⟩
  simp (disch := first | assumption | omega | (simp only [List.length_append, List.length_cons, List.length_nil]; omega)) only [go_sem, reduceCtorEq, Nat.reduceEqDiff, Nat.reduceAdd, Nat.reduceSub, Nat.reduceMul, Nat.reduceLeDiff, Int.reduceLT, Int.reduceLE, Int.reduceEq, ↓reduceIte, Int.reduceNeg, Int.reduceAdd, Int.reduceSub, Int.reduceMul, true_imp_iff, forall_const, Nat.mul_one, Int.reduceToNat, Nat.reducePow, Int.reducePow, Bool.true_and, Bool.false_and, Bool.and_false, h1, h2, h3, h4, ←hG]
  refine allocC_by fun b5 k5 => ?_
  have z5 := k5
  simp (disch := first | assumption | omega | (simp only [List.length_append, List.length_cons, List.length_nil]; omega)) only [go_sem, reduceCtorEq, Nat.reduceEqDiff, Nat.reduceAdd, Nat.reduceSub, Nat.reduceMul, Nat.reduceLeDiff, Int.reduceLT, Int.reduceLE, Int.reduceEq, ↓reduceIte, Int.reduceNeg, Int.reduceAdd, Int.reduceSub, Int.reduceMul, true_imp_iff, forall_const, Nat.mul_one, Int.reduceToNat, Nat.reducePow, Int.reducePow, Bool.true_and, Bool.false_and, Bool.and_false, ASt.set_set, ←hG]
  refine allocC_by fun b6 k6 => ?_
  have z6 := k6
  repeat (with_reducible replace k6 := set_none k6; obtain ⟨_, _, k6⟩ := k6)
  simp (disch := first | assumption | omega | (simp only [List.length_append, List.length_cons, List.length_nil]; omega)) only [go_sem, reduceCtorEq, Nat.reduceEqDiff, Nat.reduceAdd, Nat.reduceSub, Nat.reduceMul, Nat.reduceLeDiff, Int.reduceLT, Int.reduceLE, Int.reduceEq, ↓reduceIte, Int.reduceNeg, Int.reduceAdd, Int.reduceSub, Int.reduceMul, true_imp_iff, forall_const, Nat.mul_one, Int.reduceToNat, Nat.reducePow, Int.reducePow, Bool.true_and, Bool.false_and, Bool.and_false, ←hG]
  refine allocC_by fun b7 k7 => ?_
  have z7 := k7
  repeat (with_reducible replace k7 := set_none k7; obtain ⟨_, _, k7⟩ := k7)
  simp (disch := first | assumption | omega | (simp only [List.length_append, List.length_cons, List.length_nil]; omega)) only [go_sem, reduceCtorEq, Nat.reduceEqDiff, Nat.reduceAdd, Nat.reduceSub, Nat.reduceMul, Nat.reduceLeDiff, Int.reduceLT, Int.reduceLE, Int.reduceEq, ↓reduceIte, Int.reduceNeg, Int.reduceAdd, Int.reduceSub, Int.reduceMul, true_imp_iff, forall_const, Nat.mul_one, Int.reduceToNat, Nat.reducePow, Int.reducePow, Bool.true_and, Bool.false_and, Bool.and_false, ASt.set_set, ←hG]
  have n56 : b5 ≠ b6 := by assumption
  have n57 : b5 ≠ b7 := by assumption
  have n67 : b6 ≠ b7 := by assumption
  have hD : ∀ X Y Z : Option Role, Drop (((σ.set b5 X).set b6 Y).set b7 Z) σ := fun X Y Z => ((Drop.set k5).off k6).off k7
  have hTT : ∀ X Y Z : Option Role, Tab (((σ.set b5 X).set b6 Y).set b7 Z) := fun X Y Z => by
    unfold Tab at hT ⊢
    rw [ASt.set_ne, ASt.set_ne, ASt.set_ne]
    · exact hT
    · intro e; rw [← e, hT] at k5; cases k5
    · intro e; rw [← e, hT] at k6; cases k6
    · intro e; rw [← e, hT] at k7; cases k7
  have hMM : ∀ X Y Z : Option Role, MaxL (((σ.set b5 X).set b6 Y).set b7 Z) := fun X Y Z => by
    obtain ⟨q, hq⟩ := hM
    refine ⟨q, ?_⟩
    rw [ASt.set_ne, ASt.set_ne, ASt.set_ne]
    · exact hq
    · intro e; rw [← e, hq] at k5; cases k5
    · intro e; rw [← e, hq] at k6; cases k6
    · intro e; rw [← e, hq] at k7; cases k7
  rw [set_mid n67, ASt.set_set]
  have hmid : ∀ (ρ : ASt) (X Y Z : Option Role), ((ρ.set b6 X).set b7 Y).set b6 Z = (ρ.set b6 Z).set b7 Y := fun _ _ _ _ => set_mid n67
  refine wp_loop_by (fun (i : Nat) a1 s2 => i ≤ m ∧ (a1 0 = .int .i64 j ∧ a1 1 = .int .i64 m ∧ a1 5 = .ptr b5 0 ∧ a1 6 = .ptr b6 0 ∧ a1 7 = .ptr b7 0 ∧ a1 8 = .str (leftT sg i) ∧ a1 9 = .str (rightT sg i) ∧ a1 10 = .int .i64 i) ∧
      s2 = ((σ.set b5 (some (.obj (numN 10000).av.cells))).set b6 (some (.obj (leftN j i).av.cells))).set b7 (some (.obj (rightN j i).av.cells))) (fun i => m - i) 0
    (Dr.sdrop (((SDrop.refl σ).cong rfl).cong rfl |>.cong rfl) ⟨Nat.zero_le _, ?_, rfl⟩) ?_
  · simp only [leftT, rightT]
    simp (disch := first | assumption | omega | (simp only [List.length_append, List.length_cons, List.length_nil]; omega)) only [go_sem, reduceCtorEq, Nat.reduceEqDiff, Nat.reduceAdd, Nat.reduceSub, Nat.reduceMul, Nat.reduceLeDiff, Int.reduceLT, Int.reduceLE, Int.reduceEq, ↓reduceIte, Int.reduceNeg, Int.reduceAdd, Int.reduceSub, Int.reduceMul, true_imp_iff, forall_const, Nat.mul_one, Int.reduceToNat, Nat.reducePow, Int.reducePow, Bool.true_and, Bool.false_and, Bool.and_false]
  rintro i a1 s2 ⟨hi, hf, rfl⟩
  have hli := hll i
  have hri := hrl i
  by_cases hlt : i < m
  · have hlt' : (i : Int) < m := by omega
    have e1 : binS .add sg [49] = some (.str (sg ++ [49])) := binS_add (by simp only [List.length_cons, List.length_nil]; omega)
    have e2 : binS .add (leftT sg i) (sg ++ [49]) = some (.str (leftT sg (i + 1))) := binS_add (by simp only [List.length_append, List.length_cons, List.length_nil]; omega)
    have e3 : binS .add [49] sg = some (.str (49 :: sg)) := binS_add (by simp only [List.length_cons, List.length_nil]; omega)
    have d6 : Go.A.deeps [.int .i64 (10 + j), .int .i64 0, .str [], .int .i64 0, .int .i64 0, .bool false, .bool false, .int .i64 0, .int .i64 0, .bool false, .bool false, .sl .full [(leftN j i).av, (numN 10000).av]] = (leftN j (i + 1)).av.cells := by
      rw [leftN, av_bin]
      simp only [deeps_cons, deeps_nil, deep_int, deep_str, deep_bool, deep_sl, Nd.deep]
      rfl
    have d7 : Go.A.deeps [.int .i64 (10 + j), .int .i64 0, .str [], .int .i64 0, .int .i64 0, .bool false, .bool false, .int .i64 0, .int .i64 0, .bool false, .bool false, .sl .full [(numN 10000).av, (rightN j i).av]] = (rightN j (i + 1)).av.cells := by
      rw [rightN, av_bin]
      simp only [deeps_cons, deeps_nil, deep_int, deep_str, deep_bool, deep_sl, Nd.deep]
      rfl
    have d5 : Go.A.deeps (numN 10000).av.cells = (numN 10000).av.cells := rfl
    obtain ⟨lc, hlc, hl12, hlf, hl0⟩ : ∃ lc, (leftN j i).av = .agg lc ∧ lc.length = 12 ∧ lc.take 12 = lc ∧ lc.drop 12 = [] := by
      cases leftN j i
      exact ⟨_, Nd.av_cs .., rfl, rfl, rfl⟩
    obtain ⟨rc, hrc, hr12, hrf, hr0⟩ : ∃ rc, (rightN j i).av = .agg rc ∧ rc.length = 12 ∧ rc.take 12 = rc ∧ rc.drop 12 = [] := by
      cases rightN j i
      exact ⟨_, Nd.av_cs .., rfl, rfl, rfl⟩
    obtain ⟨oc, hoc, ho12, hof, ho0⟩ : ∃ oc, (numN 10000).av = .agg oc ∧ oc.length = 12 ∧ oc.take 12 = oc ∧ oc.drop 12 = [] := ⟨_, Nd.av_cs .., rfl, rfl, rfl⟩
    rw [hlc, hoc] at d6
    rw [hrc, hoc] at d7
    rw [hoc] at d5 ⊢
    rw [hlc, hrc]
    simp only [cells_agg] at d5 ⊢
    simp (disch := first | assumption | omega | (simp only [List.length_append, List.length_cons, List.length_nil]; omega)) only [go_sem, reduceCtorEq, Nat.reduceEqDiff, Nat.reduceAdd, Nat.reduceSub, Nat.reduceMul, Nat.reduceLeDiff, Int.reduceLT, Int.reduceLE, Int.reduceEq, ↓reduceIte, Int.reduceNeg, Int.reduceAdd, Int.reduceSub, Int.reduceMul, true_imp_iff, forall_const, Nat.mul_one, Int.reduceToNat, Nat.reducePow, Int.reducePow, Bool.true_and, Bool.false_and, Bool.and_false, hf, hlt', hl12, hlf, hl0, hr12, hrf, hr0, ho12, hof, ho0, hmid, ASt.set_set, ←hG]
    refine hSg.use ?_
    by_cases hi0 : i = 0
    · subst hi0
      have hz : ((0 : Nat) : Int) = 0 := rfl
      have e4 : binS .add (49 :: sg) [49] = some (.str (rightT sg (0 + 1))) := binS_add (by simp only [List.length_cons, List.length_nil]; omega)
      simp (disch := first | assumption | omega | (simp only [List.length_append, List.length_cons, List.length_nil]; omega)) only [go_sem, reduceCtorEq, Nat.reduceEqDiff, Nat.reduceAdd, Nat.reduceSub, Nat.reduceMul, Nat.reduceLeDiff, Int.reduceLT, Int.reduceLE, Int.reduceEq, ↓reduceIte, Int.reduceNeg, Int.reduceAdd, Int.reduceSub, Int.reduceMul, true_imp_iff, forall_const, Nat.mul_one, Int.reduceToNat, Nat.reducePow, Int.reducePow, Bool.true_and, Bool.false_and, Bool.and_false, hf, hmg, e1, e2, hz, ←hG]
      refine hSg.use ?_
      simp (disch := first | assumption | omega | (simp only [List.length_append, List.length_cons, List.length_nil]; omega)) only [go_sem, reduceCtorEq, Nat.reduceEqDiff, Nat.reduceAdd, Nat.reduceSub, Nat.reduceMul, Nat.reduceLeDiff, Int.reduceLT, Int.reduceLE, Int.reduceEq, ↓reduceIte, Int.reduceNeg, Int.reduceAdd, Int.reduceSub, Int.reduceMul, true_imp_iff, forall_const, Nat.mul_one, Int.reduceToNat, Nat.reducePow, Int.reducePow, Bool.true_and, Bool.false_and, Bool.and_false, hf, hmg, e3, e4, ←hG]
      refine ⟨0 + 1, by dsimp only; omega, Dr.sdrop (((SDrop.refl σ).cong d5).cong d6 |>.cong d7) ⟨by omega, ?_, rfl⟩⟩
      simp (disch := first | assumption | omega | (simp only [List.length_append, List.length_cons, List.length_nil]; omega)) only [go_sem, reduceCtorEq, Nat.reduceEqDiff, Nat.reduceAdd, Nat.reduceSub, Nat.reduceMul, Nat.reduceLeDiff, Int.reduceLT, Int.reduceLE, Int.reduceEq, ↓reduceIte, Int.reduceNeg, Int.reduceAdd, Int.reduceSub, Int.reduceMul, true_imp_iff, forall_const, Nat.mul_one, Int.reduceToNat, Nat.reducePow, Int.reducePow, Bool.true_and, Bool.false_and, Bool.and_false, hf]
    · have hi0' : ¬ (i : Int) = 0 := by omega
      obtain ⟨k, rfl⟩ : ∃ k, i = k + 1 := ⟨i - 1, by omega⟩
      have e4 : binS .add (49 :: sg) [40] = some (.str (49 :: sg ++ [40])) := binS_add (by simp only [List.length_cons, List.length_nil]; omega)
      have e4' : 49 :: (sg ++ [40]) = 49 :: sg ++ [40] := rfl
      have e5 : binS .add (49 :: sg ++ [40]) (rightT sg (k + 1)) = some (.str (49 :: sg ++ [40] ++ rightT sg (k + 1))) := binS_add (by simp only [List.length_append, List.length_cons, List.length_nil]; omega)
      have e6 : binS .add (49 :: sg ++ [40] ++ rightT sg (k + 1)) [41] = some (.str (rightT sg (k + 1 + 1))) := binS_add (by simp only [List.length_append, List.length_cons, List.length_nil]; omega)
      generalize 49 :: sg ++ [40] ++ rightT sg (k + 1) = w2 at *
      generalize 49 :: sg ++ [40] = w1 at *
      simp (disch := first | assumption | omega | (simp only [List.length_append, List.length_cons, List.length_nil]; omega)) only [go_sem, reduceCtorEq, Nat.reduceEqDiff, Nat.reduceAdd, Nat.reduceSub, Nat.reduceMul, Nat.reduceLeDiff, Int.reduceLT, Int.reduceLE, Int.reduceEq, ↓reduceIte, Int.reduceNeg, Int.reduceAdd, Int.reduceSub, Int.reduceMul, true_imp_iff, forall_const, Nat.mul_one, Int.reduceToNat, Nat.reducePow, Int.reducePow, Bool.true_and, Bool.false_and, Bool.and_false, hf, hmg, e1, e2, hi0', ←hG]
      refine hSg.use ?_
      simp (disch := first | assumption | omega | (simp only [List.length_append, List.length_cons, List.length_nil]; omega)) only [go_sem, reduceCtorEq, Nat.reduceEqDiff, Nat.reduceAdd, Nat.reduceSub, Nat.reduceMul, Nat.reduceLeDiff, Int.reduceLT, Int.reduceLE, Int.reduceEq, ↓reduceIte, Int.reduceNeg, Int.reduceAdd, Int.reduceSub, Int.reduceMul, true_imp_iff, forall_const, Nat.mul_one, Int.reduceToNat, Nat.reducePow, Int.reducePow, Bool.true_and, Bool.false_and, Bool.and_false, hf, hmg, e3, e4, e5, e6, ←hG]
      refine ⟨k + 1 + 1, by dsimp only; omega, Dr.sdrop (((SDrop.refl σ).cong d5).cong d6 |>.cong d7) ⟨by omega, ?_, rfl⟩⟩
      simp (disch := first | assumption | omega | (simp only [List.length_append, List.length_cons, List.length_nil]; omega)) only [go_sem, reduceCtorEq, Nat.reduceEqDiff, Nat.reduceAdd, Nat.reduceSub, Nat.reduceMul, Nat.reduceLeDiff, Int.reduceLT, Int.reduceLE, Int.reduceEq, ↓reduceIte, Int.reduceNeg, Int.reduceAdd, Int.reduceSub, Int.reduceMul, true_imp_iff, forall_const, Nat.mul_one, Int.reduceToNat, Nat.reducePow, Int.reducePow, Bool.true_and, Bool.false_and, Bool.and_false, hf]
  · have hlt' : ¬ (i : Int) < m := by omega
    obtain rfl : i = m := by omega
    have hA2 := eawake_ok (hTT (some (.obj (numN 10000).av.cells)) (some (.obj (leftN j i).av.cells)) (some (.obj (rightN j i).av.cells))) (hMM _ _ _)
    have p1 := print_ok (hTT (some (.obj (numN 10000).av.cells)) (some (.obj (leftN j i).av.cells)) (some (.obj (rightN j i).av.cells))) (hMM _ _ _) (leftN j i) (left_ok hop i) (by rw [hls]; omega)
    have p2 := print_ok (hTT (some (.obj (numN 10000).av.cells)) (some (.obj (leftN j i).av.cells)) (some (.obj (rightN j i).av.cells))) (hMM _ _ _) (rightN j i) (right_ok hop i) (by rw [hrs]; omega)
    have p3 := ndepth_ok (leftN j i) (by rw [left_size]; omega)
    rw [hls] at p1
    rw [hrs] at p2
    rw [left_depth] at p3
    obtain ⟨lc, hlc, hl12, hlf⟩ : ∃ lc, (leftN j i).av = .agg lc ∧ lc.length = 12 ∧ lc.take 12 = lc := by
      cases leftN j i
      exact ⟨_, Nd.av_cs .., rfl, rfl⟩
    obtain ⟨rc, hrc, hr12, hrf⟩ : ∃ rc, (rightN j i).av = .agg rc ∧ rc.length = 12 ∧ rc.take 12 = rc := by
      cases rightN j i
      exact ⟨_, Nd.av_cs .., rfl, rfl⟩
    rw [hlc] at hA2 p1 p2 p3 ⊢
    rw [hrc] at hA2 p1 p2 ⊢
    simp only [cells_agg] at hA2 p1 p2 ⊢
    have hn1 : ((i + 1 : Nat) : Int) = (i : Int) + 1 := by omega
    rw [hn1] at p3
    simp (disch := first | assumption | omega | (simp only [List.length_append, List.length_cons, List.length_nil]; omega)) only [go_sem, reduceCtorEq, Nat.reduceEqDiff, Nat.reduceAdd, Nat.reduceSub, Nat.reduceMul, Nat.reduceLeDiff, Int.reduceLT, Int.reduceLE, Int.reduceEq, ↓reduceIte, Int.reduceNeg, Int.reduceAdd, Int.reduceSub, Int.reduceMul, true_imp_iff, forall_const, Nat.mul_one, Int.reduceToNat, Nat.reducePow, Int.reducePow, Bool.true_and, Bool.false_and, Bool.and_false, hf, hlt', ←hG]
    rw [hG]
    simp (disch := first | assumption | omega | (simp only [List.length_append, List.length_cons, List.length_nil]; omega)) only [go_sem, reduceCtorEq, Nat.reduceEqDiff, Nat.reduceAdd, Nat.reduceSub, Nat.reduceMul, Nat.reduceLeDiff, Int.reduceLT, Int.reduceLE, Int.reduceEq, ↓reduceIte, Int.reduceNeg, Int.reduceAdd, Int.reduceSub, Int.reduceMul, true_imp_iff, forall_const, Nat.mul_one, Int.reduceToNat, Nat.reducePow, Int.reducePow, Bool.true_and, Bool.false_and, Bool.and_false, hf]
    refine hA2.mono ?_
    rintro v σ' ⟨rfl, rfl⟩
    simp (disch := first | assumption | omega | (simp only [List.length_append, List.length_cons, List.length_nil]; omega)) only [go_sem, reduceCtorEq, Nat.reduceEqDiff, Nat.reduceAdd, Nat.reduceSub, Nat.reduceMul, Nat.reduceLeDiff, Int.reduceLT, Int.reduceLE, Int.reduceEq, ↓reduceIte, Int.reduceNeg, Int.reduceAdd, Int.reduceSub, Int.reduceMul, true_imp_iff, forall_const, Nat.mul_one, Int.reduceToNat, Nat.reducePow, Int.reducePow, Bool.true_and, Bool.false_and, Bool.and_false, hf, hl12, hlf]
    refine p1.mono ?_
    rintro v σ' ⟨rfl, rfl⟩
    simp (disch := first | assumption | omega | (simp only [List.length_append, List.length_cons, List.length_nil]; omega)) only [go_sem, reduceCtorEq, Nat.reduceEqDiff, Nat.reduceAdd, Nat.reduceSub, Nat.reduceMul, Nat.reduceLeDiff, Int.reduceLT, Int.reduceLE, Int.reduceEq, ↓reduceIte, Int.reduceNeg, Int.reduceAdd, Int.reduceSub, Int.reduceMul, true_imp_iff, forall_const, Nat.mul_one, Int.reduceToNat, Nat.reducePow, Int.reducePow, Bool.true_and, Bool.false_and, Bool.and_false, hf, hr12, hrf]
    refine p2.mono ?_
    rintro v σ' ⟨rfl, rfl⟩
    simp (disch := first | assumption | omega | (simp only [List.length_append, List.length_cons, List.length_nil]; omega)) only [go_sem, reduceCtorEq, Nat.reduceEqDiff, Nat.reduceAdd, Nat.reduceSub, Nat.reduceMul, Nat.reduceLeDiff, Int.reduceLT, Int.reduceLE, Int.reduceEq, ↓reduceIte, Int.reduceNeg, Int.reduceAdd, Int.reduceSub, Int.reduceMul, true_imp_iff, forall_const, Nat.mul_one, Int.reduceToNat, Nat.reducePow, Int.reducePow, Bool.true_and, Bool.false_and, Bool.and_false, hf, hl12, hlf]
    refine p3.use ?_
    simp (disch := first | assumption | omega | (simp only [List.length_append, List.length_cons, List.length_nil]; omega)) only [go_sem, reduceCtorEq, Nat.reduceEqDiff, Nat.reduceAdd, Nat.reduceSub, Nat.reduceMul, Nat.reduceLeDiff, Int.reduceLT, Int.reduceLE, Int.reduceEq, ↓reduceIte, Int.reduceNeg, Int.reduceAdd, Int.reduceSub, Int.reduceMul, true_imp_iff, forall_const, Nat.mul_one, Int.reduceToNat, Nat.reducePow, Int.reducePow, Bool.true_and, Bool.false_and, Bool.and_false, hf]
    exact retC_by (hD _ _ _) (.refl _) ⟨rfl, rfl⟩
end Go.A
