/- Part 7 of what ShiftMoves leans on: Ze CodeZg Zg CodeEb Eb CodeEc Ec CodeEd Ed CodeEe Ee. -/
import Derived.Test.YtelbefdoehlmhaaGreatDoorProg
import Derived.KernelRfl
import Derived.Test.YtelbefdoehlmhaaGreatDoorZShiftMovesf
namespace Go.A
open Go.Proofs Go.Lib
set_option maxRecDepth 100000
set_option linter.unusedSimpArgs false
set_option linter.unusedVariables false
theorem word_ok (c : UInt8) : Pure Tryz.prog 62 [.int .u8 c.toNat] (.bool (wordB c)) := by
  intro σ
  refine a62 (by simp) ?_
  have hc := c.toNat_lt
  unfold wordB
  repeat' (first | (simp (disch := first | assumption | omega | (simp only [List.length_append, List.length_cons, List.length_nil]; omega)) only [go_sem, reduceCtorEq, Nat.reduceEqDiff, ↓reduceIte]) | with_reducible refine gC_d (fun h => ?_) (fun h => ?_) | with_reducible refine gC_dn (fun h => ?_) (fun h => ?_) | with_reducible refine condC_d (fun h => ?_) (fun h => ?_) | with_reducible refine condC_n (fun h => ?_) (fun h => ?_) | with_reducible refine condC_b (fun h => ?_) (fun h => ?_) | with_reducible refine boxC_by ?_ fun b hb => ?_)
  all_goals refine retC_by (Drop.refl _) (.refl _) ⟨?_, rfl⟩
  all_goals (simp only [resV_one]) <;> (congr 1) <;> (rw [Bool.eq_iff_iff]; simp only [decide_eq_true_eq]; omega)
theorem digit_ok (c : UInt8) : Pure Tryz.prog 108 [.int .u8 c.toNat] (.bool (digB c)) := by
  intro σ
  refine a108 (by simp) ?_
  have hc := c.toNat_lt
  unfold digB
  repeat' (first | (simp (disch := first | assumption | omega | (simp only [List.length_append, List.length_cons, List.length_nil]; omega)) only [go_sem, reduceCtorEq, Nat.reduceEqDiff, ↓reduceIte]) | with_reducible refine gC_d (fun h => ?_) (fun h => ?_) | with_reducible refine gC_dn (fun h => ?_) (fun h => ?_) | with_reducible refine condC_d (fun h => ?_) (fun h => ?_) | with_reducible refine condC_n (fun h => ?_) (fun h => ?_) | with_reducible refine condC_b (fun h => ?_) (fun h => ?_) | with_reducible refine boxC_by ?_ fun b hb => ?_)
  all_goals refine retC_by (Drop.refl _) (.refl _) ⟨?_, rfl⟩
  all_goals (simp only [resV_one]) <;> (congr 1) <;> (rw [Bool.eq_iff_iff]; simp only [decide_eq_true_eq]; omega)
theorem alike_ok (c : Int) : Pure Tryz.prog 92 [.int .i32 c] (.str (alikeP c)) := by
  intro σ
  refine a92 (by simp) ?_
  unfold alikeP
  by_cases h1 : c = 8804
  · simp (disch := first | assumption | omega | (simp only [List.length_append, List.length_cons, List.length_nil]; omega)) only [go_sem, reduceCtorEq, ↓reduceIte, h1]; exact retC_by (Drop.refl _) (.refl _) ⟨by simp [resV_one], rfl⟩
  by_cases h2 : c = 8805
  · simp (disch := first | assumption | omega | (simp only [List.length_append, List.length_cons, List.length_nil]; omega)) only [go_sem, reduceCtorEq, Nat.reduceEqDiff, Int.reduceEq, ↓reduceIte, h2]; exact retC_by (Drop.refl _) (.refl _) ⟨by simp [resV_one], rfl⟩
  by_cases h3 : c = 8800
  · simp (disch := first | assumption | omega | (simp only [List.length_append, List.length_cons, List.length_nil]; omega)) only [go_sem, reduceCtorEq, Nat.reduceEqDiff, Int.reduceEq, ↓reduceIte, h3]; exact retC_by (Drop.refl _) (.refl _) ⟨by simp [resV_one], rfl⟩
  by_cases h4 : c = 215
  · simp (disch := first | assumption | omega | (simp only [List.length_append, List.length_cons, List.length_nil]; omega)) only [go_sem, reduceCtorEq, Nat.reduceEqDiff, Int.reduceEq, ↓reduceIte, h4]; exact retC_by (Drop.refl _) (.refl _) ⟨by simp [resV_one], rfl⟩
  by_cases h5 : c = 247
  · simp (disch := first | assumption | omega | (simp only [List.length_append, List.length_cons, List.length_nil]; omega)) only [go_sem, reduceCtorEq, Nat.reduceEqDiff, Int.reduceEq, ↓reduceIte, h5]; exact retC_by (Drop.refl _) (.refl _) ⟨by simp [resV_one], rfl⟩
  by_cases h6 : c = 8722
  · simp (disch := first | assumption | omega | (simp only [List.length_append, List.length_cons, List.length_nil]; omega)) only [go_sem, reduceCtorEq, Nat.reduceEqDiff, Int.reduceEq, ↓reduceIte, h6]; exact retC_by (Drop.refl _) (.refl _) ⟨by simp [resV_one], rfl⟩
  simp (disch := first | assumption | omega | (simp only [List.length_append, List.length_cons, List.length_nil]; omega)) only [go_sem, reduceCtorEq, Nat.reduceEqDiff, ↓reduceIte, h1, h2, h3, h4, h5, h6]
  exact retC_by (Drop.refl _) (.refl _) ⟨by simp [resV_one], rfl⟩
theorem isRef_ok (l : List UInt8) (hl : l.length ≤ 9223372036854775000) : Pure Tryz.prog 86 [.str l] (.bool (refB l)) := by
  intro σ
  refine a86 (by simp) ?_
  simp (disch := first | assumption | omega | (simp only [List.length_append, List.length_cons, List.length_nil]; omega)) only [go_sem, reduceCtorEq, ↓reduceIte]
  refine (parse_ok l hl).use ?_
  unfold refB
  obtain ⟨⟨⟨row, col, ar, ac⟩, ok⟩, hq⟩ : ∃ q, parseP l = q := ⟨_, rfl⟩
  rw [hq]
  simp (disch := first | assumption | omega | (simp only [List.length_append, List.length_cons, List.length_nil]; omega)) only [go_sem, Nat.reduceEqDiff, ↓reduceIte, refAV]
  refine allocC_by fun b hb => ?_
  simp (disch := first | assumption | omega | (simp only [List.length_append, List.length_cons, List.length_nil]; omega)) only [go_sem, Nat.reduceEqDiff, Nat.reduceAdd, Nat.reduceLeDiff, ↓reduceIte, Bool.true_and]
  exact retC_by (by repeat' (first | exact Drop.refl _ | with_reducible refine Drop.off ?_ (by assumption))) (.refl _) ⟨rfl, rfl⟩
theorem tgreat_ok (l : List UInt8) (hl : l.length < 4611686018427387904) : Pure Tryz.prog 87 [.str l] (.str (greatP l)) := by
  intro σ
  refine a87 (by simp) ?_
  simp (disch := first | assumption | omega | (simp only [List.length_append, List.length_cons, List.length_nil]; omega)) only [go_sem, reduceCtorEq, ↓reduceIte]
  refine s2b_own fun b cp hb hcp => ?_
  simp (disch := first | assumption | omega | (simp only [List.length_append, List.length_cons, List.length_nil]; omega)) only [go_sem, ↓reduceIte]
  refine wp_loop_on (fun (i : Nat) a σ' => i ≤ l.length ∧ (a 3 = .msl b 0 l.length cp ∧ a 8 = .msl b 0 l.length cp ∧ a 9 = .int .i64 l.length ∧ a 10 = .int .i64 i) ∧ σ' = σ.set b (some (.obj (bytesAV (greatP (l.take i) ++ l.drop i)))))
    (fun i => l.length - i) 0 ⟨Nat.zero_le _, ?_, by simp [greatP]⟩ ?_
  · simp (disch := first | assumption | omega | (simp only [List.length_append, List.length_cons, List.length_nil]; omega)) only [go_sem, Nat.reduceEqDiff, ↓reduceIte]
  rintro i a σ1 ⟨hi, hf, rfl⟩
  obtain ⟨m, hm⟩ : ∃ m, greatP (l.take i) ++ l.drop i = m := ⟨_, rfl⟩
  have hml : m.length = l.length := by rw [← hm]; simp [greatP]; omega
  have hgl : (greatP (l.take i)).length = i := by simp [greatP]; omega
  rw [hm]
  by_cases hlt : i < l.length
  · have hidx : m[i]? = some (l[i]'hlt) := by rw [← hm, List.getElem?_append_right (by omega), hgl]; simp
    obtain ⟨c, hc⟩ : ∃ c, l[i]'hlt = c := ⟨_, rfl⟩
    rw [hc] at hidx
    have hcb := u8_lt c
    have hi2 : (i : Int) < l.length := by omega
    have hle : i + 1 ≤ m.length := by omega
    have hnext : greatP (l.take (i + 1)) ++ l.drop (i + 1) = m.set i (greatC c) := by
      rw [← hm, List.take_succ_eq_append_getElem hlt, hc, List.set_append_right _ _ (by omega), hgl, Nat.sub_self]
      simp only [greatP, List.map_append, List.map_cons, List.map_nil, List.append_assoc, List.singleton_append]
      rw [List.drop_eq_getElem_cons hlt]
      rfl
    by_cases hg : 97 ≤ c.toNat ∧ c.toNat ≤ 122
    · have g1 : (97 : Int) ≤ c.toNat := by omega
      have g2 : (c.toNat : Int) ≤ 122 := by omega
      have hgc : greatC c = UInt8.ofNat (c.toNat - 32) := by unfold greatC; rw [if_pos hg]
      have hw := set_bytes (l := m) (i := i) (m := (c.toNat : Int) - 32) (by omega)
      have hw0 : (c.toNat : Int) - 32 = ((UInt8.ofNat (c.toNat - 32)).toNat : Int) := by rw [u8_nat (by omega)]; omega
      rw [hw0, bytes_set] at hw
      simp (disch := first | assumption | omega | (simp only [List.length_append, List.length_cons, List.length_nil]; omega)) only [go_sem, Nat.reduceEqDiff, ↓reduceIte, Nat.mul_one, Bool.true_and, hf, hi2, hidx, g1, g2, hle, hw0, hw]
      refine ⟨i + 1, by omega, by omega, ?_, by rw [hnext, hgc]⟩
      simp (disch := first | assumption | omega | (simp only [List.length_append, List.length_cons, List.length_nil]; omega)) only [go_sem]
    · have hgc : greatC c = c := by unfold greatC; rw [if_neg hg]
      have hms : m.set i c = m := by
        apply List.ext_getElem?
        intro j
        rw [List.getElem?_set]
        split
        · rename_i h; subst h; rw [hidx]; split <;> first | rfl | omega
        · rfl
      by_cases g1 : (97 : Int) ≤ c.toNat
      · have g2 : ¬ (c.toNat : Int) ≤ 122 := by omega
        simp (disch := first | assumption | omega | (simp only [List.length_append, List.length_cons, List.length_nil]; omega)) only [go_sem, Nat.reduceEqDiff, ↓reduceIte, Nat.mul_one, hf, hi2, hidx, g1, g2]
        refine ⟨i + 1, by omega, by omega, ?_, by rw [hnext, hgc, hms]⟩
        simp (disch := first | assumption | omega | (simp only [List.length_append, List.length_cons, List.length_nil]; omega)) only [go_sem]
      · simp (disch := first | assumption | omega | (simp only [List.length_append, List.length_cons, List.length_nil]; omega)) only [go_sem, Nat.reduceEqDiff, ↓reduceIte, Nat.mul_one, hf, hi2, hidx, g1]
        refine ⟨i + 1, by omega, by omega, ?_, by rw [hnext, hgc, hms]⟩
        simp (disch := first | assumption | omega | (simp only [List.length_append, List.length_cons, List.length_nil]; omega)) only [go_sem]
  · have hi2 : ¬ (i : Int) < l.length := by omega
    have hle2 : l.length ≤ m.length := by omega
    have htk := bytes_all hml
    simp (disch := first | assumption | omega | (simp only [List.length_append, List.length_cons, List.length_nil]; omega)) only [go_sem, Nat.reduceEqDiff, ↓reduceIte, hf, hi2, hle2, htk]
    refine retC_by (by repeat' (first | exact Drop.refl _ | with_reducible refine Drop.off ?_ (by assumption))) (.refl _) ⟨?_, rfl⟩
    rw [← hm, List.take_of_length_le (by omega), List.drop_eq_nil_of_le (by omega), List.append_nil]
    rfl
theorem errs_ok : Pure Tryz.prog 91 [] (.sl .full (errTexts.map AV.str)) := by
  intro σ
  refine a91 (by simp) ?_
  simp (disch := first | assumption | omega | (simp only [List.length_append, List.length_cons, List.length_nil]; omega)) only [go_sem, ↓reduceIte, Bool.true_and]
  exact retC_by (by repeat' (first | exact Drop.refl _ | with_reducible refine Drop.off ?_ (by assumption))) (.refl _) ⟨rfl, rfl⟩
theorem index_dot : ∀ l : List UInt8, (cutDot l).2 = none ∧ indexByte l 46 = -1 ∧ (cutDot l).1 = l ∨ ∃ (i : Nat) (p : List UInt8), indexByte l 46 = i ∧ i < l.length ∧ cutDot l = (l.take i, some p) ∧ p = l.drop (i + 1)
  | [] => .inl ⟨rfl, rfl, rfl⟩
  | c :: l => by
    unfold indexByte cutDot
    by_cases hc : c.toNat = 46
    · have : c = 46 := by apply UInt8.toNat_inj.1; simpa using hc
      subst this
      exact .inr ⟨0, l, by simp, by simp, by simp, by simp⟩
    · have hne : ¬ (c == 46) = true := by
        intro h
        rw [beq_iff_eq] at h
        subst h
        exact hc rfl
      rw [if_neg hc, if_neg hne]
      rcases index_dot l with ⟨h1, h2, h3⟩ | ⟨i, p, h1, h2, h3, h4⟩
      · exact .inl ⟨h1, by rw [h2]; rfl, by rw [h3]⟩
      · refine .inr ⟨i + 1, p, ?_, by simpa using h2, ?_, by simpa using h4⟩
        · rw [h1, if_neg (by rw [beq_iff_eq]; omega)]; rfl
        · rw [h3]; rfl
theorem cutdot_ok (l : List UInt8) (hl : l.length ≤ 1000000000) : Pure Tryz.prog 107 [.str l, .str [46]] (.tuple [.str (cutDot l).1, .str ((cutDot l).2.getD []), .bool (cutDot l).2.isSome]) := by
  have h1 : Pure Tryz.prog 125 [.str l, .str [46]] (.tuple [.str (cutDot l).1, .str ((cutDot l).2.getD []), .bool (cutDot l).2.isSome]) := by
    intro σ
    refine a125 (by simp) ?_
    rcases index_dot l with ⟨h1, h2, h3⟩ | ⟨i, p, h1, h2, h3, h4⟩
    · rw [h1, h3]
      simp (disch := first | assumption | omega | (simp only [List.length_append, List.length_cons, List.length_nil]; omega)) only [go_sem, reduceCtorEq, Nat.reduceEqDiff, ↓reduceIte]
      refine (index_ok l 46).use ?_
      rw [h2]
      simp (disch := first | assumption | omega | (simp only [List.length_append, List.length_cons, List.length_nil]; omega)) only [go_sem, reduceCtorEq, Nat.reduceEqDiff, Int.reduceLE, ↓reduceIte, Int.reduceNeg]
      exact retC_by (by repeat' (first | exact Drop.refl _ | with_reducible refine Drop.off ?_ (by assumption))) (.refl _) ⟨rfl, rfl⟩
    · rw [h3]
      subst h4
      have e1 : (0 : Int) ≤ i := by omega
      have e2 : ((i : Int) + 1).toNat = i + 1 := by omega
      simp (disch := first | assumption | omega | (simp only [List.length_append, List.length_cons, List.length_nil]; omega)) only [go_sem, reduceCtorEq, Nat.reduceEqDiff, ↓reduceIte]
      refine (index_ok l 46).use ?_
      rw [h1]
      simp (disch := first | assumption | omega | (simp only [List.length_append, List.length_cons, List.length_nil]; omega)) only [go_sem, reduceCtorEq, Nat.reduceEqDiff, ↓reduceIte, e1, e2, List.take_length]
      exact retC_by (by repeat' (first | exact Drop.refl _ | with_reducible refine Drop.off ?_ (by assumption))) (.refl _) ⟨rfl, rfl⟩
  intro σ
  refine a107 (by simp) ?_
  simp (disch := first | assumption | omega | (simp only [List.length_append, List.length_cons, List.length_nil]; omega)) only [go_sem, reduceCtorEq, Nat.reduceEqDiff, ↓reduceIte]
  refine h1.use ?_
  simp (disch := first | assumption | omega | (simp only [List.length_append, List.length_cons, List.length_nil]; omega)) only [go_sem, Nat.reduceEqDiff, ↓reduceIte]
  exact retC_by (by repeat' (first | exact Drop.refl _ | with_reducible refine Drop.off ?_ (by assumption))) (.refl _) ⟨rfl, rfl⟩
theorem cutDot_len (l : List UInt8) : (cutDot l).1.length + ((cutDot l).2.getD []).length ≤ l.length := by
  rcases index_dot l with ⟨h1, h2, h3⟩ | ⟨i, p, h1, h2, h3, h4⟩
  · rw [h1, h3]; simp
  · rw [h3, h4]; simp; omega
theorem isNum_ok (l : List UInt8) (hl : l.length ≤ 1000000000) : Pure Tryz.prog 85 [.str l] (.bool (numB l)) := by
  intro σ
  have hcd := cutdot_ok l hl
  have hlen := cutDot_len l
  obtain ⟨R, hR⟩ : ∃ R, numB l = R := ⟨_, rfl⟩
  rw [hR]
  refine a85 (by simp) ?_
  unfold numB at hR
  obtain ⟨⟨w, q⟩, hC⟩ : ∃ C, cutDot l = C := ⟨_, rfl⟩
  rw [hC] at hcd hlen hR
  dsimp only at hcd hlen
  obtain ⟨F, hF⟩ : ∃ F, F = ACode.wp Tryz.prog c85_27 := ⟨_, rfl⟩
  have fin : ∀ (p : List UInt8) (a : AFr), w.length + p.length ≤ l.length → (w ++ p).all digB = R → (a 3 = .str w ∧ a 4 = .str p) → F (RetQ [.t 2] fun v σ' => v = .bool R ∧ σ' = σ) a σ := by
    intro p a hlp hwp hf
    rw [hF]
    have hl2 : w.length + p.length ≤ 9223372036854775807 := by omega
    simp (disch := first | assumption | omega | (simp only [List.length_append, List.length_cons, List.length_nil]; omega)) only [go_sem, Nat.reduceEqDiff, ↓reduceIte, hf]
    refine s2b_shr ?_
    obtain ⟨m, hm⟩ : ∃ m, w ++ p = m := ⟨_, rfl⟩
    rw [hm] at hwp ⊢
    have hml : m.length ≤ 1000000000 := by rw [← hm]; simp; omega
    simp (disch := first | assumption | omega | (simp only [List.length_append, List.length_cons, List.length_nil]; omega)) only [go_sem, ↓reduceIte]
    refine wp_loop_on (fun (i : Nat) a σ' => i ≤ m.length ∧ (m.take i).all digB = true ∧ (a 31 = .sl .shr (bytesAV m) ∧ a 32 = .int .i64 m.length ∧ a 33 = .int .i64 i) ∧ σ' = σ) (fun i => m.length - i) 0 ⟨Nat.zero_le _, rfl, ?_, rfl⟩ ?_
    · simp (disch := first | assumption | omega | (simp only [List.length_append, List.length_cons, List.length_nil]; omega)) only [go_sem, Nat.reduceEqDiff, ↓reduceIte]
    rintro i a σ1 ⟨hi, hall, hf, rfl⟩
    by_cases hlt : i < m.length
    · have hidx : m[i]? = some (m[i]'hlt) := List.getElem?_eq_getElem hlt
      obtain ⟨c, hc⟩ : ∃ c, m[i]'hlt = c := ⟨_, rfl⟩
      rw [hc] at hidx
      have hlt' : (i : Int) < m.length := by omega
      simp (disch := first | assumption | omega | (simp only [List.length_append, List.length_cons, List.length_nil]; omega)) only [go_sem, Nat.reduceEqDiff, ↓reduceIte, hf, hlt', hidx]
      refine (digit_ok c).use ?_
      obtain ⟨d, hd⟩ : ∃ d, digB c = d := ⟨_, rfl⟩
      rw [hd]
      have hnx : (m.take (i + 1)).all digB = d := by
        rw [List.take_succ_eq_append_getElem hlt, hc, List.all_append, hall]
        simp [hd]
      cases d
      · simp (disch := first | assumption | omega | (simp only [List.length_append, List.length_cons, List.length_nil]; omega)) only [go_sem, ↓reduceIte]
        have : m.all digB = false := by
          have h1 := congrArg (fun x => x && (m.drop (i + 1)).all digB) hnx
          simp only [← List.all_append, List.take_append_drop, Bool.false_and] at h1
          exact h1
        rw [this] at hwp
        subst hwp
        exact retC_by (by repeat' (first | exact Drop.refl _ | with_reducible refine Drop.off ?_ (by assumption))) (.refl _) ⟨rfl, rfl⟩
      · simp (disch := first | assumption | omega | (simp only [List.length_append, List.length_cons, List.length_nil]; omega)) only [go_sem, Nat.reduceEqDiff, ↓reduceIte, hf]
        exact ⟨i + 1, by omega, by omega, hnx, rfl⟩
    · have hlt' : ¬ (i : Int) < m.length := by omega
      rw [List.take_of_length_le (by omega), hwp] at hall
      subst hall
      simp (disch := first | assumption | omega | (simp only [List.length_append, List.length_cons, List.length_nil]; omega)) only [go_sem, ↓reduceIte, hf, hlt']
      exact retC_by (by repeat' (first | exact Drop.refl _ | with_reducible refine Drop.off ?_ (by assumption))) (.refl _) ⟨rfl, rfl⟩
  simp (disch := first | assumption | omega | (simp only [List.length_append, List.length_cons, List.length_nil]; omega)) only [go_sem, reduceCtorEq, ↓reduceIte]
  refine hcd.use ?_
  by_cases hw : w = []
  · have : R = false := by
      rw [← hR]
      cases q <;> simp [hw]
    subst hw this
    simp (disch := first | assumption | omega | (simp only [List.length_append, List.length_cons, List.length_nil]; omega)) only [go_sem, Nat.reduceEqDiff, ↓reduceIte, ←hF]
    exact retC_by (by repeat' (first | exact Drop.refl _ | with_reducible refine Drop.off ?_ (by assumption))) (.refl _) ⟨rfl, rfl⟩
  cases q with
  | none =>
    simp (disch := first | assumption | omega | (simp only [List.length_append, List.length_cons, List.length_nil]; omega)) only [go_sem, Nat.reduceEqDiff, ↓reduceIte, hw, Option.isSome_none, Option.getD_none, ←hF]
    refine fin [] _ (by simpa using hlen) (by rw [← hR]; simp [hw]) ?_
    simp (disch := first | assumption | omega | (simp only [List.length_append, List.length_cons, List.length_nil]; omega)) only [go_sem, Nat.reduceEqDiff, ↓reduceIte]
  | some p =>
    dsimp only [Option.getD_some] at hlen
    by_cases hp : p = []
    · have : R = false := by rw [← hR]; simp [hp]
      subst hp this
      simp (disch := first | assumption | omega | (simp only [List.length_append, List.length_cons, List.length_nil]; omega)) only [go_sem, Nat.reduceEqDiff, ↓reduceIte, hw, Option.getD_some, Option.isSome_some, ←hF]
      exact retC_by (by repeat' (first | exact Drop.refl _ | with_reducible refine Drop.off ?_ (by assumption))) (.refl _) ⟨rfl, rfl⟩
    by_cases h4 : 4 < p.length
    · have : R = false := by rw [← hR]; simp [hp, show ¬ p.length ≤ 4 by omega]
      subst this
      have h4' : (4 : Int) < p.length := by omega
      simp (disch := first | assumption | omega | (simp only [List.length_append, List.length_cons, List.length_nil]; omega)) only [go_sem, Nat.reduceEqDiff, ↓reduceIte, hw, hp, h4', Option.getD_some, Option.isSome_some, ←hF]
      exact retC_by (by repeat' (first | exact Drop.refl _ | with_reducible refine Drop.off ?_ (by assumption))) (.refl _) ⟨rfl, rfl⟩
    · have h4' : ¬ (4 : Int) < p.length := by omega
      simp (disch := first | assumption | omega | (simp only [List.length_append, List.length_cons, List.length_nil]; omega)) only [go_sem, Nat.reduceEqDiff, ↓reduceIte, hw, hp, h4', Option.getD_some, Option.isSome_some, ←hF]
      refine fin p _ hlen (by rw [← hR]; simp [hw, hp, show p.length ≤ 4 by omega]) ?_
      simp (disch := first | assumption | omega | (simp only [List.length_append, List.length_cons, List.length_nil]; omega)) only [go_sem, Nat.reduceEqDiff, ↓reduceIte]
theorem isName_ok (l : List UInt8) (hl : l.length ≤ 1000000000) : Pure Tryz.prog 88 [.str l] (.bool (nameB l)) := by
  intro σ
  refine a88 (by simp) ?_
  obtain ⟨R, hR⟩ : ∃ R, nameB l = R := ⟨_, rfl⟩
  rw [hR]
  unfold nameB at hR
  simp (disch := first | assumption | omega | (simp only [List.length_append, List.length_cons, List.length_nil]; omega)) only [go_sem, reduceCtorEq, ↓reduceIte]
  refine wp_loop_on (fun (i : Nat) a σ' => i ≤ l.length ∧ (l.take i).all (fun c => wordB c && decide (c.toNat ≠ 36)) = true ∧ (0 < i → ((l.head?.map fun c => digB c || decide (c.toNat = 46)).getD false) = false) ∧ (a 0 = .str l ∧ a 5 = .int .i64 l.length ∧ a 6 = .int .i64 i) ∧ σ' = σ) (fun i => l.length - i) 0 ⟨Nat.zero_le _, rfl, by omega, ?_, rfl⟩ ?_
  · simp (disch := first | assumption | omega | (simp only [List.length_append, List.length_cons, List.length_nil]; omega)) only [go_sem, reduceCtorEq, Nat.reduceEqDiff, ↓reduceIte]
  rintro i a σ1 ⟨hi, hall, hfst, hf, rfl⟩
  by_cases hlt : i < l.length
  · have hidx : l[i]? = some (l[i]'hlt) := List.getElem?_eq_getElem hlt
    obtain ⟨c, hc⟩ : ∃ c, l[i]'hlt = c := ⟨_, rfl⟩
    rw [hc] at hidx
    have hlt' : (i : Int) < l.length := by omega
    have hstep : (l.take (i + 1)).all (fun c => wordB c && decide (c.toNat ≠ 36)) = (wordB c && decide (c.toNat ≠ 36)) := by
      rw [List.take_succ_eq_append_getElem hlt, hc, List.all_append, hall]
      simp
    have hno : (wordB c && decide (c.toNat ≠ 36)) = false → R = false := by
      intro h
      rw [h] at hstep
      have h1 := congrArg (fun x => x && (l.drop (i + 1)).all (fun c => wordB c && decide (c.toNat ≠ 36))) hstep
      simp only [← List.all_append, List.take_append_drop, Bool.false_and] at h1
      rw [← hR, h1]
      simp
    simp (disch := first | assumption | omega | (simp only [List.length_append, List.length_cons, List.length_nil]; omega)) only [go_sem, reduceCtorEq, Nat.reduceEqDiff, ↓reduceIte, hf, hlt', hidx]
    refine (word_ok c).use ?_
    cases hwd : wordB c with
    | false =>
      obtain rfl := hno (by rw [hwd]; rfl)
      simp (disch := first | assumption | omega | (simp only [List.length_append, List.length_cons, List.length_nil]; omega)) only [go_sem, Nat.reduceEqDiff, ↓reduceIte]
      exact retC_by (by repeat' (first | exact Drop.refl _ | with_reducible refine Drop.off ?_ (by assumption))) (.refl _) ⟨rfl, rfl⟩
    | true =>
    by_cases h36 : (c.toNat : Int) = 36
    · obtain rfl := hno (by rw [hwd]; simp; omega)
      simp (disch := first | assumption | omega | (simp only [List.length_append, List.length_cons, List.length_nil]; omega)) only [go_sem, reduceCtorEq, Nat.reduceEqDiff, ↓reduceIte, hf, hidx, h36]
      exact retC_by (by repeat' (first | exact Drop.refl _ | with_reducible refine Drop.off ?_ (by assumption))) (.refl _) ⟨rfl, rfl⟩
    have hok : (l.take (i + 1)).all (fun c => wordB c && decide (c.toNat ≠ 36)) = true := by rw [hstep, hwd]; simp; omega
    by_cases h0 : i = 0
    · subst h0
      have hhd : l.head? = some c := by
        rw [List.head?_eq_getElem?]; exact hidx
      simp (disch := first | assumption | omega | (simp only [List.length_append, List.length_cons, List.length_nil]; omega)) only [go_sem, reduceCtorEq, Nat.reduceEqDiff, ↓reduceIte, hf, hidx, h36]
      refine (digit_ok c).use ?_
      cases hdg : digB c with
      | true =>
        have : R = false := by rw [← hR, hhd]; simp [hdg]
        subst this
        simp (disch := first | assumption | omega | (simp only [List.length_append, List.length_cons, List.length_nil]; omega)) only [go_sem, Nat.reduceEqDiff, ↓reduceIte]
        exact retC_by (by repeat' (first | exact Drop.refl _ | with_reducible refine Drop.off ?_ (by assumption))) (.refl _) ⟨rfl, rfl⟩
      | false =>
        by_cases h46 : (c.toNat : Int) = 46
        · have : R = false := by rw [← hR, hhd]; simp; intro _ _ _; omega
          subst this
          simp (disch := first | assumption | omega | (simp only [List.length_append, List.length_cons, List.length_nil]; omega)) only [go_sem, reduceCtorEq, Nat.reduceEqDiff, ↓reduceIte, hf, hidx, h46]
          exact retC_by (by repeat' (first | exact Drop.refl _ | with_reducible refine Drop.off ?_ (by assumption))) (.refl _) ⟨rfl, rfl⟩
        · simp (disch := first | assumption | omega | (simp only [List.length_append, List.length_cons, List.length_nil]; omega)) only [go_sem, reduceCtorEq, Nat.reduceEqDiff, ↓reduceIte, Int.reduceAdd, hf, hidx, h46]
          refine ⟨0 + 1, by omega, by omega, hok, ?_, rfl⟩
          intro _
          rw [hhd]
          simp [hdg]
          omega
    · have h0' : ¬ (i : Int) = 0 := by omega
      simp (disch := first | assumption | omega | (simp only [List.length_append, List.length_cons, List.length_nil]; omega)) only [go_sem, reduceCtorEq, Nat.reduceEqDiff, ↓reduceIte, hf, hidx, h36, h0']
      exact ⟨i + 1, by omega, by omega, hok, fun _ => hfst (by omega), rfl⟩
  · have hlt' : ¬ (i : Int) < l.length := by omega
    rw [List.take_of_length_le (by omega)] at hall
    have : R = decide (l ≠ []) := by
      rw [← hR, hall]
      by_cases hne : l = []
      · subst hne; rfl
      · have hpos := List.length_pos_iff.2 hne
        rw [hfst (by omega)]
        simp
    subst this
    simp (disch := first | assumption | omega | (simp only [List.length_append, List.length_cons, List.length_nil]; omega)) only [go_sem, reduceCtorEq, ↓reduceIte, hf, hlt']
    exact retC_by (by repeat' (first | exact Drop.refl _ | with_reducible refine Drop.off ?_ (by assumption))) (.refl _) ⟨by simp [resV_one], rfl⟩
end Go.A
namespace Go.A
open Go.Proofs
/-! 79: (*strings.Builder).WriteByte -/
def c79_0 : ACode := .ops [
 ⟨some 4, none, .q (.mv (.v .nili)), []⟩]
def c79_1 : ACode := .ops [
 ⟨some 5, none, .q (.mv (.t 0)), []⟩,
 ⟨some 6, none, .e (.call 97 [(.t 5)]), []⟩]
def c79_2 : ACode := .ops [
 ⟨some 7, none, .q (.mv (.t 0)), []⟩,
 ⟨some 8, none, .q (.mv (.t 0)), []⟩,
 ⟨some 9, none, .q (.nc (.t 8)), []⟩,
 ⟨some 10, none, .q (.fa 1 (.t 9)), []⟩,
 ⟨some 11, none, .q (.ld none (.t 10)), []⟩,
 ⟨some 12, none, .q (.mv (.t 1)), []⟩,
 ⟨some 13, none, .q (.bsl 1 [(.t 12)]), []⟩,
 ⟨some 14, none, .e (.app 5 1 1 [(.int .u8 0)] (.t 11) (.t 13)), []⟩,
 ⟨some 15, none, .q (.nc (.t 7)), []⟩,
 ⟨some 16, none, .q (.fa 1 (.t 15)), []⟩,
 ⟨none, none, .e (.store 1 (.t 16) (.t 14)), []⟩]
def c79_3 : ACode := .ops [
 ⟨some 4, none, .q (.mv (.v .nili)), []⟩]
def c79_4 : ACode := .seq c79_3 .ret
def c79_5 : ACode := .seq c79_2 c79_4
def c79_6 : ACode := .seq c79_1 c79_5
def c79_7 : ACode := .seq c79_0 c79_6
@[go_sem] theorem c79_0_wp : type_of% (wp_of c79_0.eq_1) := wp_of c79_0.eq_1
@[go_sem] theorem c79_1_wp : type_of% (wp_of c79_1.eq_1) := wp_of c79_1.eq_1
@[go_sem] theorem c79_2_wp : type_of% (wp_of c79_2.eq_1) := wp_of c79_2.eq_1
@[go_sem] theorem c79_3_wp : type_of% (wp_of c79_3.eq_1) := wp_of c79_3.eq_1
@[go_sem] theorem c79_4_wp : type_of% (wp_of c79_4.eq_1) := wp_of c79_4.eq_1
@[go_sem] theorem c79_5_wp : type_of% (wp_of c79_5.eq_1) := wp_of c79_5.eq_1
@[go_sem] theorem c79_6_wp : type_of% (wp_of c79_6.eq_1) := wp_of c79_6.eq_1
@[go_sem] theorem c79_7_wp : type_of% (wp_of c79_7.eq_1) := wp_of c79_7.eq_1
def c79 : AFn := ⟨17, [.t 4], c79_7⟩
set_option maxRecDepth 100000 in
theorem c79_ok : compF Tryz.prog Tryz.f79 = some c79 := by kernel_rfl
theorem a79 {args : List AV} {σ : ASt} {R : AV → ASt → Prop} (hl : args.length ≤ 17) (h : c79_7.wp Tryz.prog (RetQ [.t 4] R) (init args) σ) : ACalls Tryz.prog 79 args σ R := acalls_of Tryz.func79 c79_ok hl h
/-! 89: (*strings.Builder).WriteRune -/
def c89_0 : ACode := .ops [
 ⟨some 4, none, .q (.mv (.v (.int .i64 0))), []⟩,
 ⟨some 5, none, .q (.mv (.v .nili)), []⟩]
def c89_1 : ACode := .ops [
 ⟨some 7, none, .q (.mv (.t 0)), []⟩,
 ⟨some 8, none, .e (.call 97 [(.t 7)]), []⟩]
def c89_2 : ACode := .ops [
 ⟨some 9, none, .q (.mv (.t 0)), []⟩,
 ⟨some 10, none, .q (.nc (.t 9)), []⟩,
 ⟨some 11, none, .q (.fa 1 (.t 10)), []⟩,
 ⟨some 12, none, .q (.ld none (.t 11)), []⟩,
 ⟨some 13, none, .q (.len (.t 12)), []⟩,
 ⟨some 6, none, .q (.mv (.t 13)), []⟩]
def c89_3 : ACode := .ops [
 ⟨some 14, none, .q (.mv (.t 0)), []⟩,
 ⟨some 15, none, .q (.mv (.t 0)), []⟩,
 ⟨some 16, none, .q (.nc (.t 15)), []⟩,
 ⟨some 17, none, .q (.fa 1 (.t 16)), []⟩,
 ⟨some 18, none, .q (.ld none (.t 17)), []⟩,
 ⟨some 19, none, .q (.mv (.t 1)), []⟩,
 ⟨some 20, none, .e (.call 110 [(.t 18), (.t 19)]), []⟩,
 ⟨some 21, none, .q (.nc (.t 14)), []⟩,
 ⟨some 22, none, .q (.fa 1 (.t 21)), []⟩,
 ⟨none, none, .e (.store 1 (.t 22) (.t 20)), []⟩]
def c89_4 : ACode := .ops [
 ⟨some 23, none, .q (.mv (.t 0)), []⟩,
 ⟨some 24, none, .q (.nc (.t 23)), []⟩,
 ⟨some 25, none, .q (.fa 1 (.t 24)), []⟩,
 ⟨some 26, none, .q (.ld none (.t 25)), []⟩,
 ⟨some 27, none, .q (.len (.t 26)), []⟩,
 ⟨some 28, none, .q (.mv (.t 6)), []⟩,
 ⟨some 29, none, .q (.bin .sub (.t 27) (.t 28)), []⟩,
 ⟨some 4, none, .q (.mv (.t 29)), []⟩,
 ⟨some 5, none, .q (.mv (.v .nili)), []⟩]
def c89_5 : ACode := .seq c89_4 .ret
def c89_6 : ACode := .seq c89_3 c89_5
def c89_7 : ACode := .seq c89_2 c89_6
def c89_8 : ACode := .seq c89_1 c89_7
def c89_9 : ACode := .seq c89_0 c89_8
@[go_sem] theorem c89_0_wp : type_of% (wp_of c89_0.eq_1) := wp_of c89_0.eq_1
@[go_sem] theorem c89_1_wp : type_of% (wp_of c89_1.eq_1) := wp_of c89_1.eq_1
@[go_sem] theorem c89_2_wp : type_of% (wp_of c89_2.eq_1) := wp_of c89_2.eq_1
@[go_sem] theorem c89_3_wp : type_of% (wp_of c89_3.eq_1) := wp_of c89_3.eq_1
@[go_sem] theorem c89_4_wp : type_of% (wp_of c89_4.eq_1) := wp_of c89_4.eq_1
@[go_sem] theorem c89_5_wp : type_of% (wp_of c89_5.eq_1) := wp_of c89_5.eq_1
@[go_sem] theorem c89_6_wp : type_of% (wp_of c89_6.eq_1) := wp_of c89_6.eq_1
@[go_sem] theorem c89_7_wp : type_of% (wp_of c89_7.eq_1) := wp_of c89_7.eq_1
@[go_sem] theorem c89_8_wp : type_of% (wp_of c89_8.eq_1) := wp_of c89_8.eq_1
@[go_sem] theorem c89_9_wp : type_of% (wp_of c89_9.eq_1) := wp_of c89_9.eq_1
def c89 : AFn := ⟨30, [.t 4, .t 5], c89_9⟩
set_option maxRecDepth 100000 in
theorem c89_ok : compF Tryz.prog Tryz.f89 = some c89 := by kernel_rfl
theorem a89 {args : List AV} {σ : ASt} {R : AV → ASt → Prop} (hl : args.length ≤ 30) (h : c89_9.wp Tryz.prog (RetQ [.t 4, .t 5] R) (init args) σ) : ACalls Tryz.prog 89 args σ R := acalls_of Tryz.func89 c89_ok hl h
/-! 110: unicode/utf8.AppendRune -/
def c110_0 : ACode := .ops [
 ⟨some 4, none, .q (.mv (.v (.sl .full []))), []⟩]
def c110_1 : ACode := .ops [
 ⟨some 5, none, .q (.mv (.t 1)), []⟩,
 ⟨some 6, none, .q (.conv .u32 (.t 5)), []⟩,
 ⟨some 7, none, .q (.bin .leq (.t 6) (.v (.int .u32 127))), []⟩]
def c110_2 : ACode := .ops [
 ⟨some 8, none, .q (.mv (.t 0)), []⟩,
 ⟨some 9, none, .q (.mv (.t 1)), []⟩,
 ⟨some 10, none, .q (.conv .u8 (.t 9)), []⟩,
 ⟨some 11, none, .q (.bsl 1 [(.t 10)]), []⟩,
 ⟨some 12, none, .e (.app 5 1 1 [(.int .u8 0)] (.t 8) (.t 11)), []⟩,
 ⟨some 4, none, .q (.mv (.t 12)), []⟩]
def c110_3 : ACode := .seq c110_2 .ret
def c110_4 : ACode := .cond (.t 7) c110_3 .skip
def c110_5 : ACode := .seq c110_1 c110_4
def c110_6 : ACode := .ops [
 ⟨some 13, none, .q (.mv (.t 0)), []⟩,
 ⟨some 14, none, .q (.mv (.t 1)), []⟩,
 ⟨some 15, none, .e (.call 127 [(.t 13), (.t 14)]), []⟩,
 ⟨some 4, none, .q (.mv (.t 15)), []⟩]
def c110_7 : ACode := .seq c110_6 .ret
def c110_8 : ACode := .seq c110_5 c110_7
def c110_9 : ACode := .seq c110_0 c110_8
@[go_sem] theorem c110_0_wp : type_of% (wp_of c110_0.eq_1) := wp_of c110_0.eq_1
@[go_sem] theorem c110_1_wp : type_of% (wp_of c110_1.eq_1) := wp_of c110_1.eq_1
@[go_sem] theorem c110_2_wp : type_of% (wp_of c110_2.eq_1) := wp_of c110_2.eq_1
@[go_sem] theorem c110_3_wp : type_of% (wp_of c110_3.eq_1) := wp_of c110_3.eq_1
@[go_sem] theorem c110_4_wp : type_of% (wp_of c110_4.eq_1) := wp_of c110_4.eq_1
@[go_sem] theorem c110_5_wp : type_of% (wp_of c110_5.eq_1) := wp_of c110_5.eq_1
@[go_sem] theorem c110_6_wp : type_of% (wp_of c110_6.eq_1) := wp_of c110_6.eq_1
@[go_sem] theorem c110_7_wp : type_of% (wp_of c110_7.eq_1) := wp_of c110_7.eq_1
@[go_sem] theorem c110_8_wp : type_of% (wp_of c110_8.eq_1) := wp_of c110_8.eq_1
@[go_sem] theorem c110_9_wp : type_of% (wp_of c110_9.eq_1) := wp_of c110_9.eq_1
def c110 : AFn := ⟨16, [.t 4], c110_9⟩
set_option maxRecDepth 100000 in
theorem c110_ok : compF Tryz.prog Tryz.f110 = some c110 := by kernel_rfl
theorem a110 {args : List AV} {σ : ASt} {R : AV → ASt → Prop} (hl : args.length ≤ 16) (h : c110_9.wp Tryz.prog (RetQ [.t 4] R) (init args) σ) : ACalls Tryz.prog 110 args σ R := acalls_of Tryz.func110 c110_ok hl h
/-! 127: unicode/utf8.appendRuneNonASCII -/
def c127_0 : ACode := .ops [
 ⟨some 4, none, .q (.mv (.v (.sl .full []))), []⟩]
def c127_1 : ACode := .ops [
 ⟨some 6, none, .q (.mv (.t 1)), []⟩,
 ⟨some 7, none, .q (.conv .u32 (.t 6)), []⟩,
 ⟨some 5, none, .q (.mv (.t 7)), []⟩]
def c127_2 : ACode := .ops [
 ⟨some 12, none, .q (.mv (.t 5)), []⟩,
 ⟨some 13, none, .q (.bin .leq (.t 12) (.v (.int .u32 2047))), []⟩,
 ⟨some 11, none, .q (.mv (.t 13)), []⟩]
def c127_3 : ACode := .ops [
 ⟨some 14, none, .q (.mv (.t 0)), []⟩,
 ⟨some 15, none, .q (.mv (.t 1)), []⟩,
 ⟨some 16, none, .q (.bin .shr (.t 15) (.v (.int .u64 6))), []⟩,
 ⟨some 17, none, .q (.conv .u8 (.t 16)), []⟩,
 ⟨some 18, none, .q (.bin .or (.v (.int .u8 192)) (.t 17)), []⟩,
 ⟨some 19, none, .q (.mv (.t 1)), []⟩,
 ⟨some 20, none, .q (.conv .u8 (.t 19)), []⟩,
 ⟨some 21, none, .q (.bin .and (.t 20) (.v (.int .u8 63))), []⟩,
 ⟨some 22, none, .q (.bin .or (.v (.int .u8 128)) (.t 21)), []⟩,
 ⟨some 23, none, .q (.bsl 1 [(.t 18), (.t 22)]), []⟩,
 ⟨some 24, none, .e (.app 5 1 1 [(.int .u8 0)] (.t 14) (.t 23)), []⟩,
 ⟨some 4, none, .q (.mv (.t 24)), []⟩]
def c127_4 : ACode := .seq c127_3 .ret
def c127_5 : ACode := .ops [
 ⟨some 26, none, .q (.mv (.t 5)), []⟩,
 ⟨some 27, none, .q (.bin .lss (.t 26) (.v (.int .u32 55296))), []⟩,
 ⟨some 25, none, .q (.mv (.t 27)), []⟩]
def c127_6 : ACode := .ops [
 ⟨some 28, none, .q (.mv (.t 5)), []⟩,
 ⟨some 29, none, .q (.bin .lss (.v (.int .u32 57343)) (.t 28)), []⟩,
 ⟨some 30, none, .q (.mv (.t 29)), []⟩,
 ⟨some 31, some (30, true), .q (.mv (.t 5)), []⟩,
 ⟨some 32, some (30, true), .q (.bin .leq (.t 31) (.v (.int .u32 65535))), []⟩,
 ⟨some 33, none, .q (.pick (.t 30) (.t 32) (.v (.bool false))), []⟩,
 ⟨some 25, none, .q (.mv (.t 33)), []⟩]
def c127_7 : ACode := .cond (.t 25) .skip c127_6
def c127_8 : ACode := .seq c127_5 c127_7
def c127_9 : ACode := .ops [
 ⟨some 34, none, .q (.mv (.t 0)), []⟩,
 ⟨some 35, none, .q (.mv (.t 1)), []⟩,
 ⟨some 36, none, .q (.bin .shr (.t 35) (.v (.int .u64 12))), []⟩,
 ⟨some 37, none, .q (.conv .u8 (.t 36)), []⟩,
 ⟨some 38, none, .q (.bin .or (.v (.int .u8 224)) (.t 37)), []⟩,
 ⟨some 39, none, .q (.mv (.t 1)), []⟩,
 ⟨some 40, none, .q (.bin .shr (.t 39) (.v (.int .u64 6))), []⟩,
 ⟨some 41, none, .q (.conv .u8 (.t 40)), []⟩,
 ⟨some 42, none, .q (.bin .and (.t 41) (.v (.int .u8 63))), []⟩,
 ⟨some 43, none, .q (.bin .or (.v (.int .u8 128)) (.t 42)), []⟩,
 ⟨some 44, none, .q (.mv (.t 1)), []⟩,
 ⟨some 45, none, .q (.conv .u8 (.t 44)), []⟩,
 ⟨some 46, none, .q (.bin .and (.t 45) (.v (.int .u8 63))), []⟩,
 ⟨some 47, none, .q (.bin .or (.v (.int .u8 128)) (.t 46)), []⟩,
 ⟨some 48, none, .q (.bsl 1 [(.t 38), (.t 43), (.t 47)]), []⟩,
 ⟨some 49, none, .e (.app 5 1 1 [(.int .u8 0)] (.t 34) (.t 48)), []⟩,
 ⟨some 4, none, .q (.mv (.t 49)), []⟩]
def c127_10 : ACode := .seq c127_9 .ret
def c127_11 : ACode := .ops [
 ⟨some 51, none, .q (.mv (.t 5)), []⟩,
 ⟨some 52, none, .q (.bin .gtr (.t 51) (.v (.int .u32 65535))), []⟩,
 ⟨some 53, none, .q (.mv (.t 52)), []⟩,
 ⟨some 54, some (53, true), .q (.mv (.t 5)), []⟩,
 ⟨some 55, some (53, true), .q (.bin .leq (.t 54) (.v (.int .u32 1114111))), []⟩,
 ⟨some 56, none, .q (.pick (.t 53) (.t 55) (.v (.bool false))), []⟩,
 ⟨some 50, none, .q (.mv (.t 56)), []⟩]
def c127_12 : ACode := .ops [
 ⟨some 57, none, .q (.mv (.t 0)), []⟩,
 ⟨some 58, none, .q (.mv (.t 1)), []⟩,
 ⟨some 59, none, .q (.bin .shr (.t 58) (.v (.int .u64 18))), []⟩,
 ⟨some 60, none, .q (.conv .u8 (.t 59)), []⟩,
 ⟨some 61, none, .q (.bin .or (.v (.int .u8 240)) (.t 60)), []⟩,
 ⟨some 62, none, .q (.mv (.t 1)), []⟩,
 ⟨some 63, none, .q (.bin .shr (.t 62) (.v (.int .u64 12))), []⟩,
 ⟨some 64, none, .q (.conv .u8 (.t 63)), []⟩,
 ⟨some 65, none, .q (.bin .and (.t 64) (.v (.int .u8 63))), []⟩,
 ⟨some 66, none, .q (.bin .or (.v (.int .u8 128)) (.t 65)), []⟩,
 ⟨some 67, none, .q (.mv (.t 1)), []⟩,
 ⟨some 68, none, .q (.bin .shr (.t 67) (.v (.int .u64 6))), []⟩,
 ⟨some 69, none, .q (.conv .u8 (.t 68)), []⟩,
 ⟨some 70, none, .q (.bin .and (.t 69) (.v (.int .u8 63))), []⟩,
 ⟨some 71, none, .q (.bin .or (.v (.int .u8 128)) (.t 70)), []⟩,
 ⟨some 72, none, .q (.mv (.t 1)), []⟩,
 ⟨some 73, none, .q (.conv .u8 (.t 72)), []⟩,
 ⟨some 74, none, .q (.bin .and (.t 73) (.v (.int .u8 63))), []⟩,
 ⟨some 75, none, .q (.bin .or (.v (.int .u8 128)) (.t 74)), []⟩,
 ⟨some 76, none, .q (.bsl 1 [(.t 61), (.t 66), (.t 71), (.t 75)]), []⟩,
 ⟨some 77, none, .e (.app 5 1 1 [(.int .u8 0)] (.t 57) (.t 76)), []⟩,
 ⟨some 4, none, .q (.mv (.t 77)), []⟩]
def c127_13 : ACode := .seq c127_12 .ret
def c127_14 : ACode := .ops [
 ⟨some 8, none, .q (.mv (.t 0)), []⟩,
 ⟨some 9, none, .q (.bsl 1 [(.v (.int .u8 239)), (.v (.int .u8 191)), (.v (.int .u8 189))]), []⟩,
 ⟨some 10, none, .e (.app 5 1 1 [(.int .u8 0)] (.t 8) (.t 9)), []⟩,
 ⟨some 4, none, .q (.mv (.t 10)), []⟩]
def c127_15 : ACode := .seq c127_14 .ret
def c127_16 : ACode := .cond (.t 50) c127_13 c127_15
def c127_17 : ACode := .seq c127_11 c127_16
def c127_18 : ACode := .cond (.t 25) c127_10 c127_17
def c127_19 : ACode := .seq c127_8 c127_18
def c127_20 : ACode := .cond (.t 11) c127_4 c127_19
def c127_21 : ACode := .seq c127_2 c127_20
def c127_22 : ACode := .block 0 c127_21
def c127_23 : ACode := .seq c127_1 c127_22
def c127_24 : ACode := .seq c127_0 c127_23
@[go_sem] theorem c127_0_wp : type_of% (wp_of c127_0.eq_1) := wp_of c127_0.eq_1
@[go_sem] theorem c127_1_wp : type_of% (wp_of c127_1.eq_1) := wp_of c127_1.eq_1
@[go_sem] theorem c127_2_wp : type_of% (wp_of c127_2.eq_1) := wp_of c127_2.eq_1
@[go_sem] theorem c127_3_wp : type_of% (wp_of c127_3.eq_1) := wp_of c127_3.eq_1
@[go_sem] theorem c127_4_wp : type_of% (wp_of c127_4.eq_1) := wp_of c127_4.eq_1
@[go_sem] theorem c127_5_wp : type_of% (wp_of c127_5.eq_1) := wp_of c127_5.eq_1
@[go_sem] theorem c127_6_wp : type_of% (wp_of c127_6.eq_1) := wp_of c127_6.eq_1
@[go_sem] theorem c127_7_wp : type_of% (wp_of c127_7.eq_1) := wp_of c127_7.eq_1
@[go_sem] theorem c127_8_wp : type_of% (wp_of c127_8.eq_1) := wp_of c127_8.eq_1
@[go_sem] theorem c127_9_wp : type_of% (wp_of c127_9.eq_1) := wp_of c127_9.eq_1
@[go_sem] theorem c127_10_wp : type_of% (wp_of c127_10.eq_1) := wp_of c127_10.eq_1
@[go_sem] theorem c127_11_wp : type_of% (wp_of c127_11.eq_1) := wp_of c127_11.eq_1
@[go_sem] theorem c127_12_wp : type_of% (wp_of c127_12.eq_1) := wp_of c127_12.eq_1
@[go_sem] theorem c127_13_wp : type_of% (wp_of c127_13.eq_1) := wp_of c127_13.eq_1
@[go_sem] theorem c127_16_wp : type_of% (wp_of c127_16.eq_1) := wp_of c127_16.eq_1
@[go_sem] theorem c127_17_wp : type_of% (wp_of c127_17.eq_1) := wp_of c127_17.eq_1
@[go_sem] theorem c127_18_wp : type_of% (wp_of c127_18.eq_1) := wp_of c127_18.eq_1
@[go_sem] theorem c127_19_wp : type_of% (wp_of c127_19.eq_1) := wp_of c127_19.eq_1
@[go_sem] theorem c127_20_wp : type_of% (wp_of c127_20.eq_1) := wp_of c127_20.eq_1
@[go_sem] theorem c127_21_wp : type_of% (wp_of c127_21.eq_1) := wp_of c127_21.eq_1
@[go_sem] theorem c127_22_wp : type_of% (wp_of c127_22.eq_1) := wp_of c127_22.eq_1
@[go_sem] theorem c127_23_wp : type_of% (wp_of c127_23.eq_1) := wp_of c127_23.eq_1
@[go_sem] theorem c127_24_wp : type_of% (wp_of c127_24.eq_1) := wp_of c127_24.eq_1
def c127 : AFn := ⟨78, [.t 4], c127_24⟩
set_option maxRecDepth 100000 in
theorem c127_ok : compF Tryz.prog Tryz.f127 = some c127 := by kernel_rfl
theorem a127 {args : List AV} {σ : ASt} {R : AV → ASt → Prop} (hl : args.length ≤ 78) (h : c127_24.wp Tryz.prog (RetQ [.t 4] R) (init args) σ) : ACalls Tryz.prog 127 args σ R := acalls_of Tryz.func127 c127_ok hl h
end Go.A
namespace Go.A
set_option linter.unusedSimpArgs false
set_option linter.unusedVariables false
theorem ne_of_role {σ : ASt} {b c : Nat} {r : Role} (h : σ b = some r) (k : σ c = none) : b ≠ c ∧ c ≠ b := by
  constructor <;> rintro rfl <;> rw [h] at k <;> cases k
def GO (σ0 : ASt) (b : Nat) (cs : SK → List AV) (n s : Nat) (σ : ASt) : Prop := ∃ k, Grown (σ0.set b (some (.obj (cs k)))) σ k n s
theorem GO.cell {σ0 σ : ASt} {b n s : Nat} {k : SK} {cs : SK → List AV} (h : Grown (σ0.set b (some (.obj (cs k)))) σ k n s) : σ b = some (.obj (cs k)) := h.at (ASt.set_same _ _ _)
theorem GO.add {σ0 σ : ASt} {b c n s : Nat} {cs : SK → List AV} {r : Role} (h : GO σ0 b cs n s σ) (hc : σ c = none) : GO (σ0.set c (some r)) b cs n s (σ.set c (some r)) ∧ c ≠ b ∧ σ0 c = none := by
  obtain ⟨k, hg⟩ := h
  have hb := GO.cell hg
  have hcb : c ≠ b := by rintro rfl; rw [hb] at hc; cases hc
  have h0 : σ0 c = none := by
    rcases hg with ⟨_, _, rfl⟩ | ⟨t, T, _, _, rfl⟩
    · rwa [ASt.set_ne hcb] at hc
    · obtain ⟨_, _, hc⟩ := set_none hc
      rwa [ASt.set_ne hcb] at hc
  refine ⟨⟨k, ?_⟩, hcb, h0⟩
  rcases hg with ⟨h1, h2, rfl⟩ | ⟨t, T, h1, h2, rfl⟩
  · exact .inl ⟨h1, h2, set_swap (Ne.symm hcb)⟩
  · obtain ⟨h3, h4, _⟩ := set_none hc
    obtain ⟨h5, h6, h7⟩ := set_none h2
    refine .inr ⟨t, T, h1, ?_, ?_⟩
    · rw [ASt.set_ne h5, ASt.set_ne (Ne.symm h3)]; exact h7
    · rw [set_swap h4, set_swap (Ne.symm hcb)]
theorem GO.off {σ0 σ : ASt} {b c n s : Nat} {cs : SK → List AV} {r : Role} (h : GO (σ0.set c (some r)) b cs n s σ) (hcb : c ≠ b) (hc : σ0 c = none) : ∃ σ', Drop σ σ' ∧ GO σ0 b cs n s σ' := by
  obtain ⟨k, hg⟩ := h
  rcases hg with ⟨h1, h2, rfl⟩ | ⟨t, T, h1, h2, rfl⟩
  · refine ⟨σ0.set b (some (.obj (cs k))), ?_, ⟨k, .inl ⟨h1, h2, rfl⟩⟩⟩
    rw [set_swap hcb]
    exact Drop.set (by rw [ASt.set_ne hcb]; exact hc)
  · obtain ⟨h3, h4, h5⟩ := set_none h2
    obtain ⟨h6, h7, h8⟩ := set_none h5
    have e : ((σ0.set c (some r)).set b (some (.obj (cs k)))).set t (some (.tok (n * s))) = ((σ0.set b (some (.obj (cs k)))).set t (some (.tok (n * s)))).set c (some r) := by
      rw [set_swap hcb, set_swap h7]
    refine ⟨(σ0.set b (some (.obj (cs k)))).set t (some (.tok (n * s))), ?_, ⟨k, .inr ⟨t, T, h1, ?_, rfl⟩⟩⟩
    · rw [e]
      exact Drop.set (by rw [ASt.set_ne h7, ASt.set_ne hcb]; exact hc)
    · rw [ASt.set_ne h3]; exact h8
theorem GO.at {σ0 σ : ASt} {b n s x : Nat} {cs : SK → List AV} {r : Role} (h : GO σ0 b cs n s σ) (hx : x ≠ b) (h0 : σ0 x = some r) : σ x = some r := by
  obtain ⟨k, hg⟩ := h
  exact hg.at (by rw [ASt.set_ne hx]; exact h0)
inductive Over (τ : ASt) : ASt → Prop
  | refl : Over τ τ
  | set {σ : ASt} (c : Nat) (r : Role) : Over τ σ → σ c = none → Over τ (σ.set c (some r))
theorem Over.at {τ σ : ASt} (h : Over τ σ) {x : Nat} {r : Role} (hx : τ x = some r) : σ x = some r := by
  induction h with
  | refl => exact hx
  | set c q h hc ih =>
    have : x ≠ c := by rintro rfl; rw [ih] at hc; cases hc
    rw [ASt.set_ne this]; exact ih
theorem Over.drop {τ σ : ASt} (h : Over τ σ) : Drop σ τ := by
  induction h with
  | refl => exact Drop.refl _
  | set c q h hc ih =>
    intro x
    by_cases hx : x = c
    · subst hx
      rcases ih x with h1 | h1
      · exact .inr (h1.trans hc)
      · exact .inr h1
    · rcases ih x with h1 | h1
      · exact .inl (by rw [ASt.set_ne hx]; exact h1)
      · exact .inr h1
theorem Over.trans {τ σ ρ : ASt} (h : Over τ σ) (k : Over σ ρ) : Over τ ρ := by
  induction k with
  | refl => exact h
  | set c r _ hc ih => exact .set c r ih hc
theorem GO.over {σ0 τ σ : ASt} {b n s : Nat} {cs : SK → List AV} (h : GO σ0 b cs n s τ) (ho : Over τ σ) :
    ∃ σ0', GO σ0' b cs n s σ ∧ Over σ0 σ0' ∧ ∀ cs' n' σ', GO σ0' b cs' n' s σ' → ∃ σ'', Drop σ' σ'' ∧ GO σ0 b cs' n' s σ'' := by
  induction ho with
  | refl => exact ⟨σ0, h, .refl, fun cs' n' σ' h' => ⟨σ', Drop.refl _, h'⟩⟩
  | set c r ho hc ih =>
    obtain ⟨σ0', h1, h2, h3⟩ := ih
    obtain ⟨h4, h5, h6⟩ := h1.add (r := r) hc
    refine ⟨σ0'.set c (some r), h4, .set c r h2 h6, fun cs' n' σ' h' => ?_⟩
    obtain ⟨σ1, h7, h8⟩ := h'.off h5 h6
    obtain ⟨σ2, h9, h10⟩ := h3 _ _ _ h8
    exact ⟨σ2, h7.trans h9, h10⟩
def BW (T U : TypeId) (σ0 : ASt) (b : Nat) (l : List UInt8) (σ : ASt) : Prop :=
  (l = [] ∧ σ = σ0.set b (some (.typ T [.pointer none, .slice none 0 0]))) ∨ (l ≠ [] ∧ ∃ k, GrownT U (σ0.set b (some (.obj [.ptr b 0, .sl k (bytesAV l)]))) σ k l.length 1)
theorem BW.over {T U : TypeId} {σ0 σ : ASt} {b : Nat} {l : List UInt8} (h : BW T U σ0 b l σ) (hb : σ0 b = none) : Over σ0 σ := by
  rcases h with ⟨_, rfl⟩ | ⟨_, k, h1 | ⟨g, _, hg, rfl⟩⟩
  · exact .set b _ .refl hb
  · obtain ⟨_, _, rfl⟩ := h1
    exact .set b _ .refl hb
  · exact .set g _ (.set b _ .refl hb) hg
theorem BW.iter {T U : TypeId} {σ0 σ : ASt} {b it : Nat} {l : List UInt8} {r r' : Role} (h : BW T U (σ0.set it (some r)) b l σ) (hb : it ≠ b) : BW T U (σ0.set it (some r')) b l (σ.set it (some r')) ∧ σ it = some r := by
  rcases h with ⟨h0, rfl⟩ | ⟨h0, k, h1 | ⟨g, h1, hg, rfl⟩⟩
  · refine ⟨.inl ⟨h0, ?_⟩, by rw [ASt.set_ne hb, ASt.set_same]⟩
    rw [← set_swap hb, ASt.set_set]
  · obtain ⟨h1, h2, rfl⟩ := h1
    refine ⟨.inr ⟨h0, k, .inl ⟨h1, h2, ?_⟩⟩, by rw [ASt.set_ne hb, ASt.set_same]⟩
    rw [← set_swap hb, ASt.set_set]
  · obtain ⟨h3, h4, h5⟩ := set_none hg
    obtain ⟨h6, h7, h8⟩ := set_none h5
    refine ⟨.inr ⟨h0, k, .inr ⟨g, h1, ?_, ?_⟩⟩, by rw [ASt.set_ne h7, ASt.set_ne hb, ASt.set_same]⟩
    · rw [ASt.set_ne h3, ASt.set_ne h6]; exact h8
    · rw [← set_swap h7, ← set_swap hb, ASt.set_set]
end Go.A
namespace Go.A
open Go.Proofs Go.Lib
set_option maxRecDepth 100000
set_option linter.unusedSimpArgs false
set_option linter.unusedVariables false
abbrev BD := BW 106 5
abbrev GT := GrownT 5
theorem cc_ok {σ0 σ : ASt} {b : Nat} {l : List UInt8} (h : BD σ0 b l σ) : ACalls Tryz.prog 97 [.ptr b 0] σ fun v σ' => v = .tuple [] ∧ ∃ k, GT (σ0.set b (some (.obj [.ptr b 0, .sl k (bytesAV l)]))) σ' k l.length 1 := by
  rcases h with ⟨rfl, rfl⟩ | ⟨h0, k, hg⟩
  · refine (copyCheck_typ (ASt.set_same _ _ _)).mono ?_
    rintro v σ' ⟨rfl, rfl⟩
    exact ⟨rfl, .full, .inl ⟨rfl, rfl, by rw [ASt.set_set]; rfl⟩⟩
  · refine (copyCheck_used (hg.at (ASt.set_same _ _ _))).mono ?_
    rintro v σ' ⟨rfl, rfl⟩
    exact ⟨rfl, k, hg⟩
theorem bytesAV_app (l m : List UInt8) : bytesAV l ++ bytesAV m = bytesAV (l ++ m) := by simp [bytesAV]
theorem bytesAV_len (l : List UInt8) : (bytesAV l).length = l.length := by simp [bytesAV]
theorem bytes_leaves (l : List UInt8) : leaves ((bytesAV l).flatMap AV.cells) = true := by unfold bytesAV; exact leaves_map (fun _ => rfl) l
theorem bytes_well (l : List UInt8) : wellSz 1 (bytesAV l) = true := by unfold bytesAV; exact wellSz_map (f := fun c : UInt8 => AV.int .u8 c.toNat) (fun _ => ⟨rfl, rfl⟩) l
theorem appB_by {σ σ0 : ASt} {k k2 : SK} {l m : List UInt8} {ys z : List AV} {K : AV → ASt → Prop} (h : GT σ0 σ k l.length 1) (hy : ys = bytesAV m) (hl : l.length + m.length ≤ 4611686018427)
    (hK : ∀ k' σ', GT σ0 σ' k' (l ++ m).length 1 → K (.sl k' (bytesAV (l ++ m))) σ') : appC 5 1 1 z (.sl k (bytesAV l)) (.sl k2 ys) σ K := by
  subst hy
  refine appCT_by (by rw [bytesAV_len]; exact h) (bytes_well m) (bytes_leaves m) (by simp only [bytesAV_len]; omega) (by simp only [bytesAV_len]; omega) fun k' σ' hg => ?_
  rw [bytesAV_app] at hg ⊢
  rw [bytesAV_len] at hg
  exact hK k' σ' hg
theorem writeByte_ok {σ0 σ : ASt} {b : Nat} {l : List UInt8} (h : BD σ0 b l σ) (c : UInt8) (hl : l.length ≤ 1000000) :
    ACalls Tryz.prog 79 [.ptr b 0, .int .u8 c.toNat] σ fun v σ' => v = .nili ∧ BD σ0 b (l ++ [c]) σ' := by
  refine a79 (by simp) ?_
  simp (disch := first | assumption | omega | (simp only [List.length_append, List.length_cons, List.length_nil]; omega)) only [go_sem, reduceCtorEq, ↓reduceIte]
  refine (cc_ok h).mono ?_
  rintro v σ1 ⟨rfl, k, hg⟩
  have hb := hg.at (ASt.set_same _ _ _)
  simp (disch := first | assumption | omega | (simp only [List.length_append, List.length_cons, List.length_nil]; omega)) only [go_sem, reduceCtorEq, Nat.reduceEqDiff, ↓reduceIte, Bool.true_and, hb]
  refine appB_by (m := [c]) hg rfl (by simp; omega) fun k' σ' hg' => ?_
  have hb' := hg'.at (ASt.set_same _ _ _)
  simp (disch := first | assumption | omega | (simp only [List.length_append, List.length_cons, List.length_nil]; omega)) only [go_sem, Nat.reduceEqDiff, Nat.reduceAdd, Nat.reduceLeDiff, ↓reduceIte, Bool.true_and, hb']
  exact retC_by (Drop.refl _) (.refl _) ⟨rfl, .inr ⟨by simp, k', hg'.obj⟩⟩
theorem or_a : ∀ y : Int, 0 ≤ y → y < 64 → ((BitVec.ofInt 8 128 ||| BitVec.ofInt 8 y).toNat : Int) = 128 + y := by
  have key : ∀ n : Fin 64, ((BitVec.ofInt 8 128 ||| BitVec.ofInt 8 ((n.val : Nat) : Int)).toNat : Int) = 128 + ((n.val : Nat) : Int) := by decide
  intro y h0 h1
  have := key ⟨y.toNat, by omega⟩
  rwa [Int.toNat_of_nonneg h0] at this
theorem or_b : ∀ y : Int, 0 ≤ y → y < 32 → ((BitVec.ofInt 8 192 ||| BitVec.ofInt 8 y).toNat : Int) = 192 + y := by
  have key : ∀ n : Fin 32, ((BitVec.ofInt 8 192 ||| BitVec.ofInt 8 ((n.val : Nat) : Int)).toNat : Int) = 192 + ((n.val : Nat) : Int) := by decide
  intro y h0 h1
  have := key ⟨y.toNat, by omega⟩
  rwa [Int.toNat_of_nonneg h0] at this
theorem or_c : ∀ y : Int, 0 ≤ y → y < 16 → ((BitVec.ofInt 8 224 ||| BitVec.ofInt 8 y).toNat : Int) = 224 + y := by
  have key : ∀ n : Fin 16, ((BitVec.ofInt 8 224 ||| BitVec.ofInt 8 ((n.val : Nat) : Int)).toNat : Int) = 224 + ((n.val : Nat) : Int) := by decide
  intro y h0 h1
  have := key ⟨y.toNat, by omega⟩
  rwa [Int.toNat_of_nonneg h0] at this
theorem or_d : ∀ y : Int, 0 ≤ y → y < 8 → ((BitVec.ofInt 8 240 ||| BitVec.ofInt 8 y).toNat : Int) = 240 + y := by
  have key : ∀ n : Fin 8, ((BitVec.ofInt 8 240 ||| BitVec.ofInt 8 ((n.val : Nat) : Int)).toNat : Int) = 240 + ((n.val : Nat) : Int) := by decide
  intro y h0 h1
  have := key ⟨y.toNat, by omega⟩
  rwa [Int.toNat_of_nonneg h0] at this
theorem and_63 (y : Int) : ((BitVec.ofInt 8 (y % 256) &&& BitVec.ofInt 8 63).toNat : Int) = y % 64 := by
  have key : ∀ n : Fin 256, ((BitVec.ofInt 8 ((n.val : Nat) : Int) &&& BitVec.ofInt 8 63).toNat : Int) = ((n.val : Nat) : Int) % 64 := by decide
  have := key ⟨(y % 256).toNat, by omega⟩
  rw [Int.toNat_of_nonneg (by omega)] at this
  rw [this]
  omega
theorem wrap_8 (y : Int) : IntKind.wrap .u8 y = y % 256 := IntKind.wrap_u8 y
theorem encAV (r : Int) : (encodeRuneZ r).map (AV.int .u8) = bytesAV (encodeRune r) := by
  unfold bytesAV encodeRune
  rw [List.map_map]
  apply List.map_congr_left
  intro x hx
  obtain ⟨h0, h1⟩ := encodeRuneZ_byte r x hx
  simp [Function.comp]
  omega
theorem enc_len (r : Int) : (encodeRune r).length ≤ 4 := by
  have := encodeRuneZ_length r
  simp [encodeRune]
  omega
def RuneOk (r : Int) : Prop := 0 ≤ r ∧ r ≤ 1114111 ∧ ¬ (55296 ≤ r ∧ r ≤ 57343)
set_option maxHeartbeats 1000000 in
theorem appendRuneN_ok {σ0 σ : ASt} {k : SK} {l : List UInt8} (h : GT σ0 σ k l.length 1) {r : Int} (hr : RuneOk r) (h128 : 127 < r) (hl : l.length ≤ 1000000) :
    ACalls Tryz.prog 127 [.sl k (bytesAV l), .int .i32 r] σ fun v σ' => ∃ k', v = .sl k' (bytesAV (l ++ encodeRune r)) ∧ GT σ0 σ' k' (l ++ encodeRune r).length 1 := by
  obtain ⟨r0, r1, r2⟩ := hr
  have hel := enc_len r
  have hea := encAV r
  have w1 := wrap_8 r
  have w2 := wrap_8 (r / 64)
  have w3 := wrap_8 (r / 4096)
  have a1 := and_63 r
  have a2 := and_63 (r / 64)
  have a3 := and_63 (r / 4096)
  have o1 := or_a (r % 64) (by omega) (by omega)
  have o2 := or_a (r / 64 % 64) (by omega) (by omega)
  have o3 := or_a (r / 4096 % 64) (by omega) (by omega)
  refine a127 (by simp) ?_
  by_cases c1 : r ≤ 2047
  · have o4 := or_b (r / 64) (by omega) (by omega)
    have e : [AV.int .u8 ((BitVec.ofInt 8 192 ||| BitVec.ofInt 8 (r / 64)).toNat : Int), AV.int .u8 ((BitVec.ofInt 8 128 ||| BitVec.ofInt 8 ((BitVec.ofInt 8 (r % 256) &&& BitVec.ofInt 8 63).toNat : Int)).toNat : Int)] = [192 + r / 64, 128 + r % 64].map (AV.int .u8) := by
      rw [a1, o1, o4]; rfl
    rw [encodeRuneZ_two (by omega) c1] at hea
    simp (disch := first | assumption | omega | (simp only [List.length_append, List.length_cons, List.length_nil]; omega)) only [go_sem, reduceCtorEq, Nat.reduceEqDiff, ↓reduceIte, Int.reduceToNat, Int.reducePow, Bool.true_and, c1, w1]
    refine appB_by (m := encodeRune r) h (e.trans hea) (by omega) fun k' σ' hg' => ?_
    rw [List.length_append] at hg'
    simp (disch := first | assumption | omega | (simp only [List.length_append, List.length_cons, List.length_nil]; omega)) only [go_sem, ↓reduceIte]
    exact retC_by (Drop.refl _) (.refl _) ⟨k', rfl, hg'⟩
  by_cases c2 : r < 55296
  · have o4 := or_c (r / 4096) (by omega) (by omega)
    have e : [AV.int .u8 ((BitVec.ofInt 8 224 ||| BitVec.ofInt 8 (r / 4096)).toNat : Int), AV.int .u8 ((BitVec.ofInt 8 128 ||| BitVec.ofInt 8 ((BitVec.ofInt 8 (r / 64 % 256) &&& BitVec.ofInt 8 63).toNat : Int)).toNat : Int),
      AV.int .u8 ((BitVec.ofInt 8 128 ||| BitVec.ofInt 8 ((BitVec.ofInt 8 (r % 256) &&& BitVec.ofInt 8 63).toNat : Int)).toNat : Int)] = [224 + r / 4096, 128 + r / 64 % 64, 128 + r % 64].map (AV.int .u8) := by
      rw [a1, a2, o1, o2, o4]; rfl
    rw [encodeRuneZ_three (by omega)] at hea
    simp (disch := first | assumption | omega | (simp only [List.length_append, List.length_cons, List.length_nil]; omega)) only [go_sem, reduceCtorEq, Nat.reduceEqDiff, ↓reduceIte, Int.reduceToNat, Int.reducePow, Bool.true_and, c1, c2, w1, w2]
    refine appB_by (m := encodeRune r) h (e.trans hea) (by omega) fun k' σ' hg' => ?_
    rw [List.length_append] at hg'
    simp (disch := first | assumption | omega | (simp only [List.length_append, List.length_cons, List.length_nil]; omega)) only [go_sem, ↓reduceIte]
    exact retC_by (Drop.refl _) (.refl _) ⟨k', rfl, hg'⟩
  have c3 : 57343 < r := by omega
  by_cases c4 : r ≤ 65535
  · have o4 := or_c (r / 4096) (by omega) (by omega)
    have e : [AV.int .u8 ((BitVec.ofInt 8 224 ||| BitVec.ofInt 8 (r / 4096)).toNat : Int), AV.int .u8 ((BitVec.ofInt 8 128 ||| BitVec.ofInt 8 ((BitVec.ofInt 8 (r / 64 % 256) &&& BitVec.ofInt 8 63).toNat : Int)).toNat : Int),
      AV.int .u8 ((BitVec.ofInt 8 128 ||| BitVec.ofInt 8 ((BitVec.ofInt 8 (r % 256) &&& BitVec.ofInt 8 63).toNat : Int)).toNat : Int)] = [224 + r / 4096, 128 + r / 64 % 64, 128 + r % 64].map (AV.int .u8) := by
      rw [a1, a2, o1, o2, o4]; rfl
    rw [encodeRuneZ_three (by omega)] at hea
    simp (disch := first | assumption | omega | (simp only [List.length_append, List.length_cons, List.length_nil]; omega)) only [go_sem, reduceCtorEq, Nat.reduceEqDiff, ↓reduceIte, Int.reduceToNat, Int.reducePow, Bool.true_and, c1, c2, c3, c4, w1, w2]
    refine appB_by (m := encodeRune r) h (e.trans hea) (by omega) fun k' σ' hg' => ?_
    rw [List.length_append] at hg'
    simp (disch := first | assumption | omega | (simp only [List.length_append, List.length_cons, List.length_nil]; omega)) only [go_sem, ↓reduceIte]
    exact retC_by (Drop.refl _) (.refl _) ⟨k', rfl, hg'⟩
  · have c5 : 65535 < r := by omega
    have o4 := or_d (r / 262144) (by omega) (by omega)
    have e : [AV.int .u8 ((BitVec.ofInt 8 240 ||| BitVec.ofInt 8 (r / 262144)).toNat : Int), AV.int .u8 ((BitVec.ofInt 8 128 ||| BitVec.ofInt 8 ((BitVec.ofInt 8 (r / 4096 % 256) &&& BitVec.ofInt 8 63).toNat : Int)).toNat : Int),
      AV.int .u8 ((BitVec.ofInt 8 128 ||| BitVec.ofInt 8 ((BitVec.ofInt 8 (r / 64 % 256) &&& BitVec.ofInt 8 63).toNat : Int)).toNat : Int), AV.int .u8 ((BitVec.ofInt 8 128 ||| BitVec.ofInt 8 ((BitVec.ofInt 8 (r % 256) &&& BitVec.ofInt 8 63).toNat : Int)).toNat : Int)] = [240 + r / 262144, 128 + r / 4096 % 64, 128 + r / 64 % 64, 128 + r % 64].map (AV.int .u8) := by
      rw [a1, a2, a3, o1, o2, o3, o4]; rfl
    rw [encodeRuneZ_four (by omega) (by omega)] at hea
    simp (disch := first | assumption | omega | (simp only [List.length_append, List.length_cons, List.length_nil]; omega)) only [go_sem, reduceCtorEq, Nat.reduceEqDiff, ↓reduceIte, Int.reduceToNat, Int.reducePow, Bool.true_and, c1, c2, c3, c4, c5, w1, w2, w3]
    refine appB_by (m := encodeRune r) h (e.trans hea) (by omega) fun k' σ' hg' => ?_
    rw [List.length_append] at hg'
    simp (disch := first | assumption | omega | (simp only [List.length_append, List.length_cons, List.length_nil]; omega)) only [go_sem, ↓reduceIte]
    exact retC_by (Drop.refl _) (.refl _) ⟨k', rfl, hg'⟩
theorem appendRune_ok {σ0 σ : ASt} {k : SK} {l : List UInt8} (h : GT σ0 σ k l.length 1) {r : Int} (hr : RuneOk r) (hl : l.length ≤ 1000000) :
    ACalls Tryz.prog 110 [.sl k (bytesAV l), .int .i32 r] σ fun v σ' => ∃ k', v = .sl k' (bytesAV (l ++ encodeRune r)) ∧ GT σ0 σ' k' (l ++ encodeRune r).length 1 := by
  obtain ⟨r0, r1, r2⟩ := hr
  have hel := enc_len r
  have hea := encAV r
  refine a110 (by simp) ?_
  by_cases c1 : r ≤ 127
  · rw [encodeRuneZ_one r0 c1] at hea
    simp (disch := first | assumption | omega | (simp only [List.length_append, List.length_cons, List.length_nil]; omega)) only [go_sem, reduceCtorEq, Nat.reduceEqDiff, ↓reduceIte, Bool.true_and, c1]
    refine appB_by (m := encodeRune r) h hea (by omega) fun k' σ' hg' => ?_
    rw [List.length_append] at hg'
    simp (disch := first | assumption | omega | (simp only [List.length_append, List.length_cons, List.length_nil]; omega)) only [go_sem, ↓reduceIte]
    exact retC_by (Drop.refl _) (.refl _) ⟨k', rfl, hg'⟩
  · simp (disch := first | assumption | omega | (simp only [List.length_append, List.length_cons, List.length_nil]; omega)) only [go_sem, reduceCtorEq, Nat.reduceEqDiff, ↓reduceIte, c1]
    refine (appendRuneN_ok h ⟨r0, r1, r2⟩ (by omega) hl).mono ?_
    rintro v σ' ⟨k', rfl, hg'⟩
    rw [List.length_append] at hg'
    simp (disch := first | assumption | omega | (simp only [List.length_append, List.length_cons, List.length_nil]; omega)) only [go_sem, ↓reduceIte]
    exact retC_by (Drop.refl _) (.refl _) ⟨k', rfl, hg'⟩
theorem writeRune_ok {σ0 σ : ASt} {b : Nat} {l : List UInt8} (h : BD σ0 b l σ) {r : Int} (hr : RuneOk r) (hl : l.length ≤ 1000000) :
    ACalls Tryz.prog 89 [.ptr b 0, .int .i32 r] σ fun v σ' => BD σ0 b (l ++ encodeRune r) σ' := by
  refine a89 (by simp) ?_
  have hel := enc_len r
  have hne : encodeRune r ≠ [] := by
    intro h
    have := encodeRuneZ_length r
    have h2 := congrArg List.length h
    simp [encodeRune] at h2
    rw [h2] at this
    simp at this
  simp (disch := first | assumption | omega | (simp only [List.length_append, List.length_cons, List.length_nil]; omega)) only [go_sem, reduceCtorEq, ↓reduceIte]
  refine (cc_ok h).mono ?_
  rintro v σ1 ⟨rfl, k, hg⟩
  have hb := hg.at (ASt.set_same _ _ _)
  have hbl := bytesAV_len l
  simp (disch := first | assumption | omega | (simp only [List.length_append, List.length_cons, List.length_nil]; omega)) only [go_sem, reduceCtorEq, Nat.reduceEqDiff, ↓reduceIte, hb, hbl]
  refine (appendRune_ok hg hr hl).mono ?_
  rintro v σ' ⟨k', rfl, hg'⟩
  have hb' := hg'.at (ASt.set_same _ _ _)
  have hbl' := bytesAV_len (l ++ encodeRune r)
  have hll : (l ++ encodeRune r).length ≤ 1000004 := by simp; omega
  simp (disch := first | assumption | omega | (simp only [List.length_append, List.length_cons, List.length_nil]; omega)) only [go_sem, reduceCtorEq, Nat.reduceEqDiff, Nat.reduceAdd, Nat.reduceLeDiff, ↓reduceIte, Bool.true_and, hb', hbl']
  exact retC_by (Drop.refl _) (.refl _) (.inr ⟨by simp [hne], k', hg'.obj⟩)
theorem bstring_ok {σ0 σ : ASt} {b : Nat} {l : List UInt8} (h : BD σ0 b l σ) (hl : l.length ≤ 1000000000) : ACalls Tryz.prog 53 [.ptr b 0] σ fun v σ' => v = .str l ∧ σ' = σ := by
  rcases h with ⟨rfl, rfl⟩ | ⟨h0, k, hg⟩
  · exact bstring_typ (ASt.set_same _ _ _)
  · have hb := hg.at (ASt.set_same _ _ _)
    rcases hg with ⟨_, h1, _⟩ | ⟨g, rfl, hg, rfl⟩
    · exact absurd (List.eq_nil_of_length_eq_zero h1) h0
    · refine bstring_used h0 (by omega) hb (by rw [ASt.set_same, Nat.mul_one])
end Go.A
namespace Go.A
open Go.Proofs
/-! 51: tabular/expr.Signs -/
def c51_0 : ACode := .ops [
 ⟨some 0, none, .q (.mv (.v (.sl .full []))), []⟩]
def c51_1 : ACode := .ops [
 ⟨some 1, none, .q (.bsl 1 [(.v (.str [43])), (.v (.str [45])), (.v (.str [42])), (.v (.str [47])), (.v (.str [94])), (.v (.str [38])), (.v (.str [61])), (.v (.str [60, 62])), (.v (.str [60])), (.v (.str [60, 61])), (.v (.str [62])), (.v (.str [62, 61]))]), []⟩,
 ⟨some 0, none, .q (.mv (.t 1)), []⟩]
def c51_2 : ACode := .seq c51_1 .ret
def c51_3 : ACode := .seq c51_0 c51_2
@[go_sem] theorem c51_0_wp : type_of% (wp_of c51_0.eq_1) := wp_of c51_0.eq_1
@[go_sem] theorem c51_1_wp : type_of% (wp_of c51_1.eq_1) := wp_of c51_1.eq_1
@[go_sem] theorem c51_2_wp : type_of% (wp_of c51_2.eq_1) := wp_of c51_2.eq_1
@[go_sem] theorem c51_3_wp : type_of% (wp_of c51_3.eq_1) := wp_of c51_3.eq_1
def c51 : AFn := ⟨2, [.t 0], c51_3⟩
set_option maxRecDepth 100000 in
theorem c51_ok : compF Tryz.prog Tryz.f51 = some c51 := by kernel_rfl
theorem a51 {args : List AV} {σ : ASt} {R : AV → ASt → Prop} (hl : args.length ≤ 2) (h : c51_3.wp Tryz.prog (RetQ [.t 0] R) (init args) σ) : ACalls Tryz.prog 51 args σ R := acalls_of Tryz.func51 c51_ok hl h
/-! 72: (*strings.Builder).WriteString -/
def c72_0 : ACode := .ops [
 ⟨some 4, none, .q (.mv (.v (.int .i64 0))), []⟩,
 ⟨some 5, none, .q (.mv (.v .nili)), []⟩]
def c72_1 : ACode := .ops [
 ⟨some 6, none, .q (.mv (.t 0)), []⟩,
 ⟨some 7, none, .e (.call 97 [(.t 6)]), []⟩]
def c72_2 : ACode := .ops [
 ⟨some 8, none, .q (.mv (.t 0)), []⟩,
 ⟨some 9, none, .q (.mv (.t 0)), []⟩,
 ⟨some 10, none, .q (.nc (.t 9)), []⟩,
 ⟨some 11, none, .q (.fa 1 (.t 10)), []⟩,
 ⟨some 12, none, .q (.ld none (.t 11)), []⟩,
 ⟨some 13, none, .q (.mv (.t 1)), []⟩,
 ⟨some 14, none, .e (.apps 5 (.t 12) (.t 13)), []⟩,
 ⟨some 15, none, .q (.nc (.t 8)), []⟩,
 ⟨some 16, none, .q (.fa 1 (.t 15)), []⟩,
 ⟨none, none, .e (.store 1 (.t 16) (.t 14)), []⟩]
def c72_3 : ACode := .ops [
 ⟨some 17, none, .q (.mv (.t 1)), []⟩,
 ⟨some 18, none, .q (.lenS (.t 17)), []⟩,
 ⟨some 4, none, .q (.mv (.t 18)), []⟩,
 ⟨some 5, none, .q (.mv (.v .nili)), []⟩]
def c72_4 : ACode := .seq c72_3 .ret
def c72_5 : ACode := .seq c72_2 c72_4
def c72_6 : ACode := .seq c72_1 c72_5
def c72_7 : ACode := .seq c72_0 c72_6
@[go_sem] theorem c72_0_wp : type_of% (wp_of c72_0.eq_1) := wp_of c72_0.eq_1
@[go_sem] theorem c72_1_wp : type_of% (wp_of c72_1.eq_1) := wp_of c72_1.eq_1
@[go_sem] theorem c72_2_wp : type_of% (wp_of c72_2.eq_1) := wp_of c72_2.eq_1
@[go_sem] theorem c72_3_wp : type_of% (wp_of c72_3.eq_1) := wp_of c72_3.eq_1
@[go_sem] theorem c72_4_wp : type_of% (wp_of c72_4.eq_1) := wp_of c72_4.eq_1
@[go_sem] theorem c72_5_wp : type_of% (wp_of c72_5.eq_1) := wp_of c72_5.eq_1
@[go_sem] theorem c72_6_wp : type_of% (wp_of c72_6.eq_1) := wp_of c72_6.eq_1
@[go_sem] theorem c72_7_wp : type_of% (wp_of c72_7.eq_1) := wp_of c72_7.eq_1
def c72 : AFn := ⟨19, [.t 4, .t 5], c72_7⟩
set_option maxRecDepth 100000 in
theorem c72_ok : compF Tryz.prog Tryz.f72 = some c72 := by kernel_rfl
theorem a72 {args : List AV} {σ : ASt} {R : AV → ASt → Prop} (hl : args.length ≤ 19) (h : c72_7.wp Tryz.prog (RetQ [.t 4, .t 5] R) (init args) σ) : ACalls Tryz.prog 72 args σ R := acalls_of Tryz.func72 c72_ok hl h
/-! 75: tabular/expr.truth -/
def c75_0 : ACode := .ops [
 ⟨some 2, none, .q (.mv (.v (.str []))), []⟩]
def c75_1 : ACode := .ops [
 ⟨some 3, none, .q (.mv (.t 0)), []⟩]
def c75_2 : ACode := .ops [
 ⟨some 2, none, .q (.mv (.v (.str [84, 82, 85, 69]))), []⟩]
def c75_3 : ACode := .seq c75_2 .ret
def c75_4 : ACode := .cond (.t 3) c75_3 .skip
def c75_5 : ACode := .seq c75_1 c75_4
def c75_6 : ACode := .ops [
 ⟨some 2, none, .q (.mv (.v (.str [70, 65, 76, 83, 69]))), []⟩]
def c75_7 : ACode := .seq c75_6 .ret
def c75_8 : ACode := .seq c75_5 c75_7
def c75_9 : ACode := .seq c75_0 c75_8
@[go_sem] theorem c75_0_wp : type_of% (wp_of c75_0.eq_1) := wp_of c75_0.eq_1
@[go_sem] theorem c75_1_wp : type_of% (wp_of c75_1.eq_1) := wp_of c75_1.eq_1
@[go_sem] theorem c75_2_wp : type_of% (wp_of c75_2.eq_1) := wp_of c75_2.eq_1
@[go_sem] theorem c75_3_wp : type_of% (wp_of c75_3.eq_1) := wp_of c75_3.eq_1
@[go_sem] theorem c75_4_wp : type_of% (wp_of c75_4.eq_1) := wp_of c75_4.eq_1
@[go_sem] theorem c75_5_wp : type_of% (wp_of c75_5.eq_1) := wp_of c75_5.eq_1
@[go_sem] theorem c75_6_wp : type_of% (wp_of c75_6.eq_1) := wp_of c75_6.eq_1
@[go_sem] theorem c75_7_wp : type_of% (wp_of c75_7.eq_1) := wp_of c75_7.eq_1
@[go_sem] theorem c75_8_wp : type_of% (wp_of c75_8.eq_1) := wp_of c75_8.eq_1
@[go_sem] theorem c75_9_wp : type_of% (wp_of c75_9.eq_1) := wp_of c75_9.eq_1
def c75 : AFn := ⟨4, [.t 2], c75_9⟩
set_option maxRecDepth 100000 in
theorem c75_ok : compF Tryz.prog Tryz.f75 = some c75 := by kernel_rfl
theorem a75 {args : List AV} {σ : ASt} {R : AV → ASt → Prop} (hl : args.length ≤ 4) (h : c75_9.wp Tryz.prog (RetQ [.t 2] R) (init args) σ) : ACalls Tryz.prog 75 args σ R := acalls_of Tryz.func75 c75_ok hl h
/-! 81: tabular/expr.level -/
def c81_0 : ACode := .ops [
 ⟨some 2, none, .q (.mv (.v (.int .i64 0))), []⟩]
def c81_1 : ACode := .ops [
 ⟨some 4, none, .q (.mv (.t 0)), []⟩,
 ⟨some 5, none, .q (.bin .eql (.t 4) (.v (.int .i64 7))), []⟩,
 ⟨some 6, none, .q (.mv (.t 5)), []⟩,
 ⟨some 7, some (6, false), .q (.mv (.t 0)), []⟩,
 ⟨some 8, some (6, false), .q (.bin .eql (.t 7) (.v (.int .i64 8))), []⟩,
 ⟨some 9, none, .q (.pick (.t 6) (.v (.bool true)) (.t 8)), []⟩,
 ⟨some 3, none, .q (.mv (.t 9)), []⟩]
def c81_2 : ACode := .ops [
 ⟨some 2, none, .q (.mv (.v (.int .i64 6))), []⟩]
def c81_3 : ACode := .seq c81_2 .ret
def c81_4 : ACode := .ops [
 ⟨some 11, none, .q (.mv (.t 0)), []⟩,
 ⟨some 12, none, .q (.bin .eql (.t 11) (.v (.int .i64 9))), []⟩,
 ⟨some 10, none, .q (.mv (.t 12)), []⟩]
def c81_5 : ACode := .ops [
 ⟨some 2, none, .q (.mv (.v (.int .i64 7))), []⟩]
def c81_6 : ACode := .seq c81_5 .ret
def c81_7 : ACode := .ops [
 ⟨some 14, none, .q (.mv (.t 0)), []⟩,
 ⟨some 15, none, .q (.bin .lss (.t 14) (.v (.int .i64 10))), []⟩,
 ⟨some 16, none, .q (.mv (.t 15)), []⟩,
 ⟨some 17, some (16, false), .q (.mv (.t 0)), []⟩,
 ⟨some 18, some (16, false), .q (.bin .geq (.t 17) (.v (.int .i64 22))), []⟩,
 ⟨some 19, none, .q (.pick (.t 16) (.v (.bool true)) (.t 18)), []⟩,
 ⟨some 13, none, .q (.mv (.t 19)), []⟩]
def c81_8 : ACode := .ops [
 ⟨some 2, none, .q (.mv (.v (.int .i64 8))), []⟩]
def c81_9 : ACode := .seq c81_8 .ret
def c81_10 : ACode := .cond (.t 13) c81_9 .skip
def c81_11 : ACode := .seq c81_7 c81_10
def c81_12 : ACode := .cond (.t 10) c81_6 c81_11
def c81_13 : ACode := .seq c81_4 c81_12
def c81_14 : ACode := .cond (.t 3) c81_3 c81_13
def c81_15 : ACode := .seq c81_1 c81_14
def c81_16 : ACode := .block 0 c81_15
def c81_17 : ACode := .ops [
 ⟨some 20, none, .q (.bsl 1 [(.v (.int .i64 3)), (.v (.int .i64 3)), (.v (.int .i64 4)), (.v (.int .i64 4)), (.v (.int .i64 5)), (.v (.int .i64 2)), (.v (.int .i64 1)), (.v (.int .i64 1)), (.v (.int .i64 1)), (.v (.int .i64 1)), (.v (.int .i64 1)), (.v (.int .i64 1))]), []⟩,
 ⟨some 21, none, .q (.mv (.t 0)), []⟩,
 ⟨some 22, none, .q (.bin .sub (.t 21) (.v (.int .i64 10))), []⟩,
 ⟨some 23, none, .q (.ia 1 (.t 20) (.t 22)), []⟩,
 ⟨some 24, none, .q (.ld none (.t 23)), []⟩,
 ⟨some 2, none, .q (.mv (.t 24)), []⟩]
def c81_18 : ACode := .seq c81_17 .ret
def c81_19 : ACode := .seq c81_16 c81_18
def c81_20 : ACode := .seq c81_0 c81_19
@[go_sem] theorem c81_0_wp : type_of% (wp_of c81_0.eq_1) := wp_of c81_0.eq_1
@[go_sem] theorem c81_1_wp : type_of% (wp_of c81_1.eq_1) := wp_of c81_1.eq_1
@[go_sem] theorem c81_2_wp : type_of% (wp_of c81_2.eq_1) := wp_of c81_2.eq_1
@[go_sem] theorem c81_3_wp : type_of% (wp_of c81_3.eq_1) := wp_of c81_3.eq_1
@[go_sem] theorem c81_4_wp : type_of% (wp_of c81_4.eq_1) := wp_of c81_4.eq_1
@[go_sem] theorem c81_5_wp : type_of% (wp_of c81_5.eq_1) := wp_of c81_5.eq_1
@[go_sem] theorem c81_6_wp : type_of% (wp_of c81_6.eq_1) := wp_of c81_6.eq_1
@[go_sem] theorem c81_7_wp : type_of% (wp_of c81_7.eq_1) := wp_of c81_7.eq_1
@[go_sem] theorem c81_8_wp : type_of% (wp_of c81_8.eq_1) := wp_of c81_8.eq_1
@[go_sem] theorem c81_9_wp : type_of% (wp_of c81_9.eq_1) := wp_of c81_9.eq_1
@[go_sem] theorem c81_10_wp : type_of% (wp_of c81_10.eq_1) := wp_of c81_10.eq_1
@[go_sem] theorem c81_11_wp : type_of% (wp_of c81_11.eq_1) := wp_of c81_11.eq_1
@[go_sem] theorem c81_12_wp : type_of% (wp_of c81_12.eq_1) := wp_of c81_12.eq_1
@[go_sem] theorem c81_13_wp : type_of% (wp_of c81_13.eq_1) := wp_of c81_13.eq_1
@[go_sem] theorem c81_14_wp : type_of% (wp_of c81_14.eq_1) := wp_of c81_14.eq_1
@[go_sem] theorem c81_15_wp : type_of% (wp_of c81_15.eq_1) := wp_of c81_15.eq_1
@[go_sem] theorem c81_16_wp : type_of% (wp_of c81_16.eq_1) := wp_of c81_16.eq_1
@[go_sem] theorem c81_17_wp : type_of% (wp_of c81_17.eq_1) := wp_of c81_17.eq_1
@[go_sem] theorem c81_18_wp : type_of% (wp_of c81_18.eq_1) := wp_of c81_18.eq_1
@[go_sem] theorem c81_19_wp : type_of% (wp_of c81_19.eq_1) := wp_of c81_19.eq_1
@[go_sem] theorem c81_20_wp : type_of% (wp_of c81_20.eq_1) := wp_of c81_20.eq_1
def c81 : AFn := ⟨25, [.t 2], c81_20⟩
set_option maxRecDepth 100000 in
theorem c81_ok : compF Tryz.prog Tryz.f81 = some c81 := by kernel_rfl
theorem a81 {args : List AV} {σ : ASt} {R : AV → ASt → Prop} (hl : args.length ≤ 25) (h : c81_20.wp Tryz.prog (RetQ [.t 2] R) (init args) σ) : ACalls Tryz.prog 81 args σ R := acalls_of Tryz.func81 c81_ok hl h
end Go.A
namespace Go.A
open Go.Proofs Go.Lib
set_option maxRecDepth 100000
set_option linter.unusedSimpArgs false
set_option linter.unusedVariables false
section
variable {T U : TypeId} {σ0 σ : ASt} {b c x : Nat} {l : List UInt8} {r : Role}
theorem BW.role (h : BW T U σ0 b l σ) : σ b ≠ none := by
  rcases h with ⟨_, rfl⟩ | ⟨_, k, hg⟩
  · rw [ASt.set_same]; simp
  · rw [hg.at (ASt.set_same _ _ _)]; simp
theorem BW.at (h : BW T U σ0 b l σ) (hx : x ≠ b) (h0 : σ0 x = some r) : σ x = some r := by
  rcases h with ⟨_, rfl⟩ | ⟨_, k, hg⟩
  · rw [ASt.set_ne hx]; exact h0
  · exact hg.at (by rw [ASt.set_ne hx]; exact h0)
theorem BW.add (h : BW T U σ0 b l σ) (hc : σ c = none) : BW T U (σ0.set c (some r)) b l (σ.set c (some r)) ∧ c ≠ b ∧ σ0 c = none := by
  have hcb : c ≠ b := by rintro rfl; exact h.role hc
  rcases h with ⟨h0, rfl⟩ | ⟨h0, k, h1 | ⟨t, h1, h2, rfl⟩⟩
  · rw [ASt.set_ne hcb] at hc
    exact ⟨.inl ⟨h0, set_swap (Ne.symm hcb)⟩, hcb, hc⟩
  · obtain ⟨h1, h2, rfl⟩ := h1
    rw [ASt.set_ne hcb] at hc
    exact ⟨.inr ⟨h0, k, .inl ⟨h1, h2, set_swap (Ne.symm hcb)⟩⟩, hcb, hc⟩
  · obtain ⟨h3, h4, hc⟩ := set_none hc
    rw [ASt.set_ne hcb] at hc
    obtain ⟨h5, h6, h7⟩ := set_none h2
    refine ⟨.inr ⟨h0, k, .inr ⟨t, h1, ?_, ?_⟩⟩, hcb, hc⟩
    · rw [ASt.set_ne h5, ASt.set_ne (Ne.symm h3)]; exact h7
    · rw [set_swap h4, set_swap (Ne.symm hcb)]
theorem BW.off (h : BW T U (σ0.set c (some r)) b l σ) (hcb : c ≠ b) (hc : σ0 c = none) : ∃ σ', Drop σ σ' ∧ BW T U σ0 b l σ' := by
  rcases h with ⟨h0, rfl⟩ | ⟨h0, k, h1 | ⟨t, h1, h2, rfl⟩⟩
  · refine ⟨_, ?_, .inl ⟨h0, rfl⟩⟩
    rw [set_swap hcb]
    exact Drop.set (by rw [ASt.set_ne hcb]; exact hc)
  · obtain ⟨h1, h2, rfl⟩ := h1
    refine ⟨_, ?_, .inr ⟨h0, k, .inl ⟨h1, h2, rfl⟩⟩⟩
    rw [set_swap hcb]
    exact Drop.set (by rw [ASt.set_ne hcb]; exact hc)
  · obtain ⟨h3, h4, h5⟩ := set_none h2
    obtain ⟨h6, h7, h8⟩ := set_none h5
    refine ⟨(σ0.set b (some (.obj [.ptr b 0, .sl k (bytesAV l)]))).set t (some (.tok (l.length * 1))), ?_, .inr ⟨h0, k, .inr ⟨t, h1, ?_, rfl⟩⟩⟩
    · rw [set_swap hcb, set_swap h7]
      exact Drop.set (by rw [ASt.set_ne h7, ASt.set_ne hcb]; exact hc)
    · rw [ASt.set_ne h3]; exact h8
end
theorem appsB_by {σ σ0 : ASt} {k : SK} {l m : List UInt8} {K : AV → ASt → Prop} (h : GT σ0 σ k l.length 1) (hl : l.length + m.length ≤ 4611686018427)
    (hK : ∀ k' σ', GT σ0 σ' k' (l ++ m).length 1 → K (.sl k' (bytesAV (l ++ m))) σ') : appsC 5 (.sl k (bytesAV l)) (.str m) σ K := by
  refine appsCT_by (by rw [bytesAV_len]; exact h) (by rw [bytesAV_len]; omega) fun k' σ' hg => ?_
  rw [bytesAV_app]
  rw [bytesAV_len] at hg
  exact hK k' σ' (by rw [List.length_append]; exact hg)
theorem writes_ok {σ0 σ : ASt} {b : Nat} {l : List UInt8} (h : BD σ0 b l σ) (m : List UInt8) (hl : l.length + m.length ≤ 1000000) :
    ACalls Tryz.prog 72 [.ptr b 0, .str m] σ fun v σ' => v = .tuple [.int .i64 m.length, .nili] ∧ ((l ++ m = [] ∧ ∃ k, GT (σ0.set b (some (.obj [.ptr b 0, .sl k []]))) σ' k 0 1) ∨ BD σ0 b (l ++ m) σ') := by
  refine a72 (by simp) ?_
  simp (disch := first | assumption | omega | (simp only [List.length_append, List.length_cons, List.length_nil]; omega)) only [go_sem, reduceCtorEq, ↓reduceIte]
  refine (cc_ok h).mono ?_
  rintro v σ1 ⟨rfl, k, hg⟩
  have hb := hg.at (ASt.set_same _ _ _)
  simp (disch := first | assumption | omega | (simp only [List.length_append, List.length_cons, List.length_nil]; omega)) only [go_sem, reduceCtorEq, Nat.reduceEqDiff, ↓reduceIte, hb]
  refine appsB_by hg (by omega) fun k' σ' hg' => ?_
  have hb' := hg'.at (ASt.set_same _ _ _)
  simp (disch := first | assumption | omega | (simp only [List.length_append, List.length_cons, List.length_nil]; omega)) only [go_sem, Nat.reduceEqDiff, Nat.reduceAdd, Nat.reduceLeDiff, ↓reduceIte, Bool.true_and, hb']
  refine retC_by (Drop.refl _) (.refl _) ⟨rfl, ?_⟩
  by_cases he : l ++ m = []
  · refine .inl ⟨he, k', ?_⟩
    have := hg'.obj (r' := .obj [.ptr b 0, .sl k' (bytesAV (l ++ m))])
    rw [he] at this
    rw [he]
    exact this
  · exact .inr (.inr ⟨he, k', hg'.obj⟩)
theorem writes1_ok {σ0 σ : ASt} {b : Nat} {l : List UInt8} (h : BD σ0 b l σ) (m : List UInt8) (hm : m ≠ []) (hl : l.length + m.length ≤ 1000000) :
    ACalls Tryz.prog 72 [.ptr b 0, .str m] σ fun v σ' => v = .tuple [.int .i64 m.length, .nili] ∧ BD σ0 b (l ++ m) σ' :=
  (writes_ok h m hl).mono fun _ _ ⟨h1, h2⟩ => ⟨h1, h2.resolve_left fun h => hm (List.append_eq_nil_iff.1 h.1).2⟩
theorem esigns_ok : Pure Tryz.prog 51 [] (.sl .shr (signL.map AV.str)) := by
  intro σ
  refine a51 (by simp) ?_
  simp (disch := first | assumption | omega | (simp only [List.length_append, List.length_cons, List.length_nil]; omega)) only [go_sem, ↓reduceIte, Bool.true_and]
  exact retC_by (by repeat' (first | exact Drop.refl _ | with_reducible refine Drop.off ?_ (by assumption))) (.sl _ _) ⟨rfl, rfl⟩
theorem tenames_ok : Pure Tryz.prog 91 [] (.sl .shr (errL.map AV.str)) := by
  intro σ
  refine a91 (by simp) ?_
  simp (disch := first | assumption | omega | (simp only [List.length_append, List.length_cons, List.length_nil]; omega)) only [go_sem, ↓reduceIte, Bool.true_and]
  exact retC_by (by repeat' (first | exact Drop.refl _ | with_reducible refine Drop.off ?_ (by assumption))) (.sl _ _) ⟨rfl, rfl⟩
theorem level_ok (op : Int) (h0 : -1000 ≤ op) (h1 : op ≤ 1000) : Pure Tryz.prog 81 [.int .i64 op] (.int .i64 (levelP op)) := by
  intro σ
  obtain ⟨q, hq⟩ : ∃ q, levelP op = q := ⟨_, rfl⟩
  rw [hq]
  unfold levelP at hq
  refine a81 (by simp) ?_
  by_cases h7 : op = 7
  · rw [if_pos (.inl h7)] at hq
    subst hq
    simp (disch := first | assumption | omega | (simp only [List.length_append, List.length_cons, List.length_nil]; omega)) only [go_sem, reduceCtorEq, Nat.reduceEqDiff, ↓reduceIte, h7]
    exact retC_by (by repeat' (first | exact Drop.refl _ | with_reducible refine Drop.off ?_ (by assumption))) (.refl _) ⟨rfl, rfl⟩
  by_cases h8 : op = 8
  · rw [if_pos (.inr h8)] at hq
    subst hq
    simp (disch := first | assumption | omega | (simp only [List.length_append, List.length_cons, List.length_nil]; omega)) only [go_sem, reduceCtorEq, Nat.reduceEqDiff, Int.reduceEq, ↓reduceIte, h8]
    exact retC_by (by repeat' (first | exact Drop.refl _ | with_reducible refine Drop.off ?_ (by assumption))) (.refl _) ⟨rfl, rfl⟩
  rw [if_neg (by omega)] at hq
  by_cases h9 : op = 9
  · rw [if_pos h9] at hq
    subst hq
    simp (disch := first | assumption | omega | (simp only [List.length_append, List.length_cons, List.length_nil]; omega)) only [go_sem, reduceCtorEq, Nat.reduceEqDiff, Int.reduceEq, ↓reduceIte, h9]
    exact retC_by (by repeat' (first | exact Drop.refl _ | with_reducible refine Drop.off ?_ (by assumption))) (.refl _) ⟨rfl, rfl⟩
  rw [if_neg h9] at hq
  by_cases ha : op < 10
  · rw [if_pos (.inl ha)] at hq
    subst hq
    simp (disch := first | assumption | omega | (simp only [List.length_append, List.length_cons, List.length_nil]; omega)) only [go_sem, reduceCtorEq, Nat.reduceEqDiff, ↓reduceIte, h7, h8, h9, ha]
    exact retC_by (by repeat' (first | exact Drop.refl _ | with_reducible refine Drop.off ?_ (by assumption))) (.refl _) ⟨rfl, rfl⟩
  by_cases hb : 22 ≤ op
  · rw [if_pos (.inr hb)] at hq
    subst hq
    simp (disch := first | assumption | omega | (simp only [List.length_append, List.length_cons, List.length_nil]; omega)) only [go_sem, reduceCtorEq, Nat.reduceEqDiff, ↓reduceIte, h7, h8, h9, ha, hb]
    exact retC_by (by repeat' (first | exact Drop.refl _ | with_reducible refine Drop.off ?_ (by assumption))) (.refl _) ⟨rfl, rfl⟩
  rw [if_neg (by omega)] at hq
  have hc : op = 10 ∨ op = 11 ∨ op = 12 ∨ op = 13 ∨ op = 14 ∨ op = 15 ∨ op = 16 ∨ op = 17 ∨ op = 18 ∨ op = 19 ∨ op = 20 ∨ op = 21 := by omega
  rcases hc with rfl | rfl | rfl | rfl | rfl | rfl | rfl | rfl | rfl | rfl | rfl | rfl
  all_goals
    simp at hq
    subst hq
    simp (disch := first | assumption | omega | (simp only [List.length_append, List.length_cons, List.length_nil]; omega)) only [go_sem, reduceCtorEq, Nat.reduceEqDiff, Int.reduceLT, Int.reduceLE, Int.reduceEq, ↓reduceIte, Int.reduceSub, Int.reduceToNat, Bool.true_and]
    exact retC_by (by repeat' (first | exact Drop.refl _ | with_reducible refine Drop.off ?_ (by assumption))) (.refl _) ⟨rfl, rfl⟩
theorem truth_ok (b : Bool) : Pure Tryz.prog 75 [.bool b] (.str (truthP b)) := by
  intro σ
  refine a75 (by simp) ?_
  cases b <;> simp (disch := first | assumption | omega | (simp only [List.length_append, List.length_cons, List.length_nil]; omega)) only [go_sem, reduceCtorEq, ↓reduceIte]
  all_goals exact retC_by (by repeat' (first | exact Drop.refl _ | with_reducible refine Drop.off ?_ (by assumption))) (.refl _) ⟨rfl, rfl⟩
end Go.A
namespace Go.A
open Go.Proofs
/-! 24: tabular/expr.Size -/
/-! 76: tabular/expr.Failure -/
def c76_0 : ACode := .ops [
 ⟨some 1, none, .e (.box (.t 0)), []⟩,
 ⟨some 2, none, .q (.mv (.v (.str []))), []⟩]
def c76_1 : ACode := .ops [
 ⟨some 4, none, .q (.fa 1 (.t 1)), []⟩,
 ⟨some 5, none, .q (.ld none (.t 4)), []⟩,
 ⟨some 6, none, .e (.call 102 [(.t 5)]), []⟩,
 ⟨some 3, none, .q (.mv (.t 6)), []⟩]
def c76_2 : ACode := .ops [
 ⟨some 7, none, .q (.fa 0 (.t 1)), []⟩,
 ⟨some 8, none, .q (.ld none (.t 7)), []⟩,
 ⟨some 9, none, .q (.bin .neq (.t 8) (.v (.int .i64 4))), []⟩,
 ⟨some 10, none, .q (.mv (.t 9)), []⟩,
 ⟨some 11, some (10, false), .q (.mv (.t 3)), []⟩,
 ⟨some 12, some (10, false), .q (.bin .lss (.t 11) (.v (.int .i64 1))), []⟩,
 ⟨some 13, none, .q (.pick (.t 10) (.v (.bool true)) (.t 12)), []⟩,
 ⟨some 14, none, .q (.mv (.t 13)), []⟩,
 ⟨some 15, some (14, false), .q (.mv (.t 3)), []⟩,
 ⟨some 16, some (14, false), .e (.call 91 []), []⟩,
 ⟨some 17, some (14, false), .q (.len (.t 16)), []⟩,
 ⟨some 18, some (14, false), .q (.bin .gtr (.t 15) (.t 17)), []⟩,
 ⟨some 19, none, .q (.pick (.t 14) (.v (.bool true)) (.t 18)), []⟩]
def c76_3 : ACode := .ops [
 ⟨some 2, none, .q (.mv (.v (.str []))), []⟩]
def c76_4 : ACode := .seq c76_3 .ret
def c76_5 : ACode := .cond (.t 19) c76_4 .skip
def c76_6 : ACode := .seq c76_2 c76_5
def c76_7 : ACode := .ops [
 ⟨some 20, none, .e (.call 91 []), []⟩,
 ⟨some 21, none, .q (.mv (.t 3)), []⟩,
 ⟨some 22, none, .q (.bin .sub (.t 21) (.v (.int .i64 1))), []⟩,
 ⟨some 23, none, .q (.ia 1 (.t 20) (.t 22)), []⟩,
 ⟨some 24, none, .q (.ld none (.t 23)), []⟩,
 ⟨some 2, none, .q (.mv (.t 24)), []⟩]
def c76_8 : ACode := .seq c76_7 .ret
def c76_9 : ACode := .seq c76_6 c76_8
def c76_10 : ACode := .seq c76_1 c76_9
def c76_11 : ACode := .seq c76_0 c76_10
@[go_sem] theorem c76_0_wp : type_of% (wp_of c76_0.eq_1) := wp_of c76_0.eq_1
@[go_sem] theorem c76_1_wp : type_of% (wp_of c76_1.eq_1) := wp_of c76_1.eq_1
@[go_sem] theorem c76_2_wp : type_of% (wp_of c76_2.eq_1) := wp_of c76_2.eq_1
@[go_sem] theorem c76_3_wp : type_of% (wp_of c76_3.eq_1) := wp_of c76_3.eq_1
@[go_sem] theorem c76_4_wp : type_of% (wp_of c76_4.eq_1) := wp_of c76_4.eq_1
@[go_sem] theorem c76_5_wp : type_of% (wp_of c76_5.eq_1) := wp_of c76_5.eq_1
@[go_sem] theorem c76_6_wp : type_of% (wp_of c76_6.eq_1) := wp_of c76_6.eq_1
@[go_sem] theorem c76_7_wp : type_of% (wp_of c76_7.eq_1) := wp_of c76_7.eq_1
@[go_sem] theorem c76_8_wp : type_of% (wp_of c76_8.eq_1) := wp_of c76_8.eq_1
@[go_sem] theorem c76_9_wp : type_of% (wp_of c76_9.eq_1) := wp_of c76_9.eq_1
@[go_sem] theorem c76_10_wp : type_of% (wp_of c76_10.eq_1) := wp_of c76_10.eq_1
@[go_sem] theorem c76_11_wp : type_of% (wp_of c76_11.eq_1) := wp_of c76_11.eq_1
def c76 : AFn := ⟨25, [.t 2], c76_11⟩
set_option maxRecDepth 100000 in
theorem c76_ok : compF Tryz.prog Tryz.f76 = some c76 := by kernel_rfl
theorem a76 {args : List AV} {σ : ASt} {R : AV → ASt → Prop} (hl : args.length ≤ 25) (h : c76_11.wp Tryz.prog (RetQ [.t 2] R) (init args) σ) : ACalls Tryz.prog 76 args σ R := acalls_of Tryz.func76 c76_ok hl h
end Go.A
namespace Go.A
open Go.Proofs Go.Lib
set_option maxRecDepth 100000
set_option linter.unusedSimpArgs false
set_option linter.unusedVariables false
theorem failure_ok (op n : Int) (s : List UInt8) (a b : Ref) (kids : List Nd) (hn : n.natAbs ≤ 999999999999999999) : Pure Tryz.prog 76 [(Nd.mk op n s a b kids).av] (.str (failT op n)) := by
  intro σ
  have hW := whole_ok hn
  have hE := tenames_ok
  obtain ⟨q, hq⟩ : ∃ q, failT op n = q := ⟨_, rfl⟩
  rw [hq]
  unfold failT at hq
  rw [Nd.av_cs]
  generalize n.tdiv 10000 = i at *
  refine a76 (by simp) ?_
  simp (disch := first | assumption | omega | (simp only [List.length_append, List.length_cons, List.length_nil]; omega)) only [go_sem]
  refine boxC_by rfl fun c hc => ?_
  simp (disch := first | assumption | omega | (simp only [List.length_append, List.length_cons, List.length_nil]; omega)) only [go_sem, Nat.reduceEqDiff, ↓reduceIte]
  refine hW.use ?_
  by_cases h4 : op = 4
  · by_cases h2 : i < 1
    · rw [if_pos (.inr (.inl h2))] at hq
      subst hq
      simp (disch := first | assumption | omega | (simp only [List.length_append, List.length_cons, List.length_nil]; omega)) only [go_sem, Nat.reduceEqDiff, ↓reduceIte, h4, h2]
      exact retC_by (by repeat' (first | exact Drop.refl _ | with_reducible refine Drop.off ?_ (by assumption))) (.refl _) ⟨rfl, rfl⟩
    · by_cases h3 : 7 < i
      · rw [if_pos (.inr (.inr h3))] at hq
        subst hq
        simp (disch := first | assumption | omega | (simp only [List.length_append, List.length_cons, List.length_nil]; omega)) only [go_sem, Nat.reduceEqDiff, ↓reduceIte, h4, h2]
        refine hE.use ?_
        unfold errL
        simp (disch := first | assumption | omega | (simp only [List.length_append, List.length_cons, List.length_nil]; omega)) only [go_sem, Nat.reduceEqDiff, Nat.reduceAdd, ↓reduceIte, h3]
        exact retC_by (by repeat' (first | exact Drop.refl _ | with_reducible refine Drop.off ?_ (by assumption))) (.refl _) ⟨rfl, rfl⟩
      · rw [if_neg (by omega)] at hq
        have hc : i = 1 ∨ i = 2 ∨ i = 3 ∨ i = 4 ∨ i = 5 ∨ i = 6 ∨ i = 7 := by omega
        subst hq
        rcases hc with rfl | rfl | rfl | rfl | rfl | rfl | rfl
        all_goals
          simp (disch := first | assumption | omega | (simp only [List.length_append, List.length_cons, List.length_nil]; omega)) only [go_sem, Nat.reduceEqDiff, Int.reduceLT, ↓reduceIte, Int.reduceSub, Int.reduceToNat, h4]
          refine hE.use ?_
          unfold errL
          simp (disch := first | assumption | omega | (simp only [List.length_append, List.length_cons, List.length_nil]; omega)) only [go_sem, Nat.reduceEqDiff, Nat.reduceAdd, Int.reduceLT, ↓reduceIte]
          refine hE.use ?_
          unfold errL
          simp (disch := first | assumption | omega | (simp only [List.length_append, List.length_cons, List.length_nil]; omega)) only [go_sem, Nat.reduceEqDiff, ↓reduceIte, Int.reduceSub, Int.reduceToNat]
          exact retC_by (by repeat' (first | exact Drop.refl _ | with_reducible refine Drop.off ?_ (by assumption))) (.refl _) ⟨rfl, rfl⟩
  · rw [if_pos (.inl h4)] at hq
    subst hq
    simp (disch := first | assumption | omega | (simp only [List.length_append, List.length_cons, List.length_nil]; omega)) only [go_sem, Nat.reduceEqDiff, ↓reduceIte, h4]
    exact retC_by (by repeat' (first | exact Drop.refl _ | with_reducible refine Drop.off ?_ (by assumption))) (.refl _) ⟨rfl, rfl⟩
theorem sizes_len : ∀ l : List Nd, l.length ≤ Nd.sizes l
  | [] => by simp
  | x :: l => by have := x.size_pos; have := sizes_len l; rw [Nd.sizes, List.length_cons]; omega
end Go.A
namespace Go.A
open Go.Proofs
/-! 52: tabular/expr.spell -/
def c52_0 : ACode := .ops [
 ⟨some 3, none, .e (.box (.t 1)), []⟩]
def c52_1 : ACode := .ops [
 ⟨some 7, none, .q (.fa 0 (.t 3)), []⟩,
 ⟨some 8, none, .q (.ld none (.t 7)), []⟩]
def c52_2 : ACode := .ops [
 ⟨some 36, none, .q (.bin .eql (.t 8) (.v (.int .i64 1))), []⟩,
 ⟨some 35, none, .q (.mv (.t 36)), []⟩]
def c52_3 : ACode := .ops [
 ⟨some 37, none, .q (.mv (.t 0)), []⟩,
 ⟨some 38, none, .q (.fa 1 (.t 3)), []⟩,
 ⟨some 39, none, .q (.ld none (.t 38)), []⟩,
 ⟨some 40, none, .e (.call 73 [(.t 39)]), []⟩,
 ⟨some 41, none, .e (.call 72 [(.t 37), (.t 40)]), []⟩]
def c52_4 : ACode := .ops [
 ⟨some 43, none, .q (.bin .eql (.t 8) (.v (.int .i64 2))), []⟩,
 ⟨some 42, none, .q (.mv (.t 43)), []⟩]
def c52_5 : ACode := .ops [
 ⟨some 44, none, .q (.mv (.t 0)), []⟩,
 ⟨some 45, none, .q (.fa 2 (.t 3)), []⟩,
 ⟨some 46, none, .q (.ld none (.t 45)), []⟩,
 ⟨some 47, none, .e (.call 74 [(.t 46)]), []⟩,
 ⟨some 48, none, .e (.call 72 [(.t 44), (.t 47)]), []⟩]
def c52_6 : ACode := .ops [
 ⟨some 50, none, .q (.bin .eql (.t 8) (.v (.int .i64 3))), []⟩,
 ⟨some 49, none, .q (.mv (.t 50)), []⟩]
def c52_7 : ACode := .ops [
 ⟨some 51, none, .q (.mv (.t 0)), []⟩,
 ⟨some 52, none, .q (.fa 1 (.t 3)), []⟩,
 ⟨some 53, none, .q (.ld none (.t 52)), []⟩,
 ⟨some 54, none, .q (.bin .neq (.t 53) (.v (.int .i64 0))), []⟩,
 ⟨some 55, none, .e (.call 75 [(.t 54)]), []⟩,
 ⟨some 56, none, .e (.call 72 [(.t 51), (.t 55)]), []⟩]
def c52_8 : ACode := .ops [
 ⟨some 58, none, .q (.bin .eql (.t 8) (.v (.int .i64 4))), []⟩,
 ⟨some 57, none, .q (.mv (.t 58)), []⟩]
def c52_9 : ACode := .ops [
 ⟨some 59, none, .q (.mv (.t 0)), []⟩,
 ⟨some 60, none, .q (.ld (some 12) (.t 3)), []⟩,
 ⟨some 61, none, .e (.call 76 [(.t 60)]), []⟩,
 ⟨some 62, none, .e (.call 72 [(.t 59), (.t 61)]), []⟩]
def c52_10 : ACode := .ops [
 ⟨some 64, none, .q (.bin .eql (.t 8) (.v (.int .i64 5))), []⟩,
 ⟨some 63, none, .q (.mv (.t 64)), []⟩]
def c52_11 : ACode := .ops [
 ⟨some 65, none, .q (.mv (.t 0)), []⟩,
 ⟨some 66, none, .q (.fa 3 (.t 3)), []⟩,
 ⟨some 67, none, .q (.ld (some 4) (.t 66)), []⟩,
 ⟨some 68, none, .e (.call 77 [(.t 67)]), []⟩,
 ⟨some 69, none, .e (.call 72 [(.t 65), (.t 68)]), []⟩]
def c52_12 : ACode := .ops [
 ⟨some 71, none, .q (.bin .eql (.t 8) (.v (.int .i64 6))), []⟩,
 ⟨some 70, none, .q (.mv (.t 71)), []⟩]
def c52_13 : ACode := .ops [
 ⟨some 72, none, .q (.mv (.t 0)), []⟩,
 ⟨some 73, none, .q (.fa 3 (.t 3)), []⟩,
 ⟨some 74, none, .q (.ld (some 4) (.t 73)), []⟩,
 ⟨some 75, none, .q (.fa 7 (.t 3)), []⟩,
 ⟨some 76, none, .q (.ld (some 4) (.t 75)), []⟩,
 ⟨some 77, none, .q (.build [(.int .i64 0), (.int .i64 0), (.bool false), (.bool false), (.int .i64 0), (.int .i64 0), (.bool false), (.bool false)] [(0, 4, (.t 74)), (4, 4, (.t 76))]), []⟩,
 ⟨some 78, none, .e (.call 78 [(.t 77)]), []⟩,
 ⟨some 79, none, .e (.call 72 [(.t 72), (.t 78)]), []⟩]
def c52_14 : ACode := .ops [
 ⟨some 81, none, .q (.bin .eql (.t 8) (.v (.int .i64 7))), []⟩,
 ⟨some 80, none, .q (.mv (.t 81)), []⟩]
def c52_15 : ACode := .ops [
 ⟨some 82, none, .q (.bin .eql (.t 8) (.v (.int .i64 8))), []⟩,
 ⟨some 80, none, .q (.mv (.t 82)), []⟩]
def c52_16 : ACode := .cond (.t 80) .skip c52_15
def c52_17 : ACode := .seq c52_14 c52_16
def c52_18 : ACode := .ops [
 ⟨some 83, none, .q (.mv (.t 0)), []⟩,
 ⟨some 84, none, .q (.fa 0 (.t 3)), []⟩,
 ⟨some 85, none, .q (.ld none (.t 84)), []⟩,
 ⟨some 86, none, .q (.bin .sub (.t 85) (.v (.int .i64 7))), []⟩,
 ⟨some 87, none, .q (.idx (.v (.str [45, 43])) (.t 86)), []⟩,
 ⟨some 88, none, .e (.call 79 [(.t 83), (.t 87)]), []⟩]
def c52_19 : ACode := .ops [
 ⟨some 89, none, .q (.mv (.t 0)), []⟩,
 ⟨some 90, none, .q (.fa 11 (.t 3)), []⟩,
 ⟨some 91, none, .q (.ld none (.t 90)), []⟩,
 ⟨some 92, none, .q (.ia 12 (.t 91) (.v (.int .i64 0))), []⟩,
 ⟨some 93, none, .q (.ld (some 12) (.t 92)), []⟩,
 ⟨some 94, none, .e (.call 80 [(.t 89), (.t 93), (.v (.int .i64 6))]), []⟩]
def c52_20 : ACode := .seq c52_18 c52_19
def c52_21 : ACode := .ops [
 ⟨some 96, none, .q (.bin .eql (.t 8) (.v (.int .i64 9))), []⟩,
 ⟨some 95, none, .q (.mv (.t 96)), []⟩]
def c52_22 : ACode := .ops [
 ⟨some 97, none, .q (.mv (.t 0)), []⟩,
 ⟨some 98, none, .q (.fa 11 (.t 3)), []⟩,
 ⟨some 99, none, .q (.ld none (.t 98)), []⟩,
 ⟨some 100, none, .q (.ia 12 (.t 99) (.v (.int .i64 0))), []⟩,
 ⟨some 101, none, .q (.ld (some 12) (.t 100)), []⟩,
 ⟨some 102, none, .e (.call 80 [(.t 97), (.t 101), (.v (.int .i64 7))]), []⟩]
def c52_23 : ACode := .ops [
 ⟨some 103, none, .q (.mv (.t 0)), []⟩,
 ⟨some 104, none, .e (.call 79 [(.t 103), (.v (.int .u8 37))]), []⟩]
def c52_24 : ACode := .seq c52_22 c52_23
def c52_25 : ACode := .ops [
 ⟨some 106, none, .q (.bin .eql (.t 8) (.v (.int .i64 22))), []⟩,
 ⟨some 105, none, .q (.mv (.t 106)), []⟩]
def c52_26 : ACode := .ops [
 ⟨some 107, none, .q (.mv (.t 0)), []⟩,
 ⟨some 108, none, .q (.fa 2 (.t 3)), []⟩,
 ⟨some 109, none, .q (.ld none (.t 108)), []⟩,
 ⟨some 110, none, .e (.call 72 [(.t 107), (.t 109)]), []⟩]
def c52_27 : ACode := .ops [
 ⟨some 111, none, .q (.mv (.t 0)), []⟩,
 ⟨some 112, none, .e (.call 79 [(.t 111), (.v (.int .u8 40))]), []⟩]
def c52_28 : ACode := .ops [
 ⟨some 113, none, .q (.fa 11 (.t 3)), []⟩,
 ⟨some 114, none, .q (.ld none (.t 113)), []⟩,
 ⟨some 115, none, .q (.len (.t 114)), []⟩,
 ⟨some 116, none, .q (.mv (.v (.int .i64 0))), []⟩]
def c52_29 : ACode := .ops [
 ⟨some 117, none, .q (.bin .lss (.t 116) (.t 115)), []⟩]
def c52_30 : ACode := .cond (.t 117) .skip (.exit 1)
def c52_31 : ACode := .ops [
 ⟨some 118, none, .q (.mv (.t 116)), []⟩,
 ⟨some 119, none, .q (.ia 12 (.t 114) (.t 116)), []⟩,
 ⟨some 120, none, .q (.ld (some 12) (.t 119)), []⟩,
 ⟨some 5, none, .e (.alloc [(.int .i64 0), (.int .i64 0), (.str []), (.int .i64 0), (.int .i64 0), (.bool false), (.bool false), (.int .i64 0), (.int .i64 0), (.bool false), (.bool false), (.sl .full [])]), []⟩,
 ⟨some 4, none, .q (.mv (.t 118)), []⟩,
 ⟨none, none, .e (.store 12 (.t 5) (.t 120)), []⟩]
def c52_32 : ACode := .ops [
 ⟨some 121, none, .q (.mv (.t 4)), []⟩,
 ⟨some 122, none, .q (.bin .gtr (.t 121) (.v (.int .i64 0))), []⟩]
def c52_33 : ACode := .ops [
 ⟨some 123, none, .q (.mv (.t 0)), []⟩,
 ⟨some 124, none, .e (.call 79 [(.t 123), (.v (.int .u8 44))]), []⟩]
def c52_34 : ACode := .cond (.t 122) c52_33 .skip
def c52_35 : ACode := .seq c52_32 c52_34
def c52_36 : ACode := .ops [
 ⟨some 125, none, .q (.mv (.t 0)), []⟩,
 ⟨some 126, none, .q (.ld (some 12) (.t 5)), []⟩,
 ⟨some 127, none, .e (.call 52 [(.t 125), (.t 126)]), []⟩]
def c52_37 : ACode := .seq c52_35 c52_36
def c52_38 : ACode := .seq c52_31 c52_37
def c52_39 : ACode := .block 2 c52_38
def c52_40 : ACode := .ops [
 ⟨some 128, none, .q (.bin .add (.t 116) (.v (.int .i64 1))), []⟩,
 ⟨some 116, none, .q (.mv (.t 128)), []⟩]
def c52_41 : ACode := .seq c52_39 c52_40
def c52_42 : ACode := .seq c52_30 c52_41
def c52_43 : ACode := .seq c52_29 c52_42
def c52_44 : ACode := .loop c52_43
def c52_45 : ACode := .block 1 c52_44
def c52_46 : ACode := .seq c52_28 c52_45
def c52_47 : ACode := .ops [
 ⟨some 129, none, .q (.mv (.t 0)), []⟩,
 ⟨some 130, none, .e (.call 79 [(.t 129), (.v (.int .u8 41))]), []⟩]
def c52_48 : ACode := .seq c52_46 c52_47
def c52_49 : ACode := .seq c52_27 c52_48
def c52_50 : ACode := .seq c52_26 c52_49
def c52_51 : ACode := .ops [
 ⟨some 132, none, .q (.bin .eql (.t 8) (.v (.int .i64 23))), []⟩,
 ⟨some 131, none, .q (.mv (.t 132)), []⟩]
def c52_52 : ACode := .ops [
 ⟨some 9, none, .q (.fa 0 (.t 3)), []⟩,
 ⟨some 10, none, .q (.ld none (.t 9)), []⟩,
 ⟨some 11, none, .e (.call 81 [(.t 10)]), []⟩,
 ⟨some 6, none, .q (.mv (.t 11)), []⟩]
def c52_53 : ACode := .ops [
 ⟨some 12, none, .q (.mv (.t 0)), []⟩,
 ⟨some 13, none, .q (.fa 11 (.t 3)), []⟩,
 ⟨some 14, none, .q (.ld none (.t 13)), []⟩,
 ⟨some 15, none, .q (.ia 12 (.t 14) (.v (.int .i64 0))), []⟩,
 ⟨some 16, none, .q (.ld (some 12) (.t 15)), []⟩,
 ⟨some 17, none, .q (.mv (.t 6)), []⟩,
 ⟨some 18, none, .e (.call 80 [(.t 12), (.t 16), (.t 17)]), []⟩]
def c52_54 : ACode := .ops [
 ⟨some 19, none, .q (.mv (.t 0)), []⟩,
 ⟨some 21, none, .q (.fa 0 (.t 3)), []⟩,
 ⟨some 22, none, .q (.ld none (.t 21)), []⟩,
 ⟨some 23, none, .q (.bin .sub (.t 22) (.v (.int .i64 10))), []⟩,
 ⟨some 20, none, .e (.call 51 []), [⟨none, .ld none (.t 21), 22⟩]⟩,
 ⟨some 24, none, .q (.ia 1 (.t 20) (.t 23)), []⟩,
 ⟨some 25, none, .q (.ld none (.t 24)), []⟩,
 ⟨some 26, none, .e (.call 72 [(.t 19), (.t 25)]), []⟩]
def c52_55 : ACode := .ops [
 ⟨some 27, none, .q (.mv (.t 0)), []⟩,
 ⟨some 28, none, .q (.fa 11 (.t 3)), []⟩,
 ⟨some 29, none, .q (.ld none (.t 28)), []⟩,
 ⟨some 30, none, .q (.ia 12 (.t 29) (.v (.int .i64 1))), []⟩,
 ⟨some 31, none, .q (.ld (some 12) (.t 30)), []⟩,
 ⟨some 32, none, .q (.mv (.t 6)), []⟩,
 ⟨some 33, none, .q (.bin .add (.t 32) (.v (.int .i64 1))), []⟩,
 ⟨some 34, none, .e (.call 80 [(.t 27), (.t 31), (.t 33)]), []⟩]
def c52_56 : ACode := .seq c52_54 c52_55
def c52_57 : ACode := .seq c52_53 c52_56
def c52_58 : ACode := .seq c52_52 c52_57
def c52_59 : ACode := .cond (.t 131) .skip c52_58
def c52_60 : ACode := .seq c52_51 c52_59
def c52_61 : ACode := .cond (.t 105) c52_50 c52_60
def c52_62 : ACode := .seq c52_25 c52_61
def c52_63 : ACode := .cond (.t 95) c52_24 c52_62
def c52_64 : ACode := .seq c52_21 c52_63
def c52_65 : ACode := .cond (.t 80) c52_20 c52_64
def c52_66 : ACode := .seq c52_17 c52_65
def c52_67 : ACode := .cond (.t 70) c52_13 c52_66
def c52_68 : ACode := .seq c52_12 c52_67
def c52_69 : ACode := .cond (.t 63) c52_11 c52_68
def c52_70 : ACode := .seq c52_10 c52_69
def c52_71 : ACode := .cond (.t 57) c52_9 c52_70
def c52_72 : ACode := .seq c52_8 c52_71
def c52_73 : ACode := .cond (.t 49) c52_7 c52_72
def c52_74 : ACode := .seq c52_6 c52_73
def c52_75 : ACode := .cond (.t 42) c52_5 c52_74
def c52_76 : ACode := .seq c52_4 c52_75
def c52_77 : ACode := .cond (.t 35) c52_3 c52_76
def c52_78 : ACode := .seq c52_2 c52_77
def c52_79 : ACode := .block 0 c52_78
def c52_80 : ACode := .seq c52_1 c52_79
def c52_81 : ACode := .seq c52_0 c52_80
@[go_sem] theorem c52_0_wp : type_of% (wp_of c52_0.eq_1) := wp_of c52_0.eq_1
@[go_sem] theorem c52_1_wp : type_of% (wp_of c52_1.eq_1) := wp_of c52_1.eq_1
@[go_sem] theorem c52_2_wp : type_of% (wp_of c52_2.eq_1) := wp_of c52_2.eq_1
@[go_sem] theorem c52_3_wp : type_of% (wp_of c52_3.eq_1) := wp_of c52_3.eq_1
@[go_sem] theorem c52_4_wp : type_of% (wp_of c52_4.eq_1) := wp_of c52_4.eq_1
@[go_sem] theorem c52_5_wp : type_of% (wp_of c52_5.eq_1) := wp_of c52_5.eq_1
@[go_sem] theorem c52_6_wp : type_of% (wp_of c52_6.eq_1) := wp_of c52_6.eq_1
@[go_sem] theorem c52_7_wp : type_of% (wp_of c52_7.eq_1) := wp_of c52_7.eq_1
@[go_sem] theorem c52_8_wp : type_of% (wp_of c52_8.eq_1) := wp_of c52_8.eq_1
@[go_sem] theorem c52_9_wp : type_of% (wp_of c52_9.eq_1) := wp_of c52_9.eq_1
@[go_sem] theorem c52_10_wp : type_of% (wp_of c52_10.eq_1) := wp_of c52_10.eq_1
@[go_sem] theorem c52_11_wp : type_of% (wp_of c52_11.eq_1) := wp_of c52_11.eq_1
@[go_sem] theorem c52_12_wp : type_of% (wp_of c52_12.eq_1) := wp_of c52_12.eq_1
@[go_sem] theorem c52_13_wp : type_of% (wp_of c52_13.eq_1) := wp_of c52_13.eq_1
@[go_sem] theorem c52_14_wp : type_of% (wp_of c52_14.eq_1) := wp_of c52_14.eq_1
@[go_sem] theorem c52_15_wp : type_of% (wp_of c52_15.eq_1) := wp_of c52_15.eq_1
@[go_sem] theorem c52_16_wp : type_of% (wp_of c52_16.eq_1) := wp_of c52_16.eq_1
@[go_sem] theorem c52_17_wp : type_of% (wp_of c52_17.eq_1) := wp_of c52_17.eq_1
@[go_sem] theorem c52_18_wp : type_of% (wp_of c52_18.eq_1) := wp_of c52_18.eq_1
@[go_sem] theorem c52_19_wp : type_of% (wp_of c52_19.eq_1) := wp_of c52_19.eq_1
@[go_sem] theorem c52_20_wp : type_of% (wp_of c52_20.eq_1) := wp_of c52_20.eq_1
@[go_sem] theorem c52_21_wp : type_of% (wp_of c52_21.eq_1) := wp_of c52_21.eq_1
@[go_sem] theorem c52_22_wp : type_of% (wp_of c52_22.eq_1) := wp_of c52_22.eq_1
@[go_sem] theorem c52_23_wp : type_of% (wp_of c52_23.eq_1) := wp_of c52_23.eq_1
@[go_sem] theorem c52_24_wp : type_of% (wp_of c52_24.eq_1) := wp_of c52_24.eq_1
@[go_sem] theorem c52_25_wp : type_of% (wp_of c52_25.eq_1) := wp_of c52_25.eq_1
@[go_sem] theorem c52_26_wp : type_of% (wp_of c52_26.eq_1) := wp_of c52_26.eq_1
@[go_sem] theorem c52_27_wp : type_of% (wp_of c52_27.eq_1) := wp_of c52_27.eq_1
@[go_sem] theorem c52_28_wp : type_of% (wp_of c52_28.eq_1) := wp_of c52_28.eq_1
@[go_sem] theorem c52_29_wp : type_of% (wp_of c52_29.eq_1) := wp_of c52_29.eq_1
@[go_sem] theorem c52_30_wp : type_of% (wp_of c52_30.eq_1) := wp_of c52_30.eq_1
@[go_sem] theorem c52_31_wp : type_of% (wp_of c52_31.eq_1) := wp_of c52_31.eq_1
@[go_sem] theorem c52_32_wp : type_of% (wp_of c52_32.eq_1) := wp_of c52_32.eq_1
@[go_sem] theorem c52_33_wp : type_of% (wp_of c52_33.eq_1) := wp_of c52_33.eq_1
@[go_sem] theorem c52_34_wp : type_of% (wp_of c52_34.eq_1) := wp_of c52_34.eq_1
@[go_sem] theorem c52_35_wp : type_of% (wp_of c52_35.eq_1) := wp_of c52_35.eq_1
@[go_sem] theorem c52_36_wp : type_of% (wp_of c52_36.eq_1) := wp_of c52_36.eq_1
@[go_sem] theorem c52_37_wp : type_of% (wp_of c52_37.eq_1) := wp_of c52_37.eq_1
@[go_sem] theorem c52_38_wp : type_of% (wp_of c52_38.eq_1) := wp_of c52_38.eq_1
@[go_sem] theorem c52_39_wp : type_of% (wp_of c52_39.eq_1) := wp_of c52_39.eq_1
@[go_sem] theorem c52_40_wp : type_of% (wp_of c52_40.eq_1) := wp_of c52_40.eq_1
@[go_sem] theorem c52_41_wp : type_of% (wp_of c52_41.eq_1) := wp_of c52_41.eq_1
@[go_sem] theorem c52_42_wp : type_of% (wp_of c52_42.eq_1) := wp_of c52_42.eq_1
@[go_sem] theorem c52_43_wp : type_of% (wp_of c52_43.eq_1) := wp_of c52_43.eq_1
@[go_sem] theorem c52_44_wp : type_of% (wp_of c52_44.eq_1) := wp_of c52_44.eq_1
@[go_sem] theorem c52_45_wp : type_of% (wp_of c52_45.eq_1) := wp_of c52_45.eq_1
@[go_sem] theorem c52_46_wp : type_of% (wp_of c52_46.eq_1) := wp_of c52_46.eq_1
@[go_sem] theorem c52_47_wp : type_of% (wp_of c52_47.eq_1) := wp_of c52_47.eq_1
@[go_sem] theorem c52_48_wp : type_of% (wp_of c52_48.eq_1) := wp_of c52_48.eq_1
@[go_sem] theorem c52_49_wp : type_of% (wp_of c52_49.eq_1) := wp_of c52_49.eq_1
@[go_sem] theorem c52_50_wp : type_of% (wp_of c52_50.eq_1) := wp_of c52_50.eq_1
@[go_sem] theorem c52_51_wp : type_of% (wp_of c52_51.eq_1) := wp_of c52_51.eq_1
@[go_sem] theorem c52_52_wp : type_of% (wp_of c52_52.eq_1) := wp_of c52_52.eq_1
@[go_sem] theorem c52_53_wp : type_of% (wp_of c52_53.eq_1) := wp_of c52_53.eq_1
@[go_sem] theorem c52_54_wp : type_of% (wp_of c52_54.eq_1) := wp_of c52_54.eq_1
@[go_sem] theorem c52_55_wp : type_of% (wp_of c52_55.eq_1) := wp_of c52_55.eq_1
@[go_sem] theorem c52_56_wp : type_of% (wp_of c52_56.eq_1) := wp_of c52_56.eq_1
@[go_sem] theorem c52_57_wp : type_of% (wp_of c52_57.eq_1) := wp_of c52_57.eq_1
@[go_sem] theorem c52_58_wp : type_of% (wp_of c52_58.eq_1) := wp_of c52_58.eq_1
@[go_sem] theorem c52_59_wp : type_of% (wp_of c52_59.eq_1) := wp_of c52_59.eq_1
@[go_sem] theorem c52_60_wp : type_of% (wp_of c52_60.eq_1) := wp_of c52_60.eq_1
@[go_sem] theorem c52_61_wp : type_of% (wp_of c52_61.eq_1) := wp_of c52_61.eq_1
@[go_sem] theorem c52_62_wp : type_of% (wp_of c52_62.eq_1) := wp_of c52_62.eq_1
@[go_sem] theorem c52_63_wp : type_of% (wp_of c52_63.eq_1) := wp_of c52_63.eq_1
@[go_sem] theorem c52_64_wp : type_of% (wp_of c52_64.eq_1) := wp_of c52_64.eq_1
@[go_sem] theorem c52_65_wp : type_of% (wp_of c52_65.eq_1) := wp_of c52_65.eq_1
@[go_sem] theorem c52_66_wp : type_of% (wp_of c52_66.eq_1) := wp_of c52_66.eq_1
@[go_sem] theorem c52_67_wp : type_of% (wp_of c52_67.eq_1) := wp_of c52_67.eq_1
@[go_sem] theorem c52_68_wp : type_of% (wp_of c52_68.eq_1) := wp_of c52_68.eq_1
@[go_sem] theorem c52_69_wp : type_of% (wp_of c52_69.eq_1) := wp_of c52_69.eq_1
@[go_sem] theorem c52_70_wp : type_of% (wp_of c52_70.eq_1) := wp_of c52_70.eq_1
@[go_sem] theorem c52_71_wp : type_of% (wp_of c52_71.eq_1) := wp_of c52_71.eq_1
@[go_sem] theorem c52_72_wp : type_of% (wp_of c52_72.eq_1) := wp_of c52_72.eq_1
@[go_sem] theorem c52_73_wp : type_of% (wp_of c52_73.eq_1) := wp_of c52_73.eq_1
@[go_sem] theorem c52_74_wp : type_of% (wp_of c52_74.eq_1) := wp_of c52_74.eq_1
@[go_sem] theorem c52_75_wp : type_of% (wp_of c52_75.eq_1) := wp_of c52_75.eq_1
@[go_sem] theorem c52_76_wp : type_of% (wp_of c52_76.eq_1) := wp_of c52_76.eq_1
@[go_sem] theorem c52_77_wp : type_of% (wp_of c52_77.eq_1) := wp_of c52_77.eq_1
@[go_sem] theorem c52_78_wp : type_of% (wp_of c52_78.eq_1) := wp_of c52_78.eq_1
@[go_sem] theorem c52_79_wp : type_of% (wp_of c52_79.eq_1) := wp_of c52_79.eq_1
@[go_sem] theorem c52_80_wp : type_of% (wp_of c52_80.eq_1) := wp_of c52_80.eq_1
@[go_sem] theorem c52_81_wp : type_of% (wp_of c52_81.eq_1) := wp_of c52_81.eq_1
def c52 : AFn := ⟨133, [], c52_81⟩
set_option maxRecDepth 100000 in
theorem c52_ok : compF Tryz.prog Tryz.f52 = some c52 := by kernel_rfl
theorem a52 {args : List AV} {σ : ASt} {R : AV → ASt → Prop} (hl : args.length ≤ 133) (h : c52_81.wp Tryz.prog (RetQ [] R) (init args) σ) : ACalls Tryz.prog 52 args σ R := acalls_of Tryz.func52 c52_ok hl h
/-! 80: tabular/expr.inside -/
def c80_0 : ACode := .ops [
 ⟨some 4, none, .e (.box (.t 1)), []⟩]
def c80_1 : ACode := .ops [
 ⟨some 6, none, .q (.fa 0 (.t 4)), []⟩,
 ⟨some 7, none, .q (.ld none (.t 6)), []⟩,
 ⟨some 8, none, .e (.call 81 [(.t 7)]), []⟩,
 ⟨some 9, none, .q (.mv (.t 2)), []⟩,
 ⟨some 10, none, .q (.bin .geq (.t 8) (.t 9)), []⟩]
def c80_2 : ACode := .ops [
 ⟨some 11, none, .q (.mv (.t 0)), []⟩,
 ⟨some 12, none, .q (.ld (some 12) (.t 4)), []⟩,
 ⟨some 13, none, .e (.call 52 [(.t 11), (.t 12)]), []⟩]
def c80_3 : ACode := .seq c80_2 .ret
def c80_4 : ACode := .cond (.t 10) c80_3 .skip
def c80_5 : ACode := .seq c80_1 c80_4
def c80_6 : ACode := .ops [
 ⟨some 14, none, .q (.mv (.t 0)), []⟩,
 ⟨some 15, none, .e (.call 79 [(.t 14), (.v (.int .u8 40))]), []⟩]
def c80_7 : ACode := .ops [
 ⟨some 16, none, .q (.mv (.t 0)), []⟩,
 ⟨some 17, none, .q (.ld (some 12) (.t 4)), []⟩,
 ⟨some 18, none, .e (.call 52 [(.t 16), (.t 17)]), []⟩]
def c80_8 : ACode := .ops [
 ⟨some 19, none, .q (.mv (.t 0)), []⟩,
 ⟨some 20, none, .e (.call 79 [(.t 19), (.v (.int .u8 41))]), []⟩]
def c80_9 : ACode := .seq c80_7 c80_8
def c80_10 : ACode := .seq c80_6 c80_9
def c80_11 : ACode := .seq c80_5 c80_10
def c80_12 : ACode := .seq c80_0 c80_11
@[go_sem] theorem c80_0_wp : type_of% (wp_of c80_0.eq_1) := wp_of c80_0.eq_1
@[go_sem] theorem c80_1_wp : type_of% (wp_of c80_1.eq_1) := wp_of c80_1.eq_1
@[go_sem] theorem c80_2_wp : type_of% (wp_of c80_2.eq_1) := wp_of c80_2.eq_1
@[go_sem] theorem c80_3_wp : type_of% (wp_of c80_3.eq_1) := wp_of c80_3.eq_1
@[go_sem] theorem c80_4_wp : type_of% (wp_of c80_4.eq_1) := wp_of c80_4.eq_1
@[go_sem] theorem c80_5_wp : type_of% (wp_of c80_5.eq_1) := wp_of c80_5.eq_1
@[go_sem] theorem c80_6_wp : type_of% (wp_of c80_6.eq_1) := wp_of c80_6.eq_1
@[go_sem] theorem c80_7_wp : type_of% (wp_of c80_7.eq_1) := wp_of c80_7.eq_1
@[go_sem] theorem c80_8_wp : type_of% (wp_of c80_8.eq_1) := wp_of c80_8.eq_1
@[go_sem] theorem c80_9_wp : type_of% (wp_of c80_9.eq_1) := wp_of c80_9.eq_1
@[go_sem] theorem c80_10_wp : type_of% (wp_of c80_10.eq_1) := wp_of c80_10.eq_1
@[go_sem] theorem c80_11_wp : type_of% (wp_of c80_11.eq_1) := wp_of c80_11.eq_1
@[go_sem] theorem c80_12_wp : type_of% (wp_of c80_12.eq_1) := wp_of c80_12.eq_1
def c80 : AFn := ⟨21, [], c80_12⟩
set_option maxRecDepth 100000 in
theorem c80_ok : compF Tryz.prog Tryz.f80 = some c80 := by kernel_rfl
theorem a80 {args : List AV} {σ : ASt} {R : AV → ASt → Prop} (hl : args.length ≤ 21) (h : c80_12.wp Tryz.prog (RetQ [] R) (init args) σ) : ACalls Tryz.prog 80 args σ R := acalls_of Tryz.func80 c80_ok hl h
end Go.A
namespace Go.A
open Go.Proofs Go.Lib
set_option maxRecDepth 100000
set_option linter.unusedSimpArgs false
set_option linter.unusedVariables false
theorem BD.tab {σ0 σ : ASt} {b : Nat} {l : List UInt8} (h : BD σ0 b l σ) (hb : σ0 b = none) (hT : Tab σ0) : Tab σ := h.at (by intro e; unfold Tab at hT; rw [e, hb] at hT; cases hT) hT
theorem BD.maxL {σ0 σ : ASt} {b : Nat} {l : List UInt8} (h : BD σ0 b l σ) (hb : σ0 b = none) (hM : MaxL σ0) : MaxL σ := by
  obtain ⟨m, hm⟩ := hM
  exact ⟨m, h.at (by intro e; rw [e, hb] at hm; cases hm) hm⟩
theorem MaxL.set {σ : ASt} {b : Nat} {r : Option Role} (h : MaxL σ) (hb : σ b = none) : MaxL (σ.set b r) := by
  obtain ⟨m, hm⟩ := h
  exact ⟨m, by rw [ASt.set_ne]; exact hm; intro e; rw [e, hb] at hm; cases hm⟩
def SpellOk (n : Nd) : Prop := ∀ (σ0 σ : ASt) (b : Nat) (l : List UInt8), BD σ0 b l σ → σ0 b = none → Tab σ0 → MaxL σ0 → l.length + n.spell.length ≤ 900000 →
    ACalls Tryz.prog 52 [.ptr b 0, n.av] σ fun v σ' => v = .tuple [] ∧ BD σ0 b (l ++ n.spell) σ'
theorem inside_ok {n : Nd} (hs : SpellOk n) (ho : 1 ≤ n.op ∧ n.op ≤ 23) (least : Int) {σ0 σ : ASt} {b : Nat} {l : List UInt8} (h : BD σ0 b l σ) (hb : σ0 b = none) (hT : Tab σ0) (hM : MaxL σ0) (hl : l.length + (insT least n.op n.spell).length ≤ 900000) :
    ACalls Tryz.prog 80 [.ptr b 0, n.av, .int .i64 least] σ fun v σ' => v = .tuple [] ∧ BD σ0 b (l ++ insT least n.op n.spell) σ' := by
  have hL := level_ok n.op (by omega) (by omega)
  have hS : ∀ {σ0 σ : ASt} {b : Nat} {l : List UInt8}, BD σ0 b l σ → σ0 b = none → Tab σ0 → MaxL σ0 → l.length + n.spell.length ≤ 900000 →
    ACalls Tryz.prog 52 [.ptr b 0, n.av] σ fun v σ' => v = .tuple [] ∧ BD σ0 b (l ++ n.spell) σ' := fun {_ _ _ _} => hs _ _ _ _
  clear hs
  obtain ⟨op, m, s, a, d, kids⟩ := n
  rw [Nd.av_cs] at hS ⊢
  generalize (Nd.mk op m s a d kids).spell = t at *
  simp only [Nd.op] at hL hl ho ⊢
  generalize kids.map Nd.av = L at *
  refine a80 (by simp) ?_
  simp (disch := first | assumption | omega | (simp only [List.length_append, List.length_cons, List.length_nil]; omega)) only [go_sem]
  refine boxC_by rfl fun c hc => ?_
  obtain ⟨hB, hcb, hc0⟩ := h.add hc (r := .obj (Nd.cs op m s a d L))
  have hb1 : (σ0.set c (some (.obj (Nd.cs op m s a d L)))) b = none := by rw [ASt.set_ne (Ne.symm hcb)]; exact hb
  have hT1 := hT.set hc0 (r := some (.obj (Nd.cs op m s a d L)))
  have hM1 := hM.set hc0 (r := some (.obj (Nd.cs op m s a d L)))
  have hcell : ∀ {l' : List UInt8} {σ1 : ASt}, BD (σ0.set c (some (.obj (Nd.cs op m s a d L)))) b l' σ1 → σ1 c = some (.obj (Nd.cs op m s a d L)) := fun h => h.at hcb (ASt.set_same _ _ _)
  have hoff : ∀ {l' : List UInt8} {σ1 : ASt}, BD (σ0.set c (some (.obj (Nd.cs op m s a d L)))) b l' σ1 → ∃ σ', Drop σ1 σ' ∧ BD σ0 b l' σ' := fun h => h.off hcb hc0
  have hc1 := hcell hB
  rw [cells_agg]
  generalize σ0.set c (some (.obj (Nd.cs op m s a d L))) = τ at hB hb1 hT1 hM1 hcell hoff
  generalize σ.set c (some (.obj (Nd.cs op m s a d L))) = σ1 at hB hc1 ⊢
  unfold insT at hl ⊢
  by_cases hlv : least ≤ levelP op
  · rw [if_pos hlv] at hl ⊢
    generalize levelP op = lv at *
    simp (disch := first | assumption | omega | (simp only [List.length_append, List.length_cons, List.length_nil]; omega)) only [go_sem, ↓reduceIte, hc1]
    refine hL.use ?_
    simp (disch := first | assumption | omega | (simp only [List.length_append, List.length_cons, List.length_nil]; omega)) only [go_sem, reduceCtorEq, Nat.reduceEqDiff, Nat.reduceLeDiff, ↓reduceIte, hc1, hlv]
    refine (hS hB hb1 hT1 hM1 hl).mono ?_
    rintro v σ2 ⟨rfl, hB2⟩
    simp (disch := first | assumption | omega | (simp only [List.length_append, List.length_cons, List.length_nil]; omega)) only [go_sem]
    obtain ⟨σ3, hd, hB3⟩ := hoff hB2
    exact retC_by hd (.refl _) ⟨rfl, hB3⟩
  · rw [if_neg hlv] at hl ⊢
    generalize levelP op = lv at *
    simp only [List.length_append, List.length_cons, List.length_nil] at hl
    simp (disch := first | assumption | omega | (simp only [List.length_append, List.length_cons, List.length_nil]; omega)) only [go_sem, ↓reduceIte, hc1]
    refine hL.use ?_
    simp (disch := first | assumption | omega | (simp only [List.length_append, List.length_cons, List.length_nil]; omega)) only [go_sem, reduceCtorEq, Nat.reduceEqDiff, ↓reduceIte, hlv]
    refine (writeByte_ok hB 40 (by omega)).mono ?_
    rintro v σ2 ⟨rfl, hB2⟩
    have hc2 := hcell hB2
    simp (disch := first | assumption | omega | (simp only [List.length_append, List.length_cons, List.length_nil]; omega)) only [go_sem, reduceCtorEq, Nat.reduceEqDiff, Nat.reduceLeDiff, ↓reduceIte, hc2]
    refine (hS hB2 hb1 hT1 hM1 (by simp only [List.length_append, List.length_cons, List.length_nil]; omega)).mono ?_
    rintro v σ3 ⟨rfl, hB3⟩
    simp (disch := first | assumption | omega | (simp only [List.length_append, List.length_cons, List.length_nil]; omega)) only [go_sem, reduceCtorEq, ↓reduceIte]
    refine (writeByte_ok hB3 41 (by simp only [List.length_append, List.length_cons, List.length_nil]; omega)).mono ?_
    rintro v σ4 ⟨rfl, hB4⟩
    simp (disch := first | assumption | omega | (simp only [List.length_append, List.length_cons, List.length_nil]; omega)) only [go_sem]
    obtain ⟨σ5, hd, hB5⟩ := hoff hB4
    refine retC_by hd (.refl _) ⟨rfl, ?_⟩
    have e : l ++ 40 :: (t ++ [41]) = l ++ [40] ++ t ++ [41] := by simp
    rw [e]; exact hB5
theorem textD_ne (n : Int) : textD n ≠ [] := by
  unfold textD
  have := dd_len_pos (n.natAbs / 10000)
  intro h
  rw [List.append_eq_nil_iff, List.append_eq_nil_iff] at h
  exact this h.2.1
theorem failT_ne {n : Int} (h1 : 1 ≤ n.tdiv 10000) (h2 : n.tdiv 10000 ≤ 7) : failT 4 n ≠ [] := by
  unfold failT
  generalize n.tdiv 10000 = i at *
  rw [if_neg (by omega)]
  have hc : i = 1 ∨ i = 2 ∨ i = 3 ∨ i = 4 ∨ i = 5 ∨ i = 6 ∨ i = 7 := by omega
  rcases hc with rfl | rfl | rfl | rfl | rfl | rfl | rfl <;> decide
theorem truthP_ne (b : Bool) : truthP b ≠ [] := by cases b <;> decide
theorem joinC_snoc : ∀ (L : List (Int × List UInt8)) (p : Int × List UInt8), L ≠ [] → joinC (L ++ [p]) = joinC L ++ 44 :: p.2
  | [], p, h => absurd rfl h
  | q :: r, p, _ => by simp [joinC]
theorem joinC_take_le : ∀ (L : List (Int × List UInt8)) (i : Nat), (joinC (L.take i)).length ≤ (joinC L).length
  | [], i => by simp
  | q :: r, 0 => by simp [joinC]
  | q :: r, i + 1 => by
    rw [List.take_succ_cons]
    simp only [joinC, List.length_append]
    have : ∀ (r : List (Int × List UInt8)) (i : Nat), ((r.take i).flatMap fun q => 44 :: q.2).length ≤ (r.flatMap fun q => 44 :: q.2).length := by
      intro r
      induction r with
      | nil => intro i; simp
      | cons x r ih =>
        intro i
        cases i with
        | zero => simp
        | succ i => rw [List.take_succ_cons, List.flatMap_cons, List.flatMap_cons, List.length_append, List.length_append]; have := ih i; omega
    have := this r i
    omega
theorem textP_ne {r : Ref} (h : r.good = true) : textP r ≠ [] := by
  intro e
  have := (text_len h).1
  rw [e] at this
  simp at this
theorem sign_len (k : Nat) : (signL.getD k []).length ≤ 2 := by
  unfold signL
  rcases k with _|_|_|_|_|_|_|_|_|_|_|_|k <;> simp
set_option maxHeartbeats 2000000 in
theorem spell_ok : ∀ (k : Nat) (n : Nd), n.size ≤ k → n.ok → SpellOk n
  | 0, n, hk, _ => by have := n.size_pos; omega
  | k + 1, n, hk, hn => by
    have ih := spell_ok k
    intro σ0 σ b l h hb hT hM hl
    obtain ⟨op, m, s, a, d, kids⟩ := n
    rw [Nd.size] at hk
    rw [Nd.ok] at hn
    obtain ⟨⟨ho, g1, g2, g4, gc, g5, g6, g7, gb, gk⟩, hks⟩ := hn
    have hkid : ∀ x ∈ kids, SpellOk x ∧ 1 ≤ x.op ∧ x.op ≤ 23 := fun x hx => by
      have h1 := Nd.size_kid hx
      have h2 := Nd.oks_mem.1 hks x hx
      refine ⟨ih x (by omega) h2, ?_⟩
      obtain ⟨o', _, _, _, _, _⟩ := x
      rw [Nd.ok] at h2
      exact h2.1.1
    obtain ⟨w, hw⟩ : ∃ w, (Nd.mk op m s a d kids).spell = w := ⟨_, rfl⟩
    rw [hw] at hl ⊢
    rw [Nd.spell, Nd.spells_map] at hw
    unfold spellK at hw
    rw [Nd.av_cs]
    refine a52 (by simp) ?_
    simp (disch := first | assumption | omega | (simp only [List.length_append, List.length_cons, List.length_nil]; omega)) only [go_sem]
    refine boxC_by rfl fun c hc => ?_
    obtain ⟨hB, hcb, hc0⟩ := h.add hc (r := .obj (Nd.cs op m s a d (kids.map Nd.av)))
    have hb1 : (σ0.set c (some (.obj (Nd.cs op m s a d (kids.map Nd.av))))) b = none := by rw [ASt.set_ne (Ne.symm hcb)]; exact hb
    have hT1 := hT.set hc0 (r := some (.obj (Nd.cs op m s a d (kids.map Nd.av))))
    have hM1 := hM.set hc0 (r := some (.obj (Nd.cs op m s a d (kids.map Nd.av))))
    have hcell : ∀ {l' : List UInt8} {σ1 : ASt}, BD (σ0.set c (some (.obj (Nd.cs op m s a d (kids.map Nd.av))))) b l' σ1 → σ1 c = some (.obj (Nd.cs op m s a d (kids.map Nd.av))) := fun h => h.at hcb (ASt.set_same _ _ _)
    have hoff : ∀ {l' : List UInt8} {σ1 : ASt}, BD (σ0.set c (some (.obj (Nd.cs op m s a d (kids.map Nd.av))))) b l' σ1 → ∃ σ', Drop σ1 σ' ∧ BD σ0 b l' σ' := fun h => h.off hcb hc0
    have hc1 := hcell hB
    rw [cells_agg]
    generalize σ0.set c (some (.obj (Nd.cs op m s a d (kids.map Nd.av)))) = τ at hB hb1 hT1 hM1 hcell hoff
    generalize σ.set c (some (.obj (Nd.cs op m s a d (kids.map Nd.av)))) = σ1 at hB hc1 ⊢
    have hT2 := BD.tab hB hb1 hT1
    have hM2 := BD.maxL hB hb1 hM1
    by_cases h1 : op = 1
    · subst h1
      rw [if_pos rfl] at hw
      subst hw
      simp (disch := first | assumption | omega | (simp only [List.length_append, List.length_cons, List.length_nil]; omega)) only [go_sem, reduceCtorEq, Nat.reduceEqDiff, ↓reduceIte, hc1]
      refine (dtext_ok hT2 (g1 rfl)).mono ?_
      rintro v σ' ⟨rfl, rfl⟩
      simp (disch := first | assumption | omega | (simp only [List.length_append, List.length_cons, List.length_nil]; omega)) only [go_sem, Nat.reduceEqDiff, ↓reduceIte]
      refine (writes1_ok hB _ (textD_ne m) (by omega)).mono ?_
      rintro v σ2 ⟨rfl, hB2⟩
      simp (disch := first | assumption | omega | (simp only [List.length_append, List.length_cons, List.length_nil]; omega)) only [go_sem]
      obtain ⟨σ3, hd, hB3⟩ := hoff hB2
      exact retC_by hd (.refl _) ⟨rfl, hB3⟩
    rw [if_neg h1] at hw
    by_cases h2 : op = 2
    · subst h2
      rw [if_pos rfl] at hw
      have hQ2 := tquote_ok hM2 s (g2 rfl)
      have hQ : quotT s = 34 :: dbl s ++ [34] := rfl
      rw [hQ] at hw
      rw [hw] at hQ2
      have hwn : w ≠ [] := by rw [← hw]; simp
      simp (disch := first | assumption | omega | (simp only [List.length_append, List.length_cons, List.length_nil]; omega)) only [go_sem, reduceCtorEq, Nat.reduceEqDiff, Int.reduceEq, ↓reduceIte, hc1]
      refine hQ2.mono ?_
      rintro v σ' ⟨rfl, rfl⟩
      simp (disch := first | assumption | omega | (simp only [List.length_append, List.length_cons, List.length_nil]; omega)) only [go_sem, Nat.reduceEqDiff, ↓reduceIte]
      refine (writes1_ok hB _ hwn (by omega)).mono ?_
      rintro v σ2 ⟨rfl, hB2⟩
      simp (disch := first | assumption | omega | (simp only [List.length_append, List.length_cons, List.length_nil]; omega)) only [go_sem]
      obtain ⟨σ3, hd, hB3⟩ := hoff hB2
      exact retC_by hd (.refl _) ⟨rfl, hB3⟩
    rw [if_neg h2] at hw
    by_cases h3 : op = 3
    · subst h3
      rw [if_pos rfl] at hw
      have hQ := truth_ok (!decide (m = 0))
      have hwn : w ≠ [] := by rw [← hw]; exact truthP_ne _
      rw [hw] at hQ
      simp (disch := first | assumption | omega | (simp only [List.length_append, List.length_cons, List.length_nil]; omega)) only [go_sem, reduceCtorEq, Nat.reduceEqDiff, Int.reduceEq, ↓reduceIte, hc1]
      refine hQ.use ?_
      simp (disch := first | assumption | omega | (simp only [List.length_append, List.length_cons, List.length_nil]; omega)) only [go_sem, Nat.reduceEqDiff, ↓reduceIte]
      refine (writes1_ok hB _ hwn (by omega)).mono ?_
      rintro v σ2 ⟨rfl, hB2⟩
      simp (disch := first | assumption | omega | (simp only [List.length_append, List.length_cons, List.length_nil]; omega)) only [go_sem]
      obtain ⟨σ3, hd, hB3⟩ := hoff hB2
      exact retC_by hd (.refl _) ⟨rfl, hB3⟩
    rw [if_neg h3] at hw
    by_cases h4 : op = 4
    · subst h4
      rw [if_pos rfl] at hw
      obtain ⟨f1, f2⟩ := g4 rfl
      have hwn : w ≠ [] := by rw [← hw]; exact failT_ne f1 f2
      have hmb : m.natAbs ≤ 999999999999999999 := by have : (m.tdiv 10000).natAbs = m.natAbs / 10000 := Int.natAbs_tdiv m 10000; omega
      have hQ := failure_ok 4 m s a d kids hmb
      rw [Nd.av_cs, hw] at hQ
      simp (disch := first | assumption | omega | (simp only [List.length_append, List.length_cons, List.length_nil]; omega)) only [go_sem, reduceCtorEq, Nat.reduceEqDiff, Nat.reduceLeDiff, Int.reduceEq, ↓reduceIte, hc1]
      refine hQ.use ?_
      simp (disch := first | assumption | omega | (simp only [List.length_append, List.length_cons, List.length_nil]; omega)) only [go_sem, Nat.reduceEqDiff, ↓reduceIte]
      refine (writes1_ok hB _ hwn (by omega)).mono ?_
      rintro v σ2 ⟨rfl, hB2⟩
      simp (disch := first | assumption | omega | (simp only [List.length_append, List.length_cons, List.length_nil]; omega)) only [go_sem]
      obtain ⟨σ3, hd, hB3⟩ := hoff hB2
      exact retC_by hd (.refl _) ⟨rfl, hB3⟩
    rw [if_neg h4] at hw
    by_cases h5 : op = 5
    · subst h5
      rw [if_pos rfl] at hw
      have hQ := text_ok hT2 (g5 (.inl rfl))
      have hwn : w ≠ [] := by rw [← hw]; exact textP_ne (g5 (.inl rfl))
      rw [hw] at hQ
      unfold refAV at hQ
      simp (disch := first | assumption | omega | (simp only [List.length_append, List.length_cons, List.length_nil]; omega)) only [go_sem, reduceCtorEq, Nat.reduceEqDiff, Nat.reduceAdd, Nat.reduceLeDiff, Int.reduceEq, ↓reduceIte, hc1]
      refine hQ.mono ?_
      rintro v σ' ⟨rfl, rfl⟩
      simp (disch := first | assumption | omega | (simp only [List.length_append, List.length_cons, List.length_nil]; omega)) only [go_sem, Nat.reduceEqDiff, ↓reduceIte]
      refine (writes1_ok hB _ hwn (by omega)).mono ?_
      rintro v σ2 ⟨rfl, hB2⟩
      simp (disch := first | assumption | omega | (simp only [List.length_append, List.length_cons, List.length_nil]; omega)) only [go_sem]
      obtain ⟨σ3, hd, hB3⟩ := hoff hB2
      exact retC_by hd (.refl _) ⟨rfl, hB3⟩
    rw [if_neg h5] at hw
    by_cases h6 : op = 6
    · subst h6
      rw [if_pos rfl] at hw
      have hQ := atext_ok hT2 (g5 (.inr rfl)) (g6 rfl)
      have hwn : w ≠ [] := by rw [← hw]; simp
      rw [hw] at hQ
      unfold areaAV at hQ
      simp (disch := first | assumption | omega | (simp only [List.length_append, List.length_cons, List.length_nil]; omega)) only [go_sem, reduceCtorEq, Nat.reduceEqDiff, Nat.reduceAdd, Nat.reduceLeDiff, Int.reduceEq, ↓reduceIte, hc1]
      refine hQ.mono ?_
      rintro v σ' ⟨rfl, rfl⟩
      simp (disch := first | assumption | omega | (simp only [List.length_append, List.length_cons, List.length_nil]; omega)) only [go_sem, Nat.reduceEqDiff, ↓reduceIte]
      refine (writes1_ok hB _ hwn (by omega)).mono ?_
      rintro v σ2 ⟨rfl, hB2⟩
      simp (disch := first | assumption | omega | (simp only [List.length_append, List.length_cons, List.length_nil]; omega)) only [go_sem]
      obtain ⟨σ3, hd, hB3⟩ := hoff hB2
      exact retC_by hd (.refl _) ⟨rfl, hB3⟩
    rw [if_neg h6] at hw
    by_cases h7 : op = 7 ∨ op = 8
    · rw [if_pos h7] at hw
      obtain ⟨x, ks, rfl⟩ : ∃ x ks, kids = x :: ks := by
        cases kids with
        | nil => have := g7 (by omega); simp at this
        | cons x ks => exact ⟨x, ks, rfl⟩
      obtain ⟨i1, i2⟩ := hkid x (by simp)
      have hI := fun l' σ' (hB : BD τ b l' σ') hl' => inside_ok i1 i2 6 hB hb1 hT1 hM1 hl'
      simp only [List.map_cons, List.getD_cons_zero] at hw
      generalize insT 6 x.op x.spell = t at *
      obtain ⟨xo, xm, xs, xa, xb, xk⟩ := x
      simp only [List.map_cons] at hcell hc1 ⊢
      rw [Nd.av_cs] at hI
      simp only [Nd.av_cs] at hcell hc1 ⊢
      generalize ks.map Nd.av = K at *
      rcases h7 with rfl | rfl
      · simp only [if_true] at hw
        subst hw
        simp only [List.length_cons] at hl
        simp (disch := first | assumption | omega | (simp only [List.length_append, List.length_cons, List.length_nil]; omega)) only [go_sem, reduceCtorEq, Nat.reduceEqDiff, Int.reduceEq, ↓reduceIte, Int.reduceSub, hc1]
        refine (writeByte_ok hB 45 (by omega)).mono ?_
        rintro v σ2 ⟨rfl, hB2⟩
        have hc2 := hcell hB2
        simp (disch := first | assumption | omega | (simp only [List.length_append, List.length_cons, List.length_nil]; omega)) only [go_sem, reduceCtorEq, Nat.reduceEqDiff, Nat.reduceLeDiff, ↓reduceIte, hc2]
        refine (hI _ _ hB2 (by simp only [List.length_append, List.length_cons, List.length_nil]; omega)).mono ?_
        rintro v σ3 ⟨rfl, hB3⟩
        simp (disch := first | assumption | omega | (simp only [List.length_append, List.length_cons, List.length_nil]; omega)) only [go_sem]
        obtain ⟨σ4, hd, hB4⟩ := hoff hB3
        refine retC_by hd (.refl _) ⟨rfl, ?_⟩
        have e : l ++ 45 :: t = l ++ [45] ++ t := by simp
        rw [e]; exact hB4
      · rw [if_neg (by decide)] at hw
        subst hw
        simp only [List.length_cons] at hl
        simp (disch := first | assumption | omega | (simp only [List.length_append, List.length_cons, List.length_nil]; omega)) only [go_sem, reduceCtorEq, Nat.reduceEqDiff, Int.reduceEq, ↓reduceIte, Int.reduceSub, Int.reduceToNat, hc1]
        refine (writeByte_ok hB 43 (by omega)).mono ?_
        rintro v σ2 ⟨rfl, hB2⟩
        have hc2 := hcell hB2
        simp (disch := first | assumption | omega | (simp only [List.length_append, List.length_cons, List.length_nil]; omega)) only [go_sem, reduceCtorEq, Nat.reduceEqDiff, Nat.reduceLeDiff, ↓reduceIte, hc2]
        refine (hI _ _ hB2 (by simp only [List.length_append, List.length_cons, List.length_nil]; omega)).mono ?_
        rintro v σ3 ⟨rfl, hB3⟩
        simp (disch := first | assumption | omega | (simp only [List.length_append, List.length_cons, List.length_nil]; omega)) only [go_sem]
        obtain ⟨σ4, hd, hB4⟩ := hoff hB3
        refine retC_by hd (.refl _) ⟨rfl, ?_⟩
        have e : l ++ 43 :: t = l ++ [43] ++ t := by simp
        rw [e]; exact hB4
    rw [if_neg h7] at hw
    have h7a : op ≠ 7 := by omega
    have h7b : op ≠ 8 := by omega
    by_cases h9 : op = 9
    · subst h9
      rw [if_pos rfl] at hw
      obtain ⟨x, ks, rfl⟩ : ∃ x ks, kids = x :: ks := by
        cases kids with
        | nil => have := g7 (by omega); simp at this
        | cons x ks => exact ⟨x, ks, rfl⟩
      obtain ⟨i1, i2⟩ := hkid x (by simp)
      have hI := fun l' σ' (hB : BD τ b l' σ') hl' => inside_ok i1 i2 7 hB hb1 hT1 hM1 hl'
      simp only [List.map_cons, List.getD_cons_zero] at hw
      generalize insT 7 x.op x.spell = t at *
      obtain ⟨xo, xm, xs, xa, xb, xk⟩ := x
      rw [Nd.av_cs] at hI
      simp only [List.map_cons, Nd.av_cs] at hcell hc1 ⊢
      generalize ks.map Nd.av = K at *
      subst hw
      simp only [List.length_append, List.length_cons, List.length_nil] at hl
      simp (disch := first | assumption | omega | (simp only [List.length_append, List.length_cons, List.length_nil]; omega)) only [go_sem, reduceCtorEq, Nat.reduceEqDiff, Nat.reduceLeDiff, Int.reduceEq, ↓reduceIte, hc1]
      refine (hI _ _ hB (by omega)).mono ?_
      rintro v σ2 ⟨rfl, hB2⟩
      simp (disch := first | assumption | omega | (simp only [List.length_append, List.length_cons, List.length_nil]; omega)) only [go_sem, reduceCtorEq, ↓reduceIte]
      refine (writeByte_ok hB2 37 (by simp only [List.length_append]; omega)).mono ?_
      rintro v σ3 ⟨rfl, hB3⟩
      simp (disch := first | assumption | omega | (simp only [List.length_append, List.length_cons, List.length_nil]; omega)) only [go_sem]
      obtain ⟨σ4, hd, hB4⟩ := hoff hB3
      refine retC_by hd (.refl _) ⟨rfl, ?_⟩
      rw [← List.append_assoc]; exact hB4
    rw [if_neg h9] at hw
    by_cases h22 : op = 22
    · subst h22
      rw [if_pos rfl] at hw
      have hsn := gc rfl
      have hjt := joinC_take_le (kids.map fun x => (x.op, x.spell))
      have hspl : ∀ (i : Nat) (x : Nd), kids[i]? = some x → (kids.map fun x => (x.op, x.spell)).take (i + 1) = (kids.map fun x => (x.op, x.spell)).take i ++ [(x.op, x.spell)] := by
        intro i x hx
        have hlt : i < kids.length := (List.getElem?_eq_some_iff.1 hx).1
        rw [List.take_add_one, List.getElem?_map, hx]
        rfl
      have hspn : ∀ i, 0 < i → i < kids.length → (kids.map fun x => (x.op, x.spell)).take i ≠ [] := by
        intro i h0 h1 e
        have := congrArg List.length e
        rw [List.length_take, List.length_map, List.length_nil] at this
        omega
      have hspa : (kids.map fun x => (x.op, x.spell)).take kids.length = kids.map fun x => (x.op, x.spell) := List.take_of_length_le (by simp)
      have hspz : joinC ((kids.map fun x => (x.op, x.spell)).take 0) = [] := rfl
      generalize (kids.map fun x => (x.op, x.spell)) = sp at *
      subst hw
      simp only [List.length_append, List.length_cons, List.length_nil] at hl
      simp (disch := first | assumption | omega | (simp only [List.length_append, List.length_cons, List.length_nil]; omega)) only [go_sem, reduceCtorEq, Nat.reduceEqDiff, Int.reduceEq, ↓reduceIte, hc1]
      refine (writes1_ok hB _ hsn (by omega)).mono ?_
      rintro v σ2 ⟨rfl, hB2⟩
      simp (disch := first | assumption | omega | (simp only [List.length_append, List.length_cons, List.length_nil]; omega)) only [go_sem, reduceCtorEq, ↓reduceIte]
      refine (writeByte_ok hB2 40 (by simp only [List.length_append]; omega)).mono ?_
      rintro v σ3 ⟨rfl, hB3⟩
      have hc3 := hcell hB3
      obtain ⟨G, hG⟩ : ∃ G, G = ACode.wp Tryz.prog c52_47 := ⟨_, rfl⟩
      simp (disch := first | assumption | omega | (simp only [List.length_append, List.length_cons, List.length_nil]; omega)) only [go_sem, Nat.reduceEqDiff, ↓reduceIte, hc3, ←hG]
      refine wp_loop_by (fun (i : Nat) a1 s2 => i ≤ kids.length ∧ (a1 0 = .ptr b 0 ∧ a1 114 = .sl .shr (kids.map Nd.av) ∧ a1 115 = .int .i64 kids.length ∧ a1 116 = .int .i64 i) ∧ BD τ b (l ++ s ++ [40] ++ joinC (sp.take i)) s2) (fun i => kids.length - i) 0 (Dr.now ⟨Nat.zero_le _, ?_, ?_⟩) ?_
      · simp (disch := first | assumption | omega | (simp only [List.length_append, List.length_cons, List.length_nil]; omega)) only [go_sem, reduceCtorEq, Nat.reduceEqDiff, ↓reduceIte]
      · rw [hspz, List.append_nil]; exact hB3
      rintro i a1 s2 ⟨hi, hf, hBi⟩
      have hji := hjt i
      by_cases hlt : i < kids.length
      · have hlt' : (i : Int) < kids.length := by omega
        have hx : kids[i]? = some (kids[i]'hlt) := List.getElem?_eq_getElem hlt
        obtain ⟨x, hxe⟩ : ∃ x, kids[i]'hlt = x := ⟨_, rfl⟩
        rw [hxe] at hx
        have hmx := Nd.get hx
        have hspx := hspl i x hx
        have hjs := hjt (i + 1)
        obtain ⟨i1, i2⟩ := hkid x (List.mem_of_getElem? hx)
        obtain ⟨xo, xm, xs, xa, xb, xk⟩ := x
        rw [Nd.av_cs] at hmx
        have i1' : ∀ (σ0 σ : ASt) (b : Nat) (l : List UInt8), BD σ0 b l σ → σ0 b = none → Tab σ0 → MaxL σ0 → l.length + (Nd.mk xo xm xs xa xb xk).spell.length ≤ 900000 →
            ACalls Tryz.prog 52 [.ptr b 0, .agg (Nd.cs xo xm xs xa xb (xk.map Nd.av))] σ fun v σ' => v = .tuple [] ∧ BD σ0 b (l ++ (Nd.mk xo xm xs xa xb xk).spell) σ' := by rw [← Nd.av_cs]; exact i1
        generalize hxw : (Nd.mk xo xm xs xa xb xk).spell = xw at *
        generalize xk.map Nd.av = K at *
        generalize kids.map Nd.av = L at *
        simp (disch := first | assumption | omega | (simp only [List.length_append, List.length_cons, List.length_nil]; omega)) only [go_sem, Nat.reduceEqDiff, Nat.reduceLeDiff, ↓reduceIte, hf, hlt', hmx]
        refine allocC_by fun e he => ?_
        obtain ⟨hBe, heb, he0⟩ := hBi.add he (r := .obj (Nd.cs xo xm xs xa xb K))
        have hbe : (τ.set e (some (.obj (Nd.cs xo xm xs xa xb K)))) b = none := by rw [ASt.set_ne (Ne.symm heb)]; exact hb1
        have hTe := hT1.set he0 (r := some (.obj (Nd.cs xo xm xs xa xb K)))
        have hMe := hM1.set he0 (r := some (.obj (Nd.cs xo xm xs xa xb K)))
        have hcelle : ∀ {l' : List UInt8} {σ1 : ASt}, BD (τ.set e (some (.obj (Nd.cs xo xm xs xa xb K)))) b l' σ1 → σ1 e = some (.obj (Nd.cs xo xm xs xa xb K)) := fun h => h.at heb (ASt.set_same _ _ _)
        have hoffe : ∀ {l' : List UInt8} {σ1 : ASt}, BD (τ.set e (some (.obj (Nd.cs xo xm xs xa xb K)))) b l' σ1 → ∃ σ', Drop σ1 σ' ∧ BD τ b l' σ' := fun h => h.off heb he0
        have hce := hcelle hBe
        by_cases h0 : i = 0
        · subst h0
          have hz : ((0 : Nat) : Int) = 0 := rfl
          have hj1 : joinC (sp.take (0 + 1)) = xw := by rw [hspx]; simp [joinC]
          rw [hj1] at hjs
          rw [hspz, List.append_nil] at hBe
          simp (disch := first | assumption | omega | (simp only [List.length_append, List.length_cons, List.length_nil]; omega)) only [go_sem, reduceCtorEq, Nat.reduceEqDiff, Nat.reduceAdd, Nat.reduceLeDiff, Int.reduceLT, ↓reduceIte, hf, hz, ASt.set_set, hce]
          refine (i1' _ _ _ _ hBe hbe hTe hMe (by simp only [List.length_append, List.length_cons, List.length_nil]; omega)).mono ?_
          rintro v σ4 ⟨rfl, hB4⟩
          simp (disch := first | assumption | omega | (simp only [List.length_append, List.length_cons, List.length_nil]; omega)) only [go_sem, Nat.reduceEqDiff, ↓reduceIte, Int.reduceAdd, hf]
          obtain ⟨σ5, hd, hB5⟩ := hoffe hB4
          refine ⟨0 + 1, by dsimp only; omega, Dr.drop hd ⟨by omega, ?_, ?_⟩⟩
          · simp (disch := first | assumption | omega | (simp only [List.length_append, List.length_cons, List.length_nil]; omega)) only [go_sem, reduceCtorEq, Nat.reduceEqDiff, ↓reduceIte, hf]
          · rw [hj1]; exact hB5
        · have h0' : (0 : Int) < i := by omega
          have hj1 : joinC (sp.take (i + 1)) = joinC (sp.take i) ++ 44 :: xw := by rw [hspx, joinC_snoc _ _ (hspn i (by omega) hlt)]
          rw [hj1] at hjs
          simp only [List.length_append, List.length_cons] at hjs
          simp (disch := first | assumption | omega | (simp only [List.length_append, List.length_cons, List.length_nil]; omega)) only [go_sem, reduceCtorEq, Nat.reduceEqDiff, Nat.reduceAdd, Nat.reduceLeDiff, ↓reduceIte, hf, h0', ASt.set_set]
          refine (writeByte_ok hBe 44 (by simp only [List.length_append, List.length_cons, List.length_nil]; omega)).mono ?_
          rintro v σ4 ⟨rfl, hB4⟩
          have hc4 := hcelle hB4
          simp (disch := first | assumption | omega | (simp only [List.length_append, List.length_cons, List.length_nil]; omega)) only [go_sem, reduceCtorEq, Nat.reduceEqDiff, Nat.reduceLeDiff, ↓reduceIte, hf, hc4]
          refine (i1' _ _ _ _ hB4 hbe hTe hMe (by simp only [List.length_append, List.length_cons, List.length_nil]; omega)).mono ?_
          rintro v σ5 ⟨rfl, hB5⟩
          simp (disch := first | assumption | omega | (simp only [List.length_append, List.length_cons, List.length_nil]; omega)) only [go_sem, Nat.reduceEqDiff, ↓reduceIte, hf]
          obtain ⟨σ6, hd, hB6⟩ := hoffe hB5
          refine ⟨i + 1, by dsimp only; omega, Dr.drop hd ⟨by omega, ?_, ?_⟩⟩
          · simp (disch := first | assumption | omega | (simp only [List.length_append, List.length_cons, List.length_nil]; omega)) only [go_sem, reduceCtorEq, Nat.reduceEqDiff, ↓reduceIte, hf]
          · have e2 : l ++ s ++ [40] ++ joinC (sp.take (i + 1)) = l ++ s ++ [40] ++ joinC (sp.take i) ++ [44] ++ xw := by rw [hj1]; simp
            rw [e2]; exact hB6
      · have hlt' : ¬ (i : Int) < kids.length := by omega
        have hie : i = kids.length := by omega
        rw [hie, hspa] at hBi
        simp (disch := first | assumption | omega | (simp only [List.length_append, List.length_cons, List.length_nil]; omega)) only [go_sem, ↓reduceIte, hf, hlt']
        rw [hG]
        simp (disch := first | assumption | omega | (simp only [List.length_append, List.length_cons, List.length_nil]; omega)) only [go_sem, reduceCtorEq, ↓reduceIte, hf]
        refine (writeByte_ok hBi 41 (by simp only [List.length_append, List.length_cons, List.length_nil]; omega)).mono ?_
        rintro v σ4 ⟨rfl, hB4⟩
        simp (disch := first | assumption | omega | (simp only [List.length_append, List.length_cons, List.length_nil]; omega)) only [go_sem]
        obtain ⟨σ5, hd, hB5⟩ := hoff hB4
        refine retC_by hd (.refl _) ⟨rfl, ?_⟩
        have e2 : l ++ (s ++ 40 :: (joinC sp ++ [41])) = l ++ s ++ [40] ++ joinC sp ++ [41] := by simp
        first
          | (rw [e2]; exact hB5)
          | (have e3 : l ++ (s ++ 40 :: joinC sp ++ [41]) = l ++ s ++ [40] ++ joinC sp ++ [41] := by simp
             rw [e3]; exact hB5)
    rw [if_neg h22] at hw
    by_cases h23 : op = 23
    · subst h23
      rw [if_pos rfl] at hw
      subst hw
      simp (disch := first | assumption | omega | (simp only [List.length_append, List.length_cons, List.length_nil]; omega)) only [go_sem, Nat.reduceEqDiff, Int.reduceEq, ↓reduceIte, hc1]
      obtain ⟨σ3, hd, hB3⟩ := hoff hB
      exact retC_by hd (.refl _) ⟨rfl, hB3⟩
    rw [if_neg h23] at hw
    obtain ⟨x, y, ks, rfl⟩ : ∃ x y ks, kids = x :: y :: ks := by
      have := gb (by omega)
      match kids, this with
      | x :: y :: ks, _ => exact ⟨x, y, ks, rfl⟩
    obtain ⟨i1, i2⟩ := hkid x (by simp)
    obtain ⟨j1, j2⟩ := hkid y (by simp)
    have hI := fun l' σ' (hB : BD τ b l' σ') hl' => inside_ok i1 i2 (levelP op) hB hb1 hT1 hM1 hl'
    have hJ := fun l' σ' (hB : BD τ b l' σ') hl' => inside_ok j1 j2 (levelP op + 1) hB hb1 hT1 hM1 hl'
    have hLv := level_ok op (by omega) (by omega)
    have hlb : 0 ≤ levelP op ∧ levelP op ≤ 8 := by unfold levelP; repeat' split
                                                   all_goals omega
    simp only [List.map_cons, List.getD_cons_zero, List.getD_cons_succ] at hw
    generalize insT (levelP op) x.op x.spell = t at *
    generalize insT (levelP op + 1) y.op y.spell = u at *
    generalize levelP op = lv at *
    obtain ⟨xo, xm, xs, xa, xb, xk⟩ := x
    obtain ⟨yo, ym, ys, ya, yb, yk⟩ := y
    rw [Nd.av_cs] at hI hJ
    simp only [List.map_cons, Nd.av_cs] at hcell hc1 ⊢
    generalize ks.map Nd.av = K at *
    obtain ⟨j, hj⟩ : ∃ j : Nat, op = j + 10 := ⟨(op - 10).toNat, by omega⟩
    have hj2 : (op - 10).toNat = j := by omega
    have hj3 : op - 10 = (j : Int) := by omega
    rw [hj2] at hw
    have hjl : j < 12 := by omega
    obtain ⟨sg, hsg⟩ : ∃ sg, signL[j]? = some sg := ⟨signL[j]'(by simp [signL]; omega), List.getElem?_eq_getElem _⟩
    have hsg2 : signL.getD j [] = sg := by rw [List.getD_eq_getElem?_getD, hsg]; rfl
    have hsl := sign_len j
    have hsn : sg ≠ [] := by
      have : ∀ j < 12, signL.getD j [] ≠ [] := by decide
      rw [← hsg2]; exact this j hjl
    rw [hsg2] at hw hsl
    have hmg : (signL.map AV.str)[j]? = some (.str sg) := by rw [List.getElem?_map, hsg]; rfl
    have hSg := esigns_ok
    generalize signL.map AV.str = SL at *
    subst hw
    simp only [List.length_append] at hl
    simp (disch := first | assumption | omega | (simp only [List.length_append, List.length_cons, List.length_nil]; omega)) only [go_sem, Nat.reduceEqDiff, ↓reduceIte, hc1, h1, h2, h3, h4, h5, h6, h7a, h7b, h9, h22, h23]
    refine hLv.use ?_
    simp (disch := first | assumption | omega | (simp only [List.length_append, List.length_cons, List.length_nil]; omega)) only [go_sem, reduceCtorEq, Nat.reduceEqDiff, Nat.reduceLeDiff, ↓reduceIte, hc1]
    refine (hI _ _ hB (by omega)).mono ?_
    rintro v σ2 ⟨rfl, hB2⟩
    have hc2 := hcell hB2
    simp (disch := first | assumption | omega | (simp only [List.length_append, List.length_cons, List.length_nil]; omega)) only [go_sem, reduceCtorEq, Nat.reduceEqDiff, ↓reduceIte, hc2]
    refine hSg.use ?_
    simp (disch := first | assumption | omega | (simp only [List.length_append, List.length_cons, List.length_nil]; omega)) only [go_sem, Nat.reduceEqDiff, ↓reduceIte, hc2, hj3, hmg]
    refine (writes1_ok hB2 _ hsn (by simp only [List.length_append]; omega)).mono ?_
    rintro v σ3 ⟨rfl, hB3⟩
    have hc3 := hcell hB3
    simp (disch := first | assumption | omega | (simp only [List.length_append, List.length_cons, List.length_nil]; omega)) only [go_sem, reduceCtorEq, Nat.reduceEqDiff, Nat.reduceLeDiff, ↓reduceIte, Int.reduceToNat, hc3]
    refine (hJ _ _ hB3 (by simp only [List.length_append]; omega)).mono ?_
    rintro v σ4 ⟨rfl, hB4⟩
    simp (disch := first | assumption | omega | (simp only [List.length_append, List.length_cons, List.length_nil]; omega)) only [go_sem]
    obtain ⟨σ5, hd, hB5⟩ := hoff hB4
    refine retC_by hd (.refl _) ⟨rfl, ?_⟩
    have e : l ++ (t ++ (sg ++ u)) = l ++ t ++ sg ++ u := by simp
    first
      | (rw [e]; exact hB5)
      | (rw [← List.append_assoc, ← List.append_assoc]; exact hB5)
end Go.A
namespace Go.A
open Go.Proofs
/-! 31: tabular/expr.Print -/
def c31_0 : ACode := .ops [
 ⟨some 1, none, .e (.box (.t 0)), []⟩,
 ⟨some 2, none, .q (.mv (.v (.str []))), []⟩]
def c31_1 : ACode := .ops [
 ⟨some 3, none, .e (.allocT 106), []⟩]
def c31_2 : ACode := .ops [
 ⟨some 4, none, .q (.ld (some 12) (.t 1)), []⟩,
 ⟨some 5, none, .e (.call 52 [(.t 3), (.t 4)]), []⟩]
def c31_3 : ACode := .ops [
 ⟨some 6, none, .e (.call 53 [(.t 3)]), []⟩,
 ⟨some 2, none, .q (.mv (.t 6)), []⟩]
def c31_4 : ACode := .seq c31_3 .ret
def c31_5 : ACode := .seq c31_2 c31_4
def c31_6 : ACode := .seq c31_1 c31_5
def c31_7 : ACode := .seq c31_0 c31_6
@[go_sem] theorem c31_0_wp : type_of% (wp_of c31_0.eq_1) := wp_of c31_0.eq_1
@[go_sem] theorem c31_1_wp : type_of% (wp_of c31_1.eq_1) := wp_of c31_1.eq_1
@[go_sem] theorem c31_2_wp : type_of% (wp_of c31_2.eq_1) := wp_of c31_2.eq_1
@[go_sem] theorem c31_3_wp : type_of% (wp_of c31_3.eq_1) := wp_of c31_3.eq_1
@[go_sem] theorem c31_4_wp : type_of% (wp_of c31_4.eq_1) := wp_of c31_4.eq_1
@[go_sem] theorem c31_5_wp : type_of% (wp_of c31_5.eq_1) := wp_of c31_5.eq_1
@[go_sem] theorem c31_6_wp : type_of% (wp_of c31_6.eq_1) := wp_of c31_6.eq_1
@[go_sem] theorem c31_7_wp : type_of% (wp_of c31_7.eq_1) := wp_of c31_7.eq_1
def c31 : AFn := ⟨7, [.t 2], c31_7⟩
set_option maxRecDepth 100000 in
theorem c31_ok : compF Tryz.prog Tryz.f31 = some c31 := by kernel_rfl
theorem a31 {args : List AV} {σ : ASt} {R : AV → ASt → Prop} (hl : args.length ≤ 7) (h : c31_7.wp Tryz.prog (RetQ [.t 2] R) (init args) σ) : ACalls Tryz.prog 31 args σ R := acalls_of Tryz.func31 c31_ok hl h
end Go.A
namespace Go.A
open Go.Proofs Go.Lib
set_option maxRecDepth 100000
set_option linter.unusedSimpArgs false
set_option linter.unusedVariables false
theorem print_ok {σ : ASt} (hT : Tab σ) (hM : MaxL σ) (n : Nd) (hn : n.ok) (hl : n.spell.length ≤ 900000) : ACalls Tryz.prog 31 [n.av] σ fun v σ' => v = .str n.spell ∧ σ' = σ := by
  have hS := spell_ok n.size n (Nat.le_refl _) hn
  obtain ⟨op, m, s, a, d, kids⟩ := n
  unfold SpellOk at hS
  rw [Nd.av_cs] at hS ⊢
  generalize (Nd.mk op m s a d kids).spell = w at *
  generalize kids.map Nd.av = L at *
  refine a31 (by simp) ?_
  simp (disch := first | assumption | omega | (simp only [List.length_append, List.length_cons, List.length_nil]; omega)) only [go_sem]
  refine boxC_by rfl fun c hc => ?_
  simp (disch := first | assumption | omega | (simp only [List.length_append, List.length_cons, List.length_nil]; omega)) only [go_sem]
  refine allocTC_by fun b hb => ?_
  have hbb := hb
  obtain ⟨n1, n2, n3⟩ := set_none hb
  have hB : BD (σ.set c (some (.obj (Nd.cs op m s a d L)))) b [] ((σ.set c (some (.obj (Nd.cs op m s a d L)))).set b (some (.typ 106 [.pointer none, .slice none 0 0]))) := .inl ⟨rfl, rfl⟩
  have hT1 := hT.set hc (r := some (.obj (Nd.cs op m s a d L)))
  have hM1 := hM.set hc (r := some (.obj (Nd.cs op m s a d L)))
  simp (disch := first | assumption | omega | (simp only [List.length_append, List.length_cons, List.length_nil]; omega)) only [go_sem, Nat.reduceEqDiff, Nat.reduceLeDiff, ↓reduceIte]
  refine (hS _ _ _ _ hB hbb hT1 hM1 (by simp only [List.length_nil]; omega)).mono ?_
  rintro v σ1 ⟨rfl, hB1⟩
  rw [List.nil_append] at hB1
  simp (disch := first | assumption | omega | (simp only [List.length_append, List.length_cons, List.length_nil]; omega)) only [go_sem, Nat.reduceEqDiff, ↓reduceIte]
  refine (bstring_ok hB1 (by omega)).mono ?_
  rintro v σ2 ⟨rfl, rfl⟩
  simp (disch := first | assumption | omega | (simp only [List.length_append, List.length_cons, List.length_nil]; omega)) only [go_sem, ↓reduceIte]
  exact retC_by ((hB1.over hbb).drop.trans (Drop.set hc)) (.refl _) ⟨rfl, rfl⟩
theorem SDrop.cong {σ σ' : ASt} {b : Nat} {c d : List AV} (h : SDrop σ σ') (he : Go.A.deeps c = d) : SDrop (σ.set b (some (.obj c))) (σ'.set b (some (.obj d))) := fun x => by
  by_cases hx : x = b
  · subst hx
    exact .inr (.inr ⟨c, by rw [ASt.set_same], by rw [ASt.set_same, he]⟩)
  · rw [ASt.set_ne hx, ASt.set_ne hx]
    exact h x
theorem set_mid {σ : ASt} {b c : Nat} {X Y Z : Option Role} (h : b ≠ c) : ((σ.set b X).set c Y).set b Z = (σ.set b Z).set c Y := by
  funext x
  simp only [ASt.set]
  by_cases h1 : x = b
  · subst h1; simp [h]
  · simp [h1]
end Go.A
