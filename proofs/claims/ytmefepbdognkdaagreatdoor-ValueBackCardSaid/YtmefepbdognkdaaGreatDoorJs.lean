/- What is typed for a value, and a value's bytes: read again. Plain. · A value's bytes, written and read: walked; ValueBack. -/
import Derived.Test.YtmefepbdognkdaaGreatDoorJq
import Derived.Test.YtmefepbdognkdaaGreatDoorVke
import Derived.Test.YtmefepbdognkdaaGreatDoorCodeJs
namespace Go.A
open Go.Proofs Go.Lib Go.Vint
set_option maxRecDepth 100000
set_option linter.unusedSimpArgs false
set_option linter.unusedVariables false

theorem dropWhile_no {c : UInt8} : ∀ {l : List UInt8}, (∀ x ∈ l, x ≠ c) → l.dropWhile (· == c) = l
  | [], _ => rfl
  | x :: l, h => by
    rw [List.dropWhile_cons, if_neg]
    simpa using h x (by simp)
theorem trim_no {c : UInt8} {l : List UInt8} (h : ∀ x ∈ l, x ≠ c) : Lib.trimB l c = l := by
  unfold Lib.trimB Lib.trimRightB Lib.trimLeftB
  rw [dropWhile_no (l := l.reverse) (fun x hx => h x (by simpa using hx)), List.reverse_reverse, dropWhile_no h]
theorem textD_chars (n : Int) : ∀ c ∈ textD n, 45 ≤ c.toNat ∧ c.toNat ≤ 57 := by
  intro c hc
  unfold textD at hc
  rcases List.mem_append.1 hc with h | h
  · split at h
    · simp at h; subst h; decide
    · simp at h
  · rcases List.mem_append.1 h with h | h
    · have := (dd_all _).1 c h; omega
    · unfold placesP at h
      split at h
      · simp at h
      · rcases List.mem_cons.1 h with h | h
        · subst h; decide
        · unfold Lib.trimRightB at h
          rw [List.mem_reverse] at h
          have h2 := (List.dropWhile_sublist _).subset h
          rw [List.mem_reverse] at h2
          have := (dd_all _).1 c (List.mem_of_mem_tail h2)
          omega
theorem textD_ne' (n : Int) : textD n ≠ [] := by
  unfold textD
  have := dd_len_pos (n.natAbs / 10000)
  intro h
  rw [List.append_eq_nil_iff, List.append_eq_nil_iff] at h
  exact this h.2.1
theorem input_num' {n : Int} (hn : n.natAbs ≤ 999999999999999999) : inputP (textD n) = .num n := by
  have hc := textD_chars n
  have hne := textD_ne' n
  have hp := parse_text_d hn
  unfold inputP
  rw [if_neg, trim_no, hp]
  · intro x hx e
    have := hc x hx
    subst e
    revert this; decide
  · intro h
    cases ht : textD n with
    | nil => exact hne ht
    | cons x r =>
      rw [ht] at h hc
      have h1 := hc x (by simp)
      simp [Lib.hasPrefix, List.isPrefixOf] at h
      subst h
      revert h1; decide
theorem typed_law (v : PV) (hg : v.good) : inputP (typedP v) = v := by
  cases v with
  | text s =>
    have ht : typedP (.text s) = if inputP s = .text s then s else 39 :: s := rfl
    rw [ht]
    by_cases h : inputP s = .text s
    · rw [if_pos h]; exact h
    · rw [if_neg h]
      unfold inputP
      have h1 : Lib.hasPrefix (39 :: s) [39] = true := by simp [Lib.hasPrefix, List.isPrefixOf]
      rw [if_pos h1]
      unfold Lib.trimPrefix
      rw [if_pos h1]
      rfl
  | num n => exact input_num' hg
  | blank => decide +kernel
  | bool b => cases b <;> decide +kernel
  | fail n =>
    have hm : 1 ≤ n ∧ n ≤ 7 := hg
    have hcs : n = 1 ∨ n = 2 ∨ n = 3 ∨ n = 4 ∨ n = 5 ∨ n = 6 ∨ n = 7 := by omega
    rcases hcs with rfl | rfl | rfl | rfl | rfl | rfl | rfl <;> decide +kernel
/-- A value as plain data. -/
def plOf : PV → Pl
  | .blank => ⟨0, 0, []⟩
  | .num n => ⟨1, n, []⟩
  | .text s => ⟨2, 0, s⟩
  | .bool b => ⟨3, if b = true then 1 else 0, []⟩
  | .fail n => ⟨4, n, []⟩
theorem tell_pl (v : PV) : tellAV v = plAV (plOf v) := by cases v <;> rfl
theorem of_back (v : PV) (hg : v.good) (ht : ∀ t, v = .text t → (sgT t).isSome = true ∧ t.length ≤ 2000) : ofP (plOf v) = v := by
  cases v with
  | blank => rfl
  | num n =>
    show (if n.natAbs ≤ 999999999999999999 then PV.num n else PV.blank) = PV.num n
    exact if_pos hg
  | text s =>
    show (if (sgT s).isSome = true ∧ s.length ≤ 2000 then PV.text s else PV.blank) = PV.text s
    exact if_pos (ht s rfl)
  | bool b => cases b <;> rfl
  | fail n =>
    show (if 1 ≤ n ∧ n ≤ 7 then PV.fail n else PV.blank) = PV.fail n
    exact if_pos hg
theorem ofP_text (p : Pl) (t : List UInt8) (h : ofP p = .text t) : (sgT t).isSome = true ∧ t.length ≤ 2000 := by
  unfold ofP at h
  repeat' split at h
  all_goals first
    | (injection h with h; subst h; assumption)
    | cases h
theorem of_tell (p : Pl) : ofP (plOf (ofP p)) = ofP p := of_back _ (ofP_good p) (ofP_text p)
/-- A value's bytes. -/
def putB : PV → List UInt8
  | .blank => uintB 0
  | .num n => uintB 1 ++ uintB (foldI n).toNat
  | .text s => uintB 2 ++ textB s
  | .bool b => uintB 3 ++ uintB (foldI (if b = true then 1 else 0)).toNat
  | .fail n => uintB 4 ++ uintB (foldI n).toNat
theorem rtx_written {s t r : List UInt8} {p most : Nat} (h : s.drop p = textB t ++ r) (ht : t.length ≤ most) (hm : most ≤ 1000000) : rtxP s p 0 most = (t, p + (textB t).length, 0) := by
  have h1 : s.drop p = uintB t.length ++ (t ++ r) := by rw [h]; simp [textB]
  have h2 := readU_uint h1 (by omega)
  have h3 := drop_app h1
  have hlen : p + (uintB t.length).length + t.length ≤ s.length := by
    have := congrArg List.length h3
    rw [List.length_drop, List.length_append] at this
    by_cases h0 : t.length = 0
    · have h4 := congrArg List.length h1
      rw [List.length_drop, List.length_append] at h4
      have := uintB_pos t.length
      omega
    · omega
  unfold rtxP
  rw [h2]
  dsimp only
  rw [if_neg (by simp), if_neg (by omega), if_neg (by omega), h3]
  simp [textB]
  omega
end Go.A
namespace Go.A
open Go.Proofs Go.Lib Go.Vint
set_option maxRecDepth 100000
set_option linter.unusedSimpArgs false
set_option linter.unusedVariables false

/-- A value's bytes, by its plain data. -/
def plB (k : Int) (y : Int) (z : List UInt8) : List UInt8 := uintB k.toNat ++ (if k = 1 ∨ k = 3 ∨ k = 4 then uintB (foldI y).toNat else if k = 2 then textB z else [])
theorem put_pl (v : PV) (hg : v.good) (ht : ∀ t, v = .text t → t.length ≤ 2000) : ∃ k y z, plOf v = ⟨k, y, z⟩ ∧ putB v = plB k y z ∧ y.natAbs ≤ 999999999999999999 ∧ z.length ≤ 2000 ∧ ((k = 1 ∨ k = 3 ∨ k = 4) ∧ z = [] ∨ k = 2 ∧ y = 0 ∨ k = 0 ∧ y = 0 ∧ z = []) := by
  cases v with
  | blank => exact ⟨_, _, _, rfl, by simp [putB, plB], by decide, by simp, .inr (.inr ⟨rfl, rfl, rfl⟩)⟩
  | num n => exact ⟨_, _, _, rfl, by simp [putB, plB], hg, by simp, .inl ⟨.inl rfl, rfl⟩⟩
  | text s => exact ⟨_, _, _, rfl, by simp [putB, plB], by decide, ht s rfl, .inr (.inl ⟨rfl, rfl⟩)⟩
  | bool b => exact ⟨_, _, _, rfl, by simp [putB, plB], by cases b <;> decide, by simp, .inl ⟨.inr (.inl rfl), rfl⟩⟩
  | fail n =>
    have : 1 ≤ n ∧ n ≤ 7 := hg
    exact ⟨_, _, _, rfl, by simp [putB, plB], by omega, by simp, .inl ⟨.inr (.inr rfl), rfl⟩⟩
theorem vput_ok (σ0 : ASt) (b : Nat) (v : PV) (l : List UInt8) (σ : ASt) (hW : W σ0 b l σ) (hg : v.good) (ht : ∀ t, v = .text t → t.length ≤ 2000) (hl : l.length ≤ 900000) :
    ACalls Tryz.prog 30 [.ptr b 0, v.av] σ fun r σ' => r = .tuple [] ∧ W σ0 b (l ++ putB v) σ' := by
  obtain ⟨k, y, z, hp, hB, hy, hz, hk⟩ := put_pl v hg ht
  have hT := tell_ok v
  rw [tell_pl, hp] at hT
  rw [hB]
  unfold plAV at hT
  dsimp only at hT
  generalize v.av = a at *
  have hk4 : 0 ≤ k ∧ k ≤ 4 := by omega
  have hu := uintB_le (u := k) (by omega)
  have hwk : IntKind.wrap .u64 k = k := by rw [IntKind.wrap_u64, Int.emod_eq_of_lt (by omega) (by omega)]
  refine a30 (by simp) ?_
  simp (disch := first | assumption | omega | (simp only [List.length_append, List.length_cons, List.length_nil]; omega)) only [go_sem, reduceCtorEq, Nat.reduceEqDiff, Nat.reduceAdd, Nat.reduceSub, Nat.reduceMul, Nat.reduceLeDiff, Int.reduceLT, Int.reduceLE, Int.reduceEq, ↓reduceIte, Int.reduceNeg, Int.reduceAdd, Int.reduceSub, Int.reduceMul, true_imp_iff, forall_const, Nat.mul_one, Int.reduceToNat, Nat.reducePow, Int.reducePow, Bool.true_and, Bool.false_and, Bool.and_false]
  refine hT.use ?_
  simp (disch := first | assumption | omega | (simp only [List.length_append, List.length_cons, List.length_nil]; omega)) only [go_sem, reduceCtorEq, Nat.reduceEqDiff, Nat.reduceAdd, Nat.reduceSub, Nat.reduceMul, Nat.reduceLeDiff, Int.reduceLT, Int.reduceLE, Int.reduceEq, ↓reduceIte, Int.reduceNeg, Int.reduceAdd, Int.reduceSub, Int.reduceMul, true_imp_iff, forall_const, Nat.mul_one, Int.reduceToNat, Nat.reducePow, Int.reducePow, Bool.true_and, Bool.false_and, Bool.and_false]
  refine allocC_by fun c hc => ?_
  obtain ⟨hW1, hcb, hc0⟩ := hW.add hc (r := .obj [.int .i64 k, .int .i64 y, .str z])
  have hcr := hW1.role hcb
  simp (disch := first | assumption | omega | (simp only [List.length_append, List.length_cons, List.length_nil]; omega)) only [go_sem, reduceCtorEq, Nat.reduceEqDiff, Nat.reduceAdd, Nat.reduceSub, Nat.reduceMul, Nat.reduceLeDiff, Int.reduceLT, Int.reduceLE, Int.reduceEq, ↓reduceIte, Int.reduceNeg, Int.reduceAdd, Int.reduceSub, Int.reduceMul, true_imp_iff, forall_const, Nat.mul_one, Int.reduceToNat, Nat.reducePow, Int.reducePow, Bool.true_and, Bool.false_and, Bool.and_false, ASt.set_set, hwk]
  refine (wuint_ok _ b k l _ hW1 (by omega) (by omega) (by omega)).mono ?_
  rintro r σ1 ⟨rfl, hW2⟩
  have hcr2 := hW2.role hcb
  rcases hk with ⟨hk, _⟩ | ⟨rfl, _⟩ | ⟨rfl, _⟩
  · have hend : plB k y z = uintB k.toNat ++ uintB (foldI y).toNat := by unfold plB; rw [if_pos hk]
    rw [hend]
    rcases hk with rfl | rfl | rfl
    all_goals
      simp (disch := first | assumption | omega | (simp only [List.length_append, List.length_cons, List.length_nil]; omega)) only [go_sem, reduceCtorEq, Nat.reduceEqDiff, Nat.reduceAdd, Nat.reduceSub, Nat.reduceMul, Nat.reduceLeDiff, Int.reduceLT, Int.reduceLE, Int.reduceEq, ↓reduceIte, Int.reduceNeg, Int.reduceAdd, Int.reduceSub, Int.reduceMul, true_imp_iff, forall_const, Nat.mul_one, Int.reduceToNat, Nat.reducePow, Int.reducePow, Bool.true_and, Bool.false_and, Bool.and_false, hcr2]
      refine (wint_ok _ b y _ _ hW2 (by omega) (by omega) (by simp only [List.length_append]; omega)).mono ?_
      rintro r σ2 ⟨rfl, hW3⟩
      obtain ⟨σ3, hd, hW4, _⟩ := hW3.off hcb hc0
      simp (disch := first | assumption | omega | (simp only [List.length_append, List.length_cons, List.length_nil]; omega)) only [go_sem, reduceCtorEq, Nat.reduceEqDiff, Nat.reduceAdd, Nat.reduceSub, Nat.reduceMul, Nat.reduceLeDiff, Int.reduceLT, Int.reduceLE, Int.reduceEq, ↓reduceIte, Int.reduceNeg, Int.reduceAdd, Int.reduceSub, Int.reduceMul, true_imp_iff, forall_const, Nat.mul_one, Int.reduceToNat, Nat.reducePow, Int.reducePow, Bool.true_and, Bool.false_and, Bool.and_false]
      exact retC_by hd (.refl _) ⟨rfl, by rw [← List.append_assoc]; exact hW4⟩
  · have hend : plB 2 y z = uintB (2 : Int).toNat ++ textB z := rfl
    rw [hend]
    simp (disch := first | assumption | omega | (simp only [List.length_append, List.length_cons, List.length_nil]; omega)) only [go_sem, reduceCtorEq, Nat.reduceEqDiff, Nat.reduceAdd, Nat.reduceSub, Nat.reduceMul, Nat.reduceLeDiff, Int.reduceLT, Int.reduceLE, Int.reduceEq, ↓reduceIte, Int.reduceNeg, Int.reduceAdd, Int.reduceSub, Int.reduceMul, true_imp_iff, forall_const, Nat.mul_one, Int.reduceToNat, Nat.reducePow, Int.reducePow, Bool.true_and, Bool.false_and, Bool.and_false, hcr2]
    refine (wtext_ok _ b z _ _ hW2 (by simp only [List.length_append]; omega)).mono ?_
    rintro r σ2 ⟨rfl, hW3⟩
    obtain ⟨σ3, hd, hW4, _⟩ := hW3.off hcb hc0
    simp (disch := first | assumption | omega | (simp only [List.length_append, List.length_cons, List.length_nil]; omega)) only [go_sem, reduceCtorEq, Nat.reduceEqDiff, Nat.reduceAdd, Nat.reduceSub, Nat.reduceMul, Nat.reduceLeDiff, Int.reduceLT, Int.reduceLE, Int.reduceEq, ↓reduceIte, Int.reduceNeg, Int.reduceAdd, Int.reduceSub, Int.reduceMul, true_imp_iff, forall_const, Nat.mul_one, Int.reduceToNat, Nat.reducePow, Int.reducePow, Bool.true_and, Bool.false_and, Bool.and_false]
    exact retC_by hd (.refl _) ⟨rfl, by rw [← List.append_assoc]; exact hW4⟩
  · have hend : plB 0 y z = uintB (0 : Int).toNat := by unfold plB; simp
    rw [hend]
    simp (disch := first | assumption | omega | (simp only [List.length_append, List.length_cons, List.length_nil]; omega)) only [go_sem, reduceCtorEq, Nat.reduceEqDiff, Nat.reduceAdd, Nat.reduceSub, Nat.reduceMul, Nat.reduceLeDiff, Int.reduceLT, Int.reduceLE, Int.reduceEq, ↓reduceIte, Int.reduceNeg, Int.reduceAdd, Int.reduceSub, Int.reduceMul, true_imp_iff, forall_const, Nat.mul_one, Int.reduceToNat, Nat.reducePow, Int.reducePow, Bool.true_and, Bool.false_and, Bool.and_false, hcr2]
    obtain ⟨σ3, hd, hW4, _⟩ := hW2.off hcb hc0
    exact retC_by hd (.refl _) ⟨rfl, hW4⟩
theorem U8.rd {σ : ASt} (h : U8 σ) {b : Nat} {s : List UInt8} {p : Nat} {e : Int} (hb : σ b = rd s p e) (p' : Nat) (e' : Int) : U8 (σ.set b (rd s p' e')) := by
  unfold A.rd at hb
  unfold U8 at h ⊢
  obtain ⟨h1, h2⟩ := h
  constructor
  · rw [ASt.set_ne]
    · exact h1
    · rintro rfl; rw [hb] at h1; cases h1
  · rw [ASt.set_ne]
    · exact h2
    · rintro rfl; rw [hb] at h2; cases h2
theorem vget_ok {σ : ASt} (hU : U8 σ) (s : List UInt8) (p b : Nat) (v : PV) (r : List UInt8) (hb : σ b = rd s p 0) (hs : s.length ≤ 1000000) (hp : p ≤ s.length) (hd : s.drop p = putB v ++ r) (hg : v.good) (hof : ofP (plOf v) = v) (ht : ∀ t, v = .text t → t.length ≤ 2000) :
    ACalls Tryz.prog 33 [.ptr b 0] σ fun q σ' => q = .tuple [v.av, .int .i64 0] ∧ σ' = σ.set b (rd s (p + (putB v).length) 0) := by
  obtain ⟨k, y, z, hpl, hB, hy, hz, hk⟩ := put_pl v hg ht
  have hT := tell_ok v
  rw [tell_pl, hpl] at hT
  rw [hB] at hd ⊢
  unfold plAV at hT
  dsimp only at hT
  have hk4 : 0 ≤ k ∧ k ≤ 4 := by omega
  have hO := fun (τ : ASt) (h : U8 τ) => of_ok h (plOf v) (by rw [hpl]; dsimp only; omega)
  rw [hof, hpl] at hO
  unfold plAV at hO
  dsimp only at hO
  generalize v.av = a at *
  have hd1 : s.drop p = uintB k.toNat ++ ((if k = 1 ∨ k = 3 ∨ k = 4 then uintB (foldI y).toNat else if k = 2 then textB z else []) ++ r) := by rw [hd]; simp [plB]
  have hR := readU_uint hd1 (by omega)
  have hd2 := drop_app hd1
  have hp2 : p + (uintB k.toNat).length ≤ s.length := by
    have h1 := congrArg List.length hd1
    rw [List.length_drop, List.length_append] at h1
    have := uintB_pos k.toNat
    omega
  have hmn : min k 9 = k := by omega
  have hwk : IntKind.wrap .i64 k = k := wrap_i64 (by omega) (by omega)
  have hkn : ((k.toNat : Nat) : Int) = k := by omega
  have hmn' : min ((k.toNat : Nat) : Int) 9 = k := by omega
  refine a33 (by simp) ?_
  simp (disch := first | assumption | omega | (simp only [List.length_append, List.length_cons, List.length_nil]; omega)) only [go_sem, reduceCtorEq, Nat.reduceEqDiff, Nat.reduceAdd, Nat.reduceSub, Nat.reduceMul, Nat.reduceLeDiff, Int.reduceLT, Int.reduceLE, Int.reduceEq, ↓reduceIte, Int.reduceNeg, Int.reduceAdd, Int.reduceSub, Int.reduceMul, true_imp_iff, forall_const, Nat.mul_one, Int.reduceToNat, Nat.reducePow, Int.reducePow, Bool.true_and, Bool.false_and, Bool.and_false]
  refine (ruint_ok s p 0 b σ hb (by omega) hp).mono ?_
  rintro q σ' ⟨rfl, rfl⟩
  rw [hR]
  dsimp only
  rw [hkn]
  have hb1 : (σ.set b (rd s (p + (uintB k.toNat).length) 0)) b = rd s (p + (uintB k.toNat).length) 0 := ASt.set_same _ _ _
  simp (disch := first | assumption | omega | (simp only [List.length_append, List.length_cons, List.length_nil]; omega)) only [go_sem, reduceCtorEq, Nat.reduceEqDiff, Nat.reduceAdd, Nat.reduceSub, Nat.reduceMul, Nat.reduceLeDiff, Int.reduceLT, Int.reduceLE, Int.reduceEq, ↓reduceIte, Int.reduceNeg, Int.reduceAdd, Int.reduceSub, Int.reduceMul, true_imp_iff, forall_const, Nat.mul_one, Int.reduceToNat, Nat.reducePow, Int.reducePow, Bool.true_and, Bool.false_and, Bool.and_false, hmn, hwk]
  refine allocC_by fun c hc => ?_
  have hcb : b ≠ c := by rintro rfl; rw [hb1] at hc; cases hc
  have hc0 : σ c = none := by rw [ASt.set_ne (Ne.symm hcb)] at hc; exact hc
  have hsw : ∀ (ρ : ASt) (X Y Z : Option Role), ((ρ.set b X).set c Y).set b Z = (ρ.set b Z).set c Y := fun ρ X Y Z => by rw [set_swap (Ne.symm hcb), ASt.set_set]
  have hUU : ∀ (p' : Nat) (e' : Int) (k' y' : Int) (z' : List UInt8), U8 ((σ.set b (rd s p' e')).set c (some (.obj [.int .i64 k', .int .i64 y', .str z']))) := fun p' e' k' y' z' => (hU.rd hb p' e').set (by rw [ASt.set_ne (Ne.symm hcb)]; exact hc0)
  have hDD : ∀ (p' : Nat) (e' : Int) (R : Role), Drop ((σ.set b (rd s p' e')).set c (some R)) (σ.set b (rd s p' e')) := fun p' e' R => Drop.set (by rw [ASt.set_ne (Ne.symm hcb)]; exact hc0)
  have hcc : ∀ (p' : Nat) (e' : Int) (R : Option Role), ((σ.set b (rd s p' e')).set c R) b = rd s p' e' := fun p' e' R => by rw [ASt.set_ne hcb, ASt.set_same]
  rcases hk with ⟨hk, rfl⟩ | ⟨rfl, rfl⟩ | ⟨rfl, rfl, rfl⟩
  · rw [if_pos hk] at hd2
    have hR2 := readU_uint hd2 (by have := foldI_bd (n := y) (by omega) (by omega); omega)
    have hun := unf_fold (n := y) (by omega) (by omega)
    have hend : (plB k y []).length = (uintB k.toNat).length + (uintB (foldI y).toNat).length := by unfold plB; rw [if_pos hk, List.length_append]
    rw [hend, ← Nat.add_assoc]
    generalize p + (uintB k.toNat).length = p2 at *
    have hI := rint_ok s p2 0 b _ (hcc p2 0 (some (.obj [.int .i64 k, .int .i64 0, .str []]))) (by omega) hp2
    rw [hR2] at hI
    dsimp only at hI
    rw [hun] at hI
    generalize p2 + (uintB (foldI y).toNat).length = p3 at *
    have hE := rerr_ok s p3 0 b _ (hcc p3 0 (some (.obj [.int .i64 k, .int .i64 y, .str []])))
    have hO1 := hO _ (hUU p3 0 k y [])
    rcases hk with rfl | rfl | rfl
    all_goals
      simp (disch := first | assumption | omega | (simp only [List.length_append, List.length_cons, List.length_nil]; omega)) only [go_sem, reduceCtorEq, Nat.reduceEqDiff, Nat.reduceAdd, Nat.reduceSub, Nat.reduceMul, Nat.reduceLeDiff, Int.reduceLT, Int.reduceLE, Int.reduceEq, ↓reduceIte, Int.reduceNeg, Int.reduceAdd, Int.reduceSub, Int.reduceMul, true_imp_iff, forall_const, Nat.mul_one, Int.reduceToNat, Nat.reducePow, Int.reducePow, Bool.true_and, Bool.false_and, Bool.and_false, ASt.set_set]
      refine hI.mono ?_
      rintro q σ' ⟨rfl, rfl⟩
      simp (disch := first | assumption | omega | (simp only [List.length_append, List.length_cons, List.length_nil]; omega)) only [go_sem, reduceCtorEq, Nat.reduceEqDiff, Nat.reduceAdd, Nat.reduceSub, Nat.reduceMul, Nat.reduceLeDiff, Int.reduceLT, Int.reduceLE, Int.reduceEq, ↓reduceIte, Int.reduceNeg, Int.reduceAdd, Int.reduceSub, Int.reduceMul, true_imp_iff, forall_const, Nat.mul_one, Int.reduceToNat, Nat.reducePow, Int.reducePow, Bool.true_and, Bool.false_and, Bool.and_false, hsw, ASt.set_set]
      refine hE.mono ?_
      rintro q σ' ⟨rfl, rfl⟩
      simp (disch := first | assumption | omega | (simp only [List.length_append, List.length_cons, List.length_nil]; omega)) only [go_sem, reduceCtorEq, Nat.reduceEqDiff, Nat.reduceAdd, Nat.reduceSub, Nat.reduceMul, Nat.reduceLeDiff, Int.reduceLT, Int.reduceLE, Int.reduceEq, ↓reduceIte, Int.reduceNeg, Int.reduceAdd, Int.reduceSub, Int.reduceMul, true_imp_iff, forall_const, Nat.mul_one, Int.reduceToNat, Nat.reducePow, Int.reducePow, Bool.true_and, Bool.false_and, Bool.and_false]
      refine hO1.mono ?_
      rintro q σ' ⟨rfl, rfl⟩
      simp (disch := first | assumption | omega | (simp only [List.length_append, List.length_cons, List.length_nil]; omega)) only [go_sem, reduceCtorEq, Nat.reduceEqDiff, Nat.reduceAdd, Nat.reduceSub, Nat.reduceMul, Nat.reduceLeDiff, Int.reduceLT, Int.reduceLE, Int.reduceEq, ↓reduceIte, Int.reduceNeg, Int.reduceAdd, Int.reduceSub, Int.reduceMul, true_imp_iff, forall_const, Nat.mul_one, Int.reduceToNat, Nat.reducePow, Int.reducePow, Bool.true_and, Bool.false_and, Bool.and_false]
      refine hT.use ?_
      simp (disch := first | assumption | omega | (simp only [List.length_append, List.length_cons, List.length_nil]; omega)) only [go_sem, reduceCtorEq, Nat.reduceEqDiff, Nat.reduceAdd, Nat.reduceSub, Nat.reduceMul, Nat.reduceLeDiff, Int.reduceLT, Int.reduceLE, Int.reduceEq, ↓reduceIte, Int.reduceNeg, Int.reduceAdd, Int.reduceSub, Int.reduceMul, true_imp_iff, forall_const, Nat.mul_one, Int.reduceToNat, Nat.reducePow, Int.reducePow, Bool.true_and, Bool.false_and, Bool.and_false, eq_self]
      exact retC_by (hDD _ _ _) (.refl _) ⟨rfl, rfl⟩
  · rw [if_neg (by omega), if_pos rfl] at hd2
    have hR2 := rtx_written hd2 hz (by omega)
    have hend : (plB 2 0 z).length = (uintB (2 : Int).toNat).length + (textB z).length := by unfold plB; rw [if_neg (by omega), if_pos rfl, List.length_append]
    rw [hend, ← Nat.add_assoc]
    generalize p + (uintB (2 : Int).toNat).length = p2 at *
    have hI := rtext_ok s p2 0 2000 b _ (hcc p2 0 (some (.obj [.int .i64 2, .int .i64 0, .str []]))) (by omega) hp2 (by omega)
    rw [hR2] at hI
    dsimp only at hI
    rw [show ((2000 : Nat) : Int) = 2000 from rfl] at hI
    generalize p2 + (textB z).length = p3 at *
    have hE := rerr_ok s p3 0 b _ (hcc p3 0 (some (.obj [.int .i64 2, .int .i64 0, .str z])))
    have hO1 := hO _ (hUU p3 0 2 0 z)
    simp (disch := first | assumption | omega | (simp only [List.length_append, List.length_cons, List.length_nil]; omega)) only [go_sem, reduceCtorEq, Nat.reduceEqDiff, Nat.reduceAdd, Nat.reduceSub, Nat.reduceMul, Nat.reduceLeDiff, Int.reduceLT, Int.reduceLE, Int.reduceEq, ↓reduceIte, Int.reduceNeg, Int.reduceAdd, Int.reduceSub, Int.reduceMul, true_imp_iff, forall_const, Nat.mul_one, Int.reduceToNat, Nat.reducePow, Int.reducePow, Bool.true_and, Bool.false_and, Bool.and_false, ASt.set_set]
    refine hI.mono ?_
    rintro q σ' ⟨rfl, rfl⟩
    simp (disch := first | assumption | omega | (simp only [List.length_append, List.length_cons, List.length_nil]; omega)) only [go_sem, reduceCtorEq, Nat.reduceEqDiff, Nat.reduceAdd, Nat.reduceSub, Nat.reduceMul, Nat.reduceLeDiff, Int.reduceLT, Int.reduceLE, Int.reduceEq, ↓reduceIte, Int.reduceNeg, Int.reduceAdd, Int.reduceSub, Int.reduceMul, true_imp_iff, forall_const, Nat.mul_one, Int.reduceToNat, Nat.reducePow, Int.reducePow, Bool.true_and, Bool.false_and, Bool.and_false, hsw, ASt.set_set]
    refine hE.mono ?_
    rintro q σ' ⟨rfl, rfl⟩
    simp (disch := first | assumption | omega | (simp only [List.length_append, List.length_cons, List.length_nil]; omega)) only [go_sem, reduceCtorEq, Nat.reduceEqDiff, Nat.reduceAdd, Nat.reduceSub, Nat.reduceMul, Nat.reduceLeDiff, Int.reduceLT, Int.reduceLE, Int.reduceEq, ↓reduceIte, Int.reduceNeg, Int.reduceAdd, Int.reduceSub, Int.reduceMul, true_imp_iff, forall_const, Nat.mul_one, Int.reduceToNat, Nat.reducePow, Int.reducePow, Bool.true_and, Bool.false_and, Bool.and_false]
    refine hO1.mono ?_
    rintro q σ' ⟨rfl, rfl⟩
    simp (disch := first | assumption | omega | (simp only [List.length_append, List.length_cons, List.length_nil]; omega)) only [go_sem, reduceCtorEq, Nat.reduceEqDiff, Nat.reduceAdd, Nat.reduceSub, Nat.reduceMul, Nat.reduceLeDiff, Int.reduceLT, Int.reduceLE, Int.reduceEq, ↓reduceIte, Int.reduceNeg, Int.reduceAdd, Int.reduceSub, Int.reduceMul, true_imp_iff, forall_const, Nat.mul_one, Int.reduceToNat, Nat.reducePow, Int.reducePow, Bool.true_and, Bool.false_and, Bool.and_false]
    refine hT.use ?_
    simp (disch := first | assumption | omega | (simp only [List.length_append, List.length_cons, List.length_nil]; omega)) only [go_sem, reduceCtorEq, Nat.reduceEqDiff, Nat.reduceAdd, Nat.reduceSub, Nat.reduceMul, Nat.reduceLeDiff, Int.reduceLT, Int.reduceLE, Int.reduceEq, ↓reduceIte, Int.reduceNeg, Int.reduceAdd, Int.reduceSub, Int.reduceMul, true_imp_iff, forall_const, Nat.mul_one, Int.reduceToNat, Nat.reducePow, Int.reducePow, Bool.true_and, Bool.false_and, Bool.and_false, eq_self]
    exact retC_by (hDD _ _ _) (.refl _) ⟨rfl, rfl⟩
  · have hend : (plB 0 0 []).length = (uintB (0 : Int).toNat).length := by unfold plB; simp
    rw [hend]
    generalize p + (uintB (0 : Int).toNat).length = p3 at *
    have hE := rerr_ok s p3 0 b _ (hcc p3 0 (some (.obj [.int .i64 0, .int .i64 0, .str []])))
    have hO1 := hO _ (hUU p3 0 0 0 [])
    simp (disch := first | assumption | omega | (simp only [List.length_append, List.length_cons, List.length_nil]; omega)) only [go_sem, reduceCtorEq, Nat.reduceEqDiff, Nat.reduceAdd, Nat.reduceSub, Nat.reduceMul, Nat.reduceLeDiff, Int.reduceLT, Int.reduceLE, Int.reduceEq, ↓reduceIte, Int.reduceNeg, Int.reduceAdd, Int.reduceSub, Int.reduceMul, true_imp_iff, forall_const, Nat.mul_one, Int.reduceToNat, Nat.reducePow, Int.reducePow, Bool.true_and, Bool.false_and, Bool.and_false, ASt.set_set]
    refine hE.mono ?_
    rintro q σ' ⟨rfl, rfl⟩
    simp (disch := first | assumption | omega | (simp only [List.length_append, List.length_cons, List.length_nil]; omega)) only [go_sem, reduceCtorEq, Nat.reduceEqDiff, Nat.reduceAdd, Nat.reduceSub, Nat.reduceMul, Nat.reduceLeDiff, Int.reduceLT, Int.reduceLE, Int.reduceEq, ↓reduceIte, Int.reduceNeg, Int.reduceAdd, Int.reduceSub, Int.reduceMul, true_imp_iff, forall_const, Nat.mul_one, Int.reduceToNat, Nat.reducePow, Int.reducePow, Bool.true_and, Bool.false_and, Bool.and_false]
    refine hO1.mono ?_
    rintro q σ' ⟨rfl, rfl⟩
    simp (disch := first | assumption | omega | (simp only [List.length_append, List.length_cons, List.length_nil]; omega)) only [go_sem, reduceCtorEq, Nat.reduceEqDiff, Nat.reduceAdd, Nat.reduceSub, Nat.reduceMul, Nat.reduceLeDiff, Int.reduceLT, Int.reduceLE, Int.reduceEq, ↓reduceIte, Int.reduceNeg, Int.reduceAdd, Int.reduceSub, Int.reduceMul, true_imp_iff, forall_const, Nat.mul_one, Int.reduceToNat, Nat.reducePow, Int.reducePow, Bool.true_and, Bool.false_and, Bool.and_false]
    refine hT.use ?_
    simp (disch := first | assumption | omega | (simp only [List.length_append, List.length_cons, List.length_nil]; omega)) only [go_sem, reduceCtorEq, Nat.reduceEqDiff, Nat.reduceAdd, Nat.reduceSub, Nat.reduceMul, Nat.reduceLeDiff, Int.reduceLT, Int.reduceLE, Int.reduceEq, ↓reduceIte, Int.reduceNeg, Int.reduceAdd, Int.reduceSub, Int.reduceMul, true_imp_iff, forall_const, Nat.mul_one, Int.reduceToNat, Nat.reducePow, Int.reducePow, Bool.true_and, Bool.false_and, Bool.and_false, eq_self]
    exact retC_by (hDD _ _ _) (.refl _) ⟨rfl, rfl⟩
end Go.A
