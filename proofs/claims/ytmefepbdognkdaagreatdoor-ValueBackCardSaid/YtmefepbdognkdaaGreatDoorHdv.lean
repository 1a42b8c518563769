/- bits.Div64: a number of 128 bits by one of 64 (Knuth's algorithm D), walked. -/
import Derived.Test.YtmefepbdognkdaaGreatDoorHc
import Derived.Test.YtmefepbdognkdaaGreatDoorCodeH
namespace Go.A
open Go.Proofs
set_option maxRecDepth 100000
set_option linter.unusedSimpArgs false
set_option linter.unusedVariables false

theorem kn_le {b yn1 yn0 u un1 q r : Nat} (hu : u = q * yn1 + r) (h : q * yn0 ≤ b * r + un1) : q * (yn1 * b + yn0) ≤ u * b + un1 := by
  have e1 : q * (yn1 * b + yn0) = q * yn1 * b + q * yn0 := by rw [Nat.mul_add, Nat.mul_assoc]
  have e2 : u * b = q * yn1 * b + b * r := by rw [hu, Nat.add_mul, Nat.mul_comm r b]
  omega
theorem kn_gt {b yn1 yn0 u un1 q r : Nat} (hu : u = q * yn1 + r) (h : b * r + un1 < q * yn0) : u * b + un1 < q * (yn1 * b + yn0) := by
  have e1 : q * (yn1 * b + yn0) = q * yn1 * b + q * yn0 := by rw [Nat.mul_add, Nat.mul_assoc]
  have e2 : u * b = q * yn1 * b + b * r := by rw [hu, Nat.add_mul, Nat.mul_comm r b]
  omega
theorem kn_below {b y u un1 : Nat} (hu : u < y) (h1 : un1 < b) : (u * b + un1) / y < b := by
  refine Nat.div_lt_of_lt_mul ?_
  have := Nat.mul_le_mul_right b hu
  rw [Nat.succ_mul] at this
  omega
/-- The first guess is not too small, and at most 1 above the greatest digit's follower. -/
theorem kn_start {b yn1 yn0 u un1 : Nat} (hb : b ≤ 2 * yn1) (h0 : yn0 < b) (hp : 0 < yn1) (hu : u < yn1 * b + yn0) (h1 : un1 < b) :
    u = u / yn1 * yn1 + u % yn1 ∧ (u * b + un1) / (yn1 * b + yn0) ≤ u / yn1 ∧ u / yn1 ≤ b + 1 := by
  have e : u = u / yn1 * yn1 + u % yn1 := by rw [Nat.mul_comm]; exact (Nat.div_add_mod _ _).symm
  have hm := Nat.mod_lt u hp
  refine ⟨e, ?_, ?_⟩
  · refine Nat.le_of_lt_succ (Nat.div_lt_of_lt_mul ?_)
    have h3 : (u + 1) * b ≤ (u / yn1 + 1) * yn1 * b := Nat.mul_le_mul_right _ (by rw [Nat.add_mul]; omega)
    have h4 : (u / yn1 + 1) * (yn1 * b) ≤ (u / yn1 + 1) * (yn1 * b + yn0) := Nat.mul_le_mul_left _ (by omega)
    rw [← Nat.mul_assoc] at h4
    show u * b + un1 < (yn1 * b + yn0) * (u / yn1 + 1)
    rw [Nat.mul_comm (yn1 * b + yn0)]
    rw [Nat.add_mul u 1 b] at h3
    omega
  · refine Nat.le_of_lt_succ (Nat.div_lt_of_lt_mul ?_)
    have : yn1 * (b + 1).succ = yn1 * b + 2 * yn1 := by rw [Nat.succ_eq_add_one, show b + 1 + 1 = b + 2 by omega, Nat.mul_add, Nat.mul_comm yn1 2]
    rw [this]
    omega
/-- A guess that is too great is lessened. -/
theorem kn_dec {b yn1 yn0 u un1 q r : Nat} (hu : u = q * yn1 + r) (hlt : u < yn1 * b + yn0) (h1 : un1 < b) (h : b ≤ q ∨ b * r + un1 < q * yn0) :
    (u * b + un1) / (yn1 * b + yn0) < q ∧ u = (q - 1) * yn1 + (r + yn1) := by
  have hQ : (u * b + un1) / (yn1 * b + yn0) < q := by
    rcases h with h | h
    · exact Nat.lt_of_lt_of_le (kn_below hlt h1) h
    · refine Nat.div_lt_of_lt_mul ?_
      rw [Nat.mul_comm (yn1 * b + yn0) q]
      exact kn_gt hu h
  refine ⟨hQ, ?_⟩
  have hq0 : 0 < q := Nat.lt_of_le_of_lt (Nat.zero_le _) hQ
  obtain ⟨k, rfl⟩ : ∃ k, q = k + 1 := ⟨q - 1, by omega⟩
  rw [Nat.add_sub_cancel]
  rw [Nat.add_mul] at hu
  omega
theorem kn_fin {b yn1 yn0 u un1 q r : Nat} (hp : 0 < yn1 * b + yn0) (hu : u = q * yn1 + r) (h : q * yn0 ≤ b * r + un1) (hQ : (u * b + un1) / (yn1 * b + yn0) ≤ q) : q = (u * b + un1) / (yn1 * b + yn0) :=
  Nat.le_antisymm ((Nat.le_div_iff_mul_le hp).2 (kn_le hu h)) hQ
/-- Two digits, one behind the other. -/
theorem kn_two {b y u un1 un0 : Nat} (hy : 0 < y) :
    (u * (b * b) + un1 * b + un0) / y = (u * b + un1) / y * b + ((u * b + un1) % y * b + un0) / y ∧ (u * (b * b) + un1 * b + un0) % y = ((u * b + un1) % y * b + un0) % y := by
  have e1 := Nat.div_add_mod (u * b + un1) y
  have e2 := Nat.div_add_mod ((u * b + un1) % y * b + un0) y
  have hl := Nat.mod_lt ((u * b + un1) % y * b + un0) hy
  generalize (u * b + un1) / y = q1 at *
  generalize (u * b + un1) % y = r1 at *
  generalize (r1 * b + un0) / y = q0 at *
  generalize (r1 * b + un0) % y = r0 at *
  refine (Nat.div_mod_unique hy).2 ⟨?_, hl⟩
  have e3 : u * (b * b) + un1 * b = y * q1 * b + r1 * b := by rw [← Nat.add_mul, e1, Nat.add_mul, Nat.mul_assoc]
  have e4 : y * (q1 * b + q0) = y * q1 * b + y * q0 := by rw [Nat.mul_add, Nat.mul_assoc]
  omega
theorem shl_nat {x s : Nat} (hs : s ≤ 63) : shI .shl .u64 (x : Int) (s : Int) = some (.int .u64 ((x * 2 ^ s % 18446744073709551616 : Nat) : Int)) := by
  rw [shI_shl (by omega), Int.toNat_natCast, show IntKind.u64.bits = 64 from rfl, mnb_le (by omega), IntKind.wrap_u64]
  congr 2
theorem shr_nat64 {x s : Nat} (hs : s ≤ 64) {z : Int} (hz : z = s) : shI .shr .u64 (x : Int) z = some (.int .u64 ((x / 2 ^ s : Nat) : Int)) := by
  subst hz
  rw [shI_shr (by omega), Int.toNat_natCast, show IntKind.u64.bits = 64 from rfl, mnb_le (by omega)]
  congr 2
theorem mask_nat {x : Nat} (hx : x < 18446744073709551616) : binI .and .u64 (x : Int) 4294967295 = some (.int .u64 ((x % 4294967296 : Nat) : Int)) := by
  have e : (BitVec.ofInt 64 (x : Int) &&& BitVec.ofInt 64 4294967295).toNat = x % 4294967296 := by
    rw [BitVec.toNat_and, BitVec.ofInt_natCast, BitVec.toNat_ofNat, Nat.mod_eq_of_lt hx, show (BitVec.ofInt 64 4294967295).toNat = 2 ^ 32 - 1 by decide, Nat.and_two_pow_sub_one_eq_mod]
  show some (AV.int .u64 (IntKind.u64.wrap ((BitVec.ofInt 64 (x : Int) &&& BitVec.ofInt 64 4294967295).toNat : Int))) = _
  rw [e, IntKind.wrap_u64]
  congr 2
  omega
theorem or64_nat {x y : Nat} (hx : x < 18446744073709551616) (hy : y < 18446744073709551616) : binI .or .u64 (x : Int) (y : Int) = some (.int .u64 ((x ||| y : Nat) : Int)) := by
  have h : x ||| y < 2 ^ 64 := Nat.or_lt_two_pow (n := 64) hx hy
  have e : (BitVec.ofInt 64 (x : Int) ||| BitVec.ofInt 64 (y : Int)).toNat = x ||| y := by
    rw [BitVec.toNat_or, BitVec.ofInt_natCast, BitVec.ofInt_natCast, BitVec.toNat_ofNat, BitVec.toNat_ofNat, Nat.mod_eq_of_lt hx, Nat.mod_eq_of_lt hy]
  show some (AV.int .u64 (IntKind.u64.wrap ((BitVec.ofInt 64 (x : Int) ||| BitVec.ofInt 64 (y : Int)).toNat : Int))) = _
  rw [e, IntKind.wrap_u64]
  congr 2
  omega
theorem len64_ok (y : Nat) (h : y < 18446744073709551616) : Pure Tryz.prog 174 [.int .u64 y] (.int .i64 (Lib.bitLen y : Nat)) := by
  intro σ
  refine ACalls.of_ext (u := .int .i64 (Lib.bitLen y : Nat)) (fun w vs hs ha => ?_) fun w => .int _ _
  cases ha with
  | cons h1 h2 =>
  cases h1; cases h2
  have := Tryz.bits_Len64 (y : Int) w (by omega) (by omega)
  rw [Int.toNat_natCast] at this
  exact this.mono fun e w' ⟨he, hw⟩ => ⟨he, Ext.of_eq hw⟩
theorem leadz_ok {y s : Nat} (h : y < 18446744073709551616) (hs : Lib.bitLen y + s = 64) : Pure Tryz.prog 165 [.int .u64 y] (.int .i64 (s : Nat)) := by
  intro σ
  have hL := len64_ok y h
  have e : (64 : Int) - (Lib.bitLen y : Nat) = s := by omega
  have hle : Lib.bitLen y ≤ 64 := by omega
  refine a165 (by simp) ?_
  simp (disch := first | assumption | omega | (simp only [List.length_append, List.length_cons, List.length_nil]; omega)) only [go_sem, reduceCtorEq, Nat.reduceEqDiff, Nat.reduceAdd, Nat.reduceSub, Nat.reduceMul, Nat.reduceLeDiff, Int.reduceLT, Int.reduceLE, Int.reduceEq, ↓reduceIte, Int.reduceNeg, Int.reduceAdd, Int.reduceSub, Int.reduceMul, true_imp_iff, forall_const, Nat.mul_one, Int.reduceToNat, Nat.reducePow, Int.reducePow, Bool.true_and, Bool.false_and, Bool.and_false]
  refine hL.use ?_
  generalize Lib.bitLen y = L at *
  simp (disch := first | assumption | omega | (simp only [List.length_append, List.length_cons, List.length_nil]; omega)) only [go_sem, reduceCtorEq, Nat.reduceEqDiff, Nat.reduceAdd, Nat.reduceSub, Nat.reduceMul, Nat.reduceLeDiff, Int.reduceLT, Int.reduceLE, Int.reduceEq, ↓reduceIte, Int.reduceNeg, Int.reduceAdd, Int.reduceSub, Int.reduceMul, true_imp_iff, forall_const, Nat.mul_one, Int.reduceToNat, Nat.reducePow, Int.reducePow, Bool.true_and, Bool.false_and, Bool.and_false, e]
  exact retC_by (by repeat' (first | exact Drop.refl _ | with_reducible refine Drop.off ?_ (by assumption))) (.refl _) ⟨rfl, rfl⟩
theorem norm_shift {y : Nat} (h0 : 0 < y) (h : y < 18446744073709551616) : ∃ s, s ≤ 63 ∧ Lib.bitLen y + s = 64 ∧ 9223372036854775808 ≤ y * 2 ^ s ∧ y * 2 ^ s < 18446744073709551616 := by
  obtain ⟨a, b, c⟩ := Lib.bitLenAux_bounds 64 y h (by omega)
  have hle : Lib.bitLen y ≤ 64 := Lib.bitLen_le y 64 (Nat.le_refl _) h
  have e : Lib.bitLen y = Lib.bitLenAux 64 y := rfl
  rw [← e] at a b c
  generalize Lib.bitLen y = L at *
  refine ⟨64 - L, by omega, by omega, ?_, ?_⟩
  · have := Nat.mul_le_mul_right (2 ^ (64 - L)) b
    rw [← Nat.pow_add, show L - 1 + (64 - L) = 63 by omega] at this
    exact this
  · have := Nat.mul_lt_mul_of_pos_right c (show 0 < 2 ^ (64 - L) from Nat.pow_pos (by omega))
    rw [← Nat.pow_add, show L + (64 - L) = 64 by omega] at this
    exact this
/-- The second digit. -/
theorem div_second {σ : ASt} {s y1 y0 Y un0 Q1 R1 Q0 R0 : Nat} (hy1 : 2147483648 ≤ y1) (hy1b : y1 < 4294967296) (hy0 : y0 < 4294967296) (hY : Y = y1 * 4294967296 + y0) (hs : s ≤ 63) (hu : R1 < Y) (h1 : un0 < 4294967296) (hQb : Q1 < 4294967296)
    (hQ0 : (R1 * 4294967296 + un0) / Y = Q0) (hR0 : (R1 * 4294967296 + un0) % Y = R0) (a : AFr) (hf : a 8 = .int .u64 s ∧ a 9 = .int .u64 y1 ∧ a 10 = .int .u64 y0 ∧ a 2 = .int .u64 Y ∧ a 15 = .int .u64 Q1 ∧ a 14 = .int .u64 un0 ∧ a 17 = .int .u64 R1) :
    ACode.wp Tryz.prog c152_59 (RetQ [.t 6, .t 7] fun v σ' => v = .tuple [.int .u64 ((Q1 * 4294967296 + Q0 : Nat) : Int), .int .u64 ((R0 / 2 ^ s : Nat) : Int)] ∧ σ' = σ) a σ := by
  rw [hY] at hu hQ0
  have kn := kn_start (show 4294967296 ≤ 2 * y1 by omega) hy0 (by omega) hu h1
  have hQ0b := kn_below hu h1
  rw [hQ0] at hQ0b
  have hm := Nat.mod_lt R1 (show 0 < y1 by omega)
  have ediv : IntKind.u64.wrap ((R1 : Int).tdiv y1) = ((R1 / y1 : Nat) : Int) := by
    have := Nat.div_le_self R1 y1
    rw [Int.tdiv_eq_ediv_of_nonneg (by omega), ← Int.natCast_ediv, IntKind.wrap_u64]
    generalize R1 / y1 = q at *
    omega
  obtain ⟨q0, hq0⟩ : ∃ q0, R1 / y1 = q0 := ⟨_, rfl⟩
  obtain ⟨r0, hr0⟩ : ∃ r0, R1 % y1 = r0 := ⟨_, rfl⟩
  rw [hq0] at ediv
  rw [hq0, hr0] at kn
  rw [hr0] at hm
  obtain ⟨M0, hM0⟩ : ∃ M, q0 * y1 = M := ⟨_, rfl⟩
  have eM0 : (q0 : Int) * (y1 : Int) = M0 := by rw [← hM0, Int.natCast_mul]
  have er : (R1 : Int) - M0 = r0 := by omega
  have gne : (y1 : Int) ≠ 0 := by omega
  obtain ⟨F, hF⟩ : ∃ F, F = ACode.wp Tryz.prog c152_56 := ⟨_, rfl⟩
  have fin : ∀ (a1 : AFr), (a1 8 = .int .u64 s ∧ a1 2 = .int .u64 Y ∧ a1 15 = .int .u64 Q1 ∧ a1 14 = .int .u64 un0 ∧ a1 17 = .int .u64 R1 ∧ a1 18 = .int .u64 Q0) → F (RetQ [.t 6, .t 7] fun v σ' => v = .tuple [.int .u64 ((Q1 * 4294967296 + Q0 : Nat) : Int), .int .u64 ((R0 / 2 ^ s : Nat) : Int)] ∧ σ' = σ) a1 σ := by
    intro a1 hf
    rw [hF]
    have e1 := Nat.div_add_mod (R1 * 4294967296 + un0) Y
    rw [hR0, show (R1 * 4294967296 + un0) / Y = Q0 by rw [hY]; exact hQ0] at e1
    have hRl : R0 < Y := by rw [← hR0]; exact Nat.mod_lt _ (by omega)
    obtain ⟨P, hP⟩ : ∃ P, Y * Q0 = P := ⟨_, rfl⟩
    have eP : (Q0 : Int) * (Y : Int) = P := by rw [← Int.natCast_mul, Nat.mul_comm, hP]
    rw [hP] at e1
    have ew : IntKind.u64.wrap (IntKind.u64.wrap (IntKind.u64.wrap ((R1 : Int) * 4294967296) + un0) - IntKind.u64.wrap P) = R0 := by
      rw [IntKind.wrap_u64, IntKind.wrap_u64, IntKind.wrap_u64, IntKind.wrap_u64]
      omega
    have hsh := shr_nat64 (x := R0) (s := s) (by omega) rfl
    have ee : (Q1 : Int) * 4294967296 + Q0 = ((Q1 * 4294967296 + Q0 : Nat) : Int) := by omega
    have hb : Q1 * 4294967296 + Q0 < 18446744073709551616 := by omega
    have hR64 : R0 < 18446744073709551616 := by omega
    obtain ⟨QQ, hQQ⟩ : ∃ QQ, Q1 * 4294967296 + Q0 = QQ := ⟨_, rfl⟩
    rw [hQQ] at ee hb ⊢
    simp (disch := first | assumption | omega | (simp only [List.length_append, List.length_cons, List.length_nil]; omega)) only [go_sem, reduceCtorEq, Nat.reduceEqDiff, Nat.reduceAdd, Nat.reduceSub, Nat.reduceMul, Nat.reduceLeDiff, Int.reduceLT, Int.reduceLE, Int.reduceEq, ↓reduceIte, Int.reduceNeg, Int.reduceAdd, Int.reduceSub, Int.reduceMul, true_imp_iff, forall_const, Nat.mul_one, Int.reduceToNat, Nat.reducePow, Int.reducePow, Bool.true_and, Bool.false_and, Bool.and_false, hf, eP, ew, hsh, ee]
    exact retC_by (by repeat' (first | exact Drop.refl _ | with_reducible refine Drop.off ?_ (by assumption))) (.refl _) ⟨rfl, rfl⟩
  simp (disch := first | assumption | omega | (simp only [List.length_append, List.length_cons, List.length_nil]; omega)) only [go_sem, reduceCtorEq, Nat.reduceEqDiff, Nat.reduceAdd, Nat.reduceSub, Nat.reduceMul, Nat.reduceLeDiff, Int.reduceLT, Int.reduceLE, Int.reduceEq, ↓reduceIte, Int.reduceNeg, Int.reduceAdd, Int.reduceSub, Int.reduceMul, true_imp_iff, forall_const, Nat.mul_one, Int.reduceToNat, Nat.reducePow, Int.reducePow, Bool.true_and, Bool.false_and, Bool.and_false, hf, ediv, gne, eM0, er, ←hF]
  refine wp_loop_on (fun (i : Nat × Nat) a1 s2 => (a1 8 = .int .u64 s ∧ a1 9 = .int .u64 y1 ∧ a1 10 = .int .u64 y0 ∧ a1 2 = .int .u64 Y ∧ a1 15 = .int .u64 Q1 ∧ a1 14 = .int .u64 un0 ∧ a1 17 = .int .u64 R1) ∧ (R1 = i.1 * y1 + i.2 ∧ (R1 * 4294967296 + un0) / (y1 * 4294967296 + y0) ≤ i.1 ∧ i.1 ≤ 4294967297 ∧ i.2 < 4294967296) ∧ (a1 18 = .int .u64 i.1 ∧ a1 16 = .int .u64 i.2) ∧ s2 = σ) (fun i => i.1) (q0, r0) ⟨?_, ⟨kn.1, kn.2.1, kn.2.2, by omega⟩, ?_, rfl⟩ ?_
  · simp (disch := first | assumption | omega | (simp only [List.length_append, List.length_cons, List.length_nil]; omega)) only [go_sem, reduceCtorEq, Nat.reduceEqDiff, Nat.reduceAdd, Nat.reduceSub, Nat.reduceMul, Nat.reduceLeDiff, Int.reduceLT, Int.reduceLE, Int.reduceEq, ↓reduceIte, Int.reduceNeg, Int.reduceAdd, Int.reduceSub, Int.reduceMul, true_imp_iff, forall_const, Nat.mul_one, Int.reduceToNat, Nat.reducePow, Int.reducePow, Bool.true_and, Bool.false_and, Bool.and_false, hf]
  · simp (disch := first | assumption | omega | (simp only [List.length_append, List.length_cons, List.length_nil]; omega)) only [go_sem, reduceCtorEq, Nat.reduceEqDiff, Nat.reduceAdd, Nat.reduceSub, Nat.reduceMul, Nat.reduceLeDiff, Int.reduceLT, Int.reduceLE, Int.reduceEq, ↓reduceIte, Int.reduceNeg, Int.reduceAdd, Int.reduceSub, Int.reduceMul, true_imp_iff, forall_const, Nat.mul_one, Int.reduceToNat, Nat.reducePow, Int.reducePow, Bool.true_and, Bool.false_and, Bool.and_false, hf]
  rintro ⟨q, r⟩ a1 s2 ⟨hf, ⟨i1, i2, i3, i4⟩, hg, rfl⟩
  dsimp only at i1 i2 i3 i4 hg
  obtain ⟨M, hM⟩ : ∃ M, q * y0 = M := ⟨_, rfl⟩
  have eM : (q : Int) * (y0 : Int) = M := by rw [← hM, Int.natCast_mul]
  by_cases hc : 4294967296 ≤ q ∨ 4294967296 * r + un0 < q * y0
  · obtain ⟨d1, d2⟩ := kn_dec i1 hu h1 hc
    have e1 : (q : Int) - 1 = ((q - 1 : Nat) : Int) := by omega
    have e2 : (r : Int) + y1 = ((r + y1 : Nat) : Int) := by omega
    by_cases hbr : 4294967296 ≤ r + y1
    · have hbr' : (4294967296 : Int) ≤ r + y1 := by omega
      have hfin := kn_fin (by omega) d2 (show (q - 1) * y0 ≤ 4294967296 * (r + y1) + un0 by
        have h1 : (q - 1) * y0 ≤ 4294967296 * 4294967296 := Nat.mul_le_mul (by omega) (by omega)
        omega) (by omega)
      have hq1 : (q : Int) - 1 = Q0 := by rw [e1, hfin]; exact congrArg _ hQ0
      by_cases hcq : 4294967296 ≤ q
      · have hcq' : (4294967296 : Int) ≤ q := by omega
        simp (disch := first | assumption | omega | (simp only [List.length_append, List.length_cons, List.length_nil]; omega)) only [go_sem, reduceCtorEq, Nat.reduceEqDiff, Nat.reduceAdd, Nat.reduceSub, Nat.reduceMul, Nat.reduceLeDiff, Int.reduceLT, Int.reduceLE, Int.reduceEq, ↓reduceIte, Int.reduceNeg, Int.reduceAdd, Int.reduceSub, Int.reduceMul, true_imp_iff, forall_const, Nat.mul_one, Int.reduceToNat, Nat.reducePow, Int.reducePow, Bool.true_and, Bool.false_and, Bool.and_false, hf, hg, hcq', hbr', ←hF]
        refine fin _ ?_
        simp (disch := first | assumption | omega | (simp only [List.length_append, List.length_cons, List.length_nil]; omega)) only [go_sem, reduceCtorEq, Nat.reduceEqDiff, Nat.reduceAdd, Nat.reduceSub, Nat.reduceMul, Nat.reduceLeDiff, Int.reduceLT, Int.reduceLE, Int.reduceEq, ↓reduceIte, Int.reduceNeg, Int.reduceAdd, Int.reduceSub, Int.reduceMul, true_imp_iff, forall_const, Nat.mul_one, Int.reduceToNat, Nat.reducePow, Int.reducePow, Bool.true_and, Bool.false_and, Bool.and_false, hf, hg, hq1]
      · have hcq' : ¬ (4294967296 : Int) ≤ q := by omega
        have hM2 : M < 18446744073709551616 := by
          have := Nat.mul_le_mul (show q ≤ 4294967295 by omega) (show y0 ≤ 4294967295 by omega)
          omega
        have hcm : 4294967296 * (r : Int) + un0 < M := by omega
        simp (disch := first | assumption | omega | (simp only [List.length_append, List.length_cons, List.length_nil]; omega)) only [go_sem, reduceCtorEq, Nat.reduceEqDiff, Nat.reduceAdd, Nat.reduceSub, Nat.reduceMul, Nat.reduceLeDiff, Int.reduceLT, Int.reduceLE, Int.reduceEq, ↓reduceIte, Int.reduceNeg, Int.reduceAdd, Int.reduceSub, Int.reduceMul, true_imp_iff, forall_const, Nat.mul_one, Int.reduceToNat, Nat.reducePow, Int.reducePow, Bool.true_and, Bool.false_and, Bool.and_false, hf, hg, hcq', eM, hcm, hbr', ←hF]
        refine fin _ ?_
        simp (disch := first | assumption | omega | (simp only [List.length_append, List.length_cons, List.length_nil]; omega)) only [go_sem, reduceCtorEq, Nat.reduceEqDiff, Nat.reduceAdd, Nat.reduceSub, Nat.reduceMul, Nat.reduceLeDiff, Int.reduceLT, Int.reduceLE, Int.reduceEq, ↓reduceIte, Int.reduceNeg, Int.reduceAdd, Int.reduceSub, Int.reduceMul, true_imp_iff, forall_const, Nat.mul_one, Int.reduceToNat, Nat.reducePow, Int.reducePow, Bool.true_and, Bool.false_and, Bool.and_false, hf, hg, hq1]
    · have hbr' : ¬ (4294967296 : Int) ≤ r + y1 := by omega
      by_cases hcq : 4294967296 ≤ q
      · have hcq' : (4294967296 : Int) ≤ q := by omega
        simp (disch := first | assumption | omega | (simp only [List.length_append, List.length_cons, List.length_nil]; omega)) only [go_sem, reduceCtorEq, Nat.reduceEqDiff, Nat.reduceAdd, Nat.reduceSub, Nat.reduceMul, Nat.reduceLeDiff, Int.reduceLT, Int.reduceLE, Int.reduceEq, ↓reduceIte, Int.reduceNeg, Int.reduceAdd, Int.reduceSub, Int.reduceMul, true_imp_iff, forall_const, Nat.mul_one, Int.reduceToNat, Nat.reducePow, Int.reducePow, Bool.true_and, Bool.false_and, Bool.and_false, hf, hg, hcq', hbr', e1]
        exact ⟨(q - 1, r + y1), by dsimp only; omega, ⟨d2, by dsimp only; omega, by dsimp only; omega, by dsimp only; omega⟩, ⟨rfl, rfl⟩⟩
      · have hcq' : ¬ (4294967296 : Int) ≤ q := by omega
        have hM2 : M < 18446744073709551616 := by
          have := Nat.mul_le_mul (show q ≤ 4294967295 by omega) (show y0 ≤ 4294967295 by omega)
          omega
        have hcm : 4294967296 * (r : Int) + un0 < M := by omega
        simp (disch := first | assumption | omega | (simp only [List.length_append, List.length_cons, List.length_nil]; omega)) only [go_sem, reduceCtorEq, Nat.reduceEqDiff, Nat.reduceAdd, Nat.reduceSub, Nat.reduceMul, Nat.reduceLeDiff, Int.reduceLT, Int.reduceLE, Int.reduceEq, ↓reduceIte, Int.reduceNeg, Int.reduceAdd, Int.reduceSub, Int.reduceMul, true_imp_iff, forall_const, Nat.mul_one, Int.reduceToNat, Nat.reducePow, Int.reducePow, Bool.true_and, Bool.false_and, Bool.and_false, hf, hg, hcq', eM, hcm, hbr', e1]
        exact ⟨(q - 1, r + y1), by dsimp only; omega, ⟨d2, by dsimp only; omega, by dsimp only; omega, by dsimp only; omega⟩, ⟨rfl, rfl⟩⟩
  · have hc1 : ¬ 4294967296 ≤ q := fun h => hc (.inl h)
    have hc2 : ¬ 4294967296 * r + un0 < q * y0 := fun h => hc (.inr h)
    have hfin := kn_fin (by omega) i1 (by omega) i2
    have hq1 : (q : Int) = Q0 := by rw [hfin]; exact congrArg _ hQ0
    have hcq' : ¬ (4294967296 : Int) ≤ q := by omega
    have hM2 : M < 18446744073709551616 := by
      have := Nat.mul_le_mul (show q ≤ 4294967295 by omega) (show y0 ≤ 4294967295 by omega)
      omega
    have hcm : ¬ 4294967296 * (r : Int) + un0 < M := by omega
    simp (disch := first | assumption | omega | (simp only [List.length_append, List.length_cons, List.length_nil]; omega)) only [go_sem, reduceCtorEq, Nat.reduceEqDiff, Nat.reduceAdd, Nat.reduceSub, Nat.reduceMul, Nat.reduceLeDiff, Int.reduceLT, Int.reduceLE, Int.reduceEq, ↓reduceIte, Int.reduceNeg, Int.reduceAdd, Int.reduceSub, Int.reduceMul, true_imp_iff, forall_const, Nat.mul_one, Int.reduceToNat, Nat.reducePow, Int.reducePow, Bool.true_and, Bool.false_and, Bool.and_false, hf, hg, hcq', eM, hcm, ←hF]
    refine fin _ ?_
    simp (disch := first | assumption | omega | (simp only [List.length_append, List.length_cons, List.length_nil]; omega)) only [go_sem, reduceCtorEq, Nat.reduceEqDiff, Nat.reduceAdd, Nat.reduceSub, Nat.reduceMul, Nat.reduceLeDiff, Int.reduceLT, Int.reduceLE, Int.reduceEq, ↓reduceIte, Int.reduceNeg, Int.reduceAdd, Int.reduceSub, Int.reduceMul, true_imp_iff, forall_const, Nat.mul_one, Int.reduceToNat, Nat.reducePow, Int.reducePow, Bool.true_and, Bool.false_and, Bool.and_false, hf, hg, hq1]
set_option maxHeartbeats 1000000 in
theorem div128_ok {hi lo y : Nat} (hlo : lo < 18446744073709551616) (hy : y < 18446744073709551616) (hlt : hi < y) :
    Pure Tryz.prog 152 [.int .u64 hi, .int .u64 lo, .int .u64 y] (.tuple [.int .u64 (((hi * 18446744073709551616 + lo) / y : Nat) : Int), .int .u64 (((hi * 18446744073709551616 + lo) % y : Nat) : Int)]) := by
  by_cases h0 : hi = 0
  · subst h0
    have := div64_ok lo y hlo (by omega) hy
    rw [Nat.zero_mul, Nat.zero_add]
    exact this
  intro σ
  obtain ⟨s, hs, hL, hY1, hY2⟩ := norm_shift (show 0 < y by omega) hy
  have hZ := leadz_ok hy hL
  have h2 : 0 < 2 ^ s := Nat.pow_pos (by omega)
  have hd : (hi * 18446744073709551616 + lo) / y = ((hi * 18446744073709551616 + lo) * 2 ^ s) / (y * 2 ^ s) := (Nat.mul_div_mul_right _ _ h2).symm
  have hm : (hi * 18446744073709551616 + lo) % y = (((hi * 18446744073709551616 + lo) * 2 ^ s) % (y * 2 ^ s)) / 2 ^ s := by rw [Nat.mul_mod_mul_right, Nat.mul_div_cancel _ h2]
  rw [hd, hm]
  -- the normed numbers
  have p64 : 2 ^ (64 - s) * 2 ^ s = 18446744073709551616 := by rw [← Nat.pow_add, show 64 - s + s = 64 by omega]
  have hhi : hi * 2 ^ s < y * 2 ^ s := Nat.mul_lt_mul_of_pos_right hlt h2
  have elo : lo * 2 ^ s / 18446744073709551616 = lo / 2 ^ (64 - s) := by rw [← p64, Nat.mul_div_mul_right _ _ h2]
  have hup : lo / 2 ^ (64 - s) < 2 ^ s := Nat.div_lt_of_lt_mul (by rw [p64]; exact hlo)
  have hor : hi * 2 ^ s ||| lo / 2 ^ (64 - s) = hi * 2 ^ s + lo / 2 ^ (64 - s) := by
    have := Nat.two_pow_add_eq_or_of_lt hup hi
    rw [Nat.mul_comm (2 ^ s) hi] at this
    exact this.symm
  have hul : hi * 2 ^ s + lo / 2 ^ (64 - s) < y * 2 ^ s := by
    have := Nat.mul_le_mul_right (2 ^ s) hlt
    rw [Nat.succ_mul] at this
    omega
  have eN : (hi * 18446744073709551616 + lo) * 2 ^ s = (hi * 2 ^ s + lo / 2 ^ (64 - s)) * 18446744073709551616 + lo * 2 ^ s % 18446744073709551616 := by
    rw [Nat.add_mul, Nat.add_mul, ← elo, Nat.mul_right_comm]
    omega
  have s1 := shl_nat (x := y) hs
  have s2 := shl_nat (x := hi) hs
  have s3 := shl_nat (x := lo) hs
  have s4 := shr_nat64 (x := lo) (s := 64 - s) (by omega) (show (64 : Int) - s = ((64 - s : Nat) : Int) by omega)
  rw [Nat.mod_eq_of_lt hY2] at s1
  rw [Nat.mod_eq_of_lt (show hi * 2 ^ s < 18446744073709551616 by omega)] at s2
  have s5 := or64_nat (x := hi * 2 ^ s) (y := lo / 2 ^ (64 - s)) (by omega) (by omega)
  rw [hor] at s5
  rw [eN]
  have hV : lo * 2 ^ s % 18446744073709551616 < 18446744073709551616 := Nat.mod_lt _ (by omega)
  generalize hi * 2 ^ s + lo / 2 ^ (64 - s) = u at *
  generalize lo * 2 ^ s % 18446744073709551616 = V at *
  generalize hi * 2 ^ s = H2 at *
  generalize lo / 2 ^ (64 - s) = L2 at *
  generalize y * 2 ^ s = Y at *
  obtain ⟨y1, hy1⟩ : ∃ y1, Y / 4294967296 = y1 := ⟨_, rfl⟩
  obtain ⟨y0, hy0⟩ : ∃ y0, Y % 4294967296 = y0 := ⟨_, rfl⟩
  obtain ⟨un1, hv1⟩ : ∃ v, V / 4294967296 = v := ⟨_, rfl⟩
  obtain ⟨un0, hv0⟩ : ∃ v, V % 4294967296 = v := ⟨_, rfl⟩
  have hYe : Y = y1 * 4294967296 + y0 := by omega
  have hVe : V = un1 * 4294967296 + un0 := by omega
  have eV : u * 18446744073709551616 + V = u * (4294967296 * 4294967296) + un1 * 4294967296 + un0 := by omega
  have kt := kn_two (b := 4294967296) (y := Y) (u := u) (un1 := un1) (un0 := un0) (by omega)
  rw [← eV] at kt
  rw [kt.1, kt.2]
  have s6 := shr_nat64 (x := Y) (s := 32) (by omega) (show (32 : Int) = ((32 : Nat) : Int) from rfl)
  have s7 := shr_nat64 (x := V) (s := 32) (by omega) (show (32 : Int) = ((32 : Nat) : Int) from rfl)
  have s8 := mask_nat hY2
  have s9 := mask_nat hV
  rw [show Y / 2 ^ 32 = y1 from hy1] at s6
  rw [show V / 2 ^ 32 = un1 from hv1] at s7
  rw [hy0] at s8
  rw [hv0] at s9
  have hu : u < y1 * 4294967296 + y0 := by omega
  have h1 : un1 < 4294967296 := by omega
  have kn := kn_start (show 4294967296 ≤ 2 * y1 by omega) (show y0 < 4294967296 by omega) (by omega) hu h1
  have hmr := Nat.mod_lt u (show 0 < y1 by omega)
  have ediv : IntKind.u64.wrap ((u : Int).tdiv y1) = ((u / y1 : Nat) : Int) := by
    have := Nat.div_le_self u y1
    rw [Int.tdiv_eq_ediv_of_nonneg (by omega), ← Int.natCast_ediv, IntKind.wrap_u64]
    generalize u / y1 = q at *
    omega
  obtain ⟨q0, hq0⟩ : ∃ q0, u / y1 = q0 := ⟨_, rfl⟩
  obtain ⟨r0, hr0⟩ : ∃ r0, u % y1 = r0 := ⟨_, rfl⟩
  rw [hq0] at ediv
  rw [hq0, hr0] at kn
  rw [hr0] at hmr
  obtain ⟨M0, hM0⟩ : ∃ M, q0 * y1 = M := ⟨_, rfl⟩
  have eM0 : (q0 : Int) * (y1 : Int) = M0 := by rw [← hM0, Int.natCast_mul]
  have er : (u : Int) - M0 = r0 := by omega
  have gne : (y1 : Int) ≠ 0 := by omega
  obtain ⟨Q1, hQ1⟩ : ∃ Q, (u * 4294967296 + un1) / (y1 * 4294967296 + y0) = Q := ⟨_, rfl⟩
  obtain ⟨R1, hR1⟩ : ∃ R, (u * 4294967296 + un1) % Y = R := ⟨_, rfl⟩
  have hQ1b := kn_below hu h1
  rw [hQ1] at hQ1b
  have hR1b : R1 < Y := by rw [← hR1]; exact Nat.mod_lt _ (by omega)
  have hQY : (u * 4294967296 + un1) / Y = Q1 := by rw [hYe]; exact hQ1
  rw [hQY, hR1]
  obtain ⟨F, hF⟩ : ∃ F, F = ACode.wp Tryz.prog c152_60 := ⟨_, rfl⟩
  have fin : ∀ (a1 : AFr), (a1 8 = .int .u64 s ∧ a1 9 = .int .u64 y1 ∧ a1 10 = .int .u64 y0 ∧ a1 2 = .int .u64 Y ∧ a1 11 = .int .u64 u ∧ a1 13 = .int .u64 un1 ∧ a1 14 = .int .u64 un0 ∧ a1 15 = .int .u64 Q1) → F (RetQ [.t 6, .t 7] fun v σ' => v = .tuple [.int .u64 ((Q1 * 4294967296 + (R1 * 4294967296 + un0) / Y : Nat) : Int), .int .u64 (((R1 * 4294967296 + un0) % Y / 2 ^ s : Nat) : Int)] ∧ σ' = σ) a1 σ := by
    intro a1 hf
    rw [hF]
    have e1 := Nat.div_add_mod (u * 4294967296 + un1) Y
    rw [hR1, hQY] at e1
    obtain ⟨P, hP⟩ : ∃ P, Y * Q1 = P := ⟨_, rfl⟩
    have eP : (Q1 : Int) * (Y : Int) = P := by rw [← Int.natCast_mul, Nat.mul_comm, hP]
    rw [hP] at e1
    have ew : IntKind.u64.wrap (IntKind.u64.wrap (IntKind.u64.wrap ((u : Int) * 4294967296) + un1) - IntKind.u64.wrap P) = R1 := by
      rw [IntKind.wrap_u64, IntKind.wrap_u64, IntKind.wrap_u64, IntKind.wrap_u64]
      omega
    obtain ⟨G, hG⟩ : ∃ G, G = ACode.wp Tryz.prog c152_59 := ⟨_, rfl⟩
    have sec := fun (a2 : AFr) => div_second (σ := σ) (s := s) (y1 := y1) (y0 := y0) (Y := Y) (un0 := un0) (Q1 := Q1) (R1 := R1) (by omega) (by omega) (by omega) hYe hs hR1b (by omega) hQ1b rfl rfl a2
    rw [← hG] at sec
    simp (disch := first | assumption | omega | (simp only [List.length_append, List.length_cons, List.length_nil]; omega)) only [go_sem, reduceCtorEq, Nat.reduceEqDiff, Nat.reduceAdd, Nat.reduceSub, Nat.reduceMul, Nat.reduceLeDiff, Int.reduceLT, Int.reduceLE, Int.reduceEq, ↓reduceIte, Int.reduceNeg, Int.reduceAdd, Int.reduceSub, Int.reduceMul, true_imp_iff, forall_const, Nat.mul_one, Int.reduceToNat, Nat.reducePow, Int.reducePow, Bool.true_and, Bool.false_and, Bool.and_false, hf, eP, ew, ←hG]
    refine sec _ ?_
    simp (disch := first | assumption | omega | (simp only [List.length_append, List.length_cons, List.length_nil]; omega)) only [go_sem, reduceCtorEq, Nat.reduceEqDiff, Nat.reduceAdd, Nat.reduceSub, Nat.reduceMul, Nat.reduceLeDiff, Int.reduceLT, Int.reduceLE, Int.reduceEq, ↓reduceIte, Int.reduceNeg, Int.reduceAdd, Int.reduceSub, Int.reduceMul, true_imp_iff, forall_const, Nat.mul_one, Int.reduceToNat, Nat.reducePow, Int.reducePow, Bool.true_and, Bool.false_and, Bool.and_false, hf]
  have gy : (y : Int) ≠ 0 := by omega
  have gle : ¬ (y : Int) ≤ hi := by omega
  have gh : (hi : Int) ≠ 0 := by omega
  have gz : ¬ (hi : Int) = 0 := by omega
  have gyz : ¬ (y : Int) = 0 := by omega
  refine a152 (by simp) ?_
  simp (disch := first | assumption | omega | (simp only [List.length_append, List.length_cons, List.length_nil]; omega)) only [go_sem, reduceCtorEq, Nat.reduceEqDiff, Nat.reduceAdd, Nat.reduceSub, Nat.reduceMul, Nat.reduceLeDiff, Int.reduceLT, Int.reduceLE, Int.reduceEq, ↓reduceIte, Int.reduceNeg, Int.reduceAdd, Int.reduceSub, Int.reduceMul, true_imp_iff, forall_const, Nat.mul_one, Int.reduceToNat, Nat.reducePow, Int.reducePow, Bool.true_and, Bool.false_and, Bool.and_false, gyz, gle, gz]
  refine hZ.use ?_
  simp (disch := first | assumption | omega | (simp only [List.length_append, List.length_cons, List.length_nil]; omega)) only [go_sem, reduceCtorEq, Nat.reduceEqDiff, Nat.reduceAdd, Nat.reduceSub, Nat.reduceMul, Nat.reduceLeDiff, Int.reduceLT, Int.reduceLE, Int.reduceEq, ↓reduceIte, Int.reduceNeg, Int.reduceAdd, Int.reduceSub, Int.reduceMul, true_imp_iff, forall_const, Nat.mul_one, Int.reduceToNat, Nat.reducePow, Int.reducePow, Bool.true_and, Bool.false_and, Bool.and_false, s1, s2, s3, s4, s5, s6, s7, s8, s9, ediv, gne, eM0, er, ←hF]
  refine wp_loop_on (fun (i : Nat × Nat) a1 s2 => (a1 8 = .int .u64 s ∧ a1 9 = .int .u64 y1 ∧ a1 10 = .int .u64 y0 ∧ a1 2 = .int .u64 Y ∧ a1 11 = .int .u64 u ∧ a1 13 = .int .u64 un1 ∧ a1 14 = .int .u64 un0) ∧ (u = i.1 * y1 + i.2 ∧ (u * 4294967296 + un1) / (y1 * 4294967296 + y0) ≤ i.1 ∧ i.1 ≤ 4294967297 ∧ i.2 < 4294967296) ∧ (a1 15 = .int .u64 i.1 ∧ a1 16 = .int .u64 i.2) ∧ s2 = σ) (fun i => i.1) (q0, r0) ⟨?_, ⟨kn.1, kn.2.1, kn.2.2, by omega⟩, ?_, rfl⟩ ?_
  · simp (disch := first | assumption | omega | (simp only [List.length_append, List.length_cons, List.length_nil]; omega)) only [go_sem, reduceCtorEq, Nat.reduceEqDiff, Nat.reduceAdd, Nat.reduceSub, Nat.reduceMul, Nat.reduceLeDiff, Int.reduceLT, Int.reduceLE, Int.reduceEq, ↓reduceIte, Int.reduceNeg, Int.reduceAdd, Int.reduceSub, Int.reduceMul, true_imp_iff, forall_const, Nat.mul_one, Int.reduceToNat, Nat.reducePow, Int.reducePow, Bool.true_and, Bool.false_and, Bool.and_false]
  · simp (disch := first | assumption | omega | (simp only [List.length_append, List.length_cons, List.length_nil]; omega)) only [go_sem, reduceCtorEq, Nat.reduceEqDiff, Nat.reduceAdd, Nat.reduceSub, Nat.reduceMul, Nat.reduceLeDiff, Int.reduceLT, Int.reduceLE, Int.reduceEq, ↓reduceIte, Int.reduceNeg, Int.reduceAdd, Int.reduceSub, Int.reduceMul, true_imp_iff, forall_const, Nat.mul_one, Int.reduceToNat, Nat.reducePow, Int.reducePow, Bool.true_and, Bool.false_and, Bool.and_false]
  rintro ⟨q, r⟩ a1 s2 ⟨hf, ⟨i1, i2, i3, i4⟩, hg, rfl⟩
  dsimp only at i1 i2 i3 i4 hg
  obtain ⟨M, hM⟩ : ∃ M, q * y0 = M := ⟨_, rfl⟩
  have eM : (q : Int) * (y0 : Int) = M := by rw [← hM, Int.natCast_mul]
  by_cases hc : 4294967296 ≤ q ∨ 4294967296 * r + un1 < q * y0
  · obtain ⟨d1, d2⟩ := kn_dec i1 hu h1 hc
    have e1 : (q : Int) - 1 = ((q - 1 : Nat) : Int) := by omega
    have e2 : (r : Int) + y1 = ((r + y1 : Nat) : Int) := by omega
    by_cases hbr : 4294967296 ≤ r + y1
    · have hbr' : (4294967296 : Int) ≤ r + y1 := by omega
      have hfin := kn_fin (by omega) d2 (show (q - 1) * y0 ≤ 4294967296 * (r + y1) + un1 by
        have h1 : (q - 1) * y0 ≤ 4294967296 * 4294967296 := Nat.mul_le_mul (by omega) (by omega)
        omega) (by omega)
      have hq1 : (q : Int) - 1 = Q1 := by rw [e1, hfin]; exact congrArg _ hQ1
      by_cases hcq : 4294967296 ≤ q
      · have hcq' : (4294967296 : Int) ≤ q := by omega
        simp (disch := first | assumption | omega | (simp only [List.length_append, List.length_cons, List.length_nil]; omega)) only [go_sem, reduceCtorEq, Nat.reduceEqDiff, Nat.reduceAdd, Nat.reduceSub, Nat.reduceMul, Nat.reduceLeDiff, Int.reduceLT, Int.reduceLE, Int.reduceEq, ↓reduceIte, Int.reduceNeg, Int.reduceAdd, Int.reduceSub, Int.reduceMul, true_imp_iff, forall_const, Nat.mul_one, Int.reduceToNat, Nat.reducePow, Int.reducePow, Bool.true_and, Bool.false_and, Bool.and_false, hf, hg, hcq', hbr', ←hF]
        refine fin _ ?_
        simp (disch := first | assumption | omega | (simp only [List.length_append, List.length_cons, List.length_nil]; omega)) only [go_sem, reduceCtorEq, Nat.reduceEqDiff, Nat.reduceAdd, Nat.reduceSub, Nat.reduceMul, Nat.reduceLeDiff, Int.reduceLT, Int.reduceLE, Int.reduceEq, ↓reduceIte, Int.reduceNeg, Int.reduceAdd, Int.reduceSub, Int.reduceMul, true_imp_iff, forall_const, Nat.mul_one, Int.reduceToNat, Nat.reducePow, Int.reducePow, Bool.true_and, Bool.false_and, Bool.and_false, hf, hg, hq1]
      · have hcq' : ¬ (4294967296 : Int) ≤ q := by omega
        have hM2 : M < 18446744073709551616 := by
          have := Nat.mul_le_mul (show q ≤ 4294967295 by omega) (show y0 ≤ 4294967295 by omega)
          omega
        have hcm : 4294967296 * (r : Int) + un1 < M := by omega
        simp (disch := first | assumption | omega | (simp only [List.length_append, List.length_cons, List.length_nil]; omega)) only [go_sem, reduceCtorEq, Nat.reduceEqDiff, Nat.reduceAdd, Nat.reduceSub, Nat.reduceMul, Nat.reduceLeDiff, Int.reduceLT, Int.reduceLE, Int.reduceEq, ↓reduceIte, Int.reduceNeg, Int.reduceAdd, Int.reduceSub, Int.reduceMul, true_imp_iff, forall_const, Nat.mul_one, Int.reduceToNat, Nat.reducePow, Int.reducePow, Bool.true_and, Bool.false_and, Bool.and_false, hf, hg, hcq', eM, hcm, hbr', ←hF]
        refine fin _ ?_
        simp (disch := first | assumption | omega | (simp only [List.length_append, List.length_cons, List.length_nil]; omega)) only [go_sem, reduceCtorEq, Nat.reduceEqDiff, Nat.reduceAdd, Nat.reduceSub, Nat.reduceMul, Nat.reduceLeDiff, Int.reduceLT, Int.reduceLE, Int.reduceEq, ↓reduceIte, Int.reduceNeg, Int.reduceAdd, Int.reduceSub, Int.reduceMul, true_imp_iff, forall_const, Nat.mul_one, Int.reduceToNat, Nat.reducePow, Int.reducePow, Bool.true_and, Bool.false_and, Bool.and_false, hf, hg, hq1]
    · have hbr' : ¬ (4294967296 : Int) ≤ r + y1 := by omega
      by_cases hcq : 4294967296 ≤ q
      · have hcq' : (4294967296 : Int) ≤ q := by omega
        simp (disch := first | assumption | omega | (simp only [List.length_append, List.length_cons, List.length_nil]; omega)) only [go_sem, reduceCtorEq, Nat.reduceEqDiff, Nat.reduceAdd, Nat.reduceSub, Nat.reduceMul, Nat.reduceLeDiff, Int.reduceLT, Int.reduceLE, Int.reduceEq, ↓reduceIte, Int.reduceNeg, Int.reduceAdd, Int.reduceSub, Int.reduceMul, true_imp_iff, forall_const, Nat.mul_one, Int.reduceToNat, Nat.reducePow, Int.reducePow, Bool.true_and, Bool.false_and, Bool.and_false, hf, hg, hcq', hbr', e1]
        exact ⟨(q - 1, r + y1), by dsimp only; omega, ⟨d2, by dsimp only; omega, by dsimp only; omega, by dsimp only; omega⟩, ⟨rfl, rfl⟩⟩
      · have hcq' : ¬ (4294967296 : Int) ≤ q := by omega
        have hM2 : M < 18446744073709551616 := by
          have := Nat.mul_le_mul (show q ≤ 4294967295 by omega) (show y0 ≤ 4294967295 by omega)
          omega
        have hcm : 4294967296 * (r : Int) + un1 < M := by omega
        simp (disch := first | assumption | omega | (simp only [List.length_append, List.length_cons, List.length_nil]; omega)) only [go_sem, reduceCtorEq, Nat.reduceEqDiff, Nat.reduceAdd, Nat.reduceSub, Nat.reduceMul, Nat.reduceLeDiff, Int.reduceLT, Int.reduceLE, Int.reduceEq, ↓reduceIte, Int.reduceNeg, Int.reduceAdd, Int.reduceSub, Int.reduceMul, true_imp_iff, forall_const, Nat.mul_one, Int.reduceToNat, Nat.reducePow, Int.reducePow, Bool.true_and, Bool.false_and, Bool.and_false, hf, hg, hcq', eM, hcm, hbr', e1]
        exact ⟨(q - 1, r + y1), by dsimp only; omega, ⟨d2, by dsimp only; omega, by dsimp only; omega, by dsimp only; omega⟩, ⟨rfl, rfl⟩⟩
  · have hc1 : ¬ 4294967296 ≤ q := fun h => hc (.inl h)
    have hc2 : ¬ 4294967296 * r + un1 < q * y0 := fun h => hc (.inr h)
    have hfin := kn_fin (by omega) i1 (by omega) i2
    have hq1 : (q : Int) = Q1 := by rw [hfin]; exact congrArg _ hQ1
    have hcq' : ¬ (4294967296 : Int) ≤ q := by omega
    have hM2 : M < 18446744073709551616 := by
      have := Nat.mul_le_mul (show q ≤ 4294967295 by omega) (show y0 ≤ 4294967295 by omega)
      omega
    have hcm : ¬ 4294967296 * (r : Int) + un1 < M := by omega
    simp (disch := first | assumption | omega | (simp only [List.length_append, List.length_cons, List.length_nil]; omega)) only [go_sem, reduceCtorEq, Nat.reduceEqDiff, Nat.reduceAdd, Nat.reduceSub, Nat.reduceMul, Nat.reduceLeDiff, Int.reduceLT, Int.reduceLE, Int.reduceEq, ↓reduceIte, Int.reduceNeg, Int.reduceAdd, Int.reduceSub, Int.reduceMul, true_imp_iff, forall_const, Nat.mul_one, Int.reduceToNat, Nat.reducePow, Int.reducePow, Bool.true_and, Bool.false_and, Bool.and_false, hf, hg, hcq', eM, hcm, ←hF]
    refine fin _ ?_
    simp (disch := first | assumption | omega | (simp only [List.length_append, List.length_cons, List.length_nil]; omega)) only [go_sem, reduceCtorEq, Nat.reduceEqDiff, Nat.reduceAdd, Nat.reduceSub, Nat.reduceMul, Nat.reduceLeDiff, Int.reduceLT, Int.reduceLE, Int.reduceEq, ↓reduceIte, Int.reduceNeg, Int.reduceAdd, Int.reduceSub, Int.reduceMul, true_imp_iff, forall_const, Nat.mul_one, Int.reduceToNat, Nat.reducePow, Int.reducePow, Bool.true_and, Bool.false_and, Bool.and_false, hf, hg, hq1]
end Go.A
