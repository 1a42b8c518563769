/- Part 12 of what ExprOne leans on: Ep CodeEl El CodeEr Er Ms Mv Mw. -/
import Derived.Test.YtennoafgkkoeaaaGreatDoorProg
import Derived.KernelRfl
import Derived.Test.YtennoafgkkoeaaaGreatDoorRows
import Derived.ProofKit
import Derived.LaidMore
import Derived.OpenShut
import Derived.Stop.LaidErr
import Derived.MakeChecks
import Derived.SevenTiedAt
import Derived.Lay
import Derived.ChangeArms
import Derived.Lib.LaidU8
import Derived.Lib.LaidTab
import Derived.Shelf.Vars
import Derived.HandedShaped
import Derived.Test.YtennoafgkkoeaaaGreatDoorZExprOnek
namespace Go.A
open Go.Proofs Go.Lib Go.Vint
set_option maxRecDepth 100000
set_option linter.unusedSimpArgs false
set_option linter.unusedVariables false
theorem readU_law {s : List UInt8} {p : Nat} (h : (readU s p 0).2.2 = 0) : s.drop p = uintB (readU s p 0).1 ++ s.drop (readU s p 0).2.1 ∧ (readU s p 0).2.1 = p + (uintB (readU s p 0).1).length := by
  obtain ⟨R, hR⟩ : ∃ R, scan 0 0 (s.drop p) = R := ⟨_, rfl⟩
  have hr := readU_of hR
  rw [hr] at h ⊢
  obtain ⟨e, v, n⟩ := R
  dsimp only at h ⊢
  subst h
  obtain ⟨w, h1, h2, h3, _⟩ := scan_of _ 0 0 v n (by omega) hR
  have hw : v = w := by simpa using h1
  subst hw
  rw [Nat.zero_add] at h2
  rw [Nat.sub_zero, List.drop_drop] at h3
  exact ⟨h3, by rw [h2]⟩
theorem readU_err {s : List UInt8} {p : Nat} {e : Int} (hp : p ≤ s.length) (h : (readU s p e).2.2 = 0) : e = 0 := by
  obtain ⟨_, _, _, f4⟩ := readU_facts s p e hp
  by_cases he : e = 0
  · exact he
  · rw [f4 he] at h; exact h
theorem fold_unf (u : Nat) : (foldI (unfI u)).toNat = u := by
  unfold foldI unfI
  split <;> split <;> omega
theorem rtx_law {s : List UInt8} {p most : Nat} (hp : p ≤ s.length) (h : (rtxP s p 0 most).2.2 = 0) : s.drop p = textB (rtxP s p 0 most).1 ++ s.drop (rtxP s p 0 most).2.1 ∧ (rtxP s p 0 most).2.1 = p + (textB (rtxP s p 0 most).1).length := by
  obtain ⟨_, f2, _⟩ := readU_facts s p 0 hp
  have hU := readU_law (s := s) (p := p)
  unfold rtxP at h ⊢
  generalize readU s p 0 = R at *
  obtain ⟨u, p1, e1⟩ := R
  dsimp only at *
  by_cases c1 : e1 ≠ 0
  · rw [if_pos c1] at h; exact absurd h c1
  rw [if_neg c1] at h ⊢
  by_cases c2 : most < u
  · rw [if_pos c2] at h; cases h
  rw [if_neg c2] at h ⊢
  by_cases c3 : s.length < p1 + u
  · rw [if_pos c3] at h; cases h
  rw [if_neg c3]
  dsimp only
  obtain ⟨h1, h2⟩ := hU (by omega)
  have hl : ((s.drop p1).take u).length = u := by rw [List.length_take, List.length_drop]; omega
  unfold textB
  rw [hl, List.length_append, hl]
  refine ⟨?_, by omega⟩
  rw [h1, List.append_assoc]
  congr 1
  rw [← List.drop_drop, List.take_append_drop]
theorem ref_law {s : List UInt8} {p : Nat} {e : Int} (hp : p ≤ s.length) (h : (refR s p e).2.2 = 0) (hk : (refR s p e).1.2 = true) :
    e = 0 ∧ (refR s p e).1.1.good = true ∧ s.drop p = rfB (refR s p e).1.1 ++ s.drop (refR s p e).2.1 ∧ (refR s p e).2.1 = p + (rfB (refR s p e).1.1).length := by
  obtain ⟨_, f2, _⟩ := readU_facts s p e hp
  have hE1 := readU_err (e := (readU s p e).2.2) f2 h
  have hE := readU_err hp hE1
  subst hE
  have hU := readU_law hE1
  unfold refR at h hk ⊢
  rw [hE1] at h hk ⊢
  dsimp only at h hk ⊢
  have hV := readU_law h
  generalize readU s p 0 = R at *
  obtain ⟨u, p1, e1⟩ := R
  dsimp only at *
  generalize readU s p1 0 = R at *
  obtain ⟨v, p2, e2⟩ := R
  dsimp only at *
  by_cases hc : 12000 ≤ u ∨ 700 ≤ v
  · rw [if_pos hc] at hk; cases hk
  rw [if_neg hc]
  dsimp only
  have hb : absN ⟨((u / 4 : Nat) : Int), ((v : Nat) : Int), decide (u % 2 = 1), decide (u / 2 % 2 = 1)⟩ + 4 * ((u / 4 : Nat) : Int).toNat = u := by
    unfold absN
    simp only [decide_eq_true_eq]
    split <;> split <;> omega
  refine ⟨rfl, ?_, ?_, ?_⟩
  · unfold Ref.good
    exact decide_eq_true ⟨by dsimp only; omega, by dsimp only; omega, by dsimp only; omega, by dsimp only; omega⟩
  · unfold rfB
    rw [hb]
    dsimp only
    rw [Int.toNat_natCast, hU.1, hV.1, List.append_assoc]
  · unfold rfB
    rw [hb]
    dsimp only
    rw [Int.toNat_natCast, List.length_append]
    omega
theorem value_law {op n : Int} (h : valueP op n = true) : (op = 1 → 0 ≤ n ∧ n ≤ 999999999999999999) ∧ (op = 3 → n = 0 ∨ n = 1) ∧ (op = 4 → n.tmod 10000 = 0 ∧ 10000 ≤ n ∧ n ≤ 70000) := by
  unfold valueP at h
  by_cases h3 : op = 3
  · rw [if_pos h3] at h
    simp only [Bool.or_eq_true, decide_eq_true_eq] at h
    exact ⟨by omega, fun _ => h, by omega⟩
  rw [if_neg h3] at h
  by_cases h4 : op = 4
  · rw [if_pos h4] at h
    simp only [Bool.and_eq_true, decide_eq_true_eq] at h
    refine ⟨by omega, by omega, fun _ => ⟨h.1, ?_⟩⟩
    have hf := h.2
    unfold failT at hf
    have hm := Int.mul_tdiv_add_tmod n 10000
    by_cases hc : (4 : Int) ≠ 4 ∨ n.tdiv 10000 < 1 ∨ 7 < n.tdiv 10000
    · rw [if_pos hc] at hf; exact absurd rfl hf
    · omega
  rw [if_neg h4] at h
  simp only [Bool.and_eq_true, decide_eq_true_eq] at h
  exact ⟨by omega, by omega, by omega⟩
theorem arity_0 {op : Int} (h : op = 1 ∨ op = 2 ∨ op = 3 ∨ op = 4 ∨ op = 5 ∨ op = 6) : arity op = 0 := by
  unfold arity
  rw [if_neg (by omega), if_neg (by omega)]
theorem head_law {s : List UInt8} {op : Int} {p : Nat} (hp : p ≤ s.length) (h1 : 1 ≤ op) (h2 : op ≤ 23) {n : Int} {s' : List UInt8} {a b : Ref} {cnt P : Nat} (hh : headR s op p = ⟨n, s', a, b, cnt, true, P, 0⟩) :
    GdN op n s' a b cnt ∧ s.drop p = restB op n s' a b cnt ++ s.drop P ∧ P = p + (restB op n s' a b cnt).length := by
  unfold headR at hh
  unfold restB
  by_cases c1 : op = 1 ∨ op = 3 ∨ op = 4
  · rw [if_pos c1] at hh ⊢
    injection hh with e1 e2 e3 e4 e5 e6 e7 e8
    have hU := readU_law e8
    have hv := value_law e6
    rw [e1] at hv
    rw [← e1, fold_unf, ← e7, ← e2, ← e3, ← e4, ← e5]
    have ha := arity_0 (op := op) (by omega)
    rw [e1]
    exact ⟨⟨h1, h2, hv.1, hv.2.1, hv.2.2, by omega, by omega, by omega, fun _ _ => rfl, by omega, fun _ _ => rfl, by omega, fun _ => rfl, fun _ => ha.symm⟩, hU⟩
  rw [if_neg c1] at hh ⊢
  by_cases c2 : op = 2
  · rw [if_pos c2] at hh ⊢
    injection hh with e1 e2 e3 e4 e5 e6 e7 e8
    have hT := rtx_law hp e8
    have hl := (rtxP_facts s p 2000 hp).2
    rw [e2] at hT hl e6
    rw [e7] at hT
    rw [← e1, ← e3, ← e4, ← e5]
    have ha := arity_0 (op := op) (by omega)
    exact ⟨⟨h1, h2, by omega, by omega, by omega, fun _ _ _ => rfl, fun _ => ⟨hl, e6⟩, by omega, by omega, by omega, fun _ _ => rfl, by omega, fun _ => rfl, fun _ => ha.symm⟩, hT⟩
  rw [if_neg c2] at hh ⊢
  by_cases c5 : op = 5
  · rw [if_pos c5] at hh ⊢
    injection hh with e1 e2 e3 e4 e5 e6 e7 e8
    obtain ⟨_, g1, g2, g3⟩ := ref_law hp e8 e6
    rw [e3] at g1 g2 g3
    rw [e7] at g2 g3
    rw [← e1, ← e2, ← e4, ← e5]
    have ha := arity_0 (op := op) (by omega)
    exact ⟨⟨h1, h2, by omega, by omega, by omega, fun _ _ _ => rfl, by omega, by omega, fun _ _ => rfl, fun _ => g1, by omega, by omega, fun _ => rfl, fun _ => ha.symm⟩, g2, g3⟩
  rw [if_neg c5] at hh ⊢
  by_cases c6 : op = 6
  · rw [if_pos c6] at hh ⊢
    injection hh with e1 e2 e3 e4 e5 e6 e7 e8
    rw [Bool.and_eq_true] at e6
    have hp1 := refR_facts s p 0 hp
    obtain ⟨k0, k1, k2, k3⟩ := ref_law hp1 e8 e6.1
    obtain ⟨_, g1, g2, g3⟩ := ref_law hp k0 e6.2
    rw [e4, e7] at k2 k3
    rw [e4] at k1
    rw [e3] at g1 g2 g3
    rw [← e1, ← e2, ← e5]
    have ha := arity_0 (op := op) (by omega)
    exact ⟨⟨h1, h2, by omega, by omega, by omega, fun _ _ _ => rfl, by omega, by omega, fun _ _ => rfl, fun _ => g1, by omega, fun _ => k1, by omega, fun _ => ha.symm⟩, by rw [g2, k2, List.append_assoc], by rw [List.length_append]; omega⟩
  rw [if_neg c6] at hh ⊢
  by_cases c22 : op = 22
  · rw [if_pos c22] at hh ⊢
    injection hh with e1 e2 e3 e4 e5 e6 e7 e8
    rw [Bool.and_eq_true, decide_eq_true_eq] at e6
    have hp1 := (rtxP_facts s p 2000 hp).1
    have hl := (rtxP_facts s p 2000 hp).2
    have k0 := readU_err hp1 e8
    rw [k0] at e5 e6 e7 e8
    obtain ⟨k1, k2⟩ := readU_law e8
    obtain ⟨g2, g3⟩ := rtx_law hp k0
    rw [e2] at g2 g3 hl e6
    have hcn : (readU s (rtxP s p 0 2000).2.1 0).1 = cnt := by omega
    rw [hcn, e7] at k1 k2
    rw [← e1, ← e3, ← e4]
    exact ⟨⟨h1, h2, by omega, by omega, by omega, fun _ _ _ => rfl, by omega, fun _ => ⟨hl, e6.1, by omega⟩, by omega, by omega, fun _ _ => rfl, by omega, fun _ => rfl, fun h => absurd c22 h⟩, by rw [g2, k1, List.append_assoc], by rw [List.length_append]; omega⟩
  rw [if_neg c22] at hh ⊢
  injection hh with e1 e2 e3 e4 e5 e6 e7 e8
  subst e1 e2 e3 e4 e5 e7
  exact ⟨⟨h1, h2, by omega, by omega, by omega, fun _ _ _ => rfl, by omega, by omega, fun _ _ => rfl, by omega, fun _ _ => rfl, by omega, fun _ => rfl, fun _ => rfl⟩, by simp, by simp⟩
def Tells (s : List UInt8) (k : Nat) (g : Nat → Nd × Int × Nat × Int) : Prop :=
  ∀ p, p ≤ s.length → (g p).2.1 = 0 → (g p).1.gd ∧ (g p).1.depth ≤ k ∧ s.drop p = (g p).1.bytes ++ s.drop (g p).2.2.1 ∧ (g p).2.2.1 = p + (g p).1.bytes.length ∧ (g p).2.2.1 ≤ s.length
theorem kids_law {s : List UInt8} {k : Nat} {g : Nat → Nd × Int × Nat × Int} (hg : Tells s k g) (mk : List Nd → Nd) : ∀ c D p, p ≤ s.length → (kidsR g mk c D p).2.1 = 0 →
    ∃ ks, ks.length = c ∧ Nd.gds ks ∧ Nd.depths ks ≤ k ∧ (kidsR g mk c D p).1 = mk (D ++ ks) ∧ s.drop p = Nd.bytess ks ++ s.drop (kidsR g mk c D p).2.2.1 ∧ (kidsR g mk c D p).2.2.1 = p + (Nd.bytess ks).length ∧ (kidsR g mk c D p).2.2.1 ≤ s.length
  | 0, D, p, hp, h => ⟨[], rfl, trivial, by simp [Nd.depths], by rw [kidsR, List.append_nil], by rw [kidsR, Nd.bytess]; rfl, by rw [kidsR, Nd.bytess]; rfl, by rw [kidsR]; exact hp⟩
  | c + 1, D, p, hp, h => by
    rw [kidsR] at h ⊢
    by_cases he : (g p).2.1 ≠ 0
    · rw [if_pos he] at h; exact absurd h he
    rw [if_neg he] at h ⊢
    obtain ⟨t1, t2, t3, t4, t5⟩ := hg p hp (by omega)
    obtain ⟨ks, k1, k2, k3, k4, k5, k6, k7⟩ := kids_law hg mk c (D ++ [(g p).1]) (g p).2.2.1 t5 h
    refine ⟨(g p).1 :: ks, by rw [List.length_cons, k1], ⟨t1, k2⟩, ?_, ?_, ?_, ?_, k7⟩
    · rw [Nd.depths]; omega
    · rw [k4, List.append_assoc]; rfl
    · rw [t3, k5, Nd.bytess, List.append_assoc]
    · rw [k6, t4, Nd.bytess, List.length_append]; omega
theorem treeR_tells (s : List UInt8) : ∀ k, Tells s k (treeR s k)
  | 0 => fun p hp h => by rw [treeR] at h; cases h
  | k + 1 => fun p hp h => by
    have ih := treeR_tells s k
    obtain ⟨_, f2, _⟩ := readU_facts s p 0 hp
    have hU := readU_law (s := s) (p := p)
    rw [treeR] at h ⊢
    generalize readU s p 0 = R at *
    obtain ⟨u, p1, e1⟩ := R
    dsimp only at *
    by_cases c1 : e1 ≠ 0
    · rw [if_pos c1] at h; exact absurd h c1
    rw [if_neg c1] at h ⊢
    obtain ⟨u1, u2⟩ := hU (by omega)
    by_cases c2 : u < 1 ∨ 23 < u
    · rw [if_pos c2] at h; cases h
    rw [if_neg c2] at h ⊢
    have hH := (headR_facts s (u : Int) p1 f2).1
    have hL := fun n s' a b cnt P hh => head_law (s := s) (op := (u : Int)) (p := p1) f2 (by omega) (by omega) (n := n) (s' := s') (a := a) (b := b) (cnt := cnt) (P := P) hh
    generalize headR s (u : Int) p1 = H at *
    obtain ⟨n, s', a, b, cnt, ok, P, E⟩ := H
    dsimp only at *
    by_cases c3 : E ≠ 0
    · rw [if_pos c3] at h; exact absurd h c3
    rw [if_neg c3] at h ⊢
    by_cases c4 : ok = false
    · rw [if_pos c4] at h; cases h
    rw [if_neg c4] at h ⊢
    obtain rfl : E = 0 := by omega
    obtain rfl : ok = true := by simpa using c4
    obtain ⟨l1, l2, l3⟩ := hL n s' a b cnt P rfl
    obtain ⟨ks, k1, k2, k3, k4, k5, k6, k7⟩ := kids_law ih (fun ks => Nd.mk (u : Int) n s' a b ks) cnt [] P hH h
    rw [List.nil_append] at k4
    rw [k4]
    have hut : ((u : Int)).toNat = u := Int.toNat_natCast u
    refine ⟨⟨by rw [k1]; exact l1, k2⟩, ?_, ?_, ?_, k7⟩
    · rw [Nd.depth]; omega
    · rw [Nd.bytes, hut, k1, u1, l2, k5, List.append_assoc, List.append_assoc]
    · rw [Nd.bytes, hut, k1, List.length_append, List.length_append]; omega
end Go.A
namespace Go.A
open Go.Proofs
/-! 6: tabular/tabularlaw12.Grow -/
end Go.A
namespace Go.A
open Go.Proofs Go.Lib
set_option maxRecDepth 100000
set_option linter.unusedSimpArgs false
set_option linter.unusedVariables false
theorem Tab.new {σ : ASt} {b : Nat} {r : Option Role} (h : Tab σ) (hb : σ b = none) : Tab (σ.set b r) := by
  unfold Tab at h ⊢
  rw [ASt.set_ne]
  · exact h
  · intro e; rw [e, hb] at h; cases h
end Go.A
namespace Go.A
open Go.Proofs
/-! 4: tabular/tabularlaw12.ExprOne -/
def c4_0 : ACode := .ops [
    ⟨(some 2), none, .q (.mv (.v (.bool false))), []⟩]
def c4_1 : ACode := .ops [
    ⟨(some 7), none, .q (.mv (.t 0)), []⟩,
    ⟨(some 8), none, .e (.call 26 [(.t 7), (.v (.int .i64 300))]), []⟩,
    ⟨(some 0), none, .q (.mv (.t 8)), []⟩]
def c4_2 : ACode := .ops [
    ⟨(some 9), none, .q (.mv (.t 0)), []⟩,
    ⟨(some 10), none, .e (.call 27 [(.t 9)]), []⟩,
    ⟨(some 3), none, .q (.mv (.t 10)), []⟩]
def c4_3 : ACode := .ops [
    ⟨(some 12), none, .q (.mv (.t 3)), []⟩,
    ⟨(some 13), none, .e (.call 28 [(.t 12)]), []⟩,
    ⟨(some 11), none, .q (.mv (.t 13)), []⟩,
    ⟨(some 14), none, .q (.ext 0 (.t 11)), []⟩,
    ⟨(some 15), none, .q (.ext 1 (.t 11)), []⟩,
    ⟨(some 4), none, .e (.alloc [(.int .i64 0), (.int .i64 0), (.str []), (.int .i64 0), (.int .i64 0), (.bool false), (.bool false), (.int .i64 0), (.int .i64 0), (.bool false), (.bool false), (.sl .full [])]), []⟩,
    ⟨none, none, .e (.store 12 (.t 4) (.t 14)), []⟩,
    ⟨(some 5), none, .q (.mv (.t 15)), []⟩]
def c4_4 : ACode := .ops [
    ⟨(some 16), none, .q (.mv (.t 5)), []⟩,
    ⟨(some 17), none, .q (.bin .neq (.t 16) (.v (.int .i64 0))), []⟩]
def c4_5 : ACode := .ops [
    ⟨(some 18), none, .e (.call 8 []), []⟩,
    ⟨(some 2), none, .q (.mv (.t 18)), []⟩]
def c4_6 : ACode := .seq c4_5 .ret
def c4_7 : ACode := .cond (.t 17) c4_6 .skip
def c4_8 : ACode := .seq c4_4 c4_7
def c4_9 : ACode := .ops [
    ⟨(some 6), none, .e (.alloc [(.sl .full [])]), []⟩]
def c4_10 : ACode := .ops [
    ⟨(some 19), none, .q (.ld (some 12) (.t 4)), []⟩,
    ⟨(some 20), none, .e (.call 21 [(.t 6), (.t 19)]), []⟩]
def c4_11 : ACode := .ops [
    ⟨(some 21), none, .e (.call 8 []), []⟩,
    ⟨(some 22), none, .q (.mv (.t 21)), []⟩,
    ⟨(some 23), (some (22, true)), .e (.call 23 [(.t 6)]), []⟩,
    ⟨(some 24), (some (22, true)), .q (.mv (.t 0)), []⟩,
    ⟨(some 25), (some (22, true)), .q (.mv (.t 3)), []⟩,
    ⟨(some 26), (some (22, true)), .e (.call 29 [(.t 25)]), []⟩,
    ⟨(some 27), (some (22, true)), .q (.slto (true, 0) (.t 24) (.t 26)), []⟩,
    ⟨(some 28), (some (22, true)), .q (.bin .eql (.t 23) (.t 27)), []⟩,
    ⟨(some 29), none, .q (.pick (.t 22) (.t 28) (.v (.bool false))), []⟩,
    ⟨(some 2), none, .q (.mv (.t 29)), []⟩]
def c4_12 : ACode := .seq c4_11 .ret
def c4_13 : ACode := .seq c4_10 c4_12
def c4_14 : ACode := .seq c4_9 c4_13
def c4_15 : ACode := .seq c4_8 c4_14
def c4_16 : ACode := .seq c4_3 c4_15
def c4_17 : ACode := .seq c4_2 c4_16
def c4_18 : ACode := .seq c4_1 c4_17
def c4_19 : ACode := .seq c4_0 c4_18
@[go_sem] theorem c4_0_wp : type_of% (wp_of c4_0.eq_1) := wp_of c4_0.eq_1
@[go_sem] theorem c4_1_wp : type_of% (wp_of c4_1.eq_1) := wp_of c4_1.eq_1
@[go_sem] theorem c4_2_wp : type_of% (wp_of c4_2.eq_1) := wp_of c4_2.eq_1
@[go_sem] theorem c4_3_wp : type_of% (wp_of c4_3.eq_1) := wp_of c4_3.eq_1
@[go_sem] theorem c4_4_wp : type_of% (wp_of c4_4.eq_1) := wp_of c4_4.eq_1
@[go_sem] theorem c4_5_wp : type_of% (wp_of c4_5.eq_1) := wp_of c4_5.eq_1
@[go_sem] theorem c4_6_wp : type_of% (wp_of c4_6.eq_1) := wp_of c4_6.eq_1
@[go_sem] theorem c4_7_wp : type_of% (wp_of c4_7.eq_1) := wp_of c4_7.eq_1
@[go_sem] theorem c4_8_wp : type_of% (wp_of c4_8.eq_1) := wp_of c4_8.eq_1
@[go_sem] theorem c4_9_wp : type_of% (wp_of c4_9.eq_1) := wp_of c4_9.eq_1
@[go_sem] theorem c4_10_wp : type_of% (wp_of c4_10.eq_1) := wp_of c4_10.eq_1
@[go_sem] theorem c4_11_wp : type_of% (wp_of c4_11.eq_1) := wp_of c4_11.eq_1
@[go_sem] theorem c4_12_wp : type_of% (wp_of c4_12.eq_1) := wp_of c4_12.eq_1
@[go_sem] theorem c4_13_wp : type_of% (wp_of c4_13.eq_1) := wp_of c4_13.eq_1
@[go_sem] theorem c4_14_wp : type_of% (wp_of c4_14.eq_1) := wp_of c4_14.eq_1
@[go_sem] theorem c4_15_wp : type_of% (wp_of c4_15.eq_1) := wp_of c4_15.eq_1
@[go_sem] theorem c4_16_wp : type_of% (wp_of c4_16.eq_1) := wp_of c4_16.eq_1
@[go_sem] theorem c4_17_wp : type_of% (wp_of c4_17.eq_1) := wp_of c4_17.eq_1
@[go_sem] theorem c4_18_wp : type_of% (wp_of c4_18.eq_1) := wp_of c4_18.eq_1
@[go_sem] theorem c4_19_wp : type_of% (wp_of c4_19.eq_1) := wp_of c4_19.eq_1
def c4 : AFn := ⟨30, [.t 2], c4_19⟩
set_option maxRecDepth 100000 in
theorem c4_ok : compF Tryz.prog Tryz.f4 = some c4 := by kernel_rfl
theorem a4 {args : List AV} {σ : ASt} {R : AV → ASt → Prop} (hl : args.length ≤ 30) (h : c4_19.wp Tryz.prog (RetQ [.t 2] R) (init args) σ) : ACalls Tryz.prog 4 args σ R := acalls_of Tryz.func4 c4_ok hl h
/-! 28: tabular/expr.Read -/
def c28_0 : ACode := .ops [
    ⟨(some 2), none, .e (.alloc [(.int .i64 0), (.int .i64 0), (.str []), (.int .i64 0), (.int .i64 0), (.bool false), (.bool false), (.int .i64 0), (.int .i64 0), (.bool false), (.bool false), (.sl .full [])]), []⟩,
    ⟨(some 3), none, .q (.mv (.v (.int .i64 0))), []⟩]
def c28_1 : ACode := .ops [
    ⟨(some 4), none, .q (.mv (.t 0)), []⟩,
    ⟨(some 5), none, .e (.call 52 [(.t 4), (.v (.int .i64 0))]), []⟩,
    ⟨(some 6), none, .q (.ext 0 (.t 5)), []⟩,
    ⟨(some 7), none, .q (.ext 1 (.t 5)), []⟩,
    ⟨none, none, .e (.store 12 (.t 2) (.t 6)), []⟩,
    ⟨(some 3), none, .q (.mv (.t 7)), []⟩]
def c28_2 : ACode := .seq c28_1 .ret
def c28_3 : ACode := .seq c28_0 c28_2
@[go_sem] theorem c28_0_wp : type_of% (wp_of c28_0.eq_1) := wp_of c28_0.eq_1
@[go_sem] theorem c28_1_wp : type_of% (wp_of c28_1.eq_1) := wp_of c28_1.eq_1
@[go_sem] theorem c28_2_wp : type_of% (wp_of c28_2.eq_1) := wp_of c28_2.eq_1
@[go_sem] theorem c28_3_wp : type_of% (wp_of c28_3.eq_1) := wp_of c28_3.eq_1
def c28 : AFn := ⟨8, [.c 2 (some 12), .t 3], c28_3⟩
set_option maxRecDepth 100000 in
theorem c28_ok : compF Tryz.prog Tryz.f28 = some c28 := by kernel_rfl
theorem a28 {args : List AV} {σ : ASt} {R : AV → ASt → Prop} (hl : args.length ≤ 8) (h : c28_3.wp Tryz.prog (RetQ [.c 2 (some 12), .t 3] R) (init args) σ) : ACalls Tryz.prog 28 args σ R := acalls_of Tryz.func28 c28_ok hl h
end Go.A
namespace Go.A
open Go.Proofs Go.Lib Go.Vint
set_option maxRecDepth 100000
set_option linter.unusedSimpArgs false
set_option linter.unusedVariables false
theorem eRead_ok (s : List UInt8) (hs : s.length ≤ 1000000) (b : Nat) (σ : ASt) (hU : U8 σ) (hb : σ b = rd s 0 0) :
    ACalls Tryz.prog 28 [.ptr b 0] σ fun v σ' => v = .tuple [(treeR s 2101 0).1.av, .int .i64 (treeR s 2101 0).2.1] ∧ σ' = σ.set b (rd s (treeR s 2101 0).2.2.1 (treeR s 2101 0).2.2.2) := by
  have hR := read_le s hs b 2101 0 (Nat.le_refl _) (Nat.zero_le _)
  rw [show (2101 : Int) - ((2101 : Nat) : Int) = 0 by decide] at hR
  generalize treeR s 2101 0 = R at *
  obtain ⟨n, e, P, E⟩ := R
  dsimp only at *
  obtain ⟨o, m, t, x, y, ks⟩ := n
  rw [Nd.av_cs] at *
  generalize ks.map Nd.av = KL at *
  refine a28 (by simp) ?_
  simp (disch := first | assumption | omega | (simp only [List.length_append, List.length_cons, List.length_nil]; omega)) only [go_sem, reduceCtorEq, Nat.reduceEqDiff, Nat.reduceAdd, Nat.reduceSub, Nat.reduceMul, Nat.reduceLeDiff, Int.reduceLT, Int.reduceLE, Int.reduceEq, ↓reduceIte, Int.reduceNeg, Int.reduceAdd, Int.reduceSub, Int.reduceMul, true_imp_iff, forall_const, Nat.mul_one, Int.reduceToNat, Nat.reducePow, Int.reducePow, Bool.true_and, Bool.false_and, Bool.and_false]
  refine allocC_by fun d hd => ?_
  have hbd : b ≠ d := by rintro rfl; rw [hb] at hd; cases hd
  have hsw2 : ∀ (X Y Z : Option Role), ((σ.set d X).set b Y).set d Z = (σ.set b Y).set d Z := fun X Y Z => by rw [set_swap (Ne.symm hbd), ASt.set_set]
  have hdd : ∀ X Y : Option Role, Drop ((σ.set b X).set d Y) (σ.set b X) := fun X Y => Drop.set (by rw [ASt.set_ne (Ne.symm hbd)]; exact hd)
  have hdr : ∀ X Y : Option Role, ((σ.set d X).set b Y) d = X := fun X Y => by rw [ASt.set_ne (Ne.symm hbd), ASt.set_same]
  simp (disch := first | assumption | omega | (simp only [List.length_append, List.length_cons, List.length_nil]; omega)) only [go_sem, reduceCtorEq, Nat.reduceEqDiff, Nat.reduceAdd, Nat.reduceSub, Nat.reduceMul, Nat.reduceLeDiff, Int.reduceLT, Int.reduceLE, Int.reduceEq, ↓reduceIte, Int.reduceNeg, Int.reduceAdd, Int.reduceSub, Int.reduceMul, true_imp_iff, forall_const, Nat.mul_one, Int.reduceToNat, Nat.reducePow, Int.reducePow, Bool.true_and, Bool.false_and, Bool.and_false]
  refine (hR _ (hU.set hd) (by rw [ASt.set_ne hbd]; exact hb)).mono ?_
  rintro v σ1 ⟨rfl, rfl⟩
  simp (disch := first | assumption | omega | (simp only [List.length_append, List.length_cons, List.length_nil]; omega)) only [go_sem, reduceCtorEq, Nat.reduceEqDiff, Nat.reduceAdd, Nat.reduceSub, Nat.reduceMul, Nat.reduceLeDiff, Int.reduceLT, Int.reduceLE, Int.reduceEq, ↓reduceIte, Int.reduceNeg, Int.reduceAdd, Int.reduceSub, Int.reduceMul, true_imp_iff, forall_const, Nat.mul_one, Int.reduceToNat, Nat.reducePow, Int.reducePow, Bool.true_and, Bool.false_and, Bool.and_false, hdr, hsw2]
  exact retC_by (hdd _ _) (.refl _) ⟨rfl, rfl⟩
theorem W.new {σ : ASt} {b : Nat} (hb : σ b = none) : W σ b [] (σ.set b (some (.obj [.sl .full []]))) := ⟨.full, .inl ⟨rfl, rfl, rfl⟩⟩
theorem W.at {σ0 σ : ASt} {b x : Nat} {l : List UInt8} {r : Role} (h : W σ0 b l σ) (hx : x ≠ b) (h0 : σ0 x = some r) : σ x = some r := by
  obtain ⟨k, hg⟩ := h
  exact hg.at (by rw [ASt.set_ne hx]; exact h0)
theorem W.tab {σ0 σ : ASt} {b : Nat} {l : List UInt8} (h : W σ0 b l σ) (hb : σ0 b = none) (hT : Tab σ0) : Tab σ := by
  unfold Tab at hT ⊢
  exact h.at (by intro e; rw [e, hb] at hT; cases hT) hT
theorem W.max {σ0 σ : ASt} {b : Nat} {l : List UInt8} (h : W σ0 b l σ) (hb : σ0 b = none) (hM : MaxL σ0) : MaxL σ := by
  obtain ⟨m, hm⟩ := hM
  exact ⟨m, h.at (by intro e; rw [e, hb] at hm; cases hm) hm⟩
theorem W.drop {σ0 σ : ASt} {b : Nat} {l : List UInt8} (h : W σ0 b l σ) (hb : σ0 b = none) : Drop σ σ0 := by
  obtain ⟨k, hg⟩ := h
  exact Drop.trans hg.drop (Drop.set hb)
set_option maxHeartbeats 2000000 in
theorem ExprOne_any {σ : ASt} (hU : U8 σ) (hT : Tab σ) (hM : MaxL σ) (s0 : List UInt8) : ACalls Tryz.prog 4 [.str s0] σ fun v σ' => v = .bool true ∧ σ' = σ := by
  obtain ⟨s, hs⟩ : ∃ s, s0.take 300 = s := ⟨_, rfl⟩
  have hsl : s.length ≤ 300 := by rw [← hs, List.length_take]; omega
  have hC := lcut_ok s0 300
  rw [hs, show ((300 : Nat) : Int) = 300 from rfl] at hC
  have hR := rread_ok s σ
  have hE := fun b τ (h1 : U8 τ) h2 => eRead_ok s (by omega) b τ h1 h2
  have hL := treeR_tells s 2101 0 (Nat.zero_le _)
  generalize treeR s 2101 0 = R at *
  obtain ⟨n, e, P, E⟩ := R
  dsimp only at *
  refine a4 (by simp) ?_
  simp (disch := first | assumption | omega | (simp only [List.length_append, List.length_cons, List.length_nil]; omega)) only [go_sem, reduceCtorEq, Nat.reduceEqDiff, Nat.reduceAdd, Nat.reduceSub, Nat.reduceMul, Nat.reduceLeDiff, Int.reduceLT, Int.reduceLE, Int.reduceEq, ↓reduceIte, Int.reduceNeg, Int.reduceAdd, Int.reduceSub, Int.reduceMul, true_imp_iff, forall_const, Nat.mul_one, Int.reduceToNat, Nat.reducePow, Int.reducePow, Bool.true_and, Bool.false_and, Bool.and_false]
  refine hC.use ?_
  simp (disch := first | assumption | omega | (simp only [List.length_append, List.length_cons, List.length_nil]; omega)) only [go_sem, reduceCtorEq, Nat.reduceEqDiff, Nat.reduceAdd, Nat.reduceSub, Nat.reduceMul, Nat.reduceLeDiff, Int.reduceLT, Int.reduceLE, Int.reduceEq, ↓reduceIte, Int.reduceNeg, Int.reduceAdd, Int.reduceSub, Int.reduceMul, true_imp_iff, forall_const, Nat.mul_one, Int.reduceToNat, Nat.reducePow, Int.reducePow, Bool.true_and, Bool.false_and, Bool.and_false]
  refine hR.mono ?_
  rintro v σ1 ⟨b, rfl, hb, rfl⟩
  have hU1 : U8 (σ.set b (rd s 0 0)) := hU.set hb
  have hrb : (σ.set b (rd s 0 0)) b = rd s 0 0 := ASt.set_same _ _ _
  obtain ⟨av, hav⟩ : ∃ av, n.av = av := ⟨_, rfl⟩
  have hW := fun hg => ewrite_ok n hg
  rw [hav] at hE hW
  obtain ⟨o, m, t, x, y, ks⟩ := n
  rw [Nd.av_cs] at hav
  subst hav
  simp (disch := first | assumption | omega | (simp only [List.length_append, List.length_cons, List.length_nil]; omega)) only [go_sem, reduceCtorEq, Nat.reduceEqDiff, Nat.reduceAdd, Nat.reduceSub, Nat.reduceMul, Nat.reduceLeDiff, Int.reduceLT, Int.reduceLE, Int.reduceEq, ↓reduceIte, Int.reduceNeg, Int.reduceAdd, Int.reduceSub, Int.reduceMul, true_imp_iff, forall_const, Nat.mul_one, Int.reduceToNat, Nat.reducePow, Int.reducePow, Bool.true_and, Bool.false_and, Bool.and_false]
  refine (hE _ _ hU1 hrb).mono ?_
  rintro v σ2 ⟨rfl, rfl⟩
  rw [ASt.set_set]
  have hT1 : Tab (σ.set b (rd s P E)) := hT.new hb
  have hM1 : MaxL (σ.set b (rd s P E)) := hM.set hb
  have hD1 : Drop (σ.set b (rd s P E)) σ := Drop.set hb
  have hr1 : (σ.set b (rd s P E)) b = rd s P E := ASt.set_same _ _ _
  generalize σ.set b (rd s P E) = τ at *
  simp (disch := first | assumption | omega | (simp only [List.length_append, List.length_cons, List.length_nil]; omega)) only [go_sem, reduceCtorEq, Nat.reduceEqDiff, Nat.reduceAdd, Nat.reduceSub, Nat.reduceMul, Nat.reduceLeDiff, Int.reduceLT, Int.reduceLE, Int.reduceEq, ↓reduceIte, Int.reduceNeg, Int.reduceAdd, Int.reduceSub, Int.reduceMul, true_imp_iff, forall_const, Nat.mul_one, Int.reduceToNat, Nat.reducePow, Int.reducePow, Bool.true_and, Bool.false_and, Bool.and_false]
  refine allocC_by fun b4 h4 => ?_
  have n4 : b ≠ b4 := by rintro rfl; rw [hr1] at h4; simp [rd] at h4
  by_cases he : e = 0
  · obtain ⟨l1, l2, l3, l4, l5⟩ := hL he
    rw [List.drop_zero] at l3
    rw [Nat.zero_add] at l4
    have hW := hW l1
    generalize ks.map Nd.av = KL at *
    generalize Nd.bytes (.mk o m t x y ks) = B at *
    have hBs : s.take P = B := by rw [l3, l4, List.take_left]
    simp (disch := first | assumption | omega | (simp only [List.length_append, List.length_cons, List.length_nil]; omega)) only [go_sem, reduceCtorEq, Nat.reduceEqDiff, Nat.reduceAdd, Nat.reduceSub, Nat.reduceMul, Nat.reduceLeDiff, Int.reduceLT, Int.reduceLE, Int.reduceEq, ↓reduceIte, Int.reduceNeg, Int.reduceAdd, Int.reduceSub, Int.reduceMul, true_imp_iff, forall_const, Nat.mul_one, Int.reduceToNat, Nat.reducePow, Int.reducePow, Bool.true_and, Bool.false_and, Bool.and_false, he, ASt.set_set]
    refine allocC_by fun b6 h6 => ?_
    have h6' := h6
    repeat (with_reducible replace h6 := set_none h6; obtain ⟨_, _, h6⟩ := h6)
    have n46 : b4 ≠ b6 := by assumption
    have h60 : τ b6 = none := by assumption
    have n6 : b ≠ b6 := by rintro rfl; rw [hr1] at h60; simp [rd] at h60
    simp (disch := first | assumption | omega | (simp only [List.length_append, List.length_cons, List.length_nil]; omega)) only [go_sem, reduceCtorEq, Nat.reduceEqDiff, Nat.reduceAdd, Nat.reduceSub, Nat.reduceMul, Nat.reduceLeDiff, Int.reduceLT, Int.reduceLE, Int.reduceEq, ↓reduceIte, Int.reduceNeg, Int.reduceAdd, Int.reduceSub, Int.reduceMul, true_imp_iff, forall_const, Nat.mul_one, Int.reduceToNat, Nat.reducePow, Int.reducePow, Bool.true_and, Bool.false_and, Bool.and_false, n46]
    refine (hW _ b6 [] _ (W.new h6') (by simp only [List.length_nil]; omega)).mono ?_
    rintro v σ3 ⟨rfl, hW3⟩
    rw [List.nil_append] at hW3
    have hT3 := hW3.tab h6' (hT1.new h4)
    have hM3 := hW3.max h6' (hM1.set h4)
    have hr3 : σ3 b = rd s P E := hW3.at n6 (by rw [ASt.set_ne n4]; exact hr1)
    simp (disch := first | assumption | omega | (simp only [List.length_append, List.length_cons, List.length_nil]; omega)) only [go_sem, reduceCtorEq, Nat.reduceEqDiff, Nat.reduceAdd, Nat.reduceSub, Nat.reduceMul, Nat.reduceLeDiff, Int.reduceLT, Int.reduceLE, Int.reduceEq, ↓reduceIte, Int.reduceNeg, Int.reduceAdd, Int.reduceSub, Int.reduceMul, true_imp_iff, forall_const, Nat.mul_one, Int.reduceToNat, Nat.reducePow, Int.reducePow, Bool.true_and, Bool.false_and, Bool.and_false]
    refine (eawake_ok hT3 hM3).mono ?_
    rintro v σ4 ⟨rfl, rfl⟩
    simp (disch := first | assumption | omega | (simp only [List.length_append, List.length_cons, List.length_nil]; omega)) only [go_sem, reduceCtorEq, Nat.reduceEqDiff, Nat.reduceAdd, Nat.reduceSub, Nat.reduceMul, Nat.reduceLeDiff, Int.reduceLT, Int.reduceLE, Int.reduceEq, ↓reduceIte, Int.reduceNeg, Int.reduceAdd, Int.reduceSub, Int.reduceMul, true_imp_iff, forall_const, Nat.mul_one, Int.reduceToNat, Nat.reducePow, Int.reducePow, Bool.true_and, Bool.false_and, Bool.and_false]
    refine (wbytes_ok _ b6 B _ hW3).mono ?_
    rintro v σ4 ⟨rfl, rfl⟩
    simp (disch := first | assumption | omega | (simp only [List.length_append, List.length_cons, List.length_nil]; omega)) only [go_sem, reduceCtorEq, Nat.reduceEqDiff, Nat.reduceAdd, Nat.reduceSub, Nat.reduceMul, Nat.reduceLeDiff, Int.reduceLT, Int.reduceLE, Int.reduceEq, ↓reduceIte, Int.reduceNeg, Int.reduceAdd, Int.reduceSub, Int.reduceMul, true_imp_iff, forall_const, Nat.mul_one, Int.reduceToNat, Nat.reducePow, Int.reducePow, Bool.true_and, Bool.false_and, Bool.and_false]
    refine (rat_ok s P E b _ hr3).mono ?_
    rintro v σ4 ⟨rfl, rfl⟩
    have hPl : (P : Int) ≤ s.length := by omega
    simp (disch := first | assumption | omega | (simp only [List.length_append, List.length_cons, List.length_nil]; omega)) only [go_sem, reduceCtorEq, Nat.reduceEqDiff, Nat.reduceAdd, Nat.reduceSub, Nat.reduceMul, Nat.reduceLeDiff, Int.reduceLT, Int.reduceLE, Int.reduceEq, ↓reduceIte, Int.reduceNeg, Int.reduceAdd, Int.reduceSub, Int.reduceMul, true_imp_iff, forall_const, Nat.mul_one, Int.reduceToNat, Nat.reducePow, Int.reducePow, Bool.true_and, Bool.false_and, Bool.and_false, hPl, hBs]
    exact retC_by ((hW3.drop h6').trans ((Drop.set h4).trans hD1)) (.refl _) ⟨rfl, rfl⟩
  · generalize ks.map Nd.av = KL at *
    simp (disch := first | assumption | omega | (simp only [List.length_append, List.length_cons, List.length_nil]; omega)) only [go_sem, reduceCtorEq, Nat.reduceEqDiff, Nat.reduceAdd, Nat.reduceSub, Nat.reduceMul, Nat.reduceLeDiff, Int.reduceLT, Int.reduceLE, Int.reduceEq, ↓reduceIte, Int.reduceNeg, Int.reduceAdd, Int.reduceSub, Int.reduceMul, true_imp_iff, forall_const, Nat.mul_one, Int.reduceToNat, Nat.reducePow, Int.reducePow, Bool.true_and, Bool.false_and, Bool.and_false, he, ASt.set_set]
    refine (eawake_ok (hT1.new h4) (hM1.set h4)).mono ?_
    rintro v σ4 ⟨rfl, rfl⟩
    simp (disch := first | assumption | omega | (simp only [List.length_append, List.length_cons, List.length_nil]; omega)) only [go_sem, reduceCtorEq, Nat.reduceEqDiff, Nat.reduceAdd, Nat.reduceSub, Nat.reduceMul, Nat.reduceLeDiff, Int.reduceLT, Int.reduceLE, Int.reduceEq, ↓reduceIte, Int.reduceNeg, Int.reduceAdd, Int.reduceSub, Int.reduceMul, true_imp_iff, forall_const, Nat.mul_one, Int.reduceToNat, Nat.reducePow, Int.reducePow, Bool.true_and, Bool.false_and, Bool.and_false]
    exact retC_by ((Drop.set h4).trans hD1) (.refl _) ⟨rfl, rfl⟩
end Go.A
namespace Go.Proofs.YtennoafgkkoeaaaGreatDoor
open Go Go.ChangeShapes Go.WideShapes Go.ChangeAt Go.RowKit Go.A Go.Lib Go.Shelf
set_option maxRecDepth 100000
set_option linter.unusedSimpArgs false
set_option linter.unusedVariables false
theorem row_own : ownKnob Tryz.prog.godebug = none := by kernel_rfl
theorem row_laid : laidOutB Tryz.prog = true := by kernel_rfl
theorem first_eq : Rows.laid_unicode_utf8_first = firstData := by kernel_rfl
theorem acc_eq : (Rows.laid_unicode_utf8_acceptRanges : DataW Unit) = acceptData := by kernel_rfl
theorem u8_extra : U8Extra Tryz.prog Tryz.lays260_ren := ⟨by kernel_rfl, by kernel_rfl, by kernel_rfl, by kernel_rfl, by kernel_rfl, by kernel_rfl, by kernel_rfl⟩
theorem var_size {P : Program} {w : World} {n : String} {d : DataW Unit} (h : VarReads P w n d) {g : Nat} (hg : P.globalNamed n = some g) {t e : TypeId} {k : Nat} (hty : (P.globals[g]?).map (·.type) = some t) (ht : P.underlying t = some (.array k e)) :
    ∃ cs T fr, w.heap[g]? = some (.cells cs T fr) ∧ cs.size = P.cellsOf t := by
  obtain ⟨g', t', cs, fuel, p, hg', hty', hvar, hd⟩ := h
  obtain rfl := Option.some.inj (hg.symm.trans hg')
  obtain rfl := Option.some.inj (hty.symm.trans hty')
  have hlen : cs.toList.length = P.cellsOf t := by
    cases fuel with
    | zero => simp [DataW.trod] at hd
    | succ fuel =>
      simp only [DataW.trod, ht] at hd
      split at hd
      · assumption
      · cases hd
  unfold World.var? at hvar
  rw [hg, Option.bind_some] at hvar
  split at hvar
  · rename_i cs' T fr hheap
    injection hvar with hvar
    subst hvar
    exact ⟨_, _, _, hheap, by simpa using hlen⟩
  · cases hvar
theorem ints_reps {σ : ASt} {w : World} {k : IntKind} : ∀ zs : List Int, Reps σ w (zs.map (AV.int k)) (zs.map (Value.int k))
  | [] => .nil
  | z :: zs => .cons (.int k z) (ints_reps zs)
theorem fix_ok {σ : ASt} {W : World} {b : Nat} {zs : List Int} (hs : σ b = some (.fix (zs.map (AV.int .u8)))) {cs : Array Value} {T : TypeId} {fr : Nat × Nat} (hh : W.heap[b]? = some (.cells cs T fr)) (hsz : cs.size = zs.length)
    (hc : ∀ j z, zs[j]? = some z → W.cell? ⟨b, j, none⟩ = some (.int .u8 z)) : RoleOk σ W b (.fix (zs.map (AV.int .u8))) := by
  have hlt : b < W.heap.size := (Array.getElem?_eq_some_iff.1 hh).1
  refine ⟨At.mk' (ints_reps _) (fun j _ => ⟨hlt, .inr (.inl ⟨_, hs⟩)⟩) (fun j v hj => ?_), cs, T, fr, hh, by simpa using hsz⟩
  rw [List.getElem?_map] at hj
  obtain ⟨z, hz, rfl⟩ := Option.map_eq_some_iff.1 hj
  rw [Nat.zero_add]
  exact hc j z hz
def stOf : List (Nat × List AV) → ASt
  | [], _ => none
  | p :: ps, b => if b = p.1 then some (.fix p.2) else stOf ps b
theorem stOf_fix : ∀ {ps : List (Nat × List AV)} {b : Nat} {r : Role}, stOf ps b = some r → ∃ l, r = .fix l
  | [], _, _, h => by cases h
  | p :: ps, b, r, h => by
    simp only [stOf] at h
    split at h
    · injection h with h; exact ⟨_, h.symm⟩
    · exact stOf_fix h
theorem stOf_mem : ∀ {ps : List (Nat × List AV)} {b : Nat} {r : Role}, stOf ps b = some r → ∃ l, (b, l) ∈ ps ∧ r = .fix l
  | [], _, _, h => by cases h
  | p :: ps, b, r, h => by
    simp only [stOf] at h
    split at h
    · rename_i hb
      injection h with h
      subst hb
      exact ⟨p.2, List.mem_cons_self, h.symm⟩
    · obtain ⟨l, hl, he⟩ := stOf_mem h
      exact ⟨l, List.mem_cons_of_mem _ hl, he⟩
theorem still_fix {σ : ASt} (hfx : ∀ b r, σ b = some r → ∃ l, r = .fix l) {w : World} {b o : Nat} (h : b < w.heap.size) : Still σ w b o := by
  refine ⟨h, ?_⟩
  cases hb : σ b with
  | none => exact .inl rfl
  | some r => obtain ⟨l, rfl⟩ := hfx b r hb; exact .inr (.inl ⟨_, rfl⟩)
end Go.Proofs.YtennoafgkkoeaaaGreatDoor
namespace Go.A
section
variable {σ : ASt} {w : World}
theorem Still.fixed (hfx : ∀ b r, σ b = some r → ∃ l, r = .fix l) {b o : Nat} (h : Still noRole w b o) : Still σ w b o := by
  refine ⟨h.1, ?_⟩
  cases hb : σ b with
  | none => exact .inl rfl
  | some r => obtain ⟨l, rfl⟩ := hfx b r hb; exact .inr (.inl ⟨_, rfl⟩)
theorem Stands.fixed (hfx : ∀ b r, σ b = some r → ∃ l, r = .fix l) (b : Nat) : Stands σ b := by
  refine ⟨fun cs h => ?_, fun l p h => ?_, fun T cs h => ?_⟩ <;> (obtain ⟨l, hl⟩ := hfx b _ h; cases hl)
theorem SK.ok_fixed (hfx : ∀ b r, σ b = some r → ∃ l, r = .fix l) {k : SK} {b o n c sz : Nat} (h : k.ok noRole w b o n c sz) : k.ok σ w b o n c sz := by
  cases k with
  | shr => trivial
  | full => exact h
  | tok t s T => exact ⟨h.1, h.2.1, h.2.2.1, h.2.2.2.1, Stands.fixed hfx b⟩
mutual
theorem Rep.fixed (hfx : ∀ b r, σ b = some r → ∃ l, r = .fix l) : ∀ {a : AV} {v : Value}, Rep noRole w a v → Rep σ w a v
  | _, _, .any v => .any v
  | _, _, .bool b => .bool b
  | _, _, .int k n => .int k n
  | _, _, .str l => .str l
  | _, _, .ptr b o => .ptr b o
  | _, _, .imm h1 => .imm (h1.fixed hfx)
  | _, _, .nilp => .nilp
  | _, _, .slE A c => .slE A c
  | _, _, .slN => .slN
  | _, _, .sl h1 h2 h3 h4 h5 => .sl (h1.fixed hfx) h2 h3 (SK.ok_fixed hfx h4) h5
  | _, _, .msl b o n c => .msl b o n c
  | _, _, .agg h1 => .agg (h1.fixed hfx)
  | _, _, .tuple h1 => .tuple (h1.fixed hfx)
  | _, _, .iface h1 => .iface (h1.fixed hfx)
  | _, _, .nili => .nili
  | _, _, .func h1 h2 => .func (h1.fixed hfx) (h2.fixed hfx)
  | _, _, .nilf => .nilf
theorem Reps.fixed (hfx : ∀ b r, σ b = some r → ∃ l, r = .fix l) : ∀ {avs : List AV} {vs : List Value}, Reps noRole w avs vs → Reps σ w avs vs
  | _, _, .nil => .nil
  | _, _, .cons h1 h2 => .cons (h1.fixed hfx) (h2.fixed hfx)
theorem At.fixed (hfx : ∀ b r, σ b = some r → ∃ l, r = .fix l) : ∀ {b o : Nat} {avs : List AV}, At noRole w b o avs → At σ w b o avs
  | _, _, _, .nil b o => .nil b o
  | _, _, _, .cons h1 h2 h3 h4 => .cons (h1.fixed hfx) h2 (h3.fixed hfx) (h4.fixed hfx)
theorem Row.fixed (hfx : ∀ b r, σ b = some r → ∃ l, r = .fix l) : ∀ {b o sz : Nat} {avs : List AV}, Row noRole w b o sz avs → Row σ w b o sz avs
  | _, _, _, _, .nil b o sz => .nil b o sz
  | _, _, _, _, .cons h1 h2 h3 => .cons h1 (h2.fixed hfx) (h3.fixed hfx)
end
end
end Go.A
namespace Go.Proofs.YtennoafgkkoeaaaGreatDoor
open Go Go.ChangeShapes Go.WideShapes Go.ChangeAt Go.RowKit Go.A Go.Lib Go.Shelf
theorem u8_roles {σ : ASt} {W : World} (h3 : VarReads Tryz.prog W "unicode/utf8.first" firstData) (h4 : VarReads Tryz.prog W "unicode/utf8.acceptRanges" acceptData) :
    (σ 0 = some (.fix (firstTab.map (AV.int .u8))) → RoleOk σ W 0 (.fix (firstTab.map (AV.int .u8)))) ∧ (σ 1 = some (.fix (accTab.map (AV.int .u8))) → RoleOk σ W 1 (.fix (accTab.map (AV.int .u8)))) := by
  have hT := utf8Tabs_of_reads (ρ := Tryz.lays260_ren) Tryz.lays260 u8_extra h3 h4
  obtain ⟨hT1, hT2⟩ := hT
  have hT1 : ∀ c, c < 256 → W.cell? ⟨0, c, none⟩ = some (.int .u8 (firstT c)) := hT1
  have hT2 : ∀ i, i < 16 → W.cell? ⟨1, 2 * i, none⟩ = some (.int .u8 (accLo i)) ∧ W.cell? ⟨1, 2 * i + 1, none⟩ = some (.int .u8 (accHi i)) := hT2
  constructor
  · intro hs
    obtain ⟨cs, T, fr, hh, hsz⟩ := var_size h3 (g := 0) (by kernel_rfl) u8_extra.y3 (Tryz.lays260.t119)
    refine fix_ok hs hh (hsz.trans (by kernel_rfl)) fun j z hj => ?_
    have hl := (List.getElem?_eq_some_iff.1 hj).1
    simp only [firstTab, List.length_map, List.length_range] at hl
    simp only [firstTab, List.getElem?_map, List.getElem?_range hl, Option.map_some, Option.some.injEq] at hj
    subst hj
    exact hT1 j hl
  · intro hs
    obtain ⟨cs, T, fr, hh, hsz⟩ := var_size h4 (g := 1) (by kernel_rfl) u8_extra.y4 (Tryz.lays260.t139)
    refine fix_ok hs hh (hsz.trans (by kernel_rfl)) fun j z hj => ?_
    have hl := (List.getElem?_eq_some_iff.1 hj).1
    have key : ∀ j, j < 32 → accTab[j]? = some (if j % 2 = 0 then (accLo (j / 2) : Int) else accHi (j / 2)) := by decide
    have hl : j < 32 := hl
    rw [key j hl] at hj
    injection hj with hj
    subst hj
    obtain ⟨g1, g2⟩ := hT2 (j / 2) (by omega)
    split
    · rw [show 2 * (j / 2) = j by omega] at g1; exact g1
    · rw [show 2 * (j / 2) + 1 = j by omega] at g2; exact g2
theorem pow_role {σ : ASt} {W : World} (hfx : ∀ b r, σ b = some r → ∃ l, r = .fix l) (h3 : VarReads Tryz.prog W "internal/strconv.uint64pow10" (Lib.tabData .u64 Lib.pow10Tab)) :
    RoleOk σ W 2 (.fix (Lib.pow10Tab.map (AV.int .u64))) := by
  obtain ⟨g', t', cs, fuel, p, hg', ht', hvar, hd⟩ := h3
  obtain rfl := Option.some.inj ((show Tryz.prog.globalNamed "internal/strconv.uint64pow10" = some 2 by kernel_rfl).symm.trans hg')
  obtain rfl := Option.some.inj ((show (Tryz.prog.globals[2]?).map (·.type) = some 166 by kernel_rfl).symm.trans ht')
  have hcs := cells_of_tab (n := 20) (e := 84) (k := .u64) (by kernel_rfl) (by kernel_rfl) (by kernel_rfl) (by kernel_rfl) hd
  unfold World.var? at hvar
  rw [show Tryz.prog.globalNamed "internal/strconv.uint64pow10" = some 2 by kernel_rfl, Option.bind_some] at hvar
  split at hvar
  · rename_i cs' T fr hheap
    injection hvar with hvar
    have hlt : 2 < W.heap.size := (Array.getElem?_eq_some_iff.1 hheap).1
    have he : cs' = (Lib.pow10Tab.map fun z => Value.int .u64 z).toArray := by rw [hvar]; exact Array.ext' (by simpa using hcs)
    refine ⟨At.mk' (ints_reps _) (fun j _ => still_fix hfx hlt) (fun j v hj => ?_), cs', T, fr, hheap, by rw [he]; simp⟩
    simp only [World.cell?, hheap, Nat.zero_add, he]
    simpa using hj
  · cases hvar
end Go.Proofs.YtennoafgkkoeaaaGreatDoor
namespace Go.Proofs.YtennoafgkkoeaaaGreatDoor
open Go Go.ChangeShapes Go.WideShapes Go.ChangeAt Go.RowKit Go.A Go.Lib Go.Shelf
set_option maxRecDepth 100000
set_option linter.unusedVariables false
def laidV : List (String × DataW Unit) := [("math/bits.deBruijn32tab", Rows.laid_math_bits_deBruijn32tab), ("math/bits.deBruijn64tab", Rows.laid_math_bits_deBruijn64tab), ("internal/strconv.uint64pow10", Rows.laid_internal_strconv_uint64pow10), ("unicode/utf8.acceptRanges", Rows.laid_unicode_utf8_acceptRanges), ("unicode/utf8.first", Rows.laid_unicode_utf8_first)]
def vPs : List (Nat × List AV) := [(0, firstTab.map (AV.int .u8)), (1, accTab.map (AV.int .u8)), (2, Lib.pow10Tab.map (AV.int .u64))]
def vSt : ASt := stOf vPs
end Go.Proofs.YtennoafgkkoeaaaGreatDoor
namespace Go
variable {H : Type} {enc : TypeId × Value → H}
theorem A.returnsInHanded_and_shaped {a : Assume} {C : Checked} {os : Os} {f : FuncId} {fn : Func} {s : ChangeSpec} {conds : List PathCond} {apart fresh handsOn again : Bool} {X : World → Array Value → Prop}
    (hX : ∀ (w w' : World) (args : Array Value), w.heap = w'.heap → X w args → X w' args)
    (own : ownKnob C.prog.godebug = none) (started : os.Started) (noInit : C.prog.inits.idxOf? f = none) (hfn : C.prog.funcs[f]? = some fn)
    (witness : ∃ (w : World) (tape : Tape) (i : Input), w.os = os ∧ (w.forCall tape i).Shaped C.prog ∧ i.vars = [] ∧ Input.okWide C.prog (w.forCall tape i) .any w.heap.size f i ∧
      ((s.pre enc C.prog fn conds apart (w.forCall tape i).memory i.args ∧ X (w.forCall tape i).memory i.args) ∧ sizedMet enc C.prog fn (OpenSpec.ofChange s) apart (w.forCall tape i).memory i.args) ∧ a.holds C.prog (lone (Frame.enter C.prog f i.args .normal) [] (w.forCall tape i)))
    (contract : ∀ (W : World) (base : Nat) (args : Array Value) (ds gs : List (DataW H)) (before : List MemPlace),
      (∀ (j : Nat) t v, fn.params[j]? = some t → args[j]? = some v → Value.okWide C.prog W .any base t v) →
      DataW.Whole enc C.prog fn.params.toList s.vars apart W args.toList ds gs before →
      W.ShapedOpen C.prog → X W args →
      Calls C.prog f args W fun e W' => ∃ v, e = .returned v ∧ s.post enc C.prog fn apart fresh handsOn again W args v W') :
    ReturnsInHanded a C os f .any (fun w args => (s.pre enc C.prog fn conds apart w args ∧ X w args) ∧ sizedMet enc C.prog fn (OpenSpec.ofChange s) apart w args) (s.post enc C.prog fn apart fresh handsOn again) := by
  refine returnsInHanded_of_calls own started noInit witness ?_
  intro w tape i _ hsh _ hok hpre hholds
  obtain ⟨_, _, _, fn', hfn', _, _, _, _, hval⟩ := hok
  have e : fn' = fn := Option.some.inj (hfn'.symm.trans hfn)
  subst e
  obtain ⟨⟨⟨ds, gs, before, hw, hc⟩, hx⟩, hz⟩ := hpre
  have hw' := DataW.Whole.of_heap (w' := w.forCall tape i) (by rfl) hw
  refine (contract (w.forCall tape i) w.heap.size i.args ds gs before hval hw' hsh (hX _ _ _ (by rfl) hx)).mono fun e W' ⟨v, he, hp⟩ => ?_
  subst he
  exact ChangeSpec.post_blind hp
end Go
namespace Go.Proofs.YtennoafgkkoeaaaGreatDoor
open Go Go.ChangeShapes Go.WideShapes Go.ChangeAt Go.RowKit Go.A Go.Lib Go.Shelf
set_option maxRecDepth 100000
set_option linter.unusedSimpArgs false
set_option linter.unusedVariables false
def wSt (m : Int) : ASt := fun b => if b = 3 then some (.fix ([m].map (AV.int .i64))) else vSt b
theorem wSt_u8 (m : Int) : U8 (wSt m) := ⟨by simp [wSt, vSt, vPs, stOf], by simp [wSt, vSt, vPs, stOf]⟩
theorem wSt_tab (m : Int) : Tab (wSt m) := by simp [Tab, wSt, vSt, vPs, stOf]
theorem wSt_max (m : Int) : MaxL (wSt m) := ⟨m, by simp [wSt]⟩
theorem wSt_fix {m : Int} {b : Nat} {r : Role} (h : wSt m b = some r) : ∃ l, r = .fix l := by
  unfold wSt at h
  split at h
  · injection h with h; exact ⟨_, h.symm⟩
  · exact stOf_fix h
theorem w_sim {W : World} (hsh : W.ShapedOpen Tryz.prog) (h : laidMetH Tryz.prog laidV W) : ∃ m, Sim (wSt m) W := by
  rw [MakeChecks.laidMetH_plain _ _ _ (by kernel_rfl)] at h
  have hp : VarReads Tryz.prog W "internal/strconv.uint64pow10" (Lib.tabData .u64 Lib.pow10Tab) := Lib.laidMet.reads h (.tail _ (.tail _ (.head _)))
  have h4 : VarReads Tryz.prog W "unicode/utf8.acceptRanges" acceptData := acc_eq ▸ Lib.laidMet.reads h (.tail _ (.tail _ (.tail _ (.head _))))
  have h3 : VarReads Tryz.prog W "unicode/utf8.first" firstData := first_eq ▸ Lib.laidMet.reads h (.tail _ (.tail _ (.tail _ (.tail _ (.head _)))))
  obtain ⟨m, hm⟩ := Tryz.laysM155.s1_3 W hsh
  have hm : W.cell? ⟨3, 0, none⟩ = some (.int .i64 m) := hm
  obtain ⟨cs, hh, hsz, _⟩ := hsh.1 3 #[.int .i64 0] 3 (of_decide_eq_true (by kernel_rfl)) (by kernel_rfl)
  obtain ⟨r1, r2⟩ := u8_roles (σ := wSt m) h3 h4
  refine ⟨m, fun b r hb => ?_⟩
  have hb0 := hb
  unfold wSt at hb
  split at hb
  · rename_i hbb
    subst hbb
    injection hb with hb
    subst hb
    have hlt : 3 < W.heap.size := (Array.getElem?_eq_some_iff.1 hh).1
    refine ⟨At.mk' (ints_reps _) (fun j _ => ⟨hlt, .inr (.inl ⟨_, hb0⟩)⟩) (fun j v hj => ?_), cs, _, _, hh, hsz⟩
    match j, hj with
    | 0, hj => injection hj with hj; subst hj; exact hm
  · obtain ⟨l, hl, rfl⟩ := stOf_mem hb
    simp only [vPs, List.mem_cons, List.not_mem_nil, or_false, Prod.mk.injEq] at hl
    rcases hl with ⟨rfl, rfl⟩ | ⟨rfl, rfl⟩ | ⟨rfl, rfl⟩
    · exact r1 (wSt_u8 m).1
    · exact r2 (wSt_u8 m).2
    · exact pow_role (fun _ _ => wSt_fix) hp
theorem calls_w {m : Int} {f : FuncId} {args : List AV} {vs : List Value} {w : World} (h : ACalls Tryz.prog f args (wSt m) fun r σ' => r = .bool true ∧ σ' = wSt m) (hs : Sim (wSt m) w) (hr : Reps (wSt m) w args vs) :
    Calls Tryz.prog f ⟨vs⟩ w fun e w' => e = .returned (.bool true) ∧ Ext w w' :=
  (h w vs hs hr).mono fun e w' ⟨u, r, σ', he, ⟨hrt, hst⟩, hle, _, hrep⟩ => by
    subst hrt hst
    cases hrep
    refine ⟨he, Ext.of_below ⟨hle.os, hle.tape, hle.output, hle.size, fun k hk => ?_⟩⟩
    cases hn : wSt m k with
    | none => exact (hle.keep k hk hn).2
    | some r =>
      obtain ⟨l, rfl⟩ := wSt_fix hn
      exact (hle.fix k _ hk hn).2
end Go.Proofs.YtennoafgkkoeaaaGreatDoor
