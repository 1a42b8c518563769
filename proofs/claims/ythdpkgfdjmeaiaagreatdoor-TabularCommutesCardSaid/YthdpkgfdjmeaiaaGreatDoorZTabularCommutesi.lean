/- Part 9 of what TabularCommutes leans on: So CodeSb Sb CodeSc CodeSe Se Sf Sh Ya Ye Qe Qf Qd Qg Qh Su CodeKt Kt Ms Mx Mk. -/
import Derived.Test.YthdpkgfdjmeaiaaGreatDoorProg
import Derived.KernelRfl
import Derived.Lib.ValidLaws
import Derived.Test.YthdpkgfdjmeaiaaGreatDoorRows
import Derived.ProofKit
import Derived.LaidMore
import Derived.OpenShut
import Derived.Stop.LaidErr
import Derived.MakeChecks
import Derived.SevenTiedAt
import Derived.Lay
import Derived.ChangeArms
import Derived.Lib.LaidU8
import Derived.Lib.LaidTab
import Derived.Test.YthdpkgfdjmeaiaaGreatDoorZTabularCommutesh
set_option linter.defProp false
set_option linter.unusedSimpArgs false
set_option linter.unusedVariables false
set_option maxRecDepth 100000
namespace Go.A
open Go.Proofs Go.Lib
def MapG (P : Nd → Prop) (F : AV) (f : Nd → Nd) (I : ASt → Prop) : Prop := ∃ g cap, F = .func (.func g) [] cap ∧ okFn Tryz.prog g = true ∧ (∀ σ b r, I σ → σ b = none → I (σ.set b r)) ∧
 ∀ x σ, I σ → P x → (x.op = 5 ∨ x.op = 6) → ACalls Tryz.prog g (x.av :: cap) σ fun v σ' => v = (f x).av ∧ σ' = σ
theorem mapg_le (F : AV) (f : Nd → Nd) (I : ASt → Prop) (P : Nd → Prop) (hP : ∀ op m s a b ks, P (.mk op m s a b ks) → ∀ x ∈ ks, P x) (hF : MapG P F f I) : ∀ (k : Nat) (n : Nd), n.size ≤ k → n.size ≤ 1000000000 → P n → ∀ σ, I σ → ACalls Tryz.prog 37 [n.av, F] σ fun v σ' => v = (Nd.map f n).av ∧ σ' = σ
 | 0, n, hk, _, _ => by have := n.size_pos; omega
 | k + 1, n, hk, hb, hp => by
   intro σ hI
   have ih := mapg_le F f I P hP hF k
   obtain ⟨g, cap, rfl, hok, hst, hcall⟩ := hF
   obtain ⟨op, m, s, a, b, ks⟩ := n
   have hc0 := fun τ hτ => hcall (.mk op m s a b ks) τ hτ hp
   rw [Nd.size] at hk hb
   have hlen := sizes_len ks
   rw [Nd.map, Nd.maps_map]
   have hav := Nd.av_cs op m s a b ks
   by_cases ho : op = 5 ∨ op = 6
   ·rw [if_pos ho]
    obtain ⟨w, hw⟩ : ∃ w, (f (Nd.mk op m s a b ks)) = w := ⟨_, rfl⟩
    rw [hw, hav] at hc0
    rw [hw, hav]
    obtain ⟨wo, wm, ws, wa, wb, wk⟩ := w
    rw [Nd.av_cs] at hc0 ⊢
    generalize ks.map Nd.av = L at *
    generalize wk.map Nd.av = WL at *
    refine a37 (by simp) ?_
    simp (disch := first | assumption | omega) only [go_sem]
    refine boxC_by rfl fun c hc => ?_
    simp (disch := first | assumption | omega) only [go_sem]
    refine allocC_by fun d hd => ?_
    have hd0 := hd
    repeat (with_reducible replace hd := set_none hd; obtain ⟨_, _, hd⟩ := hd)
    have h0 := hc0 _ (hst _ _ (some (.obj zeroC)) (hst _ _ (some (.obj (Nd.cs op m s a b L))) hI hc) hd0) ho
    unfold zeroC Nd.cs at h0
    rcases ho with rfl | rfl
    ·simp (disch := first | assumption | omega) only [go_sem, Nat.reduceEqDiff, Nat.reduceLeDiff, ↓reduceIte]
     refine ⟨hok, ?_⟩
     unfold Nd.cs
     refine h0.mono ?_
     rintro v σ' ⟨rfl, rfl⟩
     simp (disch := first | assumption | omega) only [go_sem, Nat.reduceEqDiff, Nat.reduceAdd, Nat.reduceLeDiff, ↓reduceIte, Bool.true_and, ASt.set_set]
     exact retC_by ((Drop.set hc).off (by assumption)) (.refl _) ⟨rfl, rfl⟩
    ·simp (disch := first | assumption | omega) only [go_sem, Nat.reduceEqDiff, Nat.reduceLeDiff, Int.reduceEq, ↓reduceIte]
     refine ⟨hok, ?_⟩
     unfold Nd.cs
     refine h0.mono ?_
     rintro v σ' ⟨rfl, rfl⟩
     simp (disch := first | assumption | omega) only [go_sem, Nat.reduceEqDiff, Nat.reduceAdd, Nat.reduceLeDiff, ↓reduceIte, Bool.true_and, ASt.set_set]
     exact retC_by ((Drop.set hc).off (by assumption)) (.refl _) ⟨rfl, rfl⟩
   ·rw [if_neg ho, hav, Nd.av_cs]
    have o5 : op ≠ 5 := by omega
    have o6 : op ≠ 6 := by omega
    have hmm : (ks.map (Nd.map f)).map Nd.av = ks.map fun x => (Nd.map f x).av := by rw [List.map_map]; rfl
    rw [hmm]
    have hks : ∀ x ∈ ks, ∀ σ, I σ → ACalls Tryz.prog 37 [x.av, .func (.func g) [] cap] σ fun v σ' => v = (Nd.map f x).av ∧ σ' = σ := fun x hx => by
     have := Nd.size_kid hx
     exact ih x (by omega) (by omega) (hP _ _ _ _ _ _ hp x hx)
    refine a37 (by simp) ?_
    simp (disch := first | assumption | omega) only [go_sem]
    refine boxC_by rfl fun c hc => ?_
    simp (disch := first | assumption | omega) only [go_sem]
    refine allocC_by fun d hd => ?_
    have hd0 := hd
    repeat (with_reducible replace hd := set_none hd; obtain ⟨_, _, hd⟩ := hd)
    by_cases h0 : ks = []
    ·subst h0
     simp only [List.map_nil]
     simp (disch := first | assumption | omega) only [go_sem, Nat.reduceEqDiff, Nat.reduceAdd, Nat.reduceLeDiff, Int.reduceLT, ↓reduceIte, o5, o6, ASt.set_set]
     exact retC_by ((Drop.set hc).off (by assumption)) (.refl _) ⟨rfl, rfl⟩
    have hpos : 0 < ks.length := by
     rcases ks with _ | ⟨_, _⟩
     ·exact absurd rfl h0
     ·simp
    have hpos' : (0 : Int) < ks.length := by omega
    obtain ⟨G, hG⟩ : ∃ G, G = ACode.wp Tryz.prog c37_22 := ⟨_, rfl⟩
    simp (disch := first | assumption | omega) only [go_sem, Nat.reduceEqDiff, ↓reduceIte, o5, o6, hpos']
    refine mkb_own (by omega) (by omega) (by omega) (by omega) fun e he => ?_
    have he0 := he
    repeat (with_reducible replace he := set_none he; obtain ⟨_, _, he⟩ := he)
    rw [Int.toNat_natCast]
    have hz12 : ([.int .i64 0, .int .i64 0, .str [], .int .i64 0, .int .i64 0, .bool false, .bool false, .int .i64 0, .int .i64 0, .bool false, .bool false, .sl .full []] : List AV).length = 12 := rfl
    have hrz := rowAt_zero f ks [.int .i64 0, .int .i64 0, .str [], .int .i64 0, .int .i64 0, .bool false, .bool false, .int .i64 0, .int .i64 0, .bool false, .bool false, .sl .full []]
    have hrl : ∀ i, i ≤ ks.length → (rowAt f ks [.int .i64 0, .int .i64 0, .str [], .int .i64 0, .int .i64 0, .bool false, .bool false, .int .i64 0, .int .i64 0, .bool false, .bool false, .sl .full []] i).length = ks.length * 12 := fun i hi => rowAt_len f ks hz12 hi
    have hrs := fun i x hx => rowAt_step f ks hz12 (i := i) (x := x) hx
    have hre := rowAt_end f ks [.int .i64 0, .int .i64 0, .str [], .int .i64 0, .int .i64 0, .bool false, .bool false, .int .i64 0, .int .i64 0, .bool false, .bool false, .sl .full []]
    rw [← hrz]
    generalize rowAt f ks [.int .i64 0, .int .i64 0, .str [], .int .i64 0, .int .i64 0, .bool false, .bool false, .int .i64 0, .int .i64 0, .bool false, .bool false, .sl .full []] = q at *
    have nce : c ≠ e := by assumption
    have nde : d ≠ e := by assumption
    have ncd : c ≠ d := by assumption
    have hII : ∀ X Y Z : Option Role, I (((σ.set c X).set d Y).set e Z) := fun X Y Z => hst _ _ _ (hst _ _ _ (hst _ _ _ hI hc) (by rw [ASt.set_ne (Ne.symm ncd)]; assumption)) (by rw [ASt.set_ne (Ne.symm nde), ASt.set_ne (Ne.symm nce)]; assumption)
    have hDD : ∀ X Y Z : Option Role, Drop (((σ.set c X).set d Y).set e Z) σ := fun X Y Z => ((Drop.set hc).off (by assumption)).off (by assumption)
    simp (disch := first | assumption | omega) only [go_sem, Nat.reduceEqDiff, ↓reduceIte, ←hG]
    refine wp_loop_by (fun (i : Nat) a1 s2 => i ≤ ks.length ∧ (a1 1 = .func (.func g) [] cap ∧ a1 2 = .ptr c 0 ∧ a1 4 = .ptr d 0 ∧ a1 5 = .msl e 0 ks.length ks.length ∧ a1 28 = .sl .shr (ks.map Nd.av) ∧ a1 29 = .int .i64 ks.length ∧ a1 30 = .int .i64 i) ∧
     s2 = ((σ.set c (some (.obj (Nd.cs op m s a b (ks.map Nd.av))))).set d (some (.obj [.int .i64 0, .int .i64 0, .str [], .int .i64 0, .int .i64 0, .bool false, .bool false, .int .i64 0, .int .i64 0, .bool false, .bool false, .sl .full []]))).set e (some (.obj (q i)))) (fun i => ks.length - i) 0 (Dr.now ⟨Nat.zero_le _, ?_, rfl⟩) ?_
    ·simp (disch := first | assumption | omega) only [go_sem, Nat.reduceEqDiff, ↓reduceIte]
    rintro i a1 s2 ⟨hi, hf, rfl⟩
    by_cases hlt : i < ks.length
    ·have hlt' : (i : Int) < ks.length := by omega
     have hx : ks[i]? = some (ks[i]'hlt) := List.getElem?_eq_getElem hlt
     have hkx := hks _ (List.getElem_mem hlt)
     obtain ⟨x, hxe⟩ : ∃ x, ks[i]'hlt = x := ⟨_, rfl⟩
     rw [hxe] at hx hkx
     have hmx := Nd.get hx
     have hqs := hrs i x hx
     have hql := hrl i (by omega)
     obtain ⟨y, hy⟩ : ∃ y, Nd.map f x = y := ⟨_, rfl⟩
     rw [hy] at hkx hqs
     obtain ⟨xo, xm, xs, xa, xb, xk⟩ := x
     obtain ⟨yo, ym, ys, ya, yb, yk⟩ := y
     rw [Nd.av_cs] at hmx
     rw [Nd.av_cs, Nd.av_cs] at hkx
     rw [Nd.av_cs, cells_agg] at hqs
     generalize xk.map Nd.av = XK at *
     generalize yk.map Nd.av = YK at *
     generalize hXL : ks.map Nd.av = XL at *
     simp (disch := first | assumption | omega) only [go_sem, Nat.reduceEqDiff, Nat.reduceLeDiff, ↓reduceIte, hf, hlt', hmx]
     refine allocC_by fun t ht => ?_
     have ht0 := ht
     repeat (with_reducible replace ht := set_none ht; obtain ⟨_, _, ht⟩ := ht)
     have hk1 := hkx _ (hst _ _ (some (.obj (Nd.cs xo xm xs xa xb XK))) (hII _ _ _) ht0)
     simp (disch := first | assumption | omega) only [go_sem, Nat.reduceEqDiff, Nat.reduceAdd, Nat.reduceLeDiff, ↓reduceIte, hf, ASt.set_set]
     refine hk1.mono ?_
     rintro v σ' ⟨rfl, rfl⟩
     have hb1 : i * 12 + 12 ≤ (q i).length := by rw [hql]; omega
     have het : e ≠ t := by assumption
     have hsw : ∀ (ρ : ASt) (X Y Z : Option Role), ((ρ.set e X).set t Y).set e Z = (ρ.set e Z).set t Y := fun _ _ _ _ => set_mid het
     simp (disch := first | assumption | omega) only [go_sem, Nat.reduceEqDiff, ↓reduceIte, hf, hb1, hqs, hsw]
     refine ⟨i + 1, by dsimp only; omega, Dr.drop (Drop.set (by rw [ASt.set_ne (Ne.symm het)]; rw [ASt.set_ne (Ne.symm het)] at ht0; exact ht0)) ⟨by omega, ?_, rfl⟩⟩
     simp (disch := first | assumption | omega) only [go_sem, Nat.reduceEqDiff, ↓reduceIte, hf]
    ·have hlt' : ¬ (i : Int) < ks.length := by omega
     obtain rfl : i = ks.length := by omega
     rw [hre]
     simp (disch := first | assumption | omega) only [go_sem, ↓reduceIte, hf, hlt']
     rw [hG]
     have hsw1 : ∀ (ρ : ASt) (X Y Z W : Option Role), (((ρ.set c X).set d Y).set e Z).set c W = ((ρ.set c W).set d Y).set e Z := fun ρ X Y Z W => by rw [set_swap (Ne.symm nce), set_mid ncd]
     have hsw2 : ∀ (ρ : ASt) (Y Z W : Option Role), ((ρ.set d Y).set e Z).set d W = (ρ.set d W).set e Z := fun ρ Y Z W => set_mid nde
     unfold Nd.cs
     simp (disch := first | assumption | omega) only [go_sem, Nat.reduceEqDiff, Nat.reduceAdd, Nat.reduceLeDiff, ↓reduceIte, Bool.true_and, hf, hsw1, hsw2]
     refine retC_by (r := .agg [.int .i64 op, .int .i64 m, .str s, .int .i64 a.row, .int .i64 a.col, .bool a.absRow, .bool a.absCol, .int .i64 b.row, .int .i64 b.col, .bool b.absRow, .bool b.absCol, .sl .shr (ks.map fun x => (Nd.map f x).av)]) (hDD _ _ _) ?_ ⟨rfl, rfl⟩
     refine Fz.agg ?_
     refine .cons (.refl _) (.cons (.refl _) (.cons (.refl _) (.cons (.refl _) (.cons (.refl _) (.cons (.refl _) (.cons (.refl _) (.cons (.refl _) (.cons (.refl _) (.cons (.refl _) (.cons (.refl _) (.cons ?_ .nil)))))))))))
     refine .msl 0 _ _ 12 _ (ASt.set_same _ _ _) (by assumption) (by simp) (Nat.le_refl _) (fun y hy => ?_) ?_
     ·obtain ⟨z, _, rfl⟩ := List.mem_map.1 hy
      exact Nd.av_len _
     ·rw [List.drop_zero, List.take_of_length_le]
      rw [lens_flat (s := 12)]
      ·simp
      ·intro y hy
       obtain ⟨z, _, rfl⟩ := List.mem_map.1 hy
       exact Nd.av_len _
end Go.A
namespace Go.A
open Go.Proofs
/-! 11: (tabular/shift.Edit).Tree -/
def c11_3 : ACode := .seq (.ops [ oe 2 (.box (.t 0)), oe 3 (.box (.t 1)), oe 4 (.alloc [(.int .i64 0), (.int .i64 0), (.str []), (.int .i64 0), (.int .i64 0), (.bool false), (.bool false), (.int .i64 0), (.int .i64 0), (.bool false), (.bool false), (.sl .full [])])]) (.seq (.ops [ oq 5 (.ld (some 12) (.t 3)), oq 6 (.mkf (.func 38) [] [(.t 2)]), oe 7 (.call 37 [(.t 5), (.t 6)]), oz (.store 12 (.t 4) (.t 7))]) .ret)
@[go_sem] def c11_3_wp := wp_of c11_3.eq_1
def c11 : AFn := ⟨8, [.c 4 (some 12)], c11_3⟩
theorem c11_ok : compF Tryz.prog Tryz.f11 = some c11 := by kernel_rfl
theorem a11 {args : List AV} {σ : ASt} {R : AV → ASt → Prop} (hl : args.length ≤ 8) (h : c11_3.wp Tryz.prog (RetQ [.c 4 (some 12)] R) (init args) σ) : ACalls Tryz.prog 11 args σ R := acalls_of Tryz.func11 c11_ok hl h
/-! 38: (tabular/shift.Edit).Tree$1 -/
def c38_9 : ACode := .seq (.ops [ oe 2 (.box (.t 0)), oe 3 (.alloc [(.int .i64 0), (.int .i64 0), (.str []), (.int .i64 0), (.int .i64 0), (.bool false), (.bool false), (.int .i64 0), (.int .i64 0), (.bool false), (.bool false), (.sl .full [])])]) (.seq (.seq (.ops [ oq 4 (.fa 0 (.t 2)), oq 5 (.ld none (.t 4)), oq 6 (.bin .eql (.t 5) (.v (.int .i64 5)))]) (.cond (.t 6) (.seq (.ops [ oq 7 (.ld (some 5) (.t 1)), oq 8 (.ld (some 12) (.t 2)), oe 9 (.call 39 [(.t 7), (.t 8)]), oz (.store 12 (.t 3) (.t 9))]) .ret) .skip)) (.seq (.ops [ oq 10 (.ld (some 5) (.t 1)), oq 11 (.ld (some 12) (.t 2)), oe 12 (.call 40 [(.t 10), (.t 11)]), oz (.store 12 (.t 3) (.t 12))]) .ret))
@[go_sem] def c38_9_wp := wp_of c38_9.eq_1
def c38 : AFn := ⟨13, [.c 3 (some 12)], c38_9⟩
theorem c38_ok : compF Tryz.prog Tryz.f38 = some c38 := by kernel_rfl
theorem a38 {args : List AV} {σ : ASt} {R : AV → ASt → Prop} (hl : args.length ≤ 13) (h : c38_9.wp Tryz.prog (RetQ [.c 3 (some 12)] R) (init args) σ) : ACalls Tryz.prog 38 args σ R := acalls_of Tryz.func38 c38_ok hl h
/-! 39: (tabular/shift.Edit).cell -/
def c39_20 : ACode := .seq (.ops [ oe 2 (.box (.t 0)), oe 3 (.box (.t 1)), oe 4 (.alloc [(.int .i64 0), (.int .i64 0), (.str []), (.int .i64 0), (.int .i64 0), (.bool false), (.bool false), (.int .i64 0), (.int .i64 0), (.bool false), (.bool false), (.sl .full [])])]) (.seq (.ops [ oq 8 (.fa 3 (.t 3)), oq 9 (.fa 0 (.t 8)), oq 5 (.mv (.t 9))]) (.seq (.seq (.ops [ oq 10 (.fa 0 (.t 2)), oq 11 (.ld none (.t 10))]) (.cond (.t 11) (.ops [ oq 12 (.fa 3 (.t 3)), oq 13 (.fa 1 (.t 12)), oq 5 (.mv (.t 13))]) .skip)) (.seq (.ops [ oq 15 (.ld (some 5) (.t 2)), oq 16 (.mv (.t 5)), oq 17 (.nc (.t 16)), oq 18 (.ld none (.t 17)), oe 19 (.call 72 [(.t 15), (.t 18)]), oq 14 (.mv (.t 19)), oq 20 (.ext 0 (.t 14)), oq 21 (.ext 1 (.t 14)), oq 6 (.mv (.t 20)), oq 7 (.mv (.t 21))]) (.seq (.seq (.ops [ oq 22 (.mv (.t 7)), oq 23 (.un .not (.t 22))]) (.cond (.t 23) (.seq (.ops [ oe 24 (.call 43 []), oz (.store 12 (.t 4) (.t 24))]) .ret) .skip)) (.seq (.ops [ oq 25 (.mv (.t 5)), oq 26 (.mv (.t 6)), oq 27 (.nc (.t 25)), oz (.store 1 (.t 27) (.t 26))]) (.seq (.ops [ oq 28 (.ld (some 12) (.t 3)), oz (.store 12 (.t 4) (.t 28))]) .ret))))))
@[go_sem] def c39_20_wp := wp_of c39_20.eq_1
def c39 : AFn := ⟨29, [.c 4 (some 12)], c39_20⟩
theorem c39_ok : compF Tryz.prog Tryz.f39 = some c39 := by kernel_rfl
theorem a39 {args : List AV} {σ : ASt} {R : AV → ASt → Prop} (hl : args.length ≤ 29) (h : c39_20.wp Tryz.prog (RetQ [.c 4 (some 12)] R) (init args) σ) : ACalls Tryz.prog 39 args σ R := acalls_of Tryz.func39 c39_ok hl h
/-! 40: (tabular/shift.Edit).area -/
def c40_27 : ACode := .seq (.ops [ oe 2 (.box (.t 0)), oe 3 (.box (.t 1)), oe 4 (.alloc [(.int .i64 0), (.int .i64 0), (.str []), (.int .i64 0), (.int .i64 0), (.bool false), (.bool false), (.int .i64 0), (.int .i64 0), (.bool false), (.bool false), (.sl .full [])])]) (.seq (.ops [ oq 11 (.fa 3 (.t 3)), oq 12 (.fa 0 (.t 11)), oq 13 (.fa 7 (.t 3)), oq 14 (.fa 0 (.t 13)), oq 5 (.mv (.t 12)), oq 6 (.mv (.t 14))]) (.seq (.seq (.ops [ oq 15 (.fa 0 (.t 2)), oq 16 (.ld none (.t 15))]) (.cond (.t 16) (.ops [ oq 17 (.fa 3 (.t 3)), oq 18 (.fa 1 (.t 17)), oq 19 (.fa 7 (.t 3)), oq 20 (.fa 1 (.t 19)), oq 5 (.mv (.t 18)), oq 6 (.mv (.t 20))]) .skip)) (.seq (.ops [ oq 21 (.mv (.t 5)), oq 22 (.nc (.t 21)), oq 23 (.ld none (.t 22)), oq 24 (.mv (.t 6)), oq 25 (.nc (.t 24)), oq 26 (.ld none (.t 25)), oq 27 (.bin .gtr (.t 23) (.t 26)), oq 7 (.mv (.t 27))]) (.seq (.ops [ oq 29 (.ld (some 5) (.t 2)), oq 30 (.mv (.t 5)), oq 31 (.nc (.t 30)), oq 32 (.ld none (.t 31)), oq 33 (.mv (.t 6)), oq 34 (.nc (.t 33)), oq 35 (.ld none (.t 34)), oq 36 (.mnx false (.t 32) (.t 35)), oq 37 (.mv (.t 5)), oq 38 (.nc (.t 37)), oq 39 (.ld none (.t 38)), oq 40 (.mv (.t 6)), oq 41 (.nc (.t 40)), oq 42 (.ld none (.t 41)), oq 43 (.mnx true (.t 39) (.t 42)), oe 44 (.call 73 [(.t 29), (.t 36), (.t 43)]), oq 28 (.mv (.t 44)), oq 45 (.ext 0 (.t 28)), oq 46 (.ext 1 (.t 28)), oq 47 (.ext 2 (.t 28)), oq 8 (.mv (.t 45)), oq 9 (.mv (.t 46)), oq 10 (.mv (.t 47))]) (.seq (.seq (.ops [ oq 48 (.mv (.t 10)), oq 49 (.un .not (.t 48))]) (.cond (.t 49) (.seq (.ops [ oe 50 (.call 43 []), oz (.store 12 (.t 4) (.t 50))]) .ret) .skip)) (.seq (.seq (.ops [ oq 51 (.mv (.t 7))]) (.cond (.t 51) (.ops [ oq 52 (.mv (.t 9)), oq 53 (.mv (.t 8)), oq 8 (.mv (.t 52)), oq 9 (.mv (.t 53))]) .skip)) (.seq (.ops [ oq 54 (.mv (.t 5)), oq 55 (.mv (.t 6)), oq 56 (.mv (.t 8)), oq 57 (.mv (.t 9)), oq 58 (.nc (.t 54)), oz (.store 1 (.t 58) (.t 56)), oq 59 (.nc (.t 55)), oz (.store 1 (.t 59) (.t 57))]) (.seq (.ops [ oq 60 (.ld (some 12) (.t 3)), oz (.store 12 (.t 4) (.t 60))]) .ret))))))))
@[go_sem] def c40_27_wp := wp_of c40_27.eq_1
def c40 : AFn := ⟨61, [.c 4 (some 12)], c40_27⟩
theorem c40_ok : compF Tryz.prog Tryz.f40 = some c40 := by kernel_rfl
theorem a40 {args : List AV} {σ : ASt} {R : AV → ASt → Prop} (hl : args.length ≤ 61) (h : c40_27.wp Tryz.prog (RetQ [.c 4 (some 12)] R) (init args) σ) : ACalls Tryz.prog 40 args σ R := acalls_of Tryz.func40 c40_ok hl h
/-! 73: (tabular/shift.Edit).Span -/
def c73_38 : ACode := .cond (.t 18) (.seq (.ops [ oq 21 (.ld (some 5) (.t 3)), oq 22 (.mv (.t 1)), oe 23 (.call 72 [(.t 21), (.t 22)]), oq 20 (.mv (.t 23)), oq 24 (.ext 0 (.t 20)), oq 25 (.ext 1 (.t 20)), oq 9 (.mv (.t 24)), oq 10 (.mv (.t 25))]) (.seq (.seq (.ops [ oq 26 (.mv (.t 10)), oq 27 (.un .not (.t 26))]) (.cond (.t 27) (.seq (.ops [ oq 6 (.mv (.v (.int .i64 0))), oq 7 (.mv (.v (.int .i64 0))), oq 8 (.mv (.v (.bool false)))]) .ret) .skip)) (.seq (.ops [ oq 29 (.ld (some 5) (.t 3)), oq 30 (.mv (.t 2)), oe 31 (.call 72 [(.t 29), (.t 30)]), oq 28 (.mv (.t 31)), oq 32 (.ext 0 (.t 28)), oq 33 (.ext 1 (.t 28)), oq 11 (.mv (.t 32)), oq 10 (.mv (.t 33))]) (.seq (.seq (.ops [ oq 34 (.mv (.t 10)), oq 35 (.un .not (.t 34))]) (.cond (.t 35) (.ops [ oq 36 (.ld (some 5) (.t 3)), oe 37 (.call 35 [(.t 36)]), oq 38 (.bin .sub (.t 37) (.v (.int .i64 1))), oq 11 (.mv (.t 38))]) .skip)) (.seq (.ops [ oq 39 (.mv (.t 9)), oq 40 (.mv (.t 11)), oq 6 (.mv (.t 39)), oq 7 (.mv (.t 40)), oq 8 (.mv (.v (.bool true)))]) .ret))))) (.seq (.ops [ oq 42 (.bin .eql (.t 17) (.v (.int .i64 2))), oq 41 (.mv (.t 42))]) (.cond (.t 41) (.seq (.seq (.ops [ oq 43 (.mv (.t 1)), oq 44 (.fa 2 (.t 3)), oq 45 (.ld none (.t 44)), oq 46 (.bin .geq (.t 43) (.t 45)), oq 47 (.mv (.t 46)), ⟨some 48, some (47, true), .q (.mv (.t 2)), []⟩, ⟨some 49, some (47, true), .q (.fa 2 (.t 3)), []⟩, ⟨some 50, some (47, true), .q (.ld none (.t 49)), []⟩, ⟨some 51, some (47, true), .q (.fa 3 (.t 3)), []⟩, ⟨some 52, some (47, true), .q (.ld none (.t 51)), []⟩, ⟨some 53, some (47, true), .q (.bin .add (.t 50) (.t 52)), []⟩, ⟨some 54, some (47, true), .q (.bin .lss (.t 48) (.t 53)), []⟩, oq 55 (.pick (.t 47) (.t 54) (.v (.bool false)))]) (.cond (.t 55) (.seq (.ops [ oq 6 (.mv (.v (.int .i64 0))), oq 7 (.mv (.v (.int .i64 0))), oq 8 (.mv (.v (.bool false)))]) .ret) .skip)) (.seq (.seq (.ops [ oq 56 (.mv (.t 1)), oq 57 (.fa 2 (.t 3)), oq 58 (.ld none (.t 57)), oq 59 (.bin .geq (.t 56) (.t 58)), oq 60 (.mv (.t 59)), ⟨some 61, some (60, true), .q (.mv (.t 1)), []⟩, ⟨some 62, some (60, true), .q (.fa 2 (.t 3)), []⟩, ⟨some 63, some (60, true), .q (.ld none (.t 62)), []⟩, ⟨some 64, some (60, true), .q (.fa 3 (.t 3)), []⟩, ⟨some 65, some (60, true), .q (.ld none (.t 64)), []⟩, ⟨some 66, some (60, true), .q (.bin .add (.t 63) (.t 65)), []⟩, ⟨some 67, some (60, true), .q (.bin .lss (.t 61) (.t 66)), []⟩, oq 68 (.pick (.t 60) (.t 67) (.v (.bool false)))]) (.cond (.t 68) (.ops [ oq 69 (.fa 2 (.t 3)), oq 70 (.ld none (.t 69)), oq 71 (.fa 3 (.t 3)), oq 72 (.ld none (.t 71)), oq 73 (.bin .add (.t 70) (.t 72)), oq 1 (.mv (.t 73))]) .skip)) (.seq (.ops [ oq 74 (.mv (.t 2)), oq 75 (.fa 2 (.t 3)), oq 76 (.ld none (.t 75)), oq 77 (.bin .geq (.t 74) (.t 76)), oq 78 (.mv (.t 77)), ⟨some 79, some (78, true), .q (.mv (.t 2)), []⟩, ⟨some 80, some (78, true), .q (.fa 2 (.t 3)), []⟩, ⟨some 81, some (78, true), .q (.ld none (.t 80)), []⟩, ⟨some 82, some (78, true), .q (.fa 3 (.t 3)), []⟩, ⟨some 83, some (78, true), .q (.ld none (.t 82)), []⟩, ⟨some 84, some (78, true), .q (.bin .add (.t 81) (.t 83)), []⟩, ⟨some 85, some (78, true), .q (.bin .lss (.t 79) (.t 84)), []⟩, oq 86 (.pick (.t 78) (.t 85) (.v (.bool false)))]) (.cond (.t 86) (.ops [ oq 87 (.fa 2 (.t 3)), oq 88 (.ld none (.t 87)), oq 89 (.bin .sub (.t 88) (.v (.int .i64 1))), oq 2 (.mv (.t 89))]) .skip)))) .skip))
def c73_49 : ACode := .seq (.ops [ oe 3 (.box (.t 0)), oq 6 (.mv (.v (.int .i64 0))), oq 7 (.mv (.v (.int .i64 0))), oq 8 (.mv (.v (.bool false)))]) (.seq (.seq (.ops [ oq 16 (.fa 1 (.t 3)), oq 17 (.ld none (.t 16))]) (.block 0 (.seq (.ops [ oq 19 (.bin .eql (.t 17) (.v (.int .i64 1))), oq 18 (.mv (.t 19))]) c73_38))) (.seq (.ops [ oq 91 (.ld (some 5) (.t 3)), oq 92 (.mv (.t 1)), oe 93 (.call 72 [(.t 91), (.t 92)]), oq 90 (.mv (.t 93)), oq 94 (.ext 0 (.t 90)), oq 95 (.ext 1 (.t 90)), oq 12 (.mv (.t 94)), oq 13 (.mv (.t 95))]) (.seq (.ops [ oq 97 (.ld (some 5) (.t 3)), oq 98 (.mv (.t 2)), oe 99 (.call 72 [(.t 97), (.t 98)]), oq 96 (.mv (.t 99)), oq 100 (.ext 0 (.t 96)), oq 101 (.ext 1 (.t 96)), oq 14 (.mv (.t 100)), oq 15 (.mv (.t 101))]) (.seq (.ops [ oq 102 (.mv (.t 12)), oq 103 (.mv (.t 14)), oq 104 (.mnx false (.t 102) (.t 103)), oq 105 (.mv (.t 12)), oq 106 (.mv (.t 14)), oq 107 (.mnx true (.t 105) (.t 106)), oq 6 (.mv (.t 104)), oq 7 (.mv (.t 107)), oq 8 (.mv (.v (.bool true)))]) .ret))))
@[go_sem] def c73_38_wp := wp_of c73_38.eq_1
@[go_sem] def c73_49_wp := wp_of c73_49.eq_1
def c73 : AFn := ⟨108, [.t 6, .t 7, .t 8], c73_49⟩
theorem c73_ok : compF Tryz.prog Tryz.f73 = some c73 := by kernel_rfl
theorem a73 {args : List AV} {σ : ASt} {R : AV → ASt → Prop} (hl : args.length ≤ 108) (h : c73_49.wp Tryz.prog (RetQ [.t 6, .t 7, .t 8] R) (init args) σ) : ACalls Tryz.prog 73 args σ R := acalls_of Tryz.func73 c73_ok hl h
end Go.A
namespace Go.A
open Go.Proofs Go.Lib
def Edt.span (e : Edt) (f t : Int) : Int × Int × Bool :=
 if e.kind = 1 then
  if (e.place f).2 = true then ((e.place f).1, if (e.place t).2 = true then (e.place t).1 else e.most - 1, true) else (0, 0, false)
 else if e.kind = 2 then
  if e.at' ≤ f ∧ t < e.at' + e.n then (0, 0, false)
  else
   let f' := if e.at' ≤ f ∧ f < e.at' + e.n then e.at' + e.n else f
   let t' := if e.at' ≤ t ∧ t < e.at' + e.n then e.at' - 1 else t
   (min (e.place f').1 (e.place t').1, max (e.place f').1 (e.place t').1, true)
 else (min (e.place f).1 (e.place t).1, max (e.place f).1 (e.place t).1, true)
theorem shspan_ok (e : Edt) (he : e.fit) (f t : Int) (h0 : 0 ≤ f) (h1 : f ≤ t) (h2 : t ≤ 4000) :
  Pure Tryz.prog 73 [e.av, .int .i64 f, .int .i64 t] (.tuple [.int .i64 (e.span f t).1, .int .i64 (e.span f t).2.1, .bool (e.span f t).2.2]) := by
 intro σ
 have hm := shmost_ok e
 have hr := most_rng e
 have hp : ∀ i, 0 ≤ i → i ≤ 10000 → Pure Tryz.prog 72 [e.av, .int .i64 i] (.tuple [.int .i64 (e.place i).1, .bool (e.place i).2]) := fun i h0 h1 => shplace_ok e he i h0 h1
 obtain ⟨a0, a1, n0, n1, ht⟩ := he
 obtain ⟨q, hq⟩ : ∃ q, e.span f t = q := ⟨_, rfl⟩
 rw [hq]
 unfold Edt.span at hq
 generalize e.most = M at *
 generalize e.place = pl at *
 unfold Edt.av at hm hp ⊢
 by_cases k1 : e.kind = 1
 ·rw [if_pos k1] at hq
  have h3 := hp f (by omega) (by omega)
  have h4 := hp t (by omega) (by omega)
  obtain ⟨⟨i, ok⟩, hi⟩ : ∃ r, pl f = r := ⟨_, rfl⟩
  obtain ⟨⟨j, ok2⟩, hj⟩ : ∃ r, pl t = r := ⟨_, rfl⟩
  rw [hi] at hq h3
  rw [hj] at hq h4
  dsimp only at hq h3 h4
  cases ok with
  | false =>
    rw [if_neg (by simp)] at hq
    subst hq
    refine a73 (by simp) ?_
    simp (disch := first | assumption | omega) only [go_sem]
    refine boxC_by rfl fun b hb => ?_
    simp (disch := first | assumption | omega) only [go_sem, Nat.reduceEqDiff, Nat.reduceLeDiff, ↓reduceIte, k1]
    refine h3.use ?_
    simp (disch := first | assumption | omega) only [go_sem, Nat.reduceEqDiff, ↓reduceIte]
    exact retC_by (Drop.set hb) (.refl _) ⟨rfl, rfl⟩
  | true =>
    rw [if_pos rfl] at hq
    cases ok2 with
    | true =>
      rw [if_pos rfl] at hq
      subst hq
      refine a73 (by simp) ?_
      simp (disch := first | assumption | omega) only [go_sem]
      refine boxC_by rfl fun b hb => ?_
      simp (disch := first | assumption | omega) only [go_sem, Nat.reduceEqDiff, Nat.reduceLeDiff, ↓reduceIte, k1]
      refine h3.use ?_
      simp (disch := first | assumption | omega) only [go_sem, Nat.reduceEqDiff, Nat.reduceLeDiff, ↓reduceIte]
      refine h4.use ?_
      simp (disch := first | assumption | omega) only [go_sem, Nat.reduceEqDiff, ↓reduceIte]
      exact retC_by (Drop.set hb) (.refl _) ⟨rfl, rfl⟩
    | false =>
      rw [if_neg (by simp)] at hq
      subst hq
      refine a73 (by simp) ?_
      simp (disch := first | assumption | omega) only [go_sem]
      refine boxC_by rfl fun b hb => ?_
      simp (disch := first | assumption | omega) only [go_sem, Nat.reduceEqDiff, Nat.reduceLeDiff, ↓reduceIte, k1]
      refine h3.use ?_
      simp (disch := first | assumption | omega) only [go_sem, Nat.reduceEqDiff, Nat.reduceLeDiff, ↓reduceIte]
      refine h4.use ?_
      simp (disch := first | assumption | omega) only [go_sem, Nat.reduceEqDiff, Nat.reduceLeDiff, ↓reduceIte]
      refine hm.use ?_
      simp (disch := first | assumption | omega) only [go_sem, Nat.reduceEqDiff, ↓reduceIte]
      exact retC_by (Drop.set hb) (.refl _) ⟨rfl, rfl⟩
 rw [if_neg k1] at hq
 by_cases k2 : e.kind = 2
 ·rw [if_pos k2] at hq
  by_cases g1 : e.at' ≤ f
  ·by_cases g2 : t < e.at' + e.n
   ·rw [if_pos ⟨g1, g2⟩] at hq
    subst hq
    refine a73 (by simp) ?_
    simp (disch := first | assumption | omega) only [go_sem]
    refine boxC_by rfl fun b hb => ?_
    simp (disch := first | assumption | omega) only [go_sem, Nat.reduceEqDiff, Int.reduceEq, ↓reduceIte, k2, g1, g2]
    exact retC_by (Drop.set hb) (.refl _) ⟨rfl, rfl⟩
   ·rw [if_neg (fun h => g2 h.2)] at hq
    have g3 : e.at' ≤ t := by omega
    rw [if_neg (c := e.at' ≤ t ∧ t < e.at' + e.n) (fun h => g2 h.2)] at hq
    by_cases g4 : f < e.at' + e.n
    ·rw [if_pos ⟨g1, g4⟩] at hq
     have h3 := hp (e.at' + e.n) (by omega) (by omega)
     have h4 := hp t (by omega) (by omega)
     dsimp only at hq
     subst hq
     refine a73 (by simp) ?_
     simp (disch := first | assumption | omega) only [go_sem]
     refine boxC_by rfl fun b hb => ?_
     simp (disch := first | assumption | omega) only [go_sem, Nat.reduceEqDiff, Nat.reduceLeDiff, Int.reduceEq, ↓reduceIte, k2, g1, g2, g3, g4]
     refine h3.use ?_
     simp (disch := first | assumption | omega) only [go_sem, Nat.reduceEqDiff, Nat.reduceLeDiff, ↓reduceIte]
     refine h4.use ?_
     simp (disch := first | assumption | omega) only [go_sem, Nat.reduceEqDiff, ↓reduceIte]
     exact retC_by (Drop.set hb) (.refl _) ⟨rfl, rfl⟩
    ·rw [if_neg (fun h => g4 h.2)] at hq
     have h3 := hp f (by omega) (by omega)
     have h4 := hp t (by omega) (by omega)
     dsimp only at hq
     subst hq
     refine a73 (by simp) ?_
     simp (disch := first | assumption | omega) only [go_sem]
     refine boxC_by rfl fun b hb => ?_
     simp (disch := first | assumption | omega) only [go_sem, Nat.reduceEqDiff, Nat.reduceLeDiff, Int.reduceEq, ↓reduceIte, k2, g1, g2, g3, g4]
     refine h3.use ?_
     simp (disch := first | assumption | omega) only [go_sem, Nat.reduceEqDiff, Nat.reduceLeDiff, ↓reduceIte]
     refine h4.use ?_
     simp (disch := first | assumption | omega) only [go_sem, Nat.reduceEqDiff, ↓reduceIte]
     exact retC_by (Drop.set hb) (.refl _) ⟨rfl, rfl⟩
  ·rw [if_neg (fun h => g1 h.1), if_neg (c := e.at' ≤ f ∧ f < e.at' + e.n) (fun h => g1 h.1)] at hq
   have h3 := hp f (by omega) (by omega)
   by_cases g3 : e.at' ≤ t
   ·by_cases g2 : t < e.at' + e.n
    ·rw [if_pos ⟨g3, g2⟩] at hq
     have h4 := hp (e.at' - 1) (by omega) (by omega)
     dsimp only at hq
     subst hq
     refine a73 (by simp) ?_
     simp (disch := first | assumption | omega) only [go_sem]
     refine boxC_by rfl fun b hb => ?_
     simp (disch := first | assumption | omega) only [go_sem, Nat.reduceEqDiff, Nat.reduceLeDiff, Int.reduceEq, ↓reduceIte, k2, g1, g2, g3]
     refine h3.use ?_
     simp (disch := first | assumption | omega) only [go_sem, Nat.reduceEqDiff, Nat.reduceLeDiff, ↓reduceIte]
     refine h4.use ?_
     simp (disch := first | assumption | omega) only [go_sem, Nat.reduceEqDiff, ↓reduceIte]
     exact retC_by (Drop.set hb) (.refl _) ⟨rfl, rfl⟩
    ·rw [if_neg (fun h => g2 h.2)] at hq
     have h4 := hp t (by omega) (by omega)
     dsimp only at hq
     subst hq
     refine a73 (by simp) ?_
     simp (disch := first | assumption | omega) only [go_sem]
     refine boxC_by rfl fun b hb => ?_
     simp (disch := first | assumption | omega) only [go_sem, Nat.reduceEqDiff, Nat.reduceLeDiff, Int.reduceEq, ↓reduceIte, k2, g1, g2, g3]
     refine h3.use ?_
     simp (disch := first | assumption | omega) only [go_sem, Nat.reduceEqDiff, Nat.reduceLeDiff, ↓reduceIte]
     refine h4.use ?_
     simp (disch := first | assumption | omega) only [go_sem, Nat.reduceEqDiff, ↓reduceIte]
     exact retC_by (Drop.set hb) (.refl _) ⟨rfl, rfl⟩
   ·rw [if_neg (fun h => g3 h.1)] at hq
    have h4 := hp t (by omega) (by omega)
    dsimp only at hq
    subst hq
    refine a73 (by simp) ?_
    simp (disch := first | assumption | omega) only [go_sem]
    refine boxC_by rfl fun b hb => ?_
    simp (disch := first | assumption | omega) only [go_sem, Nat.reduceEqDiff, Nat.reduceLeDiff, Int.reduceEq, ↓reduceIte, k2, g1, g3]
    refine h3.use ?_
    simp (disch := first | assumption | omega) only [go_sem, Nat.reduceEqDiff, Nat.reduceLeDiff, ↓reduceIte]
    refine h4.use ?_
    simp (disch := first | assumption | omega) only [go_sem, Nat.reduceEqDiff, ↓reduceIte]
    exact retC_by (Drop.set hb) (.refl _) ⟨rfl, rfl⟩
 ·rw [if_neg k2] at hq
  have h3 := hp f (by omega) (by omega)
  have h4 := hp t (by omega) (by omega)
  subst hq
  refine a73 (by simp) ?_
  simp (disch := first | assumption | omega) only [go_sem]
  refine boxC_by rfl fun b hb => ?_
  simp (disch := first | assumption | omega) only [go_sem, Nat.reduceEqDiff, Nat.reduceLeDiff, ↓reduceIte, k1, k2]
  refine h3.use ?_
  simp (disch := first | assumption | omega) only [go_sem, Nat.reduceEqDiff, Nat.reduceLeDiff, ↓reduceIte]
  refine h4.use ?_
  simp (disch := first | assumption | omega) only [go_sem, Nat.reduceEqDiff, ↓reduceIte]
  exact retC_by (Drop.set hb) (.refl _) ⟨rfl, rfl⟩
def goneN : Nd := .mk 4 40000 [] .zero .zero []
theorem gone_av : goneN.av = .agg [.int .i64 4, .int .i64 40000, .str [], .int .i64 0, .int .i64 0, .bool false, .bool false, .int .i64 0, .int .i64 0, .bool false, .bool false, .sl .shr []] := by
 unfold goneN
 rw [Nd.av_cs]; rfl
def Edt.of (e : Edt) (a : Ref) : Int := if e.cols = true then a.col else a.row
def Edt.set (e : Edt) (a : Ref) (i : Int) : Ref := if e.cols = true then ⟨a.row, i, a.absRow, a.absCol⟩ else ⟨i, a.col, a.absRow, a.absCol⟩
def Edt.cell (e : Edt) : Nd → Nd
 | .mk op n s a b ks => if (e.place (e.of a)).2 = true then .mk op n s (e.set a (e.place (e.of a)).1) b ks else goneN
def Edt.area (e : Edt) : Nd → Nd
 | .mk op n s a b ks =>
   if (e.span (min (e.of a) (e.of b)) (max (e.of a) (e.of b))).2.2 = true then
    if e.of b < e.of a then .mk op n s (e.set a (e.span (min (e.of a) (e.of b)) (max (e.of a) (e.of b))).2.1) (e.set b (e.span (min (e.of a) (e.of b)) (max (e.of a) (e.of b))).1) ks
    else .mk op n s (e.set a (e.span (min (e.of a) (e.of b)) (max (e.of a) (e.of b))).1) (e.set b (e.span (min (e.of a) (e.of b)) (max (e.of a) (e.of b))).2.1) ks
   else goneN
def Edt.node (e : Edt) (x : Nd) : Nd := if x.op = 5 then e.cell x else e.area x
def Edt.tree (e : Edt) (n : Nd) : Nd := Nd.map e.node n
theorem of_rng {e : Edt} {a : Ref} (h : a.good = true) : 0 ≤ e.of a ∧ e.of a < 3000 := by
 simp only [Ref.good, decide_eq_true_eq] at h
 unfold Edt.of
 split <;> omega
theorem shcell_ok (e : Edt) (he : e.fit) (op n : Int) (s : List UInt8) (a b : Ref) (ks : List Nd) (ha : a.good = true) :
  Pure Tryz.prog 39 [e.av, (Nd.mk op n s a b ks).av] (e.cell (.mk op n s a b ks)).av := by
 intro σ
 have hg : Pure Tryz.prog 43 [] (.agg [.int .i64 4, .int .i64 40000, .str [], .int .i64 0, .int .i64 0, .bool false, .bool false, .int .i64 0, .int .i64 0, .bool false, .bool false, .sl .shr []]) := by
  have := shgone_ok
  rw [Nd.av_cs] at this
  exact this
 have h0 := of_rng (e := e) ha
 have hp := shplace_ok e he (e.of a) (by omega) (by omega)
 obtain ⟨⟨i, ok⟩, hq⟩ : ∃ q, e.place (e.of a) = q := ⟨_, rfl⟩
 rw [Edt.cell, hq]
 rw [hq] at hp
 dsimp only at hp ⊢
 have hav : ∀ r : Ref, (Nd.mk op n s r b ks).av = .agg [.int .i64 op, .int .i64 n, .str s, .int .i64 r.row, .int .i64 r.col, .bool r.absRow, .bool r.absCol, .int .i64 b.row, .int .i64 b.col, .bool b.absRow, .bool b.absCol, .sl .shr (ks.map Nd.av)] := fun r => Nd.av_cs ..
 rw [hav]
 generalize ks.map Nd.av = L at *
 cases hb : e.cols with
 | true =>
   have ho : e.of a = a.col := by unfold Edt.of; rw [if_pos hb]
   have hs : e.set a i = ⟨a.row, i, a.absRow, a.absCol⟩ := by unfold Edt.set; rw [if_pos hb]
   rw [ho] at hp
   rw [hs]
   unfold Edt.av at hp ⊢
   cases ok with
   | true =>
     rw [if_pos rfl, hav]
     refine a39 (by simp) ?_
     simp (disch := first | assumption | omega) only [go_sem]
     refine boxC_by rfl fun c hc => ?_
     simp (disch := first | assumption | omega) only [go_sem, Nat.reduceEqDiff, ↓reduceIte]
     refine boxC_by rfl fun d hd => ?_
     repeat (with_reducible replace hd := set_none hd; obtain ⟨_, _, hd⟩ := hd)
     simp (disch := first | assumption | omega) only [go_sem]
     refine allocC_by fun t ht => ?_
     repeat (with_reducible replace ht := set_none ht; obtain ⟨_, _, ht⟩ := ht)
     have hdt : d ≠ t := by assumption
     have hsw : ∀ (ρ : ASt) (X Y Z : Option Role), ((ρ.set d X).set t Y).set d Z = (ρ.set d Z).set t Y := fun _ _ _ _ => set_mid hdt
     simp (disch := first | assumption | omega) only [go_sem, Nat.reduceEqDiff, Nat.reduceAdd, Nat.reduceLeDiff, ↓reduceIte, hb]
     refine hp.use ?_
     simp (disch := first | assumption | omega) only [go_sem, Nat.reduceEqDiff, Nat.reduceAdd, Nat.reduceLeDiff, ↓reduceIte, Bool.true_and, hsw, ASt.set_set]
     exact retC_by (by repeat' (first | exact Drop.refl _ | with_reducible refine Drop.off ?_ (by assumption))) (.refl _) ⟨rfl, rfl⟩
   | false =>
     rw [if_neg (by simp), gone_av]
     refine a39 (by simp) ?_
     simp (disch := first | assumption | omega) only [go_sem]
     refine boxC_by rfl fun c hc => ?_
     simp (disch := first | assumption | omega) only [go_sem, Nat.reduceEqDiff, ↓reduceIte]
     refine boxC_by rfl fun d hd => ?_
     repeat (with_reducible replace hd := set_none hd; obtain ⟨_, _, hd⟩ := hd)
     simp (disch := first | assumption | omega) only [go_sem]
     refine allocC_by fun t ht => ?_
     repeat (with_reducible replace ht := set_none ht; obtain ⟨_, _, ht⟩ := ht)
     simp (disch := first | assumption | omega) only [go_sem, Nat.reduceEqDiff, Nat.reduceAdd, Nat.reduceLeDiff, ↓reduceIte, hb]
     refine hp.use ?_
     simp (disch := first | assumption | omega) only [go_sem, Nat.reduceEqDiff, ↓reduceIte]
     refine hg.use ?_
     simp (disch := first | assumption | omega) only [go_sem, Nat.reduceEqDiff, Nat.reduceAdd, Nat.reduceLeDiff, ↓reduceIte, Bool.true_and, ASt.set_set]
     exact retC_by (by repeat' (first | exact Drop.refl _ | with_reducible refine Drop.off ?_ (by assumption))) (.refl _) ⟨rfl, rfl⟩
 | false =>
   have ho : e.of a = a.row := by unfold Edt.of; rw [if_neg (by simp [hb])]
   have hs : e.set a i = ⟨i, a.col, a.absRow, a.absCol⟩ := by unfold Edt.set; rw [if_neg (by simp [hb])]
   rw [ho] at hp
   rw [hs]
   unfold Edt.av at hp ⊢
   cases ok with
   | true =>
     rw [if_pos rfl, hav]
     refine a39 (by simp) ?_
     simp (disch := first | assumption | omega) only [go_sem]
     refine boxC_by rfl fun c hc => ?_
     simp (disch := first | assumption | omega) only [go_sem, Nat.reduceEqDiff, ↓reduceIte]
     refine boxC_by rfl fun d hd => ?_
     repeat (with_reducible replace hd := set_none hd; obtain ⟨_, _, hd⟩ := hd)
     simp (disch := first | assumption | omega) only [go_sem]
     refine allocC_by fun t ht => ?_
     repeat (with_reducible replace ht := set_none ht; obtain ⟨_, _, ht⟩ := ht)
     have hdt : d ≠ t := by assumption
     have hsw : ∀ (ρ : ASt) (X Y Z : Option Role), ((ρ.set d X).set t Y).set d Z = (ρ.set d Z).set t Y := fun _ _ _ _ => set_mid hdt
     simp (disch := first | assumption | omega) only [go_sem, Nat.reduceEqDiff, Nat.reduceLeDiff, ↓reduceIte, hb]
     refine hp.use ?_
     simp (disch := first | assumption | omega) only [go_sem, Nat.reduceEqDiff, Nat.reduceAdd, Nat.reduceLeDiff, ↓reduceIte, Bool.true_and, hsw, ASt.set_set]
     exact retC_by (by repeat' (first | exact Drop.refl _ | with_reducible refine Drop.off ?_ (by assumption))) (.refl _) ⟨rfl, rfl⟩
   | false =>
     rw [if_neg (by simp), gone_av]
     refine a39 (by simp) ?_
     simp (disch := first | assumption | omega) only [go_sem]
     refine boxC_by rfl fun c hc => ?_
     simp (disch := first | assumption | omega) only [go_sem, Nat.reduceEqDiff, ↓reduceIte]
     refine boxC_by rfl fun d hd => ?_
     repeat (with_reducible replace hd := set_none hd; obtain ⟨_, _, hd⟩ := hd)
     simp (disch := first | assumption | omega) only [go_sem]
     refine allocC_by fun t ht => ?_
     repeat (with_reducible replace ht := set_none ht; obtain ⟨_, _, ht⟩ := ht)
     simp (disch := first | assumption | omega) only [go_sem, Nat.reduceEqDiff, Nat.reduceLeDiff, ↓reduceIte, hb]
     refine hp.use ?_
     simp (disch := first | assumption | omega) only [go_sem, Nat.reduceEqDiff, ↓reduceIte]
     refine hg.use ?_
     simp (disch := first | assumption | omega) only [go_sem, Nat.reduceEqDiff, Nat.reduceAdd, Nat.reduceLeDiff, ↓reduceIte, Bool.true_and, ASt.set_set]
     exact retC_by (by repeat' (first | exact Drop.refl _ | with_reducible refine Drop.off ?_ (by assumption))) (.refl _) ⟨rfl, rfl⟩
theorem sharea_ok (e : Edt) (he : e.fit) (op n : Int) (s : List UInt8) (a b : Ref) (ks : List Nd) (ha : a.good = true) (hb' : b.good = true) :
  Pure Tryz.prog 40 [e.av, (Nd.mk op n s a b ks).av] (e.area (.mk op n s a b ks)).av := by
 intro σ
 have hg : Pure Tryz.prog 43 [] (.agg [.int .i64 4, .int .i64 40000, .str [], .int .i64 0, .int .i64 0, .bool false, .bool false, .int .i64 0, .int .i64 0, .bool false, .bool false, .sl .shr []]) := by
  have := shgone_ok
  rw [Nd.av_cs] at this
  exact this
 have h0 := of_rng (e := e) ha
 have h1 := of_rng (e := e) hb'
 have hp := shspan_ok e he (min (e.of a) (e.of b)) (max (e.of a) (e.of b)) (by omega) (by omega) (by omega)
 obtain ⟨⟨i, j, ok⟩, hq⟩ : ∃ q, e.span (min (e.of a) (e.of b)) (max (e.of a) (e.of b)) = q := ⟨_, rfl⟩
 rw [Edt.area, hq]
 rw [hq] at hp
 dsimp only at hp ⊢
 have hav : ∀ r u : Ref, (Nd.mk op n s r u ks).av = .agg [.int .i64 op, .int .i64 n, .str s, .int .i64 r.row, .int .i64 r.col, .bool r.absRow, .bool r.absCol, .int .i64 u.row, .int .i64 u.col, .bool u.absRow, .bool u.absCol, .sl .shr (ks.map Nd.av)] := fun r u => Nd.av_cs ..
 cases hb : e.cols with
 | true =>
   have ho : ∀ r : Ref, e.of r = r.col := fun r => by unfold Edt.of; rw [if_pos hb]
   have hs : ∀ (r : Ref) (k : Int), e.set r k = ⟨r.row, k, r.absRow, r.absCol⟩ := fun r k => by unfold Edt.set; rw [if_pos hb]
   rw [ho, ho] at hp ⊢
   unfold Edt.av at hp ⊢
   cases ok with
   | true =>
     rw [if_pos rfl]
     by_cases hlt : b.col < a.col
     ·rw [if_pos hlt, hs, hs, hav, hav]
      generalize ks.map Nd.av = L at *
      refine a40 (by simp) ?_
      simp (disch := first | assumption | omega) only [go_sem]
      refine boxC_by rfl fun c hc => ?_
      simp (disch := first | assumption | omega) only [go_sem, Nat.reduceEqDiff, ↓reduceIte]
      refine boxC_by rfl fun d hd => ?_
      repeat (with_reducible replace hd := set_none hd; obtain ⟨_, _, hd⟩ := hd)
      simp (disch := first | assumption | omega) only [go_sem]
      refine allocC_by fun t ht => ?_
      repeat (with_reducible replace ht := set_none ht; obtain ⟨_, _, ht⟩ := ht)
      have hdt : d ≠ t := by assumption
      have hsw : ∀ (ρ : ASt) (X Y Z : Option Role), ((ρ.set d X).set t Y).set d Z = (ρ.set d Z).set t Y := fun _ _ _ _ => set_mid hdt
      simp (disch := first | assumption | omega) only [go_sem, Nat.reduceEqDiff, Nat.reduceAdd, Nat.reduceLeDiff, ↓reduceIte, hb, hlt]
      refine hp.use ?_
      simp (disch := first | assumption | omega) only [go_sem, Nat.reduceEqDiff, Nat.reduceAdd, Nat.reduceLeDiff, ↓reduceIte, Bool.true_and, hsw, ASt.set_set]
      exact retC_by (by repeat' (first | exact Drop.refl _ | with_reducible refine Drop.off ?_ (by assumption))) (.refl _) ⟨rfl, rfl⟩
     ·rw [if_neg hlt, hs, hs, hav, hav]
      generalize ks.map Nd.av = L at *
      refine a40 (by simp) ?_
      simp (disch := first | assumption | omega) only [go_sem]
      refine boxC_by rfl fun c hc => ?_
      simp (disch := first | assumption | omega) only [go_sem, Nat.reduceEqDiff, ↓reduceIte]
      refine boxC_by rfl fun d hd => ?_
      repeat (with_reducible replace hd := set_none hd; obtain ⟨_, _, hd⟩ := hd)
      simp (disch := first | assumption | omega) only [go_sem]
      refine allocC_by fun t ht => ?_
      repeat (with_reducible replace ht := set_none ht; obtain ⟨_, _, ht⟩ := ht)
      have hdt : d ≠ t := by assumption
      have hsw : ∀ (ρ : ASt) (X Y Z : Option Role), ((ρ.set d X).set t Y).set d Z = (ρ.set d Z).set t Y := fun _ _ _ _ => set_mid hdt
      simp (disch := first | assumption | omega) only [go_sem, Nat.reduceEqDiff, Nat.reduceAdd, Nat.reduceLeDiff, ↓reduceIte, hb, hlt]
      refine hp.use ?_
      simp (disch := first | assumption | omega) only [go_sem, Nat.reduceEqDiff, Nat.reduceAdd, Nat.reduceLeDiff, ↓reduceIte, Bool.true_and, hsw, ASt.set_set]
      exact retC_by (by repeat' (first | exact Drop.refl _ | with_reducible refine Drop.off ?_ (by assumption))) (.refl _) ⟨rfl, rfl⟩
   | false =>
     rw [if_neg (by simp), hav, gone_av]
     generalize ks.map Nd.av = L at *
     refine a40 (by simp) ?_
     simp (disch := first | assumption | omega) only [go_sem]
     refine boxC_by rfl fun c hc => ?_
     simp (disch := first | assumption | omega) only [go_sem, Nat.reduceEqDiff, ↓reduceIte]
     refine boxC_by rfl fun d hd => ?_
     repeat (with_reducible replace hd := set_none hd; obtain ⟨_, _, hd⟩ := hd)
     simp (disch := first | assumption | omega) only [go_sem]
     refine allocC_by fun t ht => ?_
     repeat (with_reducible replace ht := set_none ht; obtain ⟨_, _, ht⟩ := ht)
     simp (disch := first | assumption | omega) only [go_sem, Nat.reduceEqDiff, Nat.reduceAdd, Nat.reduceLeDiff, ↓reduceIte, hb]
     refine hp.use ?_
     simp (disch := first | assumption | omega) only [go_sem, Nat.reduceEqDiff, ↓reduceIte]
     refine hg.use ?_
     simp (disch := first | assumption | omega) only [go_sem, Nat.reduceEqDiff, Nat.reduceAdd, Nat.reduceLeDiff, ↓reduceIte, Bool.true_and, ASt.set_set]
     exact retC_by (by repeat' (first | exact Drop.refl _ | with_reducible refine Drop.off ?_ (by assumption))) (.refl _) ⟨rfl, rfl⟩
 | false =>
   have ho : ∀ r : Ref, e.of r = r.row := fun r => by unfold Edt.of; rw [if_neg (by simp [hb])]
   have hs : ∀ (r : Ref) (k : Int), e.set r k = ⟨k, r.col, r.absRow, r.absCol⟩ := fun r k => by unfold Edt.set; rw [if_neg (by simp [hb])]
   rw [ho, ho] at hp ⊢
   unfold Edt.av at hp ⊢
   cases ok with
   | true =>
     rw [if_pos rfl]
     by_cases hlt : b.row < a.row
     ·rw [if_pos hlt, hs, hs, hav, hav]
      generalize ks.map Nd.av = L at *
      refine a40 (by simp) ?_
      simp (disch := first | assumption | omega) only [go_sem]
      refine boxC_by rfl fun c hc => ?_
      simp (disch := first | assumption | omega) only [go_sem, Nat.reduceEqDiff, ↓reduceIte]
      refine boxC_by rfl fun d hd => ?_
      repeat (with_reducible replace hd := set_none hd; obtain ⟨_, _, hd⟩ := hd)
      simp (disch := first | assumption | omega) only [go_sem]
      refine allocC_by fun t ht => ?_
      repeat (with_reducible replace ht := set_none ht; obtain ⟨_, _, ht⟩ := ht)
      have hdt : d ≠ t := by assumption
      have hsw : ∀ (ρ : ASt) (X Y Z : Option Role), ((ρ.set d X).set t Y).set d Z = (ρ.set d Z).set t Y := fun _ _ _ _ => set_mid hdt
      simp (disch := first | assumption | omega) only [go_sem, Nat.reduceEqDiff, Nat.reduceLeDiff, ↓reduceIte, hb, hlt]
      refine hp.use ?_
      simp (disch := first | assumption | omega) only [go_sem, Nat.reduceEqDiff, Nat.reduceAdd, Nat.reduceLeDiff, ↓reduceIte, Bool.true_and, hsw, ASt.set_set]
      exact retC_by (by repeat' (first | exact Drop.refl _ | with_reducible refine Drop.off ?_ (by assumption))) (.refl _) ⟨rfl, rfl⟩
     ·rw [if_neg hlt, hs, hs, hav, hav]
      generalize ks.map Nd.av = L at *
      refine a40 (by simp) ?_
      simp (disch := first | assumption | omega) only [go_sem]
      refine boxC_by rfl fun c hc => ?_
      simp (disch := first | assumption | omega) only [go_sem, Nat.reduceEqDiff, ↓reduceIte]
      refine boxC_by rfl fun d hd => ?_
      repeat (with_reducible replace hd := set_none hd; obtain ⟨_, _, hd⟩ := hd)
      simp (disch := first | assumption | omega) only [go_sem]
      refine allocC_by fun t ht => ?_
      repeat (with_reducible replace ht := set_none ht; obtain ⟨_, _, ht⟩ := ht)
      have hdt : d ≠ t := by assumption
      have hsw : ∀ (ρ : ASt) (X Y Z : Option Role), ((ρ.set d X).set t Y).set d Z = (ρ.set d Z).set t Y := fun _ _ _ _ => set_mid hdt
      simp (disch := first | assumption | omega) only [go_sem, Nat.reduceEqDiff, Nat.reduceLeDiff, ↓reduceIte, hb, hlt]
      refine hp.use ?_
      simp (disch := first | assumption | omega) only [go_sem, Nat.reduceEqDiff, Nat.reduceAdd, Nat.reduceLeDiff, ↓reduceIte, Bool.true_and, hsw, ASt.set_set]
      exact retC_by (by repeat' (first | exact Drop.refl _ | with_reducible refine Drop.off ?_ (by assumption))) (.refl _) ⟨rfl, rfl⟩
   | false =>
     rw [if_neg (by simp), hav, gone_av]
     generalize ks.map Nd.av = L at *
     refine a40 (by simp) ?_
     simp (disch := first | assumption | omega) only [go_sem]
     refine boxC_by rfl fun c hc => ?_
     simp (disch := first | assumption | omega) only [go_sem, Nat.reduceEqDiff, ↓reduceIte]
     refine boxC_by rfl fun d hd => ?_
     repeat (with_reducible replace hd := set_none hd; obtain ⟨_, _, hd⟩ := hd)
     simp (disch := first | assumption | omega) only [go_sem]
     refine allocC_by fun t ht => ?_
     repeat (with_reducible replace ht := set_none ht; obtain ⟨_, _, ht⟩ := ht)
     simp (disch := first | assumption | omega) only [go_sem, Nat.reduceEqDiff, Nat.reduceLeDiff, ↓reduceIte, hb]
     refine hp.use ?_
     simp (disch := first | assumption | omega) only [go_sem, Nat.reduceEqDiff, ↓reduceIte]
     refine hg.use ?_
     simp (disch := first | assumption | omega) only [go_sem, Nat.reduceEqDiff, Nat.reduceAdd, Nat.reduceLeDiff, ↓reduceIte, Bool.true_and, ASt.set_set]
     exact retC_by (by repeat' (first | exact Drop.refl _ | with_reducible refine Drop.off ?_ (by assumption))) (.refl _) ⟨rfl, rfl⟩
theorem ok_kids : ∀ (op m : Int) (s : List UInt8) (a b : Ref) (ks : List Nd), (Nd.mk op m s a b ks).ok → ∀ x ∈ ks, x.ok := fun op m s a b ks h => by
 rw [Nd.ok] at h
 exact Nd.oks_mem.1 h.2
theorem ok_refs {op m : Int} {s : List UInt8} {a b : Ref} {ks : List Nd} (h : (Nd.mk op m s a b ks).ok) : (op = 5 ∨ op = 6 → a.good = true) ∧ (op = 6 → b.good = true) := by
 rw [Nd.ok] at h
 exact ⟨h.1.2.2.2.2.2.1, h.1.2.2.2.2.2.2.1⟩
def EdtAt (e : Edt) (c : Nat) (σ : ASt) : Prop := σ c = some (.obj e.cs)
theorem shTree1_ok (e : Edt) (he : e.fit) (c : Nat) (x : Nd) (hx : x.ok) (ho : x.op = 5 ∨ x.op = 6) (σ : ASt) (hσ : EdtAt e c σ) :
  ACalls Tryz.prog 38 [x.av, .ptr c 0] σ fun v σ' => v = (e.node x).av ∧ σ' = σ := by
 obtain ⟨op, n, s, a, b, ks⟩ := x
 have hr := ok_refs hx
 unfold EdtAt at hσ
 change op = 5 ∨ op = 6 at ho
 have hc1 : op = 5 → Pure Tryz.prog 39 [e.av, (Nd.mk op n s a b ks).av] (e.cell (.mk op n s a b ks)).av := fun h => shcell_ok e he op n s a b ks (hr.1 ho)
 have hc2 : op ≠ 5 → Pure Tryz.prog 40 [e.av, (Nd.mk op n s a b ks).av] (e.area (.mk op n s a b ks)).av := fun h => sharea_ok e he op n s a b ks (hr.1 ho) (hr.2 (by omega))
 have hnode : e.node (.mk op n s a b ks) = if op = 5 then e.cell (.mk op n s a b ks) else e.area (.mk op n s a b ks) := rfl
 rw [hnode]
 have hav : (Nd.mk op n s a b ks).av = .agg [.int .i64 op, .int .i64 n, .str s, .int .i64 a.row, .int .i64 a.col, .bool a.absRow, .bool a.absCol, .int .i64 b.row, .int .i64 b.col, .bool b.absRow, .bool b.absCol, .sl .shr (ks.map Nd.av)] := Nd.av_cs ..
 rw [hav] at hc1 hc2 ⊢
 unfold Edt.av at hc1 hc2
 generalize ks.map Nd.av = L at *
 by_cases h5 : op = 5
 ·have h := hc1 h5
  rw [if_pos h5]
  subst h5
  obtain ⟨⟨wo, wm, ws, wa, wb, wk⟩, hw⟩ : ∃ w, e.cell (.mk 5 n s a b ks) = w := ⟨_, rfl⟩
  rw [hw, Nd.av_cs] at h
  rw [hw, Nd.av_cs]
  unfold Nd.cs at h ⊢
  generalize wk.map Nd.av = WL at *
  refine a38 (by simp) ?_
  simp (disch := first | assumption | omega) only [go_sem]
  refine boxC_by rfl fun d hd => ?_
  have hcd : c ≠ d := by rintro rfl; rw [hd] at hσ; cases hσ
  simp (disch := first | assumption | omega) only [go_sem]
  refine allocC_by fun t ht => ?_
  have hct : c ≠ t := by rintro rfl; rw [ASt.set_ne hcd, hσ] at ht; cases ht
  repeat (with_reducible replace ht := set_none ht; obtain ⟨_, _, ht⟩ := ht)
  simp (disch := first | assumption | omega) only [go_sem, Nat.reduceEqDiff, Nat.reduceAdd, Nat.reduceLeDiff, ↓reduceIte, hσ]
  refine h.use ?_
  simp (disch := first | assumption | omega) only [go_sem, Nat.reduceEqDiff, Nat.reduceAdd, Nat.reduceLeDiff, ↓reduceIte, Bool.true_and, ASt.set_set]
  exact retC_by (by repeat' (first | exact Drop.refl _ | with_reducible refine Drop.off ?_ (by assumption))) (.refl _) ⟨rfl, rfl⟩
 ·have h := hc2 h5
  rw [if_neg h5]
  obtain ⟨⟨wo, wm, ws, wa, wb, wk⟩, hw⟩ : ∃ w, e.area (.mk op n s a b ks) = w := ⟨_, rfl⟩
  rw [hw, Nd.av_cs] at h
  rw [hw, Nd.av_cs]
  unfold Nd.cs at h ⊢
  generalize wk.map Nd.av = WL at *
  refine a38 (by simp) ?_
  simp (disch := first | assumption | omega) only [go_sem]
  refine boxC_by rfl fun d hd => ?_
  have hcd : c ≠ d := by rintro rfl; rw [hd] at hσ; cases hσ
  simp (disch := first | assumption | omega) only [go_sem]
  refine allocC_by fun t ht => ?_
  have hct : c ≠ t := by rintro rfl; rw [ASt.set_ne hcd, hσ] at ht; cases ht
  repeat (with_reducible replace ht := set_none ht; obtain ⟨_, _, ht⟩ := ht)
  simp (disch := first | assumption | omega) only [go_sem, Nat.reduceEqDiff, Nat.reduceAdd, Nat.reduceLeDiff, ↓reduceIte, h5, hσ]
  refine h.use ?_
  simp (disch := first | assumption | omega) only [go_sem, Nat.reduceEqDiff, Nat.reduceAdd, Nat.reduceLeDiff, ↓reduceIte, Bool.true_and, ASt.set_set]
  exact retC_by (by repeat' (first | exact Drop.refl _ | with_reducible refine Drop.off ?_ (by assumption))) (.refl _) ⟨rfl, rfl⟩
theorem tree_map (e : Edt) (he : e.fit) (c : Nat) : MapG Nd.ok (.func (.func 38) [] [.ptr c 0]) e.node (EdtAt e c) := by
 refine ⟨38, [.ptr c 0], rfl, by kernel_rfl, fun σ b r hσ hb => ?_, fun x σ hσ hx ho => shTree1_ok e he c x hx ho σ hσ⟩
 unfold EdtAt at *
 rw [ASt.set_ne]
 ·exact hσ
 ·rintro rfl; rw [hb] at hσ; cases hσ
theorem shtree_ok (e : Edt) (he : e.fit) (n : Nd) (hn : n.ok) (hs : n.size ≤ 1000000000) : Pure Tryz.prog 11 [e.av, n.av] (e.tree n).av := by
 intro σ
 have hM := fun c => mapg_le _ e.node (EdtAt e c) Nd.ok ok_kids (tree_map e he c) n.size n (Nat.le_refl _) hs hn
 unfold Edt.tree
 obtain ⟨⟨wo, wm, ws, wa, wb, wk⟩, hw⟩ : ∃ w, Nd.map e.node n = w := ⟨_, rfl⟩
 rw [hw, Nd.av_cs]
 simp only [hw, Nd.av_cs] at hM
 obtain ⟨op, m, s, a, b, ks⟩ := n
 have hav : (Nd.mk op m s a b ks).av = .agg [.int .i64 op, .int .i64 m, .str s, .int .i64 a.row, .int .i64 a.col, .bool a.absRow, .bool a.absCol, .int .i64 b.row, .int .i64 b.col, .bool b.absRow, .bool b.absCol, .sl .shr (ks.map Nd.av)] := Nd.av_cs ..
 simp only [hav] at hM
 rw [hav]
 unfold Nd.cs at hM ⊢
 unfold Edt.av
 generalize ks.map Nd.av = L at *
 generalize wk.map Nd.av = WL at *
 refine a11 (by simp) ?_
 simp (disch := first | assumption | omega) only [go_sem]
 refine boxC_by rfl fun c hc => ?_
 simp (disch := first | assumption | omega) only [go_sem, Nat.reduceEqDiff, ↓reduceIte]
 refine boxC_by rfl fun d hd => ?_
 have hcd : c ≠ d := by rintro rfl; rw [ASt.set_same] at hd; cases hd
 have hdc := hcd.symm
 have hd0 := hd
 rw [ASt.set_ne hdc] at hd0
 simp (disch := first | assumption | omega) only [go_sem]
 refine allocC_by fun t ht => ?_
 have hct : c ≠ t := by rintro rfl; rw [ASt.set_ne hcd, ASt.set_same] at ht; cases ht
 repeat (with_reducible replace ht := set_none ht; obtain ⟨_, _, ht⟩ := ht)
 simp (disch := first | assumption | omega) only [go_sem, Nat.reduceEqDiff, Nat.reduceAdd, Nat.reduceLeDiff, ↓reduceIte]
 refine (hM c _ ?_).mono ?_
 ·unfold EdtAt
  rw [ASt.set_ne hct, ASt.set_ne hcd, ASt.set_same]
 rintro v σ' ⟨rfl, rfl⟩
 simp (disch := first | assumption | omega) only [go_sem, Nat.reduceEqDiff, Nat.reduceAdd, Nat.reduceLeDiff, ↓reduceIte, Bool.true_and, ASt.set_set]
 exact retC_by (by repeat' (first | exact Drop.refl _ | with_reducible refine Drop.off ?_ (by assumption))) (.refl _) ⟨rfl, rfl⟩
end Go.A
namespace Go.A
open Go.Proofs
/-! 15: tabular/shift.Copy -/
/-! 41: tabular/shift.Copy$1 -/
end Go.A
namespace Go.A
open Go.Proofs
/-! 12: tabular/tabularlaw14.awake -/
end Go.A
namespace Go.A
open Go.Proofs Go.Lib
theorem LV.set {σ : ASt} {b : Nat} {r : Option Role} (h : LV σ) (hb : σ b = none) : LV (σ.set b r) := by
 unfold LV at h ⊢
 rw [ASt.set_ne]
 ·exact h
 ·intro e; rw [e, hb] at h; cases h
end Go.A
namespace Go.A
open Go.Proofs Go.Lib
mutual
def Nd.allR (Q : Nd → Prop) : Nd → Prop
 | .mk op n s a b ks => if op = 5 ∨ op = 6 then Q (.mk op n s a b ks) else Nd.allRs Q ks
def Nd.allRs (Q : Nd → Prop) : List Nd → Prop
 | [] => True
 | x :: xs => Nd.allR Q x ∧ Nd.allRs Q xs
end
mutual
theorem Nd.allR_mono {Q Q' : Nd → Prop} (h : ∀ x, (x.op = 5 ∨ x.op = 6) → Q x → Q' x) : ∀ {n : Nd}, Nd.allR Q n → Nd.allR Q' n
 | .mk op n s a b ks, k => by
   rw [Nd.allR] at k ⊢
   split
   ·rename_i ho
    rw [if_pos ho] at k
    exact h _ ho k
   ·rename_i ho
    rw [if_neg ho] at k
    exact Nd.allRs_mono h k
theorem Nd.allRs_mono {Q Q' : Nd → Prop} (h : ∀ x, (x.op = 5 ∨ x.op = 6) → Q x → Q' x) : ∀ {l : List Nd}, Nd.allRs Q l → Nd.allRs Q' l
 | [], _ => by rw [Nd.allRs]; trivial
 | x :: xs, k => by
   rw [Nd.allRs] at k ⊢
   exact ⟨Nd.allR_mono h k.1, Nd.allRs_mono h k.2⟩
end
theorem gd_kids {op n : Int} {s : List UInt8} {a b : Ref} {ks : List Nd} (h : (Nd.mk op n s a b ks).gd) : ∀ x ∈ ks, x.gd := by
 obtain ⟨h1, h2⟩ := h
 rw [Nd.ok] at h1
 rw [Nd.nk] at h2
 exact fun x hx => ⟨Nd.oks_mem.1 h1.2 x hx, nks_mem.1 h2.2 x hx⟩
mutual
theorem gd_refs : ∀ {n : Nd}, n.gd → Nd.allR Nd.gd n
 | .mk op n s a b ks, h => by
   rw [Nd.allR]
   split
   ·exact h
   ·exact gds_refs (gd_kids h)
theorem gds_refs : ∀ {l : List Nd}, (∀ x ∈ l, x.gd) → Nd.allRs Nd.gd l
 | [], _ => by rw [Nd.allRs]; trivial
 | x :: xs, h => by
   rw [Nd.allRs]
   exact ⟨gd_refs (h x List.mem_cons_self), gds_refs fun y hy => h y (List.mem_cons_of_mem _ hy)⟩
end
theorem maps_len (f : Nd → Nd) (l : List Nd) : (Nd.maps f l).length = l.length := by rw [Nd.maps_map, List.length_map]
mutual
theorem map_gd {f : Nd → Nd} : ∀ {n : Nd}, n.gd → Nd.allR (fun x => (f x).gd) n → (Nd.map f n).gd
 | .mk op n s a b ks, h, k => by
   rw [Nd.allR] at k
   rw [Nd.map]
   split
   ·rename_i ho
    rw [if_pos ho] at k
    exact k
   ·rename_i ho
    rw [if_neg ho] at k
    have hk := h.1
    rw [Nd.ok] at hk
    exact gd_mk (by rw [maps_len]; exact hk.1) (fun h => absurd h ho) (maps_gd (gd_kids h) k)
theorem maps_gd {f : Nd → Nd} : ∀ {l : List Nd}, (∀ x ∈ l, x.gd) → Nd.allRs (fun x => (f x).gd) l → ∀ x ∈ Nd.maps f l, x.gd
 | [], _, _ => by rw [Nd.maps]; exact no_kids (x := missN)
 | x :: xs, h, k => by
   rw [Nd.allRs] at k
   rw [Nd.maps]
   intro y hy
   rcases List.mem_cons.1 hy with rfl | hy
   ·exact map_gd (h x List.mem_cons_self) k.1
   ·exact maps_gd (fun z hz => h z (List.mem_cons_of_mem _ hz)) k.2 y hy
end
end Go.A
namespace Go.A
open Go.Proofs Go.Lib
structure Edt.six (e : Edt) : Prop where
 a0 : 0 ≤ e.at'
 n1 : 1 ≤ e.n
 k : (e.kind = 1 ∧ e.at' ≤ 600) ∨ (e.kind = 2 ∧ e.at' + e.n ≤ 600) ∨ (e.kind = 3 ∧ e.at' + e.n ≤ 600 ∧ 0 ≤ e.dst ∧ e.dst + e.n ≤ 600)
theorem good_six {e : Edt} (h : e.good 600 = true) : e.six := by
 unfold Edt.good at h
 split at h
 ·cases h
 rename_i h0
 split at h
 ·rename_i k
  have := of_decide_eq_true h
  exact ⟨by omega, by omega, .inl ⟨k, by omega⟩⟩
 split at h
 ·rename_i k
  have := of_decide_eq_true h
  exact ⟨by omega, by omega, .inr (.inl ⟨k, by omega⟩)⟩
 split at h
 ·rename_i k
  have := of_decide_eq_true h
  exact ⟨by omega, by omega, .inr (.inr ⟨k, by omega, by omega, by omega⟩)⟩
 ·cases h
theorem ahead_eq (p d i : Int) : (p ≤ i ∧ ahead p d i = i + d) ∨ (¬ p ≤ i ∧ ahead p d i = i) := by
 unfold ahead
 split
 ·exact .inl ⟨by assumption, rfl⟩
 ·exact .inr ⟨by assumption, rfl⟩
theorem place_ins {e : Edt} (k : e.kind = 1) (i : Int) : e.place i = (ahead e.at' e.n i, decide (ahead e.at' e.n i < e.most)) := by unfold Edt.place; rw [if_pos k]
theorem place_del {e : Edt} (k : e.kind = 2) {i : Int} (h : ¬ (e.at' ≤ i ∧ i < e.at' + e.n)) : e.place i = (ahead e.at' (-e.n) i, true) := by
 unfold Edt.place; rw [if_neg (by omega), if_neg h, if_pos k]
theorem place_gone {e : Edt} (k : e.kind = 2) {i : Int} (h : e.at' ≤ i ∧ i < e.at' + e.n) : e.place i = (0, false) := by
 unfold Edt.place; rw [if_neg (by omega), if_pos h, if_pos k]
theorem place_mov {e : Edt} (k : e.kind = 3) (i : Int) : (e.at' ≤ i ∧ i < e.at' + e.n ∧ e.place i = (i - e.at' + e.dst, true)) ∨ (¬ (e.at' ≤ i ∧ i < e.at' + e.n) ∧ e.place i = (ahead e.dst e.n (ahead e.at' (-e.n) i), true)) := by
 by_cases h : e.at' ≤ i ∧ i < e.at' + e.n
 ·refine .inl ⟨h.1, h.2, ?_⟩
  unfold Edt.place; rw [if_neg (by omega), if_pos h, if_neg (by omega)]
 ·refine .inr ⟨h, ?_⟩
  unfold Edt.place; rw [if_neg (by omega), if_neg h, if_neg (by omega)]
theorem set_good {e : Edt} {a : Ref} {i : Int} (ha : a.good = true) (h0 : 0 ≤ i) (h1 : i < e.most) : (e.set a i).good = true := by
 simp only [Ref.good, decide_eq_true_eq] at ha ⊢
 unfold Edt.set
 unfold Edt.most at h1
 split
 ·rename_i hc; rw [if_pos hc] at h1; dsimp only; omega
 ·rename_i hc; rw [if_neg hc] at h1; dsimp only; omega
theorem gone_gd : goneN.gd := leaf_gd ⟨by decide, fun h => by omega, fun h => by omega, fun _ => by decide, fun h => by omega, fun h => by omega, fun h => by omega, fun h => by omega, fun h => by omega, by decide⟩
end Go.A
namespace Go.A
open Go.Proofs Go.Lib
theorem decode_whole {r : List UInt8} {c w : Nat} (hr : r ≠ []) (hd : decodeL r = (c, w)) (hv : (c, w) ≠ (65533, 1)) (t : List UInt8) : decodeL (r.take w ++ t) = (c, w) := by
 have hpos := List.length_pos_iff.2 hr
 rw [decodeL_N] at hd ⊢
 have k0 := (r.getD 0 0).toNat_lt
 have k1 := (r.getD 1 0).toNat_lt
 rcases decodeN_shape r.length (r.getD 0 0).toNat (r.getD 1 0).toNat (r.getD 2 0).toNat (r.getD 3 0).toNat with ⟨c1, e⟩ | ⟨c1, c2, c3, cv, e⟩ | ⟨c1, c2, c3, c4, cv, cs, e⟩ | ⟨c1, c2, c3, c4, c5, cv, cw, e⟩ | e
 ·rw [e] at hd
  injection hd with h1 h2
  subst h1 h2
  rw [takeA r hpos]
  generalize r.getD 0 0 = b0 at *
  have e0 : (([b0] ++ t).getD 0 0) = b0 := rfl
  rw [e0]
  unfold decodeN
  rw [if_pos c1]
 ·rw [e] at hd
  injection hd with h1 h2
  subst h1 h2
  rw [takeB r c2]
  generalize r.getD 0 0 = b0 at *
  generalize r.getD 1 0 = b1 at *
  have e0 : (([b0, b1] ++ t).getD 0 0) = b0 := rfl
  have e1 : (([b0, b1] ++ t).getD 1 0) = b1 := rfl
  have el : 1 < ([b0, b1] ++ t).length := by simp
  rw [e0, e1]
  unfold decodeN
  rw [if_neg (by omega), if_pos ⟨c1, el, c3⟩, if_pos (by omega)]
 ·rw [e] at hd
  injection hd with h1 h2
  subst h1 h2
  rw [takeC r c2]
  generalize r.getD 0 0 = b0 at *
  generalize r.getD 1 0 = b1 at *
  generalize r.getD 2 0 = b2 at *
  have e0 : (([b0, b1, b2] ++ t).getD 0 0) = b0 := rfl
  have e1 : (([b0, b1, b2] ++ t).getD 1 0) = b1 := rfl
  have e2 : (([b0, b1, b2] ++ t).getD 2 0) = b2 := rfl
  have el : 2 < ([b0, b1, b2] ++ t).length := by simp
  rw [e0, e1, e2]
  unfold decodeN
  rw [if_neg (by omega), if_neg (by omega), if_pos ⟨c1, ⟨by omega, c3⟩, el, c4⟩, if_pos (by omega)]
 ·rw [e] at hd
  injection hd with h1 h2
  subst h1 h2
  rw [takeD r c2]
  generalize r.getD 0 0 = b0 at *
  generalize r.getD 1 0 = b1 at *
  generalize r.getD 2 0 = b2 at *
  generalize r.getD 3 0 = b3 at *
  have e0 : (([b0, b1, b2, b3] ++ t).getD 0 0) = b0 := rfl
  have e1 : (([b0, b1, b2, b3] ++ t).getD 1 0) = b1 := rfl
  have e2 : (([b0, b1, b2, b3] ++ t).getD 2 0) = b2 := rfl
  have e3 : (([b0, b1, b2, b3] ++ t).getD 3 0) = b3 := rfl
  have el : 3 < ([b0, b1, b2, b3] ++ t).length := by simp
  rw [e0, e1, e2, e3]
  unfold decodeN
  rw [if_neg (by omega), if_neg (by omega), if_neg (by omega), if_pos ⟨c1, ⟨by omega, c3⟩, ⟨by omega, c4⟩, el, c5⟩, if_pos (by omega)]
 ·rw [e] at hd
  exact absurd hd.symm hv
end Go.A
namespace Go.A
open Go.Proofs Go.Lib
theorem sgF_fuel : ∀ (k k' : Nat) (r : List UInt8), r.length < k → r.length < k' → sgF k r = sgF k' r
 | 0, _, r, h, _ => by omega
 | _ + 1, 0, r, _, h => by omega
 | k + 1, k' + 1, r, h, h' => by
   unfold sgF
   by_cases hr : r = []
   ·rw [if_pos hr, if_pos hr]
   have hpos := List.length_pos_iff.2 hr
   have hw := decodeL_width r
   rw [if_neg hr, if_neg hr, sgF_fuel k k' _ (by rw [List.length_drop]; omega) (by rw [List.length_drop]; omega)]
def sgP (r : List UInt8) : Option Nat := sgF (r.length + 1) r
theorem sgP_nil : sgP [] = some 0 := rfl
theorem sgP_step {r : List UInt8} (hr : r ≠ []) : sgP r = if decodeL r = (65533, 1) then none else (sgP (r.drop (decodeL r).2)).map (· + 1) := by
 have hpos := List.length_pos_iff.2 hr
 have hw := decodeL_width r
 conv => lhs; unfold sgP sgF
 unfold sgP
 rw [if_neg hr, sgF_fuel r.length ((r.drop (decodeL r).2).length + 1) _ (by rw [List.length_drop]; omega) (by omega)]
def cnt : Nat → List UInt8 → Nat
 | 0, _ => 0
 | k + 1, r => if r = [] then 0 else 1 + cnt k (r.drop (decodeL r).2)
theorem runeCount_cnt (l : List UInt8) : ∀ (k pos : Nat), runeCountFrom ⟨⟨l⟩⟩ k pos = cnt k (l.drop pos)
 | 0, _ => rfl
 | k + 1, pos => by
   unfold runeCountFrom cnt
   have e : (⟨⟨l⟩⟩ : ByteArray).size = l.length := rfl
   rw [e]
   by_cases h : pos < l.length
   ·have hne : l.drop pos ≠ [] := by
     intro h2
     have := congrArg List.length h2
     simp at this
     omega
    have hd := decodeL_drop ⟨⟨l⟩⟩ pos
    have hd : decodeL (l.drop pos) = Utf8.decode ⟨⟨l⟩⟩ pos := hd
    rw [if_pos h, if_neg hne, runeCount_cnt l k, hd, List.drop_drop]
   ·rw [if_neg h, if_pos (List.drop_eq_nil_of_le (by omega))]
theorem cnt_fuel : ∀ (k k' : Nat) (r : List UInt8), r.length ≤ k → r.length ≤ k' → cnt k r = cnt k' r
 | 0, k', r, h, _ => by
   have : r = [] := List.eq_nil_of_length_eq_zero (by omega)
   subst this
   cases k' <;> simp [cnt]
 | k + 1, 0, r, _, h => by
   have : r = [] := List.eq_nil_of_length_eq_zero (by omega)
   subst this
   simp [cnt]
 | k + 1, k' + 1, r, h, h' => by
   unfold cnt
   by_cases hr : r = []
   ·rw [if_pos hr, if_pos hr]
   have hpos := List.length_pos_iff.2 hr
   have hw := decodeL_width r
   rw [if_neg hr, if_neg hr, cnt_fuel k k' _ (by rw [List.length_drop]; omega) (by rw [List.length_drop]; omega)]
theorem signsN_step {r : List UInt8} (hr : r ≠ []) : signsN r = 1 + signsN (r.drop (decodeL r).2) := by
 have hpos := List.length_pos_iff.2 hr
 have hw := decodeL_width r
 unfold signsN runeCount
 rw [runeCount_cnt, runeCount_cnt, List.drop_zero, List.drop_zero]
 have e1 : (⟨⟨r⟩⟩ : ByteArray).size = r.length := rfl
 have e2 : (⟨⟨r.drop (decodeL r).2⟩⟩ : ByteArray).size = (r.drop (decodeL r).2).length := rfl
 rw [e1, e2]
 obtain ⟨k, hk⟩ : ∃ k, r.length = k + 1 := ⟨r.length - 1, by omega⟩
 rw [hk, cnt, if_neg hr]
 rw [cnt_fuel k _ _ (by rw [List.length_drop]; omega) (Nat.le_refl _)]
inductive Sg : List UInt8 → Nat → Prop
 | nil : Sg [] 0
 | cons {y z : List UInt8} {c n : Nat} : y ≠ [] → (∀ t, decodeL (y ++ t) = (c, y.length)) → (c, y.length) ≠ (65533, 1) → Sg z n → Sg (y ++ z) (n + 1)
theorem Sg.app {x : List UInt8} {n : Nat} (h : Sg x n) (t : List UInt8) : sgP (x ++ t) = (sgP t).map (· + n) ∧ signsN (x ++ t) = n + signsN t := by
 induction h with
 | nil => simp
 | cons h1 h2 h3 _ ih =>
   rename_i y z c n _
   obtain ⟨i1, i2⟩ := ih
   have hne : (y ++ z) ++ t ≠ [] := by simp [h1]
   have hd : decodeL ((y ++ z) ++ t) = (c, y.length) := by rw [List.append_assoc]; exact h2 _
   have hdr : ((y ++ z) ++ t).drop y.length = z ++ t := by rw [List.append_assoc, List.drop_left]
   rw [sgP_step hne, hd, if_neg h3, hdr, i1, signsN_step hne, hd, hdr, i2]
   refine ⟨?_, by omega⟩
   cases sgP t <;> simp [Nat.add_assoc]
theorem Sg.join {x z : List UInt8} {n m : Nat} (h : Sg x n) (k : Sg z m) : Sg (x ++ z) (n + m) := by
 induction h with
 | nil => simpa using k
 | cons h1 h2 h3 _ ih =>
   rw [List.append_assoc, Nat.add_right_comm]
   exact .cons h1 h2 h3 ih
theorem Sg.ascii : ∀ x : List UInt8, (∀ c ∈ x, c.toNat < 128) → Sg x x.length
 | [], _ => .nil
 | c :: x, h => by
   have hc := h c (by simp)
   exact .cons (y := [c]) (by simp) (fun t => dec_one c t hc) (by rw [ne_eq, Prod.mk.injEq]; omega) (Sg.ascii x fun d hd => h d (by simp [hd]))
theorem Sg.one {r : List UInt8} (hr : r ≠ []) (hv : decodeL r ≠ (65533, 1)) : Sg (r.take (decodeL r).2) 1 := by
 have hle := decodeL_le r hr
 have hw := decodeL_width r
 have hl : (r.take (decodeL r).2).length = (decodeL r).2 := List.length_take_of_le hle
 have := Sg.cons (y := r.take (decodeL r).2) (z := []) (c := (decodeL r).1) (n := 0) (by
  intro h
  rw [h] at hl
  simp at hl
  omega) (fun t => by rw [hl]; exact decode_whole hr rfl hv t) (by rw [hl]; exact hv) .nil
 simpa using this
theorem runL_all2 (p : UInt8 → Bool) : ∀ l : List UInt8, ∀ c ∈ l.take (runL p l), p c = true
 | [], c, h => by simp [runL] at h
 | x :: l, c, h => by
   unfold runL at h
   split at h
   ·rename_i hx
    rw [List.take_succ_cons, List.mem_cons] at h
    rcases h with rfl | h
    ·exact hx
    ·exact runL_all2 p l c h
   ·simp at h
end Go.A
namespace Go.A
open Go.Proofs Go.Lib
/-! Single steps. -/
/-! Words. -/
structure NameOk (w : List UInt8) : Prop where
 word : ∀ c ∈ w, wordB c = true
 name : nameB w = true
 num : numB w = false
 ref : refB w = false
 great : greatP w = w
/-! Numbers. -/
/-! References. -/
/-! Errors. -/
/-! Texts between quotes. -/
end Go.A
namespace Go.A
open Go.Proofs Go.Lib
inductive Nf : Nd → Prop
 | num {n : Int} : 0 ≤ n → n ≤ 999999999999999999 → Nf (.mk 1 n [] .zero .zero [])
 | text {s : List UInt8} : sgP s ≠ none → s.length ≤ 8100 → Nf (.mk 2 0 s .zero .zero [])
 | truth {b : Int} : b = 0 ∨ b = 1 → Nf (.mk 3 b [] .zero .zero [])
 | fail {k : Nat} : k < 7 → Nf (.mk 4 (((k : Int) + 1) * 10000) [] .zero .zero [])
 | cell {r : Ref} : r.good = true → Nf (.mk 5 0 [] r .zero [])
 | area {r q : Ref} : r.good = true → q.good = true → Nf (.mk 6 0 [] r q [])
 | sign {op : Int} {x : Nd} : op = 7 ∨ op = 8 → Nf x → x.op ≠ 23 → Nf (.mk op 0 [] .zero .zero [x])
 | hund {x : Nd} : Nf x → x.op ≠ 23 → Nf (.mk 9 0 [] .zero .zero [x])
 | bin {i : Nat} {x y : Nd} : i < 12 → Nf x → x.op ≠ 23 → Nf y → y.op ≠ 23 → Nf (.mk (10 + (i : Int)) 0 [] .zero .zero [x, y])
 | call {s : List UInt8} {ks : List Nd} : NameOk s → s.length ≤ 8100 → (∀ k ∈ ks, Nf k) → (∀ k, ks = [k] → k.op ≠ 23) → Nf (.mk 22 0 s .zero .zero ks)
 | miss : Nf (.mk 23 0 [] .zero .zero [])
def insD (least op : Int) (d : Nat) : Nat := if least ≤ levelP op then d else d + 1
def nestK (op : Int) (ks : List (Int × Nat)) : Nat :=
 if op = 7 ∨ op = 8 then 1 + insD 6 (ks.getD 0 (0, 0)).1 (ks.getD 0 (0, 0)).2
 else if op = 9 then insD 7 (ks.getD 0 (0, 0)).1 (ks.getD 0 (0, 0)).2
 else if op = 22 then 1 + (ks.map (·.2)).foldr max 0
 else if 10 ≤ op ∧ op ≤ 21 then max (insD (levelP op) (ks.getD 0 (0, 0)).1 (ks.getD 0 (0, 0)).2) (insD (levelP op + 1) (ks.getD 1 (0, 0)).1 (ks.getD 1 (0, 0)).2) else 0
mutual
def Nd.nest : Nd → Nat
 | .mk op _ _ _ _ kids => nestK op (Nd.nests kids)
def Nd.nests : List Nd → List (Int × Nat)
 | [] => []
 | x :: xs => (x.op, x.nest) :: Nd.nests xs
end
theorem Nd.nests_map : ∀ l : List Nd, Nd.nests l = l.map fun x => (x.op, x.nest)
 | [] => rfl
 | x :: xs => by rw [Nd.nests, Nd.nests_map xs]; rfl
theorem lev_bin (i : Nat) (h : i < 12) : 1 ≤ levelP (10 + (i : Int)) ∧ levelP (10 + (i : Int)) ≤ 5 := by
 unfold levelP
 rw [if_neg (by omega), if_neg (by omega), if_neg (by omega)]
 repeat' split
 all_goals decide
theorem spell_bin {i : Nat} (h : i < 12) (x y : Nd) : (Nd.mk (10 + (i : Int)) 0 [] .zero .zero [x, y]).spell = insT (levelP (10 + i)) x.op x.spell ++ signL.getD i [] ++ insT (levelP (10 + i) + 1) y.op y.spell := by
 rw [Nd.spell, Nd.spells, Nd.spells, Nd.spells, spellK]
 rw [if_neg (by omega), if_neg (by omega), if_neg (by omega), if_neg (by omega), if_neg (by omega), if_neg (by omega), if_neg (by omega), if_neg (by omega), if_neg (by omega), if_neg (by omega), show (10 + (i : Int) - 10).toNat = i by omega]
 rfl
theorem nest_bin {i : Nat} (h : i < 12) (x y : Nd) : (Nd.mk (10 + (i : Int)) 0 [] .zero .zero [x, y]).nest = max (insD (levelP (10 + i)) x.op x.nest) (insD (levelP (10 + i) + 1) y.op y.nest) := by
 rw [Nd.nest, Nd.nests, Nd.nests, Nd.nests, nestK]
 rw [if_neg (by omega), if_neg (by omega), if_neg (by omega), if_pos (by omega)]
 rfl
theorem nest_sign {op : Int} (h : op = 7 ∨ op = 8) (x : Nd) : (Nd.mk op 0 [] .zero .zero [x]).nest = 1 + insD 6 x.op x.nest := by
 rcases h with rfl | rfl <;> rfl
theorem nest_hund (x : Nd) : (Nd.mk 9 0 [] .zero .zero [x]).nest = insD 7 x.op x.nest := rfl
theorem nest_call (s : List UInt8) (ks : List Nd) : (Nd.mk 22 0 s .zero .zero ks).nest = 1 + (ks.map Nd.nest).foldr max 0 := by
 rw [Nd.nest, Nd.nests_map]
 show 1 + ((ks.map fun x => (x.op, x.nest)).map (·.2)).foldr max 0 = _
 rw [List.map_map]
 rfl
end Go.A
namespace Go.A
open Go.Proofs Go.Lib
/-! Such texts' tokens. -/
end Go.A
namespace Go.A
open Go.Proofs Go.Lib
section
variable {T : List Tok}
variable (T)
variable {T}
/-! A kid, in brackets if it binds less closely. -/
/-! Leaves. -/
/-! Nodes with kids. -/
/-! Calls. -/
end
end Go.A
namespace Go.A
open Go.Proofs Go.Lib
/-! Great letters. -/
theorem byte_all {P : UInt8 → Prop} [∀ c, Decidable (P c)] (h : (List.range 256).all (fun n => decide (P (UInt8.ofNat n))) = true) (c : UInt8) : P c := by
 have := List.all_eq_true.1 h c.toNat (List.mem_range.2 c.toNat_lt)
 simpa using this
theorem gr_letter (c : UInt8) : letterP (greatC c).toNat = letterP c.toNat := byte_all (P := fun c => letterP (greatC c).toNat = letterP c.toNat) (by decide +kernel) c
theorem gr_isL (c : UInt8) : isL (greatC c) = isL c := byte_all (P := fun c => isL (greatC c) = isL c) (by decide +kernel) c
theorem gr_isD (c : UInt8) : isD (greatC c) = isD c ∧ (isD c = true → greatC c = c) := byte_all (P := fun c => isD (greatC c) = isD c ∧ (isD c = true → greatC c = c)) (by decide +kernel) c
theorem gr_sign (c : UInt8) : ((greatC c).toNat = 48 ↔ c.toNat = 48) ∧ ((greatC c).toNat = 36 ↔ c.toNat = 36) ∧ ((greatC c).toNat = 46 ↔ c.toNat = 46) ∧ (((greatC c).toNat : Int) = 95 ↔ (c.toNat : Int) = 95) := byte_all (P := fun c => ((greatC c).toNat = 48 ↔ c.toNat = 48) ∧ ((greatC c).toNat = 36 ↔ c.toNat = 36) ∧ ((greatC c).toNat = 46 ↔ c.toNat = 46) ∧ (((greatC c).toNat : Int) = 95 ↔ (c.toNat : Int) = 95)) (by decide +kernel) c
theorem gr_word (c : UInt8) : wordB (greatC c) = wordB c ∧ digB (greatC c) = digB c ∧ greatC (greatC c) = greatC c := byte_all (P := fun c => wordB (greatC c) = wordB c ∧ digB (greatC c) = digB c ∧ greatC (greatC c) = greatC c) (by decide +kernel) c
theorem great_idem (l : List UInt8) : greatP (greatP l) = greatP l := by
 unfold greatP
 rw [List.map_map]
 exact List.map_congr_left fun c _ => (gr_word c).2.2
theorem runL_great (p : UInt8 → Bool) (hp : ∀ c, p (greatC c) = p c) : ∀ l, runL p (greatP l) = runL p l
 | [] => rfl
 | c :: l => by
   show runL p (greatC c :: greatP l) = _
   rw [runL, runL, hp, runL_great p hp l]
theorem numF_great : ∀ (l : List UInt8) (n : Int), numF n (greatP l) = numF n l
 | [], n => rfl
 | c :: l, n => by
   show numF n (greatC c :: greatP l) = _
   rw [numF, numF, (gr_isD c).1]
   by_cases h : isD c = true
   ·rw [if_pos h, if_pos h, (gr_isD c).2 h, numF_great l]
   ·rw [if_neg h, if_neg h]
theorem atP_great (l : List UInt8) (i : Nat) : (atP (greatP l) i = 48 ↔ atP l i = 48) ∧ (atP (greatP l) i = 36 ↔ atP l i = 36) ∧ (atP (greatP l) i = 95 ↔ atP l i = 95) ∧ letterP (atP (greatP l) i) = letterP (atP l i) := by
 unfold atP greatP
 rw [List.getElem?_map]
 cases l[i]? with
 | none => exact ⟨Iff.rfl, Iff.rfl, Iff.rfl, rfl⟩
 | some c =>
   obtain ⟨h1, h2, h3, h4⟩ := gr_sign c
   simp only [Option.map_some]
   exact ⟨by omega, by omega, h4, gr_letter c⟩
theorem great_drop (l : List UInt8) (i : Nat) : (greatP l).drop i = greatP (l.drop i) := by unfold greatP; rw [List.map_drop]
theorem great_take (l : List UInt8) (i : Nat) : (greatP l).take i = greatP (l.take i) := by unfold greatP; rw [List.map_take]
theorem colF_gr : ∀ (l : List UInt8) (n : Int), colF n (greatP l) = colF n l
 | [], n => rfl
 | c :: l, n => by
   show colF n (greatC c :: greatP l) = _
   rw [colF, colF, gr_letter]
   split
   ·rfl
   ·exact colF_gr l _
theorem columnP_gr (l : List UInt8) : columnP (greatP l) = columnP l := by unfold columnP; rw [colF_gr]
theorem readQ_gr (l : List UInt8) (i : Nat) (col : Int) (ar ac : Bool) : readQ (greatP l) i col ar ac = readQ l i col ar ac := by
 unfold readQ
 rw [great_drop, numF_great, runL_great isD fun c => (gr_isD c).1]
 obtain ⟨a1, _, _, _⟩ := atP_great l i
 obtain ⟨_, _, b3, b4⟩ := atP_great l (i + runL isD (l.drop i))
 rw [b4]
 simp only [a1, b3]
theorem readR_gr (l : List UInt8) (i : Nat) (ac : Bool) : readR (greatP l) i ac = readR l i ac := by
 unfold readR
 rw [great_drop, runL_great isL gr_isL, great_take, great_drop, columnP_gr, readQ_gr, readQ_gr]
 simp only [(atP_great l (i + runL isL (l.drop i))).2.1]
theorem readP_gr (l : List UInt8) : readP (greatP l) = readP l := by
 unfold readP
 rw [readR_gr, readR_gr]
 simp only [(atP_great l 0).2.1]
theorem refB_gr (l : List UInt8) : refB (greatP l) = refB l := by
 unfold refB parseP
 rw [readP_gr, greatP_len]
theorem cutDot_gr : ∀ l : List UInt8, cutDot (greatP l) = (greatP (cutDot l).1, (cutDot l).2.map greatP)
 | [] => rfl
 | c :: l => by
   show cutDot (greatC c :: greatP l) = _
   rw [cutDot, cutDot, cutDot_gr l]
   by_cases h : c.toNat = 46
   ·rw [if_pos h, if_pos ((gr_sign c).2.2.1.2 h)]; rfl
   ·rw [if_neg h, if_neg (fun e => h ((gr_sign c).2.2.1.1 e))]; rfl
theorem all_gr (l : List UInt8) : (greatP l).all digB = l.all digB := by
 unfold greatP
 rw [List.all_map]
 congr 1
 funext c
 exact (gr_word c).2.1
theorem ne_gr (l : List UInt8) : decide (greatP l ≠ []) = decide (l ≠ []) := by
 cases l <;> rfl
theorem numB_gr (l : List UInt8) : numB (greatP l) = numB l := by
 unfold numB
 rw [cutDot_gr]
 cases h : cutDot l with
 | mk w o =>
   cases o with
   | none => simp only [Option.map_none]; rw [ne_gr, all_gr]
   | some p =>
     simp only [Option.map_some]
     have e : greatP w ++ greatP p = greatP (w ++ p) := by unfold greatP; rw [List.map_append]
     rw [ne_gr, ne_gr, greatP_len, e, all_gr]
theorem nameB_gr (l : List UInt8) : nameB (greatP l) = nameB l := by
 unfold nameB
 rw [ne_gr]
 have h1 : (greatP l).all (fun c => wordB c && decide (c.toNat ≠ 36)) = l.all (fun c => wordB c && decide (c.toNat ≠ 36)) := by
  unfold greatP
  rw [List.all_map]
  congr 1
  funext c
  show (wordB (greatC c) && _) = _
  rw [(gr_word c).1]
  congr 1
  exact decide_eq_decide.2 (not_congr (gr_sign c).2.1)
 rw [h1]
 congr 2
 cases l with
 | nil => rfl
 | cons c l =>
   show (digB (greatC c) || decide ((greatC c).toNat = 46)) = (digB c || decide (c.toNat = 46))
   rw [(gr_word c).2.1]
   congr 1
   exact decide_eq_decide.2 (gr_sign c).2.2.1
/-! What tokens hold. -/
theorem quotedF_whole : ∀ (k : Nat) (r : List UInt8) (p : Nat) (acc : List UInt8) kd t n, quotedF k r p acc = .tok kd t n → (∃ c, Sg acc c) → ∃ c, Sg t c
 | 0, r, p, acc, kd, t, n, h, _ => by simp [quotedF] at h
 | k + 1, r, p, acc, kd, t, n, h, ha => by
   obtain ⟨c0, ha⟩ := ha
   by_cases hr : r = []
   ·subst hr; rw [quotedF_nil] at h; simp at h
   unfold quotedF at h
   rw [if_neg hr] at h
   split at h
   ·simp at h
   rename_i hv
   split at h
   ·have henc := encode_decode r hr (by rintro ⟨h1, h2⟩; exact hv (by rw [← h1, ← h2]))
    rw [henc] at h
    exact quotedF_whole k _ _ _ kd t n h ⟨_, ha.join (Sg.one hr hv)⟩
   split at h
   ·exact quotedF_whole k _ _ _ kd t n h ⟨_, ha.join (Sg.ascii [34] (by decide))⟩
   ·simp only [Step.tok.injEq] at h
    obtain ⟨_, rfl, _⟩ := h
    exact ⟨_, ha⟩
theorem Sg.some {t : List UInt8} {c : Nat} (h : Sg t c) : sgP t ≠ none := by
 have := (h.app []).1
 rw [List.append_nil, sgP_nil] at this
 rw [this]
 simp
structure TokNf (t : Tok) : Prop where
 text : t.kind = 2 → sgP t.text ≠ none
 name : t.kind = 3 → NameOk t.text
theorem TokNf.of {kd : Int} {t : List UInt8} {a c : Nat} (h2 : kd = 2 → sgP t ≠ none) (h3 : kd = 3 → NameOk t) : TokNf ⟨kd, t, a, c⟩ := ⟨h2, h3⟩
theorem stepP_nf (r : List UInt8) {kd : Int} {t : List UInt8} {n : Nat} (h : stepP r = .tok kd t n) (a c : Nat) : TokNf ⟨kd, t, a, c⟩ := by
 unfold stepP at h
 dsimp only at h
 split at h
 ·simp at h
 split at h
 ·simp at h
 split at h
 ·unfold wordsS at h
  dsimp only at h
  have hall := runL_all2 wordB r
  split at h
  ·simp only [Step.tok.injEq] at h
   obtain ⟨rfl, rfl, rfl⟩ := h
   exact .of (fun h => no1 h (by decide)) (fun h => no1 h (by decide))
  rename_i hnum
  split at h
  ·simp only [Step.tok.injEq] at h
   obtain ⟨rfl, rfl, rfl⟩ := h
   exact .of (fun h => no1 h (by decide)) (fun h => no1 h (by decide))
  rename_i href
  split at h
  ·rename_i hn
   simp only [Step.tok.injEq] at h
   obtain ⟨rfl, rfl, rfl⟩ := h
   refine .of (fun h => no1 h (by decide)) fun _ => ⟨?_, by rw [nameB_gr]; exact hn, by rw [numB_gr]; simpa using hnum, by rw [refB_gr]; simpa using href, great_idem _⟩
   intro c hc
   obtain ⟨d, hd, rfl⟩ := List.mem_map.1 hc
   rw [(gr_word d).1]
   exact hall d hd
  ·simp at h
 split at h
 ·obtain ⟨rfl, h2⟩ := quotedF_len _ _ _ _ _ _ _ h
  obtain ⟨c, hc⟩ := quotedF_whole _ _ _ _ _ _ _ h ⟨0, .nil⟩
  exact .of (fun _ => hc.some) (fun h => no1 h (by decide))
 split at h
 ·obtain ⟨rfl, h2⟩ := failS_gd _ _ _ _ _ h
  exact .of (fun h => no1 h (by decide)) (fun h => no1 h (by decide))
 ·have key : kd = 6 := by
   unfold opS at h
   split at h
   ·simp only [Step.tok.injEq] at h
    exact h.1.symm
   ·split at h
    ·simp only [Step.tok.injEq] at h
     exact h.1.symm
    ·split at h
     ·simp only [Step.tok.injEq] at h
      exact h.1.symm
     ·simp at h
  subst key
  exact .of (fun h => no1 h (by decide)) (fun h => no1 h (by decide))
theorem lexF_nf : ∀ (k : Nat) (r : List UInt8) (a c : Nat) (acc L : List Tok) (x : Nat), lexF k r a c acc = (L, x, 0) → (∀ t ∈ acc, TokNf t) → ∀ t ∈ L, TokNf t
 | 0, r, a, c, acc, L, x, h, hacc => by simp [lexF] at h
 | k + 1, r, a, c, acc, L, x, h, hacc => by
   rw [lexF] at h
   split at h
   ·simp only [Prod.mk.injEq] at h
    obtain ⟨rfl, _⟩ := h
    intro t ht
    rcases List.mem_append.1 ht with ht | ht
    ·exact hacc t ht
    ·simp at ht; subst ht; exact .of (fun h => no1 h (by decide)) (fun h => no1 h (by decide))
   ·split at h
    ·simp at h
    ·exact lexF_nf k _ _ _ _ _ _ h hacc
    ·rename_i kd t n hst
     exact lexF_nf k _ _ _ _ _ _ h (fun u hu => by
      rcases List.mem_append.1 hu with hu | hu
      ·exact hacc u hu
      ·simp at hu; subst hu; exact stepP_nf r hst a c)
theorem lex_nf {s : List UInt8} (h : (lexP s).2.2 = 0) (i : Nat) : TokNf ((lexP s).1.getD i endT) := by
 have hall : ∀ t ∈ (lexP s).1, TokNf t := by
  unfold lexP at h ⊢
  split
  ·intro t ht; cases ht
  ·rename_i hl
   rw [if_neg hl] at h
   obtain ⟨R, hR⟩ : ∃ R, lexF (s.length + 1) s 0 0 [] = R := ⟨_, rfl⟩
   rw [hR] at h ⊢
   obtain ⟨L, x, e⟩ := R
   dsimp only at h ⊢
   subst h
   exact lexF_nf _ _ _ _ _ _ _ hR (by simp)
 rw [List.getD_eq_getElem?_getD]
 cases hi : (lexP s).1[i]? with
 | none => exact .of (fun h => no1 h (by decide)) (fun h => no1 h (by decide))
 | some t => exact hall t (List.mem_of_getElem? hi)
theorem numB_min {s : List UInt8} (h : numB s = true) : s.head? ≠ some 45 := by
 intro e
 cases s with
 | nil => cases e
 | cons c s =>
   injection e with e
   subst e
   unfold numB at h
   rw [cutDot, if_neg (by decide)] at h
   split at h
   ·rename_i w he
    injection he with h1 h2
    subst h1
    simp only [List.all_cons, Bool.and_eq_true] at h
    exact absurd h.2.1 (by decide)
   ·rename_i w p he
    injection he with h1 h2
    subst h1
    simp only [List.cons_append, List.all_cons, Bool.and_eq_true] at h
    exact absurd h.2.1 (by decide)
theorem parseD_pos {s : List UInt8} {v : Int} (hn : numB s = true) (h : parseD s = some v) : 0 ≤ v := by
 have hm := numB_min hn
 unfold parseD at h
 dsimp only at h
 rw [if_neg hm, decide_eq_false hm] at h
 unfold parseQ at h
 split at h
 ·cases h
 ·obtain ⟨n, _, hn⟩ := Option.bind_eq_some_iff.1 h
  unfold madeP at hn
  split at hn
  ·injection hn with hn
   simp only [Bool.false_eq_true, if_false] at hn
   omega
  ·cases hn
/-! The parser's trees. -/
theorem insD_up {a b op : Int} {d : Nat} (h : a ≤ b) : insD a op d ≤ insD b op d := by
 unfold insD
 split <;> split <;> omega
theorem insD_le (a op : Int) (d : Nat) : d ≤ insD a op d ∧ insD a op d ≤ d + 1 := by
 unfold insD
 split <;> omega
theorem insD_top {a op : Int} {d : Nat} (h : a ≤ levelP op) : insD a op d = d := if_pos h
theorem sign_is {x : List UInt8} {l : Nat} (hl : l < 5) (h : x ∈ levelsL.getD l []) : levelP (10 + idxP signL x) = l + 1 := by
 have key : ∀ l < 5, ∀ y ∈ levelsL.getD l [], levelP (10 + idxP signL y) = l + 1 := by decide
 exact key l hl x h
theorem op_mk (op n : Int) (s : List UInt8) (a b : Ref) (ks : List Nd) : (Nd.mk op n s a b ks).op = op := rfl
section
variable {T : List Tok}
def Okn (d : Int) (least : Int) (n : Nd) : Prop := Nf n ∧ n.op ≠ 23 ∧ d + insD least n.op n.nest ≤ 40
structure NfF (T : List Tok) (f : Nat) : Prop where
 betw : ∀ (lvl : Nat) s r, betwP T f lvl s = some r → lvl ≤ 5 → Fit T s → r.2.err = 0 → Okn s.deep (lvl + 1) r.1
 loop : ∀ (lvl : Nat) n s r, loopP T f lvl n s = some r → lvl < 5 → Fit T s → r.2.err = 0 → Okn s.deep (lvl + 1) n → Okn s.deep (lvl + 1) r.1
 signed : ∀ s r, signedP T f s = some r → Fit T s → r.2.err = 0 → Okn s.deep 6 r.1
 hundred : ∀ s r, hundredP T f s = some r → Fit T s → r.2.err = 0 → Okn s.deep 7 r.1
 hloop : ∀ n s r, hloopP T f n s = some r → Fit T s → r.2.err = 0 → Okn s.deep 7 n → Okn s.deep 7 r.1
 prim : ∀ s r, primP T f s = some r → Fit T s → r.2.err = 0 → Okn s.deep 8 r.1
 name : ∀ s r, nameP T f s = some r → Fit T s → (curT T s).kind = 3 → r.2.err = 0 → Okn s.deep 8 r.1
 args : ∀ s r, argsP T f s = some r → Fit T s → r.2.err = 0 → (∀ x ∈ r.1, Nf x ∧ s.deep + x.nest ≤ 40) ∧ ∀ k, r.1 = [k] → k.op ≠ 23
 aloop : ∀ l s r, aloopP T f l s = some r → Fit T s → r.2.err = 0 → (∀ x ∈ l, Nf x ∧ s.deep + x.nest ≤ 40) → (l = [] → isOp T s [41] = false) → (∀ x ∈ r.1, Nf x ∧ s.deep + x.nest ≤ 40) ∧ l.length < r.1.length ∧ ∀ k, r.1 = [k] → k.op ≠ 23
theorem Okn.leaf {d : Int} {n : Nd} (h : Nf n) (h2 : levelP n.op = 8) (h3 : n.op ≠ 23) (h0 : n.nest = 0) (hd : d ≤ 40) : Okn d 8 n := ⟨h, h3, by rw [insD_top (by omega), h0]; omega⟩
theorem Okn.down {d a b : Int} {n : Nd} (h : Okn d b n) (hab : a ≤ b) : Okn d a n := ⟨h.1, h.2.1, by have := insD_up (op := n.op) (d := n.nest) hab; have := h.2.2; omega⟩
theorem idx_sig {x : List UInt8} {l : Nat} (h : x ∈ levelsL.getD l []) : ∃ i : Nat, i < 12 ∧ idxP signL x = i := by
 have := sign_rng h
 exact ⟨(idxP signL x).toNat, by omega, by omega⟩
theorem nest_max (ks : List Nd) (m : Int) (h0 : 0 ≤ m) (h : ∀ x ∈ ks, (x.nest : Int) ≤ m) : (((ks.map Nd.nest).foldr max 0 : Nat) : Int) ≤ m := by
 induction ks with
 | nil => simpa using h0
 | cons x ks ih =>
   have h1 := h x (by simp)
   have h2 := ih fun y hy => h y (by simp [hy])
   rw [List.map_cons, List.foldr_cons]
   omega
theorem nfF (hT : Ends T) (hG : ∀ i, (T.getD i endT).kind ≠ 0 → TokGd (T.getD i endT)) (hN : ∀ i, TokNf (T.getD i endT)) : ∀ f, NfF T f
 | 0 => by
   constructor
   ·intro lvl s r h; simp only [betwP, reduceCtorEq] at h
   ·intro lvl n s r h; simp only [loopP, reduceCtorEq] at h
   ·intro s r h; simp only [signedP, reduceCtorEq] at h
   ·intro s r h; simp only [hundredP, reduceCtorEq] at h
   ·intro n s r h; simp only [hloopP, reduceCtorEq] at h
   ·intro s r h; simp only [primP, reduceCtorEq] at h
   ·intro s r h; simp only [nameP, reduceCtorEq] at h
   ·intro s r h; simp only [argsP, reduceCtorEq] at h
   ·intro l s r h; simp only [aloopP, reduceCtorEq] at h
 | f + 1 => by
   have ih := nfF hT hG hN f
   have W := wentF hT f
   constructor
   ·intro lvl s r h hl hf h0
    rw [betwP] at h
    split at h
    ·rename_i h5; subst h5; exact ih.signed s r h hf h0
    ·split at h
     ·cases h
     ·rename_i h5 _ r1 h1
      have w1 := W.betw _ _ _ h1 hf
      have w2 := W.loop _ _ _ _ h w1.fit
      have g1 := ih.betw _ _ _ h1 (by omega) hf (w2.e0 h0)
      have g2 := ih.loop _ _ _ _ h (by omega) w1.fit h0 (by rw [w1.deep]; exact g1.down (by omega))
      rw [w1.deep] at g2
      exact g2
   ·intro lvl n s r h hl hf h0 hn
    rw [loopP] at h
    split at h
    ·rename_i hk
     split at h
     ·cases h
     ·rename_i r1 h1
      have w0 := Went.next hT hf (sgn_kind hk)
      have w1 := W.betw _ _ _ h1 w0.fit
      have w2 := W.loop _ _ _ _ h w1.fit
      have g1 := ih.betw _ _ _ h1 (by omega) w0.fit (w2.e0 h0)
      have hs : (curT T s).text ∈ levelsL.getD lvl [] := by
       unfold sgn at hk
       simp only [Bool.and_eq_true, decide_eq_true_eq] at hk
       exact hk.2
      have hlv := sign_is hl hs
      obtain ⟨i, hi, hix⟩ := idx_sig hs
      rw [hix] at h hlv
      have hd : r1.2.deep = s.deep := by rw [w1.deep]; rfl
      have hb : Okn s.deep (lvl + 1) (.mk (10 + (i : Int)) 0 [] .zero .zero [n, r1.1]) := by
       refine ⟨.bin hi hn.1 hn.2.1 g1.1 g1.2.1, by show 10 + (i : Int) ≠ 23; omega, ?_⟩
       rw [nest_bin hi, op_mk, insD_top (show (lvl : Int) + 1 ≤ levelP (10 + (i : Int)) by omega), hlv]
       have a1 := hn.2.2
       have a2 : s.deep + insD ((lvl + 1 : Nat) + 1) r1.1.op r1.1.nest ≤ 40 := g1.2.2
       rw [show (((lvl + 1 : Nat) : Int) + 1) = (lvl : Int) + 1 + 1 by omega] at a2
       omega
      have g2 := ih.loop _ _ _ _ h hl w1.fit h0 (by rw [hd]; exact hb)
      rw [hd] at g2
      exact g2
    ·injection h with h; subst h; exact hn
   ·intro s r h hf h0
    rw [signedP] at h
    have one : ∀ (op : Int) (r1 : Nd × PSt), op = 7 ∨ op = 8 → isOp T s [if op = 7 then 45 else 43] = true → signedP T f (stepP1 (enterP T s)) = some r1 → r1.2.err = 0 → Okn s.deep 6 (.mk op 0 [] .zero .zero [r1.1]) := by
     intro op r1 ho hk h1 he
     obtain ⟨e1, e2, e3⟩ := enter_fit hT hf (isOp_kind hk)
     have w1 := W.signed _ _ h1 e1
     have g1 := ih.signed _ _ h1 e1 he
     rw [e2] at g1
     refine ⟨.sign ho g1.1 g1.2.1, by show op ≠ 23; omega, ?_⟩
     rw [nest_sign ho, op_mk, insD_top (show (6 : Int) ≤ levelP op by rcases ho with rfl | rfl <;> decide)]
     have := g1.2.2
     omega
    split at h
    ·rename_i hk
     split at h
     ·cases h
     ·rename_i r1 h1
      injection h with h; subst h
      exact one 7 r1 (.inl rfl) hk h1 h0
    split at h
    ·rename_i hk
     split at h
     ·cases h
     ·rename_i r1 h1
      injection h with h; subst h
      exact one 8 r1 (.inr rfl) hk h1 h0
    ·exact (ih.hundred _ _ h hf h0).down (by decide)
   ·intro s r h hf h0
    rw [hundredP] at h
    split at h
    ·cases h
    ·rename_i r1 h1
     have w1 := W.prim _ _ h1 hf
     have w2 := W.hloop _ _ _ h w1.fit
     have g1 := ih.prim _ _ h1 hf (w2.e0 h0)
     have g2 := ih.hloop _ _ _ h w1.fit h0 (by rw [w1.deep]; exact g1.down (by decide))
     rw [w1.deep] at g2
     exact g2
   ·intro n s r h hf h0 hn
    rw [hloopP] at h
    split at h
    ·rename_i hk
     have w0 := Went.next hT hf (isOp_kind hk)
     have g := ih.hloop _ _ _ h w0.fit h0
     refine g ⟨.hund hn.1 hn.2.1, by show (9 : Int) ≠ 23; decide, ?_⟩
     rw [nest_hund, op_mk, insD_top (show (7 : Int) ≤ levelP 9 by decide)]
     exact hn.2.2
    ·injection h with h; subst h; exact hn
   ·intro s r h hf h0
    have hd := hf.d2
    have hgd : (curT T s).kind ≠ 0 → TokGd (curT T s) ∧ TokNf (curT T s) ∧ s.deep ≤ 40 := fun hk => by
     have he := cur_err hk
     rw [cur_at he] at hk ⊢
     exact ⟨hG _ hk, hN _, hd he⟩
    rw [primP] at h
    split at h
    ·rename_i hk
     obtain ⟨t1, t2, t3⟩ := hgd (by omega)
     split at h
     ·injection h with h; subst h; exact absurd h0 fun h => fail_err (by decide) h
     ·rename_i v hv
      injection h with h; subst h
      have := parseD_rng hv
      have := parseD_pos (t1.num hk) hv
      exact Okn.leaf (.num (by omega) (by omega)) rfl (show (1 : Int) ≠ 23 by decide) rfl t3
    split at h
    ·rename_i hk
     obtain ⟨t1, t2, t3⟩ := hgd (by omega)
     injection h with h; subst h
     exact Okn.leaf (.text (t2.text hk) t1.len) rfl (show (2 : Int) ≠ 23 by decide) rfl t3
    split at h
    ·rename_i hk
     obtain ⟨t1, t2, t3⟩ := hgd (by omega)
     injection h with h; subst h
     have hr := fault_rng (t1.err hk)
     obtain ⟨k, hk7, hke⟩ : ∃ k : Nat, k < 7 ∧ idxP errL (curT T s).text = k := ⟨(idxP errL (curT T s).text).toNat, by omega, by omega⟩
     rw [hke]
     exact Okn.leaf (.fail hk7) rfl (show (4 : Int) ≠ 23 by decide) rfl t3
    split at h
    ·rename_i hk
     obtain ⟨t1, t2, t3⟩ := hgd (by omega)
     injection h with h; subst h
     unfold areaP at h0 ⊢
     split at h0
     ·rename_i ho
      rw [if_pos ho]
      exact Okn.leaf (.cell (parseP_good _)) rfl (show (5 : Int) ≠ 23 by decide) rfl t3
     ·rename_i ho
      rw [if_neg ho]
      split at h0
      ·exact absurd h0 fun h => fail_err (by decide) h
      ·rename_i hk2
       rw [if_neg hk2]
       exact Okn.leaf (.area (parseP_good _) (parseP_good _)) rfl (show (6 : Int) ≠ 23 by decide) rfl t3
    split at h
    ·rename_i hk
     exact ih.name _ _ h hf hk h0
    split at h
    ·rename_i hk
     split at h
     ·cases h
     ·rename_i r1 h1
      injection h with h; subst h
      obtain ⟨e1, e2, e3⟩ := enter_fit hT hf (isOp_kind hk)
      obtain ⟨m1, m2⟩ := must_i (T := T) (s := r1.2) (x := [41]) h0
      have g1 := ih.betw _ _ _ h1 (by omega) e1 m1
      rw [e2] at g1
      refine ⟨g1.1, g1.2.1, ?_⟩
      have := g1.2.2
      have := (insD_le (((0 : Nat) : Int) + 1) r1.1.op r1.1.nest).1
      have := (insD_le 8 r1.1.op r1.1.nest).2
      dsimp only
      omega
    ·injection h with h; subst h; exact absurd h0 fun h => fail_err (by decide) h
   ·intro s r h hf hk3 h0
    have he0 : s.err = 0 := cur_err (T := T) (by omega)
    have hn := hf.next hT (by omega)
    have hd := hf.d2 he0
    have hnf : TokNf (curT T s) := by rw [cur_at he0]; exact hN _
    have hgd : TokGd (curT T s) := by
     have hk : (curT T s).kind ≠ 0 := by omega
     rw [cur_at he0] at hk ⊢
     exact hG _ hk
    rw [nameP] at h
    split at h
    ·rename_i hk
     split at h
     ·rename_i he
      injection h with h; subst h
      exact absurd h0 he
     ·rename_i he
      split at h
      ·cases h
      ·rename_i r1 h1
       injection h with h; subst h
       obtain ⟨g1, g2, g3, _⟩ := enter2 hT hf (by omega) (by simpa using he)
       have hl := hT.more (s.i + 1) hn.1.i (by omega)
       have g4 : Fit T (enterP T s).next.next := ⟨by show (enterP T s).i + 1 + 1 < _; omega, g1.d0, g1.d1, g1.d2⟩
       obtain ⟨k1, k2⟩ := ih.args _ _ h1 g4 h0
       have hdd : (enterP T s).next.next.deep = s.deep + 1 := by
        show (enterP T s).deep = _
        unfold enterP
        split
        ·unfold failP; split <;> rfl
        ·rfl
       rw [hdd] at k1
       have hen : s.deep + 1 ≤ 40 := by
        rcases Int.lt_or_le 40 (s.deep + 1) with h40 | h40
        ·exfalso
         apply he
         unfold enterP
         rw [if_pos h40]
         unfold failP
         simp [he0]
        ·exact h40
       refine ⟨.call (hnf.name hk3) hgd.len (fun k hk' => (k1 k hk').1) k2, by show (22 : Int) ≠ 23; decide, ?_⟩
       rw [op_mk, insD_top (show (8 : Int) ≤ levelP 22 by decide), nest_call]
       have := nest_max r1.1 (40 - (s.deep + 1)) (by omega) (fun x hx => by have := (k1 x hx).2; omega)
       omega
    split at h
    ·injection h with h; subst h
     exact Okn.leaf (.truth (.inr rfl)) rfl (show (3 : Int) ≠ 23 by decide) rfl hd
    split at h
    ·injection h with h; subst h
     exact Okn.leaf (.truth (.inl rfl)) rfl (show (3 : Int) ≠ 23 by decide) rfl hd
    ·injection h with h; subst h; exact absurd h0 fun h => fail_err (by decide) h
   ·intro s r h hf h0
    rw [argsP] at h
    split at h
    ·injection h with h; subst h
     exact ⟨fun x hx => (by cases hx), fun k hk => (by cases hk)⟩
    ·rename_i hk
     obtain ⟨k1, _, k3⟩ := ih.aloop _ _ _ h hf h0 (fun x hx => (by cases hx)) (fun _ => by simpa using hk)
     exact ⟨k1, k3⟩
   ·intro l s r h hf h0 hl hb
    rw [aloopP] at h
    split at h
    ·rename_i he
     injection h with h; subst h; exact absurd h0 he
    ·rename_i he
     have hd := hf.d2 (by simpa using he)
     split at h
     ·cases h
     ·rename_i r1 h1
      have w1 : Went T s r1.2 := by
       split at h1
       ·injection h1 with h1; subst h1; exact Went.refl hf
       ·exact W.betw _ _ _ h1 hf
      have key : r1.2.err = 0 → (Nf r1.1 ∧ s.deep + r1.1.nest ≤ 40) := fun k0 => by
       split at h1
       ·injection h1 with h1; subst h1
        exact ⟨.miss, by show s.deep + ((0 : Nat) : Int) ≤ 40; omega⟩
       ·obtain ⟨k1, k2, k3⟩ := ih.betw _ _ _ h1 (by omega) hf k0
        have := (insD_le (((0 : Nat) : Int) + 1) r1.1.op r1.1.nest).1
        exact ⟨k1, by omega⟩
      have hmem : (Nf r1.1 ∧ s.deep + r1.1.nest ≤ 40) → ∀ x ∈ l ++ [r1.1], Nf x ∧ s.deep + x.nest ≤ 40 := fun k x hx => by
       rcases List.mem_append.1 hx with hx | hx
       ·exact hl x hx
       ·simp at hx; subst hx; exact k
      split at h
      ·rename_i hk
       have w2 := Went.next hT w1.fit (isOp_kind hk)
       have w3 := W.aloop _ _ _ h w2.fit
       have k1 := key (w2.e0 (w3.e0 h0))
       have hdd : r1.2.next.deep = s.deep := w1.deep
       obtain ⟨g1, g2, g3⟩ := ih.aloop _ _ _ h w2.fit h0 (by rw [hdd]; exact hmem k1) (fun e => by simp at e)
       rw [hdd] at g1
       rw [List.length_append, List.length_singleton] at g2
       refine ⟨g1, by omega, fun k hk' => ?_⟩
       rw [hk'] at g2
       simp at g2
      ·rename_i hk
       injection h with h; subst h
       obtain ⟨m1, m2⟩ := must_i (T := T) (s := r1.2) (x := [41]) h0
       have k1 := key m1
       refine ⟨hmem k1, by dsimp only; rw [List.length_append, List.length_singleton]; omega, fun k hk' => ?_⟩
       dsimp only at hk'
       cases l with
       | cons y l =>
         have := congrArg List.length hk'
         simp at this
       | nil =>
         simp only [List.nil_append, List.cons.injEq, and_true] at hk'
         subst hk'
         split at h1
         ·rename_i hor
          injection h1 with h1; subst h1
          exfalso
          rcases hor with hor | hor
          ·exact hk hor
          ·rw [hb rfl] at hor; cases hor
         ·exact (ih.betw _ _ _ h1 (by omega) hf m1).2.1
end
theorem parseR_nf {s : List UInt8} (h : (parseR s).2.2 = 0) : Nf (parseR s).1 ∧ (parseR s).1.op ≠ 23 ∧ (parseR s).1.nest ≤ 40 := by
 unfold parseR parseT at h ⊢
 by_cases h1 : (lexP s).2.2 = 0
 ·obtain ⟨hT, hL, hG⟩ := lex_toks h1
  obtain ⟨r, hr⟩ := betw_some h1
  have hr' := hr
  unfold st0 at hr
  rw [if_neg (by simp [h1]), hr] at h ⊢
  dsimp only at h ⊢
  obtain ⟨q, hq⟩ : ∃ q, (if (curT (lexP s).1 r.2).kind ≠ 0 then failP (lexP s).1 r.2 10 else r.2) = q := ⟨_, rfl⟩
  rw [hq] at h ⊢
  by_cases he : q.err ≠ 0
  ·rw [if_pos he] at h
   exact absurd h he
  ·rw [if_neg he]
   have h0 : r.2.err = 0 := by
    split at hq
    ·subst hq
     exact absurd (by simpa using he) fun h => fail_err (T := (lexP s).1) (s := r.2) (e := 10) (by decide) h
    ·subst hq
     simpa using he
   obtain ⟨g1, g2, g3⟩ := (nfF hT.ends hG (lex_nf h1) _).betw _ _ _ hr' (by omega) (st0_fit hT.ends) h0
   have hd0 : st0.deep = 0 := rfl
   have := (insD_le (((0 : Nat) : Int) + 1) r.1.op r.1.nest).1
   exact ⟨g1, g2, by show r.1.nest ≤ 40; omega⟩
 ·rw [if_pos (by simpa using h1)] at h
  exact absurd h h1
/-! Grown trees. -/
end Go.A
namespace Go.A
open Go.Proofs Go.Lib
theorem mov_in {e : Edt} (h : e.six) (k : e.kind = 3) {i : Int} (i0 : 0 ≤ i) (i1 : i < e.most) : 0 ≤ (e.place i).1 ∧ (e.place i).1 < e.most := by
 have hm := most_rng e
 obtain ⟨a0, n1, hk⟩ := h
 rcases place_mov k i with ⟨p1, p2, p3⟩ | ⟨p1, p3⟩
 ·rw [p3]; dsimp only; omega
 ·rw [p3]; dsimp only
  have h1 := ahead_eq e.at' (-e.n) i
  have h2 := ahead_eq e.dst e.n (ahead e.at' (-e.n) i)
  omega
theorem place_in {e : Edt} (h : e.six) {i : Int} (i0 : 0 ≤ i) (i1 : i < e.most) (hp : (e.place i).2 = true) : 0 ≤ (e.place i).1 ∧ (e.place i).1 < e.most := by
 have hm := most_rng e
 have hh := h
 obtain ⟨a0, n1, hk⟩ := h
 rcases hk with ⟨k, _⟩ | ⟨k, _⟩ | ⟨k, _⟩
 ·rw [place_ins k] at hp ⊢
  have := of_decide_eq_true hp
  have h1 := ahead_eq e.at' e.n i
  dsimp only
  omega
 ·by_cases hr : e.at' ≤ i ∧ i < e.at' + e.n
  ·rw [place_gone k hr] at hp; cases hp
  ·rw [place_del k hr]
   have h1 := ahead_eq e.at' (-e.n) i
   dsimp only
   omega
 ·exact mov_in hh k i0 i1
theorem span_in {e : Edt} (h : e.six) {f t : Int} (f0 : 0 ≤ f) (ft : f ≤ t) (t1 : t < e.most) (hp : (e.span f t).2.2 = true) :
  0 ≤ (e.span f t).1 ∧ (e.span f t).1 < e.most ∧ 0 ≤ (e.span f t).2.1 ∧ (e.span f t).2.1 < e.most := by
 have hm := most_rng e
 have hh := h
 obtain ⟨a0, n1, hk⟩ := h
 unfold Edt.span at hp ⊢
 rcases hk with ⟨k, _⟩ | ⟨k, _⟩ | ⟨k, _⟩
 ·rw [if_pos k] at hp ⊢
  by_cases h1 : (e.place f).2 = true
  ·rw [if_pos h1]
   have r1 := place_in hh f0 (by omega) h1
   dsimp only
   by_cases h2 : (e.place t).2 = true
   ·rw [if_pos h2]
    have r2 := place_in hh (by omega) t1 h2
    omega
   ·rw [if_neg h2]; omega
  ·rw [if_neg h1] at hp; cases hp
 ·rw [if_neg (by omega), if_pos k] at hp ⊢
  by_cases hd : e.at' ≤ f ∧ t < e.at' + e.n
  ·rw [if_pos hd] at hp; cases hp
  ·rw [if_neg hd]
   have key : ∀ i, 0 ≤ i → i < e.most → ¬ (e.at' ≤ i ∧ i < e.at' + e.n) → 0 ≤ (e.place i).1 ∧ (e.place i).1 < e.most := fun i i0 i1 hi => by
    rw [place_del k hi]
    have h1 := ahead_eq e.at' (-e.n) i
    dsimp only
    omega
   dsimp only
   by_cases c1 : e.at' ≤ f ∧ f < e.at' + e.n
   ·rw [if_pos c1]
    have r1 := key (e.at' + e.n) (by omega) (by omega) (by omega)
    rw [if_neg (c := e.at' ≤ t ∧ t < e.at' + e.n) (by omega)]
    have r2 := key t (by omega) (by omega) (by omega)
    omega
   ·rw [if_neg c1]
    have r1 := key f (by omega) (by omega) c1
    by_cases c2 : e.at' ≤ t ∧ t < e.at' + e.n
    ·rw [if_pos c2]
     have r2 := key (e.at' - 1) (by omega) (by omega) (by omega)
     omega
    ·rw [if_neg c2]
     have r2 := key t (by omega) (by omega) c2
     omega
 ·rw [if_neg (by omega), if_neg (by omega)]
  have r1 := mov_in hh k f0 (by omega)
  have r2 := mov_in hh k (i := t) (by omega) t1
  dsimp only
  omega
theorem of_in {e : Edt} {a : Ref} (h : a.good = true) : 0 ≤ e.of a ∧ e.of a < e.most := by
 simp only [Ref.good, decide_eq_true_eq] at h
 unfold Edt.of Edt.most
 split <;> omega
theorem cell_is (e : Edt) (a b : Ref) : e.node (.mk 5 0 [] a b []) = goneN ∧ ¬ (e.place (e.of a)).2 = true ∨ (e.place (e.of a)).2 = true ∧ e.node (.mk 5 0 [] a b []) = .mk 5 0 [] (e.set a (e.place (e.of a)).1) b [] := by
 have h : e.node (.mk 5 0 [] a b []) = if (e.place (e.of a)).2 = true then .mk 5 0 [] (e.set a (e.place (e.of a)).1) b [] else goneN := rfl
 rw [h]
 by_cases q : (e.place (e.of a)).2 = true
 ·exact .inr ⟨q, if_pos q⟩
 ·exact .inl ⟨if_neg q, q⟩
def Edt.ends (e : Edt) (x y : Int) : Int × Int := if y < x then ((e.span (min x y) (max x y)).2.1, (e.span (min x y) (max x y)).1) else ((e.span (min x y) (max x y)).1, (e.span (min x y) (max x y)).2.1)
def Edt.left (e : Edt) (x y : Int) : Prop := (e.span (min x y) (max x y)).2.2 = true
theorem area_is (e : Edt) (a b : Ref) : e.node (.mk 6 0 [] a b []) = goneN ∧ ¬ e.left (e.of a) (e.of b) ∨ e.left (e.of a) (e.of b) ∧ e.node (.mk 6 0 [] a b []) = .mk 6 0 [] (e.set a (e.ends (e.of a) (e.of b)).1) (e.set b (e.ends (e.of a) (e.of b)).2) [] := by
 have h : e.node (.mk 6 0 [] a b []) = e.area (.mk 6 0 [] a b []) := rfl
 rw [h, Edt.area]
 unfold Edt.left Edt.ends
 by_cases q : (e.span (min (e.of a) (e.of b)) (max (e.of a) (e.of b))).2.2 = true
 ·right
  refine ⟨q, ?_⟩
  rw [if_pos q]
  split <;> rfl
 ·exact .inl ⟨if_neg q, q⟩
theorem ends_in {e : Edt} (h : e.six) {a b : Ref} (ha : a.good = true) (hb : b.good = true) (hl : e.left (e.of a) (e.of b)) :
  (e.set a (e.ends (e.of a) (e.of b)).1).good = true ∧ (e.set b (e.ends (e.of a) (e.of b)).2).good = true := by
 have h1 := of_in (e := e) ha
 have h2 := of_in (e := e) hb
 have hs := span_in h (f := min (e.of a) (e.of b)) (t := max (e.of a) (e.of b)) (by omega) (by omega) (by omega) hl
 unfold Edt.ends
 split
 ·exact ⟨set_good ha hs.2.2.1 hs.2.2.2, set_good hb hs.1 hs.2.1⟩
 ·exact ⟨set_good ha hs.1 hs.2.1, set_good hb hs.2.2.1 hs.2.2.2⟩
theorem gone_nf : Nf goneN := Nf.fail (k := 3) (by decide)
theorem tree_nf {e : Edt} (h : e.six) {n : Nd} (hn : Nf n) : Nf (e.tree n) ∧ (n.op ≠ 23 → (e.tree n).op ≠ 23) ∧ levelP (e.tree n).op = levelP n.op ∧ (e.tree n).nest = n.nest ∧ (e.tree n).size = n.size := by
 have one : ∀ (op : Int) (m : Int) (s : List UInt8) (a b : Ref) (ks : List Nd), ¬ (op = 5 ∨ op = 6) → e.tree (.mk op m s a b ks) = .mk op m s a b (ks.map e.tree) := fun op m s a b ks ho => by
  show Nd.map e.node _ = _
  rw [Nd.map, if_neg ho, Nd.maps_map]
  rfl
 have hk : ∀ (ks : List Nd), (∀ x ∈ ks, (e.tree x).size = x.size) → Nd.sizes (ks.map e.tree) = Nd.sizes ks := by
  intro ks
  induction ks with
  | nil => intro _; rfl
  | cons x l ih =>
    intro hx
    rw [List.map_cons, Nd.sizes, Nd.sizes, hx x (by simp), ih fun y hy => hx y (by simp [hy])]
 have hi : ∀ (least : Int) (x y : Nd), levelP x.op = levelP y.op → x.nest = y.nest → insD least x.op x.nest = insD least y.op y.nest := fun least x y h1 h2 => by
  unfold insD
  rw [h1, h2]
 induction hn with
 | num h0 h1 => rw [one _ _ _ _ _ _ (by decide)]; exact ⟨.num h0 h1, fun h => h, rfl, rfl, rfl⟩
 | text h0 h1 => rw [one _ _ _ _ _ _ (by decide)]; exact ⟨.text h0 h1, fun h => h, rfl, rfl, rfl⟩
 | truth h0 => rw [one _ _ _ _ _ _ (by decide)]; exact ⟨.truth h0, fun h => h, rfl, rfl, rfl⟩
 | fail h0 => rw [one _ _ _ _ _ _ (by decide)]; exact ⟨.fail h0, fun h => h, rfl, rfl, rfl⟩
 | @cell r hr =>
   have ht : e.tree (.mk 5 0 [] r .zero []) = e.node (.mk 5 0 [] r .zero []) := by
    show Nd.map e.node _ = _
    rw [Nd.map, if_pos (.inl rfl)]
   rw [ht]
   rcases cell_is e r .zero with ⟨h1, _⟩ | ⟨h1, h2⟩
   ·rw [h1]; exact ⟨gone_nf, fun _ => by decide, (by decide : levelP 4 = levelP 5), rfl, rfl⟩
   ·rw [h2]
    have hp := of_in (e := e) hr
    have hq := place_in h hp.1 hp.2 h1
    exact ⟨.cell (set_good hr hq.1 hq.2), fun h => h, rfl, rfl, rfl⟩
 | @area r q hr hq =>
   have ht : e.tree (.mk 6 0 [] r q []) = e.node (.mk 6 0 [] r q []) := by
    show Nd.map e.node _ = _
    rw [Nd.map, if_pos (.inr rfl)]
   rw [ht]
   rcases area_is e r q with ⟨h1, _⟩ | ⟨h1, h2⟩
   ·rw [h1]; exact ⟨gone_nf, fun _ => by decide, (by decide : levelP 4 = levelP 6), rfl, rfl⟩
   ·rw [h2]
    have hp := ends_in h hr hq h1
    exact ⟨.area hp.1 hp.2, fun h => h, rfl, rfl, rfl⟩
 | @sign op x ho hx hne ih =>
   rw [one _ _ _ _ _ _ (by omega)]
   refine ⟨.sign ho ih.1 (ih.2.1 hne), fun h => h, rfl, ?_, ?_⟩
   ·rw [List.map_cons, List.map_nil, nest_sign ho, nest_sign ho, hi 6 _ _ ih.2.2.1 ih.2.2.2.1]
   ·rw [Nd.size, Nd.size, hk _ fun y hy => by rw [List.mem_singleton.1 hy]; exact ih.2.2.2.2]
 | @hund x hx hne ih =>
   rw [one _ _ _ _ _ _ (by decide)]
   refine ⟨.hund ih.1 (ih.2.1 hne), fun h => h, rfl, ?_, ?_⟩
   ·rw [List.map_cons, List.map_nil, nest_hund, nest_hund, hi 7 _ _ ih.2.2.1 ih.2.2.2.1]
   ·rw [Nd.size, Nd.size, hk _ fun y hy => by rw [List.mem_singleton.1 hy]; exact ih.2.2.2.2]
 | @bin i x y hi' hx hnx hy hny ihx ihy =>
   rw [one _ _ _ _ _ _ (by omega)]
   refine ⟨.bin hi' ihx.1 (ihx.2.1 hnx) ihy.1 (ihy.2.1 hny), fun h => h, rfl, ?_, ?_⟩
   ·rw [List.map_cons, List.map_cons, List.map_nil, nest_bin hi', nest_bin hi', hi _ _ _ ihx.2.2.1 ihx.2.2.2.1, hi _ _ _ ihy.2.2.1 ihy.2.2.2.1]
   ·rw [Nd.size, Nd.size, hk _ fun z hz => by
     simp only [List.mem_cons, List.not_mem_nil, or_false] at hz
     rcases hz with rfl | rfl
     ·exact ihx.2.2.2.2
     ·exact ihy.2.2.2.2]
 | @call s ks hs hl hkk hm ih =>
   rw [one _ _ _ _ _ _ (by decide)]
   refine ⟨.call hs hl (fun k hk => ?_) (fun k hk => ?_), fun h => h, rfl, ?_, ?_⟩
   ·obtain ⟨x, hx, rfl⟩ := List.mem_map.1 hk
    exact (ih x hx).1
   ·match ks, hk with
    | [x], hk =>
      injection hk with hk
      rw [← hk]
      exact (ih x (by simp)).2.1 (hm x rfl)
   ·rw [nest_call, nest_call, List.map_map]
    have : ks.map (Nd.nest ∘ e.tree) = ks.map Nd.nest := List.map_congr_left fun x hx => (ih x hx).2.2.2.1
    rw [this]
   ·rw [Nd.size, Nd.size, hk _ fun y hy => (ih y hy).2.2.2.2]
 | miss => rw [one _ _ _ _ _ _ (by decide)]; exact ⟨.miss, fun h => h, rfl, rfl, rfl⟩
theorem tree_gd {e : Edt} (h : e.six) {n : Nd} (hg : n.gd) : (e.tree n).gd := by
 refine map_gd hg (Nd.allR_mono (fun x ho hx => ?_) (gd_refs hg))
 obtain ⟨op, m, s, a, b, ks⟩ := x
 change op = 5 ∨ op = 6 at ho
 have hk : ks = [] := by
  have := hx.2
  rw [Nd.nk] at this
  exact this.1 ho
 subst hk
 obtain ⟨g1, g2⟩ := ok_refs hx.1
 have hok := hx.1
 rw [Nd.ok] at hok
 obtain ⟨⟨e1, e2, e3, e4, e5, e6, e7, e8, e9, e10⟩, _⟩ := hok
 have oa := of_in (e := e) (g1 ho)
 by_cases h5 : op = 5
 ·subst h5
  have hn : e.node (.mk 5 m s a b []) = e.cell (.mk 5 m s a b []) := rfl
  rw [hn, Edt.cell]
  by_cases hp : (e.place (e.of a)).2 = true
  ·rw [if_pos hp]
   have r := place_in h oa.1 oa.2 hp
   have gs := set_good (e := e) (g1 ho) r.1 r.2
   exact leaf_gd ⟨e1, e2, e3, e4, e5, fun _ => gs, e7, e8, e9, e10⟩
  ·rw [if_neg hp]
   exact gone_gd
 ·obtain rfl : op = 6 := ho.resolve_left h5
  have ob := of_in (e := e) (g2 rfl)
  have hn : e.node (.mk 6 m s a b []) = e.area (.mk 6 m s a b []) := rfl
  rw [hn, Edt.area]
  have q0 : 0 ≤ min (e.of a) (e.of b) := by clear e4 e9 e8; omega
  have q1 : min (e.of a) (e.of b) ≤ max (e.of a) (e.of b) := by clear e4 e9 e8; omega
  have q2 : max (e.of a) (e.of b) < e.most := by clear e4 e9 e8; omega
  have hr := span_in h q0 q1 q2
  generalize e.span (min (e.of a) (e.of b)) (max (e.of a) (e.of b)) = w at *
  by_cases hp : w.2.2 = true
  ·rw [if_pos hp]
   obtain ⟨r1, r2, r3, r4⟩ := hr hp
   split
   ·exact leaf_gd ⟨e1, e2, e3, e4, e5, fun _ => set_good (g1 ho) r3 r4, fun _ => set_good (g2 rfl) r1 r2, e8, e9, e10⟩
   ·exact leaf_gd ⟨e1, e2, e3, e4, e5, fun _ => set_good (g1 ho) r1 r2, fun _ => set_good (g2 rfl) r3 r4, e8, e9, e10⟩
  ·rw [if_neg hp]
   exact gone_gd
theorem commute_law {r c : Edt} (hr : r.cols = false) (hc : c.cols = true) {n : Nd} (hn : Nf n) : c.tree (r.tree n) = r.tree (c.tree n) := by
 have one : ∀ (e : Edt) (op : Int) (m : Int) (s : List UInt8) (a b : Ref) (ks : List Nd), ¬ (op = 5 ∨ op = 6) → e.tree (.mk op m s a b ks) = .mk op m s a b (ks.map e.tree) := fun e op m s a b ks ho => by
  show Nd.map e.node _ = _
  rw [Nd.map, if_neg ho, Nd.maps_map]
  rfl
 have fiv : ∀ (e : Edt) (a b : Ref), e.tree (.mk 5 0 [] a b []) = e.node (.mk 5 0 [] a b []) := fun e a b => by
  show Nd.map e.node _ = _
  rw [Nd.map, if_pos (.inl rfl)]
 have six : ∀ (e : Edt) (a b : Ref), e.tree (.mk 6 0 [] a b []) = e.node (.mk 6 0 [] a b []) := fun e a b => by
  show Nd.map e.node _ = _
  rw [Nd.map, if_pos (.inr rfl)]
 have gon : ∀ e : Edt, e.tree goneN = goneN := fun e => one e _ _ _ _ _ _ (by decide)
 have lf : ∀ (op m : Int) (s : List UInt8), ¬ (op = 5 ∨ op = 6) → c.tree (r.tree (.mk op m s .zero .zero [])) = r.tree (c.tree (.mk op m s .zero .zero [])) := fun op m s ho => by
  have h1 : ∀ e : Edt, e.tree (.mk op m s .zero .zero []) = .mk op m s .zero .zero [] := fun e => one e op m s _ _ _ ho
  rw [h1 r, h1 c, h1 r]
 have or' : ∀ a, r.of a = a.row := fun a => by unfold Edt.of; rw [if_neg (by simp [hr])]
 have oc : ∀ a, c.of a = a.col := fun a => by unfold Edt.of; rw [if_pos hc]
 have sr : ∀ a i, r.set a i = ⟨i, a.col, a.absRow, a.absCol⟩ := fun a i => by unfold Edt.set; rw [if_neg (by simp [hr])]
 have sc : ∀ a i, c.set a i = ⟨a.row, i, a.absRow, a.absCol⟩ := fun a i => by unfold Edt.set; rw [if_pos hc]
 induction hn with
 | num h0 h1 => exact lf 1 _ _ (by decide)
 | text h0 h1 => exact lf 2 _ _ (by decide)
 | truth h0 => exact lf 3 _ _ (by decide)
 | fail h0 => exact lf 4 _ _ (by decide)
 | @cell a ha =>
   rw [fiv, fiv]
   rcases cell_is r a .zero with ⟨h1, n1⟩ | ⟨n1, h1⟩ <;> rcases cell_is c a .zero with ⟨h2, n2⟩ | ⟨n2, h2⟩ <;> rw [h1, h2]
   ·rw [gon, gon]
   ·rw [gon, fiv]
    rcases cell_is r (c.set a (c.place (c.of a)).1) .zero with ⟨h3, n3⟩ | ⟨n3, h3⟩
    ·rw [h3]
    ·rw [or', sc] at n3
     rw [or'] at n1
     exact absurd n3 n1
   ·rw [gon, fiv]
    rcases cell_is c (r.set a (r.place (r.of a)).1) .zero with ⟨h3, n3⟩ | ⟨n3, h3⟩
    ·rw [h3]
    ·rw [oc, sr] at n3
     rw [oc] at n2
     exact absurd n3 n2
   ·rw [fiv, fiv]
    rcases cell_is c (r.set a (r.place (r.of a)).1) .zero with ⟨h3, n3⟩ | ⟨n3, h3⟩
    ·rw [oc, sr] at n3
     rw [oc] at n2
     exact absurd n2 n3
    rcases cell_is r (c.set a (c.place (c.of a)).1) .zero with ⟨h4, n4⟩ | ⟨n4, h4⟩
    ·rw [or', sc] at n4
     rw [or'] at n1
     exact absurd n1 n4
    rw [h3, h4]
    simp only [or', oc, sr, sc]
 | @area a b ha hb =>
   rw [six, six]
   rcases area_is r a b with ⟨h1, n1⟩ | ⟨n1, h1⟩ <;> rcases area_is c a b with ⟨h2, n2⟩ | ⟨n2, h2⟩ <;> rw [h1, h2]
   ·rw [gon, gon]
   ·rw [gon, six]
    rcases area_is r (c.set a (c.ends (c.of a) (c.of b)).1) (c.set b (c.ends (c.of a) (c.of b)).2) with ⟨h3, n3⟩ | ⟨n3, h3⟩
    ·rw [h3]
    ·rw [or', or', sc, sc] at n3
     rw [or', or'] at n1
     exact absurd n3 n1
   ·rw [gon, six]
    rcases area_is c (r.set a (r.ends (r.of a) (r.of b)).1) (r.set b (r.ends (r.of a) (r.of b)).2) with ⟨h3, n3⟩ | ⟨n3, h3⟩
    ·rw [h3]
    ·rw [oc, oc, sr, sr] at n3
     rw [oc, oc] at n2
     exact absurd n3 n2
   ·rw [six, six]
    rcases area_is c (r.set a (r.ends (r.of a) (r.of b)).1) (r.set b (r.ends (r.of a) (r.of b)).2) with ⟨h3, n3⟩ | ⟨n3, h3⟩
    ·rw [oc, oc, sr, sr] at n3
     rw [oc, oc] at n2
     exact absurd n2 n3
    rcases area_is r (c.set a (c.ends (c.of a) (c.of b)).1) (c.set b (c.ends (c.of a) (c.of b)).2) with ⟨h4, n4⟩ | ⟨n4, h4⟩
    ·rw [or', or', sc, sc] at n4
     rw [or', or'] at n1
     exact absurd n1 n4
    rw [h3, h4]
    simp only [or', oc, sr, sc]
 | @sign op x ho hx hne ih =>
   rw [one _ _ _ _ _ _ _ (by omega), one _ _ _ _ _ _ _ (by omega), one _ _ _ _ _ _ _ (by omega), one _ _ _ _ _ _ _ (by omega)]
   simp only [List.map_cons, List.map_nil, ih]
 | @hund x hx hne ih =>
   rw [one _ _ _ _ _ _ _ (by decide), one _ _ _ _ _ _ _ (by decide), one _ _ _ _ _ _ _ (by decide), one _ _ _ _ _ _ _ (by decide)]
   simp only [List.map_cons, List.map_nil, ih]
 | @bin i x y hi' hx hnx hy hny ihx ihy =>
   rw [one _ _ _ _ _ _ _ (by omega), one _ _ _ _ _ _ _ (by omega), one _ _ _ _ _ _ _ (by omega), one _ _ _ _ _ _ _ (by omega)]
   simp only [List.map_cons, List.map_nil, ihx, ihy]
 | @call s ks hs hl hkk hm ih =>
   rw [one _ _ _ _ _ _ _ (by decide), one _ _ _ _ _ _ _ (by decide), one _ _ _ _ _ _ _ (by decide), one _ _ _ _ _ _ _ (by decide)]
   rw [List.map_map, List.map_map]
   have : ks.map (c.tree ∘ r.tree) = ks.map (r.tree ∘ c.tree) := List.map_congr_left fun x hx => ih x hx
   rw [this]
 | miss => exact lf 23 _ _ (by decide)
end Go.A
namespace Go.A
open Go.Proofs
/-! 3: tabular/tabulartop.TabularCommutes -/
def c3_21 : ACode := .seq (.ops [ oe 4 (.box (.t 1)), oe 5 (.box (.t 2)), oq 6 (.mv (.v (.bool false)))]) (.seq (.seq (.ops [ oe 10 (.call 6 []), oq 11 (.un .not (.t 10))]) (.cond (.t 11) (.seq (.ops [ oq 6 (.mv (.v (.bool false)))]) .ret) .skip)) (.seq (.ops [ oq 13 (.mv (.t 0)), oe 14 (.call 8 [(.t 13), (.v (.int .i64 300))]), oe 15 (.call 7 [(.t 14)]), oq 12 (.mv (.t 15)), oq 16 (.ext 0 (.t 12)), oq 17 (.ext 1 (.t 12)), oq 18 (.ext 2 (.t 12)), oe 7 (.alloc [(.int .i64 0), (.int .i64 0), (.str []), (.int .i64 0), (.int .i64 0), (.bool false), (.bool false), (.int .i64 0), (.int .i64 0), (.bool false), (.bool false), (.sl .full [])]), oz (.store 12 (.t 7) (.t 16)), oq 8 (.mv (.t 17)), oq 9 (.mv (.t 18))]) (.seq (.ops [ oq 19 (.fa 0 (.t 4)), oz (.store 1 (.t 19) (.v (.bool false)))]) (.seq (.ops [ oq 20 (.fa 0 (.t 5)), oz (.store 1 (.t 20) (.v (.bool true)))]) (.seq (.seq (.ops [ oq 21 (.mv (.t 9)), oq 22 (.bin .neq (.t 21) (.v (.int .i64 0))), oq 23 (.mv (.t 22)), ⟨some 24, some (23, false), .q (.ld (some 5) (.t 4)), []⟩, ⟨some 25, some (23, false), .e (.call 9 [(.t 24), (.v (.int .i64 600))]), []⟩, ⟨some 26, some (23, false), .q (.un .not (.t 25)), []⟩, oq 27 (.pick (.t 23) (.v (.bool true)) (.t 26)), oq 28 (.mv (.t 27)), ⟨some 29, some (28, false), .q (.ld (some 5) (.t 5)), []⟩, ⟨some 30, some (28, false), .e (.call 9 [(.t 29), (.v (.int .i64 600))]), []⟩, ⟨some 31, some (28, false), .q (.un .not (.t 30)), []⟩, oq 32 (.pick (.t 28) (.v (.bool true)) (.t 31))]) (.cond (.t 32) (.seq (.ops [ oq 6 (.mv (.v (.bool true)))]) .ret) .skip)) (.seq (.ops [ oq 33 (.ld (some 5) (.t 5)), oq 34 (.ld (some 5) (.t 4)), oq 35 (.ld (some 12) (.t 7)), oq 38 (.ld (some 5) (.t 4)), oq 39 (.ld (some 5) (.t 5)), oq 40 (.ld (some 12) (.t 7)), ⟨some 36, none, .e (.call 11 [(.t 34), (.t 35)]), [⟨none, .ld (some 5) (.t 5), 33⟩, ⟨none, .ld (some 5) (.t 4), 38⟩, ⟨none, .ld (some 5) (.t 5), 39⟩, ⟨none, .ld (some 12) (.t 7), 40⟩]⟩, ⟨some 37, none, .e (.call 11 [(.t 33), (.t 36)]), [⟨none, .ld (some 5) (.t 4), 38⟩, ⟨none, .ld (some 5) (.t 5), 39⟩, ⟨none, .ld (some 12) (.t 7), 40⟩]⟩, ⟨some 41, none, .e (.call 11 [(.t 39), (.t 40)]), [⟨none, .ld (some 5) (.t 4), 38⟩]⟩, oe 42 (.call 11 [(.t 38), (.t 41)]), oe 43 (.call 10 [(.t 37), (.t 42)]), oq 6 (.mv (.t 43))]) .ret))))))
@[go_sem] def c3_21_wp := wp_of c3_21.eq_1
def c3 : AFn := ⟨44, [.t 6], c3_21⟩
theorem c3_ok : compF Tryz.prog Tryz.f3 = some c3 := by kernel_rfl
theorem a3 {args : List AV} {σ : ASt} {R : AV → ASt → Prop} (hl : args.length ≤ 44) (h : c3_21.wp Tryz.prog (RetQ [.t 6] R) (init args) σ) : ACalls Tryz.prog 3 args σ R := acalls_of Tryz.func3 c3_ok hl h
end Go.A
namespace Go.A
open Go.Proofs Go.Lib
set_option maxHeartbeats 2000000 in
theorem TabularCommutes_any {σ : ASt} (hC : CkT σ) (hU : U8 σ) (hV : LV σ) (s : List UInt8) (p1 p2 : Bool) (k1 a1 n1 d1 k2 a2 n2 d2 : Int) :
  ACalls Tryz.prog 3 [.str s, .agg [.bool p1, .int .i64 k1, .int .i64 a1, .int .i64 n1, .int .i64 d1], .agg [.bool p2, .int .i64 k2, .int .i64 a2, .int .i64 n2, .int .i64 d2]] σ fun v σ' => v = .bool true ∧ σ' = σ := by
 have hL : ∀ τ, CkT τ → ACalls Tryz.prog 6 [] τ fun v σ' => v = .bool true ∧ σ' = τ := fun τ h => live_ok h
 have hc : Pure Tryz.prog 8 [.str s, .int .i64 300] (.str (s.take 300)) := cut_ok s 300
 have hlen : (s.take 300).length ≤ 1000000000 := by rw [List.length_take]; omega
 have hP := fun (τ : ASt) (h1 : U8 τ) (h2 : LV τ) => parseR_ok h1 h2 (s.take 300) hlen
 have hgd := parseR_gd (s := s.take 300)
 have hnf := parseR_nf (s := s.take 300)
 obtain ⟨⟨n, k, er⟩, hR⟩ : ∃ R, parseR (s.take 300) = R := ⟨_, rfl⟩
 rw [hR] at hP hgd hnf
 dsimp only at hP hgd hnf
 clear hR
 generalize s.take 300 = s' at *
 have hgr : Pure Tryz.prog 9 [.agg [.bool false, .int .i64 k1, .int .i64 a1, .int .i64 n1, .int .i64 d1], .int .i64 600] (.bool ((Edt.mk false k1 a1 n1 d1).good 600)) := shgood_ok ⟨false, k1, a1, n1, d1⟩ 600
 have hgc : Pure Tryz.prog 9 [.agg [.bool true, .int .i64 k2, .int .i64 a2, .int .i64 n2, .int .i64 d2], .int .i64 600] (.bool ((Edt.mk true k2 a2 n2 d2).good 600)) := shgood_ok ⟨true, k2, a2, n2, d2⟩ 600
 by_cases he : er = 0
 ·obtain ⟨hg, hsz⟩ := hgd he
  obtain ⟨hn, hn2, hn3⟩ := hnf he
  subst he
  have pre : ∀ (Q : Prop), ((Edt.mk false k1 a1 n1 d1).good 600 = true → (Edt.mk true k2 a2 n2 d2).good 600 = true → Q) → ((Edt.mk false k1 a1 n1 d1).good 600 = false → Q) → ((Edt.mk false k1 a1 n1 d1).good 600 = true → (Edt.mk true k2 a2 n2 d2).good 600 = false → Q) → Q := fun Q q1 q2 q3 => by
   cases h1 : (Edt.mk false k1 a1 n1 d1).good 600 with
   | false => exact q2 h1
   | true =>
     cases h2 : (Edt.mk true k2 a2 n2 d2).good 600 with
     | false => exact q3 h1 h2
     | true => exact q1 h1 h2
  refine pre _ (fun g1 g2 => ?_) (fun g1 => ?_) (fun g1 g2 => ?_)
  ·rw [g1] at hgr
   rw [g2] at hgc
   have s1 := good_six g1
   have s2 := good_six g2
   obtain ⟨f1, _, _, _, z1⟩ := tree_nf s1 hn
   obtain ⟨f2, _, _, _, z2⟩ := tree_nf s2 hn
   have y1 := tree_gd s1 hg
   have y2 := tree_gd s2 hg
   have z3 := (tree_nf s2 f1).2.2.2.2
   have z4 := (tree_nf s1 f2).2.2.2.2
   have hcm := commute_law (r := ⟨false, k1, a1, n1, d1⟩) (c := ⟨true, k2, a2, n2, d2⟩) rfl rfl hn
   have t1 : Pure Tryz.prog 11 [.agg [.bool false, .int .i64 k1, .int .i64 a1, .int .i64 n1, .int .i64 d1], n.av] ((Edt.mk false k1 a1 n1 d1).tree n).av := shtree_ok ⟨false, k1, a1, n1, d1⟩ (Edt.good_fit g1) n hg.1 (by omega)
   have t2 : Pure Tryz.prog 11 [.agg [.bool true, .int .i64 k2, .int .i64 a2, .int .i64 n2, .int .i64 d2], n.av] ((Edt.mk true k2 a2 n2 d2).tree n).av := shtree_ok ⟨true, k2, a2, n2, d2⟩ (Edt.good_fit g2) n hg.1 (by omega)
   have t3 : Pure Tryz.prog 11 [.agg [.bool true, .int .i64 k2, .int .i64 a2, .int .i64 n2, .int .i64 d2], ((Edt.mk false k1 a1 n1 d1).tree n).av] ((Edt.mk true k2 a2 n2 d2).tree ((Edt.mk false k1 a1 n1 d1).tree n)).av := shtree_ok ⟨true, k2, a2, n2, d2⟩ (Edt.good_fit g2) _ y1.1 (by omega)
   have t4 : Pure Tryz.prog 11 [.agg [.bool false, .int .i64 k1, .int .i64 a1, .int .i64 n1, .int .i64 d1], ((Edt.mk true k2 a2 n2 d2).tree n).av] ((Edt.mk false k1 a1 n1 d1).tree ((Edt.mk true k2 a2 n2 d2).tree n)).av := shtree_ok ⟨false, k1, a1, n1, d1⟩ (Edt.good_fit g1) _ y2.1 (by omega)
   rw [← hcm] at t4 z4
   have hS := esame_ok ((Edt.mk true k2 a2 n2 d2).tree ((Edt.mk false k1 a1 n1 d1).tree n)) ((Edt.mk true k2 a2 n2 d2).tree ((Edt.mk false k1 a1 n1 d1).tree n)) (by omega) (by omega)
   rw [Nd.same_refl] at hS
   clear hgd hnf hg hn f1 f2 z1 z2 z3 z4 y1 y2 hcm s1 s2 g1 g2 hsz hn2 hn3
   generalize (Edt.mk true k2 a2 n2 d2).tree ((Edt.mk false k1 a1 n1 d1).tree n) = TA at *
   generalize (Edt.mk true k2 a2 n2 d2).tree n = TB at *
   generalize (Edt.mk false k1 a1 n1 d1).tree n = TC at *
   obtain ⟨op, m, x, a, b, ks⟩ := n
   obtain ⟨aop, am, ax, aa, ab, aks⟩ := TA
   obtain ⟨bop, bm, bx, ba, bb, bks⟩ := TB
   obtain ⟨cop, cm, cx, ca, cb, cks⟩ := TC
   simp only [Nd.av_cs] at hP t1 t2 t3 t4 hS
   generalize ks.map Nd.av = L at *
   generalize aks.map Nd.av = LA at *
   generalize bks.map Nd.av = LB at *
   generalize cks.map Nd.av = LC at *
   refine a3 (by simp) ?_
   simp (disch := first | assumption | omega) only [go_sem]
   refine boxC_by rfl fun c4 h4 => ?_
   have C1 := fun r => CkT.set (r := r) hC h4
   have U1 := fun r => U8.set (r := r) hU h4
   have V1 := fun r => LV.set (r := r) hV h4
   simp (disch := first | assumption | omega) only [go_sem, Nat.reduceEqDiff, ↓reduceIte]
   refine boxC_by rfl fun c5 h5 => ?_
   have C2 := fun r => CkT.set (r := r) (C1 _) h5
   have U2 := fun r => U8.set (r := r) (U1 _) h5
   have V2 := fun r => LV.set (r := r) (V1 _) h5
   repeat (with_reducible replace h5 := set_none h5; obtain ⟨_, _, h5⟩ := h5)
   simp (disch := first | assumption | omega) only [go_sem]
   refine (hL _ (C2 _)).mono ?_
   rintro v σ' ⟨rfl, rfl⟩
   simp (disch := first | assumption | omega) only [go_sem, reduceCtorEq, ↓reduceIte]
   refine hc.use ?_
   simp (disch := first | assumption | omega) only [go_sem, ↓reduceIte]
   refine (hP _ (U2 _) (V2 _)).mono ?_
   rintro v σ' ⟨rfl, rfl⟩
   simp (disch := first | assumption | omega) only [go_sem, Nat.reduceEqDiff, ↓reduceIte]
   refine allocC_by fun c7 h7 => ?_
   repeat (with_reducible replace h7 := set_none h7; obtain ⟨_, _, h7⟩ := h7)
   simp (disch := first | assumption | omega) only [go_sem, Nat.reduceEqDiff, Nat.reduceAdd, Nat.reduceLeDiff, ↓reduceIte, Bool.true_and, ASt.set_set]
   refine hgr.use ?_
   simp (disch := first | assumption | omega) only [go_sem, Nat.reduceEqDiff, Nat.reduceAdd, Nat.reduceLeDiff, ↓reduceIte]
   refine hgc.use ?_
   simp (disch := first | assumption | omega) only [go_sem, Nat.reduceEqDiff, Nat.reduceAdd, Nat.reduceLeDiff, ↓reduceIte, eq_self]
   refine t1.use ?_
   simp (disch := first | assumption | omega) only [go_sem, Nat.reduceEqDiff, Nat.reduceAdd, Nat.reduceLeDiff, ↓reduceIte, eq_self]
   refine t3.use ?_
   simp (disch := first | assumption | omega) only [go_sem, Nat.reduceEqDiff, Nat.reduceAdd, Nat.reduceLeDiff, ↓reduceIte, eq_self]
   refine t2.use ?_
   simp (disch := first | assumption | omega) only [go_sem, Nat.reduceEqDiff, Nat.reduceAdd, Nat.reduceLeDiff, ↓reduceIte, eq_self]
   refine t4.use ?_
   simp (disch := first | assumption | omega) only [go_sem, Nat.reduceEqDiff, ↓reduceIte]
   refine hS.use ?_
   simp (disch := first | assumption | omega) only [go_sem, ↓reduceIte]
   exact retC_by (by repeat' (first | exact Drop.refl _ | with_reducible refine Drop.off ?_ (by assumption))) (.refl _) ⟨rfl, rfl⟩
  ·rw [g1] at hgr
   clear hgd hnf hg hn
   obtain ⟨op, m, x, a, b, ks⟩ := n
   simp only [Nd.av_cs] at hP
   generalize ks.map Nd.av = L at *
   refine a3 (by simp) ?_
   simp (disch := first | assumption | omega) only [go_sem]
   refine boxC_by rfl fun c4 h4 => ?_
   have C1 := fun r => CkT.set (r := r) hC h4
   have U1 := fun r => U8.set (r := r) hU h4
   have V1 := fun r => LV.set (r := r) hV h4
   simp (disch := first | assumption | omega) only [go_sem, Nat.reduceEqDiff, ↓reduceIte]
   refine boxC_by rfl fun c5 h5 => ?_
   have C2 := fun r => CkT.set (r := r) (C1 _) h5
   have U2 := fun r => U8.set (r := r) (U1 _) h5
   have V2 := fun r => LV.set (r := r) (V1 _) h5
   repeat (with_reducible replace h5 := set_none h5; obtain ⟨_, _, h5⟩ := h5)
   simp (disch := first | assumption | omega) only [go_sem]
   refine (hL _ (C2 _)).mono ?_
   rintro v σ' ⟨rfl, rfl⟩
   simp (disch := first | assumption | omega) only [go_sem, reduceCtorEq, ↓reduceIte]
   refine hc.use ?_
   simp (disch := first | assumption | omega) only [go_sem, ↓reduceIte]
   refine (hP _ (U2 _) (V2 _)).mono ?_
   rintro v σ' ⟨rfl, rfl⟩
   simp (disch := first | assumption | omega) only [go_sem, Nat.reduceEqDiff, ↓reduceIte]
   refine allocC_by fun c7 h7 => ?_
   repeat (with_reducible replace h7 := set_none h7; obtain ⟨_, _, h7⟩ := h7)
   simp (disch := first | assumption | omega) only [go_sem, Nat.reduceEqDiff, Nat.reduceAdd, Nat.reduceLeDiff, ↓reduceIte, Bool.true_and, ASt.set_set]
   refine hgr.use ?_
   simp (disch := first | assumption | omega) only [go_sem, Nat.reduceEqDiff, ↓reduceIte]
   exact retC_by (by repeat' (first | exact Drop.refl _ | with_reducible refine Drop.off ?_ (by assumption))) (.refl _) ⟨rfl, rfl⟩
  ·rw [g1] at hgr
   rw [g2] at hgc
   clear hgd hnf hg hn
   obtain ⟨op, m, x, a, b, ks⟩ := n
   simp only [Nd.av_cs] at hP
   generalize ks.map Nd.av = L at *
   refine a3 (by simp) ?_
   simp (disch := first | assumption | omega) only [go_sem]
   refine boxC_by rfl fun c4 h4 => ?_
   have C1 := fun r => CkT.set (r := r) hC h4
   have U1 := fun r => U8.set (r := r) hU h4
   have V1 := fun r => LV.set (r := r) hV h4
   simp (disch := first | assumption | omega) only [go_sem, Nat.reduceEqDiff, ↓reduceIte]
   refine boxC_by rfl fun c5 h5 => ?_
   have C2 := fun r => CkT.set (r := r) (C1 _) h5
   have U2 := fun r => U8.set (r := r) (U1 _) h5
   have V2 := fun r => LV.set (r := r) (V1 _) h5
   repeat (with_reducible replace h5 := set_none h5; obtain ⟨_, _, h5⟩ := h5)
   simp (disch := first | assumption | omega) only [go_sem]
   refine (hL _ (C2 _)).mono ?_
   rintro v σ' ⟨rfl, rfl⟩
   simp (disch := first | assumption | omega) only [go_sem, reduceCtorEq, ↓reduceIte]
   refine hc.use ?_
   simp (disch := first | assumption | omega) only [go_sem, ↓reduceIte]
   refine (hP _ (U2 _) (V2 _)).mono ?_
   rintro v σ' ⟨rfl, rfl⟩
   simp (disch := first | assumption | omega) only [go_sem, Nat.reduceEqDiff, ↓reduceIte]
   refine allocC_by fun c7 h7 => ?_
   repeat (with_reducible replace h7 := set_none h7; obtain ⟨_, _, h7⟩ := h7)
   simp (disch := first | assumption | omega) only [go_sem, Nat.reduceEqDiff, Nat.reduceAdd, Nat.reduceLeDiff, ↓reduceIte, Bool.true_and, ASt.set_set]
   refine hgr.use ?_
   simp (disch := first | assumption | omega) only [go_sem, Nat.reduceEqDiff, Nat.reduceAdd, Nat.reduceLeDiff, ↓reduceIte]
   refine hgc.use ?_
   simp (disch := first | assumption | omega) only [go_sem, Nat.reduceEqDiff, ↓reduceIte]
   exact retC_by (by repeat' (first | exact Drop.refl _ | with_reducible refine Drop.off ?_ (by assumption))) (.refl _) ⟨rfl, rfl⟩
 ·clear hgd hnf
  obtain ⟨op, m, x, a, b, ks⟩ := n
  simp only [Nd.av_cs] at hP
  generalize ks.map Nd.av = L at *
  refine a3 (by simp) ?_
  simp (disch := first | assumption | omega) only [go_sem]
  refine boxC_by rfl fun c4 h4 => ?_
  have C1 := fun r => CkT.set (r := r) hC h4
  have U1 := fun r => U8.set (r := r) hU h4
  have V1 := fun r => LV.set (r := r) hV h4
  simp (disch := first | assumption | omega) only [go_sem, Nat.reduceEqDiff, ↓reduceIte]
  refine boxC_by rfl fun c5 h5 => ?_
  have C2 := fun r => CkT.set (r := r) (C1 _) h5
  have U2 := fun r => U8.set (r := r) (U1 _) h5
  have V2 := fun r => LV.set (r := r) (V1 _) h5
  repeat (with_reducible replace h5 := set_none h5; obtain ⟨_, _, h5⟩ := h5)
  simp (disch := first | assumption | omega) only [go_sem]
  refine (hL _ (C2 _)).mono ?_
  rintro v σ' ⟨rfl, rfl⟩
  simp (disch := first | assumption | omega) only [go_sem, reduceCtorEq, ↓reduceIte]
  refine hc.use ?_
  simp (disch := first | assumption | omega) only [go_sem, ↓reduceIte]
  refine (hP _ (U2 _) (V2 _)).mono ?_
  rintro v σ' ⟨rfl, rfl⟩
  simp (disch := first | assumption | omega) only [go_sem, Nat.reduceEqDiff, ↓reduceIte]
  refine allocC_by fun c7 h7 => ?_
  repeat (with_reducible replace h7 := set_none h7; obtain ⟨_, _, h7⟩ := h7)
  simp (disch := first | assumption | omega) only [go_sem, Nat.reduceEqDiff, Nat.reduceAdd, Nat.reduceLeDiff, ↓reduceIte, Bool.true_and, he, ASt.set_set]
  exact retC_by (by repeat' (first | exact Drop.refl _ | with_reducible refine Drop.off ?_ (by assumption))) (.refl _) ⟨rfl, rfl⟩
end Go.A
namespace Go.Proofs.YthdpkgfdjmeaiaaGreatDoor
open Go Go.ChangeShapes Go.WideShapes Go.ChangeAt Go.RowKit Go.A Go.Lib Go.Shelf
theorem row_own : ownKnob Tryz.prog.godebug = none := by kernel_rfl
theorem row_laid : laidOutB Tryz.prog = true := by kernel_rfl
theorem first_eq : Rows.laid_unicode_utf8_first = firstData := by kernel_rfl
theorem acc_eq : (Rows.laid_unicode_utf8_acceptRanges : DataW Unit) = acceptData := by kernel_rfl
theorem u8_extra : U8Extra Tryz.prog Tryz.lays260_ren := ⟨by kernel_rfl, by kernel_rfl, by kernel_rfl, by kernel_rfl, by kernel_rfl, by kernel_rfl, by kernel_rfl⟩
theorem var_size {P : Program} {w : World} {n : String} {d : DataW Unit} (h : VarReads P w n d) {g : Nat} (hg : P.globalNamed n = some g) {t e : TypeId} {k : Nat} (hty : (P.globals[g]?).map (·.type) = some t) (ht : P.underlying t = some (.array k e)) :
  ∃ cs T fr, w.heap[g]? = some (.cells cs T fr) ∧ cs.size = P.cellsOf t := by
 obtain ⟨g', t', cs, fuel, p, hg', hty', hvar, hd⟩ := h
 obtain rfl := Option.some.inj (hg.symm.trans hg')
 obtain rfl := Option.some.inj (hty.symm.trans hty')
 have hlen : cs.toList.length = P.cellsOf t := by
  cases fuel with
  | zero => simp [DataW.trod] at hd
  | succ fuel =>
    simp only [DataW.trod, ht] at hd
    split at hd
    ·assumption
    ·cases hd
 unfold World.var? at hvar
 rw [hg, Option.bind_some] at hvar
 split at hvar
 ·rename_i cs' T fr hheap
  injection hvar with hvar
  subst hvar
  exact ⟨_, _, _, hheap, by simpa using hlen⟩
 ·cases hvar
theorem ints_reps {σ : ASt} {w : World} {k : IntKind} : ∀ zs : List Int, Reps σ w (zs.map (AV.int k)) (zs.map (Value.int k))
 | [] => .nil
 | z :: zs => .cons (.int k z) (ints_reps zs)
theorem fix_ok {σ : ASt} {W : World} {b : Nat} {zs : List Int} (hs : σ b = some (.fix (zs.map (AV.int .u8)))) {cs : Array Value} {T : TypeId} {fr : Nat × Nat} (hh : W.heap[b]? = some (.cells cs T fr)) (hsz : cs.size = zs.length)
  (hc : ∀ j z, zs[j]? = some z → W.cell? ⟨b, j, none⟩ = some (.int .u8 z)) : RoleOk σ W b (.fix (zs.map (AV.int .u8))) := by
 have hlt : b < W.heap.size := (Array.getElem?_eq_some_iff.1 hh).1
 refine ⟨At.mk' (ints_reps _) (fun j _ => ⟨hlt, .inr (.inl ⟨_, hs⟩)⟩) (fun j v hj => ?_), cs, T, fr, hh, by simpa using hsz⟩
 rw [List.getElem?_map] at hj
 obtain ⟨z, hz, rfl⟩ := Option.map_eq_some_iff.1 hj
 rw [Nat.zero_add]
 exact hc j z hz
def stOf : List (Nat × List AV) → ASt
 | [], _ => none
 | p :: ps, b => if b = p.1 then some (.fix p.2) else stOf ps b
theorem stOf_fix : ∀ {ps : List (Nat × List AV)} {b : Nat} {r : Role}, stOf ps b = some r → ∃ l, r = .fix l
 | [], _, _, h => by cases h
 | p :: ps, b, r, h => by
   simp only [stOf] at h
   split at h
   ·injection h with h; exact ⟨_, h.symm⟩
   ·exact stOf_fix h
theorem stOf_mem : ∀ {ps : List (Nat × List AV)} {b : Nat} {r : Role}, stOf ps b = some r → ∃ l, (b, l) ∈ ps ∧ r = .fix l
 | [], _, _, h => by cases h
 | p :: ps, b, r, h => by
   simp only [stOf] at h
   split at h
   ·rename_i hb
    injection h with h
    subst hb
    exact ⟨p.2, List.mem_cons_self, h.symm⟩
   ·obtain ⟨l, hl, he⟩ := stOf_mem h
    exact ⟨l, List.mem_cons_of_mem _ hl, he⟩
theorem still_fix {σ : ASt} (hfx : ∀ b r, σ b = some r → ∃ l, r = .fix l) {w : World} {b o : Nat} (h : b < w.heap.size) : Still σ w b o := by
 refine ⟨h, ?_⟩
 cases hb : σ b with
 | none => exact .inl rfl
 | some r => obtain ⟨l, rfl⟩ := hfx b r hb; exact .inr (.inl ⟨_, rfl⟩)
end Go.Proofs.YthdpkgfdjmeaiaaGreatDoor
namespace Go.A
section
variable {σ : ASt} {w : World}
theorem Still.fixed (hfx : ∀ b r, σ b = some r → ∃ l, r = .fix l) {b o : Nat} (h : Still noRole w b o) : Still σ w b o := by
 refine ⟨h.1, ?_⟩
 cases hb : σ b with
 | none => exact .inl rfl
 | some r => obtain ⟨l, rfl⟩ := hfx b r hb; exact .inr (.inl ⟨_, rfl⟩)
theorem Stands.fixed (hfx : ∀ b r, σ b = some r → ∃ l, r = .fix l) (b : Nat) : Stands σ b := by
 refine ⟨fun cs h => ?_, fun l p h => ?_, fun T cs h => ?_⟩ <;> (obtain ⟨l, hl⟩ := hfx b _ h; cases hl)
theorem SK.ok_fixed (hfx : ∀ b r, σ b = some r → ∃ l, r = .fix l) {k : SK} {b o n c sz : Nat} (h : k.ok noRole w b o n c sz) : k.ok σ w b o n c sz := by
 cases k with
 | shr => trivial
 | full => exact h
 | tok t s T => exact ⟨h.1, h.2.1, h.2.2.1, h.2.2.2.1, Stands.fixed hfx b⟩
mutual
theorem Rep.fixed (hfx : ∀ b r, σ b = some r → ∃ l, r = .fix l) : ∀ {a : AV} {v : Value}, Rep noRole w a v → Rep σ w a v
 | _, _, .any v => .any v
 | _, _, .bool b => .bool b
 | _, _, .int k n => .int k n
 | _, _, .str l => .str l
 | _, _, .ptr b o => .ptr b o
 | _, _, .imm h1 => .imm (h1.fixed hfx)
 | _, _, .nilp => .nilp
 | _, _, .slE A c => .slE A c
 | _, _, .slN => .slN
 | _, _, .sl h1 h2 h3 h4 h5 => .sl (h1.fixed hfx) h2 h3 (SK.ok_fixed hfx h4) h5
 | _, _, .msl b o n c => .msl b o n c
 | _, _, .agg h1 => .agg (h1.fixed hfx)
 | _, _, .tuple h1 => .tuple (h1.fixed hfx)
 | _, _, .iface h1 => .iface (h1.fixed hfx)
 | _, _, .nili => .nili
 | _, _, .func h1 h2 => .func (h1.fixed hfx) (h2.fixed hfx)
 | _, _, .nilf => .nilf
theorem Reps.fixed (hfx : ∀ b r, σ b = some r → ∃ l, r = .fix l) : ∀ {avs : List AV} {vs : List Value}, Reps noRole w avs vs → Reps σ w avs vs
 | _, _, .nil => .nil
 | _, _, .cons h1 h2 => .cons (h1.fixed hfx) (h2.fixed hfx)
theorem At.fixed (hfx : ∀ b r, σ b = some r → ∃ l, r = .fix l) : ∀ {b o : Nat} {avs : List AV}, At noRole w b o avs → At σ w b o avs
 | _, _, _, .nil b o => .nil b o
 | _, _, _, .cons h1 h2 h3 h4 => .cons (h1.fixed hfx) h2 (h3.fixed hfx) (h4.fixed hfx)
theorem Row.fixed (hfx : ∀ b r, σ b = some r → ∃ l, r = .fix l) : ∀ {b o sz : Nat} {avs : List AV}, Row noRole w b o sz avs → Row σ w b o sz avs
 | _, _, _, _, .nil b o sz => .nil b o sz
 | _, _, _, _, .cons h1 h2 h3 => .cons h1 (h2.fixed hfx) (h3.fixed hfx)
end
end
end Go.A
namespace Go.Proofs.YthdpkgfdjmeaiaaGreatDoor
open Go Go.ChangeShapes Go.WideShapes Go.ChangeAt Go.RowKit Go.A Go.Lib Go.Shelf
theorem u8_roles {σ : ASt} {W : World} (h3 : VarReads Tryz.prog W "unicode/utf8.first" firstData) (h4 : VarReads Tryz.prog W "unicode/utf8.acceptRanges" acceptData) :
  (σ 3 = some (.fix (firstTab.map (AV.int .u8))) → RoleOk σ W 3 (.fix (firstTab.map (AV.int .u8)))) ∧ (σ 4 = some (.fix (accTab.map (AV.int .u8))) → RoleOk σ W 4 (.fix (accTab.map (AV.int .u8)))) := by
 have hT := utf8Tabs_of_reads (ρ := Tryz.lays260_ren) Tryz.lays260 u8_extra h3 h4
 obtain ⟨hT1, hT2⟩ := hT
 have hT1 : ∀ c, c < 256 → W.cell? ⟨3, c, none⟩ = some (.int .u8 (firstT c)) := hT1
 have hT2 : ∀ i, i < 16 → W.cell? ⟨4, 2 * i, none⟩ = some (.int .u8 (accLo i)) ∧ W.cell? ⟨4, 2 * i + 1, none⟩ = some (.int .u8 (accHi i)) := hT2
 constructor
 ·intro hs
  obtain ⟨cs, T, fr, hh, hsz⟩ := var_size h3 (g := 3) (by kernel_rfl) u8_extra.y3 (Tryz.lays260.t119)
  refine fix_ok hs hh (hsz.trans (by kernel_rfl)) fun j z hj => ?_
  have hl := (List.getElem?_eq_some_iff.1 hj).1
  simp only [firstTab, List.length_map, List.length_range] at hl
  simp only [firstTab, List.getElem?_map, List.getElem?_range hl, Option.map_some, Option.some.injEq] at hj
  subst hj
  exact hT1 j hl
 ·intro hs
  obtain ⟨cs, T, fr, hh, hsz⟩ := var_size h4 (g := 4) (by kernel_rfl) u8_extra.y4 (Tryz.lays260.t139)
  refine fix_ok hs hh (hsz.trans (by kernel_rfl)) fun j z hj => ?_
  have hl := (List.getElem?_eq_some_iff.1 hj).1
  have key : ∀ j, j < 32 → accTab[j]? = some (if j % 2 = 0 then (accLo (j / 2) : Int) else accHi (j / 2)) := by decide
  have hl : j < 32 := hl
  rw [key j hl] at hj
  injection hj with hj
  subst hj
  obtain ⟨g1, g2⟩ := hT2 (j / 2) (by omega)
  split
  ·rw [show 2 * (j / 2) = j by omega] at g1; exact g1
  ·rw [show 2 * (j / 2) + 1 = j by omega] at g2; exact g2
theorem calls_st {ps : List (Nat × List AV)} {f : FuncId} {args : List AV} {vs : List Value} {w : World} (h : ACalls Tryz.prog f args (stOf ps) fun r σ' => r = .bool true ∧ σ' = stOf ps) (hs : Sim (stOf ps) w) (hr : Reps (stOf ps) w args vs) :
  Calls Tryz.prog f ⟨vs⟩ w fun e w' => e = .returned (.bool true) ∧ Ext w w' :=
 (h w vs hs hr).mono fun e w' ⟨u, r, σ', he, ⟨hrt, hst⟩, hle, _, hrep⟩ => by
  subst hrt hst
  cases hrep
  refine ⟨he, Ext.of_below ⟨hle.os, hle.tape, hle.output, hle.size, fun k hk => ?_⟩⟩
  cases hn : stOf ps k with
  | none => exact (hle.keep k hk hn).2
  | some r =>
    obtain ⟨l, rfl⟩ := stOf_fix hn
    exact (hle.fix k _ hk hn).2
end Go.Proofs.YthdpkgfdjmeaiaaGreatDoor
namespace Go.Proofs.YthdpkgfdjmeaiaaGreatDoor
open Go Go.ChangeShapes Go.WideShapes Go.ChangeAt Go.RowKit Go.A Go.Lib Go.Shelf
theorem strs_trod {H : Type} {enc : TypeId × Value → H} {P : Program} {w : World} {base : Nat} {spare : Nat → Bool} {held : Bool} {fuel : Nat} {t e : TypeId} {cs : List Value} {l : List (List UInt8)} {m : List MemPlace}
  (ht : P.underlying t = some (.slice e)) (he : P.underlying e = some .string) (hc : P.cellsOf e = 1) (hl : 0 < l.length)
  (hd : DataW.trod enc P w base spare held fuel t cs = some (.slice (l.map fun s => .lit (.string s)) [], m)) :
  ∃ R o cap, cs = [.slice (some ⟨R, o, none⟩) l.length cap] ∧ l.length ≤ cap ∧ ∀ j s, l[j]? = some s → w.cell? ⟨R, o + j, none⟩ = some (.string ⟨⟨s⟩⟩) := by
 rcases DataW.trod_slice ht hd with ⟨_, hx⟩ | ⟨a, len, cap, el, rs, k, rfl, hcs, hx, _, hlc, _, hel, helem, hsp, _⟩
 ·cases hx
 have e0 := congrArg Prod.fst hx
 simp only [DataW.slice.injEq] at e0
 obtain ⟨eE, eR⟩ := e0
 have hlen : len = l.length := by
  have := congrArg List.length eE
  simp at this
  omega
 have hcell : ∀ i z, l[i]? = some z → w.cell? (a.add i) = some (.string ⟨⟨z⟩⟩) := by
  intro i z hiz
  have hi : i < l.length := (List.getElem?_eq_some_iff.1 hiz).1
  have h1 := helem i (by omega)
  rw [hc] at h1
  obtain ⟨b, hb⟩ : ∃ b, el[i]? = some b := ⟨el[i]'(by omega), List.getElem?_eq_getElem (by omega)⟩
  rw [hb] at h1
  obtain ⟨ce, hce, hte⟩ := Option.bind_eq_some_iff.1 h1
  obtain ⟨z', hz, hbz, _⟩ := DataW.trod_string he hte
  have hb1 : b.1 = .lit (.string z) := by
   have := congrArg (·[i]?) eE
   simp only [List.getElem?_map, hiz, hb, Option.map_some, Option.some.injEq] at this
   exact this.symm
  rw [hbz] at hb1
  simp only [DataW.lit.injEq, Lit.string.injEq] at hb1
  obtain ⟨_, _, hcc⟩ := World.cells?_some hce
  have := hcc 0 (by omega)
  rw [hz] at this
  simp only [Nat.mul_one] at this
  have e1 : (a.add i).add 0 = a.add i := by simp [Addr.add]
  rw [e1] at this
  rw [this, ← hb1]
  rfl
 obtain ⟨z0, hz0⟩ : ∃ z, l[0]? = some z := ⟨l[0], List.getElem?_eq_getElem hl⟩
 obtain ⟨R, o, sR⟩ := a
 obtain rfl : sR = none := by
  have h00 := hcell 0 z0 hz0
  have : (Addr.add ⟨R, o, sR⟩ 0) = ⟨R, o, sR⟩ := by simp [Addr.add]
  rw [this] at h00
  exact Go.Proofs.cell_spot h00
 exact ⟨R, o, cap, by rw [hcs, hlen], by omega, fun j s hj => by have := hcell j s hj; rwa [Addr.add_lit] at this⟩
theorem block_lt {w : World} {R o : Nat} {s : Option Nat} {v : Value} (h : w.cell? ⟨R, o, none⟩ = some v) : R < w.heap.size := by
 refine Nat.lt_of_not_le fun hge => ?_
 simp [World.cell?, Array.getElem?_eq_none hge] at h
theorem strs_row {σ : ASt} {w : World} {b : Nat} (hst : ∀ o, Still σ w b o) : ∀ (zs : List (List UInt8)) (o : Nat), (∀ j z, zs[j]? = some z → w.cell? ⟨b, o + j, none⟩ = some (.string ⟨⟨z⟩⟩)) → Row σ w b o 1 (zs.map AV.str)
 | [], o, _ => .nil _ _ _
 | z :: zs, o, h => .cons rfl (.cons (hst o) (h 0 z rfl) (.str z) (.nil _ _)) (strs_row hst zs (o + 1) fun j z' hj => by
   have := h (j + 1) z' (by simpa using hj)
   rwa [show o + (j + 1) = o + 1 + j by omega] at this)
theorem strss_row {σ : ASt} {w : World} {b : Nat} (hst : ∀ o, Still σ w b o) : ∀ (zs : List (List (List UInt8))) (o : Nat),
  (∀ j z, zs[j]? = some z → ∃ v, w.cell? ⟨b, o + j, none⟩ = some v ∧ Rep σ w (.sl .shr (z.map AV.str)) v) → Row σ w b o 1 (zs.map fun l => AV.sl .shr (l.map AV.str))
 | [], o, _ => .nil _ _ _
 | z :: zs, o, h => by
   obtain ⟨v, hv, hr⟩ := h 0 z rfl
   exact .cons rfl (.cons (hst o) hv hr (.nil _ _)) (strss_row hst zs (o + 1) fun j z' hj => by
    have := h (j + 1) z' (by simpa using hj)
    rwa [show o + (j + 1) = o + 1 + j by omega] at this)
theorem levels_role {σ : ASt} {W : World} (hfx : ∀ b r, σ b = some r → ∃ l, r = .fix l) (h : VarReads Tryz.prog W "tabular/parse.levels" (.slice (levelsL.map fun l => .slice (l.map fun s => .lit (.string s)) []) [])) :
  RoleOk σ W 0 (.fix [lvAV]) := by
 obtain ⟨g', t', cs, fuel, p, hg, hty, hvar, hd⟩ := h
 obtain rfl := Option.some.inj ((show Tryz.prog.globalNamed "tabular/parse.levels" = some 0 by kernel_rfl).symm.trans hg)
 obtain rfl := Option.some.inj ((show (Tryz.prog.globals[0]?).map (·.type) = some 130 by kernel_rfl).symm.trans hty)
 have ht : Tryz.prog.underlying 130 = some (.slice 132) := by kernel_rfl
 have ht2 : Tryz.prog.underlying 132 = some (.slice 9) := by kernel_rfl
 have he : Tryz.prog.underlying 9 = some .string := by kernel_rfl
 have hc : Tryz.prog.cellsOf 132 = 1 := by kernel_rfl
 have hc2 : Tryz.prog.cellsOf 9 = 1 := by kernel_rfl
 have hpos : ∀ (j : Nat) (z : List (List UInt8)), levelsL[j]? = some z → 0 < z.length := by
  intro j z hj
  match j, hj with
  | 0, hj | 1, hj | 2, hj | 3, hj | 4, hj => injection hj with hj; subst hj; decide
 rcases DataW.trod_slice ht hd with ⟨_, hx⟩ | ⟨a, len, cap, el, rs, k, rfl, hcs, hx, _, hlc, _, hel, helem, hsp, _⟩
 ·cases hx
 have e0 := congrArg Prod.fst hx
 simp only [DataW.slice.injEq] at e0
 obtain ⟨eE, eR⟩ := e0
 have hlen : len = levelsL.length := by
  have := congrArg List.length eE
  simp at this
  omega
 have hcell : ∀ i z, levelsL[i]? = some z → ∃ v, W.cell? (a.add i) = some v ∧ Rep σ W (.sl .shr (z.map AV.str)) v := by
  intro i z hiz
  have hi : i < levelsL.length := (List.getElem?_eq_some_iff.1 hiz).1
  have h1 := helem i (by omega)
  rw [hc] at h1
  obtain ⟨b, hb⟩ : ∃ b, el[i]? = some b := ⟨el[i]'(by omega), List.getElem?_eq_getElem (by omega)⟩
  rw [hb] at h1
  obtain ⟨ce, hce, hte⟩ := Option.bind_eq_some_iff.1 h1
  have hb1 : b.1 = .slice (z.map fun s => .lit (.string s)) [] := by
   have := congrArg (·[i]?) eE
   simp only [List.getElem?_map, hiz, hb, Option.map_some, Option.some.injEq] at this
   exact this.symm
  obtain ⟨b1, b2⟩ := b
  dsimp only at hb1
  subst hb1
  obtain ⟨R, o, cap', rfl, hle, hcells⟩ := strs_trod ht2 he hc2 (hpos i z hiz) hte
  obtain ⟨_, _, hcc⟩ := World.cells?_some hce
  have := hcc 0 (by omega)
  simp only [Nat.mul_one] at this
  have e1 : (a.add i).add 0 = a.add i := by simp [Addr.add]
  rw [e1] at this
  obtain ⟨z0, hz0⟩ : ∃ z0, z[0]? = some z0 := ⟨z[0]'(hpos i z hiz), List.getElem?_eq_getElem (hpos i z hiz)⟩
  have hR := block_lt (s := none) (hcells 0 z0 hz0)
  exact ⟨_, this, .sl (sz := 1) (strs_row (fun o => still_fix hfx hR) z o hcells) (by simp) hle trivial hR⟩
 obtain ⟨R, o, sR⟩ := a
 obtain ⟨v0, h00, _⟩ := hcell 0 [[61], [60, 62], [60], [60, 61], [62], [62, 61]] rfl
 obtain rfl : sR = none := by
  have : (Addr.add ⟨R, o, sR⟩ 0) = ⟨R, o, sR⟩ := by simp [Addr.add]
  rw [this] at h00
  exact Go.Proofs.cell_spot h00
 have hR : R < W.heap.size := by
  have : (Addr.add ⟨R, o, none⟩ 0) = ⟨R, o, none⟩ := by simp [Addr.add]
  rw [this] at h00
  exact block_lt (s := none) h00
 have hrow := strss_row (fun o => still_fix hfx hR) levelsL o fun j z hj => by
  obtain ⟨v, hv, hr⟩ := hcell j z hj
  rw [Addr.add_lit] at hv
  exact ⟨v, hv, hr⟩
 unfold World.var? at hvar
 rw [hg, Option.bind_some] at hvar
 split at hvar
 ·rename_i cs' T fr hheap
  injection hvar with hvar
  subst hvar
  have hcs2 : cs' = #[.slice (some ⟨R, o, none⟩) levelsL.length cap] := by
   rw [← hlen]
   exact Array.ext' (by simpa using hcs)
  subst hcs2
  have hlt : 0 < W.heap.size := (Array.getElem?_eq_some_iff.1 hheap).1
  have hce : W.cell? ⟨0, 0, none⟩ = some (.slice (some ⟨R, o, none⟩) levelsL.length cap) := by simp [World.cell?, hheap]
  have hrep : Rep σ W lvAV (.slice (some ⟨R, o, none⟩) levelsL.length cap) := .sl (sz := 1) hrow (by simp) (by omega) trivial hR
  exact ⟨.cons (still_fix hfx hlt) hce hrep (.nil _ _), _, T, fr, hheap, rfl⟩
 ·cases hvar
end Go.Proofs.YthdpkgfdjmeaiaaGreatDoor
namespace Go.Proofs.YthdpkgfdjmeaiaaGreatDoor
open Go Go.ChangeShapes Go.WideShapes Go.ChangeAt Go.RowKit Go.A Go.Lib Go.Shelf
def ckZ : List Int := ckT.map fun (n : Nat) => (n : Int)
theorem ckZ_av : ckZ.map (AV.int .u32) = ckAV := by unfold ckZ ckAV; rw [List.map_map]; rfl
theorem ck_eq : (Rows.laid_tabular_check_table : DataW Unit) = Lib.tabData .u32 ckZ := by kernel_rfl
theorem ck_role {σ : ASt} {W : World} (hfx : ∀ b r, σ b = some r → ∃ l, r = .fix l) (h3 : VarReads Tryz.prog W "tabular/check.table" (Lib.tabData .u32 ckZ)) :
  RoleOk σ W 1 (.fix ckAV) := by
 rw [← ckZ_av]
 obtain ⟨g', t', cs, fuel, p, hg', ht', hvar, hd⟩ := h3
 obtain rfl := Option.some.inj ((show Tryz.prog.globalNamed "tabular/check.table" = some 1 by kernel_rfl).symm.trans hg')
 obtain rfl := Option.some.inj ((show (Tryz.prog.globals[1]?).map (·.type) = some 188 by kernel_rfl).symm.trans ht')
 have hcs := cells_of_tab (n := 16) (e := 117) (k := .u32) (by kernel_rfl) (by kernel_rfl) (by kernel_rfl) (by kernel_rfl) hd
 unfold World.var? at hvar
 rw [show Tryz.prog.globalNamed "tabular/check.table" = some 1 by kernel_rfl, Option.bind_some] at hvar
 split at hvar
 ·rename_i cs' T fr hheap
  injection hvar with hvar
  have hlt : 1 < W.heap.size := (Array.getElem?_eq_some_iff.1 hheap).1
  have he : cs' = (ckZ.map fun z => Value.int .u32 z).toArray := by rw [hvar]; exact Array.ext' (by simpa using hcs)
  refine ⟨At.mk' (ints_reps _) (fun j _ => still_fix hfx hlt) (fun j v hj => ?_), cs', T, fr, hheap, by rw [he]; simp⟩
  simp only [World.cell?, hheap, Nat.zero_add, he]
  simpa using hj
 ·cases hvar
def laidK : List (String × DataW Unit) := [("tabular/check.table", Rows.laid_tabular_check_table), ("unicode/utf8.acceptRanges", Rows.laid_unicode_utf8_acceptRanges), ("tabular/parse.levels", Rows.laid_tabular_parse_levels), ("unicode/utf8.first", Rows.laid_unicode_utf8_first)]
def kPs : List (Nat × List AV) := [(3, firstTab.map (AV.int .u8)), (4, accTab.map (AV.int .u8)), (0, [lvAV]), (1, ckAV)]
def kSt : ASt := stOf kPs
theorem kSt_u8 : U8 kSt := ⟨by simp [kSt, kPs, stOf], by simp [kSt, kPs, stOf]⟩
theorem kSt_lv : LV kSt := by simp [LV, kSt, kPs, stOf]
theorem kSt_ck : CkT kSt := by simp [CkT, kSt, kPs, stOf]
theorem k_sim {W : World} (h : laidMetH Tryz.prog laidK W) : Sim kSt W := by
 rw [MakeChecks.laidMetH_plain _ _ _ (by kernel_rfl)] at h
 have hc : VarReads Tryz.prog W "tabular/check.table" (Lib.tabData .u32 ckZ) := ck_eq ▸ Lib.laidMet.reads h (.head _)
 have h4 : VarReads Tryz.prog W "unicode/utf8.acceptRanges" acceptData := acc_eq ▸ Lib.laidMet.reads h (.tail _ (.head _))
 have h5 : VarReads Tryz.prog W "tabular/parse.levels" (.slice (levelsL.map fun l => .slice (l.map fun s => .lit (.string s)) []) []) := Lib.laidMet.reads h (.tail _ (.tail _ (.head _)))
 have h3 : VarReads Tryz.prog W "unicode/utf8.first" firstData := first_eq ▸ Lib.laidMet.reads h (.tail _ (.tail _ (.tail _ (.head _))))
 obtain ⟨r1, r2⟩ := u8_roles (σ := kSt) h3 h4
 intro b r hb
 obtain ⟨l, hl, rfl⟩ := stOf_mem hb
 simp only [kPs, List.mem_cons, List.not_mem_nil, or_false, Prod.mk.injEq] at hl
 rcases hl with ⟨rfl, rfl⟩ | ⟨rfl, rfl⟩ | ⟨rfl, rfl⟩ | ⟨rfl, rfl⟩
 ·exact r1 kSt_u8.1
 ·exact r2 kSt_u8.2
 ·exact levels_role (fun _ _ => stOf_fix) h5
 ·exact ck_role (fun _ _ => stOf_fix) hc
theorem calls_k {f : FuncId} {args : List AV} {vs : List Value} {w : World} (h : ACalls Tryz.prog f args kSt fun r σ' => r = .bool true ∧ σ' = kSt) (hs : Sim kSt w) (hr : Reps kSt w args vs) :
  Calls Tryz.prog f ⟨vs⟩ w fun e w' => e = .returned (.bool true) ∧ Ext w w' := calls_st h hs hr
end Go.Proofs.YthdpkgfdjmeaiaaGreatDoor
