/- Part 9 of what ExprTells leans on: Rc CodeVd Vd CodeEm Em CodeVh Vh CodeRd Rd En Er Es CodeRe. -/
import Derived.Test.YtpkbdbjdiklepaaGreatDoorProg
import Derived.KernelRfl
import Derived.Test.YtpkbdbjdiklepaaGreatDoorZFExprTellsh
set_option linter.defProp false
set_option linter.unusedSimpArgs false
set_option linter.unusedVariables false
set_option maxRecDepth 100000
namespace Go.A
open Go.Proofs Go.Lib
theorem norm_min (a b : Ref) : (normP a b).1.row = min a.row b.row ∧ (normP a b).2.row = max a.row b.row ∧ (normP a b).1.col = min a.col b.col ∧ (normP a b).2.col = max a.col b.col := by
 obtain ⟨r1, c1, p1, q1⟩ := a
 obtain ⟨r2, c2, p2, q2⟩ := b
 unfold normP normC normR
 dsimp only
 repeat' split
 all_goals (dsimp only at *; refine ⟨?_, ?_, ?_, ?_⟩ <;> omega)
section
variable {o m : Int} {s : List UInt8} {a b : Ref} {L : List AV}
@[go_sem] theorem cs_r3 : (Nd.cs o m s a b L)[3]? = some (.int .i64 a.row) := id rfl
@[go_sem] theorem cs_r4 : (Nd.cs o m s a b L)[4]? = some (.int .i64 a.col) := id rfl
end
theorem rrect5_ok {a : Ref} (hg : a.good = true) : Pure Tryz.prog 34 [(Nd.mk 5 0 [] a .zero []).av] (rectN 5 a .zero).av := by
 intro σ
 have hr : rectN 5 a .zero = ⟨a.row, a.col, 1, 1⟩ := rfl
 simp only [Ref.good, decide_eq_true_eq] at hg
 rw [hr, Nd.av_cs]
 obtain ⟨row, col, p, q⟩ := a
 dsimp only at hg ⊢
 refine a34 (by simp) ?_
 simp (disch := first | assumption | omega) only [go_sem]
 refine boxC_by rfl fun c1 h1 => ?_
 simp (disch := first | assumption | omega) only [go_sem]
 refine allocC_by fun c2 h2 => ?_
 have h2' := h2
 repeat (with_reducible replace h2 := set_none h2; obtain ⟨_, _, h2⟩ := h2)
 simp (disch := first | assumption | omega) only [go_sem, Nat.reduceEqDiff, Nat.reduceAdd, Nat.reduceLeDiff, ↓reduceIte]
 refine allocC_by fun c3 h3 => ?_
 have h3' := h3
 repeat (with_reducible replace h3 := set_none h3; obtain ⟨_, _, h3⟩ := h3)
 have hD : ∀ X Y Z U : Option Role, Drop (((((σ.set c1 X).set c2 Y).set c3 Z).set c2 U)) σ := fun X Y Z U => (((Drop.set h1).off h2).off h3).off h2
 simp (disch := first | assumption | omega) only [go_sem, Nat.reduceEqDiff, Nat.reduceAdd, Nat.reduceLeDiff, ↓reduceIte, Bool.true_and, ASt.set_set]
 refine retC_by (hD _ _ _ _) (.refl _) ⟨?_, rfl⟩
 simp only [Rc.av, resV_one, Int.min_self, Int.max_self, Int.sub_self, Int.zero_add]
theorem rrect6_ok {a b : Ref} (hg : a.good = true) (hg' : b.good = true) : Pure Tryz.prog 34 [(Nd.mk 6 0 [] a b []).av] (rectN 6 a b).av := by
 intro σ
 obtain ⟨n1, n2, n3, n4⟩ := norm_min a b
 have hr : rectN 6 a b = ⟨(normP a b).1.row, (normP a b).1.col, (normP a b).2.row - (normP a b).1.row + 1, (normP a b).2.col - (normP a b).1.col + 1⟩ := rfl
 rw [n1, n2, n3, n4] at hr
 simp only [Ref.good, decide_eq_true_eq] at hg hg'
 rw [hr, Nd.av_cs]
 clear n1 n2 n3 n4 hr
 obtain ⟨row, col, p, q⟩ := a
 obtain ⟨row', col', p', q'⟩ := b
 dsimp only at hg hg' ⊢
 refine a34 (by simp) ?_
 simp (disch := first | assumption | omega) only [go_sem]
 refine boxC_by rfl fun c1 h1 => ?_
 simp (disch := first | assumption | omega) only [go_sem]
 refine allocC_by fun c2 h2 => ?_
 have h2' := h2
 repeat (with_reducible replace h2 := set_none h2; obtain ⟨_, _, h2⟩ := h2)
 simp (disch := first | assumption | omega) only [go_sem, Nat.reduceEqDiff, Nat.reduceAdd, Nat.reduceLeDiff, ↓reduceIte]
 refine allocC_by fun c3 h3 => ?_
 have h3' := h3
 repeat (with_reducible replace h3 := set_none h3; obtain ⟨_, _, h3⟩ := h3)
 have hD : ∀ X Y Z U : Option Role, Drop (((((σ.set c1 X).set c2 Y).set c3 Z).set c2 U)) σ := fun X Y Z U => (((Drop.set h1).off h2).off h3).off h2
 simp (disch := first | assumption | omega) only [go_sem, Nat.reduceEqDiff, Nat.reduceAdd, Nat.reduceLeDiff, Int.reduceEq, ↓reduceIte, Bool.true_and, ASt.set_set]
 refine retC_by (hD _ _ _ _) (.refl _) ⟨?_, rfl⟩
 simp only [Rc.av, resV_one]
theorem areass_nil (rs : List Rc) : Nd.areass rs [] = rs := by rw [Nd.areass]
theorem radd_ok {n : Nd} {r : Rc} (hop : n.op = 5 ∨ n.op = 6) (hr : Pure Tryz.prog 34 [n.av] r.av) (rs : List Rc) (hl : rs.length ≤ 1000000) :
  Pure Tryz.prog 16 [n.av, .sl .shr (rs.map Rc.av)] (.sl .shr ((addR rs r).map Rc.av)) := by
 intro σ
 obtain ⟨o, m, s, a, b, ks⟩ := n
 rw [op_mk] at hop
 rw [Nd.av_cs] at hr ⊢
 generalize ks.map Nd.av = L at *
 have hlm : (rs.map Rc.av).length = rs.length := List.length_map _
 refine a16 (by simp) ?_
 obtain ⟨F, hF⟩ : ∃ F, F = ACode.wp Tryz.prog c16_22 := ⟨_, rfl⟩
 have hav : ∀ x : Rc, x.av = .agg [.int .i64 x.row, .int .i64 x.col, .int .i64 x.rows, .int .i64 x.cols] := fun _ => rfl
 rcases hop with rfl | rfl
 all_goals
  simp (disch := first | assumption | omega) only [go_sem]
  refine boxC_by rfl fun c hc => ?_
  simp (disch := first | assumption | omega) only [go_sem, Nat.reduceEqDiff, Nat.reduceLeDiff, Int.reduceEq, ↓reduceIte]
  refine hr.use ?_
  simp (disch := first | assumption | omega) only [go_sem]
  refine allocC_by fun d hd => ?_
  have hd' := hd
  repeat (with_reducible replace hd := set_none hd; obtain ⟨_, _, hd⟩ := hd)
  rw [hav r]
  simp (disch := first | assumption | omega) only [go_sem, Nat.reduceEqDiff, Nat.reduceAdd, Nat.reduceLeDiff, ↓reduceIte, Bool.true_and, ASt.set_set, hlm, ←hF]
  generalize hτ : ASt.set (ASt.set σ c _) d _ = τ
  have hτd : τ d = some (.obj [.int .i64 r.row, .int .i64 r.col, .int .i64 r.rows, .int .i64 r.cols]) := by rw [← hτ, ASt.set_same]
  have hDτ : Drop τ σ := by rw [← hτ]; exact (Drop.set hc).off hd
  refine wp_loop_by (fun (i : Nat) a1 s2 => i ≤ rs.length ∧ (a1 1 = .sl .shr (rs.map Rc.av) ∧ a1 5 = .ptr d 0 ∧ a1 20 = .sl .shr (rs.map Rc.av) ∧ a1 21 = .int .i64 rs.length ∧ a1 22 = .int .i64 i) ∧ s2 = τ ∧ ∀ j x, j < i → rs[j]? = some x → x ≠ r) (fun i => rs.length - i) 0 (Dr.now ⟨Nat.zero_le _, by simp [AFr.upd, init], rfl, fun j x hj => by omega⟩) ?_
  rintro i a1 s2 ⟨hi, hf, rfl, hall⟩
  by_cases hlt : i < rs.length
  ·have hlt' : (i : Int) < rs.length := by omega
   have hx : rs[i]? = some (rs[i]'hlt) := List.getElem?_eq_getElem hlt
   obtain ⟨x, hxe⟩ : ∃ x, rs[i]'hlt = x := ⟨_, rfl⟩
   have hmem : x ∈ rs := by rw [← hxe]; exact List.getElem_mem hlt
   rw [hxe] at hx
   have hmx := Rc.get hx
   rw [hav x] at hmx
   simp (disch := first | assumption | omega) only [go_sem, Nat.reduceEqDiff, Nat.reduceAdd, Nat.reduceLeDiff, ↓reduceIte, hf, hlt', hmx]
   refine allocC_by fun e he => ?_
   have he' := he
   have hed : d ≠ e := by rintro rfl; rw [hτd] at he; cases he
   have hed' : e ≠ d := Ne.symm hed
   by_cases hxr : x = r
   ·subst hxr
    have hadd : addR rs x = rs := if_pos hmem
    rw [hadd]
    simp (disch := first | assumption | omega) only [go_sem, Nat.reduceEqDiff, Nat.reduceAdd, Nat.reduceLeDiff, ↓reduceIte, Bool.true_and, hf, hτd, eq_self, ASt.set_set]
    exact retC_by ((Drop.set he).trans hDτ) (.refl _) ⟨rfl, rfl⟩
   ·have hne := rc_ne hxr
    simp (disch := first | assumption | omega) only [go_sem, Nat.reduceEqDiff, Nat.reduceAdd, Nat.reduceLeDiff, ↓reduceIte, Bool.true_and, hf, hτd, hne, ASt.set_set]
    refine ⟨i + 1, by dsimp only; omega, Dr.drop (Drop.set he) ⟨by omega, ?_, rfl, fun j y hj hy => ?_⟩⟩
    ·simp (disch := first | assumption | omega) only [go_sem, Nat.reduceEqDiff, ↓reduceIte, hf]
    ·rcases Nat.lt_or_ge j i with h | h
     ·exact hall j y h hy
     ·obtain rfl : j = i := by omega
      rw [hx] at hy
      injection hy with hy
      rw [← hy]
      exact hxr
  ·have hlt' : ¬ (i : Int) < rs.length := by omega
   have hnot : r ∉ rs := fun hm => by
    obtain ⟨j, hj, hjr⟩ := List.getElem_of_mem hm
    exact hall j r (by omega) (by rw [List.getElem?_eq_getElem hj, hjr]) rfl
   have hadd : addR rs r = rs ++ [r] := if_neg hnot
   rw [hadd, List.map_append]
   have hmr : [r].map Rc.av = [.agg [.int .i64 r.row, .int .i64 r.col, .int .i64 r.rows, .int .i64 r.cols]] := rfl
   rw [hmr]
   have hwl := Rc.well rs
   have hlf := Rc.leafs rs
   generalize rs.map Rc.av = RS at *
   simp (disch := first | assumption | omega) only [go_sem, ↓reduceIte, hf, hlt']
   rw [hF]
   simp (disch := first | assumption | omega) only [go_sem, Nat.reduceEqDiff, Nat.reduceAdd, Nat.reduceLeDiff, ↓reduceIte, Bool.true_and, hf, hτd]
   refine appC_by (Grown.start _ _) hwl hlf (by simp only [List.length_nil]; omega) (by simp only [List.length_nil]; omega) fun k1 s3 hg => ?_
   have hτd3 := hg.at hτd
   simp (disch := first | assumption | omega) only [go_sem, Nat.reduceEqDiff, Nat.reduceAdd, Nat.reduceLeDiff, ↓reduceIte, hf, hτd3]
   refine appC_by (xs := RS) (by simpa using hg) rfl rfl (by simp only [List.length_cons, List.length_nil]; omega) (by simp only [List.length_cons, List.length_nil]; omega) fun k2 s4 hg2 => ?_
   simp (disch := first | assumption | omega) only [go_sem, ↓reduceIte]
   exact retC_by (hg2.drop.trans hDτ) (.sl _ _) ⟨rfl, rfl⟩
theorem rkids_ok {o m : Int} {s : List UInt8} {a b : Ref} {ks : List Nd} (h5 : ¬ o = 5) (h6 : ¬ o = 6)
  (hk : ∀ x ∈ ks, ∀ rs : List Rc, rs.length + x.size ≤ 1000000 → Pure Tryz.prog 16 [x.av, .sl .shr (rs.map Rc.av)] (.sl .shr ((Nd.areas rs x).map Rc.av))) (rs : List Rc) (hl : rs.length + (Nd.mk o m s a b ks).size ≤ 1000000) :
  Pure Tryz.prog 16 [(Nd.mk o m s a b ks).av, .sl .shr (rs.map Rc.av)] (.sl .shr ((Nd.areas rs (.mk o m s a b ks)).map Rc.av)) := by
 intro σ
 rw [Nd.size] at hl
 have hlen := sizes_len ks
 have har : Nd.areas rs (.mk o m s a b ks) = Nd.areass rs ks := by rw [Nd.areas, if_neg (by omega)]
 rw [har, Nd.av_cs]
 refine a16 (by simp) ?_
 simp (disch := first | assumption | omega) only [go_sem]
 refine boxC_by rfl fun c hc => ?_
 have hlm : (ks.map Nd.av).length = ks.length := List.length_map _
 simp (disch := first | assumption | omega) only [go_sem, Nat.reduceEqDiff, ↓reduceIte, h5, h6, hlm]
 refine wp_loop_by (fun (i : Nat) a1 s2 => i ≤ ks.length ∧ (a1 1 = .sl .shr ((Nd.areass rs (ks.take i)).map Rc.av) ∧ a1 38 = .sl .shr (ks.map Nd.av) ∧ a1 39 = .int .i64 ks.length ∧ a1 40 = .int .i64 i) ∧ s2 = σ) (fun i => ks.length - i) 0 (Dr.drop (Drop.set hc) ⟨Nat.zero_le _, ?_, rfl⟩) ?_
 ·simp only [List.take_zero, areass_nil]
  simp (disch := first | assumption | omega) only [go_sem, Nat.reduceEqDiff, ↓reduceIte]
 rintro i a1 s2 ⟨hi, hf, rfl⟩
 have hle := sizes_le ks i
 have hal := Nd.areass_len (ks.take i) rs
 by_cases hlt : i < ks.length
 ·have hlt' : (i : Int) < ks.length := by omega
  have hx : ks[i]? = some (ks[i]'hlt) := List.getElem?_eq_getElem hlt
  obtain ⟨x, hxe⟩ : ∃ x, ks[i]'hlt = x := ⟨_, rfl⟩
  have hmem : x ∈ ks := by rw [← hxe]; exact List.getElem_mem hlt
  rw [hxe] at hx
  have hmx := Nd.get hx
  have hst := sizes_take hx
  have hle2 := sizes_le ks (i + 1)
  have hnx := areass_take (out := rs) hx
  have hcall := hk x hmem (Nd.areass rs (ks.take i)) (by omega)
  obtain ⟨xo, xm, xs, xa, xb, xk⟩ := x
  rw [Nd.av_cs] at hmx hcall
  rw [← hnx] at hcall
  generalize ks.map Nd.av = L at *
  obtain ⟨A2, hA2⟩ : ∃ A2, (Nd.areass rs (ks.take (i + 1))).map Rc.av = A2 := ⟨_, rfl⟩
  rw [hA2] at hcall
  generalize (Nd.areass rs (ks.take i)).map Rc.av = A1 at *
  simp (disch := first | assumption | omega) only [go_sem, Nat.reduceEqDiff, Nat.reduceLeDiff, ↓reduceIte, hf, hlt', hmx]
  refine allocC_by fun d hd => ?_
  simp (disch := first | assumption | omega) only [go_sem, Nat.reduceEqDiff, Nat.reduceAdd, Nat.reduceLeDiff, ↓reduceIte, hf, ASt.set_set]
  refine hcall.use ?_
  simp (disch := first | assumption | omega) only [go_sem, Nat.reduceEqDiff, ↓reduceIte, hf]
  refine ⟨i + 1, by dsimp only; omega, Dr.drop (Drop.set hd) ⟨by omega, ?_, rfl⟩⟩
  rw [hA2]
  simp (disch := first | assumption | omega) only [go_sem, Nat.reduceEqDiff, ↓reduceIte, hf]
 ·have hlt' : ¬ (i : Int) < ks.length := by omega
  rw [List.take_of_length_le (by omega)] at hf
  generalize (Nd.areass rs ks).map Rc.av = A1 at *
  simp (disch := first | assumption | omega) only [go_sem, Nat.reduceEqDiff, ↓reduceIte, hf, hlt']
  exact retC_by (.refl _) (.refl _) ⟨rfl, rfl⟩
theorem rareas_nf {n : Nd} (h : Nf n) : ∀ rs : List Rc, rs.length + n.size ≤ 1000000 → Pure Tryz.prog 16 [n.av, .sl .shr (rs.map Rc.av)] (.sl .shr ((Nd.areas rs n).map Rc.av)) := by
 induction h with
 | num _ _ => exact rkids_ok (by decide) (by decide) (fun x hx => by cases hx)
 | text _ _ => exact rkids_ok (by decide) (by decide) (fun x hx => by cases hx)
 | truth _ => exact rkids_ok (by decide) (by decide) (fun x hx => by cases hx)
 | fail _ => exact rkids_ok (by decide) (by decide) (fun x hx => by cases hx)
 | @cell r hr =>
   intro rs hl
   have e : Nd.areas rs (.mk 5 0 [] r .zero []) = addR rs (rectN 5 r .zero) := by rw [Nd.areas, if_pos (.inl rfl), areass_nil]
   rw [e]
   exact radd_ok (.inl rfl) (rrect5_ok hr) rs (by omega)
 | @area r q hr hq =>
   intro rs hl
   have e : Nd.areas rs (.mk 6 0 [] r q []) = addR rs (rectN 6 r q) := by rw [Nd.areas, if_pos (.inr rfl), areass_nil]
   rw [e]
   exact radd_ok (.inr rfl) (rrect6_ok hr hq) rs (by omega)
 | @sign op x ho hx hne ih =>
   exact rkids_ok (by omega) (by omega) (fun y hy => by rw [List.mem_singleton.1 hy]; exact ih)
 | @hund x hx hne ih => exact rkids_ok (by decide) (by decide) (fun y hy => by rw [List.mem_singleton.1 hy]; exact ih)
 | @bin i x y hi hx hnx hy hny ihx ihy =>
   refine rkids_ok (by omega) (by omega) (fun z hz => ?_)
   simp only [List.mem_cons, List.not_mem_nil, or_false] at hz
   rcases hz with rfl | rfl
   ·exact ihx
   ·exact ihy
 | @call s ks hs hl hk hm ih => exact rkids_ok (by decide) (by decide) ih
 | miss => exact rkids_ok (by decide) (by decide) (fun x hx => by cases hx)
end Go.A
namespace Go.A
open Go.Proofs
/-! 21: (*tabular/vint.Writer).Bytes -/
def c21_0 : ACode := .ops [
 ⟨some 2, none, .q (.mv (.v (.str []))), []⟩]
def c21_1 : ACode := .ops [
 ⟨some 3, none, .q (.mv (.t 0)), []⟩,
 ⟨some 4, none, .q (.nc (.t 3)), []⟩,
 ⟨some 5, none, .q (.fa 0 (.t 4)), []⟩,
 ⟨some 6, none, .q (.ld none (.t 5)), []⟩,
 ⟨some 7, none, .q (.b2s (.t 6)), []⟩,
 ⟨some 2, none, .q (.mv (.t 7)), []⟩]
def c21_2 : ACode := .seq c21_1 .ret
def c21_3 : ACode := .seq c21_0 c21_2
@[go_sem] def c21_0_wp := wp_of c21_0.eq_1
@[go_sem] def c21_1_wp := wp_of c21_1.eq_1
@[go_sem] def c21_2_wp := wp_of c21_2.eq_1
@[go_sem] def c21_3_wp := wp_of c21_3.eq_1
def c21 : AFn := ⟨8, [.t 2], c21_3⟩
theorem c21_ok : compF Tryz.prog Tryz.f21 = some c21 := by kernel_rfl
theorem a21 {args : List AV} {σ : ASt} {R : AV → ASt → Prop} (hl : args.length ≤ 8) (h : c21_3.wp Tryz.prog (RetQ [.t 2] R) (init args) σ) : ACalls Tryz.prog 21 args σ R := acalls_of Tryz.func21 c21_ok hl h
/-! 35: (*tabular/vint.Writer).Uint -/
def c35_0 : ACode := .ops [
 ⟨some 4, none, .q (.mv (.t 1)), []⟩,
 ⟨some 5, none, .q (.bin .gtr (.t 4) (.v (.int .u64 127))), []⟩]
def c35_1 : ACode := .cond (.t 5) .skip (.exit 0)
def c35_2 : ACode := .seq c35_0 c35_1
def c35_3 : ACode := .ops [
 ⟨some 8, none, .q (.mv (.t 0)), []⟩,
 ⟨some 9, none, .q (.mv (.t 0)), []⟩,
 ⟨some 10, none, .q (.nc (.t 9)), []⟩,
 ⟨some 11, none, .q (.fa 0 (.t 10)), []⟩,
 ⟨some 12, none, .q (.ld none (.t 11)), []⟩,
 ⟨some 13, none, .q (.mv (.t 1)), []⟩,
 ⟨some 14, none, .q (.conv .u8 (.t 13)), []⟩,
 ⟨some 15, none, .q (.bin .or (.t 14) (.v (.int .u8 128))), []⟩,
 ⟨some 16, none, .q (.bsl 1 [(.t 15)]), []⟩,
 ⟨some 17, none, .e (.app 5 1 1 [(.int .u8 0)] (.t 12) (.t 16)), []⟩,
 ⟨some 18, none, .q (.nc (.t 8)), []⟩,
 ⟨some 19, none, .q (.fa 0 (.t 18)), []⟩,
 ⟨none, none, .e (.store 1 (.t 19) (.t 17)), []⟩]
def c35_4 : ACode := .block 1 c35_3
def c35_5 : ACode := .ops [
 ⟨some 6, none, .q (.mv (.t 1)), []⟩,
 ⟨some 7, none, .q (.bin .shr (.t 6) (.v (.int .u64 7))), []⟩,
 ⟨some 1, none, .q (.mv (.t 7)), []⟩]
def c35_6 : ACode := .seq c35_4 c35_5
def c35_7 : ACode := .seq c35_2 c35_6
def c35_8 : ACode := .loop c35_7
def c35_9 : ACode := .block 0 c35_8
def c35_10 : ACode := .ops [
 ⟨some 20, none, .q (.mv (.t 0)), []⟩,
 ⟨some 21, none, .q (.mv (.t 0)), []⟩,
 ⟨some 22, none, .q (.nc (.t 21)), []⟩,
 ⟨some 23, none, .q (.fa 0 (.t 22)), []⟩,
 ⟨some 24, none, .q (.ld none (.t 23)), []⟩,
 ⟨some 25, none, .q (.mv (.t 1)), []⟩,
 ⟨some 26, none, .q (.conv .u8 (.t 25)), []⟩,
 ⟨some 27, none, .q (.bsl 1 [(.t 26)]), []⟩,
 ⟨some 28, none, .e (.app 5 1 1 [(.int .u8 0)] (.t 24) (.t 27)), []⟩,
 ⟨some 29, none, .q (.nc (.t 20)), []⟩,
 ⟨some 30, none, .q (.fa 0 (.t 29)), []⟩,
 ⟨none, none, .e (.store 1 (.t 30) (.t 28)), []⟩]
def c35_11 : ACode := .seq c35_9 c35_10
@[go_sem] def c35_0_wp := wp_of c35_0.eq_1
@[go_sem] def c35_1_wp := wp_of c35_1.eq_1
@[go_sem] def c35_2_wp := wp_of c35_2.eq_1
@[go_sem] def c35_3_wp := wp_of c35_3.eq_1
@[go_sem] def c35_4_wp := wp_of c35_4.eq_1
@[go_sem] def c35_5_wp := wp_of c35_5.eq_1
@[go_sem] def c35_6_wp := wp_of c35_6.eq_1
@[go_sem] def c35_7_wp := wp_of c35_7.eq_1
@[go_sem] def c35_8_wp := wp_of c35_8.eq_1
@[go_sem] def c35_9_wp := wp_of c35_9.eq_1
@[go_sem] def c35_10_wp := wp_of c35_10.eq_1
@[go_sem] def c35_11_wp := wp_of c35_11.eq_1
def c35 : AFn := ⟨31, [], c35_11⟩
theorem c35_ok : compF Tryz.prog Tryz.f35 = some c35 := by kernel_rfl
theorem a35 {args : List AV} {σ : ASt} {R : AV → ASt → Prop} (hl : args.length ≤ 31) (h : c35_11.wp Tryz.prog (RetQ [] R) (init args) σ) : ACalls Tryz.prog 35 args σ R := acalls_of Tryz.func35 c35_ok hl h
/-! 36: (*tabular/vint.Writer).Int -/
def c36_0 : ACode := .ops [
 ⟨some 4, none, .q (.mv (.t 0)), []⟩,
 ⟨some 5, none, .q (.mv (.t 1)), []⟩,
 ⟨some 6, none, .q (.conv .u64 (.t 5)), []⟩,
 ⟨some 7, none, .q (.bin .shl (.t 6) (.v (.int .u64 1))), []⟩,
 ⟨some 8, none, .q (.mv (.t 1)), []⟩,
 ⟨some 9, none, .q (.bin .shr (.t 8) (.v (.int .u64 63))), []⟩,
 ⟨some 10, none, .q (.conv .u64 (.t 9)), []⟩,
 ⟨some 11, none, .q (.bin .xor (.t 7) (.t 10)), []⟩,
 ⟨some 12, none, .e (.call 35 [(.t 4), (.t 11)]), []⟩]
@[go_sem] def c36_0_wp := wp_of c36_0.eq_1
def c36 : AFn := ⟨13, [], c36_0⟩
theorem c36_ok : compF Tryz.prog Tryz.f36 = some c36 := by kernel_rfl
theorem a36 {args : List AV} {σ : ASt} {R : AV → ASt → Prop} (hl : args.length ≤ 13) (h : c36_0.wp Tryz.prog (RetQ [] R) (init args) σ) : ACalls Tryz.prog 36 args σ R := acalls_of Tryz.func36 c36_ok hl h
/-! 37: (*tabular/vint.Writer).Text -/
def c37_0 : ACode := .ops [
 ⟨some 4, none, .q (.mv (.t 0)), []⟩,
 ⟨some 5, none, .q (.mv (.t 1)), []⟩,
 ⟨some 6, none, .q (.lenS (.t 5)), []⟩,
 ⟨some 7, none, .q (.conv .u64 (.t 6)), []⟩,
 ⟨some 8, none, .e (.call 35 [(.t 4), (.t 7)]), []⟩]
def c37_1 : ACode := .ops [
 ⟨some 9, none, .q (.mv (.t 0)), []⟩,
 ⟨some 10, none, .q (.mv (.t 0)), []⟩,
 ⟨some 11, none, .q (.nc (.t 10)), []⟩,
 ⟨some 12, none, .q (.fa 0 (.t 11)), []⟩,
 ⟨some 13, none, .q (.ld none (.t 12)), []⟩,
 ⟨some 14, none, .q (.mv (.t 1)), []⟩,
 ⟨some 15, none, .e (.apps 5 (.t 13) (.t 14)), []⟩,
 ⟨some 16, none, .q (.nc (.t 9)), []⟩,
 ⟨some 17, none, .q (.fa 0 (.t 16)), []⟩,
 ⟨none, none, .e (.store 1 (.t 17) (.t 15)), []⟩]
def c37_2 : ACode := .seq c37_0 c37_1
@[go_sem] def c37_0_wp := wp_of c37_0.eq_1
@[go_sem] def c37_1_wp := wp_of c37_1.eq_1
@[go_sem] def c37_2_wp := wp_of c37_2.eq_1
def c37 : AFn := ⟨18, [], c37_2⟩
theorem c37_ok : compF Tryz.prog Tryz.f37 = some c37 := by kernel_rfl
theorem a37 {args : List AV} {σ : ASt} {R : AV → ASt → Prop} (hl : args.length ≤ 18) (h : c37_2.wp Tryz.prog (RetQ [] R) (init args) σ) : ACalls Tryz.prog 37 args σ R := acalls_of Tryz.func37 c37_ok hl h
end Go.A
namespace Go.A
open Go.Proofs Go.Vint
def W (σ0 : ASt) (b : Nat) (l : List UInt8) (σ : ASt) : Prop := ∃ k, Grown (σ0.set b (some (.obj [.sl k (bytesAV l)]))) σ k (bytesAV l).length 1
theorem W.cell {σ0 σ : ASt} {b : Nat} {l : List UInt8} {k : SK} (h : Grown (σ0.set b (some (.obj [.sl k (bytesAV l)]))) σ k (bytesAV l).length 1) : σ b = some (.obj [.sl k (bytesAV l)]) := h.at (ASt.set_same _ _ _)
theorem vb_app (l m : List UInt8) : bytesAV l ++ bytesAV m = bytesAV (l ++ m) := by simp [bytesAV]
theorem bytesAV_one {n : Int} (h0 : 0 ≤ n) (h1 : n < 256) : [AV.int .u8 n] = bytesAV [u8Of n] := by
 have := u8_nat (n := n.toNat) (by omega)
 simp only [bytesAV, u8Of, List.map_cons, List.map_nil, this]
 rw [Int.toNat_of_nonneg h0]
theorem W.app {σ0 σ : ASt} {b : Nat} {l m : List UInt8} {k k' : SK} (h : Grown (σ0.set b (some (.obj [.sl k (bytesAV l)]))) σ k' (bytesAV l ++ bytesAV m).length 1) :
  W σ0 b (l ++ m) (σ.set b (some (.obj [.sl k' (bytesAV l ++ bytesAV m)]))) := by
 rw [vb_app] at h ⊢
 exact ⟨k', h.obj⟩
theorem or128 (u : Int) : ((BitVec.ofInt 8 (u % 256) ||| BitVec.ofInt 8 128).toNat : Int) = 128 + u % 128 := by
 have h : IntKind.wrap .u8 ((BitVec.ofInt 8 (u % 256) ||| BitVec.ofInt 8 128).toNat : Int) = 128 + u % 128 := or_128 u
 rwa [IntKind.wrap_u8, Int.emod_eq_of_lt (by omega) (by omega)] at h
theorem fold64 {n : Int} (h1 : -9223372036854775808 ≤ n) (h2 : n ≤ 9223372036854775807) :
  ((BitVec.ofInt 64 (IntKind.wrap .u64 (IntKind.wrap .u64 n * 2)) ^^^ BitVec.ofInt 64 (IntKind.wrap .u64 (n / 9223372036854775808))).toNat : Int) = foldI n := by
 have h : IntKind.wrap .u64 ((BitVec.ofInt 64 (IntKind.wrap .u64 (IntKind.wrap .u64 n * 2)) ^^^ BitVec.ofInt 64 (IntKind.wrap .u64 (n / 9223372036854775808))).toNat : Int) = foldI n := fold_bits n h1 h2
 rwa [IntKind.wrap_u64, Int.emod_eq_of_lt (by omega) (by omega)] at h
theorem vappB {T : TypeId} {σ σ0 : ASt} {k k2 : SK} {xs z : List AV} {n m : Int} {K : AV → ASt → Prop} (h : Grown σ0 σ k xs.length 1) (hn : n = m) (h0 : 0 ≤ m) (h1 : m < 256) (hl : xs.length < 4611686018427)
  (hK : ∀ k' σ', Grown σ0 σ' k' (xs ++ bytesAV [u8Of m]).length 1 → K (.sl k' (xs ++ bytesAV [u8Of m])) σ') : appC T 1 1 z (.sl k xs) (.sl k2 [.int .u8 n]) σ K := by
 subst hn
 rw [bytesAV_one h0 h1]
 exact appC_by h rfl rfl (by simp [bytesAV]; omega) (by simp [bytesAV]; omega) hK
theorem wrap8 (u : Int) : IntKind.wrap .u8 u = u % 256 := IntKind.wrap_u8 u
theorem wuint_ok (σ0 : ASt) (b : Nat) (u : Int) (l : List UInt8) (σ : ASt) (hW : W σ0 b l σ) (h0 : 0 ≤ u) (h1 : u ≤ 18446744073709551615) (hl : l.length + (uintB u.toNat).length ≤ 1000000) :
  ACalls Tryz.prog 35 [.ptr b 0, .int .u64 u] σ fun v σ' => v = .tuple [] ∧ W σ0 b (l ++ uintB u.toNat) σ' := by
 obtain ⟨q, hq⟩ : ∃ q, l ++ uintB u.toNat = q := ⟨_, rfl⟩
 have hql : q.length ≤ 1000000 := by rw [← hq]; simpa using hl
 rw [hq]
 refine a35 (by simp) ?_
 simp (disch := first | assumption | omega) only [go_sem]
 refine wp_loop_on (fun (i : Int × List UInt8) a σ' => (0 ≤ i.1 ∧ i.1 ≤ 18446744073709551615 ∧ i.2 ++ uintB i.1.toNat = q) ∧ (a 0 = .ptr b 0 ∧ a 1 = .int .u64 i.1) ∧ W σ0 b i.2 σ') (fun i => i.1.toNat) (u, l) ⟨⟨h0, h1, hq⟩, ?_, hW⟩ ?_
 ·simp (disch := first | assumption | omega) only [go_sem]
 rintro ⟨u, l⟩ a σ ⟨⟨h0, h1, hq⟩, hf, k, hg⟩
 dsimp only at h0 h1 hq hf hg
 have hb := W.cell hg
 have hll : l.length ≤ 1000000 := by rw [← hq] at hql; simp at hql; omega
 have hll' : (bytesAV l).length ≤ 1000000 := by simpa [bytesAV] using hll
 by_cases hu : 127 < u
 ·have hw := wrap8 u
  simp (disch := first | assumption | omega) only [go_sem, reduceCtorEq, Nat.reduceEqDiff, ↓reduceIte, Bool.true_and, hf, hb, hu, hw]
  refine vappB hg (or128 u) (by omega) (by omega) (by omega) fun k' σ' hg' => ?_
  have hb' := (hg'.at (ASt.set_same _ _ _))
  simp (disch := first | assumption | omega) only [go_sem, reduceCtorEq, Nat.reduceEqDiff, Nat.reduceLeDiff, ↓reduceIte, Int.reduceToNat, Int.reducePow, Bool.true_and, hf, hb']
  refine ⟨(u / 128, l ++ [u8Of (128 + u % 128)]), by dsimp only; omega, ⟨by dsimp only; omega, by dsimp only; omega, ?_⟩, ?_, W.app hg'⟩
  ·dsimp only
   rw [← hq, uintB_j (u := u) (by omega)]
   simp
  ·simp (disch := first | assumption | omega) only [go_sem]
 ·have hw := wrap8 u
  have hw2 : u % 256 = u := by omega
  rw [hw2] at hw
  have hu' := uintB_i h0 (by omega)
  rw [hu'] at hq
  subst hq
  simp (disch := first | assumption | omega) only [go_sem, reduceCtorEq, Nat.reduceEqDiff, ↓reduceIte, Bool.true_and, hf, hb, hu, hw]
  refine vappB hg rfl (by omega) (by omega) (by omega) fun k' σ' hg' => ?_
  have hb' := (hg'.at (ASt.set_same _ _ _))
  simp (disch := first | assumption | omega) only [go_sem, Nat.reduceEqDiff, Nat.reduceLeDiff, ↓reduceIte, Bool.true_and, hb']
  exact retC_by (Drop.refl _) (.refl _) ⟨rfl, W.app hg'⟩
theorem wint_ok (σ0 : ASt) (b : Nat) (n : Int) (l : List UInt8) (σ : ASt) (hW : W σ0 b l σ) (h1 : -9223372036854775808 ≤ n) (h2 : n ≤ 9223372036854775807) (hl : l.length + 10 ≤ 1000000) :
  ACalls Tryz.prog 36 [.ptr b 0, .int .i64 n] σ fun v σ' => v = .tuple [] ∧ W σ0 b (l ++ uintB (foldI n).toNat) σ' := by
 refine a36 (by simp) ?_
 obtain ⟨f0, f1⟩ := foldI_bd h1 h2
 simp (disch := first | assumption | omega) only [go_sem, Nat.reduceEqDiff, ↓reduceIte, Int.reduceToNat, Int.reducePow]
 refine ACalls.of_eq (congrArg (fun x => [AV.ptr b 0, AV.int .u64 x]) (fold64 h1 h2)) ?_
 refine (wuint_ok σ0 b (foldI n) l σ hW f0 f1 (by have := uintB_le f1; omega)).mono ?_
 rintro v σ' ⟨rfl, h⟩
 simp (disch := first | assumption | omega) only [go_sem]
 exact retC_by (Drop.refl _) (.refl _) ⟨rfl, h⟩
theorem wtext_ok (σ0 : ASt) (b : Nat) (s l : List UInt8) (σ : ASt) (hW : W σ0 b l σ) (hl : l.length + 10 + s.length ≤ 1000000) :
  ACalls Tryz.prog 37 [.ptr b 0, .str s] σ fun v σ' => v = .tuple [] ∧ W σ0 b (l ++ textB s) σ' := by
 refine a37 (by simp) ?_
 simp (disch := first | assumption | omega) only [go_sem, Nat.reduceEqDiff, ↓reduceIte]
 have hu := uintB_le (u := s.length) (by omega)
 rw [Int.toNat_natCast] at hu
 refine (wuint_ok σ0 b s.length l σ hW (by omega) (by omega) (by rw [Int.toNat_natCast]; omega)).mono ?_
 rintro v σ' ⟨rfl, k, hg⟩
 rw [Int.toNat_natCast] at hg
 have hb := W.cell hg
 simp (disch := first | assumption | omega) only [go_sem, reduceCtorEq, Nat.reduceEqDiff, ↓reduceIte, hb]
 have hlen : (bytesAV (l ++ uintB s.length)).length + s.length ≤ 140737488355328 := by simp [bytesAV]; omega
 refine appsC_by hg hlen fun k' σ' hg' => ?_
 have hb' := (hg'.at (ASt.set_same _ _ _))
 simp (disch := first | assumption | omega) only [go_sem, Nat.reduceEqDiff, Nat.reduceLeDiff, ↓reduceIte, Bool.true_and, hb']
 refine retC_by (Drop.refl _) (.refl _) ⟨rfl, ?_⟩
 have : l ++ textB s = (l ++ uintB s.length) ++ s := by simp [textB]
 rw [this]
 refine W.app (k := k) ?_
 rw [List.length_append, bytesAV_length (l := s)]
 exact hg'
theorem wbytes_ok (σ0 : ASt) (b : Nat) (l : List UInt8) (σ : ASt) (hW : W σ0 b l σ) : ACalls Tryz.prog 21 [.ptr b 0] σ fun v σ' => v = .str l ∧ σ' = σ := by
 obtain ⟨k, hg⟩ := hW
 have hb := W.cell hg
 refine a21 (by simp) ?_
 simp (disch := first | assumption | omega) only [go_sem, reduceCtorEq, ↓reduceIte, hb]
 exact retC_by (Drop.refl _) (.refl _) ⟨rfl, rfl⟩
theorem W.add {σ0 σ : ASt} {b c : Nat} {l : List UInt8} {r : Role} (h : W σ0 b l σ) (hc : σ c = none) : W (σ0.set c (some r)) b l (σ.set c (some r)) ∧ c ≠ b ∧ σ0 c = none := by
 obtain ⟨k, hg⟩ := h
 have hb := W.cell hg
 have hcb : c ≠ b := by rintro rfl; rw [hb] at hc; cases hc
 have h0 : σ0 c = none := by
  rcases hg with ⟨_, _, rfl⟩ | ⟨t, T, _, _, rfl⟩
  ·rwa [ASt.set_ne hcb] at hc
  ·obtain ⟨_, _, hc⟩ := set_none hc
   rwa [ASt.set_ne hcb] at hc
 refine ⟨⟨k, ?_⟩, hcb, h0⟩
 rcases hg with ⟨h1, h2, rfl⟩ | ⟨t, T, h1, h2, rfl⟩
 ·exact .inl ⟨h1, h2, set_swap (Ne.symm hcb)⟩
 ·obtain ⟨h3, h4, _⟩ := set_none hc
  obtain ⟨h5, h6, h7⟩ := set_none h2
  refine .inr ⟨t, T, h1, ?_, ?_⟩
  ·rw [ASt.set_ne h5, ASt.set_ne (Ne.symm h3)]; exact h7
  ·rw [set_swap h4, set_swap (Ne.symm hcb)]
theorem W.off {σ0 σ : ASt} {b c : Nat} {l : List UInt8} {r : Role} (h : W (σ0.set c (some r)) b l σ) (hcb : c ≠ b) (hc : σ0 c = none) : ∃ σ', Drop σ σ' ∧ W σ0 b l σ' ∧ σ = σ'.set c (some r) := by
 obtain ⟨k, hg⟩ := h
 rcases hg with ⟨h1, h2, rfl⟩ | ⟨t, T, h1, h2, rfl⟩
 ·refine ⟨σ0.set b (some (.obj [.sl k (bytesAV l)])), ?_, ⟨k, .inl ⟨h1, h2, rfl⟩⟩, (set_swap hcb)⟩
  rw [set_swap hcb]
  exact Drop.set (by rw [ASt.set_ne hcb]; exact hc)
 ·obtain ⟨h3, h4, h5⟩ := set_none h2
  obtain ⟨h6, h7, h8⟩ := set_none h5
  have e : ((σ0.set c (some r)).set b (some (.obj [.sl k (bytesAV l)]))).set t (some (.tok ((bytesAV l).length * 1))) = ((σ0.set b (some (.obj [.sl k (bytesAV l)]))).set t (some (.tok ((bytesAV l).length * 1)))).set c (some r) := by
   rw [set_swap hcb, set_swap h7]
  refine ⟨(σ0.set b (some (.obj [.sl k (bytesAV l)]))).set t (some (.tok ((bytesAV l).length * 1))), ?_, ⟨k, .inr ⟨t, T, h1, ?_, rfl⟩⟩, e⟩
  ·rw [e]
   exact Drop.set (by rw [ASt.set_ne h7, ASt.set_ne hcb]; exact hc)
  ·rw [ASt.set_ne h3]; exact h8
theorem W.role {σ0 σ : ASt} {b c : Nat} {l : List UInt8} {r : Role} (h : W (σ0.set c (some r)) b l σ) (hcb : c ≠ b) : σ c = some r := by
 obtain ⟨k, hg⟩ := h
 exact hg.at (by rw [ASt.set_ne hcb, ASt.set_same])
end Go.A
namespace Go.A
open Go.Proofs
/-! 19: tabular/expr.Write -/
def c19_0 : ACode := .ops [
 ⟨some 3, none, .e (.box (.t 1)), []⟩]
def c19_1 : ACode := .ops [
 ⟨some 6, none, .q (.mv (.t 0)), []⟩,
 ⟨some 7, none, .q (.fa 0 (.t 3)), []⟩,
 ⟨some 8, none, .q (.ld none (.t 7)), []⟩,
 ⟨some 9, none, .q (.conv .u64 (.t 8)), []⟩,
 ⟨some 10, none, .e (.call 35 [(.t 6), (.t 9)]), []⟩]
def c19_2 : ACode := .ops [
 ⟨some 11, none, .q (.fa 0 (.t 3)), []⟩,
 ⟨some 12, none, .q (.ld none (.t 11)), []⟩]
def c19_3 : ACode := .ops [
 ⟨some 14, none, .q (.bin .eql (.t 12) (.v (.int .i64 1))), []⟩,
 ⟨some 13, none, .q (.mv (.t 14)), []⟩]
def c19_4 : ACode := .ops [
 ⟨some 15, none, .q (.bin .eql (.t 12) (.v (.int .i64 3))), []⟩,
 ⟨some 13, none, .q (.mv (.t 15)), []⟩]
def c19_5 : ACode := .ops [
 ⟨some 16, none, .q (.bin .eql (.t 12) (.v (.int .i64 4))), []⟩,
 ⟨some 13, none, .q (.mv (.t 16)), []⟩]
def c19_6 : ACode := .cond (.t 13) .skip c19_5
def c19_7 : ACode := .seq c19_4 c19_6
def c19_8 : ACode := .cond (.t 13) .skip c19_7
def c19_9 : ACode := .seq c19_3 c19_8
def c19_10 : ACode := .ops [
 ⟨some 17, none, .q (.mv (.t 0)), []⟩,
 ⟨some 18, none, .q (.fa 1 (.t 3)), []⟩,
 ⟨some 19, none, .q (.ld none (.t 18)), []⟩,
 ⟨some 20, none, .e (.call 36 [(.t 17), (.t 19)]), []⟩]
def c19_11 : ACode := .ops [
 ⟨some 22, none, .q (.bin .eql (.t 12) (.v (.int .i64 2))), []⟩,
 ⟨some 21, none, .q (.mv (.t 22)), []⟩]
def c19_12 : ACode := .ops [
 ⟨some 23, none, .q (.mv (.t 0)), []⟩,
 ⟨some 24, none, .q (.fa 2 (.t 3)), []⟩,
 ⟨some 25, none, .q (.ld none (.t 24)), []⟩,
 ⟨some 26, none, .e (.call 37 [(.t 23), (.t 25)]), []⟩]
def c19_13 : ACode := .ops [
 ⟨some 28, none, .q (.bin .eql (.t 12) (.v (.int .i64 5))), []⟩,
 ⟨some 27, none, .q (.mv (.t 28)), []⟩]
def c19_14 : ACode := .ops [
 ⟨some 29, none, .q (.mv (.t 0)), []⟩,
 ⟨some 30, none, .q (.fa 3 (.t 3)), []⟩,
 ⟨some 31, none, .q (.ld (some 4) (.t 30)), []⟩,
 ⟨some 32, none, .e (.call 38 [(.t 29), (.t 31)]), []⟩]
def c19_15 : ACode := .ops [
 ⟨some 34, none, .q (.bin .eql (.t 12) (.v (.int .i64 6))), []⟩,
 ⟨some 33, none, .q (.mv (.t 34)), []⟩]
def c19_16 : ACode := .ops [
 ⟨some 35, none, .q (.mv (.t 0)), []⟩,
 ⟨some 36, none, .q (.fa 3 (.t 3)), []⟩,
 ⟨some 37, none, .q (.ld (some 4) (.t 36)), []⟩,
 ⟨some 38, none, .e (.call 38 [(.t 35), (.t 37)]), []⟩]
def c19_17 : ACode := .ops [
 ⟨some 39, none, .q (.mv (.t 0)), []⟩,
 ⟨some 40, none, .q (.fa 7 (.t 3)), []⟩,
 ⟨some 41, none, .q (.ld (some 4) (.t 40)), []⟩,
 ⟨some 42, none, .e (.call 38 [(.t 39), (.t 41)]), []⟩]
def c19_18 : ACode := .seq c19_16 c19_17
def c19_19 : ACode := .ops [
 ⟨some 44, none, .q (.bin .eql (.t 12) (.v (.int .i64 22))), []⟩,
 ⟨some 43, none, .q (.mv (.t 44)), []⟩]
def c19_20 : ACode := .ops [
 ⟨some 45, none, .q (.mv (.t 0)), []⟩,
 ⟨some 46, none, .q (.fa 2 (.t 3)), []⟩,
 ⟨some 47, none, .q (.ld none (.t 46)), []⟩,
 ⟨some 48, none, .e (.call 37 [(.t 45), (.t 47)]), []⟩]
def c19_21 : ACode := .ops [
 ⟨some 49, none, .q (.mv (.t 0)), []⟩,
 ⟨some 50, none, .q (.fa 11 (.t 3)), []⟩,
 ⟨some 51, none, .q (.ld none (.t 50)), []⟩,
 ⟨some 52, none, .q (.len (.t 51)), []⟩,
 ⟨some 53, none, .q (.conv .u64 (.t 52)), []⟩,
 ⟨some 54, none, .e (.call 35 [(.t 49), (.t 53)]), []⟩]
def c19_22 : ACode := .seq c19_20 c19_21
def c19_23 : ACode := .cond (.t 43) c19_22 .skip
def c19_24 : ACode := .seq c19_19 c19_23
def c19_25 : ACode := .cond (.t 33) c19_18 c19_24
def c19_26 : ACode := .seq c19_15 c19_25
def c19_27 : ACode := .cond (.t 27) c19_14 c19_26
def c19_28 : ACode := .seq c19_13 c19_27
def c19_29 : ACode := .cond (.t 21) c19_12 c19_28
def c19_30 : ACode := .seq c19_11 c19_29
def c19_31 : ACode := .cond (.t 13) c19_10 c19_30
def c19_32 : ACode := .seq c19_9 c19_31
def c19_33 : ACode := .block 0 c19_32
def c19_34 : ACode := .seq c19_2 c19_33
def c19_35 : ACode := .ops [
 ⟨some 55, none, .q (.fa 11 (.t 3)), []⟩,
 ⟨some 56, none, .q (.ld none (.t 55)), []⟩,
 ⟨some 57, none, .q (.len (.t 56)), []⟩,
 ⟨some 58, none, .q (.mv (.v (.int .i64 0))), []⟩]
def c19_36 : ACode := .ops [
 ⟨some 59, none, .q (.bin .lss (.t 58) (.t 57)), []⟩]
def c19_37 : ACode := .cond (.t 59) .skip (.exit 1)
def c19_38 : ACode := .ops [
 ⟨some 60, none, .q (.ia 12 (.t 56) (.t 58)), []⟩,
 ⟨some 61, none, .q (.ld (some 12) (.t 60)), []⟩,
 ⟨some 5, none, .e (.alloc [(.int .i64 0), (.int .i64 0), (.str []), (.int .i64 0), (.int .i64 0), (.bool false), (.bool false), (.int .i64 0), (.int .i64 0), (.bool false), (.bool false), (.sl .full [])]), []⟩,
 ⟨none, none, .e (.store 12 (.t 5) (.t 61)), []⟩]
def c19_39 : ACode := .ops [
 ⟨some 62, none, .q (.mv (.t 0)), []⟩,
 ⟨some 63, none, .q (.ld (some 12) (.t 5)), []⟩,
 ⟨some 64, none, .e (.call 19 [(.t 62), (.t 63)]), []⟩]
def c19_40 : ACode := .seq c19_38 c19_39
def c19_41 : ACode := .block 2 c19_40
def c19_42 : ACode := .ops [
 ⟨some 65, none, .q (.bin .add (.t 58) (.v (.int .i64 1))), []⟩,
 ⟨some 58, none, .q (.mv (.t 65)), []⟩]
def c19_43 : ACode := .seq c19_41 c19_42
def c19_44 : ACode := .seq c19_37 c19_43
def c19_45 : ACode := .seq c19_36 c19_44
def c19_46 : ACode := .loop c19_45
def c19_47 : ACode := .block 1 c19_46
def c19_48 : ACode := .seq c19_35 c19_47
def c19_49 : ACode := .seq c19_34 c19_48
def c19_50 : ACode := .seq c19_1 c19_49
def c19_51 : ACode := .seq c19_0 c19_50
@[go_sem] def c19_0_wp := wp_of c19_0.eq_1
@[go_sem] def c19_1_wp := wp_of c19_1.eq_1
@[go_sem] def c19_2_wp := wp_of c19_2.eq_1
@[go_sem] def c19_3_wp := wp_of c19_3.eq_1
@[go_sem] def c19_4_wp := wp_of c19_4.eq_1
@[go_sem] def c19_5_wp := wp_of c19_5.eq_1
@[go_sem] def c19_6_wp := wp_of c19_6.eq_1
@[go_sem] def c19_7_wp := wp_of c19_7.eq_1
@[go_sem] def c19_8_wp := wp_of c19_8.eq_1
@[go_sem] def c19_9_wp := wp_of c19_9.eq_1
@[go_sem] def c19_10_wp := wp_of c19_10.eq_1
@[go_sem] def c19_11_wp := wp_of c19_11.eq_1
@[go_sem] def c19_12_wp := wp_of c19_12.eq_1
@[go_sem] def c19_13_wp := wp_of c19_13.eq_1
@[go_sem] def c19_14_wp := wp_of c19_14.eq_1
@[go_sem] def c19_15_wp := wp_of c19_15.eq_1
@[go_sem] def c19_16_wp := wp_of c19_16.eq_1
@[go_sem] def c19_17_wp := wp_of c19_17.eq_1
@[go_sem] def c19_18_wp := wp_of c19_18.eq_1
@[go_sem] def c19_19_wp := wp_of c19_19.eq_1
@[go_sem] def c19_20_wp := wp_of c19_20.eq_1
@[go_sem] def c19_21_wp := wp_of c19_21.eq_1
@[go_sem] def c19_22_wp := wp_of c19_22.eq_1
@[go_sem] def c19_23_wp := wp_of c19_23.eq_1
@[go_sem] def c19_24_wp := wp_of c19_24.eq_1
@[go_sem] def c19_25_wp := wp_of c19_25.eq_1
@[go_sem] def c19_26_wp := wp_of c19_26.eq_1
@[go_sem] def c19_27_wp := wp_of c19_27.eq_1
@[go_sem] def c19_28_wp := wp_of c19_28.eq_1
@[go_sem] def c19_29_wp := wp_of c19_29.eq_1
@[go_sem] def c19_30_wp := wp_of c19_30.eq_1
@[go_sem] def c19_31_wp := wp_of c19_31.eq_1
@[go_sem] def c19_32_wp := wp_of c19_32.eq_1
@[go_sem] def c19_33_wp := wp_of c19_33.eq_1
@[go_sem] def c19_34_wp := wp_of c19_34.eq_1
@[go_sem] def c19_35_wp := wp_of c19_35.eq_1
@[go_sem] def c19_36_wp := wp_of c19_36.eq_1
@[go_sem] def c19_37_wp := wp_of c19_37.eq_1
@[go_sem] def c19_38_wp := wp_of c19_38.eq_1
@[go_sem] def c19_39_wp := wp_of c19_39.eq_1
@[go_sem] def c19_40_wp := wp_of c19_40.eq_1
@[go_sem] def c19_41_wp := wp_of c19_41.eq_1
@[go_sem] def c19_42_wp := wp_of c19_42.eq_1
@[go_sem] def c19_43_wp := wp_of c19_43.eq_1
@[go_sem] def c19_44_wp := wp_of c19_44.eq_1
@[go_sem] def c19_45_wp := wp_of c19_45.eq_1
@[go_sem] def c19_46_wp := wp_of c19_46.eq_1
@[go_sem] def c19_47_wp := wp_of c19_47.eq_1
@[go_sem] def c19_48_wp := wp_of c19_48.eq_1
@[go_sem] def c19_49_wp := wp_of c19_49.eq_1
@[go_sem] def c19_50_wp := wp_of c19_50.eq_1
@[go_sem] def c19_51_wp := wp_of c19_51.eq_1
def c19 : AFn := ⟨66, [], c19_51⟩
theorem c19_ok : compF Tryz.prog Tryz.f19 = some c19 := by kernel_rfl
theorem a19 {args : List AV} {σ : ASt} {R : AV → ASt → Prop} (hl : args.length ≤ 66) (h : c19_51.wp Tryz.prog (RetQ [] R) (init args) σ) : ACalls Tryz.prog 19 args σ R := acalls_of Tryz.func19 c19_ok hl h
/-! 38: tabular/expr.putRef -/
def c38_0 : ACode := .ops [
 ⟨some 3, none, .e (.box (.t 1)), []⟩]
def c38_1 : ACode := .ops [
 ⟨some 4, none, .q (.mv (.v (.int .i64 0))), []⟩]
def c38_2 : ACode := .ops [
 ⟨some 5, none, .q (.fa 2 (.t 3)), []⟩,
 ⟨some 6, none, .q (.ld none (.t 5)), []⟩]
def c38_3 : ACode := .ops [
 ⟨some 4, none, .q (.mv (.v (.int .i64 1))), []⟩]
def c38_4 : ACode := .cond (.t 6) c38_3 .skip
def c38_5 : ACode := .seq c38_2 c38_4
def c38_6 : ACode := .ops [
 ⟨some 7, none, .q (.fa 3 (.t 3)), []⟩,
 ⟨some 8, none, .q (.ld none (.t 7)), []⟩]
def c38_7 : ACode := .ops [
 ⟨some 9, none, .q (.mv (.t 4)), []⟩,
 ⟨some 10, none, .q (.bin .add (.t 9) (.v (.int .i64 2))), []⟩,
 ⟨some 4, none, .q (.mv (.t 10)), []⟩]
def c38_8 : ACode := .cond (.t 8) c38_7 .skip
def c38_9 : ACode := .seq c38_6 c38_8
def c38_10 : ACode := .ops [
 ⟨some 11, none, .q (.mv (.t 0)), []⟩,
 ⟨some 12, none, .q (.mv (.t 4)), []⟩,
 ⟨some 13, none, .q (.fa 0 (.t 3)), []⟩,
 ⟨some 14, none, .q (.ld none (.t 13)), []⟩,
 ⟨some 15, none, .q (.bin .mul (.v (.int .i64 4)) (.t 14)), []⟩,
 ⟨some 16, none, .q (.bin .add (.t 12) (.t 15)), []⟩,
 ⟨some 17, none, .q (.conv .u64 (.t 16)), []⟩,
 ⟨some 18, none, .e (.call 35 [(.t 11), (.t 17)]), []⟩]
def c38_11 : ACode := .ops [
 ⟨some 19, none, .q (.mv (.t 0)), []⟩,
 ⟨some 20, none, .q (.fa 1 (.t 3)), []⟩,
 ⟨some 21, none, .q (.ld none (.t 20)), []⟩,
 ⟨some 22, none, .q (.conv .u64 (.t 21)), []⟩,
 ⟨some 23, none, .e (.call 35 [(.t 19), (.t 22)]), []⟩]
def c38_12 : ACode := .seq c38_10 c38_11
def c38_13 : ACode := .seq c38_9 c38_12
def c38_14 : ACode := .seq c38_5 c38_13
def c38_15 : ACode := .seq c38_1 c38_14
def c38_16 : ACode := .seq c38_0 c38_15
@[go_sem] def c38_0_wp := wp_of c38_0.eq_1
@[go_sem] def c38_1_wp := wp_of c38_1.eq_1
@[go_sem] def c38_2_wp := wp_of c38_2.eq_1
@[go_sem] def c38_3_wp := wp_of c38_3.eq_1
@[go_sem] def c38_4_wp := wp_of c38_4.eq_1
@[go_sem] def c38_5_wp := wp_of c38_5.eq_1
@[go_sem] def c38_6_wp := wp_of c38_6.eq_1
@[go_sem] def c38_7_wp := wp_of c38_7.eq_1
@[go_sem] def c38_8_wp := wp_of c38_8.eq_1
@[go_sem] def c38_9_wp := wp_of c38_9.eq_1
@[go_sem] def c38_10_wp := wp_of c38_10.eq_1
@[go_sem] def c38_11_wp := wp_of c38_11.eq_1
@[go_sem] def c38_12_wp := wp_of c38_12.eq_1
@[go_sem] def c38_13_wp := wp_of c38_13.eq_1
@[go_sem] def c38_14_wp := wp_of c38_14.eq_1
@[go_sem] def c38_15_wp := wp_of c38_15.eq_1
@[go_sem] def c38_16_wp := wp_of c38_16.eq_1
def c38 : AFn := ⟨24, [], c38_16⟩
theorem c38_ok : compF Tryz.prog Tryz.f38 = some c38 := by kernel_rfl
theorem a38 {args : List AV} {σ : ASt} {R : AV → ASt → Prop} (hl : args.length ≤ 24) (h : c38_16.wp Tryz.prog (RetQ [] R) (init args) σ) : ACalls Tryz.prog 38 args σ R := acalls_of Tryz.func38 c38_ok hl h
end Go.A
namespace Go.A
open Go.Proofs Go.Lib Go.Vint
def absN (r : Ref) : Nat := (if r.absRow = true then 1 else 0) + (if r.absCol = true then 2 else 0)
def rfB (r : Ref) : List UInt8 := uintB (absN r + 4 * r.row.toNat) ++ uintB r.col.toNat
def restB (op n : Int) (s : List UInt8) (a b : Ref) (k : Nat) : List UInt8 :=
 if op = 1 ∨ op = 3 ∨ op = 4 then uintB (foldI n).toNat else if op = 2 then textB s else if op = 5 then rfB a else if op = 6 then rfB a ++ rfB b else if op = 22 then textB s ++ uintB k else []
mutual
def Nd.bytes : Nd → List UInt8
 | .mk op n s a b kids => uintB op.toNat ++ restB op n s a b kids.length ++ Nd.bytess kids
def Nd.bytess : List Nd → List UInt8
 | [] => []
 | x :: xs => x.bytes ++ Nd.bytess xs
end
def arity (op : Int) : Nat := if op = 7 ∨ op = 8 ∨ op = 9 then 1 else if 10 ≤ op ∧ op ≤ 21 then 2 else 0
def nameOkP (s : List UInt8) : Bool := decide ((lexP s).2.2 = 0) && (decide ((lexP s).1.length = 2) && match (lexP s).1 with
 | t :: _ => decide (t.kind = 3) && decide (t.text = s)
 | [] => false)
structure GdN (op n : Int) (s : List UInt8) (a b : Ref) (k : Nat) : Prop where
 op1 : 1 ≤ op
 op2 : op ≤ 23
 n1 : op = 1 → 0 ≤ n ∧ n ≤ 999999999999999999
 n3 : op = 3 → n = 0 ∨ n = 1
 n4 : op = 4 → n.tmod 10000 = 0 ∧ 10000 ≤ n ∧ n ≤ 70000
 n0 : op ≠ 1 → op ≠ 3 → op ≠ 4 → n = 0
 s2 : op = 2 → s.length ≤ 2000 ∧ (sgT s).isSome = true
 s22 : op = 22 → s.length ≤ 2000 ∧ nameOkP s = true ∧ k ≤ 2000
 s0 : op ≠ 2 → op ≠ 22 → s = []
 ga : op = 5 ∨ op = 6 → a.good = true
 a0 : op ≠ 5 → op ≠ 6 → a = .zero
 gb : op = 6 → b.good = true
 b0 : op ≠ 6 → b = .zero
 ar : op ≠ 22 → k = arity op
mutual
def Nd.wd : Nd → Prop
 | .mk op n s a b kids => GdN op n s a b kids.length ∧ Nd.wds kids
def Nd.wds : List Nd → Prop
 | [] => True
 | x :: xs => x.wd ∧ Nd.wds xs
end
theorem Nd.wds_mem : ∀ {l : List Nd}, Nd.wds l ↔ ∀ x ∈ l, x.wd
 | [] => by simp [Nd.wds]
 | y :: l => by rw [Nd.wds, Nd.wds_mem (l := l)]; simp
theorem GdN.num {op n : Int} {s : List UInt8} {a b : Ref} {k : Nat} (h : GdN op n s a b k) : 0 ≤ n ∧ n ≤ 999999999999999999 := by
 have h1 := h.n1
 have h3 := h.n3
 have h4 := h.n4
 have h0 := h.n0
 by_cases e1 : op = 1
 ·exact h1 e1
 by_cases e3 : op = 3
 ·have := h3 e3; omega
 by_cases e4 : op = 4
 ·have := h4 e4; omega
 ·have := h0 e1 e3 e4; omega
theorem arity_le (op : Int) : arity op ≤ 2 := by
 unfold arity
 repeat' split
 all_goals omega
theorem GdN.kids {op n : Int} {s : List UInt8} {a b : Ref} {k : Nat} (h : GdN op n s a b k) : k ≤ 2000 := by
 by_cases e : op = 22
 ·exact (h.s22 e).2.2
 ·have := h.ar e; have := arity_le op; omega
theorem good_bd {r : Ref} (h : r.good = true) : 0 ≤ r.row ∧ r.row < 3000 ∧ 0 ≤ r.col ∧ r.col < 700 := by
 unfold Ref.good at h
 exact of_decide_eq_true h
theorem bytess_take {x : Nd} : ∀ {l : List Nd} {i : Nat}, l[i]? = some x → Nd.bytess (l.take (i + 1)) = Nd.bytess (l.take i) ++ x.bytes
 | [], i, h => by simp at h
 | y :: l, 0, h => by simp at h; subst h; simp [Nd.bytess]
 | y :: l, i + 1, h => by
   simp only [List.getElem?_cons_succ] at h
   rw [List.take_succ_cons, List.take_succ_cons, Nd.bytess, Nd.bytess, bytess_take h, List.append_assoc]
theorem bytess_le : ∀ (l : List Nd) (i : Nat), (Nd.bytess (l.take i)).length ≤ (Nd.bytess l).length
 | [], i => by simp [Nd.bytess]
 | y :: l, 0 => by simp [Nd.bytess]
 | y :: l, i + 1 => by rw [List.take_succ_cons, Nd.bytess, Nd.bytess, List.length_append, List.length_append]; have := bytess_le l i; omega
theorem putref_ok (r : Ref) (hr : r.good = true) (σ0 : ASt) (b : Nat) (l : List UInt8) (σ : ASt) (hW : W σ0 b l σ) (hl : l.length + (rfB r).length ≤ 1000000) :
  ACalls Tryz.prog 38 [.ptr b 0, refAV r] σ fun v σ' => v = .tuple [] ∧ W σ0 b (l ++ rfB r) σ' := by
 obtain ⟨r1, r2, r3, r4⟩ := good_bd hr
 obtain ⟨row, col, ar, ac⟩ := r
 dsimp only at r1 r2 r3 r4
 have key : ∀ q : Int, 0 ≤ q → q ≤ 3 → IntKind.wrap .u64 (q + 4 * row) = q + 4 * row ∧ IntKind.wrap .u64 (4 * row) = 4 * row ∧ IntKind.wrap .u64 col = col := fun q h0 h1 => by
  rw [IntKind.wrap_u64, IntKind.wrap_u64, IntKind.wrap_u64]; omega
 obtain ⟨U, hU⟩ : ∃ U : Int, ((absN ⟨row, col, ar, ac⟩ : Nat) : Int) + 4 * row = U := ⟨_, rfl⟩
 have hrf : rfB ⟨row, col, ar, ac⟩ = uintB U.toNat ++ uintB col.toNat := by
  unfold rfB
  rw [show absN ⟨row, col, ar, ac⟩ + 4 * row.toNat = U.toNat by omega]
 rw [hrf] at hl ⊢
 rw [List.length_append] at hl
 have hadd := fun (c : Nat) (hc : σ c = none) (r : Role) => hW.add (r := r) hc
 unfold refAV
 cases ar <;> cases ac
 all_goals
  have hU' := hU
  unfold absN at hU'
  simp only [Bool.false_eq_true, if_false, if_true, Nat.zero_add, Nat.add_zero, Nat.reduceAdd] at hU'
  clear hU hrf
  have hb : 0 ≤ U ∧ U ≤ 20000 := by omega
  have hw0 := (key 0 (by omega) (by omega)).2.2
  refine a38 (by simp) ?_
  simp (disch := first | assumption | omega) only [go_sem]
  refine boxC_by rfl fun c hc => ?_
  have hadd := hadd c hc
  simp (disch := first | assumption | omega) only [go_sem, reduceCtorEq, Nat.reduceEqDiff, ↓reduceIte, Int.reduceAdd]
  refine ACalls.of_eq (congrArg (fun x => [AV.ptr b 0, AV.int .u64 x]) (show _ = U by omega)) ?_
  refine (wuint_ok _ b U l _ (hadd _).1 (by omega) (by omega) (by omega)).mono ?_
  rintro v σ1 ⟨rfl, hW1⟩
  have hc1 := hW1.role (hadd (.obj [])).2.1
  simp (disch := first | assumption | omega) only [go_sem, reduceCtorEq, Nat.reduceEqDiff, ↓reduceIte, hc1, hw0]
  refine (wuint_ok _ b col _ _ hW1 (by omega) (by omega) (by rw [List.length_append]; omega)).mono ?_
  rintro v σ2 ⟨rfl, hW2⟩
  rw [List.append_assoc] at hW2
  obtain ⟨σ3, hd, hW3, _⟩ := hW2.off (hadd (.obj [])).2.1 (hadd (.obj [])).2.2
  simp (disch := first | assumption | omega) only [go_sem]
  exact retC_by hd (.refl _) ⟨rfl, hW3⟩
theorem ewrite_le : ∀ (k : Nat) (n : Nd), n.size ≤ k → n.wd → ∀ (σ0 : ASt) (b : Nat) (l : List UInt8) (σ : ASt), W σ0 b l σ → l.length + n.bytes.length ≤ 900000 →
  ACalls Tryz.prog 19 [.ptr b 0, n.av] σ fun v σ' => v = .tuple [] ∧ W σ0 b (l ++ n.bytes) σ'
 | 0, n, hk, _ => by have := n.size_pos; omega
 | k + 1, n, hk, hg => by
   intro σ0 b l σ hW hl
   have ih := ewrite_le k
   obtain ⟨op, m, s, a, d, kids⟩ := n
   rw [Nd.size] at hk
   rw [Nd.wd] at hg
   obtain ⟨hg, hgs⟩ := hg
   have hm := hg.num
   have o1 := hg.op1
   have o2 := hg.op2
   have hkl := hg.kids
   rw [Nd.bytes] at hl ⊢
   rw [Nd.av_cs]
   rw [List.length_append, List.length_append] at hl
   have hops := uintB_le (u := op) (by omega)
   have hms := uintB_le (u := foldI m) (by have := foldI_bd (n := m) (by omega) (by omega); omega)
   have hfold := foldI_bd (n := m) (by omega) (by omega)
   have hw64 : IntKind.wrap .u64 op = op := by rw [IntKind.wrap_u64]; omega
   have hklw : IntKind.wrap .u64 (kids.length : Int) = kids.length := by rw [IntKind.wrap_u64]; omega
   obtain ⟨F, hF⟩ : ∃ F, F = ACode.wp Tryz.prog c19_48 := ⟨_, rfl⟩
   obtain ⟨H, hH⟩ : ∃ H, uintB op.toNat ++ restB op m s a d kids.length = H := ⟨_, rfl⟩
   have hHl : H.length = (uintB op.toNat).length + (restB op m s a d kids.length).length := by rw [← hH, List.length_append]
   have hlH : l.length + H.length + (Nd.bytess kids).length ≤ 900000 := by omega
   rw [hH]
   obtain ⟨Q, hQ⟩ : ∃ Q, Q = RetQ [] fun v σ' => v = AV.tuple [] ∧ W σ0 b (l ++ (H ++ Nd.bytess kids)) σ' := ⟨_, rfl⟩
   have fin : ∀ (c : Nat) (σ1 : ASt) (a1 : AFr), c ≠ b → σ0 c = none → W (σ0.set c (some (.obj (Nd.cs op m s a d (kids.map Nd.av))))) b (l ++ H) σ1 → (a1 0 = .ptr b 0 ∧ a1 3 = .ptr c 0) → F Q a1 σ1 := by
    intro c σ1 a1 hcb hc0 hW1 hf
    have hc1 := hW1.role hcb
    rw [hF]
    simp (disch := first | assumption | omega) only [go_sem, ↓reduceIte, hf, hc1]
    obtain ⟨σ3, hd3, hW3, _⟩ := hW1.off hcb hc0
    refine wp_loop_by (fun (i : Nat) a1 s2 => i ≤ kids.length ∧ (a1 0 = .ptr b 0 ∧ a1 56 = .sl .shr (kids.map Nd.av) ∧ a1 57 = .int .i64 kids.length ∧ a1 58 = .int .i64 i) ∧ W σ0 b (l ++ H ++ Nd.bytess (kids.take i)) s2) (fun i => kids.length - i) 0 (Dr.drop hd3 ⟨Nat.zero_le _, ?_, by rw [List.take_zero, Nd.bytess, List.append_nil]; exact hW3⟩) ?_
    ·simp (disch := first | assumption | omega) only [go_sem, reduceCtorEq, Nat.reduceEqDiff, ↓reduceIte, hf]
    rintro i a2 s2 ⟨hi, hf2, hW2⟩
    by_cases hlt : i < kids.length
    ·have hlt' : (i : Int) < kids.length := by omega
     have hx : kids[i]? = some (kids[i]'hlt) := List.getElem?_eq_getElem hlt
     have hmem := List.getElem_mem hlt
     obtain ⟨x, hxe⟩ : ∃ x, kids[i]'hlt = x := ⟨_, rfl⟩
     rw [hxe] at hx hmem
     have hmx := Nd.get hx
     have hsz := Nd.size_kid hmem
     have hih := ih x (by omega) (Nd.wds_mem.1 hgs x hmem)
     have hbt := bytess_take hx
     have hbl := bytess_le kids (i + 1)
     rw [hbt, List.length_append] at hbl
     obtain ⟨xo, xm, xs, xa, xb, xk⟩ := x
     rw [Nd.av_cs] at hmx hih
     generalize xk.map Nd.av = XK at *
     generalize kids.map Nd.av = KL at *
     generalize Nd.bytes (.mk xo xm xs xa xb xk) = XB at *
     simp (disch := first | assumption | omega) only [go_sem, Nat.reduceEqDiff, Nat.reduceLeDiff, ↓reduceIte, hf2, hlt', hmx]
     refine allocC_by fun e he => ?_
     obtain ⟨hWe, heb, he0⟩ := hW2.add he (r := .obj (Nd.cs xo xm xs xa xb XK))
     simp (disch := first | assumption | omega) only [go_sem, reduceCtorEq, Nat.reduceEqDiff, Nat.reduceAdd, Nat.reduceLeDiff, ↓reduceIte, hf2, ASt.set_set]
     refine (hih _ b _ _ hWe (by rw [List.length_append, List.length_append]; omega)).mono ?_
     rintro v σ4 ⟨rfl, hW4⟩
     obtain ⟨σ5, hd5, hW5, _⟩ := hW4.off heb he0
     simp (disch := first | assumption | omega) only [go_sem, Nat.reduceEqDiff, ↓reduceIte, hf2]
     refine ⟨i + 1, by dsimp only; omega, Dr.drop hd5 ⟨by omega, ?_, by rw [hbt, ← List.append_assoc]; exact hW5⟩⟩
     simp (disch := first | assumption | omega) only [go_sem, reduceCtorEq, Nat.reduceEqDiff, ↓reduceIte, hf2]
    ·have hlt' : ¬ (i : Int) < kids.length := by omega
     rw [List.take_of_length_le (by omega)] at hW2
     rw [hQ]
     simp (disch := first | assumption | omega) only [go_sem, ↓reduceIte, hf2, hlt']
     exact retC_by (Drop.refl _) (.refl _) ⟨rfl, by rw [← List.append_assoc]; exact hW2⟩
   have hadd := fun (c : Nat) (hc : σ c = none) (r : Role) => hW.add (r := r) hc
   refine a19 (by simp) ?_
   rw [← hQ]
   simp (disch := first | assumption | omega) only [go_sem]
   refine boxC_by rfl fun c hc => ?_
   obtain ⟨hWc, hcb, hc0⟩ := hW.add hc (r := .obj (Nd.cs op m s a d (kids.map Nd.av)))
   have hkm : (kids.map Nd.av).length = kids.length := by simp
   generalize kids.map Nd.av = KL at *
   simp (disch := first | assumption | omega) only [go_sem, reduceCtorEq, Nat.reduceEqDiff, ↓reduceIte, hw64]
   refine (wuint_ok _ b op l _ hWc (by omega) (by omega) (by omega)).mono ?_
   rintro v σ1 ⟨rfl, hW1⟩
   have hc1 := hW1.role hcb
   have hcd : 0 ≤ op ∧ op ≤ 23 := by omega
   by_cases h134 : op = 1 ∨ op = 3 ∨ op = 4
   ·have hrb : restB op m s a d kids.length = uintB (foldI m).toNat := if_pos h134
    rw [hrb] at hH hHl
    have fin := fin c
    rcases h134 with h1 | h1 | h1
    all_goals
     simp (disch := first | assumption | omega) only [go_sem, reduceCtorEq, Nat.reduceEqDiff, Int.reduceEq, ↓reduceIte, hc1, h1, ←hF]
     refine (wint_ok _ b m _ _ hW1 (by omega) (by omega) (by rw [List.length_append]; omega)).mono ?_
     rintro v σ2 ⟨rfl, hW2⟩
     rw [List.append_assoc, hH] at hW2
     simp (disch := first | assumption | omega) only [go_sem]
     refine fin _ _ hcb hc0 hW2 ?_
     simp (disch := first | assumption | omega) only [go_sem, reduceCtorEq, Nat.reduceEqDiff, ↓reduceIte]
   have g1 : op ≠ 1 := by omega
   have g3 : op ≠ 3 := by omega
   have g4 : op ≠ 4 := by omega
   by_cases h2 : op = 2
   ·have hrb : restB op m s a d kids.length = textB s := by unfold restB; rw [if_neg h134, if_pos h2]
    rw [hrb] at hH hHl
    have hsl := (hg.s2 h2).1
    simp (disch := first | assumption | omega) only [go_sem, reduceCtorEq, Nat.reduceEqDiff, Int.reduceEq, ↓reduceIte, hc1, h2, ←hF]
    refine (wtext_ok _ b s _ _ hW1 (by rw [List.length_append]; omega)).mono ?_
    rintro v σ2 ⟨rfl, hW2⟩
    rw [List.append_assoc, hH] at hW2
    simp (disch := first | assumption | omega) only [go_sem]
    refine fin c _ _ hcb hc0 hW2 ?_
    simp (disch := first | assumption | omega) only [go_sem, reduceCtorEq, Nat.reduceEqDiff, ↓reduceIte]
   by_cases h5 : op = 5
   ·have hrb : restB op m s a d kids.length = rfB a := by unfold restB; rw [if_neg h134, if_neg h2, if_pos h5]
    rw [hrb] at hH hHl
    simp (disch := first | assumption | omega) only [go_sem, reduceCtorEq, Nat.reduceEqDiff, Nat.reduceAdd, Nat.reduceLeDiff, Int.reduceEq, ↓reduceIte, hc1, h5, ←hF]
    refine (putref_ok a (hg.ga (.inl h5)) _ b _ _ hW1 (by rw [List.length_append]; omega)).mono ?_
    rintro v σ2 ⟨rfl, hW2⟩
    rw [List.append_assoc, hH] at hW2
    simp (disch := first | assumption | omega) only [go_sem]
    refine fin c _ _ hcb hc0 hW2 ?_
    simp (disch := first | assumption | omega) only [go_sem, reduceCtorEq, Nat.reduceEqDiff, ↓reduceIte]
   by_cases h6 : op = 6
   ·have hrb : restB op m s a d kids.length = rfB a ++ rfB d := by unfold restB; rw [if_neg h134, if_neg h2, if_neg h5, if_pos h6]
    rw [hrb] at hH hHl
    rw [List.length_append] at hHl
    simp (disch := first | assumption | omega) only [go_sem, reduceCtorEq, Nat.reduceEqDiff, Nat.reduceAdd, Nat.reduceLeDiff, Int.reduceEq, ↓reduceIte, hc1, h6, ←hF]
    refine (putref_ok a (hg.ga (.inr h6)) _ b _ _ hW1 (by rw [List.length_append]; omega)).mono ?_
    rintro v σ2 ⟨rfl, hW2⟩
    have hc2 := hW2.role hcb
    simp (disch := first | assumption | omega) only [go_sem, reduceCtorEq, Nat.reduceEqDiff, Nat.reduceAdd, Nat.reduceLeDiff, ↓reduceIte, hc2]
    refine (putref_ok d (hg.gb h6) _ b _ _ hW2 (by rw [List.length_append, List.length_append]; omega)).mono ?_
    rintro v σ3 ⟨rfl, hW3⟩
    rw [List.append_assoc, List.append_assoc, hH] at hW3
    simp (disch := first | assumption | omega) only [go_sem]
    refine fin c _ _ hcb hc0 hW3 ?_
    simp (disch := first | assumption | omega) only [go_sem, reduceCtorEq, Nat.reduceEqDiff, ↓reduceIte]
   by_cases h22 : op = 22
   ·have hrb : restB op m s a d kids.length = textB s ++ uintB kids.length := by unfold restB; rw [if_neg h134, if_neg h2, if_neg h5, if_neg h6, if_pos h22]
    rw [hrb] at hH hHl
    rw [List.length_append] at hHl
    have hsl := (hg.s22 h22).1
    have e1 : ((kids.length : Int)).toNat = kids.length := by omega
    simp (disch := first | assumption | omega) only [go_sem, reduceCtorEq, Nat.reduceEqDiff, Int.reduceEq, ↓reduceIte, hc1, h22, ←hF]
    refine (wtext_ok _ b s _ _ hW1 (by rw [List.length_append]; omega)).mono ?_
    rintro v σ2 ⟨rfl, hW2⟩
    have hc2 := hW2.role hcb
    simp (disch := first | assumption | omega) only [go_sem, reduceCtorEq, Nat.reduceEqDiff, ↓reduceIte, hc2, hkm]
    refine (wuint_ok _ b kids.length _ _ hW2 (by omega) (by omega) (by rw [e1, List.length_append, List.length_append]; omega)).mono ?_
    rintro v σ3 ⟨rfl, hW3⟩
    rw [e1, List.append_assoc, List.append_assoc, hH] at hW3
    simp (disch := first | assumption | omega) only [go_sem]
    refine fin c _ _ hcb hc0 hW3 ?_
    simp (disch := first | assumption | omega) only [go_sem, reduceCtorEq, Nat.reduceEqDiff, ↓reduceIte]
   have hrb : restB op m s a d kids.length = [] := by unfold restB; rw [if_neg h134, if_neg h2, if_neg h5, if_neg h6, if_neg h22]
   rw [hrb, List.append_nil] at hH
   rw [hH] at hW1
   simp (disch := first | assumption | omega) only [go_sem, Nat.reduceEqDiff, ↓reduceIte, hc1, g1, g3, g4, h2, h5, h6, h22, ←hF]
   refine fin c _ _ hcb hc0 hW1 ?_
   simp (disch := first | assumption | omega) only [go_sem, reduceCtorEq, Nat.reduceEqDiff, ↓reduceIte]
theorem ewrite_ok (n : Nd) (hg : n.wd) (σ0 : ASt) (b : Nat) (l : List UInt8) (σ : ASt) (hW : W σ0 b l σ) (hl : l.length + n.bytes.length ≤ 900000) :
  ACalls Tryz.prog 19 [.ptr b 0, n.av] σ fun v σ' => v = .tuple [] ∧ W σ0 b (l ++ n.bytes) σ' := ewrite_le n.size n (Nat.le_refl _) hg σ0 b l σ hW hl
end Go.A
namespace Go.A
open Go.Proofs
/-! 39: tabular/tabularref02.Uint -/
def c39_0 : ACode := .ops [
 ⟨some 2, none, .q (.mv (.v (.str []))), []⟩]
def c39_1 : ACode := .ops [
 ⟨some 3, none, .q (.mv (.t 0)), []⟩,
 ⟨some 4, none, .q (.bin .lss (.t 3) (.v (.int .u64 128))), []⟩]
def c39_2 : ACode := .ops [
 ⟨some 5, none, .q (.mv (.t 0)), []⟩,
 ⟨some 6, none, .q (.conv .u8 (.t 5)), []⟩,
 ⟨some 7, none, .q (.bsl 1 [(.t 6)]), []⟩,
 ⟨some 8, none, .q (.b2s (.t 7)), []⟩,
 ⟨some 2, none, .q (.mv (.t 8)), []⟩]
def c39_3 : ACode := .seq c39_2 .ret
def c39_4 : ACode := .cond (.t 4) c39_3 .skip
def c39_5 : ACode := .seq c39_1 c39_4
def c39_6 : ACode := .ops [
 ⟨some 9, none, .q (.mv (.t 0)), []⟩,
 ⟨some 10, none, .q (.bin .rem (.t 9) (.v (.int .u64 128))), []⟩,
 ⟨some 11, none, .q (.bin .add (.v (.int .u64 128)) (.t 10)), []⟩,
 ⟨some 12, none, .q (.conv .u8 (.t 11)), []⟩,
 ⟨some 13, none, .q (.bsl 1 [(.t 12)]), []⟩,
 ⟨some 14, none, .q (.b2s (.t 13)), []⟩,
 ⟨some 15, none, .q (.mv (.t 0)), []⟩,
 ⟨some 16, none, .q (.bin .quo (.t 15) (.v (.int .u64 128))), []⟩,
 ⟨some 17, none, .e (.call 39 [(.t 16)]), [⟨none, .b2s (.t 13), 14⟩]⟩,
 ⟨some 18, none, .q (.bin .add (.t 14) (.t 17)), []⟩,
 ⟨some 2, none, .q (.mv (.t 18)), []⟩]
def c39_7 : ACode := .seq c39_6 .ret
def c39_8 : ACode := .seq c39_5 c39_7
def c39_9 : ACode := .seq c39_0 c39_8
@[go_sem] def c39_0_wp := wp_of c39_0.eq_1
@[go_sem] def c39_1_wp := wp_of c39_1.eq_1
@[go_sem] def c39_2_wp := wp_of c39_2.eq_1
@[go_sem] def c39_3_wp := wp_of c39_3.eq_1
@[go_sem] def c39_4_wp := wp_of c39_4.eq_1
@[go_sem] def c39_5_wp := wp_of c39_5.eq_1
@[go_sem] def c39_6_wp := wp_of c39_6.eq_1
@[go_sem] def c39_7_wp := wp_of c39_7.eq_1
@[go_sem] def c39_8_wp := wp_of c39_8.eq_1
@[go_sem] def c39_9_wp := wp_of c39_9.eq_1
def c39 : AFn := ⟨19, [.t 2], c39_9⟩
theorem c39_ok : compF Tryz.prog Tryz.f39 = some c39 := by kernel_rfl
theorem a39 {args : List AV} {σ : ASt} {R : AV → ASt → Prop} (hl : args.length ≤ 19) (h : c39_9.wp Tryz.prog (RetQ [.t 2] R) (init args) σ) : ACalls Tryz.prog 39 args σ R := acalls_of Tryz.func39 c39_ok hl h
/-! 40: tabular/tabularref02.Fold -/
def c40_0 : ACode := .ops [
 ⟨some 2, none, .q (.mv (.v (.int .u64 0))), []⟩]
def c40_1 : ACode := .ops [
 ⟨some 3, none, .q (.mv (.t 0)), []⟩,
 ⟨some 4, none, .q (.bin .lss (.t 3) (.v (.int .i64 0))), []⟩]
def c40_2 : ACode := .ops [
 ⟨some 5, none, .q (.mv (.t 0)), []⟩,
 ⟨some 6, none, .q (.bin .add (.t 5) (.v (.int .i64 1))), []⟩,
 ⟨some 7, none, .q (.un .neg (.t 6)), []⟩,
 ⟨some 8, none, .q (.conv .u64 (.t 7)), []⟩,
 ⟨some 9, none, .q (.bin .mul (.v (.int .u64 2)) (.t 8)), []⟩,
 ⟨some 10, none, .q (.bin .add (.t 9) (.v (.int .u64 1))), []⟩,
 ⟨some 2, none, .q (.mv (.t 10)), []⟩]
def c40_3 : ACode := .seq c40_2 .ret
def c40_4 : ACode := .cond (.t 4) c40_3 .skip
def c40_5 : ACode := .seq c40_1 c40_4
def c40_6 : ACode := .ops [
 ⟨some 11, none, .q (.mv (.t 0)), []⟩,
 ⟨some 12, none, .q (.conv .u64 (.t 11)), []⟩,
 ⟨some 13, none, .q (.bin .mul (.v (.int .u64 2)) (.t 12)), []⟩,
 ⟨some 2, none, .q (.mv (.t 13)), []⟩]
def c40_7 : ACode := .seq c40_6 .ret
def c40_8 : ACode := .seq c40_5 c40_7
def c40_9 : ACode := .seq c40_0 c40_8
@[go_sem] def c40_0_wp := wp_of c40_0.eq_1
@[go_sem] def c40_1_wp := wp_of c40_1.eq_1
@[go_sem] def c40_2_wp := wp_of c40_2.eq_1
@[go_sem] def c40_3_wp := wp_of c40_3.eq_1
@[go_sem] def c40_4_wp := wp_of c40_4.eq_1
@[go_sem] def c40_5_wp := wp_of c40_5.eq_1
@[go_sem] def c40_6_wp := wp_of c40_6.eq_1
@[go_sem] def c40_7_wp := wp_of c40_7.eq_1
@[go_sem] def c40_8_wp := wp_of c40_8.eq_1
@[go_sem] def c40_9_wp := wp_of c40_9.eq_1
def c40 : AFn := ⟨14, [.t 2], c40_9⟩
theorem c40_ok : compF Tryz.prog Tryz.f40 = some c40 := by kernel_rfl
theorem a40 {args : List AV} {σ : ASt} {R : AV → ASt → Prop} (hl : args.length ≤ 14) (h : c40_9.wp Tryz.prog (RetQ [.t 2] R) (init args) σ) : ACalls Tryz.prog 40 args σ R := acalls_of Tryz.func40 c40_ok hl h
/-! 41: tabular/tabularref02.Text -/
def c41_0 : ACode := .ops [
 ⟨some 2, none, .q (.mv (.v (.str []))), []⟩]
def c41_1 : ACode := .ops [
 ⟨some 3, none, .q (.mv (.t 0)), []⟩,
 ⟨some 4, none, .q (.lenS (.t 3)), []⟩,
 ⟨some 5, none, .q (.conv .u64 (.t 4)), []⟩,
 ⟨some 6, none, .e (.call 39 [(.t 5)]), []⟩,
 ⟨some 7, none, .q (.mv (.t 0)), []⟩,
 ⟨some 8, none, .q (.bin .add (.t 6) (.t 7)), []⟩,
 ⟨some 2, none, .q (.mv (.t 8)), []⟩]
def c41_2 : ACode := .seq c41_1 .ret
def c41_3 : ACode := .seq c41_0 c41_2
@[go_sem] def c41_0_wp := wp_of c41_0.eq_1
@[go_sem] def c41_1_wp := wp_of c41_1.eq_1
@[go_sem] def c41_2_wp := wp_of c41_2.eq_1
@[go_sem] def c41_3_wp := wp_of c41_3.eq_1
def c41 : AFn := ⟨9, [.t 2], c41_3⟩
theorem c41_ok : compF Tryz.prog Tryz.f41 = some c41 := by kernel_rfl
theorem a41 {args : List AV} {σ : ASt} {R : AV → ASt → Prop} (hl : args.length ≤ 9) (h : c41_3.wp Tryz.prog (RetQ [.t 2] R) (init args) σ) : ACalls Tryz.prog 41 args σ R := acalls_of Tryz.func41 c41_ok hl h
end Go.A
namespace Go.A
open Go.Proofs Go.Vint
theorem refUint_ok : ∀ (n : Nat) (u : Int), u.toNat = n → 0 ≤ u → u ≤ 18446744073709551615 → Pure Tryz.prog 39 [.int .u64 u] (.str (uintB u.toNat)) := by
 intro n
 induction n using Nat.strongRecOn with
 | _ n ih =>
   intro u hn h0 h1 σ
   refine a39 (by simp) ?_
   by_cases h : u < 128
   ·have hw : IntKind.wrap .u8 u = u := by rw [wrap8]; omega
    simp (disch := first | assumption | omega) only [go_sem, reduceCtorEq, ↓reduceIte, Bool.true_and, h, hw]
    exact retC_by (Drop.refl _) (.refl _) ⟨by rw [uintB_i h0 h]; rfl, rfl⟩
   ·have hw : u.tmod 128 = u % 128 := by rw [Int.tmod_eq_emod_of_nonneg h0]
    have hd : u.tdiv 128 = u / 128 := by rw [Int.tdiv_eq_ediv_of_nonneg h0]
    have hlen : 1 + (uintB (u / 128).toNat).length ≤ 9223372036854775807 := by have := uintB_le (u := u / 128) (by omega); omega
    simp (disch := first | assumption | omega) only [go_sem, reduceCtorEq, ↓reduceIte, Bool.true_and, h, hw, hd]
    refine (ih (u / 128).toNat (by omega) (u / 128) rfl (by omega) (by omega)).use ?_
    simp (disch := first | assumption | omega) only [go_sem, Nat.reduceEqDiff, ↓reduceIte]
    refine retC_by (Drop.refl _) (.refl _) ⟨?_, rfl⟩
    rw [uintB_j (u := u) (by omega)]
    rfl
theorem refUint_ok' (u : Int) (h0 : 0 ≤ u) (h1 : u ≤ 18446744073709551615) : Pure Tryz.prog 39 [.int .u64 u] (.str (uintB u.toNat)) := refUint_ok _ u rfl h0 h1
theorem refFold_ok (n : Int) (h1 : -9223372036854775808 ≤ n) (h2 : n ≤ 9223372036854775807) : Pure Tryz.prog 40 [.int .i64 n] (.int .u64 (foldI n)) := by
 intro σ
 refine a40 (by simp) ?_
 unfold foldI
 by_cases h : n < 0
 ·have e : 0 - (n + 1) = -(n + 1) := by omega
  rw [if_pos h]
  simp (disch := first | assumption | omega) only [go_sem, reduceCtorEq, ↓reduceIte, h, e]
  exact retC_by (Drop.refl _) (.refl _) ⟨rfl, rfl⟩
 ·rw [if_neg h]
  simp (disch := first | assumption | omega) only [go_sem, reduceCtorEq, ↓reduceIte, h]
  exact retC_by (Drop.refl _) (.refl _) ⟨rfl, rfl⟩
end Go.A
namespace Go.A
open Go.Proofs
/-! 22: tabular/tabularref12.Write -/
def c22_0 : ACode := .ops [
 ⟨some 1, none, .e (.box (.t 0)), []⟩,
 ⟨some 2, none, .q (.mv (.v (.str []))), []⟩]
def c22_1 : ACode := .ops [
 ⟨some 6, none, .q (.fa 0 (.t 1)), []⟩,
 ⟨some 7, none, .q (.ld none (.t 6)), []⟩,
 ⟨some 8, none, .q (.conv .u64 (.t 7)), []⟩,
 ⟨some 9, none, .e (.call 39 [(.t 8)]), []⟩,
 ⟨some 3, none, .q (.mv (.t 9)), []⟩]
def c22_2 : ACode := .ops [
 ⟨some 10, none, .q (.fa 0 (.t 1)), []⟩,
 ⟨some 11, none, .q (.ld none (.t 10)), []⟩]
def c22_3 : ACode := .ops [
 ⟨some 13, none, .q (.bin .eql (.t 11) (.v (.int .i64 1))), []⟩,
 ⟨some 12, none, .q (.mv (.t 13)), []⟩]
def c22_4 : ACode := .ops [
 ⟨some 14, none, .q (.bin .eql (.t 11) (.v (.int .i64 3))), []⟩,
 ⟨some 12, none, .q (.mv (.t 14)), []⟩]
def c22_5 : ACode := .ops [
 ⟨some 15, none, .q (.bin .eql (.t 11) (.v (.int .i64 4))), []⟩,
 ⟨some 12, none, .q (.mv (.t 15)), []⟩]
def c22_6 : ACode := .cond (.t 12) .skip c22_5
def c22_7 : ACode := .seq c22_4 c22_6
def c22_8 : ACode := .cond (.t 12) .skip c22_7
def c22_9 : ACode := .seq c22_3 c22_8
def c22_10 : ACode := .ops [
 ⟨some 16, none, .q (.mv (.t 3)), []⟩,
 ⟨some 17, none, .q (.fa 1 (.t 1)), []⟩,
 ⟨some 18, none, .q (.ld none (.t 17)), []⟩,
 ⟨some 19, none, .e (.call 40 [(.t 18)]), []⟩,
 ⟨some 20, none, .e (.call 39 [(.t 19)]), []⟩,
 ⟨some 21, none, .q (.bin .add (.t 16) (.t 20)), []⟩,
 ⟨some 3, none, .q (.mv (.t 21)), []⟩]
def c22_11 : ACode := .ops [
 ⟨some 23, none, .q (.bin .eql (.t 11) (.v (.int .i64 2))), []⟩,
 ⟨some 22, none, .q (.mv (.t 23)), []⟩]
def c22_12 : ACode := .ops [
 ⟨some 24, none, .q (.mv (.t 3)), []⟩,
 ⟨some 25, none, .q (.fa 2 (.t 1)), []⟩,
 ⟨some 26, none, .q (.ld none (.t 25)), []⟩,
 ⟨some 27, none, .e (.call 41 [(.t 26)]), []⟩,
 ⟨some 28, none, .q (.bin .add (.t 24) (.t 27)), []⟩,
 ⟨some 3, none, .q (.mv (.t 28)), []⟩]
def c22_13 : ACode := .ops [
 ⟨some 30, none, .q (.bin .eql (.t 11) (.v (.int .i64 5))), []⟩,
 ⟨some 29, none, .q (.mv (.t 30)), []⟩]
def c22_14 : ACode := .ops [
 ⟨some 31, none, .q (.mv (.t 3)), []⟩,
 ⟨some 32, none, .q (.fa 3 (.t 1)), []⟩,
 ⟨some 33, none, .q (.ld (some 4) (.t 32)), []⟩,
 ⟨some 34, none, .e (.call 42 [(.t 33)]), []⟩,
 ⟨some 35, none, .q (.bin .add (.t 31) (.t 34)), []⟩,
 ⟨some 3, none, .q (.mv (.t 35)), []⟩]
def c22_15 : ACode := .ops [
 ⟨some 37, none, .q (.bin .eql (.t 11) (.v (.int .i64 6))), []⟩,
 ⟨some 36, none, .q (.mv (.t 37)), []⟩]
def c22_16 : ACode := .ops [
 ⟨some 38, none, .q (.mv (.t 3)), []⟩,
 ⟨some 39, none, .q (.fa 3 (.t 1)), []⟩,
 ⟨some 40, none, .q (.ld (some 4) (.t 39)), []⟩,
 ⟨some 42, none, .q (.fa 7 (.t 1)), []⟩,
 ⟨some 43, none, .q (.ld (some 4) (.t 42)), []⟩,
 ⟨some 41, none, .e (.call 42 [(.t 40)]), [⟨none, .ld (some 4) (.t 42), 43⟩]⟩,
 ⟨some 44, none, .e (.call 42 [(.t 43)]), []⟩,
 ⟨some 45, none, .q (.bin .add (.t 41) (.t 44)), []⟩,
 ⟨some 46, none, .q (.bin .add (.t 38) (.t 45)), []⟩,
 ⟨some 3, none, .q (.mv (.t 46)), []⟩]
def c22_17 : ACode := .ops [
 ⟨some 48, none, .q (.bin .eql (.t 11) (.v (.int .i64 22))), []⟩,
 ⟨some 47, none, .q (.mv (.t 48)), []⟩]
def c22_18 : ACode := .ops [
 ⟨some 49, none, .q (.mv (.t 3)), []⟩,
 ⟨some 50, none, .q (.fa 2 (.t 1)), []⟩,
 ⟨some 51, none, .q (.ld none (.t 50)), []⟩,
 ⟨some 53, none, .q (.fa 11 (.t 1)), []⟩,
 ⟨some 54, none, .q (.ld none (.t 53)), []⟩,
 ⟨some 55, none, .q (.len (.t 54)), []⟩,
 ⟨some 56, none, .q (.conv .u64 (.t 55)), []⟩,
 ⟨some 52, none, .e (.call 41 [(.t 51)]), [⟨none, .ld none (.t 53), 54⟩]⟩,
 ⟨some 57, none, .e (.call 39 [(.t 56)]), []⟩,
 ⟨some 58, none, .q (.bin .add (.t 52) (.t 57)), []⟩,
 ⟨some 59, none, .q (.bin .add (.t 49) (.t 58)), []⟩,
 ⟨some 3, none, .q (.mv (.t 59)), []⟩]
def c22_19 : ACode := .cond (.t 47) c22_18 .skip
def c22_20 : ACode := .seq c22_17 c22_19
def c22_21 : ACode := .cond (.t 36) c22_16 c22_20
def c22_22 : ACode := .seq c22_15 c22_21
def c22_23 : ACode := .cond (.t 29) c22_14 c22_22
def c22_24 : ACode := .seq c22_13 c22_23
def c22_25 : ACode := .cond (.t 22) c22_12 c22_24
def c22_26 : ACode := .seq c22_11 c22_25
def c22_27 : ACode := .cond (.t 12) c22_10 c22_26
def c22_28 : ACode := .seq c22_9 c22_27
def c22_29 : ACode := .block 0 c22_28
def c22_30 : ACode := .seq c22_2 c22_29
def c22_31 : ACode := .ops [
 ⟨some 60, none, .q (.fa 11 (.t 1)), []⟩,
 ⟨some 61, none, .q (.ld none (.t 60)), []⟩,
 ⟨some 62, none, .q (.len (.t 61)), []⟩,
 ⟨some 63, none, .q (.mv (.v (.int .i64 0))), []⟩]
def c22_32 : ACode := .ops [
 ⟨some 64, none, .q (.bin .lss (.t 63) (.t 62)), []⟩]
def c22_33 : ACode := .cond (.t 64) .skip (.exit 1)
def c22_34 : ACode := .ops [
 ⟨some 65, none, .q (.ia 12 (.t 61) (.t 63)), []⟩,
 ⟨some 66, none, .q (.ld (some 12) (.t 65)), []⟩,
 ⟨some 5, none, .e (.alloc [(.int .i64 0), (.int .i64 0), (.str []), (.int .i64 0), (.int .i64 0), (.bool false), (.bool false), (.int .i64 0), (.int .i64 0), (.bool false), (.bool false), (.sl .full [])]), []⟩,
 ⟨none, none, .e (.store 12 (.t 5) (.t 66)), []⟩]
def c22_35 : ACode := .ops [
 ⟨some 67, none, .q (.mv (.t 3)), []⟩,
 ⟨some 68, none, .q (.ld (some 12) (.t 5)), []⟩,
 ⟨some 69, none, .e (.call 22 [(.t 68)]), []⟩,
 ⟨some 70, none, .q (.bin .add (.t 67) (.t 69)), []⟩,
 ⟨some 3, none, .q (.mv (.t 70)), []⟩]
def c22_36 : ACode := .seq c22_34 c22_35
def c22_37 : ACode := .block 2 c22_36
def c22_38 : ACode := .ops [
 ⟨some 71, none, .q (.bin .add (.t 63) (.v (.int .i64 1))), []⟩,
 ⟨some 63, none, .q (.mv (.t 71)), []⟩]
def c22_39 : ACode := .seq c22_37 c22_38
def c22_40 : ACode := .seq c22_33 c22_39
def c22_41 : ACode := .seq c22_32 c22_40
def c22_42 : ACode := .loop c22_41
def c22_43 : ACode := .block 1 c22_42
def c22_44 : ACode := .seq c22_31 c22_43
def c22_45 : ACode := .ops [
 ⟨some 72, none, .q (.mv (.t 3)), []⟩,
 ⟨some 2, none, .q (.mv (.t 72)), []⟩]
def c22_46 : ACode := .seq c22_45 .ret
def c22_47 : ACode := .seq c22_44 c22_46
def c22_48 : ACode := .seq c22_30 c22_47
def c22_49 : ACode := .seq c22_1 c22_48
def c22_50 : ACode := .seq c22_0 c22_49
@[go_sem] def c22_0_wp := wp_of c22_0.eq_1
@[go_sem] def c22_1_wp := wp_of c22_1.eq_1
@[go_sem] def c22_2_wp := wp_of c22_2.eq_1
@[go_sem] def c22_3_wp := wp_of c22_3.eq_1
@[go_sem] def c22_4_wp := wp_of c22_4.eq_1
@[go_sem] def c22_5_wp := wp_of c22_5.eq_1
@[go_sem] def c22_6_wp := wp_of c22_6.eq_1
@[go_sem] def c22_7_wp := wp_of c22_7.eq_1
@[go_sem] def c22_8_wp := wp_of c22_8.eq_1
@[go_sem] def c22_9_wp := wp_of c22_9.eq_1
@[go_sem] def c22_10_wp := wp_of c22_10.eq_1
@[go_sem] def c22_11_wp := wp_of c22_11.eq_1
@[go_sem] def c22_12_wp := wp_of c22_12.eq_1
@[go_sem] def c22_13_wp := wp_of c22_13.eq_1
@[go_sem] def c22_14_wp := wp_of c22_14.eq_1
@[go_sem] def c22_15_wp := wp_of c22_15.eq_1
@[go_sem] def c22_16_wp := wp_of c22_16.eq_1
@[go_sem] def c22_17_wp := wp_of c22_17.eq_1
@[go_sem] def c22_18_wp := wp_of c22_18.eq_1
@[go_sem] def c22_19_wp := wp_of c22_19.eq_1
@[go_sem] def c22_20_wp := wp_of c22_20.eq_1
@[go_sem] def c22_21_wp := wp_of c22_21.eq_1
@[go_sem] def c22_22_wp := wp_of c22_22.eq_1
@[go_sem] def c22_23_wp := wp_of c22_23.eq_1
@[go_sem] def c22_24_wp := wp_of c22_24.eq_1
@[go_sem] def c22_25_wp := wp_of c22_25.eq_1
@[go_sem] def c22_26_wp := wp_of c22_26.eq_1
@[go_sem] def c22_27_wp := wp_of c22_27.eq_1
@[go_sem] def c22_28_wp := wp_of c22_28.eq_1
@[go_sem] def c22_29_wp := wp_of c22_29.eq_1
@[go_sem] def c22_30_wp := wp_of c22_30.eq_1
@[go_sem] def c22_31_wp := wp_of c22_31.eq_1
@[go_sem] def c22_32_wp := wp_of c22_32.eq_1
@[go_sem] def c22_33_wp := wp_of c22_33.eq_1
@[go_sem] def c22_34_wp := wp_of c22_34.eq_1
@[go_sem] def c22_35_wp := wp_of c22_35.eq_1
@[go_sem] def c22_36_wp := wp_of c22_36.eq_1
@[go_sem] def c22_37_wp := wp_of c22_37.eq_1
@[go_sem] def c22_38_wp := wp_of c22_38.eq_1
@[go_sem] def c22_39_wp := wp_of c22_39.eq_1
@[go_sem] def c22_40_wp := wp_of c22_40.eq_1
@[go_sem] def c22_41_wp := wp_of c22_41.eq_1
@[go_sem] def c22_42_wp := wp_of c22_42.eq_1
@[go_sem] def c22_43_wp := wp_of c22_43.eq_1
@[go_sem] def c22_44_wp := wp_of c22_44.eq_1
@[go_sem] def c22_45_wp := wp_of c22_45.eq_1
@[go_sem] def c22_46_wp := wp_of c22_46.eq_1
@[go_sem] def c22_47_wp := wp_of c22_47.eq_1
@[go_sem] def c22_48_wp := wp_of c22_48.eq_1
@[go_sem] def c22_49_wp := wp_of c22_49.eq_1
@[go_sem] def c22_50_wp := wp_of c22_50.eq_1
def c22 : AFn := ⟨73, [.t 2], c22_50⟩
theorem c22_ok : compF Tryz.prog Tryz.f22 = some c22 := by kernel_rfl
theorem a22 {args : List AV} {σ : ASt} {R : AV → ASt → Prop} (hl : args.length ≤ 73) (h : c22_50.wp Tryz.prog (RetQ [.t 2] R) (init args) σ) : ACalls Tryz.prog 22 args σ R := acalls_of Tryz.func22 c22_ok hl h
/-! 42: tabular/tabularref12.ref -/
def c42_0 : ACode := .ops [
 ⟨some 1, none, .e (.box (.t 0)), []⟩,
 ⟨some 2, none, .q (.mv (.v (.str []))), []⟩]
def c42_1 : ACode := .ops [
 ⟨some 4, none, .q (.fa 0 (.t 1)), []⟩,
 ⟨some 5, none, .q (.ld none (.t 4)), []⟩,
 ⟨some 6, none, .q (.bin .mul (.v (.int .i64 4)) (.t 5)), []⟩,
 ⟨some 7, none, .q (.conv .u64 (.t 6)), []⟩,
 ⟨some 3, none, .q (.mv (.t 7)), []⟩]
def c42_2 : ACode := .ops [
 ⟨some 8, none, .q (.fa 2 (.t 1)), []⟩,
 ⟨some 9, none, .q (.ld none (.t 8)), []⟩]
def c42_3 : ACode := .ops [
 ⟨some 10, none, .q (.mv (.t 3)), []⟩,
 ⟨some 11, none, .q (.bin .add (.t 10) (.v (.int .u64 1))), []⟩,
 ⟨some 3, none, .q (.mv (.t 11)), []⟩]
def c42_4 : ACode := .cond (.t 9) c42_3 .skip
def c42_5 : ACode := .seq c42_2 c42_4
def c42_6 : ACode := .ops [
 ⟨some 12, none, .q (.fa 3 (.t 1)), []⟩,
 ⟨some 13, none, .q (.ld none (.t 12)), []⟩]
def c42_7 : ACode := .ops [
 ⟨some 14, none, .q (.mv (.t 3)), []⟩,
 ⟨some 15, none, .q (.bin .add (.t 14) (.v (.int .u64 2))), []⟩,
 ⟨some 3, none, .q (.mv (.t 15)), []⟩]
def c42_8 : ACode := .cond (.t 13) c42_7 .skip
def c42_9 : ACode := .seq c42_6 c42_8
def c42_10 : ACode := .ops [
 ⟨some 16, none, .q (.mv (.t 3)), []⟩,
 ⟨some 18, none, .q (.fa 1 (.t 1)), []⟩,
 ⟨some 19, none, .q (.ld none (.t 18)), []⟩,
 ⟨some 20, none, .q (.conv .u64 (.t 19)), []⟩,
 ⟨some 17, none, .e (.call 39 [(.t 16)]), [⟨none, .ld none (.t 18), 19⟩]⟩,
 ⟨some 21, none, .e (.call 39 [(.t 20)]), []⟩,
 ⟨some 22, none, .q (.bin .add (.t 17) (.t 21)), []⟩,
 ⟨some 2, none, .q (.mv (.t 22)), []⟩]
def c42_11 : ACode := .seq c42_10 .ret
def c42_12 : ACode := .seq c42_9 c42_11
def c42_13 : ACode := .seq c42_5 c42_12
def c42_14 : ACode := .seq c42_1 c42_13
def c42_15 : ACode := .seq c42_0 c42_14
@[go_sem] def c42_0_wp := wp_of c42_0.eq_1
@[go_sem] def c42_1_wp := wp_of c42_1.eq_1
@[go_sem] def c42_2_wp := wp_of c42_2.eq_1
@[go_sem] def c42_3_wp := wp_of c42_3.eq_1
@[go_sem] def c42_4_wp := wp_of c42_4.eq_1
@[go_sem] def c42_5_wp := wp_of c42_5.eq_1
@[go_sem] def c42_6_wp := wp_of c42_6.eq_1
@[go_sem] def c42_7_wp := wp_of c42_7.eq_1
@[go_sem] def c42_8_wp := wp_of c42_8.eq_1
@[go_sem] def c42_9_wp := wp_of c42_9.eq_1
@[go_sem] def c42_10_wp := wp_of c42_10.eq_1
@[go_sem] def c42_11_wp := wp_of c42_11.eq_1
@[go_sem] def c42_12_wp := wp_of c42_12.eq_1
@[go_sem] def c42_13_wp := wp_of c42_13.eq_1
@[go_sem] def c42_14_wp := wp_of c42_14.eq_1
@[go_sem] def c42_15_wp := wp_of c42_15.eq_1
def c42 : AFn := ⟨23, [.t 2], c42_15⟩
theorem c42_ok : compF Tryz.prog Tryz.f42 = some c42 := by kernel_rfl
theorem a42 {args : List AV} {σ : ASt} {R : AV → ASt → Prop} (hl : args.length ≤ 23) (h : c42_15.wp Tryz.prog (RetQ [.t 2] R) (init args) σ) : ACalls Tryz.prog 42 args σ R := acalls_of Tryz.func42 c42_ok hl h
end Go.A
namespace Go.A
open Go.Proofs Go.Lib Go.Vint
theorem rtx_ok (s : List UInt8) (hs : s.length ≤ 1000000) : Pure Tryz.prog 41 [.str s] (.str (textB s)) := by
 intro σ
 have h1 := refUint_ok' (s.length : Int) (by omega) (by omega)
 rw [Int.toNat_natCast] at h1
 have hl := uintB_le (u := (s.length : Int)) (by omega)
 rw [Int.toNat_natCast] at hl
 have e : textB s = uintB s.length ++ s := rfl
 rw [e]
 generalize uintB s.length = w at *
 refine a41 (by simp) ?_
 simp (disch := first | assumption | omega) only [go_sem, reduceCtorEq, ↓reduceIte]
 refine h1.use ?_
 simp (disch := first | assumption | omega) only [go_sem, reduceCtorEq, Nat.reduceEqDiff, ↓reduceIte]
 exact retC_by (.refl _) (.refl _) ⟨rfl, rfl⟩
theorem rref_ok {r : Ref} (hg : r.good = true) : Pure Tryz.prog 42 [refAV r] (.str (rfB r)) := by
 intro σ
 simp only [Ref.good, decide_eq_true_eq] at hg
 obtain ⟨row, col, p, q⟩ := r
 dsimp only at hg
 unfold refAV
 have h2 := refUint_ok' col (by omega) (by omega)
 have hl2 := uintB_le (u := col) (by omega)
 have hr0 : row.toNat = row := by omega
 have go : ∀ (u : Int), 0 ≤ u → u ≤ 100000 → Pure Tryz.prog 39 [.int .u64 u] (.str (uintB u.toNat)) := fun u h0 h1 => refUint_ok' u h0 (by omega)
 have hll : ∀ (u : Int), 0 ≤ u → u ≤ 100000 → (uintB u.toNat).length ≤ 10 := fun u h0 h1 => uintB_le (u := u) (by omega)
 have fin : ∀ (n : Nat) (u : Int), u = n + 4 * row → uintB u.toNat = uintB (n + 4 * row.toNat) := fun n u e => by congr 1; omega
 cases p <;> cases q
 ·have hc := go (4 * row) (by omega) (by omega)
  have hl := hll (4 * row) (by omega) (by omega)
  have e : rfB ⟨row, col, false, false⟩ = uintB (4 * row).toNat ++ uintB col.toNat := by unfold rfB; rw [fin 0 (4 * row) (by omega)]; rfl
  rw [e]
  generalize uintB (4 * row).toNat = w1 at *
  generalize uintB col.toNat = w2 at *
  refine a42 (by simp) ?_
  simp (disch := first | assumption | omega) only [go_sem]
  refine boxC_by rfl fun c h1 => ?_
  simp (disch := first | assumption | omega) only [go_sem, Nat.reduceEqDiff, ↓reduceIte]
  refine hc.use ?_
  simp (disch := first | assumption | omega) only [go_sem, Nat.reduceEqDiff, ↓reduceIte]
  refine h2.use ?_
  simp (disch := first | assumption | omega) only [go_sem, Nat.reduceEqDiff, ↓reduceIte]
  exact retC_by (Drop.set h1) (.refl _) ⟨rfl, rfl⟩
 ·have hc := go (4 * row + 2) (by omega) (by omega)
  have hl := hll (4 * row + 2) (by omega) (by omega)
  have e : rfB ⟨row, col, false, true⟩ = uintB (4 * row + 2).toNat ++ uintB col.toNat := by unfold rfB; rw [fin 2 (4 * row + 2) (by omega)]; rfl
  rw [e]
  generalize uintB (4 * row + 2).toNat = w1 at *
  generalize uintB col.toNat = w2 at *
  refine a42 (by simp) ?_
  simp (disch := first | assumption | omega) only [go_sem]
  refine boxC_by rfl fun c h1 => ?_
  simp (disch := first | assumption | omega) only [go_sem, Nat.reduceEqDiff, ↓reduceIte]
  refine hc.use ?_
  simp (disch := first | assumption | omega) only [go_sem, Nat.reduceEqDiff, ↓reduceIte]
  refine h2.use ?_
  simp (disch := first | assumption | omega) only [go_sem, Nat.reduceEqDiff, ↓reduceIte]
  exact retC_by (Drop.set h1) (.refl _) ⟨rfl, rfl⟩
 ·have hc := go (4 * row + 1) (by omega) (by omega)
  have hl := hll (4 * row + 1) (by omega) (by omega)
  have e : rfB ⟨row, col, true, false⟩ = uintB (4 * row + 1).toNat ++ uintB col.toNat := by unfold rfB; rw [fin 1 (4 * row + 1) (by omega)]; rfl
  rw [e]
  generalize uintB (4 * row + 1).toNat = w1 at *
  generalize uintB col.toNat = w2 at *
  refine a42 (by simp) ?_
  simp (disch := first | assumption | omega) only [go_sem]
  refine boxC_by rfl fun c h1 => ?_
  simp (disch := first | assumption | omega) only [go_sem, Nat.reduceEqDiff, ↓reduceIte]
  refine hc.use ?_
  simp (disch := first | assumption | omega) only [go_sem, Nat.reduceEqDiff, ↓reduceIte]
  refine h2.use ?_
  simp (disch := first | assumption | omega) only [go_sem, Nat.reduceEqDiff, ↓reduceIte]
  exact retC_by (Drop.set h1) (.refl _) ⟨rfl, rfl⟩
 ·have hc := go (4 * row + 1 + 2) (by omega) (by omega)
  have hl := hll (4 * row + 1 + 2) (by omega) (by omega)
  have e : rfB ⟨row, col, true, true⟩ = uintB (4 * row + 1 + 2).toNat ++ uintB col.toNat := by unfold rfB; rw [fin 3 (4 * row + 1 + 2) (by omega)]; rfl
  rw [e]
  generalize uintB (4 * row + 1 + 2).toNat = w1 at *
  generalize uintB col.toNat = w2 at *
  refine a42 (by simp) ?_
  simp (disch := first | assumption | omega) only [go_sem]
  refine boxC_by rfl fun c h1 => ?_
  simp (disch := first | assumption | omega) only [go_sem, Nat.reduceEqDiff, ↓reduceIte]
  refine hc.use ?_
  simp (disch := first | assumption | omega) only [go_sem, Nat.reduceEqDiff, ↓reduceIte]
  refine h2.use ?_
  simp (disch := first | assumption | omega) only [go_sem, Nat.reduceEqDiff, ↓reduceIte]
  exact retC_by (Drop.set h1) (.refl _) ⟨rfl, rfl⟩
theorem rbytess_take : ∀ (ks : List Nd) (i : Nat) (h : i < ks.length), Nd.bytess (ks.take (i + 1)) = Nd.bytess (ks.take i) ++ (ks[i]).bytes
 | [], i, h => by simp at h
 | x :: l, 0, h => by simp [Nd.bytess]
 | x :: l, i + 1, h => by
   rw [List.take_succ_cons, List.take_succ_cons, Nd.bytess, Nd.bytess, rbytess_take l i (by simpa using h), List.append_assoc]
   rfl
theorem rbytess_take_le (ks : List Nd) (i : Nat) (hi : i ≤ ks.length) : (Nd.bytess (ks.take i)).length ≤ (Nd.bytess ks).length := by
 induction h : ks.length - i generalizing i with
 | zero =>
   rw [List.take_of_length_le (by omega)]
   omega
 | succ d ih =>
   have := ih (i + 1) (by omega) (by omega)
   rw [rbytess_take ks i (by omega), List.length_append] at this
   omega
theorem rbytes_kid {ks : List Nd} {x : Nd} (h : x ∈ ks) : x.bytes.length ≤ (Nd.bytess ks).length := by
 induction ks with
 | nil => cases h
 | cons y l ih =>
   rw [Nd.bytess, List.length_append]
   rcases List.mem_cons.1 h with rfl | h
   ·omega
   ·have := ih h; omega
set_option maxHeartbeats 1000000 in
theorem rwrite_le : ∀ (k : Nat) (n : Nd), n.size ≤ k → n.size ≤ 1000000 → n.wd → n.bytes.length ≤ 900000000 → Pure Tryz.prog 22 [n.av] (.str n.bytes)
 | 0, n, hk, _, _, _ => by have := n.size_pos; omega
 | k + 1, n, hk, hbig, hg, hl => by
   intro σ
   have ih := rwrite_le k
   obtain ⟨o, m, s, a, b, ks⟩ := n
   rw [Nd.wd] at hg
   obtain ⟨hN, hks⟩ := hg
   rw [Nd.size] at hk hbig
   rw [Nd.bytes] at hl ⊢
   rw [List.length_append, List.length_append] at hl
   have hlen := sizes_len ks
   have hkid : ∀ x ∈ ks, Pure Tryz.prog 22 [x.av] (.str x.bytes) := fun x hx => by
    have h1 := Nd.size_kid hx
    have h2 := rbytes_kid hx
    exact ih x (by omega) (by omega) (Nd.wds_mem.1 hks x hx) (by omega)
   clear ih
   have hop := refUint_ok' o (by have := hN.op1; omega) (by have := hN.op2; omega)
   have ho1 := hN.op1
   have ho2 := hN.op2
   have hu1 : (uintB o.toNat).length ≤ 10 := uintB_le (u := o) (by omega)
   rw [Nd.av_cs]
   have hlm : (ks.map Nd.av).length = ks.length := List.length_map _
   obtain ⟨F, hF⟩ : ∃ F, F = ACode.wp Tryz.prog c22_47 := ⟨_, rfl⟩
   have tail : ∀ (H : List UInt8) (c : Nat) (a1 : AFr), σ c = none → H.length + (Nd.bytess ks).length ≤ 900000000 → (a1 1 = .ptr c 0 ∧ a1 3 = .str H) →
     F (RetQ [.t 2] fun v σ' => v = .str (H ++ Nd.bytess ks) ∧ σ' = σ) a1 (σ.set c (some (.obj (Nd.cs o m s a b (ks.map Nd.av))))) := by
    intro H c a1 hc hHl hf
    rw [hF]
    simp (disch := first | assumption | omega | (simp only [List.length_append, List.length_cons, List.length_nil]; omega)) only [go_sem, ↓reduceIte, hf, hlm]
    refine wp_loop_by (fun (i : Nat) a1 s2 => i ≤ ks.length ∧ (a1 3 = .str (H ++ Nd.bytess (ks.take i)) ∧ a1 61 = .sl .shr (ks.map Nd.av) ∧ a1 62 = .int .i64 ks.length ∧ a1 63 = .int .i64 i) ∧ s2 = σ) (fun i => ks.length - i) 0 (Dr.drop (Drop.set hc) ⟨Nat.zero_le _, ?_, rfl⟩) ?_
    ·simp only [List.take_zero, Nd.bytess, List.append_nil]
     simp (disch := first | assumption | omega | (simp only [List.length_append, List.length_cons, List.length_nil]; omega)) only [go_sem, Nat.reduceEqDiff, ↓reduceIte, hf]
    rintro i a2 s2 ⟨hi, hf, rfl⟩
    have htl := rbytess_take_le ks i hi
    by_cases hlt : i < ks.length
    ·have hlt' : (i : Int) < ks.length := by omega
     have hx : ks[i]? = some (ks[i]'hlt) := List.getElem?_eq_getElem hlt
     have hnx := rbytess_take ks i hlt
     have hcall := hkid _ (List.getElem_mem hlt)
     have hsx := rbytes_kid (List.getElem_mem hlt)
     obtain ⟨x, hxe⟩ : ∃ x, ks[i]'hlt = x := ⟨_, rfl⟩
     rw [hxe] at hx hcall hnx hsx
     have hmx := Nd.get hx
     obtain ⟨w, hw⟩ : ∃ w, x.bytes = w := ⟨_, rfl⟩
     rw [hw] at hcall hnx hsx
     obtain ⟨xo, xm, xs, xa, xb, xk⟩ := x
     rw [Nd.av_cs] at hmx hcall
     generalize ks.map Nd.av = L at *
     obtain ⟨J, hJ⟩ : ∃ J, Nd.bytess (ks.take i) = J := ⟨_, rfl⟩
     rw [hJ] at hf hnx htl
     simp (disch := first | assumption | omega | (simp only [List.length_append, List.length_cons, List.length_nil]; omega)) only [go_sem, Nat.reduceEqDiff, Nat.reduceLeDiff, ↓reduceIte, hf, hlt', hmx]
     refine allocC_by fun d hd => ?_
     simp (disch := first | assumption | omega | (simp only [List.length_append, List.length_cons, List.length_nil]; omega)) only [go_sem, Nat.reduceEqDiff, Nat.reduceAdd, Nat.reduceLeDiff, ↓reduceIte, hf, ASt.set_set]
     refine hcall.use ?_
     simp (disch := first | assumption | omega | (simp only [List.length_append, List.length_cons, List.length_nil]; omega)) only [go_sem, Nat.reduceEqDiff, ↓reduceIte, hf]
     refine ⟨i + 1, by dsimp only; omega, Dr.drop (Drop.set hd) ⟨by omega, ?_, rfl⟩⟩
     rw [hnx]
     have hwr : IntKind.i64.wrap ((i : Int) + 1) = i + 1 := by rw [IntKind.wrap_i64]; omega
     simp [hf, AFr.upd]
    ·have hlt' : ¬ (i : Int) < ks.length := by omega
     rw [List.take_of_length_le (by omega)] at hf htl
     generalize Nd.bytess ks = J at *
     simp (disch := first | assumption | omega | (simp only [List.length_append, List.length_cons, List.length_nil]; omega)) only [go_sem, Nat.reduceEqDiff, ↓reduceIte, hf, hlt']
     exact retC_by (.refl _) (.refl _) ⟨rfl, rfl⟩
   have hwrap : IntKind.u64.wrap o = o := by rw [IntKind.wrap_u64]; omega
   have start : ∀ R : List UInt8, restB o m s a b ks.length = R → True := fun _ _ => trivial
   generalize hU : uintB o.toNat = U at *
   by_cases c1 : o = 1 ∨ o = 3 ∨ o = 4
   ·have hR : restB o m s a b ks.length = uintB (foldI m).toNat := if_pos c1
    have hmn := hN.num
    have hfb := foldI_bd (n := m) (by omega) (by omega)
    have hfo := refFold_ok m (by omega) (by omega)
    have hfu := refUint_ok' (foldI m) hfb.1 hfb.2
    have hll : (uintB (foldI m).toNat).length ≤ 10 := uintB_le (u := foldI m) (by omega)
    rw [hR] at hl ⊢
    generalize uintB (foldI m).toNat = w at *
    generalize foldI m = fm at *
    rcases c1 with h | h | h
    all_goals
     refine a22 (by simp) ?_
     simp (disch := first | assumption | omega | (simp only [List.length_append, List.length_cons, List.length_nil]; omega)) only [go_sem]
     refine boxC_by rfl fun c h1 => ?_
     simp (disch := first | assumption | omega | (simp only [List.length_append, List.length_cons, List.length_nil]; omega)) only [go_sem, Nat.reduceEqDiff, ↓reduceIte, hwrap]
     refine hop.use ?_
     have n1 : o = _ := h
     simp (disch := first | assumption | omega | (simp only [List.length_append, List.length_cons, List.length_nil]; omega)) only [go_sem, Nat.reduceEqDiff, Int.reduceEq, ↓reduceIte, h, ←hF]
     refine hfo.use ?_
     simp (disch := first | assumption | omega | (simp only [List.length_append, List.length_cons, List.length_nil]; omega)) only [go_sem, ↓reduceIte]
     refine hfu.use ?_
     simp (disch := first | assumption | omega | (simp only [List.length_append, List.length_cons, List.length_nil]; omega)) only [go_sem, Nat.reduceEqDiff, ↓reduceIte]
     subst h
     exact tail _ c _ h1 (by rw [List.length_append]; omega) (by simp [AFr.upd])
   have k1 : ¬ o = 1 := fun e => c1 (.inl e)
   have k3 : ¬ o = 3 := fun e => c1 (.inr (.inl e))
   have k4 : ¬ o = 4 := fun e => c1 (.inr (.inr e))
   by_cases c2 : o = 2
   ·have hR : restB o m s a b ks.length = textB s := by unfold restB; rw [if_neg c1, if_pos c2]
    have hs := (hN.s2 c2).1
    have hx := rtx_ok s (by omega)
    rw [hR] at hl ⊢
    generalize textB s = w at *
    subst c2
    refine a22 (by simp) ?_
    simp (disch := first | assumption | omega | (simp only [List.length_append, List.length_cons, List.length_nil]; omega)) only [go_sem]
    refine boxC_by rfl fun c h1 => ?_
    simp (disch := first | assumption | omega | (simp only [List.length_append, List.length_cons, List.length_nil]; omega)) only [go_sem, Nat.reduceEqDiff, ↓reduceIte, hwrap]
    refine hop.use ?_
    simp (disch := first | assumption | omega | (simp only [List.length_append, List.length_cons, List.length_nil]; omega)) only [go_sem, Nat.reduceEqDiff, Int.reduceEq, ↓reduceIte, ←hF]
    refine hx.use ?_
    simp (disch := first | assumption | omega | (simp only [List.length_append, List.length_cons, List.length_nil]; omega)) only [go_sem, Nat.reduceEqDiff, ↓reduceIte]
    exact tail _ c _ h1 (by rw [List.length_append]; omega) (by simp [AFr.upd])
   by_cases c5 : o = 5
   ·have hR : restB o m s a b ks.length = rfB a := by unfold restB; rw [if_neg c1, if_neg c2, if_pos c5]
    have hx := rref_ok (hN.ga (.inl c5))
    unfold refAV at hx
    rw [hR] at hl ⊢
    generalize rfB a = w at *
    subst c5
    refine a22 (by simp) ?_
    simp (disch := first | assumption | omega | (simp only [List.length_append, List.length_cons, List.length_nil]; omega)) only [go_sem]
    refine boxC_by rfl fun c h1 => ?_
    simp (disch := first | assumption | omega | (simp only [List.length_append, List.length_cons, List.length_nil]; omega)) only [go_sem, Nat.reduceEqDiff, ↓reduceIte, hwrap]
    refine hop.use ?_
    simp (disch := first | assumption | omega | (simp only [List.length_append, List.length_cons, List.length_nil]; omega)) only [go_sem, Nat.reduceEqDiff, Nat.reduceAdd, Nat.reduceLeDiff, Int.reduceEq, ↓reduceIte, ←hF]
    refine hx.use ?_
    simp (disch := first | assumption | omega | (simp only [List.length_append, List.length_cons, List.length_nil]; omega)) only [go_sem, Nat.reduceEqDiff, ↓reduceIte]
    exact tail _ c _ h1 (by rw [List.length_append]; omega) (by simp [AFr.upd])
   by_cases c6 : o = 6
   ·have hR : restB o m s a b ks.length = rfB a ++ rfB b := by unfold restB; rw [if_neg c1, if_neg c2, if_neg c5, if_pos c6]
    have hx := rref_ok (hN.ga (.inr c6))
    have hy := rref_ok (hN.gb c6)
    unfold refAV at hx hy
    rw [hR] at hl ⊢
    rw [List.length_append] at hl
    generalize rfB a = w at *
    generalize rfB b = w' at *
    subst c6
    refine a22 (by simp) ?_
    simp (disch := first | assumption | omega | (simp only [List.length_append, List.length_cons, List.length_nil]; omega)) only [go_sem]
    refine boxC_by rfl fun c h1 => ?_
    simp (disch := first | assumption | omega | (simp only [List.length_append, List.length_cons, List.length_nil]; omega)) only [go_sem, Nat.reduceEqDiff, ↓reduceIte, hwrap]
    refine hop.use ?_
    simp (disch := first | assumption | omega | (simp only [List.length_append, List.length_cons, List.length_nil]; omega)) only [go_sem, Nat.reduceEqDiff, Nat.reduceAdd, Nat.reduceLeDiff, Int.reduceEq, ↓reduceIte, ←hF]
    refine hx.use ?_
    simp (disch := first | assumption | omega | (simp only [List.length_append, List.length_cons, List.length_nil]; omega)) only [go_sem, Nat.reduceEqDiff, Nat.reduceAdd, Nat.reduceLeDiff, ↓reduceIte]
    refine hy.use ?_
    simp (disch := first | assumption | omega | (simp only [List.length_append, List.length_cons, List.length_nil]; omega)) only [go_sem, Nat.reduceEqDiff, ↓reduceIte]
    exact tail _ c _ h1 (by rw [List.length_append, List.length_append]; omega) (by simp [AFr.upd])
   by_cases c22 : o = 22
   ·have hR : restB o m s a b ks.length = textB s ++ uintB ks.length := by unfold restB; rw [if_neg c1, if_neg c2, if_neg c5, if_neg c6, if_pos c22]
    have hs := (hN.s22 c22).1
    have hx := rtx_ok s (by omega)
    have hkl := refUint_ok' (ks.length : Int) (by omega) (by omega)
    rw [Int.toNat_natCast] at hkl
    have hwk : IntKind.u64.wrap (ks.length : Int) = ks.length := by rw [IntKind.wrap_u64]; omega
    rw [hR] at hl ⊢
    rw [List.length_append] at hl
    generalize textB s = w at *
    generalize uintB ks.length = w' at *
    subst c22
    refine a22 (by simp) ?_
    simp (disch := first | assumption | omega | (simp only [List.length_append, List.length_cons, List.length_nil]; omega)) only [go_sem]
    refine boxC_by rfl fun c h1 => ?_
    simp (disch := first | assumption | omega | (simp only [List.length_append, List.length_cons, List.length_nil]; omega)) only [go_sem, Nat.reduceEqDiff, ↓reduceIte, hwrap]
    refine hop.use ?_
    simp (disch := first | assumption | omega | (simp only [List.length_append, List.length_cons, List.length_nil]; omega)) only [go_sem, Nat.reduceEqDiff, Int.reduceEq, ↓reduceIte, hlm, hwk, ←hF]
    refine hx.use ?_
    simp (disch := first | assumption | omega | (simp only [List.length_append, List.length_cons, List.length_nil]; omega)) only [go_sem, Nat.reduceEqDiff, ↓reduceIte]
    refine hkl.use ?_
    simp (disch := first | assumption | omega | (simp only [List.length_append, List.length_cons, List.length_nil]; omega)) only [go_sem, Nat.reduceEqDiff, ↓reduceIte]
    exact tail _ c _ h1 (by rw [List.length_append, List.length_append]; omega) (by simp [AFr.upd])
   have hR : restB o m s a b ks.length = [] := by unfold restB; rw [if_neg c1, if_neg c2, if_neg c5, if_neg c6, if_neg c22]
   rw [hR] at hl ⊢
   rw [List.append_nil]
   refine a22 (by simp) ?_
   simp (disch := first | assumption | omega | (simp only [List.length_append, List.length_cons, List.length_nil]; omega)) only [go_sem]
   refine boxC_by rfl fun c h1 => ?_
   simp (disch := first | assumption | omega | (simp only [List.length_append, List.length_cons, List.length_nil]; omega)) only [go_sem, Nat.reduceEqDiff, ↓reduceIte, hwrap]
   refine hop.use ?_
   simp (disch := first | assumption | omega | (simp only [List.length_append, List.length_cons, List.length_nil]; omega)) only [go_sem, Nat.reduceEqDiff, ↓reduceIte, k1, k3, k4, c2, c5, c6, c22, ←hF]
   exact tail _ c _ h1 (by omega) (by simp [AFr.upd])
theorem rwrite_ok (n : Nd) (h : n.size ≤ 1000000) (hg : n.wd) (hl : n.bytes.length ≤ 900000000) : Pure Tryz.prog 22 [n.av] (.str n.bytes) := rwrite_le n.size n (Nat.le_refl _) h hg hl
end Go.A
namespace Go.A
open Go.Proofs Go.Lib Go.Vint
theorem whole_any {a : Int} (h1 : -9223372036854775808 ≤ a) (h2 : a ≤ 9223372036854775807) : Pure Tryz.prog 43 [.int .i64 a] (.int .i64 (a.tdiv 10000)) := by
 intro σ
 have hqb : (a.tdiv 10000).natAbs = a.natAbs / 10000 := Int.natAbs_tdiv _ _
 have hw : IntKind.wrap .i64 (a.tdiv 10000) = a.tdiv 10000 := by
  rw [IntKind.wrap_i64]; omega
 refine a43 (by simp) ?_
 simp (disch := first | assumption | omega) only [go_sem, reduceCtorEq, ↓reduceIte, hw]
 exact retC_by (Drop.refl _) (.refl _) ⟨rfl, rfl⟩
theorem failure_any (op n : Int) (s : List UInt8) (a b : Ref) (kids : List Nd) (g1 : -9223372036854775808 ≤ n) (g2 : n ≤ 9223372036854775807) : Pure Tryz.prog 23 [(Nd.mk op n s a b kids).av] (.str (failT op n)) := by
 intro σ
 have hW := whole_any g1 g2
 have hE := tenames_ok
 obtain ⟨q, hq⟩ : ∃ q, failT op n = q := ⟨_, rfl⟩
 rw [hq]
 unfold failT at hq
 rw [Nd.av_cs]
 generalize n.tdiv 10000 = i at *
 refine a23 (by simp) ?_
 simp (disch := first | assumption | omega) only [go_sem]
 refine boxC_by rfl fun c hc => ?_
 simp (disch := first | assumption | omega) only [go_sem, Nat.reduceEqDiff, ↓reduceIte]
 refine hW.use ?_
 by_cases h4 : op = 4
 ·by_cases h2 : i < 1
  ·rw [if_pos (.inr (.inl h2))] at hq
   subst hq
   simp (disch := first | assumption | omega) only [go_sem, Nat.reduceEqDiff, ↓reduceIte, h4, h2]
   exact retC_by (by repeat' (first | exact Drop.refl _ | with_reducible refine Drop.off ?_ (by assumption))) (.refl _) ⟨rfl, rfl⟩
  ·by_cases h3 : 7 < i
   ·rw [if_pos (.inr (.inr h3))] at hq
    subst hq
    simp (disch := first | assumption | omega) only [go_sem, Nat.reduceEqDiff, ↓reduceIte, h4, h2]
    refine hE.use ?_
    unfold errL
    simp (disch := first | assumption | omega) only [go_sem, Nat.reduceEqDiff, Nat.reduceAdd, ↓reduceIte, h3]
    exact retC_by (by repeat' (first | exact Drop.refl _ | with_reducible refine Drop.off ?_ (by assumption))) (.refl _) ⟨rfl, rfl⟩
   ·rw [if_neg (by omega)] at hq
    have hc : i = 1 ∨ i = 2 ∨ i = 3 ∨ i = 4 ∨ i = 5 ∨ i = 6 ∨ i = 7 := by omega
    subst hq
    rcases hc with rfl | rfl | rfl | rfl | rfl | rfl | rfl
    all_goals
     simp (disch := first | assumption | omega) only [go_sem, Nat.reduceEqDiff, Int.reduceLT, ↓reduceIte, Int.reduceSub, Int.reduceToNat, h4]
     refine hE.use ?_
     unfold errL
     simp (disch := first | assumption | omega) only [go_sem, Nat.reduceEqDiff, Nat.reduceAdd, Int.reduceLT, ↓reduceIte]
     refine hE.use ?_
     unfold errL
     simp (disch := first | assumption | omega) only [go_sem, Nat.reduceEqDiff, ↓reduceIte, Int.reduceSub, Int.reduceToNat]
     exact retC_by (by repeat' (first | exact Drop.refl _ | with_reducible refine Drop.off ?_ (by assumption))) (.refl _) ⟨rfl, rfl⟩
 ·rw [if_pos (.inl h4)] at hq
  subst hq
  simp (disch := first | assumption | omega) only [go_sem, Nat.reduceEqDiff, ↓reduceIte, h4]
  exact retC_by (by repeat' (first | exact Drop.refl _ | with_reducible refine Drop.off ?_ (by assumption))) (.refl _) ⟨rfl, rfl⟩
end Go.A
namespace Go.A
open Go.Proofs Go.Lib Go.Vint
theorem W.new {σ : ASt} {b : Nat} (hb : σ b = none) : W σ b [] (σ.set b (some (.obj [.sl .full []]))) := ⟨.full, .inl ⟨rfl, rfl, rfl⟩⟩
theorem W.at {σ0 σ : ASt} {b x : Nat} {l : List UInt8} {r : Role} (h : W σ0 b l σ) (hx : x ≠ b) (h0 : σ0 x = some r) : σ x = some r := by
 obtain ⟨k, hg⟩ := h
 exact hg.at (by rw [ASt.set_ne hx]; exact h0)
theorem W.drop {σ0 σ : ASt} {b : Nat} {l : List UInt8} (h : W σ0 b l σ) (hb : σ0 b = none) : Drop σ σ0 := by
 obtain ⟨k, hg⟩ := h
 exact Drop.trans hg.drop (Drop.set hb)
end Go.A
namespace Go.A
open Go.Proofs Go.Lib Go.Vint
theorem call_names : ∀ i : Nat, i < 4 → nameOkP (callL.getD i []) = true ∧ (callL.getD i []).length ≤ 20 := by decide +kernel
theorem cnt_arity {op kk : Int} (h : op ≠ 22) : cntG op kk = arity op := by
 unfold cntG arity
 by_cases h1 : op = 7 ∨ op = 8 ∨ op = 9
 ·rw [if_pos h1, if_pos h1]
 ·rw [if_neg h1, if_neg h1, if_neg h]
theorem nodeG_gd (p : Pt) (ks : List Nd) (hl : ks.length = cntG (opG p.op) (kkG p.n)) : ∃ o m s a b, nodeG p ks = .mk o m s a b ks ∧ GdN o m s a b ks.length ∧ s.length ≤ 20 := by
 have hop := opG_rng p.op
 have hkk := kkG_rng p.n
 have h3 := cntG_le (opG p.op) (kkG p.n) hkk.1
 have h7 : 0 ≤ (kkG p.n).tmod 7 ∧ (kkG p.n).tmod 7 < 7 := ⟨Int.tmod_nonneg _ hkk.1, Int.tmod_lt_of_pos _ (by decide)⟩
 have h2 : 0 ≤ (kkG p.n).tmod 2 ∧ (kkG p.n).tmod 2 < 2 := ⟨Int.tmod_nonneg _ hkk.1, Int.tmod_lt_of_pos _ (by decide)⟩
 have h4 : 0 ≤ (kkG p.n).tmod 4 ∧ (kkG p.n).tmod 4 < 4 := ⟨Int.tmod_nonneg _ hkk.1, Int.tmod_lt_of_pos _ (by decide)⟩
 have hq : ((1 + (kkG p.n).tmod 7) * 10000).tmod 10000 = 0 := Int.mul_tmod_left _ _
 have pa := placeR_good p.a
 have pb := placeR_good p.b
 have hk : ks.length ≤ 3 := by omega
 have hca : opG p.op ≠ 22 → ks.length = arity (opG p.op) := fun h => by rw [hl, cnt_arity h]
 have ha23 : arity 23 = 0 := rfl
 have ha3 : arity 3 = 0 := rfl
 unfold nodeG
 split
 ·rename_i h
  rw [h] at hca
  exact ⟨_, _, _, _, _, rfl, ⟨by omega, by omega, by omega, by omega, by omega, by omega, by omega, by omega, fun _ _ => rfl, by omega, fun _ _ => rfl, by omega, fun _ => rfl, fun _ => hca (by omega)⟩, by simp⟩
 split
 ·rename_i h
  rw [h] at hca
  exact ⟨_, _, _, _, _, rfl, ⟨by omega, by omega, by omega, by omega, by omega, by omega, by omega, by omega, fun _ _ => rfl, by omega, fun _ _ => rfl, by omega, fun _ => rfl, fun _ => hca (by omega)⟩, by simp⟩
 split
 ·rename_i h
  rw [h] at hca
  exact ⟨_, _, _, _, _, rfl, ⟨by omega, by omega, by omega, by omega, fun _ => ⟨hq, by omega, by omega⟩, by omega, by omega, by omega, fun _ _ => rfl, by omega, fun _ _ => rfl, by omega, fun _ => rfl, fun _ => hca (by omega)⟩, by simp⟩
 split
 ·rename_i h
  rw [h] at hca
  have hs : (if (sgT (p.s.take 20)).isSome = true then p.s.take 20 else []).length ≤ 20 ∧ (sgT (if (sgT (p.s.take 20)).isSome = true then p.s.take 20 else [])).isSome = true := by
   split
   ·rename_i hs
    exact ⟨by rw [List.length_take]; omega, hs⟩
   ·exact ⟨by simp, by rw [sgT_nil]; rfl⟩
  exact ⟨_, _, _, _, _, rfl, ⟨by omega, by omega, by omega, by omega, by omega, fun _ _ _ => rfl, fun _ => ⟨by omega, hs.2⟩, by omega, by omega, by omega, fun _ _ => rfl, by omega, fun _ => rfl, fun _ => hca (by omega)⟩, hs.1⟩
 split
 ·rename_i h
  rw [h] at hca
  exact ⟨_, _, _, _, _, rfl, ⟨by omega, by omega, by omega, by omega, by omega, fun _ _ _ => rfl, by omega, by omega, fun _ _ => rfl, fun _ => pa, by omega, by omega, fun _ => rfl, fun _ => hca (by omega)⟩, by simp⟩
 split
 ·rename_i h
  rw [h] at hca
  exact ⟨_, _, _, _, _, rfl, ⟨by omega, by omega, by omega, by omega, by omega, fun _ _ _ => rfl, by omega, by omega, fun _ _ => rfl, fun _ => pa, by omega, fun _ => pb, by omega, fun _ => hca (by omega)⟩, by simp⟩
 split
 ·rename_i h
  rw [h] at hca
  exact ⟨_, _, _, _, _, rfl, ⟨by omega, by omega, by omega, by omega, by omega, fun _ _ _ => rfl, by omega, by omega, fun _ _ => rfl, by omega, fun _ _ => rfl, by omega, fun _ => rfl, fun _ => by rw [hca (by omega), ha23, ha3]⟩, by simp⟩
 split
 ·rename_i h
  have hc := call_names ((kkG p.n).tmod 4).toNat (by omega)
  exact ⟨_, _, _, _, _, rfl, ⟨by omega, by omega, by omega, by omega, by omega, fun _ _ _ => rfl, by omega, fun _ => ⟨by omega, hc.1, by omega⟩, by omega, by omega, fun _ _ => rfl, by omega, fun _ => rfl, by omega⟩, hc.2⟩
 ·rename_i h1 h3 h4 h2 h5 h6 h23 h22
  exact ⟨_, _, _, _, _, rfl, ⟨by omega, by omega, by omega, by omega, by omega, fun _ _ _ => rfl, by omega, by omega, fun _ _ => rfl, by omega, fun _ _ => rfl, by omega, fun _ => rfl, fun h => hca h⟩, by simp⟩
mutual
def Nd.shorts : Nd → Prop
 | .mk _ _ s _ _ ks => s.length ≤ 20 ∧ Nd.shortss ks
def Nd.shortss : List Nd → Prop
 | [] => True
 | x :: xs => x.shorts ∧ Nd.shortss xs
end
theorem shortss_mem : ∀ {l : List Nd}, Nd.shortss l ↔ ∀ x ∈ l, x.shorts
 | [] => by simp [Nd.shortss]
 | y :: l => by rw [Nd.shortss, shortss_mem (l := l)]; simp
theorem uintB_len64 {u : Nat} (h : u < 18446744073709551616) : (uintB u).length ≤ 10 := by
 have := uintB_le (u := (u : Int)) (by omega)
 rwa [Int.toNat_natCast] at this
theorem rest_len {op n : Int} {s : List UInt8} {a b : Ref} {k : Nat} (hg : GdN op n s a b k) (hs : s.length ≤ 20) : (restB op n s a b k).length ≤ 40 := by
 have hn := hg.num
 have hf := foldI_bd (n := n) (by omega) (by omega)
 have h1 := uintB_le hf.2
 have h2 := uintB_len64 (u := s.length) (by omega)
 have h3 := uintB_len64 (u := k) (by have := hg.kids; omega)
 have hr : ∀ r : Ref, r.good = true → (rfB r).length ≤ 20 := fun r hr => by
  obtain ⟨r1, r2, r3, r4⟩ := good_bd hr
  have ha : absN r ≤ 3 := by unfold absN; split <;> split <;> omega
  have h1 := uintB_len64 (u := absN r + 4 * r.row.toNat) (by omega)
  have h2 := uintB_len64 (u := r.col.toNat) (by omega)
  unfold rfB
  rw [List.length_append]; omega
 unfold restB textB
 split
 ·omega
 split
 ·rw [List.length_append]; omega
 split
 ·rename_i h; have := hr a (hg.ga (.inl h)); omega
 split
 ·rename_i h; have := hr a (hg.ga (.inr h)); have := hr b (hg.gb h); rw [List.length_append]; omega
 split
 ·rw [List.length_append, List.length_append]; omega
 ·simp
mutual
theorem bytes_len : ∀ n : Nd, n.wd → n.shorts → n.bytes.length ≤ 50 * n.size
 | .mk op m s a b ks, hg, hs => by
   rw [Nd.wd] at hg
   rw [Nd.shorts] at hs
   have h1 := bytess_len ks hg.2 hs.2
   have h2 := rest_len hg.1 hs.1
   have o1 := hg.1.op1
   have o2 := hg.1.op2
   have h3 := uintB_len64 (u := op.toNat) (by omega)
   rw [Nd.bytes, Nd.size, List.length_append, List.length_append]
   omega
theorem bytess_len : ∀ l : List Nd, Nd.wds l → Nd.shortss l → (Nd.bytess l).length ≤ 50 * Nd.sizes l
 | [], _, _ => by rw [Nd.bytess, Nd.sizes]; simp
 | x :: l, hg, hs => by
   rw [Nd.wds] at hg
   rw [Nd.shortss] at hs
   have h1 := bytes_len x hg.1 hs.1
   have h2 := bytess_len l hg.2 hs.2
   rw [Nd.bytess, Nd.sizes, List.length_append]
   omega
end
def goodW (x : Nd) : Prop := x.wd ∧ x.shorts
theorem goodW_of {o m : Int} {s : List UInt8} {a b : Ref} {ks : List Nd} (h : GdN o m s a b ks.length) (hs : s.length ≤ 20) (hk : ∀ x ∈ ks, goodW x) : goodW (.mk o m s a b ks) := by
 refine ⟨?_, ?_⟩
 ·rw [Nd.wd]; exact ⟨h, Nd.wds_mem.2 fun x hx => (hk x hx).1⟩
 ·rw [Nd.shorts]; exact ⟨hs, shortss_mem.2 fun x hx => (hk x hx).2⟩
theorem goodW_leaf : goodW (.mk 1 0 [] .zero .zero []) := goodW_of ⟨by omega, by omega, by omega, by omega, by omega, by omega, by omega, by omega, fun _ _ => rfl, by omega, fun _ _ => rfl, by omega, fun _ => rfl, fun _ => rfl⟩ (by simp) (fun _ h => by cases h)
theorem goodW_miss : goodW missN := goodW_of ⟨by omega, by omega, by omega, by omega, by omega, fun _ _ _ => rfl, by omega, by omega, fun _ _ => rfl, by omega, fun _ _ => rfl, by omega, fun _ => rfl, fun _ => rfl⟩ (by simp) (fun _ h => by cases h)
theorem miss_goodW (op kk : Int) (ks : List Nd) (hg : ∀ x ∈ ks, goodW x) : ∀ x ∈ missG op kk ks, goodW x := by
 unfold missG
 split
 ·intro x hx
  rcases List.mem_cons.1 hx with rfl | hx
  ·exact goodW_miss
  ·exact hg x (List.mem_of_mem_tail hx)
 ·exact hg
theorem growN_goodW (g : Nat → Nd × Nat) (hg : ∀ i, goodW (g i).1) : ∀ c i, ∀ x ∈ (growN g c i).1, goodW x
 | 0, i => by rw [growN]; exact fun x hx => by simp at hx
 | c + 1, i => by
   rw [growN]
   intro x hx
   rcases List.mem_cons.1 hx with rfl | hx
   ·exact hg i
   ·exact growN_goodW g hg c _ x hx
theorem growK_goodW (L : List Pt) : ∀ k i, goodW (growK L k i).1
 | 0, i => goodW_leaf
 | k + 1, i => by
   rw [growK]
   split
   ·exact goodW_leaf
   ·rename_i p hp
    have h1 := growN_goodW (growK L k) (growK_goodW L k) (cntG (opG p.op) (kkG p.n)) (i + 1)
    have hl := growN_len (growK L k) (cntG (opG p.op) (kkG p.n)) (i + 1)
    generalize growN (growK L k) (cntG (opG p.op) (kkG p.n)) (i + 1) = R at *
    obtain ⟨KS, J⟩ := R
    dsimp only at *
    obtain ⟨o, m, s, a, b, he, g1, g2⟩ := nodeG_gd p (missG (opG p.op) (kkG p.n) KS) (by rw [missG_len]; exact hl)
    rw [he]
    exact goodW_of g1 g2 (miss_goodW _ _ _ h1)
theorem growP_gd (L : List Pt) : (growP L).wd ∧ (growP L).depth ≤ 2101 ∧ (growP L).bytes.length ≤ 50000 := by
 have h := growK_goodW (L.take 40) 41 0
 have hs := (growP_facts L).2.2
 have hd := (growP L).depth_le_size
 have hb := bytes_len (growP L) h.1 h.2
 exact ⟨h.1, by omega, by omega⟩
end Go.A
namespace Go.A
open Go.Proofs
/-! 3: tabular/tabularlaw12.ExprTells -/
def c3_0 : ACode := .ops [
 ⟨some 4, none, .q (.mv (.v (.bool false))), []⟩]
def c3_1 : ACode := .ops [
 ⟨some 16, none, .q (.mv (.t 0)), []⟩,
 ⟨some 17, none, .e (.call 4 [(.t 16)]), []⟩,
 ⟨some 18, none, .q (.mv (.t 1)), []⟩,
 ⟨some 19, none, .e (.call 4 [(.t 18)]), []⟩,
 ⟨some 5, none, .e (.alloc [(.int .i64 0), (.int .i64 0), (.str []), (.int .i64 0), (.int .i64 0), (.bool false), (.bool false), (.int .i64 0), (.int .i64 0), (.bool false), (.bool false), (.sl .full [])]), []⟩,
 ⟨some 6, none, .e (.alloc [(.int .i64 0), (.int .i64 0), (.str []), (.int .i64 0), (.int .i64 0), (.bool false), (.bool false), (.int .i64 0), (.int .i64 0), (.bool false), (.bool false), (.sl .full [])]), []⟩,
 ⟨none, none, .e (.store 12 (.t 5) (.t 17)), []⟩,
 ⟨none, none, .e (.store 12 (.t 6) (.t 19)), []⟩]
def c3_2 : ACode := .tree (.seg [
 ⟨some 20, none, .q (.ld (some 12) (.t 5)), []⟩,
 ⟨some 22, none, .q (.ld (some 12) (.t 6)), []⟩] (.both (.seg [
 ⟨some 21, none, .e (.call 5 [(.t 20)]), [⟨none, .ld (some 12) (.t 6), 22⟩]⟩] (.both (.seg [
 ⟨some 23, none, .e (.call 5 [(.t 22)]), []⟩] (.both (.seg [
 ⟨some 7, none, .e (.alloc [(.int .i64 0), (.int .i64 0), (.str []), (.int .i64 0), (.int .i64 0), (.bool false), (.bool false), (.int .i64 0), (.int .i64 0), (.bool false), (.bool false), (.sl .full [])]), []⟩,
 ⟨some 8, none, .e (.alloc [(.int .i64 0), (.int .i64 0), (.str []), (.int .i64 0), (.int .i64 0), (.bool false), (.bool false), (.int .i64 0), (.int .i64 0), (.bool false), (.bool false), (.sl .full [])]), []⟩,
 ⟨none, none, .e (.store 12 (.t 7) (.t 21)), []⟩,
 ⟨none, none, .e (.store 12 (.t 8) (.t 23)), []⟩] .done) (.seg [
 ⟨some 8, none, .e (.alloc [(.int .i64 0), (.int .i64 0), (.str []), (.int .i64 0), (.int .i64 0), (.bool false), (.bool false), (.int .i64 0), (.int .i64 0), (.bool false), (.bool false), (.sl .full [])]), []⟩,
 ⟨some 7, none, .e (.alloc [(.int .i64 0), (.int .i64 0), (.str []), (.int .i64 0), (.int .i64 0), (.bool false), (.bool false), (.int .i64 0), (.int .i64 0), (.bool false), (.bool false), (.sl .full [])]), []⟩,
 ⟨none, none, .e (.store 12 (.t 7) (.t 21)), []⟩,
 ⟨none, none, .e (.store 12 (.t 8) (.t 23)), []⟩] .done))) (.both (.seg [
 ⟨some 7, none, .e (.alloc [(.int .i64 0), (.int .i64 0), (.str []), (.int .i64 0), (.int .i64 0), (.bool false), (.bool false), (.int .i64 0), (.int .i64 0), (.bool false), (.bool false), (.sl .full [])]), []⟩] (.both (.seg [
 ⟨some 23, none, .e (.call 5 [(.t 22)]), []⟩,
 ⟨some 8, none, .e (.alloc [(.int .i64 0), (.int .i64 0), (.str []), (.int .i64 0), (.int .i64 0), (.bool false), (.bool false), (.int .i64 0), (.int .i64 0), (.bool false), (.bool false), (.sl .full [])]), []⟩,
 ⟨none, none, .e (.store 12 (.t 7) (.t 21)), []⟩,
 ⟨none, none, .e (.store 12 (.t 8) (.t 23)), []⟩] .done) (.seg [
 ⟨some 8, none, .e (.alloc [(.int .i64 0), (.int .i64 0), (.str []), (.int .i64 0), (.int .i64 0), (.bool false), (.bool false), (.int .i64 0), (.int .i64 0), (.bool false), (.bool false), (.sl .full [])]), []⟩,
 ⟨some 23, none, .e (.call 5 [(.t 22)]), []⟩,
 ⟨none, none, .e (.store 12 (.t 7) (.t 21)), []⟩,
 ⟨none, none, .e (.store 12 (.t 8) (.t 23)), []⟩] .done))) (.seg [
 ⟨some 8, none, .e (.alloc [(.int .i64 0), (.int .i64 0), (.str []), (.int .i64 0), (.int .i64 0), (.bool false), (.bool false), (.int .i64 0), (.int .i64 0), (.bool false), (.bool false), (.sl .full [])]), []⟩] (.both (.seg [
 ⟨some 23, none, .e (.call 5 [(.t 22)]), []⟩,
 ⟨some 7, none, .e (.alloc [(.int .i64 0), (.int .i64 0), (.str []), (.int .i64 0), (.int .i64 0), (.bool false), (.bool false), (.int .i64 0), (.int .i64 0), (.bool false), (.bool false), (.sl .full [])]), []⟩,
 ⟨none, none, .e (.store 12 (.t 7) (.t 21)), []⟩,
 ⟨none, none, .e (.store 12 (.t 8) (.t 23)), []⟩] .done) (.seg [
 ⟨some 7, none, .e (.alloc [(.int .i64 0), (.int .i64 0), (.str []), (.int .i64 0), (.int .i64 0), (.bool false), (.bool false), (.int .i64 0), (.int .i64 0), (.bool false), (.bool false), (.sl .full [])]), []⟩,
 ⟨some 23, none, .e (.call 5 [(.t 22)]), []⟩,
 ⟨none, none, .e (.store 12 (.t 7) (.t 21)), []⟩,
 ⟨none, none, .e (.store 12 (.t 8) (.t 23)), []⟩] .done)))))) (.both (.seg [
 ⟨some 7, none, .e (.alloc [(.int .i64 0), (.int .i64 0), (.str []), (.int .i64 0), (.int .i64 0), (.bool false), (.bool false), (.int .i64 0), (.int .i64 0), (.bool false), (.bool false), (.sl .full [])]), []⟩] (.both (.seg [
 ⟨some 21, none, .e (.call 5 [(.t 20)]), [⟨none, .ld (some 12) (.t 6), 22⟩]⟩] (.both (.seg [
 ⟨some 23, none, .e (.call 5 [(.t 22)]), []⟩,
 ⟨some 8, none, .e (.alloc [(.int .i64 0), (.int .i64 0), (.str []), (.int .i64 0), (.int .i64 0), (.bool false), (.bool false), (.int .i64 0), (.int .i64 0), (.bool false), (.bool false), (.sl .full [])]), []⟩,
 ⟨none, none, .e (.store 12 (.t 7) (.t 21)), []⟩,
 ⟨none, none, .e (.store 12 (.t 8) (.t 23)), []⟩] .done) (.seg [
 ⟨some 8, none, .e (.alloc [(.int .i64 0), (.int .i64 0), (.str []), (.int .i64 0), (.int .i64 0), (.bool false), (.bool false), (.int .i64 0), (.int .i64 0), (.bool false), (.bool false), (.sl .full [])]), []⟩,
 ⟨some 23, none, .e (.call 5 [(.t 22)]), []⟩,
 ⟨none, none, .e (.store 12 (.t 7) (.t 21)), []⟩,
 ⟨none, none, .e (.store 12 (.t 8) (.t 23)), []⟩] .done))) (.seg [
 ⟨some 8, none, .e (.alloc [(.int .i64 0), (.int .i64 0), (.str []), (.int .i64 0), (.int .i64 0), (.bool false), (.bool false), (.int .i64 0), (.int .i64 0), (.bool false), (.bool false), (.sl .full [])]), []⟩,
 ⟨some 21, none, .e (.call 5 [(.t 20)]), [⟨none, .ld (some 12) (.t 6), 22⟩]⟩,
 ⟨some 23, none, .e (.call 5 [(.t 22)]), []⟩,
 ⟨none, none, .e (.store 12 (.t 7) (.t 21)), []⟩,
 ⟨none, none, .e (.store 12 (.t 8) (.t 23)), []⟩] .done))) (.seg [
 ⟨some 8, none, .e (.alloc [(.int .i64 0), (.int .i64 0), (.str []), (.int .i64 0), (.int .i64 0), (.bool false), (.bool false), (.int .i64 0), (.int .i64 0), (.bool false), (.bool false), (.sl .full [])]), []⟩] (.both (.seg [
 ⟨some 21, none, .e (.call 5 [(.t 20)]), [⟨none, .ld (some 12) (.t 6), 22⟩]⟩] (.both (.seg [
 ⟨some 23, none, .e (.call 5 [(.t 22)]), []⟩,
 ⟨some 7, none, .e (.alloc [(.int .i64 0), (.int .i64 0), (.str []), (.int .i64 0), (.int .i64 0), (.bool false), (.bool false), (.int .i64 0), (.int .i64 0), (.bool false), (.bool false), (.sl .full [])]), []⟩,
 ⟨none, none, .e (.store 12 (.t 7) (.t 21)), []⟩,
 ⟨none, none, .e (.store 12 (.t 8) (.t 23)), []⟩] .done) (.seg [
 ⟨some 7, none, .e (.alloc [(.int .i64 0), (.int .i64 0), (.str []), (.int .i64 0), (.int .i64 0), (.bool false), (.bool false), (.int .i64 0), (.int .i64 0), (.bool false), (.bool false), (.sl .full [])]), []⟩,
 ⟨some 23, none, .e (.call 5 [(.t 22)]), []⟩,
 ⟨none, none, .e (.store 12 (.t 7) (.t 21)), []⟩,
 ⟨none, none, .e (.store 12 (.t 8) (.t 23)), []⟩] .done))) (.seg [
 ⟨some 7, none, .e (.alloc [(.int .i64 0), (.int .i64 0), (.str []), (.int .i64 0), (.int .i64 0), (.bool false), (.bool false), (.int .i64 0), (.int .i64 0), (.bool false), (.bool false), (.sl .full [])]), []⟩,
 ⟨some 21, none, .e (.call 5 [(.t 20)]), [⟨none, .ld (some 12) (.t 6), 22⟩]⟩,
 ⟨some 23, none, .e (.call 5 [(.t 22)]), []⟩,
 ⟨none, none, .e (.store 12 (.t 7) (.t 21)), []⟩,
 ⟨none, none, .e (.store 12 (.t 8) (.t 23)), []⟩] .done))))))
def c3_3 : ACode := .ops [
 ⟨some 24, none, .e (.call 6 []), []⟩,
 ⟨some 25, none, .q (.un .not (.t 24)), []⟩,
 ⟨some 26, none, .q (.mv (.t 25)), []⟩,
 ⟨some 27, some (26, false), .q (.ld (some 12) (.t 5)), []⟩,
 ⟨some 29, some (26, false), .q (.ld (some 12) (.t 7)), []⟩,
 ⟨some 28, some (26, false), .e (.call 7 [(.t 27)]), [⟨(some (26, false)), .ld (some 12) (.t 7), 29⟩]⟩,
 ⟨some 30, some (26, false), .e (.call 8 [(.t 29)]), []⟩,
 ⟨some 31, some (26, false), .q (.bin .neq (.t 28) (.t 30)), []⟩,
 ⟨some 32, none, .q (.pick (.t 26) (.v (.bool true)) (.t 31)), []⟩,
 ⟨some 33, none, .q (.mv (.t 32)), []⟩,
 ⟨some 34, some (33, false), .q (.ld (some 12) (.t 5)), []⟩,
 ⟨some 35, some (33, false), .q (.ld (some 12) (.t 6)), []⟩,
 ⟨some 37, some (33, false), .q (.ld (some 12) (.t 7)), []⟩,
 ⟨some 38, some (33, false), .q (.ld (some 12) (.t 8)), []⟩,
 ⟨some 36, some (33, false), .e (.call 9 [(.t 34), (.t 35)]), [⟨(some (33, false)), .ld (some 12) (.t 7), 37⟩, ⟨(some (33, false)), .ld (some 12) (.t 8), 38⟩]⟩,
 ⟨some 39, some (33, false), .e (.call 10 [(.t 37), (.t 38)]), []⟩,
 ⟨some 40, some (33, false), .q (.eq .b true (.t 36) (.t 39)), []⟩,
 ⟨some 41, none, .q (.pick (.t 33) (.v (.bool true)) (.t 40)), []⟩,
 ⟨some 42, none, .q (.mv (.t 41)), []⟩,
 ⟨some 43, some (42, false), .q (.ld (some 12) (.t 5)), []⟩,
 ⟨some 44, some (42, false), .q (.ld (some 12) (.t 5)), []⟩,
 ⟨some 45, some (42, false), .e (.call 9 [(.t 43), (.t 44)]), []⟩,
 ⟨some 46, some (42, false), .q (.un .not (.t 45)), []⟩,
 ⟨some 47, none, .q (.pick (.t 42) (.v (.bool true)) (.t 46)), []⟩,
 ⟨some 48, none, .q (.mv (.t 47)), []⟩,
 ⟨some 49, some (48, false), .q (.ld (some 12) (.t 5)), []⟩,
 ⟨some 51, some (48, false), .q (.ld (some 12) (.t 7)), []⟩,
 ⟨some 50, some (48, false), .e (.call 11 [(.t 49)]), [⟨(some (48, false)), .ld (some 12) (.t 7), 51⟩]⟩,
 ⟨some 52, some (48, false), .e (.call 12 [(.t 51)]), []⟩,
 ⟨some 53, some (48, false), .q (.bin .neq (.t 50) (.t 52)), []⟩,
 ⟨some 54, none, .q (.pick (.t 48) (.v (.bool true)) (.t 53)), []⟩,
 ⟨some 55, none, .q (.mv (.t 54)), []⟩,
 ⟨some 56, some (55, false), .q (.ld (some 12) (.t 5)), []⟩,
 ⟨some 58, some (55, false), .q (.ld (some 12) (.t 7)), []⟩,
 ⟨some 57, some (55, false), .e (.call 13 [(.t 56)]), [⟨(some (55, false)), .ld (some 12) (.t 7), 58⟩]⟩,
 ⟨some 59, some (55, false), .e (.call 14 [(.t 58)]), []⟩,
 ⟨some 60, some (55, false), .q (.bin .neq (.t 57) (.t 59)), []⟩,
 ⟨some 61, none, .q (.pick (.t 55) (.v (.bool true)) (.t 60)), []⟩]
def c3_4 : ACode := .ops [
 ⟨some 4, none, .q (.mv (.v (.bool false))), []⟩]
def c3_5 : ACode := .seq c3_4 .ret
def c3_6 : ACode := .cond (.t 61) c3_5 .skip
def c3_7 : ACode := .seq c3_3 c3_6
def c3_8 : ACode := .ops [
 ⟨some 62, none, .q (.ld (some 12) (.t 5)), []⟩,
 ⟨some 63, none, .e (.call 15 [(.t 62)]), []⟩,
 ⟨some 9, none, .q (.mv (.t 63)), []⟩]
def c3_9 : ACode := .ops [
 ⟨some 64, none, .q (.ld (some 12) (.t 7)), []⟩,
 ⟨some 65, none, .e (.call 16 [(.t 64), (.v (.sl .full []))]), []⟩,
 ⟨some 10, none, .q (.mv (.t 65)), []⟩]
def c3_10 : ACode := .ops [
 ⟨some 66, none, .q (.mv (.t 9)), []⟩,
 ⟨some 67, none, .q (.len (.t 66)), []⟩,
 ⟨some 68, none, .q (.mv (.t 10)), []⟩,
 ⟨some 69, none, .q (.len (.t 68)), []⟩,
 ⟨some 70, none, .q (.bin .neq (.t 67) (.t 69)), []⟩]
def c3_11 : ACode := .ops [
 ⟨some 4, none, .q (.mv (.v (.bool false))), []⟩]
def c3_12 : ACode := .seq c3_11 .ret
def c3_13 : ACode := .cond (.t 70) c3_12 .skip
def c3_14 : ACode := .seq c3_10 c3_13
def c3_15 : ACode := .ops [
 ⟨some 71, none, .q (.mv (.t 10)), []⟩,
 ⟨some 72, none, .q (.len (.t 71)), []⟩,
 ⟨some 73, none, .q (.mv (.v (.int .i64 0))), []⟩]
def c3_16 : ACode := .ops [
 ⟨some 74, none, .q (.bin .lss (.t 73) (.t 72)), []⟩]
def c3_17 : ACode := .cond (.t 74) .skip (.exit 0)
def c3_18 : ACode := .ops [
 ⟨some 75, none, .q (.mv (.t 73)), []⟩,
 ⟨some 11, none, .q (.mv (.t 75)), []⟩]
def c3_19 : ACode := .ops [
 ⟨some 76, none, .q (.mv (.t 9)), []⟩,
 ⟨some 77, none, .q (.mv (.t 11)), []⟩,
 ⟨some 78, none, .q (.ia 4 (.t 76) (.t 77)), []⟩,
 ⟨some 79, none, .q (.ld (some 4) (.t 78)), []⟩,
 ⟨some 80, none, .q (.mv (.t 10)), []⟩,
 ⟨some 81, none, .q (.mv (.t 11)), []⟩,
 ⟨some 82, none, .q (.ia 4 (.t 80) (.t 81)), []⟩,
 ⟨some 83, none, .q (.ld (some 4) (.t 82)), []⟩,
 ⟨some 84, none, .q (.eqs true [(0, 0), (1, 0), (2, 0), (3, 0)] (.t 79) (.t 83)), []⟩]
def c3_20 : ACode := .ops [
 ⟨some 4, none, .q (.mv (.v (.bool false))), []⟩]
def c3_21 : ACode := .seq c3_20 .ret
def c3_22 : ACode := .cond (.t 84) c3_21 .skip
def c3_23 : ACode := .seq c3_19 c3_22
def c3_24 : ACode := .seq c3_18 c3_23
def c3_25 : ACode := .block 1 c3_24
def c3_26 : ACode := .ops [
 ⟨some 85, none, .q (.bin .add (.t 73) (.v (.int .i64 1))), []⟩,
 ⟨some 73, none, .q (.mv (.t 85)), []⟩]
def c3_27 : ACode := .seq c3_25 c3_26
def c3_28 : ACode := .seq c3_17 c3_27
def c3_29 : ACode := .seq c3_16 c3_28
def c3_30 : ACode := .loop c3_29
def c3_31 : ACode := .block 0 c3_30
def c3_32 : ACode := .seq c3_15 c3_31
def c3_33 : ACode := .ops [
 ⟨some 86, none, .e (.call 17 []), []⟩,
 ⟨some 12, none, .q (.mv (.t 86)), []⟩]
def c3_34 : ACode := .ops [
 ⟨some 87, none, .q (.mv (.t 12)), []⟩,
 ⟨some 88, none, .q (.len (.t 87)), []⟩,
 ⟨some 89, none, .q (.mv (.v (.int .i64 0))), []⟩]
def c3_35 : ACode := .ops [
 ⟨some 90, none, .q (.bin .lss (.t 89) (.t 88)), []⟩]
def c3_36 : ACode := .cond (.t 90) .skip (.exit 2)
def c3_37 : ACode := .ops [
 ⟨some 91, none, .q (.mv (.t 89)), []⟩,
 ⟨some 13, none, .q (.mv (.t 91)), []⟩]
def c3_38 : ACode := .ops [
 ⟨some 94, none, .q (.mv (.t 12)), []⟩,
 ⟨some 95, none, .q (.len (.t 94)), []⟩,
 ⟨some 92, none, .e (.call 18 []), []⟩,
 ⟨some 93, none, .q (.len (.t 92)), []⟩,
 ⟨some 96, none, .q (.bin .neq (.t 93) (.t 95)), []⟩,
 ⟨some 97, none, .q (.mv (.t 96)), []⟩,
 ⟨some 99, some (97, false), .q (.mv (.t 13)), []⟩,
 ⟨some 102, some (97, false), .q (.mv (.t 12)), []⟩,
 ⟨some 103, some (97, false), .q (.mv (.t 13)), []⟩,
 ⟨some 104, some (97, false), .q (.ia 1 (.t 102) (.t 103)), []⟩,
 ⟨some 105, some (97, false), .q (.ld none (.t 104)), []⟩,
 ⟨some 98, some (97, false), .e (.call 18 []), [⟨(some (97, false)), .ld none (.t 104), 105⟩]⟩,
 ⟨some 100, some (97, false), .q (.ia 1 (.t 98) (.t 99)), []⟩,
 ⟨some 101, some (97, false), .q (.ld none (.t 100)), []⟩,
 ⟨some 106, some (97, false), .q (.bin .neq (.t 101) (.t 105)), []⟩,
 ⟨some 107, none, .q (.pick (.t 97) (.v (.bool true)) (.t 106)), []⟩]
def c3_39 : ACode := .ops [
 ⟨some 4, none, .q (.mv (.v (.bool false))), []⟩]
def c3_40 : ACode := .seq c3_39 .ret
def c3_41 : ACode := .cond (.t 107) c3_40 .skip
def c3_42 : ACode := .seq c3_38 c3_41
def c3_43 : ACode := .seq c3_37 c3_42
def c3_44 : ACode := .block 3 c3_43
def c3_45 : ACode := .ops [
 ⟨some 108, none, .q (.bin .add (.t 89) (.v (.int .i64 1))), []⟩,
 ⟨some 89, none, .q (.mv (.t 108)), []⟩]
def c3_46 : ACode := .seq c3_44 c3_45
def c3_47 : ACode := .seq c3_36 c3_46
def c3_48 : ACode := .seq c3_35 c3_47
def c3_49 : ACode := .loop c3_48
def c3_50 : ACode := .block 2 c3_49
def c3_51 : ACode := .seq c3_34 c3_50
def c3_52 : ACode := .ops [
 ⟨some 14, none, .e (.alloc [(.sl .full [])]), []⟩]
def c3_53 : ACode := .ops [
 ⟨some 109, none, .q (.ld (some 12) (.t 5)), []⟩,
 ⟨some 110, none, .e (.call 19 [(.t 14), (.t 109)]), []⟩]
def c3_54 : ACode := .ops [
 ⟨some 15, none, .q (.mv (.v (.str []))), []⟩]
def c3_55 : ACode := .ops [
 ⟨some 111, none, .q (.fa 0 (.t 5)), []⟩,
 ⟨some 112, none, .q (.ld none (.t 111)), []⟩,
 ⟨some 113, none, .q (.bin .eql (.t 112) (.v (.int .i64 4))), []⟩]
def c3_56 : ACode := .ops [
 ⟨some 115, none, .q (.fa 1 (.t 7)), []⟩,
 ⟨some 116, none, .q (.ld none (.t 115)), []⟩,
 ⟨some 117, none, .q (.bin .quo (.t 116) (.v (.int .i64 10000))), []⟩,
 ⟨some 118, none, .q (.bin .sub (.t 117) (.v (.int .i64 1))), []⟩,
 ⟨some 114, none, .e (.call 20 []), [⟨none, .ld none (.t 115), 116⟩]⟩,
 ⟨some 119, none, .q (.ia 1 (.t 114) (.t 118)), []⟩,
 ⟨some 120, none, .q (.ld none (.t 119)), []⟩,
 ⟨some 15, none, .q (.mv (.t 120)), []⟩]
def c3_57 : ACode := .cond (.t 113) c3_56 .skip
def c3_58 : ACode := .seq c3_55 c3_57
def c3_59 : ACode := .ops [
 ⟨some 122, none, .q (.ld (some 12) (.t 7)), []⟩,
 ⟨some 121, none, .e (.call 21 [(.t 14)]), [⟨none, .ld (some 12) (.t 7), 122⟩]⟩,
 ⟨some 123, none, .e (.call 22 [(.t 122)]), []⟩,
 ⟨some 124, none, .q (.bin .eql (.t 121) (.t 123)), []⟩,
 ⟨some 125, none, .q (.mv (.t 124)), []⟩,
 ⟨some 126, some (125, true), .q (.ld (some 12) (.t 5)), []⟩,
 ⟨some 128, some (125, true), .q (.mv (.t 15)), []⟩,
 ⟨some 127, some (125, true), .e (.call 23 [(.t 126)]), []⟩,
 ⟨some 129, some (125, true), .q (.bin .eql (.t 127) (.t 128)), []⟩,
 ⟨some 130, none, .q (.pick (.t 125) (.t 129) (.v (.bool false))), []⟩,
 ⟨some 4, none, .q (.mv (.t 130)), []⟩]
def c3_60 : ACode := .seq c3_59 .ret
def c3_61 : ACode := .seq c3_58 c3_60
def c3_62 : ACode := .seq c3_54 c3_61
def c3_63 : ACode := .seq c3_53 c3_62
def c3_64 : ACode := .seq c3_52 c3_63
def c3_65 : ACode := .seq c3_51 c3_64
def c3_66 : ACode := .seq c3_33 c3_65
def c3_67 : ACode := .seq c3_32 c3_66
def c3_68 : ACode := .seq c3_14 c3_67
def c3_69 : ACode := .seq c3_9 c3_68
def c3_70 : ACode := .seq c3_8 c3_69
def c3_71 : ACode := .seq c3_7 c3_70
def c3_72 : ACode := .seq c3_2 c3_71
def c3_73 : ACode := .seq c3_1 c3_72
def c3_74 : ACode := .seq c3_0 c3_73
@[go_sem] def c3_0_wp := wp_of c3_0.eq_1
@[go_sem] def c3_1_wp := wp_of c3_1.eq_1
@[go_sem] def c3_2_wp := wp_of c3_2.eq_1
@[go_sem] def c3_3_wp := wp_of c3_3.eq_1
@[go_sem] def c3_6_wp := wp_of c3_6.eq_1
@[go_sem] def c3_7_wp := wp_of c3_7.eq_1
@[go_sem] def c3_8_wp := wp_of c3_8.eq_1
@[go_sem] def c3_9_wp := wp_of c3_9.eq_1
@[go_sem] def c3_10_wp := wp_of c3_10.eq_1
@[go_sem] def c3_13_wp := wp_of c3_13.eq_1
@[go_sem] def c3_14_wp := wp_of c3_14.eq_1
@[go_sem] def c3_15_wp := wp_of c3_15.eq_1
@[go_sem] def c3_16_wp := wp_of c3_16.eq_1
@[go_sem] def c3_17_wp := wp_of c3_17.eq_1
@[go_sem] def c3_18_wp := wp_of c3_18.eq_1
@[go_sem] def c3_19_wp := wp_of c3_19.eq_1
@[go_sem] def c3_22_wp := wp_of c3_22.eq_1
@[go_sem] def c3_23_wp := wp_of c3_23.eq_1
@[go_sem] def c3_24_wp := wp_of c3_24.eq_1
@[go_sem] def c3_25_wp := wp_of c3_25.eq_1
@[go_sem] def c3_26_wp := wp_of c3_26.eq_1
@[go_sem] def c3_27_wp := wp_of c3_27.eq_1
@[go_sem] def c3_28_wp := wp_of c3_28.eq_1
@[go_sem] def c3_29_wp := wp_of c3_29.eq_1
@[go_sem] def c3_30_wp := wp_of c3_30.eq_1
@[go_sem] def c3_31_wp := wp_of c3_31.eq_1
@[go_sem] def c3_32_wp := wp_of c3_32.eq_1
@[go_sem] def c3_33_wp := wp_of c3_33.eq_1
@[go_sem] def c3_34_wp := wp_of c3_34.eq_1
@[go_sem] def c3_35_wp := wp_of c3_35.eq_1
@[go_sem] def c3_36_wp := wp_of c3_36.eq_1
@[go_sem] def c3_37_wp := wp_of c3_37.eq_1
@[go_sem] def c3_38_wp := wp_of c3_38.eq_1
@[go_sem] def c3_41_wp := wp_of c3_41.eq_1
@[go_sem] def c3_42_wp := wp_of c3_42.eq_1
@[go_sem] def c3_43_wp := wp_of c3_43.eq_1
@[go_sem] def c3_44_wp := wp_of c3_44.eq_1
@[go_sem] def c3_45_wp := wp_of c3_45.eq_1
@[go_sem] def c3_46_wp := wp_of c3_46.eq_1
@[go_sem] def c3_47_wp := wp_of c3_47.eq_1
@[go_sem] def c3_48_wp := wp_of c3_48.eq_1
@[go_sem] def c3_49_wp := wp_of c3_49.eq_1
@[go_sem] def c3_50_wp := wp_of c3_50.eq_1
@[go_sem] def c3_51_wp := wp_of c3_51.eq_1
@[go_sem] def c3_52_wp := wp_of c3_52.eq_1
@[go_sem] def c3_53_wp := wp_of c3_53.eq_1
@[go_sem] def c3_54_wp := wp_of c3_54.eq_1
@[go_sem] def c3_55_wp := wp_of c3_55.eq_1
@[go_sem] def c3_56_wp := wp_of c3_56.eq_1
@[go_sem] def c3_57_wp := wp_of c3_57.eq_1
@[go_sem] def c3_58_wp := wp_of c3_58.eq_1
@[go_sem] def c3_59_wp := wp_of c3_59.eq_1
@[go_sem] def c3_60_wp := wp_of c3_60.eq_1
@[go_sem] def c3_61_wp := wp_of c3_61.eq_1
@[go_sem] def c3_62_wp := wp_of c3_62.eq_1
@[go_sem] def c3_63_wp := wp_of c3_63.eq_1
@[go_sem] def c3_64_wp := wp_of c3_64.eq_1
@[go_sem] def c3_65_wp := wp_of c3_65.eq_1
@[go_sem] def c3_66_wp := wp_of c3_66.eq_1
@[go_sem] def c3_67_wp := wp_of c3_67.eq_1
@[go_sem] def c3_68_wp := wp_of c3_68.eq_1
@[go_sem] def c3_69_wp := wp_of c3_69.eq_1
@[go_sem] def c3_70_wp := wp_of c3_70.eq_1
@[go_sem] def c3_71_wp := wp_of c3_71.eq_1
@[go_sem] def c3_73_wp := wp_of c3_73.eq_1
@[go_sem] def c3_74_wp := wp_of c3_74.eq_1
def c3 : AFn := ⟨131, [.t 4], c3_74⟩
theorem c3_ok : compF Tryz.prog Tryz.f3 = some c3 := by kernel_rfl
theorem a3 {args : List AV} {σ : ASt} {R : AV → ASt → Prop} (hl : args.length ≤ 131) (h : c3_74.wp Tryz.prog (RetQ [.t 4] R) (init args) σ) : ACalls Tryz.prog 3 args σ R := acalls_of Tryz.func3 c3_ok hl h
end Go.A
