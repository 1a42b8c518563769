/- Part 8 of what ShiftMoves leans on: CodeEh Eh CodeSa Sa So CodeSb Sb Ej. -/
import Derived.Test.YtelbefdoehlmhaaGreatDoorProg
import Derived.KernelRfl
import Derived.Test.YtelbefdoehlmhaaGreatDoorZShiftMovesg
namespace Go.A
open Go.Proofs
/-! 23: tabular/expr.Same -/
/-! 25: tabular/expr.Areas -/
/-! 32: tabular/expr.Map -/
def c32_0 : ACode := .ops [
 ⟨some 2, none, .e (.box (.t 0)), []⟩,
 ⟨some 4, none, .e (.alloc [(.int .i64 0), (.int .i64 0), (.str []), (.int .i64 0), (.int .i64 0), (.bool false), (.bool false), (.int .i64 0), (.int .i64 0), (.bool false), (.bool false), (.sl .full [])]), []⟩]
def c32_1 : ACode := .ops [
 ⟨some 8, none, .q (.fa 0 (.t 2)), []⟩,
 ⟨some 9, none, .q (.ld none (.t 8)), []⟩,
 ⟨some 10, none, .q (.bin .eql (.t 9) (.v (.int .i64 5))), []⟩,
 ⟨some 11, none, .q (.mv (.t 10)), []⟩,
 ⟨some 12, some (11, false), .q (.fa 0 (.t 2)), []⟩,
 ⟨some 13, some (11, false), .q (.ld none (.t 12)), []⟩,
 ⟨some 14, some (11, false), .q (.bin .eql (.t 13) (.v (.int .i64 6))), []⟩,
 ⟨some 15, none, .q (.pick (.t 11) (.v (.bool true)) (.t 14)), []⟩]
def c32_2 : ACode := .ops [
 ⟨some 16, none, .q (.mv (.t 1)), []⟩,
 ⟨some 17, none, .q (.ld (some 12) (.t 2)), []⟩,
 ⟨some 18, none, .e (.callv (.t 16) [(.t 17)]), []⟩,
 ⟨none, none, .e (.store 12 (.t 4) (.t 18)), []⟩]
def c32_3 : ACode := .seq c32_2 .ret
def c32_4 : ACode := .cond (.t 15) c32_3 .skip
def c32_5 : ACode := .seq c32_1 c32_4
def c32_6 : ACode := .ops [
 ⟨some 19, none, .q (.fa 11 (.t 2)), []⟩,
 ⟨some 20, none, .q (.ld none (.t 19)), []⟩,
 ⟨some 21, none, .q (.len (.t 20)), []⟩,
 ⟨some 22, none, .q (.bin .gtr (.t 21) (.v (.int .i64 0))), []⟩]
def c32_7 : ACode := .ops [
 ⟨some 23, none, .q (.fa 11 (.t 2)), []⟩,
 ⟨some 24, none, .q (.ld none (.t 23)), []⟩,
 ⟨some 25, none, .q (.len (.t 24)), []⟩,
 ⟨some 26, none, .e (.mkb 29 104 [(.int .i64 0), (.int .i64 0), (.str []), (.int .i64 0), (.int .i64 0), (.bool false), (.bool false), (.int .i64 0), (.int .i64 0), (.bool false), (.bool false), (.sl .full [])] (.t 25) (.t 25)), []⟩,
 ⟨some 5, none, .q (.mv (.t 26)), []⟩]
def c32_8 : ACode := .ops [
 ⟨some 27, none, .q (.fa 11 (.t 2)), []⟩,
 ⟨some 28, none, .q (.ld none (.t 27)), []⟩,
 ⟨some 29, none, .q (.len (.t 28)), []⟩,
 ⟨some 30, none, .q (.mv (.v (.int .i64 0))), []⟩]
def c32_9 : ACode := .ops [
 ⟨some 31, none, .q (.bin .lss (.t 30) (.t 29)), []⟩]
def c32_10 : ACode := .cond (.t 31) .skip (.exit 0)
def c32_11 : ACode := .ops [
 ⟨some 32, none, .q (.mv (.t 30)), []⟩,
 ⟨some 33, none, .q (.ia 12 (.t 28) (.t 30)), []⟩,
 ⟨some 34, none, .q (.ld (some 12) (.t 33)), []⟩,
 ⟨some 7, none, .e (.alloc [(.int .i64 0), (.int .i64 0), (.str []), (.int .i64 0), (.int .i64 0), (.bool false), (.bool false), (.int .i64 0), (.int .i64 0), (.bool false), (.bool false), (.sl .full [])]), []⟩,
 ⟨some 6, none, .q (.mv (.t 32)), []⟩,
 ⟨none, none, .e (.store 12 (.t 7) (.t 34)), []⟩]
def c32_12 : ACode := .ops [
 ⟨some 35, none, .q (.mv (.t 5)), []⟩,
 ⟨some 36, none, .q (.mv (.t 6)), []⟩,
 ⟨some 37, none, .q (.ld (some 12) (.t 7)), []⟩,
 ⟨some 38, none, .q (.mv (.t 1)), []⟩,
 ⟨some 39, none, .e (.call 32 [(.t 37), (.t 38)]), []⟩,
 ⟨some 40, none, .q (.ia 12 (.t 35) (.t 36)), []⟩,
 ⟨none, none, .e (.store 12 (.t 40) (.t 39)), []⟩]
def c32_13 : ACode := .seq c32_11 c32_12
def c32_14 : ACode := .block 1 c32_13
def c32_15 : ACode := .ops [
 ⟨some 41, none, .q (.bin .add (.t 30) (.v (.int .i64 1))), []⟩,
 ⟨some 30, none, .q (.mv (.t 41)), []⟩]
def c32_16 : ACode := .seq c32_14 c32_15
def c32_17 : ACode := .seq c32_10 c32_16
def c32_18 : ACode := .seq c32_9 c32_17
def c32_19 : ACode := .loop c32_18
def c32_20 : ACode := .block 0 c32_19
def c32_21 : ACode := .seq c32_8 c32_20
def c32_22 : ACode := .ops [
 ⟨some 42, none, .q (.mv (.t 5)), []⟩,
 ⟨some 43, none, .q (.fa 11 (.t 2)), []⟩,
 ⟨none, none, .e (.store 1 (.t 43) (.t 42)), []⟩]
def c32_23 : ACode := .seq c32_21 c32_22
def c32_24 : ACode := .seq c32_7 c32_23
def c32_25 : ACode := .cond (.t 22) c32_24 .skip
def c32_26 : ACode := .seq c32_6 c32_25
def c32_27 : ACode := .ops [
 ⟨some 44, none, .q (.ld (some 12) (.t 2)), []⟩,
 ⟨none, none, .e (.store 12 (.t 4) (.t 44)), []⟩]
def c32_28 : ACode := .seq c32_27 .ret
def c32_29 : ACode := .seq c32_26 c32_28
def c32_30 : ACode := .seq c32_5 c32_29
def c32_31 : ACode := .seq c32_0 c32_30
@[go_sem] theorem c32_0_wp : type_of% (wp_of c32_0.eq_1) := wp_of c32_0.eq_1
@[go_sem] theorem c32_1_wp : type_of% (wp_of c32_1.eq_1) := wp_of c32_1.eq_1
@[go_sem] theorem c32_2_wp : type_of% (wp_of c32_2.eq_1) := wp_of c32_2.eq_1
@[go_sem] theorem c32_3_wp : type_of% (wp_of c32_3.eq_1) := wp_of c32_3.eq_1
@[go_sem] theorem c32_4_wp : type_of% (wp_of c32_4.eq_1) := wp_of c32_4.eq_1
@[go_sem] theorem c32_5_wp : type_of% (wp_of c32_5.eq_1) := wp_of c32_5.eq_1
@[go_sem] theorem c32_6_wp : type_of% (wp_of c32_6.eq_1) := wp_of c32_6.eq_1
@[go_sem] theorem c32_7_wp : type_of% (wp_of c32_7.eq_1) := wp_of c32_7.eq_1
@[go_sem] theorem c32_8_wp : type_of% (wp_of c32_8.eq_1) := wp_of c32_8.eq_1
@[go_sem] theorem c32_9_wp : type_of% (wp_of c32_9.eq_1) := wp_of c32_9.eq_1
@[go_sem] theorem c32_10_wp : type_of% (wp_of c32_10.eq_1) := wp_of c32_10.eq_1
@[go_sem] theorem c32_11_wp : type_of% (wp_of c32_11.eq_1) := wp_of c32_11.eq_1
@[go_sem] theorem c32_12_wp : type_of% (wp_of c32_12.eq_1) := wp_of c32_12.eq_1
@[go_sem] theorem c32_13_wp : type_of% (wp_of c32_13.eq_1) := wp_of c32_13.eq_1
@[go_sem] theorem c32_14_wp : type_of% (wp_of c32_14.eq_1) := wp_of c32_14.eq_1
@[go_sem] theorem c32_15_wp : type_of% (wp_of c32_15.eq_1) := wp_of c32_15.eq_1
@[go_sem] theorem c32_16_wp : type_of% (wp_of c32_16.eq_1) := wp_of c32_16.eq_1
@[go_sem] theorem c32_17_wp : type_of% (wp_of c32_17.eq_1) := wp_of c32_17.eq_1
@[go_sem] theorem c32_18_wp : type_of% (wp_of c32_18.eq_1) := wp_of c32_18.eq_1
@[go_sem] theorem c32_19_wp : type_of% (wp_of c32_19.eq_1) := wp_of c32_19.eq_1
@[go_sem] theorem c32_20_wp : type_of% (wp_of c32_20.eq_1) := wp_of c32_20.eq_1
@[go_sem] theorem c32_21_wp : type_of% (wp_of c32_21.eq_1) := wp_of c32_21.eq_1
@[go_sem] theorem c32_22_wp : type_of% (wp_of c32_22.eq_1) := wp_of c32_22.eq_1
@[go_sem] theorem c32_23_wp : type_of% (wp_of c32_23.eq_1) := wp_of c32_23.eq_1
@[go_sem] theorem c32_24_wp : type_of% (wp_of c32_24.eq_1) := wp_of c32_24.eq_1
@[go_sem] theorem c32_25_wp : type_of% (wp_of c32_25.eq_1) := wp_of c32_25.eq_1
@[go_sem] theorem c32_26_wp : type_of% (wp_of c32_26.eq_1) := wp_of c32_26.eq_1
@[go_sem] theorem c32_27_wp : type_of% (wp_of c32_27.eq_1) := wp_of c32_27.eq_1
@[go_sem] theorem c32_28_wp : type_of% (wp_of c32_28.eq_1) := wp_of c32_28.eq_1
@[go_sem] theorem c32_29_wp : type_of% (wp_of c32_29.eq_1) := wp_of c32_29.eq_1
@[go_sem] theorem c32_30_wp : type_of% (wp_of c32_30.eq_1) := wp_of c32_30.eq_1
@[go_sem] theorem c32_31_wp : type_of% (wp_of c32_31.eq_1) := wp_of c32_31.eq_1
def c32 : AFn := ⟨45, [.c 4 (some 12)], c32_31⟩
set_option maxRecDepth 100000 in
theorem c32_ok : compF Tryz.prog Tryz.f32 = some c32 := by kernel_rfl
theorem a32 {args : List AV} {σ : ASt} {R : AV → ASt → Prop} (hl : args.length ≤ 45) (h : c32_31.wp Tryz.prog (RetQ [.c 4 (some 12)] R) (init args) σ) : ACalls Tryz.prog 32 args σ R := acalls_of Tryz.func32 c32_ok hl h
/-! 44: slices.EqualFunc[[]tabular/expr.Node,[]tabular/expr.Node,tabular/expr.Node,tabular/expr.Node] -/
/-! 45: tabular/expr.areas -/
/-! 57: (tabular/addr.Ref).Rect -/
/-! 59: slices.Contains[[]tabular/addr.Rect,tabular/addr.Rect] -/
/-! 83: slices.Index[[]tabular/addr.Rect,tabular/addr.Rect] -/
end Go.A
namespace Go.A
set_option linter.unusedSimpArgs false
set_option linter.unusedVariables false
def OwnSl (σ0 σ : ASt) (v : AV) (xs : List AV) (s : Nat) : Prop :=
  (xs = [] ∧ v = .sl .full [] ∧ σ = σ0) ∨ ∃ b c rest, v = .msl b 0 xs.length c ∧ xs.length ≤ c ∧ rest.length = (c - xs.length) * s ∧ σ0 b = none ∧ σ = σ0.set b (some (.obj (xs.flatMap AV.cells ++ rest)))
theorem OwnSl.drop {σ0 σ : ASt} {v : AV} {xs : List AV} {s : Nat} (h : OwnSl σ0 σ v xs s) : Drop σ σ0 := by
  rcases h with ⟨_, _, rfl⟩ | ⟨b, c, rest, _, _, _, hb, rfl⟩
  · exact Drop.refl _
  · exact Drop.set hb
def zrow (s : Nat) (z : List AV) (n c : Nat) : List AV := (List.range ((c - n) * s)).map fun i => z.getD (i % s) .any
theorem zrow_len (s : Nat) (z : List AV) (n c : Nat) : (zrow s z n c).length = (c - n) * s := by simp [zrow]
theorem ownRow_z {s n c : Nat} {z cs : List AV} : ownRow s z cs n c = cs ++ zrow s z n c := rfl
theorem OwnSl.app {e : TypeId} {σ0 σ : ASt} {v : AV} {xs ys z : List AV} {s bytes : Nat} {k2 : SK} {K : AV → ASt → Prop} (h : OwnSl σ0 σ v xs s) (hx : ∀ x ∈ xs, x.cells.length = s) (h2 : wellSz s ys = true) (h3 : leaves (ys.flatMap AV.cells) = true)
    (h4 : (xs.length + ys.length) * bytes ≤ 140737488355328) (h5 : xs.length + ys.length ≤ 4611686018427387904) (h6 : 0 < ys.length)
    (hK : ∀ v' σ', (∃ σ2, Drop σ' σ2 ∧ OwnSl σ0 σ2 v' (xs ++ ys) s) → K v' σ') : appC e s bytes z v (.sl k2 ys) σ K := by
  have hyl : (ys.flatMap AV.cells).length = ys.length * s := lens_flat (wellSz_lens h2)
  have hxl : (xs.flatMap AV.cells).length = xs.length * s := lens_flat hx
  rcases h with ⟨rfl, rfl, rfl⟩ | ⟨b, c, rest, rfl, hc, hr, hb, rfl⟩
  · refine appO_by rfl h2 h3 h4 h5 h6 fun b c hb hc => hK _ _ ⟨_, Drop.refl _, .inr ⟨b, c, zrow s z (([] : List AV).length + ys.length) c, ?_, ?_, ?_, hb, ?_⟩⟩
    · simp
    · simpa using hc
    · rw [zrow_len]; simp
    · rw [ownRow_z]; simp only [List.nil_append, List.flatMap_nil]
  · rw [appC_msl, ASt.set_same]
    refine appM_by h2 h3 h4 h5 (by rw [List.length_append, hxl, hr]; omega) (fun hroom => ⟨?_, ?_⟩) (fun hgrow b' c' hb' hc' => ?_)
    · rw [List.length_append, hxl, hr, Nat.zero_add, ← Nat.add_mul]
      exact Nat.mul_le_mul_right _ (by omega)
    · rw [ASt.set_set]
      refine hK _ _ ⟨_, Drop.refl _, .inr ⟨b, c, rest.drop (ys.length * s), by simp, by simpa using hroom, ?_, hb, ?_⟩⟩
      · rw [List.length_drop, hr, ← Nat.sub_mul, List.length_append]
        congr 1
        omega
      · congr 3
        unfold splice
        rw [Nat.zero_add, List.flatMap_append]
        have e1 : (xs.flatMap AV.cells ++ rest).take (xs.length * s) = xs.flatMap AV.cells := by rw [← hxl]; simp
        have e2 : (xs.flatMap AV.cells ++ rest).drop (xs.length * s + ys.length * s) = rest.drop (ys.length * s) := by rw [← hxl, ← List.drop_drop]; simp
        rw [e1, e2]
    · obtain ⟨m1, m2, hb0⟩ := set_none hb'
      have e1 : ((xs.flatMap AV.cells ++ rest).drop 0).take (xs.length * s) = xs.flatMap AV.cells := by rw [← hxl]; simp
      rw [e1]
      refine hK _ _ ⟨σ0.set b' (some (.obj (ownRow s z (xs.flatMap AV.cells ++ ys.flatMap AV.cells) (xs.length + ys.length) c'))), ?_, .inr ⟨b', c', zrow s z (xs.length + ys.length) c', by simp, by simpa using hc', by rw [zrow_len, List.length_append], hb0, ?_⟩⟩
      · rw [set_swap m2]
        exact Drop.set (by rw [ASt.set_ne m2]; exact hb)
      · rw [ownRow_z, List.flatMap_append]
theorem OwnSl.at {σ0 σ : ASt} {x : Nat} {r : Role} {v : AV} {xs : List AV} {s : Nat} (h : OwnSl σ0 σ v xs s) (hx : σ0 x = some r) : σ x = some r := by
  rcases h with ⟨_, _, rfl⟩ | ⟨b, c, rest, _, _, _, hb, rfl⟩
  · exact hx
  · rw [ASt.set_ne]
    · exact hx
    · rintro rfl; rw [hb] at hx; cases hx
end Go.A
namespace Go.A
open Go.Proofs Go.Lib
set_option maxRecDepth 100000
set_option linter.unusedSimpArgs false
set_option linter.unusedVariables false
mutual
def Nd.same : Nd → Nd → Bool
  | .mk o n s a b ks, .mk o' n' s' a' b' ks' => decide (o = o') && decide (n = n') && decide (s = s') && decide (a = a') && decide (b = b') && Nd.sames ks ks'
def Nd.sames : List Nd → List Nd → Bool
  | [], [] => true
  | [], _ :: _ => false
  | _ :: _, [] => false
  | x :: xs, y :: ys => Nd.same x y && Nd.sames xs ys
end
mutual
theorem Nd.same_refl : ∀ x : Nd, Nd.same x x = true
  | .mk o n s a b ks => by rw [Nd.same, Nd.sames_refl ks]; simp
theorem Nd.sames_refl : ∀ xs : List Nd, Nd.sames xs xs = true
  | [] => rfl
  | x :: xs => by rw [Nd.sames, Nd.same_refl x, Nd.sames_refl xs]; rfl
end
end Go.A
namespace Go.A
open Go.Proofs Go.Lib
set_option maxRecDepth 100000
set_option linter.unusedSimpArgs false
set_option linter.unusedVariables false
mutual
def Nd.map (f : Nd → Nd) : Nd → Nd
  | .mk op n s a b ks => if op = 5 ∨ op = 6 then f (.mk op n s a b ks) else .mk op n s a b (Nd.maps f ks)
def Nd.maps (f : Nd → Nd) : List Nd → List Nd
  | [] => []
  | x :: xs => Nd.map f x :: Nd.maps f xs
end
theorem Nd.maps_map (f : Nd → Nd) : ∀ l : List Nd, Nd.maps f l = l.map (Nd.map f)
  | [] => rfl
  | x :: xs => by rw [Nd.maps, Nd.maps_map f xs]; rfl
def zeroC : List AV := [.int .i64 0, .int .i64 0, .str [], .int .i64 0, .int .i64 0, .bool false, .bool false, .int .i64 0, .int .i64 0, .bool false, .bool false, .sl .full []]
def rowAt (f : Nd → Nd) (ks : List Nd) (z : List AV) (i : Nat) : List AV := (((ks.take i).map fun x => (Nd.map f x).av).flatMap AV.cells) ++ (List.replicate (ks.length - i) z).flatten
theorem rowAt_pre (f : Nd → Nd) (ks : List Nd) (i : Nat) : (((ks.take i).map fun x => (Nd.map f x).av).flatMap AV.cells).length = (ks.take i).length * 12 := by
  rw [lens_flat (s := 12)]
  · simp
  · intro x hx
    obtain ⟨y, _, rfl⟩ := List.mem_map.1 hx
    exact Nd.av_len _
theorem rowAt_len (f : Nd → Nd) (ks : List Nd) {z : List AV} (hz : z.length = 12) {i : Nat} (hi : i ≤ ks.length) : (rowAt f ks z i).length = ks.length * 12 := by
  unfold rowAt
  rw [List.length_append, rowAt_pre, flatten_len, hz, List.length_take, ← Nat.add_mul]
  congr 1
  omega
theorem rowAt_step (f : Nd → Nd) (ks : List Nd) {z : List AV} (hz : z.length = 12) {i : Nat} {x : Nd} (hx : ks[i]? = some x) :
    ((rowAt f ks z i).take (i * 12) ++ (Nd.map f x).av.cells) ++ (rowAt f ks z i).drop (i * 12 + 12) = rowAt f ks z (i + 1) := by
  rw [List.append_assoc]
  have hlt : i < ks.length := (List.getElem?_eq_some_iff.1 hx).1
  have hp := rowAt_pre f ks i
  rw [List.length_take, Nat.min_eq_left (by omega)] at hp
  have ht : ks.take (i + 1) = ks.take i ++ [x] := by rw [List.take_add_one, hx]; rfl
  have hr : ks.length - i = (ks.length - (i + 1)) + 1 := by omega
  unfold rowAt
  rw [ht, hr, List.replicate_succ, List.flatten_cons, List.map_append, List.flatMap_append]
  generalize (((ks.take i).map fun x => (Nd.map f x).av).flatMap AV.cells) = P at *
  generalize (List.replicate (ks.length - (i + 1)) z).flatten = R
  have e1 : (P ++ (z ++ R)).take (i * 12) = P := by rw [← hp]; simp
  have e2 : (P ++ (z ++ R)).drop (i * 12 + 12) = R := by
    rw [← List.drop_drop, ← hp, List.drop_left, ← hz, List.drop_left]
  rw [e1, e2]
  simp
theorem rowAt_end (f : Nd → Nd) (ks : List Nd) (z : List AV) : rowAt f ks z ks.length = (ks.map fun x => (Nd.map f x).av).flatMap AV.cells := by
  unfold rowAt
  rw [List.take_length, Nat.sub_self]
  simp
theorem rowAt_zero (f : Nd → Nd) (ks : List Nd) (z : List AV) : rowAt f ks z 0 = (List.replicate ks.length z).flatten := by
  unfold rowAt
  simp
end Go.A
namespace Go.A
open Go.Proofs Go.Lib
set_option maxRecDepth 100000
set_option linter.unusedSimpArgs false
set_option linter.unusedVariables false
structure Rc where
  row : Int
  col : Int
  rows : Int
  cols : Int
  deriving DecidableEq, Inhabited
theorem good_near {r : Ref} (h : r.good = true) : r.near := by
  simp only [Ref.good, decide_eq_true_eq] at h
  unfold Ref.near
  omega
end Go.A
namespace Go.A
open Go.Proofs
/-! 20: (tabular/shift.Edit).Good -/
def c20_0 : ACode := .ops [
 ⟨some 2, none, .e (.box (.t 0)), []⟩,
 ⟨some 4, none, .q (.mv (.v (.bool false))), []⟩]
def c20_1 : ACode := .ops [
 ⟨some 5, none, .q (.fa 2 (.t 2)), []⟩,
 ⟨some 6, none, .q (.ld none (.t 5)), []⟩,
 ⟨some 7, none, .q (.bin .lss (.t 6) (.v (.int .i64 0))), []⟩,
 ⟨some 8, none, .q (.mv (.t 7)), []⟩,
 ⟨some 9, some (8, false), .q (.fa 3 (.t 2)), []⟩,
 ⟨some 10, some (8, false), .q (.ld none (.t 9)), []⟩,
 ⟨some 11, some (8, false), .q (.bin .lss (.t 10) (.v (.int .i64 1))), []⟩,
 ⟨some 12, none, .q (.pick (.t 8) (.v (.bool true)) (.t 11)), []⟩,
 ⟨some 13, none, .q (.mv (.t 12)), []⟩,
 ⟨some 14, some (13, false), .q (.mv (.t 1)), []⟩,
 ⟨some 15, some (13, false), .q (.bin .lss (.t 14) (.v (.int .i64 0))), []⟩,
 ⟨some 16, none, .q (.pick (.t 13) (.v (.bool true)) (.t 15)), []⟩,
 ⟨some 17, none, .q (.mv (.t 16)), []⟩,
 ⟨some 18, some (17, false), .q (.mv (.t 1)), []⟩,
 ⟨some 19, some (17, false), .q (.ld (some 5) (.t 2)), []⟩,
 ⟨some 20, some (17, false), .e (.call 43 [(.t 19)]), []⟩,
 ⟨some 21, some (17, false), .q (.bin .gtr (.t 18) (.t 20)), []⟩,
 ⟨some 22, none, .q (.pick (.t 17) (.v (.bool true)) (.t 21)), []⟩]
def c20_2 : ACode := .ops [
 ⟨some 4, none, .q (.mv (.v (.bool false))), []⟩]
def c20_3 : ACode := .seq c20_2 .ret
def c20_4 : ACode := .cond (.t 22) c20_3 .skip
def c20_5 : ACode := .seq c20_1 c20_4
def c20_6 : ACode := .ops [
 ⟨some 23, none, .q (.fa 1 (.t 2)), []⟩,
 ⟨some 24, none, .q (.ld none (.t 23)), []⟩]
def c20_7 : ACode := .ops [
 ⟨some 26, none, .q (.bin .eql (.t 24) (.v (.int .i64 1))), []⟩,
 ⟨some 25, none, .q (.mv (.t 26)), []⟩]
def c20_8 : ACode := .ops [
 ⟨some 27, none, .q (.fa 2 (.t 2)), []⟩,
 ⟨some 28, none, .q (.ld none (.t 27)), []⟩,
 ⟨some 29, none, .q (.mv (.t 1)), []⟩,
 ⟨some 30, none, .q (.bin .leq (.t 28) (.t 29)), []⟩,
 ⟨some 31, none, .q (.mv (.t 30)), []⟩,
 ⟨some 32, some (31, true), .q (.fa 3 (.t 2)), []⟩,
 ⟨some 33, some (31, true), .q (.ld none (.t 32)), []⟩,
 ⟨some 34, some (31, true), .q (.ld (some 5) (.t 2)), []⟩,
 ⟨some 36, some (31, true), .q (.mv (.t 1)), []⟩,
 ⟨some 35, some (31, true), .e (.call 43 [(.t 34)]), [⟨(some (31, true)), .ld none (.t 32), 33⟩]⟩,
 ⟨some 37, some (31, true), .q (.bin .sub (.t 35) (.t 36)), []⟩,
 ⟨some 38, some (31, true), .q (.bin .leq (.t 33) (.t 37)), []⟩,
 ⟨some 39, none, .q (.pick (.t 31) (.t 38) (.v (.bool false))), []⟩,
 ⟨some 4, none, .q (.mv (.t 39)), []⟩]
def c20_9 : ACode := .seq c20_8 .ret
def c20_10 : ACode := .ops [
 ⟨some 41, none, .q (.bin .eql (.t 24) (.v (.int .i64 2))), []⟩,
 ⟨some 40, none, .q (.mv (.t 41)), []⟩]
def c20_11 : ACode := .ops [
 ⟨some 42, none, .q (.fa 3 (.t 2)), []⟩,
 ⟨some 43, none, .q (.ld none (.t 42)), []⟩,
 ⟨some 44, none, .q (.mv (.t 1)), []⟩,
 ⟨some 45, none, .q (.bin .lss (.t 43) (.t 44)), []⟩,
 ⟨some 46, none, .q (.mv (.t 45)), []⟩,
 ⟨some 47, some (46, true), .q (.fa 2 (.t 2)), []⟩,
 ⟨some 48, some (46, true), .q (.ld none (.t 47)), []⟩,
 ⟨some 49, some (46, true), .q (.mv (.t 1)), []⟩,
 ⟨some 50, some (46, true), .q (.fa 3 (.t 2)), []⟩,
 ⟨some 51, some (46, true), .q (.ld none (.t 50)), []⟩,
 ⟨some 52, some (46, true), .q (.bin .sub (.t 49) (.t 51)), []⟩,
 ⟨some 53, some (46, true), .q (.bin .leq (.t 48) (.t 52)), []⟩,
 ⟨some 54, none, .q (.pick (.t 46) (.t 53) (.v (.bool false))), []⟩,
 ⟨some 4, none, .q (.mv (.t 54)), []⟩]
def c20_12 : ACode := .seq c20_11 .ret
def c20_13 : ACode := .ops [
 ⟨some 56, none, .q (.bin .eql (.t 24) (.v (.int .i64 3))), []⟩,
 ⟨some 55, none, .q (.mv (.t 56)), []⟩]
def c20_14 : ACode := .ops [
 ⟨some 57, none, .q (.fa 3 (.t 2)), []⟩,
 ⟨some 58, none, .q (.ld none (.t 57)), []⟩,
 ⟨some 59, none, .q (.mv (.t 1)), []⟩,
 ⟨some 60, none, .q (.bin .leq (.t 58) (.t 59)), []⟩,
 ⟨some 61, none, .q (.mv (.t 60)), []⟩,
 ⟨some 62, some (61, true), .q (.fa 2 (.t 2)), []⟩,
 ⟨some 63, some (61, true), .q (.ld none (.t 62)), []⟩,
 ⟨some 64, some (61, true), .q (.mv (.t 1)), []⟩,
 ⟨some 65, some (61, true), .q (.fa 3 (.t 2)), []⟩,
 ⟨some 66, some (61, true), .q (.ld none (.t 65)), []⟩,
 ⟨some 67, some (61, true), .q (.bin .sub (.t 64) (.t 66)), []⟩,
 ⟨some 68, some (61, true), .q (.bin .leq (.t 63) (.t 67)), []⟩,
 ⟨some 69, none, .q (.pick (.t 61) (.t 68) (.v (.bool false))), []⟩,
 ⟨some 70, none, .q (.mv (.t 69)), []⟩,
 ⟨some 71, some (70, true), .q (.fa 4 (.t 2)), []⟩,
 ⟨some 72, some (70, true), .q (.ld none (.t 71)), []⟩,
 ⟨some 73, some (70, true), .q (.bin .geq (.t 72) (.v (.int .i64 0))), []⟩,
 ⟨some 74, none, .q (.pick (.t 70) (.t 73) (.v (.bool false))), []⟩,
 ⟨some 75, none, .q (.mv (.t 74)), []⟩,
 ⟨some 76, some (75, true), .q (.fa 4 (.t 2)), []⟩,
 ⟨some 77, some (75, true), .q (.ld none (.t 76)), []⟩,
 ⟨some 78, some (75, true), .q (.mv (.t 1)), []⟩,
 ⟨some 79, some (75, true), .q (.fa 3 (.t 2)), []⟩,
 ⟨some 80, some (75, true), .q (.ld none (.t 79)), []⟩,
 ⟨some 81, some (75, true), .q (.bin .sub (.t 78) (.t 80)), []⟩,
 ⟨some 82, some (75, true), .q (.bin .leq (.t 77) (.t 81)), []⟩,
 ⟨some 83, none, .q (.pick (.t 75) (.t 82) (.v (.bool false))), []⟩,
 ⟨some 4, none, .q (.mv (.t 83)), []⟩]
def c20_15 : ACode := .seq c20_14 .ret
def c20_16 : ACode := .cond (.t 55) c20_15 .skip
def c20_17 : ACode := .seq c20_13 c20_16
def c20_18 : ACode := .cond (.t 40) c20_12 c20_17
def c20_19 : ACode := .seq c20_10 c20_18
def c20_20 : ACode := .cond (.t 25) c20_9 c20_19
def c20_21 : ACode := .seq c20_7 c20_20
def c20_22 : ACode := .block 0 c20_21
def c20_23 : ACode := .seq c20_6 c20_22
def c20_24 : ACode := .ops [
 ⟨some 4, none, .q (.mv (.v (.bool false))), []⟩]
def c20_25 : ACode := .seq c20_24 .ret
def c20_26 : ACode := .seq c20_23 c20_25
def c20_27 : ACode := .seq c20_5 c20_26
def c20_28 : ACode := .seq c20_0 c20_27
@[go_sem] theorem c20_0_wp : type_of% (wp_of c20_0.eq_1) := wp_of c20_0.eq_1
@[go_sem] theorem c20_1_wp : type_of% (wp_of c20_1.eq_1) := wp_of c20_1.eq_1
@[go_sem] theorem c20_2_wp : type_of% (wp_of c20_2.eq_1) := wp_of c20_2.eq_1
@[go_sem] theorem c20_3_wp : type_of% (wp_of c20_3.eq_1) := wp_of c20_3.eq_1
@[go_sem] theorem c20_4_wp : type_of% (wp_of c20_4.eq_1) := wp_of c20_4.eq_1
@[go_sem] theorem c20_5_wp : type_of% (wp_of c20_5.eq_1) := wp_of c20_5.eq_1
@[go_sem] theorem c20_6_wp : type_of% (wp_of c20_6.eq_1) := wp_of c20_6.eq_1
@[go_sem] theorem c20_7_wp : type_of% (wp_of c20_7.eq_1) := wp_of c20_7.eq_1
@[go_sem] theorem c20_8_wp : type_of% (wp_of c20_8.eq_1) := wp_of c20_8.eq_1
@[go_sem] theorem c20_9_wp : type_of% (wp_of c20_9.eq_1) := wp_of c20_9.eq_1
@[go_sem] theorem c20_10_wp : type_of% (wp_of c20_10.eq_1) := wp_of c20_10.eq_1
@[go_sem] theorem c20_11_wp : type_of% (wp_of c20_11.eq_1) := wp_of c20_11.eq_1
@[go_sem] theorem c20_12_wp : type_of% (wp_of c20_12.eq_1) := wp_of c20_12.eq_1
@[go_sem] theorem c20_13_wp : type_of% (wp_of c20_13.eq_1) := wp_of c20_13.eq_1
@[go_sem] theorem c20_14_wp : type_of% (wp_of c20_14.eq_1) := wp_of c20_14.eq_1
@[go_sem] theorem c20_15_wp : type_of% (wp_of c20_15.eq_1) := wp_of c20_15.eq_1
@[go_sem] theorem c20_16_wp : type_of% (wp_of c20_16.eq_1) := wp_of c20_16.eq_1
@[go_sem] theorem c20_17_wp : type_of% (wp_of c20_17.eq_1) := wp_of c20_17.eq_1
@[go_sem] theorem c20_18_wp : type_of% (wp_of c20_18.eq_1) := wp_of c20_18.eq_1
@[go_sem] theorem c20_19_wp : type_of% (wp_of c20_19.eq_1) := wp_of c20_19.eq_1
@[go_sem] theorem c20_20_wp : type_of% (wp_of c20_20.eq_1) := wp_of c20_20.eq_1
@[go_sem] theorem c20_21_wp : type_of% (wp_of c20_21.eq_1) := wp_of c20_21.eq_1
@[go_sem] theorem c20_22_wp : type_of% (wp_of c20_22.eq_1) := wp_of c20_22.eq_1
@[go_sem] theorem c20_23_wp : type_of% (wp_of c20_23.eq_1) := wp_of c20_23.eq_1
@[go_sem] theorem c20_24_wp : type_of% (wp_of c20_24.eq_1) := wp_of c20_24.eq_1
@[go_sem] theorem c20_25_wp : type_of% (wp_of c20_25.eq_1) := wp_of c20_25.eq_1
@[go_sem] theorem c20_26_wp : type_of% (wp_of c20_26.eq_1) := wp_of c20_26.eq_1
@[go_sem] theorem c20_27_wp : type_of% (wp_of c20_27.eq_1) := wp_of c20_27.eq_1
@[go_sem] theorem c20_28_wp : type_of% (wp_of c20_28.eq_1) := wp_of c20_28.eq_1
def c20 : AFn := ⟨84, [.t 4], c20_28⟩
set_option maxRecDepth 100000 in
theorem c20_ok : compF Tryz.prog Tryz.f20 = some c20 := by kernel_rfl
theorem a20 {args : List AV} {σ : ASt} {R : AV → ASt → Prop} (hl : args.length ≤ 84) (h : c20_28.wp Tryz.prog (RetQ [.t 4] R) (init args) σ) : ACalls Tryz.prog 20 args σ R := acalls_of Tryz.func20 c20_ok hl h
/-! 21: (tabular/shift.Edit).Place -/
def c21_0 : ACode := .ops [
 ⟨some 2, none, .e (.box (.t 0)), []⟩,
 ⟨some 4, none, .q (.mv (.v (.int .i64 0))), []⟩,
 ⟨some 5, none, .q (.mv (.v (.bool false))), []⟩]
def c21_1 : ACode := .ops [
 ⟨some 6, none, .q (.fa 1 (.t 2)), []⟩,
 ⟨some 7, none, .q (.ld none (.t 6)), []⟩]
def c21_2 : ACode := .ops [
 ⟨some 9, none, .q (.bin .eql (.t 7) (.v (.int .i64 1))), []⟩,
 ⟨some 8, none, .q (.mv (.t 9)), []⟩]
def c21_3 : ACode := .ops [
 ⟨some 10, none, .q (.mv (.t 1)), []⟩,
 ⟨some 11, none, .q (.fa 2 (.t 2)), []⟩,
 ⟨some 12, none, .q (.ld none (.t 11)), []⟩,
 ⟨some 13, none, .q (.bin .geq (.t 10) (.t 12)), []⟩]
def c21_4 : ACode := .ops [
 ⟨some 14, none, .q (.mv (.t 1)), []⟩,
 ⟨some 15, none, .q (.fa 3 (.t 2)), []⟩,
 ⟨some 16, none, .q (.ld none (.t 15)), []⟩,
 ⟨some 17, none, .q (.bin .add (.t 14) (.t 16)), []⟩,
 ⟨some 1, none, .q (.mv (.t 17)), []⟩]
def c21_5 : ACode := .cond (.t 13) c21_4 .skip
def c21_6 : ACode := .seq c21_3 c21_5
def c21_7 : ACode := .ops [
 ⟨some 18, none, .q (.mv (.t 1)), []⟩,
 ⟨some 19, none, .q (.mv (.t 1)), []⟩,
 ⟨some 20, none, .q (.ld (some 5) (.t 2)), []⟩,
 ⟨some 21, none, .e (.call 43 [(.t 20)]), []⟩,
 ⟨some 22, none, .q (.bin .lss (.t 19) (.t 21)), []⟩,
 ⟨some 4, none, .q (.mv (.t 18)), []⟩,
 ⟨some 5, none, .q (.mv (.t 22)), []⟩]
def c21_8 : ACode := .seq c21_7 .ret
def c21_9 : ACode := .seq c21_6 c21_8
def c21_10 : ACode := .ops [
 ⟨some 24, none, .q (.bin .eql (.t 7) (.v (.int .i64 2))), []⟩,
 ⟨some 23, none, .q (.mv (.t 24)), []⟩]
def c21_11 : ACode := .ops [
 ⟨some 25, none, .q (.mv (.t 1)), []⟩,
 ⟨some 26, none, .q (.fa 2 (.t 2)), []⟩,
 ⟨some 27, none, .q (.ld none (.t 26)), []⟩,
 ⟨some 28, none, .q (.bin .geq (.t 25) (.t 27)), []⟩,
 ⟨some 29, none, .q (.mv (.t 28)), []⟩,
 ⟨some 30, some (29, true), .q (.mv (.t 1)), []⟩,
 ⟨some 31, some (29, true), .q (.fa 2 (.t 2)), []⟩,
 ⟨some 32, some (29, true), .q (.ld none (.t 31)), []⟩,
 ⟨some 33, some (29, true), .q (.fa 3 (.t 2)), []⟩,
 ⟨some 34, some (29, true), .q (.ld none (.t 33)), []⟩,
 ⟨some 35, some (29, true), .q (.bin .add (.t 32) (.t 34)), []⟩,
 ⟨some 36, some (29, true), .q (.bin .lss (.t 30) (.t 35)), []⟩,
 ⟨some 37, none, .q (.pick (.t 29) (.t 36) (.v (.bool false))), []⟩]
def c21_12 : ACode := .ops [
 ⟨some 4, none, .q (.mv (.v (.int .i64 0))), []⟩,
 ⟨some 5, none, .q (.mv (.v (.bool false))), []⟩]
def c21_13 : ACode := .seq c21_12 .ret
def c21_14 : ACode := .cond (.t 37) c21_13 .skip
def c21_15 : ACode := .seq c21_11 c21_14
def c21_16 : ACode := .ops [
 ⟨some 38, none, .q (.mv (.t 1)), []⟩,
 ⟨some 39, none, .q (.fa 2 (.t 2)), []⟩,
 ⟨some 40, none, .q (.ld none (.t 39)), []⟩,
 ⟨some 41, none, .q (.bin .geq (.t 38) (.t 40)), []⟩]
def c21_17 : ACode := .ops [
 ⟨some 42, none, .q (.mv (.t 1)), []⟩,
 ⟨some 43, none, .q (.fa 3 (.t 2)), []⟩,
 ⟨some 44, none, .q (.ld none (.t 43)), []⟩,
 ⟨some 45, none, .q (.bin .sub (.t 42) (.t 44)), []⟩,
 ⟨some 1, none, .q (.mv (.t 45)), []⟩]
def c21_18 : ACode := .cond (.t 41) c21_17 .skip
def c21_19 : ACode := .seq c21_16 c21_18
def c21_20 : ACode := .ops [
 ⟨some 46, none, .q (.mv (.t 1)), []⟩,
 ⟨some 4, none, .q (.mv (.t 46)), []⟩,
 ⟨some 5, none, .q (.mv (.v (.bool true))), []⟩]
def c21_21 : ACode := .seq c21_20 .ret
def c21_22 : ACode := .seq c21_19 c21_21
def c21_23 : ACode := .seq c21_15 c21_22
def c21_24 : ACode := .cond (.t 23) c21_23 .skip
def c21_25 : ACode := .seq c21_10 c21_24
def c21_26 : ACode := .cond (.t 8) c21_9 c21_25
def c21_27 : ACode := .seq c21_2 c21_26
def c21_28 : ACode := .block 0 c21_27
def c21_29 : ACode := .seq c21_1 c21_28
def c21_30 : ACode := .ops [
 ⟨some 47, none, .q (.mv (.t 1)), []⟩,
 ⟨some 48, none, .q (.fa 2 (.t 2)), []⟩,
 ⟨some 49, none, .q (.ld none (.t 48)), []⟩,
 ⟨some 50, none, .q (.bin .geq (.t 47) (.t 49)), []⟩,
 ⟨some 51, none, .q (.mv (.t 50)), []⟩,
 ⟨some 52, some (51, true), .q (.mv (.t 1)), []⟩,
 ⟨some 53, some (51, true), .q (.fa 2 (.t 2)), []⟩,
 ⟨some 54, some (51, true), .q (.ld none (.t 53)), []⟩,
 ⟨some 55, some (51, true), .q (.fa 3 (.t 2)), []⟩,
 ⟨some 56, some (51, true), .q (.ld none (.t 55)), []⟩,
 ⟨some 57, some (51, true), .q (.bin .add (.t 54) (.t 56)), []⟩,
 ⟨some 58, some (51, true), .q (.bin .lss (.t 52) (.t 57)), []⟩,
 ⟨some 59, none, .q (.pick (.t 51) (.t 58) (.v (.bool false))), []⟩]
def c21_31 : ACode := .ops [
 ⟨some 60, none, .q (.mv (.t 1)), []⟩,
 ⟨some 61, none, .q (.fa 2 (.t 2)), []⟩,
 ⟨some 62, none, .q (.ld none (.t 61)), []⟩,
 ⟨some 63, none, .q (.bin .sub (.t 60) (.t 62)), []⟩,
 ⟨some 64, none, .q (.fa 4 (.t 2)), []⟩,
 ⟨some 65, none, .q (.ld none (.t 64)), []⟩,
 ⟨some 66, none, .q (.bin .add (.t 63) (.t 65)), []⟩,
 ⟨some 4, none, .q (.mv (.t 66)), []⟩,
 ⟨some 5, none, .q (.mv (.v (.bool true))), []⟩]
def c21_32 : ACode := .seq c21_31 .ret
def c21_33 : ACode := .cond (.t 59) c21_32 .skip
def c21_34 : ACode := .seq c21_30 c21_33
def c21_35 : ACode := .ops [
 ⟨some 67, none, .q (.mv (.t 1)), []⟩,
 ⟨some 68, none, .q (.fa 2 (.t 2)), []⟩,
 ⟨some 69, none, .q (.ld none (.t 68)), []⟩,
 ⟨some 70, none, .q (.bin .geq (.t 67) (.t 69)), []⟩]
def c21_36 : ACode := .ops [
 ⟨some 71, none, .q (.mv (.t 1)), []⟩,
 ⟨some 72, none, .q (.fa 3 (.t 2)), []⟩,
 ⟨some 73, none, .q (.ld none (.t 72)), []⟩,
 ⟨some 74, none, .q (.bin .sub (.t 71) (.t 73)), []⟩,
 ⟨some 1, none, .q (.mv (.t 74)), []⟩]
def c21_37 : ACode := .cond (.t 70) c21_36 .skip
def c21_38 : ACode := .seq c21_35 c21_37
def c21_39 : ACode := .ops [
 ⟨some 75, none, .q (.mv (.t 1)), []⟩,
 ⟨some 76, none, .q (.fa 4 (.t 2)), []⟩,
 ⟨some 77, none, .q (.ld none (.t 76)), []⟩,
 ⟨some 78, none, .q (.bin .geq (.t 75) (.t 77)), []⟩]
def c21_40 : ACode := .ops [
 ⟨some 79, none, .q (.mv (.t 1)), []⟩,
 ⟨some 80, none, .q (.fa 3 (.t 2)), []⟩,
 ⟨some 81, none, .q (.ld none (.t 80)), []⟩,
 ⟨some 82, none, .q (.bin .add (.t 79) (.t 81)), []⟩,
 ⟨some 1, none, .q (.mv (.t 82)), []⟩]
def c21_41 : ACode := .cond (.t 78) c21_40 .skip
def c21_42 : ACode := .seq c21_39 c21_41
def c21_43 : ACode := .ops [
 ⟨some 83, none, .q (.mv (.t 1)), []⟩,
 ⟨some 4, none, .q (.mv (.t 83)), []⟩,
 ⟨some 5, none, .q (.mv (.v (.bool true))), []⟩]
def c21_44 : ACode := .seq c21_43 .ret
def c21_45 : ACode := .seq c21_42 c21_44
def c21_46 : ACode := .seq c21_38 c21_45
def c21_47 : ACode := .seq c21_34 c21_46
def c21_48 : ACode := .seq c21_29 c21_47
def c21_49 : ACode := .seq c21_0 c21_48
@[go_sem] theorem c21_0_wp : type_of% (wp_of c21_0.eq_1) := wp_of c21_0.eq_1
@[go_sem] theorem c21_1_wp : type_of% (wp_of c21_1.eq_1) := wp_of c21_1.eq_1
@[go_sem] theorem c21_2_wp : type_of% (wp_of c21_2.eq_1) := wp_of c21_2.eq_1
@[go_sem] theorem c21_3_wp : type_of% (wp_of c21_3.eq_1) := wp_of c21_3.eq_1
@[go_sem] theorem c21_4_wp : type_of% (wp_of c21_4.eq_1) := wp_of c21_4.eq_1
@[go_sem] theorem c21_5_wp : type_of% (wp_of c21_5.eq_1) := wp_of c21_5.eq_1
@[go_sem] theorem c21_6_wp : type_of% (wp_of c21_6.eq_1) := wp_of c21_6.eq_1
@[go_sem] theorem c21_7_wp : type_of% (wp_of c21_7.eq_1) := wp_of c21_7.eq_1
@[go_sem] theorem c21_8_wp : type_of% (wp_of c21_8.eq_1) := wp_of c21_8.eq_1
@[go_sem] theorem c21_9_wp : type_of% (wp_of c21_9.eq_1) := wp_of c21_9.eq_1
@[go_sem] theorem c21_10_wp : type_of% (wp_of c21_10.eq_1) := wp_of c21_10.eq_1
@[go_sem] theorem c21_11_wp : type_of% (wp_of c21_11.eq_1) := wp_of c21_11.eq_1
@[go_sem] theorem c21_12_wp : type_of% (wp_of c21_12.eq_1) := wp_of c21_12.eq_1
@[go_sem] theorem c21_13_wp : type_of% (wp_of c21_13.eq_1) := wp_of c21_13.eq_1
@[go_sem] theorem c21_14_wp : type_of% (wp_of c21_14.eq_1) := wp_of c21_14.eq_1
@[go_sem] theorem c21_15_wp : type_of% (wp_of c21_15.eq_1) := wp_of c21_15.eq_1
@[go_sem] theorem c21_16_wp : type_of% (wp_of c21_16.eq_1) := wp_of c21_16.eq_1
@[go_sem] theorem c21_17_wp : type_of% (wp_of c21_17.eq_1) := wp_of c21_17.eq_1
@[go_sem] theorem c21_18_wp : type_of% (wp_of c21_18.eq_1) := wp_of c21_18.eq_1
@[go_sem] theorem c21_19_wp : type_of% (wp_of c21_19.eq_1) := wp_of c21_19.eq_1
@[go_sem] theorem c21_20_wp : type_of% (wp_of c21_20.eq_1) := wp_of c21_20.eq_1
@[go_sem] theorem c21_21_wp : type_of% (wp_of c21_21.eq_1) := wp_of c21_21.eq_1
@[go_sem] theorem c21_22_wp : type_of% (wp_of c21_22.eq_1) := wp_of c21_22.eq_1
@[go_sem] theorem c21_23_wp : type_of% (wp_of c21_23.eq_1) := wp_of c21_23.eq_1
@[go_sem] theorem c21_24_wp : type_of% (wp_of c21_24.eq_1) := wp_of c21_24.eq_1
@[go_sem] theorem c21_25_wp : type_of% (wp_of c21_25.eq_1) := wp_of c21_25.eq_1
@[go_sem] theorem c21_26_wp : type_of% (wp_of c21_26.eq_1) := wp_of c21_26.eq_1
@[go_sem] theorem c21_27_wp : type_of% (wp_of c21_27.eq_1) := wp_of c21_27.eq_1
@[go_sem] theorem c21_28_wp : type_of% (wp_of c21_28.eq_1) := wp_of c21_28.eq_1
@[go_sem] theorem c21_29_wp : type_of% (wp_of c21_29.eq_1) := wp_of c21_29.eq_1
@[go_sem] theorem c21_30_wp : type_of% (wp_of c21_30.eq_1) := wp_of c21_30.eq_1
@[go_sem] theorem c21_31_wp : type_of% (wp_of c21_31.eq_1) := wp_of c21_31.eq_1
@[go_sem] theorem c21_32_wp : type_of% (wp_of c21_32.eq_1) := wp_of c21_32.eq_1
@[go_sem] theorem c21_33_wp : type_of% (wp_of c21_33.eq_1) := wp_of c21_33.eq_1
@[go_sem] theorem c21_34_wp : type_of% (wp_of c21_34.eq_1) := wp_of c21_34.eq_1
@[go_sem] theorem c21_35_wp : type_of% (wp_of c21_35.eq_1) := wp_of c21_35.eq_1
@[go_sem] theorem c21_36_wp : type_of% (wp_of c21_36.eq_1) := wp_of c21_36.eq_1
@[go_sem] theorem c21_37_wp : type_of% (wp_of c21_37.eq_1) := wp_of c21_37.eq_1
@[go_sem] theorem c21_38_wp : type_of% (wp_of c21_38.eq_1) := wp_of c21_38.eq_1
@[go_sem] theorem c21_39_wp : type_of% (wp_of c21_39.eq_1) := wp_of c21_39.eq_1
@[go_sem] theorem c21_40_wp : type_of% (wp_of c21_40.eq_1) := wp_of c21_40.eq_1
@[go_sem] theorem c21_41_wp : type_of% (wp_of c21_41.eq_1) := wp_of c21_41.eq_1
@[go_sem] theorem c21_42_wp : type_of% (wp_of c21_42.eq_1) := wp_of c21_42.eq_1
@[go_sem] theorem c21_43_wp : type_of% (wp_of c21_43.eq_1) := wp_of c21_43.eq_1
@[go_sem] theorem c21_44_wp : type_of% (wp_of c21_44.eq_1) := wp_of c21_44.eq_1
@[go_sem] theorem c21_45_wp : type_of% (wp_of c21_45.eq_1) := wp_of c21_45.eq_1
@[go_sem] theorem c21_46_wp : type_of% (wp_of c21_46.eq_1) := wp_of c21_46.eq_1
@[go_sem] theorem c21_47_wp : type_of% (wp_of c21_47.eq_1) := wp_of c21_47.eq_1
@[go_sem] theorem c21_48_wp : type_of% (wp_of c21_48.eq_1) := wp_of c21_48.eq_1
@[go_sem] theorem c21_49_wp : type_of% (wp_of c21_49.eq_1) := wp_of c21_49.eq_1
def c21 : AFn := ⟨84, [.t 4, .t 5], c21_49⟩
set_option maxRecDepth 100000 in
theorem c21_ok : compF Tryz.prog Tryz.f21 = some c21 := by kernel_rfl
theorem a21 {args : List AV} {σ : ASt} {R : AV → ASt → Prop} (hl : args.length ≤ 84) (h : c21_49.wp Tryz.prog (RetQ [.t 4, .t 5] R) (init args) σ) : ACalls Tryz.prog 21 args σ R := acalls_of Tryz.func21 c21_ok hl h
/-! 35: tabular/shift.gone -/
def c35_0 : ACode := .ops [
 ⟨some 0, none, .e (.alloc [(.int .i64 0), (.int .i64 0), (.str []), (.int .i64 0), (.int .i64 0), (.bool false), (.bool false), (.int .i64 0), (.int .i64 0), (.bool false), (.bool false), (.sl .full [])]), []⟩]
def c35_1 : ACode := .ops [
 ⟨some 1, none, .q (.build [(.int .i64 0), (.int .i64 0), (.str []), (.int .i64 0), (.int .i64 0), (.bool false), (.bool false), (.int .i64 0), (.int .i64 0), (.bool false), (.bool false), (.sl .full [])] [(0, 1, (.v (.int .i64 4))), (1, 1, (.v (.int .i64 40000)))]), []⟩,
 ⟨none, none, .e (.store 12 (.t 0) (.t 1)), []⟩]
def c35_2 : ACode := .seq c35_1 .ret
def c35_3 : ACode := .seq c35_0 c35_2
@[go_sem] theorem c35_0_wp : type_of% (wp_of c35_0.eq_1) := wp_of c35_0.eq_1
@[go_sem] theorem c35_1_wp : type_of% (wp_of c35_1.eq_1) := wp_of c35_1.eq_1
@[go_sem] theorem c35_2_wp : type_of% (wp_of c35_2.eq_1) := wp_of c35_2.eq_1
@[go_sem] theorem c35_3_wp : type_of% (wp_of c35_3.eq_1) := wp_of c35_3.eq_1
def c35 : AFn := ⟨2, [.c 0 (some 12)], c35_3⟩
set_option maxRecDepth 100000 in
theorem c35_ok : compF Tryz.prog Tryz.f35 = some c35 := by kernel_rfl
theorem a35 {args : List AV} {σ : ASt} {R : AV → ASt → Prop} (hl : args.length ≤ 2) (h : c35_3.wp Tryz.prog (RetQ [.c 0 (some 12)] R) (init args) σ) : ACalls Tryz.prog 35 args σ R := acalls_of Tryz.func35 c35_ok hl h
/-! 43: (tabular/shift.Edit).most -/
def c43_0 : ACode := .ops [
 ⟨some 1, none, .e (.box (.t 0)), []⟩,
 ⟨some 2, none, .q (.mv (.v (.int .i64 0))), []⟩]
def c43_1 : ACode := .ops [
 ⟨some 3, none, .q (.fa 0 (.t 1)), []⟩,
 ⟨some 4, none, .q (.ld none (.t 3)), []⟩]
def c43_2 : ACode := .ops [
 ⟨some 2, none, .q (.mv (.v (.int .i64 700))), []⟩]
def c43_3 : ACode := .seq c43_2 .ret
def c43_4 : ACode := .cond (.t 4) c43_3 .skip
def c43_5 : ACode := .seq c43_1 c43_4
def c43_6 : ACode := .ops [
 ⟨some 2, none, .q (.mv (.v (.int .i64 3000))), []⟩]
def c43_7 : ACode := .seq c43_6 .ret
def c43_8 : ACode := .seq c43_5 c43_7
def c43_9 : ACode := .seq c43_0 c43_8
@[go_sem] theorem c43_0_wp : type_of% (wp_of c43_0.eq_1) := wp_of c43_0.eq_1
@[go_sem] theorem c43_1_wp : type_of% (wp_of c43_1.eq_1) := wp_of c43_1.eq_1
@[go_sem] theorem c43_2_wp : type_of% (wp_of c43_2.eq_1) := wp_of c43_2.eq_1
@[go_sem] theorem c43_3_wp : type_of% (wp_of c43_3.eq_1) := wp_of c43_3.eq_1
@[go_sem] theorem c43_4_wp : type_of% (wp_of c43_4.eq_1) := wp_of c43_4.eq_1
@[go_sem] theorem c43_5_wp : type_of% (wp_of c43_5.eq_1) := wp_of c43_5.eq_1
@[go_sem] theorem c43_6_wp : type_of% (wp_of c43_6.eq_1) := wp_of c43_6.eq_1
@[go_sem] theorem c43_7_wp : type_of% (wp_of c43_7.eq_1) := wp_of c43_7.eq_1
@[go_sem] theorem c43_8_wp : type_of% (wp_of c43_8.eq_1) := wp_of c43_8.eq_1
@[go_sem] theorem c43_9_wp : type_of% (wp_of c43_9.eq_1) := wp_of c43_9.eq_1
def c43 : AFn := ⟨5, [.t 2], c43_9⟩
set_option maxRecDepth 100000 in
theorem c43_ok : compF Tryz.prog Tryz.f43 = some c43 := by kernel_rfl
theorem a43 {args : List AV} {σ : ASt} {R : AV → ASt → Prop} (hl : args.length ≤ 5) (h : c43_9.wp Tryz.prog (RetQ [.t 2] R) (init args) σ) : ACalls Tryz.prog 43 args σ R := acalls_of Tryz.func43 c43_ok hl h
end Go.A
namespace Go.A
open Go.Proofs Go.Lib
set_option maxRecDepth 100000
set_option linter.unusedSimpArgs false
set_option linter.unusedVariables false
structure Edt where
  cols : Bool
  kind : Int
  at' : Int
  n : Int
  dst : Int
def Edt.cs (e : Edt) : List AV := [.bool e.cols, .int .i64 e.kind, .int .i64 e.at', .int .i64 e.n, .int .i64 e.dst]
def Edt.av (e : Edt) : AV := .agg e.cs
section
variable {e : Edt}
@[go_sem] theorem ed_0 : e.cs[0]? = some (.bool e.cols) := id rfl
@[go_sem] theorem ed_1 : e.cs[1]? = some (.int .i64 e.kind) := id rfl
@[go_sem] theorem ed_2 : e.cs[2]? = some (.int .i64 e.at') := id rfl
@[go_sem] theorem ed_3 : e.cs[3]? = some (.int .i64 e.n) := id rfl
@[go_sem] theorem ed_4 : e.cs[4]? = some (.int .i64 e.dst) := id rfl
@[go_sem] theorem ed_len : e.cs.length = 5 := id rfl
@[go_sem] theorem ed_take : e.cs.take 5 = e.cs := id rfl
end
def Edt.most (e : Edt) : Int := if e.cols = true then 700 else 3000
def Edt.good (e : Edt) (c : Int) : Bool :=
  if e.at' < 0 ∨ e.n < 1 ∨ c < 0 ∨ e.most < c then false
  else if e.kind = 1 then decide (e.at' ≤ c ∧ e.n ≤ e.most - c)
  else if e.kind = 2 then decide (e.n < c ∧ e.at' ≤ c - e.n)
  else if e.kind = 3 then decide (e.n ≤ c ∧ e.at' ≤ c - e.n ∧ 0 ≤ e.dst ∧ e.dst ≤ c - e.n)
  else false
def ahead (p : Int) (d i : Int) : Int := if p ≤ i then i + d else i
def Edt.place (e : Edt) (i : Int) : Int × Bool :=
  if e.kind = 1 then (ahead e.at' e.n i, decide (ahead e.at' e.n i < e.most))
  else if e.at' ≤ i ∧ i < e.at' + e.n then (if e.kind = 2 then (0, false) else (i - e.at' + e.dst, true))
  else if e.kind = 2 then (ahead e.at' (-e.n) i, true)
  else (ahead e.dst e.n (ahead e.at' (-e.n) i), true)
structure Edt.fit (e : Edt) : Prop where
  a0 : 0 ≤ e.at'
  a1 : e.at' ≤ 3000
  n0 : 0 ≤ e.n
  n1 : e.n ≤ 3000
  t : e.kind ≠ 1 → e.kind ≠ 2 → 0 ≤ e.dst ∧ e.dst ≤ 3000
theorem Edt.good_fit {e : Edt} {c : Int} (h : e.good c = true) : e.fit := by
  unfold Edt.good at h
  split at h
  · cases h
  rename_i h0
  have hm : e.most ≤ 3000 := by unfold Edt.most; split <;> omega
  split at h
  · have := of_decide_eq_true h
    exact ⟨by omega, by omega, by omega, by omega, by omega⟩
  split at h
  · have := of_decide_eq_true h
    exact ⟨by omega, by omega, by omega, by omega, by omega⟩
  split at h
  · have := of_decide_eq_true h
    exact ⟨by omega, by omega, by omega, by omega, by omega⟩
  · cases h
theorem shmost_ok (e : Edt) : Pure Tryz.prog 43 [e.av] (.int .i64 e.most) := by
  intro σ
  obtain ⟨q, hq⟩ : ∃ q, e.most = q := ⟨_, rfl⟩
  rw [hq]
  unfold Edt.most at hq
  unfold Edt.av
  refine a43 (by simp) ?_
  simp (disch := first | assumption | omega | (simp only [List.length_append, List.length_cons, List.length_nil]; omega)) only [go_sem]
  refine boxC_by rfl fun c hc => ?_
  cases hb : e.cols with
  | true =>
    rw [if_pos hb] at hq
    subst hq
    simp (disch := first | assumption | omega | (simp only [List.length_append, List.length_cons, List.length_nil]; omega)) only [go_sem, Nat.reduceEqDiff, ↓reduceIte, hb]
    exact retC_by (Drop.set hc) (.refl _) ⟨rfl, rfl⟩
  | false =>
    rw [if_neg (by simp [hb])] at hq
    subst hq
    simp (disch := first | assumption | omega | (simp only [List.length_append, List.length_cons, List.length_nil]; omega)) only [go_sem, Nat.reduceEqDiff, ↓reduceIte, hb]
    exact retC_by (Drop.set hc) (.refl _) ⟨rfl, rfl⟩
theorem most_rng (e : Edt) : 700 ≤ e.most ∧ e.most ≤ 3000 := by unfold Edt.most; split <;> omega
theorem shgood_ok (e : Edt) (c : Int) : Pure Tryz.prog 20 [e.av, .int .i64 c] (.bool (e.good c)) := by
  intro σ
  have hm := shmost_ok e
  have hr := most_rng e
  obtain ⟨q, hq⟩ : ∃ q, e.good c = q := ⟨_, rfl⟩
  rw [hq]
  unfold Edt.good at hq
  generalize e.most = M at *
  unfold Edt.av at hm ⊢
  refine a20 (by simp) ?_
  simp (disch := first | assumption | omega | (simp only [List.length_append, List.length_cons, List.length_nil]; omega)) only [go_sem]
  refine boxC_by rfl fun b hb => ?_
  by_cases h1 : e.at' < 0
  · rw [if_pos (by omega)] at hq
    subst hq
    simp (disch := first | assumption | omega | (simp only [List.length_append, List.length_cons, List.length_nil]; omega)) only [go_sem, Nat.reduceEqDiff, ↓reduceIte, h1]
    exact retC_by (Drop.set hb) (.refl _) ⟨rfl, rfl⟩
  by_cases h2 : e.n < 1
  · rw [if_pos (by omega)] at hq
    subst hq
    simp (disch := first | assumption | omega | (simp only [List.length_append, List.length_cons, List.length_nil]; omega)) only [go_sem, Nat.reduceEqDiff, ↓reduceIte, h1, h2]
    exact retC_by (Drop.set hb) (.refl _) ⟨rfl, rfl⟩
  by_cases h3 : c < 0
  · rw [if_pos (by omega)] at hq
    subst hq
    simp (disch := first | assumption | omega | (simp only [List.length_append, List.length_cons, List.length_nil]; omega)) only [go_sem, Nat.reduceEqDiff, ↓reduceIte, h1, h2, h3]
    exact retC_by (Drop.set hb) (.refl _) ⟨rfl, rfl⟩
  by_cases h4 : M < c
  · rw [if_pos (by omega)] at hq
    subst hq
    simp (disch := first | assumption | omega | (simp only [List.length_append, List.length_cons, List.length_nil]; omega)) only [go_sem, Nat.reduceEqDiff, Nat.reduceLeDiff, ↓reduceIte, h1, h2, h3]
    refine hm.use ?_
    simp (disch := first | assumption | omega | (simp only [List.length_append, List.length_cons, List.length_nil]; omega)) only [go_sem, Nat.reduceEqDiff, ↓reduceIte, h4]
    exact retC_by (Drop.set hb) (.refl _) ⟨rfl, rfl⟩
  rw [if_neg (by omega)] at hq
  by_cases k1 : e.kind = 1
  · rw [if_pos k1] at hq
    by_cases g1 : e.at' ≤ c
    · by_cases g2 : e.n ≤ M - c
      · rw [decide_eq_true ⟨g1, g2⟩] at hq
        subst hq
        simp (disch := first | assumption | omega | (simp only [List.length_append, List.length_cons, List.length_nil]; omega)) only [go_sem, Nat.reduceEqDiff, Nat.reduceLeDiff, ↓reduceIte, h1, h2, h3]
        refine hm.use ?_
        simp (disch := first | assumption | omega | (simp only [List.length_append, List.length_cons, List.length_nil]; omega)) only [go_sem, Nat.reduceEqDiff, Nat.reduceLeDiff, ↓reduceIte, h4, k1, g1]
        refine hm.use ?_
        simp (disch := first | assumption | omega | (simp only [List.length_append, List.length_cons, List.length_nil]; omega)) only [go_sem, Nat.reduceEqDiff, ↓reduceIte, forall_const, g2]
        exact retC_by (Drop.set hb) (.refl _) ⟨rfl, rfl⟩
      · rw [decide_eq_false (fun h => g2 h.2)] at hq
        subst hq
        simp (disch := first | assumption | omega | (simp only [List.length_append, List.length_cons, List.length_nil]; omega)) only [go_sem, Nat.reduceEqDiff, Nat.reduceLeDiff, ↓reduceIte, h1, h2, h3]
        refine hm.use ?_
        simp (disch := first | assumption | omega | (simp only [List.length_append, List.length_cons, List.length_nil]; omega)) only [go_sem, Nat.reduceEqDiff, Nat.reduceLeDiff, ↓reduceIte, h4, k1, g1]
        refine hm.use ?_
        simp (disch := first | assumption | omega | (simp only [List.length_append, List.length_cons, List.length_nil]; omega)) only [go_sem, Nat.reduceEqDiff, ↓reduceIte, forall_const, g2]
        exact retC_by (Drop.set hb) (.refl _) ⟨rfl, rfl⟩
    · rw [decide_eq_false (fun h => g1 h.1)] at hq
      subst hq
      simp (disch := first | assumption | omega | (simp only [List.length_append, List.length_cons, List.length_nil]; omega)) only [go_sem, Nat.reduceEqDiff, Nat.reduceLeDiff, ↓reduceIte, h1, h2, h3]
      refine hm.use ?_
      simp (disch := first | assumption | omega | (simp only [List.length_append, List.length_cons, List.length_nil]; omega)) only [go_sem, Nat.reduceEqDiff, ↓reduceIte, h4, k1, g1]
      exact retC_by (Drop.set hb) (.refl _) ⟨rfl, rfl⟩
  rw [if_neg k1] at hq
  by_cases k2 : e.kind = 2
  · rw [if_pos k2] at hq
    by_cases g1 : e.n < c
    · by_cases g2 : e.at' ≤ c - e.n
      · rw [decide_eq_true ⟨g1, g2⟩] at hq
        subst hq
        simp (disch := first | assumption | omega | (simp only [List.length_append, List.length_cons, List.length_nil]; omega)) only [go_sem, Nat.reduceEqDiff, Nat.reduceLeDiff, ↓reduceIte, h1, h2, h3]
        refine hm.use ?_
        simp (disch := first | assumption | omega | (simp only [List.length_append, List.length_cons, List.length_nil]; omega)) only [go_sem, Nat.reduceEqDiff, Int.reduceEq, ↓reduceIte, h4, k2, g1, g2]
        exact retC_by (Drop.set hb) (.refl _) ⟨rfl, rfl⟩
      · rw [decide_eq_false (fun h => g2 h.2)] at hq
        subst hq
        simp (disch := first | assumption | omega | (simp only [List.length_append, List.length_cons, List.length_nil]; omega)) only [go_sem, Nat.reduceEqDiff, Nat.reduceLeDiff, ↓reduceIte, h1, h2, h3]
        refine hm.use ?_
        simp (disch := first | assumption | omega | (simp only [List.length_append, List.length_cons, List.length_nil]; omega)) only [go_sem, Nat.reduceEqDiff, Int.reduceEq, ↓reduceIte, h4, k2, g1, g2]
        exact retC_by (Drop.set hb) (.refl _) ⟨rfl, rfl⟩
    · rw [decide_eq_false (fun h => g1 h.1)] at hq
      subst hq
      simp (disch := first | assumption | omega | (simp only [List.length_append, List.length_cons, List.length_nil]; omega)) only [go_sem, Nat.reduceEqDiff, Nat.reduceLeDiff, ↓reduceIte, h1, h2, h3]
      refine hm.use ?_
      simp (disch := first | assumption | omega | (simp only [List.length_append, List.length_cons, List.length_nil]; omega)) only [go_sem, Nat.reduceEqDiff, Int.reduceEq, ↓reduceIte, h4, k2, g1]
      exact retC_by (Drop.set hb) (.refl _) ⟨rfl, rfl⟩
  rw [if_neg k2] at hq
  by_cases k3 : e.kind = 3
  · rw [if_pos k3] at hq
    by_cases g1 : e.n ≤ c
    · by_cases g2 : e.at' ≤ c - e.n
      · by_cases g3 : 0 ≤ e.dst
        · by_cases g4 : e.dst ≤ c - e.n
          · rw [decide_eq_true ⟨g1, g2, g3, g4⟩] at hq
            subst hq
            simp (disch := first | assumption | omega | (simp only [List.length_append, List.length_cons, List.length_nil]; omega)) only [go_sem, Nat.reduceEqDiff, Nat.reduceLeDiff, ↓reduceIte, h1, h2, h3]
            refine hm.use ?_
            simp (disch := first | assumption | omega | (simp only [List.length_append, List.length_cons, List.length_nil]; omega)) only [go_sem, Nat.reduceEqDiff, Int.reduceEq, ↓reduceIte, h4, k3, g1, g2, g3, g4]
            exact retC_by (Drop.set hb) (.refl _) ⟨rfl, rfl⟩
          · rw [decide_eq_false (fun h => g4 h.2.2.2)] at hq
            subst hq
            simp (disch := first | assumption | omega | (simp only [List.length_append, List.length_cons, List.length_nil]; omega)) only [go_sem, Nat.reduceEqDiff, Nat.reduceLeDiff, ↓reduceIte, h1, h2, h3]
            refine hm.use ?_
            simp (disch := first | assumption | omega | (simp only [List.length_append, List.length_cons, List.length_nil]; omega)) only [go_sem, Nat.reduceEqDiff, Int.reduceEq, ↓reduceIte, h4, k3, g1, g2, g3, g4]
            exact retC_by (Drop.set hb) (.refl _) ⟨rfl, rfl⟩
        · rw [decide_eq_false (fun h => g3 h.2.2.1)] at hq
          subst hq
          simp (disch := first | assumption | omega | (simp only [List.length_append, List.length_cons, List.length_nil]; omega)) only [go_sem, Nat.reduceEqDiff, Nat.reduceLeDiff, ↓reduceIte, h1, h2, h3]
          refine hm.use ?_
          simp (disch := first | assumption | omega | (simp only [List.length_append, List.length_cons, List.length_nil]; omega)) only [go_sem, Nat.reduceEqDiff, Int.reduceEq, ↓reduceIte, h4, k3, g1, g2, g3]
          exact retC_by (Drop.set hb) (.refl _) ⟨rfl, rfl⟩
      · rw [decide_eq_false (fun h => g2 h.2.1)] at hq
        subst hq
        simp (disch := first | assumption | omega | (simp only [List.length_append, List.length_cons, List.length_nil]; omega)) only [go_sem, Nat.reduceEqDiff, Nat.reduceLeDiff, ↓reduceIte, h1, h2, h3]
        refine hm.use ?_
        simp (disch := first | assumption | omega | (simp only [List.length_append, List.length_cons, List.length_nil]; omega)) only [go_sem, Nat.reduceEqDiff, Int.reduceEq, ↓reduceIte, h4, k3, g1, g2]
        exact retC_by (Drop.set hb) (.refl _) ⟨rfl, rfl⟩
    · rw [decide_eq_false (fun h => g1 h.1)] at hq
      subst hq
      simp (disch := first | assumption | omega | (simp only [List.length_append, List.length_cons, List.length_nil]; omega)) only [go_sem, Nat.reduceEqDiff, Nat.reduceLeDiff, ↓reduceIte, h1, h2, h3]
      refine hm.use ?_
      simp (disch := first | assumption | omega | (simp only [List.length_append, List.length_cons, List.length_nil]; omega)) only [go_sem, Nat.reduceEqDiff, Int.reduceEq, ↓reduceIte, h4, k3, g1]
      exact retC_by (Drop.set hb) (.refl _) ⟨rfl, rfl⟩
  · rw [if_neg k3] at hq
    subst hq
    simp (disch := first | assumption | omega | (simp only [List.length_append, List.length_cons, List.length_nil]; omega)) only [go_sem, Nat.reduceEqDiff, Nat.reduceLeDiff, ↓reduceIte, h1, h2, h3]
    refine hm.use ?_
    simp (disch := first | assumption | omega | (simp only [List.length_append, List.length_cons, List.length_nil]; omega)) only [go_sem, Nat.reduceEqDiff, ↓reduceIte, h4, k1, k2, k3]
    exact retC_by (Drop.set hb) (.refl _) ⟨rfl, rfl⟩
theorem shplace_ok (e : Edt) (he : e.fit) (i : Int) (h0 : 0 ≤ i) (h1 : i ≤ 10000) : Pure Tryz.prog 21 [e.av, .int .i64 i] (.tuple [.int .i64 (e.place i).1, .bool (e.place i).2]) := by
  intro σ
  have hm := shmost_ok e
  have hr := most_rng e
  obtain ⟨a0, a1, n0, n1, ht⟩ := he
  obtain ⟨q, hq⟩ : ∃ q, e.place i = q := ⟨_, rfl⟩
  rw [hq]
  unfold Edt.place ahead at hq
  generalize e.most = M at *
  unfold Edt.av at hm ⊢
  refine a21 (by simp) ?_
  simp (disch := first | assumption | omega | (simp only [List.length_append, List.length_cons, List.length_nil]; omega)) only [go_sem]
  refine boxC_by rfl fun b hb => ?_
  by_cases k1 : e.kind = 1
  · rw [if_pos k1] at hq
    by_cases g1 : e.at' ≤ i
    · rw [if_pos g1] at hq
      subst hq
      simp (disch := first | assumption | omega | (simp only [List.length_append, List.length_cons, List.length_nil]; omega)) only [go_sem, Nat.reduceEqDiff, Nat.reduceLeDiff, ↓reduceIte, k1, g1]
      refine hm.use ?_
      simp (disch := first | assumption | omega | (simp only [List.length_append, List.length_cons, List.length_nil]; omega)) only [go_sem, Nat.reduceEqDiff, ↓reduceIte]
      exact retC_by (Drop.set hb) (.refl _) ⟨rfl, rfl⟩
    · rw [if_neg g1] at hq
      subst hq
      simp (disch := first | assumption | omega | (simp only [List.length_append, List.length_cons, List.length_nil]; omega)) only [go_sem, Nat.reduceEqDiff, Nat.reduceLeDiff, ↓reduceIte, k1, g1]
      refine hm.use ?_
      simp (disch := first | assumption | omega | (simp only [List.length_append, List.length_cons, List.length_nil]; omega)) only [go_sem, Nat.reduceEqDiff, ↓reduceIte]
      exact retC_by (Drop.set hb) (.refl _) ⟨rfl, rfl⟩
  rw [if_neg k1] at hq
  by_cases k2 : e.kind = 2
  · rw [if_pos k2, if_pos k2] at hq
    by_cases g1 : e.at' ≤ i
    · by_cases g2 : i < e.at' + e.n
      · rw [if_pos ⟨g1, g2⟩] at hq
        subst hq
        simp (disch := first | assumption | omega | (simp only [List.length_append, List.length_cons, List.length_nil]; omega)) only [go_sem, Nat.reduceEqDiff, Int.reduceEq, ↓reduceIte, k2, g1, g2]
        exact retC_by (Drop.set hb) (.refl _) ⟨rfl, rfl⟩
      · rw [if_neg (fun h => g2 h.2), if_pos g1] at hq
        subst hq
        simp (disch := first | assumption | omega | (simp only [List.length_append, List.length_cons, List.length_nil]; omega)) only [go_sem, Nat.reduceEqDiff, Int.reduceEq, ↓reduceIte, k2, g1, g2]
        exact retC_by (Drop.set hb) (.refl _) ⟨rfl, rfl⟩
    · rw [if_neg (fun h => g1 h.1), if_neg g1] at hq
      subst hq
      simp (disch := first | assumption | omega | (simp only [List.length_append, List.length_cons, List.length_nil]; omega)) only [go_sem, Nat.reduceEqDiff, Int.reduceEq, ↓reduceIte, k2, g1]
      exact retC_by (Drop.set hb) (.refl _) ⟨rfl, rfl⟩
  rw [if_neg k2, if_neg k2] at hq
  have ht := ht k1 k2
  by_cases g1 : e.at' ≤ i
  · by_cases g2 : i < e.at' + e.n
    · rw [if_pos ⟨g1, g2⟩] at hq
      subst hq
      simp (disch := first | assumption | omega | (simp only [List.length_append, List.length_cons, List.length_nil]; omega)) only [go_sem, Nat.reduceEqDiff, ↓reduceIte, k1, k2, g1, g2]
      exact retC_by (Drop.set hb) (.refl _) ⟨rfl, rfl⟩
    · rw [if_neg (fun h => g2 h.2), if_pos g1] at hq
      by_cases g3 : e.dst ≤ i + -e.n
      · rw [if_pos g3] at hq
        subst hq
        have g3' : e.dst ≤ i - e.n := by omega
        simp (disch := first | assumption | omega | (simp only [List.length_append, List.length_cons, List.length_nil]; omega)) only [go_sem, Nat.reduceEqDiff, ↓reduceIte, k1, k2, g1, g2, g3']
        exact retC_by (Drop.set hb) (.refl _) ⟨rfl, rfl⟩
      · rw [if_neg g3] at hq
        subst hq
        have g3' : ¬ e.dst ≤ i - e.n := by omega
        simp (disch := first | assumption | omega | (simp only [List.length_append, List.length_cons, List.length_nil]; omega)) only [go_sem, Nat.reduceEqDiff, ↓reduceIte, k1, k2, g1, g2, g3']
        exact retC_by (Drop.set hb) (.refl _) ⟨rfl, rfl⟩
  · rw [if_neg (fun h => g1 h.1), if_neg g1] at hq
    by_cases g3 : e.dst ≤ i
    · rw [if_pos g3] at hq
      subst hq
      simp (disch := first | assumption | omega | (simp only [List.length_append, List.length_cons, List.length_nil]; omega)) only [go_sem, Nat.reduceEqDiff, ↓reduceIte, k1, k2, g1, g3]
      exact retC_by (Drop.set hb) (.refl _) ⟨rfl, rfl⟩
    · rw [if_neg g3] at hq
      subst hq
      simp (disch := first | assumption | omega | (simp only [List.length_append, List.length_cons, List.length_nil]; omega)) only [go_sem, Nat.reduceEqDiff, ↓reduceIte, k1, k2, g1, g3]
      exact retC_by (Drop.set hb) (.refl _) ⟨rfl, rfl⟩
theorem shgone_ok : Pure Tryz.prog 35 [] (Nd.mk 4 40000 [] .zero .zero []).av := by
  intro σ
  refine a35 (by simp) ?_
  rw [Nd.av_cs]
  simp (disch := first | assumption | omega | (simp only [List.length_append, List.length_cons, List.length_nil]; omega)) only [go_sem]
  refine allocC_by fun b hb => ?_
  simp (disch := first | assumption | omega | (simp only [List.length_append, List.length_cons, List.length_nil]; omega)) only [go_sem, reduceCtorEq, Nat.reduceAdd, Nat.reduceLeDiff, ↓reduceIte, Bool.true_and, ASt.set_set]
  refine retC_by (Drop.set hb) ?_ ⟨rfl, rfl⟩
  exact Fz.agg (.cons (.refl _) (.cons (.refl _) (.cons (.refl _) (.cons (.refl _) (.cons (.refl _) (.cons (.refl _) (.cons (.refl _) (.cons (.refl _) (.cons (.refl _) (.cons (.refl _) (.cons (.refl _) (.cons (.sl _ _) .nil))))))))))))
end Go.A
namespace Go.A
open Go.Proofs Go.Lib
set_option maxRecDepth 100000
set_option linter.unusedSimpArgs false
set_option linter.unusedVariables false
def MapG (P : Nd → Prop) (F : AV) (f : Nd → Nd) (I : ASt → Prop) : Prop := ∃ g cap, F = .func (.func g) [] cap ∧ okFn Tryz.prog g = true ∧ (∀ σ b r, I σ → σ b = none → I (σ.set b r)) ∧
  ∀ x σ, I σ → P x → (x.op = 5 ∨ x.op = 6) → ACalls Tryz.prog g (x.av :: cap) σ fun v σ' => v = (f x).av ∧ σ' = σ
theorem mapg_le (F : AV) (f : Nd → Nd) (I : ASt → Prop) (P : Nd → Prop) (hP : ∀ op m s a b ks, P (.mk op m s a b ks) → ∀ x ∈ ks, P x) (hF : MapG P F f I) : ∀ (k : Nat) (n : Nd), n.size ≤ k → n.size ≤ 1000000000 → P n → ∀ σ, I σ → ACalls Tryz.prog 32 [n.av, F] σ fun v σ' => v = (Nd.map f n).av ∧ σ' = σ
  | 0, n, hk, _, _ => by have := n.size_pos; omega
  | k + 1, n, hk, hb, hp => by
    intro σ hI
    have ih := mapg_le F f I P hP hF k
    obtain ⟨g, cap, rfl, hok, hst, hcall⟩ := hF
    obtain ⟨op, m, s, a, b, ks⟩ := n
    have hc0 := fun τ hτ => hcall (.mk op m s a b ks) τ hτ hp
    rw [Nd.size] at hk hb
    have hlen := sizes_len ks
    rw [Nd.map, Nd.maps_map]
    have hav := Nd.av_cs op m s a b ks
    by_cases ho : op = 5 ∨ op = 6
    · rw [if_pos ho]
      obtain ⟨w, hw⟩ : ∃ w, (f (Nd.mk op m s a b ks)) = w := ⟨_, rfl⟩
      rw [hw, hav] at hc0
      rw [hw, hav]
      obtain ⟨wo, wm, ws, wa, wb, wk⟩ := w
      rw [Nd.av_cs] at hc0 ⊢
      generalize ks.map Nd.av = L at *
      generalize wk.map Nd.av = WL at *
      refine a32 (by simp) ?_
      simp (disch := first | assumption | omega | (simp only [List.length_append, List.length_cons, List.length_nil]; omega)) only [go_sem]
      refine boxC_by rfl fun c hc => ?_
      simp (disch := first | assumption | omega | (simp only [List.length_append, List.length_cons, List.length_nil]; omega)) only [go_sem]
      refine allocC_by fun d hd => ?_
      have hd0 := hd
      repeat (with_reducible replace hd := set_none hd; obtain ⟨_, _, hd⟩ := hd)
      have h0 := hc0 _ (hst _ _ (some (.obj zeroC)) (hst _ _ (some (.obj (Nd.cs op m s a b L))) hI hc) hd0) ho
      unfold zeroC Nd.cs at h0
      rcases ho with rfl | rfl
      · simp (disch := first | assumption | omega | (simp only [List.length_append, List.length_cons, List.length_nil]; omega)) only [go_sem, Nat.reduceEqDiff, Nat.reduceLeDiff, ↓reduceIte]
        refine ⟨hok, ?_⟩
        unfold Nd.cs
        refine h0.mono ?_
        rintro v σ' ⟨rfl, rfl⟩
        simp (disch := first | assumption | omega | (simp only [List.length_append, List.length_cons, List.length_nil]; omega)) only [go_sem, Nat.reduceEqDiff, Nat.reduceAdd, Nat.reduceLeDiff, ↓reduceIte, Bool.true_and, ASt.set_set]
        exact retC_by ((Drop.set hc).off (by assumption)) (.refl _) ⟨rfl, rfl⟩
      · simp (disch := first | assumption | omega | (simp only [List.length_append, List.length_cons, List.length_nil]; omega)) only [go_sem, Nat.reduceEqDiff, Nat.reduceLeDiff, Int.reduceEq, ↓reduceIte]
        refine ⟨hok, ?_⟩
        unfold Nd.cs
        refine h0.mono ?_
        rintro v σ' ⟨rfl, rfl⟩
        simp (disch := first | assumption | omega | (simp only [List.length_append, List.length_cons, List.length_nil]; omega)) only [go_sem, Nat.reduceEqDiff, Nat.reduceAdd, Nat.reduceLeDiff, ↓reduceIte, Bool.true_and, ASt.set_set]
        exact retC_by ((Drop.set hc).off (by assumption)) (.refl _) ⟨rfl, rfl⟩
    · rw [if_neg ho, hav, Nd.av_cs]
      have o5 : op ≠ 5 := by omega
      have o6 : op ≠ 6 := by omega
      have hmm : (ks.map (Nd.map f)).map Nd.av = ks.map fun x => (Nd.map f x).av := by rw [List.map_map]; rfl
      rw [hmm]
      have hks : ∀ x ∈ ks, ∀ σ, I σ → ACalls Tryz.prog 32 [x.av, .func (.func g) [] cap] σ fun v σ' => v = (Nd.map f x).av ∧ σ' = σ := fun x hx => by
        have := Nd.size_kid hx
        exact ih x (by omega) (by omega) (hP _ _ _ _ _ _ hp x hx)
      refine a32 (by simp) ?_
      simp (disch := first | assumption | omega | (simp only [List.length_append, List.length_cons, List.length_nil]; omega)) only [go_sem]
      refine boxC_by rfl fun c hc => ?_
      simp (disch := first | assumption | omega | (simp only [List.length_append, List.length_cons, List.length_nil]; omega)) only [go_sem]
      refine allocC_by fun d hd => ?_
      have hd0 := hd
      repeat (with_reducible replace hd := set_none hd; obtain ⟨_, _, hd⟩ := hd)
      by_cases h0 : ks = []
      · subst h0
        simp only [List.map_nil]
        simp (disch := first | assumption | omega | (simp only [List.length_append, List.length_cons, List.length_nil]; omega)) only [go_sem, Nat.reduceEqDiff, Nat.reduceAdd, Nat.reduceLeDiff, Int.reduceLT, ↓reduceIte, o5, o6, ASt.set_set]
        exact retC_by ((Drop.set hc).off (by assumption)) (.refl _) ⟨rfl, rfl⟩
      have hpos : 0 < ks.length := by
        rcases ks with _ | ⟨_, _⟩
        · exact absurd rfl h0
        · simp
      have hpos' : (0 : Int) < ks.length := by omega
      obtain ⟨G, hG⟩ : ∃ G, G = ACode.wp Tryz.prog c32_22 := ⟨_, rfl⟩
      simp (disch := first | assumption | omega | (simp only [List.length_append, List.length_cons, List.length_nil]; omega)) only [go_sem, Nat.reduceEqDiff, ↓reduceIte, o5, o6, hpos']
      refine mkb_own (by omega) (by omega) (by omega) (by omega) fun e he => ?_
      have he0 := he
      repeat (with_reducible replace he := set_none he; obtain ⟨_, _, he⟩ := he)
      rw [Int.toNat_natCast]
      have hz12 : ([.int .i64 0, .int .i64 0, .str [], .int .i64 0, .int .i64 0, .bool false, .bool false, .int .i64 0, .int .i64 0, .bool false, .bool false, .sl .full []] : List AV).length = 12 := rfl
      have hrz := rowAt_zero f ks [.int .i64 0, .int .i64 0, .str [], .int .i64 0, .int .i64 0, .bool false, .bool false, .int .i64 0, .int .i64 0, .bool false, .bool false, .sl .full []]
      have hrl : ∀ i, i ≤ ks.length → (rowAt f ks [.int .i64 0, .int .i64 0, .str [], .int .i64 0, .int .i64 0, .bool false, .bool false, .int .i64 0, .int .i64 0, .bool false, .bool false, .sl .full []] i).length = ks.length * 12 := fun i hi => rowAt_len f ks hz12 hi
      have hrs := fun i x hx => rowAt_step f ks hz12 (i := i) (x := x) hx
      have hre := rowAt_end f ks [.int .i64 0, .int .i64 0, .str [], .int .i64 0, .int .i64 0, .bool false, .bool false, .int .i64 0, .int .i64 0, .bool false, .bool false, .sl .full []]
      rw [← hrz]
      generalize rowAt f ks [.int .i64 0, .int .i64 0, .str [], .int .i64 0, .int .i64 0, .bool false, .bool false, .int .i64 0, .int .i64 0, .bool false, .bool false, .sl .full []] = q at *
      have nce : c ≠ e := by assumption
      have nde : d ≠ e := by assumption
      have ncd : c ≠ d := by assumption
      have hII : ∀ X Y Z : Option Role, I (((σ.set c X).set d Y).set e Z) := fun X Y Z => hst _ _ _ (hst _ _ _ (hst _ _ _ hI hc) (by rw [ASt.set_ne (Ne.symm ncd)]; assumption)) (by rw [ASt.set_ne (Ne.symm nde), ASt.set_ne (Ne.symm nce)]; assumption)
      have hDD : ∀ X Y Z : Option Role, Drop (((σ.set c X).set d Y).set e Z) σ := fun X Y Z => ((Drop.set hc).off (by assumption)).off (by assumption)
      simp (disch := first | assumption | omega | (simp only [List.length_append, List.length_cons, List.length_nil]; omega)) only [go_sem, Nat.reduceEqDiff, ↓reduceIte, ←hG]
      refine wp_loop_by (fun (i : Nat) a1 s2 => i ≤ ks.length ∧ (a1 1 = .func (.func g) [] cap ∧ a1 2 = .ptr c 0 ∧ a1 4 = .ptr d 0 ∧ a1 5 = .msl e 0 ks.length ks.length ∧ a1 28 = .sl .shr (ks.map Nd.av) ∧ a1 29 = .int .i64 ks.length ∧ a1 30 = .int .i64 i) ∧
        s2 = ((σ.set c (some (.obj (Nd.cs op m s a b (ks.map Nd.av))))).set d (some (.obj [.int .i64 0, .int .i64 0, .str [], .int .i64 0, .int .i64 0, .bool false, .bool false, .int .i64 0, .int .i64 0, .bool false, .bool false, .sl .full []]))).set e (some (.obj (q i)))) (fun i => ks.length - i) 0 (Dr.now ⟨Nat.zero_le _, ?_, rfl⟩) ?_
      · simp (disch := first | assumption | omega | (simp only [List.length_append, List.length_cons, List.length_nil]; omega)) only [go_sem, Nat.reduceEqDiff, ↓reduceIte]
      rintro i a1 s2 ⟨hi, hf, rfl⟩
      by_cases hlt : i < ks.length
      · have hlt' : (i : Int) < ks.length := by omega
        have hx : ks[i]? = some (ks[i]'hlt) := List.getElem?_eq_getElem hlt
        have hkx := hks _ (List.getElem_mem hlt)
        obtain ⟨x, hxe⟩ : ∃ x, ks[i]'hlt = x := ⟨_, rfl⟩
        rw [hxe] at hx hkx
        have hmx := Nd.get hx
        have hqs := hrs i x hx
        have hql := hrl i (by omega)
        obtain ⟨y, hy⟩ : ∃ y, Nd.map f x = y := ⟨_, rfl⟩
        rw [hy] at hkx hqs
        obtain ⟨xo, xm, xs, xa, xb, xk⟩ := x
        obtain ⟨yo, ym, ys, ya, yb, yk⟩ := y
        rw [Nd.av_cs] at hmx
        rw [Nd.av_cs, Nd.av_cs] at hkx
        rw [Nd.av_cs, cells_agg] at hqs
        generalize xk.map Nd.av = XK at *
        generalize yk.map Nd.av = YK at *
        generalize hXL : ks.map Nd.av = XL at *
        simp (disch := first | assumption | omega | (simp only [List.length_append, List.length_cons, List.length_nil]; omega)) only [go_sem, Nat.reduceEqDiff, Nat.reduceLeDiff, ↓reduceIte, hf, hlt', hmx]
        refine allocC_by fun t ht => ?_
        have ht0 := ht
        repeat (with_reducible replace ht := set_none ht; obtain ⟨_, _, ht⟩ := ht)
        have hk1 := hkx _ (hst _ _ (some (.obj (Nd.cs xo xm xs xa xb XK))) (hII _ _ _) ht0)
        simp (disch := first | assumption | omega | (simp only [List.length_append, List.length_cons, List.length_nil]; omega)) only [go_sem, Nat.reduceEqDiff, Nat.reduceAdd, Nat.reduceLeDiff, ↓reduceIte, hf, ASt.set_set]
        refine hk1.mono ?_
        rintro v σ' ⟨rfl, rfl⟩
        have hb1 : i * 12 + 12 ≤ (q i).length := by rw [hql]; omega
        have het : e ≠ t := by assumption
        have hsw : ∀ (ρ : ASt) (X Y Z : Option Role), ((ρ.set e X).set t Y).set e Z = (ρ.set e Z).set t Y := fun _ _ _ _ => set_mid het
        simp (disch := first | assumption | omega | (simp only [List.length_append, List.length_cons, List.length_nil]; omega)) only [go_sem, Nat.reduceEqDiff, ↓reduceIte, hf, hb1, hqs, hsw]
        refine ⟨i + 1, by dsimp only; omega, Dr.drop (Drop.set (by rw [ASt.set_ne (Ne.symm het)]; rw [ASt.set_ne (Ne.symm het)] at ht0; exact ht0)) ⟨by omega, ?_, rfl⟩⟩
        simp (disch := first | assumption | omega | (simp only [List.length_append, List.length_cons, List.length_nil]; omega)) only [go_sem, Nat.reduceEqDiff, ↓reduceIte, hf]
      · have hlt' : ¬ (i : Int) < ks.length := by omega
        obtain rfl : i = ks.length := by omega
        rw [hre]
        simp (disch := first | assumption | omega | (simp only [List.length_append, List.length_cons, List.length_nil]; omega)) only [go_sem, ↓reduceIte, hf, hlt']
        rw [hG]
        have hsw1 : ∀ (ρ : ASt) (X Y Z W : Option Role), (((ρ.set c X).set d Y).set e Z).set c W = ((ρ.set c W).set d Y).set e Z := fun ρ X Y Z W => by rw [set_swap (Ne.symm nce), set_mid ncd]
        have hsw2 : ∀ (ρ : ASt) (Y Z W : Option Role), ((ρ.set d Y).set e Z).set d W = (ρ.set d W).set e Z := fun ρ Y Z W => set_mid nde
        unfold Nd.cs
        simp (disch := first | assumption | omega | (simp only [List.length_append, List.length_cons, List.length_nil]; omega)) only [go_sem, Nat.reduceEqDiff, Nat.reduceAdd, Nat.reduceLeDiff, ↓reduceIte, Bool.true_and, hf, hsw1, hsw2]
        refine retC_by (r := .agg [.int .i64 op, .int .i64 m, .str s, .int .i64 a.row, .int .i64 a.col, .bool a.absRow, .bool a.absCol, .int .i64 b.row, .int .i64 b.col, .bool b.absRow, .bool b.absCol, .sl .shr (ks.map fun x => (Nd.map f x).av)]) (hDD _ _ _) ?_ ⟨rfl, rfl⟩
        refine Fz.agg ?_
        refine .cons (.refl _) (.cons (.refl _) (.cons (.refl _) (.cons (.refl _) (.cons (.refl _) (.cons (.refl _) (.cons (.refl _) (.cons (.refl _) (.cons (.refl _) (.cons (.refl _) (.cons (.refl _) (.cons ?_ .nil)))))))))))
        refine .msl 0 _ _ 12 _ (ASt.set_same _ _ _) (by assumption) (by simp) (Nat.le_refl _) (fun y hy => ?_) ?_
        · obtain ⟨z, _, rfl⟩ := List.mem_map.1 hy
          exact Nd.av_len _
        · rw [List.drop_zero, List.take_of_length_le]
          rw [lens_flat (s := 12)]
          · simp
          · intro y hy
            obtain ⟨z, _, rfl⟩ := List.mem_map.1 hy
            exact Nd.av_len _
end Go.A
namespace Go.A
open Go.Proofs
/-! 17: (tabular/shift.Edit).Tree -/
def c17_0 : ACode := .ops [
 ⟨some 2, none, .e (.box (.t 0)), []⟩,
 ⟨some 3, none, .e (.box (.t 1)), []⟩,
 ⟨some 4, none, .e (.alloc [(.int .i64 0), (.int .i64 0), (.str []), (.int .i64 0), (.int .i64 0), (.bool false), (.bool false), (.int .i64 0), (.int .i64 0), (.bool false), (.bool false), (.sl .full [])]), []⟩]
def c17_1 : ACode := .ops [
 ⟨some 5, none, .q (.ld (some 12) (.t 3)), []⟩,
 ⟨some 6, none, .q (.mkf (.func 39) [] [(.t 2)]), []⟩,
 ⟨some 7, none, .e (.call 32 [(.t 5), (.t 6)]), []⟩,
 ⟨none, none, .e (.store 12 (.t 4) (.t 7)), []⟩]
def c17_2 : ACode := .seq c17_1 .ret
def c17_3 : ACode := .seq c17_0 c17_2
@[go_sem] theorem c17_0_wp : type_of% (wp_of c17_0.eq_1) := wp_of c17_0.eq_1
@[go_sem] theorem c17_1_wp : type_of% (wp_of c17_1.eq_1) := wp_of c17_1.eq_1
@[go_sem] theorem c17_2_wp : type_of% (wp_of c17_2.eq_1) := wp_of c17_2.eq_1
@[go_sem] theorem c17_3_wp : type_of% (wp_of c17_3.eq_1) := wp_of c17_3.eq_1
def c17 : AFn := ⟨8, [.c 4 (some 12)], c17_3⟩
set_option maxRecDepth 100000 in
theorem c17_ok : compF Tryz.prog Tryz.f17 = some c17 := by kernel_rfl
theorem a17 {args : List AV} {σ : ASt} {R : AV → ASt → Prop} (hl : args.length ≤ 8) (h : c17_3.wp Tryz.prog (RetQ [.c 4 (some 12)] R) (init args) σ) : ACalls Tryz.prog 17 args σ R := acalls_of Tryz.func17 c17_ok hl h
/-! 39: (tabular/shift.Edit).Tree$1 -/
def c39_0 : ACode := .ops [
 ⟨some 2, none, .e (.box (.t 0)), []⟩,
 ⟨some 3, none, .e (.alloc [(.int .i64 0), (.int .i64 0), (.str []), (.int .i64 0), (.int .i64 0), (.bool false), (.bool false), (.int .i64 0), (.int .i64 0), (.bool false), (.bool false), (.sl .full [])]), []⟩]
def c39_1 : ACode := .ops [
 ⟨some 4, none, .q (.fa 0 (.t 2)), []⟩,
 ⟨some 5, none, .q (.ld none (.t 4)), []⟩,
 ⟨some 6, none, .q (.bin .eql (.t 5) (.v (.int .i64 5))), []⟩]
def c39_2 : ACode := .ops [
 ⟨some 7, none, .q (.ld (some 5) (.t 1)), []⟩,
 ⟨some 8, none, .q (.ld (some 12) (.t 2)), []⟩,
 ⟨some 9, none, .e (.call 40 [(.t 7), (.t 8)]), []⟩,
 ⟨none, none, .e (.store 12 (.t 3) (.t 9)), []⟩]
def c39_3 : ACode := .seq c39_2 .ret
def c39_4 : ACode := .cond (.t 6) c39_3 .skip
def c39_5 : ACode := .seq c39_1 c39_4
def c39_6 : ACode := .ops [
 ⟨some 10, none, .q (.ld (some 5) (.t 1)), []⟩,
 ⟨some 11, none, .q (.ld (some 12) (.t 2)), []⟩,
 ⟨some 12, none, .e (.call 41 [(.t 10), (.t 11)]), []⟩,
 ⟨none, none, .e (.store 12 (.t 3) (.t 12)), []⟩]
def c39_7 : ACode := .seq c39_6 .ret
def c39_8 : ACode := .seq c39_5 c39_7
def c39_9 : ACode := .seq c39_0 c39_8
@[go_sem] theorem c39_0_wp : type_of% (wp_of c39_0.eq_1) := wp_of c39_0.eq_1
@[go_sem] theorem c39_1_wp : type_of% (wp_of c39_1.eq_1) := wp_of c39_1.eq_1
@[go_sem] theorem c39_2_wp : type_of% (wp_of c39_2.eq_1) := wp_of c39_2.eq_1
@[go_sem] theorem c39_3_wp : type_of% (wp_of c39_3.eq_1) := wp_of c39_3.eq_1
@[go_sem] theorem c39_4_wp : type_of% (wp_of c39_4.eq_1) := wp_of c39_4.eq_1
@[go_sem] theorem c39_5_wp : type_of% (wp_of c39_5.eq_1) := wp_of c39_5.eq_1
@[go_sem] theorem c39_6_wp : type_of% (wp_of c39_6.eq_1) := wp_of c39_6.eq_1
@[go_sem] theorem c39_7_wp : type_of% (wp_of c39_7.eq_1) := wp_of c39_7.eq_1
@[go_sem] theorem c39_8_wp : type_of% (wp_of c39_8.eq_1) := wp_of c39_8.eq_1
@[go_sem] theorem c39_9_wp : type_of% (wp_of c39_9.eq_1) := wp_of c39_9.eq_1
def c39 : AFn := ⟨13, [.c 3 (some 12)], c39_9⟩
set_option maxRecDepth 100000 in
theorem c39_ok : compF Tryz.prog Tryz.f39 = some c39 := by kernel_rfl
theorem a39 {args : List AV} {σ : ASt} {R : AV → ASt → Prop} (hl : args.length ≤ 13) (h : c39_9.wp Tryz.prog (RetQ [.c 3 (some 12)] R) (init args) σ) : ACalls Tryz.prog 39 args σ R := acalls_of Tryz.func39 c39_ok hl h
/-! 40: (tabular/shift.Edit).cell -/
def c40_0 : ACode := .ops [
 ⟨some 2, none, .e (.box (.t 0)), []⟩,
 ⟨some 3, none, .e (.box (.t 1)), []⟩,
 ⟨some 4, none, .e (.alloc [(.int .i64 0), (.int .i64 0), (.str []), (.int .i64 0), (.int .i64 0), (.bool false), (.bool false), (.int .i64 0), (.int .i64 0), (.bool false), (.bool false), (.sl .full [])]), []⟩]
def c40_1 : ACode := .ops [
 ⟨some 8, none, .q (.fa 3 (.t 3)), []⟩,
 ⟨some 9, none, .q (.fa 0 (.t 8)), []⟩,
 ⟨some 5, none, .q (.mv (.t 9)), []⟩]
def c40_2 : ACode := .ops [
 ⟨some 10, none, .q (.fa 0 (.t 2)), []⟩,
 ⟨some 11, none, .q (.ld none (.t 10)), []⟩]
def c40_3 : ACode := .ops [
 ⟨some 12, none, .q (.fa 3 (.t 3)), []⟩,
 ⟨some 13, none, .q (.fa 1 (.t 12)), []⟩,
 ⟨some 5, none, .q (.mv (.t 13)), []⟩]
def c40_4 : ACode := .cond (.t 11) c40_3 .skip
def c40_5 : ACode := .seq c40_2 c40_4
def c40_6 : ACode := .ops [
 ⟨some 15, none, .q (.ld (some 5) (.t 2)), []⟩,
 ⟨some 16, none, .q (.mv (.t 5)), []⟩,
 ⟨some 17, none, .q (.nc (.t 16)), []⟩,
 ⟨some 18, none, .q (.ld none (.t 17)), []⟩,
 ⟨some 19, none, .e (.call 21 [(.t 15), (.t 18)]), []⟩,
 ⟨some 14, none, .q (.mv (.t 19)), []⟩,
 ⟨some 20, none, .q (.ext 0 (.t 14)), []⟩,
 ⟨some 21, none, .q (.ext 1 (.t 14)), []⟩,
 ⟨some 6, none, .q (.mv (.t 20)), []⟩,
 ⟨some 7, none, .q (.mv (.t 21)), []⟩]
def c40_7 : ACode := .ops [
 ⟨some 22, none, .q (.mv (.t 7)), []⟩,
 ⟨some 23, none, .q (.un .not (.t 22)), []⟩]
def c40_8 : ACode := .ops [
 ⟨some 24, none, .e (.call 35 []), []⟩,
 ⟨none, none, .e (.store 12 (.t 4) (.t 24)), []⟩]
def c40_9 : ACode := .seq c40_8 .ret
def c40_10 : ACode := .cond (.t 23) c40_9 .skip
def c40_11 : ACode := .seq c40_7 c40_10
def c40_12 : ACode := .ops [
 ⟨some 25, none, .q (.mv (.t 5)), []⟩,
 ⟨some 26, none, .q (.mv (.t 6)), []⟩,
 ⟨some 27, none, .q (.nc (.t 25)), []⟩,
 ⟨none, none, .e (.store 1 (.t 27) (.t 26)), []⟩]
def c40_13 : ACode := .ops [
 ⟨some 28, none, .q (.ld (some 12) (.t 3)), []⟩,
 ⟨none, none, .e (.store 12 (.t 4) (.t 28)), []⟩]
def c40_14 : ACode := .seq c40_13 .ret
def c40_15 : ACode := .seq c40_12 c40_14
def c40_16 : ACode := .seq c40_11 c40_15
def c40_17 : ACode := .seq c40_6 c40_16
def c40_18 : ACode := .seq c40_5 c40_17
def c40_19 : ACode := .seq c40_1 c40_18
def c40_20 : ACode := .seq c40_0 c40_19
@[go_sem] theorem c40_0_wp : type_of% (wp_of c40_0.eq_1) := wp_of c40_0.eq_1
@[go_sem] theorem c40_1_wp : type_of% (wp_of c40_1.eq_1) := wp_of c40_1.eq_1
@[go_sem] theorem c40_2_wp : type_of% (wp_of c40_2.eq_1) := wp_of c40_2.eq_1
@[go_sem] theorem c40_3_wp : type_of% (wp_of c40_3.eq_1) := wp_of c40_3.eq_1
@[go_sem] theorem c40_4_wp : type_of% (wp_of c40_4.eq_1) := wp_of c40_4.eq_1
@[go_sem] theorem c40_5_wp : type_of% (wp_of c40_5.eq_1) := wp_of c40_5.eq_1
@[go_sem] theorem c40_6_wp : type_of% (wp_of c40_6.eq_1) := wp_of c40_6.eq_1
@[go_sem] theorem c40_7_wp : type_of% (wp_of c40_7.eq_1) := wp_of c40_7.eq_1
@[go_sem] theorem c40_8_wp : type_of% (wp_of c40_8.eq_1) := wp_of c40_8.eq_1
@[go_sem] theorem c40_9_wp : type_of% (wp_of c40_9.eq_1) := wp_of c40_9.eq_1
@[go_sem] theorem c40_10_wp : type_of% (wp_of c40_10.eq_1) := wp_of c40_10.eq_1
@[go_sem] theorem c40_11_wp : type_of% (wp_of c40_11.eq_1) := wp_of c40_11.eq_1
@[go_sem] theorem c40_12_wp : type_of% (wp_of c40_12.eq_1) := wp_of c40_12.eq_1
@[go_sem] theorem c40_13_wp : type_of% (wp_of c40_13.eq_1) := wp_of c40_13.eq_1
@[go_sem] theorem c40_14_wp : type_of% (wp_of c40_14.eq_1) := wp_of c40_14.eq_1
@[go_sem] theorem c40_15_wp : type_of% (wp_of c40_15.eq_1) := wp_of c40_15.eq_1
@[go_sem] theorem c40_16_wp : type_of% (wp_of c40_16.eq_1) := wp_of c40_16.eq_1
@[go_sem] theorem c40_17_wp : type_of% (wp_of c40_17.eq_1) := wp_of c40_17.eq_1
@[go_sem] theorem c40_18_wp : type_of% (wp_of c40_18.eq_1) := wp_of c40_18.eq_1
@[go_sem] theorem c40_19_wp : type_of% (wp_of c40_19.eq_1) := wp_of c40_19.eq_1
@[go_sem] theorem c40_20_wp : type_of% (wp_of c40_20.eq_1) := wp_of c40_20.eq_1
def c40 : AFn := ⟨29, [.c 4 (some 12)], c40_20⟩
set_option maxRecDepth 100000 in
theorem c40_ok : compF Tryz.prog Tryz.f40 = some c40 := by kernel_rfl
theorem a40 {args : List AV} {σ : ASt} {R : AV → ASt → Prop} (hl : args.length ≤ 29) (h : c40_20.wp Tryz.prog (RetQ [.c 4 (some 12)] R) (init args) σ) : ACalls Tryz.prog 40 args σ R := acalls_of Tryz.func40 c40_ok hl h
/-! 41: (tabular/shift.Edit).area -/
def c41_0 : ACode := .ops [
 ⟨some 2, none, .e (.box (.t 0)), []⟩,
 ⟨some 3, none, .e (.box (.t 1)), []⟩,
 ⟨some 4, none, .e (.alloc [(.int .i64 0), (.int .i64 0), (.str []), (.int .i64 0), (.int .i64 0), (.bool false), (.bool false), (.int .i64 0), (.int .i64 0), (.bool false), (.bool false), (.sl .full [])]), []⟩]
def c41_1 : ACode := .ops [
 ⟨some 11, none, .q (.fa 3 (.t 3)), []⟩,
 ⟨some 12, none, .q (.fa 0 (.t 11)), []⟩,
 ⟨some 13, none, .q (.fa 7 (.t 3)), []⟩,
 ⟨some 14, none, .q (.fa 0 (.t 13)), []⟩,
 ⟨some 5, none, .q (.mv (.t 12)), []⟩,
 ⟨some 6, none, .q (.mv (.t 14)), []⟩]
def c41_2 : ACode := .ops [
 ⟨some 15, none, .q (.fa 0 (.t 2)), []⟩,
 ⟨some 16, none, .q (.ld none (.t 15)), []⟩]
def c41_3 : ACode := .ops [
 ⟨some 17, none, .q (.fa 3 (.t 3)), []⟩,
 ⟨some 18, none, .q (.fa 1 (.t 17)), []⟩,
 ⟨some 19, none, .q (.fa 7 (.t 3)), []⟩,
 ⟨some 20, none, .q (.fa 1 (.t 19)), []⟩,
 ⟨some 5, none, .q (.mv (.t 18)), []⟩,
 ⟨some 6, none, .q (.mv (.t 20)), []⟩]
def c41_4 : ACode := .cond (.t 16) c41_3 .skip
def c41_5 : ACode := .seq c41_2 c41_4
def c41_6 : ACode := .ops [
 ⟨some 21, none, .q (.mv (.t 5)), []⟩,
 ⟨some 22, none, .q (.nc (.t 21)), []⟩,
 ⟨some 23, none, .q (.ld none (.t 22)), []⟩,
 ⟨some 24, none, .q (.mv (.t 6)), []⟩,
 ⟨some 25, none, .q (.nc (.t 24)), []⟩,
 ⟨some 26, none, .q (.ld none (.t 25)), []⟩,
 ⟨some 27, none, .q (.bin .gtr (.t 23) (.t 26)), []⟩,
 ⟨some 7, none, .q (.mv (.t 27)), []⟩]
def c41_7 : ACode := .ops [
 ⟨some 29, none, .q (.ld (some 5) (.t 2)), []⟩,
 ⟨some 30, none, .q (.mv (.t 5)), []⟩,
 ⟨some 31, none, .q (.nc (.t 30)), []⟩,
 ⟨some 32, none, .q (.ld none (.t 31)), []⟩,
 ⟨some 33, none, .q (.mv (.t 6)), []⟩,
 ⟨some 34, none, .q (.nc (.t 33)), []⟩,
 ⟨some 35, none, .q (.ld none (.t 34)), []⟩,
 ⟨some 36, none, .q (.mnx false (.t 32) (.t 35)), []⟩,
 ⟨some 37, none, .q (.mv (.t 5)), []⟩,
 ⟨some 38, none, .q (.nc (.t 37)), []⟩,
 ⟨some 39, none, .q (.ld none (.t 38)), []⟩,
 ⟨some 40, none, .q (.mv (.t 6)), []⟩,
 ⟨some 41, none, .q (.nc (.t 40)), []⟩,
 ⟨some 42, none, .q (.ld none (.t 41)), []⟩,
 ⟨some 43, none, .q (.mnx true (.t 39) (.t 42)), []⟩,
 ⟨some 44, none, .e (.call 56 [(.t 29), (.t 36), (.t 43)]), []⟩,
 ⟨some 28, none, .q (.mv (.t 44)), []⟩,
 ⟨some 45, none, .q (.ext 0 (.t 28)), []⟩,
 ⟨some 46, none, .q (.ext 1 (.t 28)), []⟩,
 ⟨some 47, none, .q (.ext 2 (.t 28)), []⟩,
 ⟨some 8, none, .q (.mv (.t 45)), []⟩,
 ⟨some 9, none, .q (.mv (.t 46)), []⟩,
 ⟨some 10, none, .q (.mv (.t 47)), []⟩]
def c41_8 : ACode := .ops [
 ⟨some 48, none, .q (.mv (.t 10)), []⟩,
 ⟨some 49, none, .q (.un .not (.t 48)), []⟩]
def c41_9 : ACode := .ops [
 ⟨some 50, none, .e (.call 35 []), []⟩,
 ⟨none, none, .e (.store 12 (.t 4) (.t 50)), []⟩]
def c41_10 : ACode := .seq c41_9 .ret
def c41_11 : ACode := .cond (.t 49) c41_10 .skip
def c41_12 : ACode := .seq c41_8 c41_11
def c41_13 : ACode := .ops [
 ⟨some 51, none, .q (.mv (.t 7)), []⟩]
def c41_14 : ACode := .ops [
 ⟨some 52, none, .q (.mv (.t 9)), []⟩,
 ⟨some 53, none, .q (.mv (.t 8)), []⟩,
 ⟨some 8, none, .q (.mv (.t 52)), []⟩,
 ⟨some 9, none, .q (.mv (.t 53)), []⟩]
def c41_15 : ACode := .cond (.t 51) c41_14 .skip
def c41_16 : ACode := .seq c41_13 c41_15
def c41_17 : ACode := .ops [
 ⟨some 54, none, .q (.mv (.t 5)), []⟩,
 ⟨some 55, none, .q (.mv (.t 6)), []⟩,
 ⟨some 56, none, .q (.mv (.t 8)), []⟩,
 ⟨some 57, none, .q (.mv (.t 9)), []⟩,
 ⟨some 58, none, .q (.nc (.t 54)), []⟩,
 ⟨none, none, .e (.store 1 (.t 58) (.t 56)), []⟩,
 ⟨some 59, none, .q (.nc (.t 55)), []⟩,
 ⟨none, none, .e (.store 1 (.t 59) (.t 57)), []⟩]
def c41_18 : ACode := .ops [
 ⟨some 60, none, .q (.ld (some 12) (.t 3)), []⟩,
 ⟨none, none, .e (.store 12 (.t 4) (.t 60)), []⟩]
def c41_19 : ACode := .seq c41_18 .ret
def c41_20 : ACode := .seq c41_17 c41_19
def c41_21 : ACode := .seq c41_16 c41_20
def c41_22 : ACode := .seq c41_12 c41_21
def c41_23 : ACode := .seq c41_7 c41_22
def c41_24 : ACode := .seq c41_6 c41_23
def c41_25 : ACode := .seq c41_5 c41_24
def c41_26 : ACode := .seq c41_1 c41_25
def c41_27 : ACode := .seq c41_0 c41_26
@[go_sem] theorem c41_0_wp : type_of% (wp_of c41_0.eq_1) := wp_of c41_0.eq_1
@[go_sem] theorem c41_1_wp : type_of% (wp_of c41_1.eq_1) := wp_of c41_1.eq_1
@[go_sem] theorem c41_2_wp : type_of% (wp_of c41_2.eq_1) := wp_of c41_2.eq_1
@[go_sem] theorem c41_3_wp : type_of% (wp_of c41_3.eq_1) := wp_of c41_3.eq_1
@[go_sem] theorem c41_4_wp : type_of% (wp_of c41_4.eq_1) := wp_of c41_4.eq_1
@[go_sem] theorem c41_5_wp : type_of% (wp_of c41_5.eq_1) := wp_of c41_5.eq_1
@[go_sem] theorem c41_6_wp : type_of% (wp_of c41_6.eq_1) := wp_of c41_6.eq_1
@[go_sem] theorem c41_7_wp : type_of% (wp_of c41_7.eq_1) := wp_of c41_7.eq_1
@[go_sem] theorem c41_8_wp : type_of% (wp_of c41_8.eq_1) := wp_of c41_8.eq_1
@[go_sem] theorem c41_9_wp : type_of% (wp_of c41_9.eq_1) := wp_of c41_9.eq_1
@[go_sem] theorem c41_10_wp : type_of% (wp_of c41_10.eq_1) := wp_of c41_10.eq_1
@[go_sem] theorem c41_11_wp : type_of% (wp_of c41_11.eq_1) := wp_of c41_11.eq_1
@[go_sem] theorem c41_12_wp : type_of% (wp_of c41_12.eq_1) := wp_of c41_12.eq_1
@[go_sem] theorem c41_13_wp : type_of% (wp_of c41_13.eq_1) := wp_of c41_13.eq_1
@[go_sem] theorem c41_14_wp : type_of% (wp_of c41_14.eq_1) := wp_of c41_14.eq_1
@[go_sem] theorem c41_15_wp : type_of% (wp_of c41_15.eq_1) := wp_of c41_15.eq_1
@[go_sem] theorem c41_16_wp : type_of% (wp_of c41_16.eq_1) := wp_of c41_16.eq_1
@[go_sem] theorem c41_17_wp : type_of% (wp_of c41_17.eq_1) := wp_of c41_17.eq_1
@[go_sem] theorem c41_18_wp : type_of% (wp_of c41_18.eq_1) := wp_of c41_18.eq_1
@[go_sem] theorem c41_19_wp : type_of% (wp_of c41_19.eq_1) := wp_of c41_19.eq_1
@[go_sem] theorem c41_20_wp : type_of% (wp_of c41_20.eq_1) := wp_of c41_20.eq_1
@[go_sem] theorem c41_21_wp : type_of% (wp_of c41_21.eq_1) := wp_of c41_21.eq_1
@[go_sem] theorem c41_22_wp : type_of% (wp_of c41_22.eq_1) := wp_of c41_22.eq_1
@[go_sem] theorem c41_23_wp : type_of% (wp_of c41_23.eq_1) := wp_of c41_23.eq_1
@[go_sem] theorem c41_24_wp : type_of% (wp_of c41_24.eq_1) := wp_of c41_24.eq_1
@[go_sem] theorem c41_25_wp : type_of% (wp_of c41_25.eq_1) := wp_of c41_25.eq_1
@[go_sem] theorem c41_26_wp : type_of% (wp_of c41_26.eq_1) := wp_of c41_26.eq_1
@[go_sem] theorem c41_27_wp : type_of% (wp_of c41_27.eq_1) := wp_of c41_27.eq_1
def c41 : AFn := ⟨61, [.c 4 (some 12)], c41_27⟩
set_option maxRecDepth 100000 in
theorem c41_ok : compF Tryz.prog Tryz.f41 = some c41 := by kernel_rfl
theorem a41 {args : List AV} {σ : ASt} {R : AV → ASt → Prop} (hl : args.length ≤ 61) (h : c41_27.wp Tryz.prog (RetQ [.c 4 (some 12)] R) (init args) σ) : ACalls Tryz.prog 41 args σ R := acalls_of Tryz.func41 c41_ok hl h
/-! 56: (tabular/shift.Edit).Span -/
def c56_0 : ACode := .ops [
 ⟨some 3, none, .e (.box (.t 0)), []⟩,
 ⟨some 6, none, .q (.mv (.v (.int .i64 0))), []⟩,
 ⟨some 7, none, .q (.mv (.v (.int .i64 0))), []⟩,
 ⟨some 8, none, .q (.mv (.v (.bool false))), []⟩]
def c56_1 : ACode := .ops [
 ⟨some 16, none, .q (.fa 1 (.t 3)), []⟩,
 ⟨some 17, none, .q (.ld none (.t 16)), []⟩]
def c56_2 : ACode := .ops [
 ⟨some 19, none, .q (.bin .eql (.t 17) (.v (.int .i64 1))), []⟩,
 ⟨some 18, none, .q (.mv (.t 19)), []⟩]
def c56_3 : ACode := .ops [
 ⟨some 21, none, .q (.ld (some 5) (.t 3)), []⟩,
 ⟨some 22, none, .q (.mv (.t 1)), []⟩,
 ⟨some 23, none, .e (.call 21 [(.t 21), (.t 22)]), []⟩,
 ⟨some 20, none, .q (.mv (.t 23)), []⟩,
 ⟨some 24, none, .q (.ext 0 (.t 20)), []⟩,
 ⟨some 25, none, .q (.ext 1 (.t 20)), []⟩,
 ⟨some 9, none, .q (.mv (.t 24)), []⟩,
 ⟨some 10, none, .q (.mv (.t 25)), []⟩]
def c56_4 : ACode := .ops [
 ⟨some 26, none, .q (.mv (.t 10)), []⟩,
 ⟨some 27, none, .q (.un .not (.t 26)), []⟩]
def c56_5 : ACode := .ops [
 ⟨some 6, none, .q (.mv (.v (.int .i64 0))), []⟩,
 ⟨some 7, none, .q (.mv (.v (.int .i64 0))), []⟩,
 ⟨some 8, none, .q (.mv (.v (.bool false))), []⟩]
def c56_6 : ACode := .seq c56_5 .ret
def c56_7 : ACode := .cond (.t 27) c56_6 .skip
def c56_8 : ACode := .seq c56_4 c56_7
def c56_9 : ACode := .ops [
 ⟨some 29, none, .q (.ld (some 5) (.t 3)), []⟩,
 ⟨some 30, none, .q (.mv (.t 2)), []⟩,
 ⟨some 31, none, .e (.call 21 [(.t 29), (.t 30)]), []⟩,
 ⟨some 28, none, .q (.mv (.t 31)), []⟩,
 ⟨some 32, none, .q (.ext 0 (.t 28)), []⟩,
 ⟨some 33, none, .q (.ext 1 (.t 28)), []⟩,
 ⟨some 11, none, .q (.mv (.t 32)), []⟩,
 ⟨some 10, none, .q (.mv (.t 33)), []⟩]
def c56_10 : ACode := .ops [
 ⟨some 34, none, .q (.mv (.t 10)), []⟩,
 ⟨some 35, none, .q (.un .not (.t 34)), []⟩]
def c56_11 : ACode := .ops [
 ⟨some 36, none, .q (.ld (some 5) (.t 3)), []⟩,
 ⟨some 37, none, .e (.call 43 [(.t 36)]), []⟩,
 ⟨some 38, none, .q (.bin .sub (.t 37) (.v (.int .i64 1))), []⟩,
 ⟨some 11, none, .q (.mv (.t 38)), []⟩]
def c56_12 : ACode := .cond (.t 35) c56_11 .skip
def c56_13 : ACode := .seq c56_10 c56_12
def c56_14 : ACode := .ops [
 ⟨some 39, none, .q (.mv (.t 9)), []⟩,
 ⟨some 40, none, .q (.mv (.t 11)), []⟩,
 ⟨some 6, none, .q (.mv (.t 39)), []⟩,
 ⟨some 7, none, .q (.mv (.t 40)), []⟩,
 ⟨some 8, none, .q (.mv (.v (.bool true))), []⟩]
def c56_15 : ACode := .seq c56_14 .ret
def c56_16 : ACode := .seq c56_13 c56_15
def c56_17 : ACode := .seq c56_9 c56_16
def c56_18 : ACode := .seq c56_8 c56_17
def c56_19 : ACode := .seq c56_3 c56_18
def c56_20 : ACode := .ops [
 ⟨some 42, none, .q (.bin .eql (.t 17) (.v (.int .i64 2))), []⟩,
 ⟨some 41, none, .q (.mv (.t 42)), []⟩]
def c56_21 : ACode := .ops [
 ⟨some 43, none, .q (.mv (.t 1)), []⟩,
 ⟨some 44, none, .q (.fa 2 (.t 3)), []⟩,
 ⟨some 45, none, .q (.ld none (.t 44)), []⟩,
 ⟨some 46, none, .q (.bin .geq (.t 43) (.t 45)), []⟩,
 ⟨some 47, none, .q (.mv (.t 46)), []⟩,
 ⟨some 48, some (47, true), .q (.mv (.t 2)), []⟩,
 ⟨some 49, some (47, true), .q (.fa 2 (.t 3)), []⟩,
 ⟨some 50, some (47, true), .q (.ld none (.t 49)), []⟩,
 ⟨some 51, some (47, true), .q (.fa 3 (.t 3)), []⟩,
 ⟨some 52, some (47, true), .q (.ld none (.t 51)), []⟩,
 ⟨some 53, some (47, true), .q (.bin .add (.t 50) (.t 52)), []⟩,
 ⟨some 54, some (47, true), .q (.bin .lss (.t 48) (.t 53)), []⟩,
 ⟨some 55, none, .q (.pick (.t 47) (.t 54) (.v (.bool false))), []⟩]
def c56_22 : ACode := .ops [
 ⟨some 6, none, .q (.mv (.v (.int .i64 0))), []⟩,
 ⟨some 7, none, .q (.mv (.v (.int .i64 0))), []⟩,
 ⟨some 8, none, .q (.mv (.v (.bool false))), []⟩]
def c56_23 : ACode := .seq c56_22 .ret
def c56_24 : ACode := .cond (.t 55) c56_23 .skip
def c56_25 : ACode := .seq c56_21 c56_24
def c56_26 : ACode := .ops [
 ⟨some 56, none, .q (.mv (.t 1)), []⟩,
 ⟨some 57, none, .q (.fa 2 (.t 3)), []⟩,
 ⟨some 58, none, .q (.ld none (.t 57)), []⟩,
 ⟨some 59, none, .q (.bin .geq (.t 56) (.t 58)), []⟩,
 ⟨some 60, none, .q (.mv (.t 59)), []⟩,
 ⟨some 61, some (60, true), .q (.mv (.t 1)), []⟩,
 ⟨some 62, some (60, true), .q (.fa 2 (.t 3)), []⟩,
 ⟨some 63, some (60, true), .q (.ld none (.t 62)), []⟩,
 ⟨some 64, some (60, true), .q (.fa 3 (.t 3)), []⟩,
 ⟨some 65, some (60, true), .q (.ld none (.t 64)), []⟩,
 ⟨some 66, some (60, true), .q (.bin .add (.t 63) (.t 65)), []⟩,
 ⟨some 67, some (60, true), .q (.bin .lss (.t 61) (.t 66)), []⟩,
 ⟨some 68, none, .q (.pick (.t 60) (.t 67) (.v (.bool false))), []⟩]
def c56_27 : ACode := .ops [
 ⟨some 69, none, .q (.fa 2 (.t 3)), []⟩,
 ⟨some 70, none, .q (.ld none (.t 69)), []⟩,
 ⟨some 71, none, .q (.fa 3 (.t 3)), []⟩,
 ⟨some 72, none, .q (.ld none (.t 71)), []⟩,
 ⟨some 73, none, .q (.bin .add (.t 70) (.t 72)), []⟩,
 ⟨some 1, none, .q (.mv (.t 73)), []⟩]
def c56_28 : ACode := .cond (.t 68) c56_27 .skip
def c56_29 : ACode := .seq c56_26 c56_28
def c56_30 : ACode := .ops [
 ⟨some 74, none, .q (.mv (.t 2)), []⟩,
 ⟨some 75, none, .q (.fa 2 (.t 3)), []⟩,
 ⟨some 76, none, .q (.ld none (.t 75)), []⟩,
 ⟨some 77, none, .q (.bin .geq (.t 74) (.t 76)), []⟩,
 ⟨some 78, none, .q (.mv (.t 77)), []⟩,
 ⟨some 79, some (78, true), .q (.mv (.t 2)), []⟩,
 ⟨some 80, some (78, true), .q (.fa 2 (.t 3)), []⟩,
 ⟨some 81, some (78, true), .q (.ld none (.t 80)), []⟩,
 ⟨some 82, some (78, true), .q (.fa 3 (.t 3)), []⟩,
 ⟨some 83, some (78, true), .q (.ld none (.t 82)), []⟩,
 ⟨some 84, some (78, true), .q (.bin .add (.t 81) (.t 83)), []⟩,
 ⟨some 85, some (78, true), .q (.bin .lss (.t 79) (.t 84)), []⟩,
 ⟨some 86, none, .q (.pick (.t 78) (.t 85) (.v (.bool false))), []⟩]
def c56_31 : ACode := .ops [
 ⟨some 87, none, .q (.fa 2 (.t 3)), []⟩,
 ⟨some 88, none, .q (.ld none (.t 87)), []⟩,
 ⟨some 89, none, .q (.bin .sub (.t 88) (.v (.int .i64 1))), []⟩,
 ⟨some 2, none, .q (.mv (.t 89)), []⟩]
def c56_32 : ACode := .cond (.t 86) c56_31 .skip
def c56_33 : ACode := .seq c56_30 c56_32
def c56_34 : ACode := .seq c56_29 c56_33
def c56_35 : ACode := .seq c56_25 c56_34
def c56_36 : ACode := .cond (.t 41) c56_35 .skip
def c56_37 : ACode := .seq c56_20 c56_36
def c56_38 : ACode := .cond (.t 18) c56_19 c56_37
def c56_39 : ACode := .seq c56_2 c56_38
def c56_40 : ACode := .block 0 c56_39
def c56_41 : ACode := .seq c56_1 c56_40
def c56_42 : ACode := .ops [
 ⟨some 91, none, .q (.ld (some 5) (.t 3)), []⟩,
 ⟨some 92, none, .q (.mv (.t 1)), []⟩,
 ⟨some 93, none, .e (.call 21 [(.t 91), (.t 92)]), []⟩,
 ⟨some 90, none, .q (.mv (.t 93)), []⟩,
 ⟨some 94, none, .q (.ext 0 (.t 90)), []⟩,
 ⟨some 95, none, .q (.ext 1 (.t 90)), []⟩,
 ⟨some 12, none, .q (.mv (.t 94)), []⟩,
 ⟨some 13, none, .q (.mv (.t 95)), []⟩]
def c56_43 : ACode := .ops [
 ⟨some 97, none, .q (.ld (some 5) (.t 3)), []⟩,
 ⟨some 98, none, .q (.mv (.t 2)), []⟩,
 ⟨some 99, none, .e (.call 21 [(.t 97), (.t 98)]), []⟩,
 ⟨some 96, none, .q (.mv (.t 99)), []⟩,
 ⟨some 100, none, .q (.ext 0 (.t 96)), []⟩,
 ⟨some 101, none, .q (.ext 1 (.t 96)), []⟩,
 ⟨some 14, none, .q (.mv (.t 100)), []⟩,
 ⟨some 15, none, .q (.mv (.t 101)), []⟩]
def c56_44 : ACode := .ops [
 ⟨some 102, none, .q (.mv (.t 12)), []⟩,
 ⟨some 103, none, .q (.mv (.t 14)), []⟩,
 ⟨some 104, none, .q (.mnx false (.t 102) (.t 103)), []⟩,
 ⟨some 105, none, .q (.mv (.t 12)), []⟩,
 ⟨some 106, none, .q (.mv (.t 14)), []⟩,
 ⟨some 107, none, .q (.mnx true (.t 105) (.t 106)), []⟩,
 ⟨some 6, none, .q (.mv (.t 104)), []⟩,
 ⟨some 7, none, .q (.mv (.t 107)), []⟩,
 ⟨some 8, none, .q (.mv (.v (.bool true))), []⟩]
def c56_45 : ACode := .seq c56_44 .ret
def c56_46 : ACode := .seq c56_43 c56_45
def c56_47 : ACode := .seq c56_42 c56_46
def c56_48 : ACode := .seq c56_41 c56_47
def c56_49 : ACode := .seq c56_0 c56_48
@[go_sem] theorem c56_0_wp : type_of% (wp_of c56_0.eq_1) := wp_of c56_0.eq_1
@[go_sem] theorem c56_1_wp : type_of% (wp_of c56_1.eq_1) := wp_of c56_1.eq_1
@[go_sem] theorem c56_2_wp : type_of% (wp_of c56_2.eq_1) := wp_of c56_2.eq_1
@[go_sem] theorem c56_3_wp : type_of% (wp_of c56_3.eq_1) := wp_of c56_3.eq_1
@[go_sem] theorem c56_4_wp : type_of% (wp_of c56_4.eq_1) := wp_of c56_4.eq_1
@[go_sem] theorem c56_5_wp : type_of% (wp_of c56_5.eq_1) := wp_of c56_5.eq_1
@[go_sem] theorem c56_6_wp : type_of% (wp_of c56_6.eq_1) := wp_of c56_6.eq_1
@[go_sem] theorem c56_7_wp : type_of% (wp_of c56_7.eq_1) := wp_of c56_7.eq_1
@[go_sem] theorem c56_8_wp : type_of% (wp_of c56_8.eq_1) := wp_of c56_8.eq_1
@[go_sem] theorem c56_9_wp : type_of% (wp_of c56_9.eq_1) := wp_of c56_9.eq_1
@[go_sem] theorem c56_10_wp : type_of% (wp_of c56_10.eq_1) := wp_of c56_10.eq_1
@[go_sem] theorem c56_11_wp : type_of% (wp_of c56_11.eq_1) := wp_of c56_11.eq_1
@[go_sem] theorem c56_12_wp : type_of% (wp_of c56_12.eq_1) := wp_of c56_12.eq_1
@[go_sem] theorem c56_13_wp : type_of% (wp_of c56_13.eq_1) := wp_of c56_13.eq_1
@[go_sem] theorem c56_14_wp : type_of% (wp_of c56_14.eq_1) := wp_of c56_14.eq_1
@[go_sem] theorem c56_15_wp : type_of% (wp_of c56_15.eq_1) := wp_of c56_15.eq_1
@[go_sem] theorem c56_16_wp : type_of% (wp_of c56_16.eq_1) := wp_of c56_16.eq_1
@[go_sem] theorem c56_17_wp : type_of% (wp_of c56_17.eq_1) := wp_of c56_17.eq_1
@[go_sem] theorem c56_18_wp : type_of% (wp_of c56_18.eq_1) := wp_of c56_18.eq_1
@[go_sem] theorem c56_19_wp : type_of% (wp_of c56_19.eq_1) := wp_of c56_19.eq_1
@[go_sem] theorem c56_20_wp : type_of% (wp_of c56_20.eq_1) := wp_of c56_20.eq_1
@[go_sem] theorem c56_21_wp : type_of% (wp_of c56_21.eq_1) := wp_of c56_21.eq_1
@[go_sem] theorem c56_22_wp : type_of% (wp_of c56_22.eq_1) := wp_of c56_22.eq_1
@[go_sem] theorem c56_23_wp : type_of% (wp_of c56_23.eq_1) := wp_of c56_23.eq_1
@[go_sem] theorem c56_24_wp : type_of% (wp_of c56_24.eq_1) := wp_of c56_24.eq_1
@[go_sem] theorem c56_25_wp : type_of% (wp_of c56_25.eq_1) := wp_of c56_25.eq_1
@[go_sem] theorem c56_26_wp : type_of% (wp_of c56_26.eq_1) := wp_of c56_26.eq_1
@[go_sem] theorem c56_27_wp : type_of% (wp_of c56_27.eq_1) := wp_of c56_27.eq_1
@[go_sem] theorem c56_28_wp : type_of% (wp_of c56_28.eq_1) := wp_of c56_28.eq_1
@[go_sem] theorem c56_29_wp : type_of% (wp_of c56_29.eq_1) := wp_of c56_29.eq_1
@[go_sem] theorem c56_30_wp : type_of% (wp_of c56_30.eq_1) := wp_of c56_30.eq_1
@[go_sem] theorem c56_31_wp : type_of% (wp_of c56_31.eq_1) := wp_of c56_31.eq_1
@[go_sem] theorem c56_32_wp : type_of% (wp_of c56_32.eq_1) := wp_of c56_32.eq_1
@[go_sem] theorem c56_33_wp : type_of% (wp_of c56_33.eq_1) := wp_of c56_33.eq_1
@[go_sem] theorem c56_34_wp : type_of% (wp_of c56_34.eq_1) := wp_of c56_34.eq_1
@[go_sem] theorem c56_35_wp : type_of% (wp_of c56_35.eq_1) := wp_of c56_35.eq_1
@[go_sem] theorem c56_36_wp : type_of% (wp_of c56_36.eq_1) := wp_of c56_36.eq_1
@[go_sem] theorem c56_37_wp : type_of% (wp_of c56_37.eq_1) := wp_of c56_37.eq_1
@[go_sem] theorem c56_38_wp : type_of% (wp_of c56_38.eq_1) := wp_of c56_38.eq_1
@[go_sem] theorem c56_39_wp : type_of% (wp_of c56_39.eq_1) := wp_of c56_39.eq_1
@[go_sem] theorem c56_40_wp : type_of% (wp_of c56_40.eq_1) := wp_of c56_40.eq_1
@[go_sem] theorem c56_41_wp : type_of% (wp_of c56_41.eq_1) := wp_of c56_41.eq_1
@[go_sem] theorem c56_42_wp : type_of% (wp_of c56_42.eq_1) := wp_of c56_42.eq_1
@[go_sem] theorem c56_43_wp : type_of% (wp_of c56_43.eq_1) := wp_of c56_43.eq_1
@[go_sem] theorem c56_44_wp : type_of% (wp_of c56_44.eq_1) := wp_of c56_44.eq_1
@[go_sem] theorem c56_45_wp : type_of% (wp_of c56_45.eq_1) := wp_of c56_45.eq_1
@[go_sem] theorem c56_46_wp : type_of% (wp_of c56_46.eq_1) := wp_of c56_46.eq_1
@[go_sem] theorem c56_47_wp : type_of% (wp_of c56_47.eq_1) := wp_of c56_47.eq_1
@[go_sem] theorem c56_48_wp : type_of% (wp_of c56_48.eq_1) := wp_of c56_48.eq_1
@[go_sem] theorem c56_49_wp : type_of% (wp_of c56_49.eq_1) := wp_of c56_49.eq_1
def c56 : AFn := ⟨108, [.t 6, .t 7, .t 8], c56_49⟩
set_option maxRecDepth 100000 in
theorem c56_ok : compF Tryz.prog Tryz.f56 = some c56 := by kernel_rfl
theorem a56 {args : List AV} {σ : ASt} {R : AV → ASt → Prop} (hl : args.length ≤ 108) (h : c56_49.wp Tryz.prog (RetQ [.t 6, .t 7, .t 8] R) (init args) σ) : ACalls Tryz.prog 56 args σ R := acalls_of Tryz.func56 c56_ok hl h
end Go.A
namespace Go.A
open Go.Proofs Go.Lib
set_option maxRecDepth 100000
set_option linter.unusedSimpArgs false
set_option linter.unusedVariables false
def Edt.span (e : Edt) (f t : Int) : Int × Int × Bool :=
  if e.kind = 1 then
    if (e.place f).2 = true then ((e.place f).1, if (e.place t).2 = true then (e.place t).1 else e.most - 1, true) else (0, 0, false)
  else if e.kind = 2 then
    if e.at' ≤ f ∧ t < e.at' + e.n then (0, 0, false)
    else
      let f' := if e.at' ≤ f ∧ f < e.at' + e.n then e.at' + e.n else f
      let t' := if e.at' ≤ t ∧ t < e.at' + e.n then e.at' - 1 else t
      (min (e.place f').1 (e.place t').1, max (e.place f').1 (e.place t').1, true)
  else (min (e.place f).1 (e.place t).1, max (e.place f).1 (e.place t).1, true)
theorem shspan_ok (e : Edt) (he : e.fit) (f t : Int) (h0 : 0 ≤ f) (h1 : f ≤ t) (h2 : t ≤ 4000) :
    Pure Tryz.prog 56 [e.av, .int .i64 f, .int .i64 t] (.tuple [.int .i64 (e.span f t).1, .int .i64 (e.span f t).2.1, .bool (e.span f t).2.2]) := by
  intro σ
  have hm := shmost_ok e
  have hr := most_rng e
  have hp : ∀ i, 0 ≤ i → i ≤ 10000 → Pure Tryz.prog 21 [e.av, .int .i64 i] (.tuple [.int .i64 (e.place i).1, .bool (e.place i).2]) := fun i h0 h1 => shplace_ok e he i h0 h1
  obtain ⟨a0, a1, n0, n1, ht⟩ := he
  obtain ⟨q, hq⟩ : ∃ q, e.span f t = q := ⟨_, rfl⟩
  rw [hq]
  unfold Edt.span at hq
  generalize e.most = M at *
  generalize e.place = pl at *
  unfold Edt.av at hm hp ⊢
  by_cases k1 : e.kind = 1
  · rw [if_pos k1] at hq
    have h3 := hp f (by omega) (by omega)
    have h4 := hp t (by omega) (by omega)
    obtain ⟨⟨i, ok⟩, hi⟩ : ∃ r, pl f = r := ⟨_, rfl⟩
    obtain ⟨⟨j, ok2⟩, hj⟩ : ∃ r, pl t = r := ⟨_, rfl⟩
    rw [hi] at hq h3
    rw [hj] at hq h4
    dsimp only at hq h3 h4
    cases ok with
    | false =>
      rw [if_neg (by simp)] at hq
      subst hq
      refine a56 (by simp) ?_
      simp (disch := first | assumption | omega | (simp only [List.length_append, List.length_cons, List.length_nil]; omega)) only [go_sem]
      refine boxC_by rfl fun b hb => ?_
      simp (disch := first | assumption | omega | (simp only [List.length_append, List.length_cons, List.length_nil]; omega)) only [go_sem, Nat.reduceEqDiff, Nat.reduceLeDiff, ↓reduceIte, k1]
      refine h3.use ?_
      simp (disch := first | assumption | omega | (simp only [List.length_append, List.length_cons, List.length_nil]; omega)) only [go_sem, Nat.reduceEqDiff, ↓reduceIte]
      exact retC_by (Drop.set hb) (.refl _) ⟨rfl, rfl⟩
    | true =>
      rw [if_pos rfl] at hq
      cases ok2 with
      | true =>
        rw [if_pos rfl] at hq
        subst hq
        refine a56 (by simp) ?_
        simp (disch := first | assumption | omega | (simp only [List.length_append, List.length_cons, List.length_nil]; omega)) only [go_sem]
        refine boxC_by rfl fun b hb => ?_
        simp (disch := first | assumption | omega | (simp only [List.length_append, List.length_cons, List.length_nil]; omega)) only [go_sem, Nat.reduceEqDiff, Nat.reduceLeDiff, ↓reduceIte, k1]
        refine h3.use ?_
        simp (disch := first | assumption | omega | (simp only [List.length_append, List.length_cons, List.length_nil]; omega)) only [go_sem, Nat.reduceEqDiff, Nat.reduceLeDiff, ↓reduceIte]
        refine h4.use ?_
        simp (disch := first | assumption | omega | (simp only [List.length_append, List.length_cons, List.length_nil]; omega)) only [go_sem, Nat.reduceEqDiff, ↓reduceIte]
        exact retC_by (Drop.set hb) (.refl _) ⟨rfl, rfl⟩
      | false =>
        rw [if_neg (by simp)] at hq
        subst hq
        refine a56 (by simp) ?_
        simp (disch := first | assumption | omega | (simp only [List.length_append, List.length_cons, List.length_nil]; omega)) only [go_sem]
        refine boxC_by rfl fun b hb => ?_
        simp (disch := first | assumption | omega | (simp only [List.length_append, List.length_cons, List.length_nil]; omega)) only [go_sem, Nat.reduceEqDiff, Nat.reduceLeDiff, ↓reduceIte, k1]
        refine h3.use ?_
        simp (disch := first | assumption | omega | (simp only [List.length_append, List.length_cons, List.length_nil]; omega)) only [go_sem, Nat.reduceEqDiff, Nat.reduceLeDiff, ↓reduceIte]
        refine h4.use ?_
        simp (disch := first | assumption | omega | (simp only [List.length_append, List.length_cons, List.length_nil]; omega)) only [go_sem, Nat.reduceEqDiff, Nat.reduceLeDiff, ↓reduceIte]
        refine hm.use ?_
        simp (disch := first | assumption | omega | (simp only [List.length_append, List.length_cons, List.length_nil]; omega)) only [go_sem, Nat.reduceEqDiff, ↓reduceIte]
        exact retC_by (Drop.set hb) (.refl _) ⟨rfl, rfl⟩
  rw [if_neg k1] at hq
  by_cases k2 : e.kind = 2
  · rw [if_pos k2] at hq
    by_cases g1 : e.at' ≤ f
    · by_cases g2 : t < e.at' + e.n
      · rw [if_pos ⟨g1, g2⟩] at hq
        subst hq
        refine a56 (by simp) ?_
        simp (disch := first | assumption | omega | (simp only [List.length_append, List.length_cons, List.length_nil]; omega)) only [go_sem]
        refine boxC_by rfl fun b hb => ?_
        simp (disch := first | assumption | omega | (simp only [List.length_append, List.length_cons, List.length_nil]; omega)) only [go_sem, Nat.reduceEqDiff, Int.reduceEq, ↓reduceIte, k2, g1, g2]
        exact retC_by (Drop.set hb) (.refl _) ⟨rfl, rfl⟩
      · rw [if_neg (fun h => g2 h.2)] at hq
        have g3 : e.at' ≤ t := by omega
        rw [if_neg (c := e.at' ≤ t ∧ t < e.at' + e.n) (fun h => g2 h.2)] at hq
        by_cases g4 : f < e.at' + e.n
        · rw [if_pos ⟨g1, g4⟩] at hq
          have h3 := hp (e.at' + e.n) (by omega) (by omega)
          have h4 := hp t (by omega) (by omega)
          dsimp only at hq
          subst hq
          refine a56 (by simp) ?_
          simp (disch := first | assumption | omega | (simp only [List.length_append, List.length_cons, List.length_nil]; omega)) only [go_sem]
          refine boxC_by rfl fun b hb => ?_
          simp (disch := first | assumption | omega | (simp only [List.length_append, List.length_cons, List.length_nil]; omega)) only [go_sem, Nat.reduceEqDiff, Nat.reduceLeDiff, Int.reduceEq, ↓reduceIte, k2, g1, g2, g3, g4]
          refine h3.use ?_
          simp (disch := first | assumption | omega | (simp only [List.length_append, List.length_cons, List.length_nil]; omega)) only [go_sem, Nat.reduceEqDiff, Nat.reduceLeDiff, ↓reduceIte]
          refine h4.use ?_
          simp (disch := first | assumption | omega | (simp only [List.length_append, List.length_cons, List.length_nil]; omega)) only [go_sem, Nat.reduceEqDiff, ↓reduceIte]
          exact retC_by (Drop.set hb) (.refl _) ⟨rfl, rfl⟩
        · rw [if_neg (fun h => g4 h.2)] at hq
          have h3 := hp f (by omega) (by omega)
          have h4 := hp t (by omega) (by omega)
          dsimp only at hq
          subst hq
          refine a56 (by simp) ?_
          simp (disch := first | assumption | omega | (simp only [List.length_append, List.length_cons, List.length_nil]; omega)) only [go_sem]
          refine boxC_by rfl fun b hb => ?_
          simp (disch := first | assumption | omega | (simp only [List.length_append, List.length_cons, List.length_nil]; omega)) only [go_sem, Nat.reduceEqDiff, Nat.reduceLeDiff, Int.reduceEq, ↓reduceIte, k2, g1, g2, g3, g4]
          refine h3.use ?_
          simp (disch := first | assumption | omega | (simp only [List.length_append, List.length_cons, List.length_nil]; omega)) only [go_sem, Nat.reduceEqDiff, Nat.reduceLeDiff, ↓reduceIte]
          refine h4.use ?_
          simp (disch := first | assumption | omega | (simp only [List.length_append, List.length_cons, List.length_nil]; omega)) only [go_sem, Nat.reduceEqDiff, ↓reduceIte]
          exact retC_by (Drop.set hb) (.refl _) ⟨rfl, rfl⟩
    · rw [if_neg (fun h => g1 h.1), if_neg (c := e.at' ≤ f ∧ f < e.at' + e.n) (fun h => g1 h.1)] at hq
      have h3 := hp f (by omega) (by omega)
      by_cases g3 : e.at' ≤ t
      · by_cases g2 : t < e.at' + e.n
        · rw [if_pos ⟨g3, g2⟩] at hq
          have h4 := hp (e.at' - 1) (by omega) (by omega)
          dsimp only at hq
          subst hq
          refine a56 (by simp) ?_
          simp (disch := first | assumption | omega | (simp only [List.length_append, List.length_cons, List.length_nil]; omega)) only [go_sem]
          refine boxC_by rfl fun b hb => ?_
          simp (disch := first | assumption | omega | (simp only [List.length_append, List.length_cons, List.length_nil]; omega)) only [go_sem, Nat.reduceEqDiff, Nat.reduceLeDiff, Int.reduceEq, ↓reduceIte, k2, g1, g2, g3]
          refine h3.use ?_
          simp (disch := first | assumption | omega | (simp only [List.length_append, List.length_cons, List.length_nil]; omega)) only [go_sem, Nat.reduceEqDiff, Nat.reduceLeDiff, ↓reduceIte]
          refine h4.use ?_
          simp (disch := first | assumption | omega | (simp only [List.length_append, List.length_cons, List.length_nil]; omega)) only [go_sem, Nat.reduceEqDiff, ↓reduceIte]
          exact retC_by (Drop.set hb) (.refl _) ⟨rfl, rfl⟩
        · rw [if_neg (fun h => g2 h.2)] at hq
          have h4 := hp t (by omega) (by omega)
          dsimp only at hq
          subst hq
          refine a56 (by simp) ?_
          simp (disch := first | assumption | omega | (simp only [List.length_append, List.length_cons, List.length_nil]; omega)) only [go_sem]
          refine boxC_by rfl fun b hb => ?_
          simp (disch := first | assumption | omega | (simp only [List.length_append, List.length_cons, List.length_nil]; omega)) only [go_sem, Nat.reduceEqDiff, Nat.reduceLeDiff, Int.reduceEq, ↓reduceIte, k2, g1, g2, g3]
          refine h3.use ?_
          simp (disch := first | assumption | omega | (simp only [List.length_append, List.length_cons, List.length_nil]; omega)) only [go_sem, Nat.reduceEqDiff, Nat.reduceLeDiff, ↓reduceIte]
          refine h4.use ?_
          simp (disch := first | assumption | omega | (simp only [List.length_append, List.length_cons, List.length_nil]; omega)) only [go_sem, Nat.reduceEqDiff, ↓reduceIte]
          exact retC_by (Drop.set hb) (.refl _) ⟨rfl, rfl⟩
      · rw [if_neg (fun h => g3 h.1)] at hq
        have h4 := hp t (by omega) (by omega)
        dsimp only at hq
        subst hq
        refine a56 (by simp) ?_
        simp (disch := first | assumption | omega | (simp only [List.length_append, List.length_cons, List.length_nil]; omega)) only [go_sem]
        refine boxC_by rfl fun b hb => ?_
        simp (disch := first | assumption | omega | (simp only [List.length_append, List.length_cons, List.length_nil]; omega)) only [go_sem, Nat.reduceEqDiff, Nat.reduceLeDiff, Int.reduceEq, ↓reduceIte, k2, g1, g3]
        refine h3.use ?_
        simp (disch := first | assumption | omega | (simp only [List.length_append, List.length_cons, List.length_nil]; omega)) only [go_sem, Nat.reduceEqDiff, Nat.reduceLeDiff, ↓reduceIte]
        refine h4.use ?_
        simp (disch := first | assumption | omega | (simp only [List.length_append, List.length_cons, List.length_nil]; omega)) only [go_sem, Nat.reduceEqDiff, ↓reduceIte]
        exact retC_by (Drop.set hb) (.refl _) ⟨rfl, rfl⟩
  · rw [if_neg k2] at hq
    have h3 := hp f (by omega) (by omega)
    have h4 := hp t (by omega) (by omega)
    subst hq
    refine a56 (by simp) ?_
    simp (disch := first | assumption | omega | (simp only [List.length_append, List.length_cons, List.length_nil]; omega)) only [go_sem]
    refine boxC_by rfl fun b hb => ?_
    simp (disch := first | assumption | omega | (simp only [List.length_append, List.length_cons, List.length_nil]; omega)) only [go_sem, Nat.reduceEqDiff, Nat.reduceLeDiff, ↓reduceIte, k1, k2]
    refine h3.use ?_
    simp (disch := first | assumption | omega | (simp only [List.length_append, List.length_cons, List.length_nil]; omega)) only [go_sem, Nat.reduceEqDiff, Nat.reduceLeDiff, ↓reduceIte]
    refine h4.use ?_
    simp (disch := first | assumption | omega | (simp only [List.length_append, List.length_cons, List.length_nil]; omega)) only [go_sem, Nat.reduceEqDiff, ↓reduceIte]
    exact retC_by (Drop.set hb) (.refl _) ⟨rfl, rfl⟩
def goneN : Nd := .mk 4 40000 [] .zero .zero []
theorem gone_av : goneN.av = .agg [.int .i64 4, .int .i64 40000, .str [], .int .i64 0, .int .i64 0, .bool false, .bool false, .int .i64 0, .int .i64 0, .bool false, .bool false, .sl .shr []] := by
  unfold goneN
  rw [Nd.av_cs]; rfl
def Edt.of (e : Edt) (a : Ref) : Int := if e.cols = true then a.col else a.row
def Edt.set (e : Edt) (a : Ref) (i : Int) : Ref := if e.cols = true then ⟨a.row, i, a.absRow, a.absCol⟩ else ⟨i, a.col, a.absRow, a.absCol⟩
def Edt.cell (e : Edt) : Nd → Nd
  | .mk op n s a b ks => if (e.place (e.of a)).2 = true then .mk op n s (e.set a (e.place (e.of a)).1) b ks else goneN
def Edt.area (e : Edt) : Nd → Nd
  | .mk op n s a b ks =>
    if (e.span (min (e.of a) (e.of b)) (max (e.of a) (e.of b))).2.2 = true then
      if e.of b < e.of a then .mk op n s (e.set a (e.span (min (e.of a) (e.of b)) (max (e.of a) (e.of b))).2.1) (e.set b (e.span (min (e.of a) (e.of b)) (max (e.of a) (e.of b))).1) ks
      else .mk op n s (e.set a (e.span (min (e.of a) (e.of b)) (max (e.of a) (e.of b))).1) (e.set b (e.span (min (e.of a) (e.of b)) (max (e.of a) (e.of b))).2.1) ks
    else goneN
def Edt.node (e : Edt) (x : Nd) : Nd := if x.op = 5 then e.cell x else e.area x
def Edt.tree (e : Edt) (n : Nd) : Nd := Nd.map e.node n
theorem of_rng {e : Edt} {a : Ref} (h : a.good = true) : 0 ≤ e.of a ∧ e.of a < 3000 := by
  simp only [Ref.good, decide_eq_true_eq] at h
  unfold Edt.of
  split <;> omega
theorem shcell_ok (e : Edt) (he : e.fit) (op n : Int) (s : List UInt8) (a b : Ref) (ks : List Nd) (ha : a.good = true) :
    Pure Tryz.prog 40 [e.av, (Nd.mk op n s a b ks).av] (e.cell (.mk op n s a b ks)).av := by
  intro σ
  have hg : Pure Tryz.prog 35 [] (.agg [.int .i64 4, .int .i64 40000, .str [], .int .i64 0, .int .i64 0, .bool false, .bool false, .int .i64 0, .int .i64 0, .bool false, .bool false, .sl .shr []]) := by
    have := shgone_ok
    rw [Nd.av_cs] at this
    exact this
  have h0 := of_rng (e := e) ha
  have hp := shplace_ok e he (e.of a) (by omega) (by omega)
  obtain ⟨⟨i, ok⟩, hq⟩ : ∃ q, e.place (e.of a) = q := ⟨_, rfl⟩
  rw [Edt.cell, hq]
  rw [hq] at hp
  dsimp only at hp ⊢
  have hav : ∀ r : Ref, (Nd.mk op n s r b ks).av = .agg [.int .i64 op, .int .i64 n, .str s, .int .i64 r.row, .int .i64 r.col, .bool r.absRow, .bool r.absCol, .int .i64 b.row, .int .i64 b.col, .bool b.absRow, .bool b.absCol, .sl .shr (ks.map Nd.av)] := fun r => Nd.av_cs ..
  rw [hav]
  generalize ks.map Nd.av = L at *
  cases hb : e.cols with
  | true =>
    have ho : e.of a = a.col := by unfold Edt.of; rw [if_pos hb]
    have hs : e.set a i = ⟨a.row, i, a.absRow, a.absCol⟩ := by unfold Edt.set; rw [if_pos hb]
    rw [ho] at hp
    rw [hs]
    unfold Edt.av at hp ⊢
    cases ok with
    | true =>
      rw [if_pos rfl, hav]
      refine a40 (by simp) ?_
      simp (disch := first | assumption | omega | (simp only [List.length_append, List.length_cons, List.length_nil]; omega)) only [go_sem]
      refine boxC_by rfl fun c hc => ?_
      simp (disch := first | assumption | omega | (simp only [List.length_append, List.length_cons, List.length_nil]; omega)) only [go_sem, Nat.reduceEqDiff, ↓reduceIte]
      refine boxC_by rfl fun d hd => ?_
      repeat (with_reducible replace hd := set_none hd; obtain ⟨_, _, hd⟩ := hd)
      simp (disch := first | assumption | omega | (simp only [List.length_append, List.length_cons, List.length_nil]; omega)) only [go_sem]
      refine allocC_by fun t ht => ?_
      repeat (with_reducible replace ht := set_none ht; obtain ⟨_, _, ht⟩ := ht)
      have hdt : d ≠ t := by assumption
      have hsw : ∀ (ρ : ASt) (X Y Z : Option Role), ((ρ.set d X).set t Y).set d Z = (ρ.set d Z).set t Y := fun _ _ _ _ => set_mid hdt
      simp (disch := first | assumption | omega | (simp only [List.length_append, List.length_cons, List.length_nil]; omega)) only [go_sem, Nat.reduceEqDiff, Nat.reduceAdd, Nat.reduceLeDiff, ↓reduceIte, hb]
      refine hp.use ?_
      simp (disch := first | assumption | omega | (simp only [List.length_append, List.length_cons, List.length_nil]; omega)) only [go_sem, Nat.reduceEqDiff, Nat.reduceAdd, Nat.reduceLeDiff, ↓reduceIte, Bool.true_and, hsw, ASt.set_set]
      exact retC_by (by repeat' (first | exact Drop.refl _ | with_reducible refine Drop.off ?_ (by assumption))) (.refl _) ⟨rfl, rfl⟩
    | false =>
      rw [if_neg (by simp), gone_av]
      refine a40 (by simp) ?_
      simp (disch := first | assumption | omega | (simp only [List.length_append, List.length_cons, List.length_nil]; omega)) only [go_sem]
      refine boxC_by rfl fun c hc => ?_
      simp (disch := first | assumption | omega | (simp only [List.length_append, List.length_cons, List.length_nil]; omega)) only [go_sem, Nat.reduceEqDiff, ↓reduceIte]
      refine boxC_by rfl fun d hd => ?_
      repeat (with_reducible replace hd := set_none hd; obtain ⟨_, _, hd⟩ := hd)
      simp (disch := first | assumption | omega | (simp only [List.length_append, List.length_cons, List.length_nil]; omega)) only [go_sem]
      refine allocC_by fun t ht => ?_
      repeat (with_reducible replace ht := set_none ht; obtain ⟨_, _, ht⟩ := ht)
      simp (disch := first | assumption | omega | (simp only [List.length_append, List.length_cons, List.length_nil]; omega)) only [go_sem, Nat.reduceEqDiff, Nat.reduceAdd, Nat.reduceLeDiff, ↓reduceIte, hb]
      refine hp.use ?_
      simp (disch := first | assumption | omega | (simp only [List.length_append, List.length_cons, List.length_nil]; omega)) only [go_sem, Nat.reduceEqDiff, ↓reduceIte]
      refine hg.use ?_
      simp (disch := first | assumption | omega | (simp only [List.length_append, List.length_cons, List.length_nil]; omega)) only [go_sem, Nat.reduceEqDiff, Nat.reduceAdd, Nat.reduceLeDiff, ↓reduceIte, Bool.true_and, ASt.set_set]
      exact retC_by (by repeat' (first | exact Drop.refl _ | with_reducible refine Drop.off ?_ (by assumption))) (.refl _) ⟨rfl, rfl⟩
  | false =>
    have ho : e.of a = a.row := by unfold Edt.of; rw [if_neg (by simp [hb])]
    have hs : e.set a i = ⟨i, a.col, a.absRow, a.absCol⟩ := by unfold Edt.set; rw [if_neg (by simp [hb])]
    rw [ho] at hp
    rw [hs]
    unfold Edt.av at hp ⊢
    cases ok with
    | true =>
      rw [if_pos rfl, hav]
      refine a40 (by simp) ?_
      simp (disch := first | assumption | omega | (simp only [List.length_append, List.length_cons, List.length_nil]; omega)) only [go_sem]
      refine boxC_by rfl fun c hc => ?_
      simp (disch := first | assumption | omega | (simp only [List.length_append, List.length_cons, List.length_nil]; omega)) only [go_sem, Nat.reduceEqDiff, ↓reduceIte]
      refine boxC_by rfl fun d hd => ?_
      repeat (with_reducible replace hd := set_none hd; obtain ⟨_, _, hd⟩ := hd)
      simp (disch := first | assumption | omega | (simp only [List.length_append, List.length_cons, List.length_nil]; omega)) only [go_sem]
      refine allocC_by fun t ht => ?_
      repeat (with_reducible replace ht := set_none ht; obtain ⟨_, _, ht⟩ := ht)
      have hdt : d ≠ t := by assumption
      have hsw : ∀ (ρ : ASt) (X Y Z : Option Role), ((ρ.set d X).set t Y).set d Z = (ρ.set d Z).set t Y := fun _ _ _ _ => set_mid hdt
      simp (disch := first | assumption | omega | (simp only [List.length_append, List.length_cons, List.length_nil]; omega)) only [go_sem, Nat.reduceEqDiff, Nat.reduceLeDiff, ↓reduceIte, hb]
      refine hp.use ?_
      simp (disch := first | assumption | omega | (simp only [List.length_append, List.length_cons, List.length_nil]; omega)) only [go_sem, Nat.reduceEqDiff, Nat.reduceAdd, Nat.reduceLeDiff, ↓reduceIte, Bool.true_and, hsw, ASt.set_set]
      exact retC_by (by repeat' (first | exact Drop.refl _ | with_reducible refine Drop.off ?_ (by assumption))) (.refl _) ⟨rfl, rfl⟩
    | false =>
      rw [if_neg (by simp), gone_av]
      refine a40 (by simp) ?_
      simp (disch := first | assumption | omega | (simp only [List.length_append, List.length_cons, List.length_nil]; omega)) only [go_sem]
      refine boxC_by rfl fun c hc => ?_
      simp (disch := first | assumption | omega | (simp only [List.length_append, List.length_cons, List.length_nil]; omega)) only [go_sem, Nat.reduceEqDiff, ↓reduceIte]
      refine boxC_by rfl fun d hd => ?_
      repeat (with_reducible replace hd := set_none hd; obtain ⟨_, _, hd⟩ := hd)
      simp (disch := first | assumption | omega | (simp only [List.length_append, List.length_cons, List.length_nil]; omega)) only [go_sem]
      refine allocC_by fun t ht => ?_
      repeat (with_reducible replace ht := set_none ht; obtain ⟨_, _, ht⟩ := ht)
      simp (disch := first | assumption | omega | (simp only [List.length_append, List.length_cons, List.length_nil]; omega)) only [go_sem, Nat.reduceEqDiff, Nat.reduceLeDiff, ↓reduceIte, hb]
      refine hp.use ?_
      simp (disch := first | assumption | omega | (simp only [List.length_append, List.length_cons, List.length_nil]; omega)) only [go_sem, Nat.reduceEqDiff, ↓reduceIte]
      refine hg.use ?_
      simp (disch := first | assumption | omega | (simp only [List.length_append, List.length_cons, List.length_nil]; omega)) only [go_sem, Nat.reduceEqDiff, Nat.reduceAdd, Nat.reduceLeDiff, ↓reduceIte, Bool.true_and, ASt.set_set]
      exact retC_by (by repeat' (first | exact Drop.refl _ | with_reducible refine Drop.off ?_ (by assumption))) (.refl _) ⟨rfl, rfl⟩
theorem sharea_ok (e : Edt) (he : e.fit) (op n : Int) (s : List UInt8) (a b : Ref) (ks : List Nd) (ha : a.good = true) (hb' : b.good = true) :
    Pure Tryz.prog 41 [e.av, (Nd.mk op n s a b ks).av] (e.area (.mk op n s a b ks)).av := by
  intro σ
  have hg : Pure Tryz.prog 35 [] (.agg [.int .i64 4, .int .i64 40000, .str [], .int .i64 0, .int .i64 0, .bool false, .bool false, .int .i64 0, .int .i64 0, .bool false, .bool false, .sl .shr []]) := by
    have := shgone_ok
    rw [Nd.av_cs] at this
    exact this
  have h0 := of_rng (e := e) ha
  have h1 := of_rng (e := e) hb'
  have hp := shspan_ok e he (min (e.of a) (e.of b)) (max (e.of a) (e.of b)) (by omega) (by omega) (by omega)
  obtain ⟨⟨i, j, ok⟩, hq⟩ : ∃ q, e.span (min (e.of a) (e.of b)) (max (e.of a) (e.of b)) = q := ⟨_, rfl⟩
  rw [Edt.area, hq]
  rw [hq] at hp
  dsimp only at hp ⊢
  have hav : ∀ r u : Ref, (Nd.mk op n s r u ks).av = .agg [.int .i64 op, .int .i64 n, .str s, .int .i64 r.row, .int .i64 r.col, .bool r.absRow, .bool r.absCol, .int .i64 u.row, .int .i64 u.col, .bool u.absRow, .bool u.absCol, .sl .shr (ks.map Nd.av)] := fun r u => Nd.av_cs ..
  cases hb : e.cols with
  | true =>
    have ho : ∀ r : Ref, e.of r = r.col := fun r => by unfold Edt.of; rw [if_pos hb]
    have hs : ∀ (r : Ref) (k : Int), e.set r k = ⟨r.row, k, r.absRow, r.absCol⟩ := fun r k => by unfold Edt.set; rw [if_pos hb]
    rw [ho, ho] at hp ⊢
    unfold Edt.av at hp ⊢
    cases ok with
    | true =>
      rw [if_pos rfl]
      by_cases hlt : b.col < a.col
      · rw [if_pos hlt, hs, hs, hav, hav]
        generalize ks.map Nd.av = L at *
        refine a41 (by simp) ?_
        simp (disch := first | assumption | omega | (simp only [List.length_append, List.length_cons, List.length_nil]; omega)) only [go_sem]
        refine boxC_by rfl fun c hc => ?_
        simp (disch := first | assumption | omega | (simp only [List.length_append, List.length_cons, List.length_nil]; omega)) only [go_sem, Nat.reduceEqDiff, ↓reduceIte]
        refine boxC_by rfl fun d hd => ?_
        repeat (with_reducible replace hd := set_none hd; obtain ⟨_, _, hd⟩ := hd)
        simp (disch := first | assumption | omega | (simp only [List.length_append, List.length_cons, List.length_nil]; omega)) only [go_sem]
        refine allocC_by fun t ht => ?_
        repeat (with_reducible replace ht := set_none ht; obtain ⟨_, _, ht⟩ := ht)
        have hdt : d ≠ t := by assumption
        have hsw : ∀ (ρ : ASt) (X Y Z : Option Role), ((ρ.set d X).set t Y).set d Z = (ρ.set d Z).set t Y := fun _ _ _ _ => set_mid hdt
        simp (disch := first | assumption | omega | (simp only [List.length_append, List.length_cons, List.length_nil]; omega)) only [go_sem, Nat.reduceEqDiff, Nat.reduceAdd, Nat.reduceLeDiff, ↓reduceIte, hb, hlt]
        refine hp.use ?_
        simp (disch := first | assumption | omega | (simp only [List.length_append, List.length_cons, List.length_nil]; omega)) only [go_sem, Nat.reduceEqDiff, Nat.reduceAdd, Nat.reduceLeDiff, ↓reduceIte, Bool.true_and, hsw, ASt.set_set]
        exact retC_by (by repeat' (first | exact Drop.refl _ | with_reducible refine Drop.off ?_ (by assumption))) (.refl _) ⟨rfl, rfl⟩
      · rw [if_neg hlt, hs, hs, hav, hav]
        generalize ks.map Nd.av = L at *
        refine a41 (by simp) ?_
        simp (disch := first | assumption | omega | (simp only [List.length_append, List.length_cons, List.length_nil]; omega)) only [go_sem]
        refine boxC_by rfl fun c hc => ?_
        simp (disch := first | assumption | omega | (simp only [List.length_append, List.length_cons, List.length_nil]; omega)) only [go_sem, Nat.reduceEqDiff, ↓reduceIte]
        refine boxC_by rfl fun d hd => ?_
        repeat (with_reducible replace hd := set_none hd; obtain ⟨_, _, hd⟩ := hd)
        simp (disch := first | assumption | omega | (simp only [List.length_append, List.length_cons, List.length_nil]; omega)) only [go_sem]
        refine allocC_by fun t ht => ?_
        repeat (with_reducible replace ht := set_none ht; obtain ⟨_, _, ht⟩ := ht)
        have hdt : d ≠ t := by assumption
        have hsw : ∀ (ρ : ASt) (X Y Z : Option Role), ((ρ.set d X).set t Y).set d Z = (ρ.set d Z).set t Y := fun _ _ _ _ => set_mid hdt
        simp (disch := first | assumption | omega | (simp only [List.length_append, List.length_cons, List.length_nil]; omega)) only [go_sem, Nat.reduceEqDiff, Nat.reduceAdd, Nat.reduceLeDiff, ↓reduceIte, hb, hlt]
        refine hp.use ?_
        simp (disch := first | assumption | omega | (simp only [List.length_append, List.length_cons, List.length_nil]; omega)) only [go_sem, Nat.reduceEqDiff, Nat.reduceAdd, Nat.reduceLeDiff, ↓reduceIte, Bool.true_and, hsw, ASt.set_set]
        exact retC_by (by repeat' (first | exact Drop.refl _ | with_reducible refine Drop.off ?_ (by assumption))) (.refl _) ⟨rfl, rfl⟩
    | false =>
      rw [if_neg (by simp), hav, gone_av]
      generalize ks.map Nd.av = L at *
      refine a41 (by simp) ?_
      simp (disch := first | assumption | omega | (simp only [List.length_append, List.length_cons, List.length_nil]; omega)) only [go_sem]
      refine boxC_by rfl fun c hc => ?_
      simp (disch := first | assumption | omega | (simp only [List.length_append, List.length_cons, List.length_nil]; omega)) only [go_sem, Nat.reduceEqDiff, ↓reduceIte]
      refine boxC_by rfl fun d hd => ?_
      repeat (with_reducible replace hd := set_none hd; obtain ⟨_, _, hd⟩ := hd)
      simp (disch := first | assumption | omega | (simp only [List.length_append, List.length_cons, List.length_nil]; omega)) only [go_sem]
      refine allocC_by fun t ht => ?_
      repeat (with_reducible replace ht := set_none ht; obtain ⟨_, _, ht⟩ := ht)
      simp (disch := first | assumption | omega | (simp only [List.length_append, List.length_cons, List.length_nil]; omega)) only [go_sem, Nat.reduceEqDiff, Nat.reduceAdd, Nat.reduceLeDiff, ↓reduceIte, hb]
      refine hp.use ?_
      simp (disch := first | assumption | omega | (simp only [List.length_append, List.length_cons, List.length_nil]; omega)) only [go_sem, Nat.reduceEqDiff, ↓reduceIte]
      refine hg.use ?_
      simp (disch := first | assumption | omega | (simp only [List.length_append, List.length_cons, List.length_nil]; omega)) only [go_sem, Nat.reduceEqDiff, Nat.reduceAdd, Nat.reduceLeDiff, ↓reduceIte, Bool.true_and, ASt.set_set]
      exact retC_by (by repeat' (first | exact Drop.refl _ | with_reducible refine Drop.off ?_ (by assumption))) (.refl _) ⟨rfl, rfl⟩
  | false =>
    have ho : ∀ r : Ref, e.of r = r.row := fun r => by unfold Edt.of; rw [if_neg (by simp [hb])]
    have hs : ∀ (r : Ref) (k : Int), e.set r k = ⟨k, r.col, r.absRow, r.absCol⟩ := fun r k => by unfold Edt.set; rw [if_neg (by simp [hb])]
    rw [ho, ho] at hp ⊢
    unfold Edt.av at hp ⊢
    cases ok with
    | true =>
      rw [if_pos rfl]
      by_cases hlt : b.row < a.row
      · rw [if_pos hlt, hs, hs, hav, hav]
        generalize ks.map Nd.av = L at *
        refine a41 (by simp) ?_
        simp (disch := first | assumption | omega | (simp only [List.length_append, List.length_cons, List.length_nil]; omega)) only [go_sem]
        refine boxC_by rfl fun c hc => ?_
        simp (disch := first | assumption | omega | (simp only [List.length_append, List.length_cons, List.length_nil]; omega)) only [go_sem, Nat.reduceEqDiff, ↓reduceIte]
        refine boxC_by rfl fun d hd => ?_
        repeat (with_reducible replace hd := set_none hd; obtain ⟨_, _, hd⟩ := hd)
        simp (disch := first | assumption | omega | (simp only [List.length_append, List.length_cons, List.length_nil]; omega)) only [go_sem]
        refine allocC_by fun t ht => ?_
        repeat (with_reducible replace ht := set_none ht; obtain ⟨_, _, ht⟩ := ht)
        have hdt : d ≠ t := by assumption
        have hsw : ∀ (ρ : ASt) (X Y Z : Option Role), ((ρ.set d X).set t Y).set d Z = (ρ.set d Z).set t Y := fun _ _ _ _ => set_mid hdt
        simp (disch := first | assumption | omega | (simp only [List.length_append, List.length_cons, List.length_nil]; omega)) only [go_sem, Nat.reduceEqDiff, Nat.reduceLeDiff, ↓reduceIte, hb, hlt]
        refine hp.use ?_
        simp (disch := first | assumption | omega | (simp only [List.length_append, List.length_cons, List.length_nil]; omega)) only [go_sem, Nat.reduceEqDiff, Nat.reduceAdd, Nat.reduceLeDiff, ↓reduceIte, Bool.true_and, hsw, ASt.set_set]
        exact retC_by (by repeat' (first | exact Drop.refl _ | with_reducible refine Drop.off ?_ (by assumption))) (.refl _) ⟨rfl, rfl⟩
      · rw [if_neg hlt, hs, hs, hav, hav]
        generalize ks.map Nd.av = L at *
        refine a41 (by simp) ?_
        simp (disch := first | assumption | omega | (simp only [List.length_append, List.length_cons, List.length_nil]; omega)) only [go_sem]
        refine boxC_by rfl fun c hc => ?_
        simp (disch := first | assumption | omega | (simp only [List.length_append, List.length_cons, List.length_nil]; omega)) only [go_sem, Nat.reduceEqDiff, ↓reduceIte]
        refine boxC_by rfl fun d hd => ?_
        repeat (with_reducible replace hd := set_none hd; obtain ⟨_, _, hd⟩ := hd)
        simp (disch := first | assumption | omega | (simp only [List.length_append, List.length_cons, List.length_nil]; omega)) only [go_sem]
        refine allocC_by fun t ht => ?_
        repeat (with_reducible replace ht := set_none ht; obtain ⟨_, _, ht⟩ := ht)
        have hdt : d ≠ t := by assumption
        have hsw : ∀ (ρ : ASt) (X Y Z : Option Role), ((ρ.set d X).set t Y).set d Z = (ρ.set d Z).set t Y := fun _ _ _ _ => set_mid hdt
        simp (disch := first | assumption | omega | (simp only [List.length_append, List.length_cons, List.length_nil]; omega)) only [go_sem, Nat.reduceEqDiff, Nat.reduceLeDiff, ↓reduceIte, hb, hlt]
        refine hp.use ?_
        simp (disch := first | assumption | omega | (simp only [List.length_append, List.length_cons, List.length_nil]; omega)) only [go_sem, Nat.reduceEqDiff, Nat.reduceAdd, Nat.reduceLeDiff, ↓reduceIte, Bool.true_and, hsw, ASt.set_set]
        exact retC_by (by repeat' (first | exact Drop.refl _ | with_reducible refine Drop.off ?_ (by assumption))) (.refl _) ⟨rfl, rfl⟩
    | false =>
      rw [if_neg (by simp), hav, gone_av]
      generalize ks.map Nd.av = L at *
      refine a41 (by simp) ?_
      simp (disch := first | assumption | omega | (simp only [List.length_append, List.length_cons, List.length_nil]; omega)) only [go_sem]
      refine boxC_by rfl fun c hc => ?_
      simp (disch := first | assumption | omega | (simp only [List.length_append, List.length_cons, List.length_nil]; omega)) only [go_sem, Nat.reduceEqDiff, ↓reduceIte]
      refine boxC_by rfl fun d hd => ?_
      repeat (with_reducible replace hd := set_none hd; obtain ⟨_, _, hd⟩ := hd)
      simp (disch := first | assumption | omega | (simp only [List.length_append, List.length_cons, List.length_nil]; omega)) only [go_sem]
      refine allocC_by fun t ht => ?_
      repeat (with_reducible replace ht := set_none ht; obtain ⟨_, _, ht⟩ := ht)
      simp (disch := first | assumption | omega | (simp only [List.length_append, List.length_cons, List.length_nil]; omega)) only [go_sem, Nat.reduceEqDiff, Nat.reduceLeDiff, ↓reduceIte, hb]
      refine hp.use ?_
      simp (disch := first | assumption | omega | (simp only [List.length_append, List.length_cons, List.length_nil]; omega)) only [go_sem, Nat.reduceEqDiff, ↓reduceIte]
      refine hg.use ?_
      simp (disch := first | assumption | omega | (simp only [List.length_append, List.length_cons, List.length_nil]; omega)) only [go_sem, Nat.reduceEqDiff, Nat.reduceAdd, Nat.reduceLeDiff, ↓reduceIte, Bool.true_and, ASt.set_set]
      exact retC_by (by repeat' (first | exact Drop.refl _ | with_reducible refine Drop.off ?_ (by assumption))) (.refl _) ⟨rfl, rfl⟩
theorem ok_kids : ∀ (op m : Int) (s : List UInt8) (a b : Ref) (ks : List Nd), (Nd.mk op m s a b ks).ok → ∀ x ∈ ks, x.ok := fun op m s a b ks h => by
  rw [Nd.ok] at h
  exact Nd.oks_mem.1 h.2
theorem ok_refs {op m : Int} {s : List UInt8} {a b : Ref} {ks : List Nd} (h : (Nd.mk op m s a b ks).ok) : (op = 5 ∨ op = 6 → a.good = true) ∧ (op = 6 → b.good = true) := by
  rw [Nd.ok] at h
  exact ⟨h.1.2.2.2.2.2.1, h.1.2.2.2.2.2.2.1⟩
def EdtAt (e : Edt) (c : Nat) (σ : ASt) : Prop := σ c = some (.obj e.cs)
theorem shTree1_ok (e : Edt) (he : e.fit) (c : Nat) (x : Nd) (hx : x.ok) (ho : x.op = 5 ∨ x.op = 6) (σ : ASt) (hσ : EdtAt e c σ) :
    ACalls Tryz.prog 39 [x.av, .ptr c 0] σ fun v σ' => v = (e.node x).av ∧ σ' = σ := by
  obtain ⟨op, n, s, a, b, ks⟩ := x
  have hr := ok_refs hx
  unfold EdtAt at hσ
  change op = 5 ∨ op = 6 at ho
  have hc1 : op = 5 → Pure Tryz.prog 40 [e.av, (Nd.mk op n s a b ks).av] (e.cell (.mk op n s a b ks)).av := fun h => shcell_ok e he op n s a b ks (hr.1 ho)
  have hc2 : op ≠ 5 → Pure Tryz.prog 41 [e.av, (Nd.mk op n s a b ks).av] (e.area (.mk op n s a b ks)).av := fun h => sharea_ok e he op n s a b ks (hr.1 ho) (hr.2 (by omega))
  have hnode : e.node (.mk op n s a b ks) = if op = 5 then e.cell (.mk op n s a b ks) else e.area (.mk op n s a b ks) := rfl
  rw [hnode]
  have hav : (Nd.mk op n s a b ks).av = .agg [.int .i64 op, .int .i64 n, .str s, .int .i64 a.row, .int .i64 a.col, .bool a.absRow, .bool a.absCol, .int .i64 b.row, .int .i64 b.col, .bool b.absRow, .bool b.absCol, .sl .shr (ks.map Nd.av)] := Nd.av_cs ..
  rw [hav] at hc1 hc2 ⊢
  unfold Edt.av at hc1 hc2
  generalize ks.map Nd.av = L at *
  by_cases h5 : op = 5
  · have h := hc1 h5
    rw [if_pos h5]
    subst h5
    obtain ⟨⟨wo, wm, ws, wa, wb, wk⟩, hw⟩ : ∃ w, e.cell (.mk 5 n s a b ks) = w := ⟨_, rfl⟩
    rw [hw, Nd.av_cs] at h
    rw [hw, Nd.av_cs]
    unfold Nd.cs at h ⊢
    generalize wk.map Nd.av = WL at *
    refine a39 (by simp) ?_
    simp (disch := first | assumption | omega | (simp only [List.length_append, List.length_cons, List.length_nil]; omega)) only [go_sem]
    refine boxC_by rfl fun d hd => ?_
    have hcd : c ≠ d := by rintro rfl; rw [hd] at hσ; cases hσ
    simp (disch := first | assumption | omega | (simp only [List.length_append, List.length_cons, List.length_nil]; omega)) only [go_sem]
    refine allocC_by fun t ht => ?_
    have hct : c ≠ t := by rintro rfl; rw [ASt.set_ne hcd, hσ] at ht; cases ht
    repeat (with_reducible replace ht := set_none ht; obtain ⟨_, _, ht⟩ := ht)
    simp (disch := first | assumption | omega | (simp only [List.length_append, List.length_cons, List.length_nil]; omega)) only [go_sem, Nat.reduceEqDiff, Nat.reduceAdd, Nat.reduceLeDiff, ↓reduceIte, hσ]
    refine h.use ?_
    simp (disch := first | assumption | omega | (simp only [List.length_append, List.length_cons, List.length_nil]; omega)) only [go_sem, Nat.reduceEqDiff, Nat.reduceAdd, Nat.reduceLeDiff, ↓reduceIte, Bool.true_and, ASt.set_set]
    exact retC_by (by repeat' (first | exact Drop.refl _ | with_reducible refine Drop.off ?_ (by assumption))) (.refl _) ⟨rfl, rfl⟩
  · have h := hc2 h5
    rw [if_neg h5]
    obtain ⟨⟨wo, wm, ws, wa, wb, wk⟩, hw⟩ : ∃ w, e.area (.mk op n s a b ks) = w := ⟨_, rfl⟩
    rw [hw, Nd.av_cs] at h
    rw [hw, Nd.av_cs]
    unfold Nd.cs at h ⊢
    generalize wk.map Nd.av = WL at *
    refine a39 (by simp) ?_
    simp (disch := first | assumption | omega | (simp only [List.length_append, List.length_cons, List.length_nil]; omega)) only [go_sem]
    refine boxC_by rfl fun d hd => ?_
    have hcd : c ≠ d := by rintro rfl; rw [hd] at hσ; cases hσ
    simp (disch := first | assumption | omega | (simp only [List.length_append, List.length_cons, List.length_nil]; omega)) only [go_sem]
    refine allocC_by fun t ht => ?_
    have hct : c ≠ t := by rintro rfl; rw [ASt.set_ne hcd, hσ] at ht; cases ht
    repeat (with_reducible replace ht := set_none ht; obtain ⟨_, _, ht⟩ := ht)
    simp (disch := first | assumption | omega | (simp only [List.length_append, List.length_cons, List.length_nil]; omega)) only [go_sem, Nat.reduceEqDiff, Nat.reduceAdd, Nat.reduceLeDiff, ↓reduceIte, h5, hσ]
    refine h.use ?_
    simp (disch := first | assumption | omega | (simp only [List.length_append, List.length_cons, List.length_nil]; omega)) only [go_sem, Nat.reduceEqDiff, Nat.reduceAdd, Nat.reduceLeDiff, ↓reduceIte, Bool.true_and, ASt.set_set]
    exact retC_by (by repeat' (first | exact Drop.refl _ | with_reducible refine Drop.off ?_ (by assumption))) (.refl _) ⟨rfl, rfl⟩
theorem tree_map (e : Edt) (he : e.fit) (c : Nat) : MapG Nd.ok (.func (.func 39) [] [.ptr c 0]) e.node (EdtAt e c) := by
  refine ⟨39, [.ptr c 0], rfl, by kernel_rfl, fun σ b r hσ hb => ?_, fun x σ hσ hx ho => shTree1_ok e he c x hx ho σ hσ⟩
  unfold EdtAt at *
  rw [ASt.set_ne]
  · exact hσ
  · rintro rfl; rw [hb] at hσ; cases hσ
theorem shtree_ok (e : Edt) (he : e.fit) (n : Nd) (hn : n.ok) (hs : n.size ≤ 1000000000) : Pure Tryz.prog 17 [e.av, n.av] (e.tree n).av := by
  intro σ
  have hM := fun c => mapg_le _ e.node (EdtAt e c) Nd.ok ok_kids (tree_map e he c) n.size n (Nat.le_refl _) hs hn
  unfold Edt.tree
  obtain ⟨⟨wo, wm, ws, wa, wb, wk⟩, hw⟩ : ∃ w, Nd.map e.node n = w := ⟨_, rfl⟩
  rw [hw, Nd.av_cs]
  simp only [hw, Nd.av_cs] at hM
  obtain ⟨op, m, s, a, b, ks⟩ := n
  have hav : (Nd.mk op m s a b ks).av = .agg [.int .i64 op, .int .i64 m, .str s, .int .i64 a.row, .int .i64 a.col, .bool a.absRow, .bool a.absCol, .int .i64 b.row, .int .i64 b.col, .bool b.absRow, .bool b.absCol, .sl .shr (ks.map Nd.av)] := Nd.av_cs ..
  simp only [hav] at hM
  rw [hav]
  unfold Nd.cs at hM ⊢
  unfold Edt.av
  generalize ks.map Nd.av = L at *
  generalize wk.map Nd.av = WL at *
  refine a17 (by simp) ?_
  simp (disch := first | assumption | omega | (simp only [List.length_append, List.length_cons, List.length_nil]; omega)) only [go_sem]
  refine boxC_by rfl fun c hc => ?_
  simp (disch := first | assumption | omega | (simp only [List.length_append, List.length_cons, List.length_nil]; omega)) only [go_sem, Nat.reduceEqDiff, ↓reduceIte]
  refine boxC_by rfl fun d hd => ?_
  have hcd : c ≠ d := by rintro rfl; rw [ASt.set_same] at hd; cases hd
  have hdc := hcd.symm
  have hd0 := hd
  rw [ASt.set_ne hdc] at hd0
  simp (disch := first | assumption | omega | (simp only [List.length_append, List.length_cons, List.length_nil]; omega)) only [go_sem]
  refine allocC_by fun t ht => ?_
  have hct : c ≠ t := by rintro rfl; rw [ASt.set_ne hcd, ASt.set_same] at ht; cases ht
  repeat (with_reducible replace ht := set_none ht; obtain ⟨_, _, ht⟩ := ht)
  simp (disch := first | assumption | omega | (simp only [List.length_append, List.length_cons, List.length_nil]; omega)) only [go_sem, Nat.reduceEqDiff, Nat.reduceAdd, Nat.reduceLeDiff, ↓reduceIte]
  refine (hM c _ ?_).mono ?_
  · unfold EdtAt
    rw [ASt.set_ne hct, ASt.set_ne hcd, ASt.set_same]
  rintro v σ' ⟨rfl, rfl⟩
  simp (disch := first | assumption | omega | (simp only [List.length_append, List.length_cons, List.length_nil]; omega)) only [go_sem, Nat.reduceEqDiff, Nat.reduceAdd, Nat.reduceLeDiff, ↓reduceIte, Bool.true_and, ASt.set_set]
  exact retC_by (by repeat' (first | exact Drop.refl _ | with_reducible refine Drop.off ?_ (by assumption))) (.refl _) ⟨rfl, rfl⟩
end Go.A
namespace Go.A
open Go.Proofs Go.Lib
set_option maxRecDepth 100000
set_option linter.unusedSimpArgs false
set_option linter.unusedVariables false
structure Pt where
  op : Int
  n : Int
  s : List UInt8
  a : Ref
  b : Ref
  deriving Inhabited
def missN : Nd := .mk 23 0 [] .zero .zero []
end Go.A
namespace Go.A
open Go.Proofs Go.Lib
set_option maxRecDepth 100000
set_option linter.unusedSimpArgs false
set_option linter.unusedVariables false
def zero12 : List AV := [.int .i64 0, .int .i64 0, .str [], .int .i64 0, .int .i64 0, .bool false, .bool false, .int .i64 0, .int .i64 0, .bool false, .bool false, .sl .full []]
theorem OwnSl.put {σ0 σ : ASt} {d : Nat} {r : Role} {v : AV} {xs : List AV} {s : Nat} (h : OwnSl σ0 σ v xs s) (hd : σ0 d = some r) (r' : Option Role) : OwnSl (σ0.set d r') (σ.set d r') v xs s := by
  rcases h with ⟨h1, h2, rfl⟩ | ⟨b, c, rest, h1, h2, h3, h4, rfl⟩
  · exact .inl ⟨h1, h2, rfl⟩
  · have hbd : b ≠ d := by rintro rfl; rw [hd] at h4; cases h4
    exact .inr ⟨b, c, rest, h1, h2, h3, by rw [ASt.set_ne hbd]; exact h4, set_swap hbd⟩
theorem Drop.had {σ σ' : ASt} {b : Nat} {r : Role} (h : Drop σ σ') (hb : σ' b = some r) : σ b = some r := by
  rcases h b with h1 | h1
  · rw [← h1]; exact hb
  · rw [h1] at hb; cases hb
theorem Drop.nil {σ σ' : ASt} {b : Nat} (h : Drop σ σ') (hb : σ b = none) : σ' b = none := by
  rcases h b with h1 | h1
  · rw [h1]; exact hb
  · exact h1
end Go.A
