/- Part 11 of what ShiftTrees leans on: Sya CodeSyb Syb Ms Mv Mw Mx. -/
import Derived.Test.YthdpkgfdjmeaiaaGreatDoorProg
import Derived.KernelRfl
import Derived.Test.YthdpkgfdjmeaiaaGreatDoorRows
import Derived.ProofKit
import Derived.LaidMore
import Derived.OpenShut
import Derived.Stop.LaidErr
import Derived.MakeChecks
import Derived.SevenTiedAt
import Derived.Lay
import Derived.ChangeArms
import Derived.Lib.LaidU8
import Derived.Lib.LaidTab
import Derived.Shelf.Vars
import Derived.HandedShaped
import Derived.Test.YthdpkgfdjmeaiaaGreatDoorZShiftTreesj
set_option linter.defProp false
set_option linter.unusedSimpArgs false
set_option linter.unusedVariables false
set_option maxRecDepth 100000
namespace Go.A
open Go.Proofs Go.Lib
theorem map_node {f : Nd → Nd} {op m : Int} {s : List UInt8} {a b : Ref} {ks : List Nd} (h5 : ¬ op = 5) (h6 : ¬ op = 6) : Nd.map f (.mk op m s a b ks) = .mk op m s a b (ks.map (Nd.map f)) := by
 rw [Nd.map, if_neg (by omega), Nd.maps_map]
theorem take_snoc {ks : List Nd} {i : Nat} {x : Nd} (hx : ks[i]? = some x) (g : Nd → Nd) : (ks.take i).map (fun y => (g y).av) ++ [(g x).av] = (ks.take (i + 1)).map (fun y => (g y).av) := by
 obtain ⟨hi, rfl⟩ := List.getElem?_eq_some_iff.1 hx
 rw [List.take_succ_eq_append_getElem hi, List.map_append]
 rfl
theorem rtkids_ok (e : Edt) (LL : List AV) {o m : Int} {s : List UInt8} {a b : Ref} {ks : List Nd} (h5 : ¬ o = 5) (h6 : ¬ o = 6)
  (hk : ∀ x ∈ ks, Pure Tryz.prog 19 [e.av, .sl .shr LL, x.av] (Nd.map e.node x).av) (hl : ks.length ≤ 1000000) :
  Pure Tryz.prog 19 [e.av, .sl .shr LL, (Nd.mk o m s a b ks).av] (Nd.map e.node (.mk o m s a b ks)).av := by
 intro σ
 have hav : ∀ l : List Nd, (Nd.mk o m s a b l).av = .agg [.int .i64 o, .int .i64 m, .str s, .int .i64 a.row, .int .i64 a.col, .bool a.absRow, .bool a.absCol, .int .i64 b.row, .int .i64 b.col, .bool b.absRow, .bool b.absCol, .sl .shr (l.map Nd.av)] := fun l => Nd.av_cs ..
 rw [map_node h5 h6, hav, hav, List.map_map]
 have hlm : (ks.map Nd.av).length = ks.length := List.length_map _
 obtain ⟨NC, hNC⟩ : ∃ NC, NC = [AV.int .i64 o, .int .i64 m, .str s, .int .i64 a.row, .int .i64 a.col, .bool a.absRow, .bool a.absCol, .int .i64 b.row, .int .i64 b.col, .bool b.absRow, .bool b.absCol, .sl .shr (ks.map Nd.av)] := ⟨_, rfl⟩
 have k0 : NC[0]? = some (.int .i64 o) := by rw [hNC]; rfl
 have k11 : NC[11]? = some (.sl .shr (ks.map Nd.av)) := by rw [hNC]; rfl
 rw [← hNC]
 have hncl : NC.length = 12 := by rw [hNC]; rfl
 have hnlv : leaves NC = true := by rw [hNC]; rfl
 have hnf : fieldVal 0 (some 12) NC = some (.agg NC) := by rw [hNC]; rfl
 have hns : ∀ v, (NC.take 11 ++ [v]) ++ NC.drop 12 = [AV.int .i64 o, .int .i64 m, .str s, .int .i64 a.row, .int .i64 a.col, .bool a.absRow, .bool a.absCol, .int .i64 b.row, .int .i64 b.col, .bool b.absRow, .bool b.absCol, v] := fun v => by rw [hNC]; rfl
 unfold Edt.av at hk ⊢
 refine a19 (by simp) ?_
 simp (disch := first | assumption | omega) only [go_sem]
 refine boxC_by rfl fun c1 g1 => ?_
 simp (disch := first | assumption | omega) only [go_sem, Nat.reduceEqDiff, ↓reduceIte]
 refine boxC_by rfl fun c2 g2 => ?_
 repeat (with_reducible replace g2 := set_none g2; obtain ⟨_, _, g2⟩ := g2)
 simp (disch := first | assumption | omega) only [go_sem]
 refine allocC_by fun c3 g3 => ?_
 repeat (with_reducible replace g3 := set_none g3; obtain ⟨_, _, g3⟩ := g3)
 have z2 : σ c2 = none := by assumption
 have z3 : σ c3 = none := by assumption
 obtain ⟨τ, hτ⟩ : ∃ τ, τ = ((σ.set c1 (some (.obj e.cs))).set c2 (some (.obj NC))).set c3 (some (.obj [.int .i64 0, .int .i64 0, .str [], .int .i64 0, .int .i64 0, .bool false, .bool false, .int .i64 0, .int .i64 0, .bool false, .bool false, .sl .full []])) := ⟨_, rfl⟩
 have d1 : τ c1 = some (.obj e.cs) := by rw [hτ]; simp (disch := first | assumption | omega) only [go_sem]
 have d2 : τ c2 = some (.obj NC) := by rw [hτ]; simp (disch := first | assumption | omega) only [go_sem]
 have d3 : τ c3 = some (.obj [.int .i64 0, .int .i64 0, .str [], .int .i64 0, .int .i64 0, .bool false, .bool false, .int .i64 0, .int .i64 0, .bool false, .bool false, .sl .full []]) := by rw [hτ]; simp (disch := first | assumption | omega) only [go_sem]
 have hD : Drop τ σ := by rw [hτ]; repeat' (first | exact Drop.refl _ | with_reducible refine Drop.off ?_ (by assumption))
 simp (disch := first | assumption | omega) only [go_sem, Nat.reduceEqDiff, ↓reduceIte, h5, h6, k0, k11, hlm]
 rw [← hτ]
 refine wp_loop_on (fun (i : Nat) a1 s2 => i ≤ ks.length ∧ (a1 1 = .sl .shr LL ∧ a1 3 = .ptr c1 0 ∧ a1 5 = .ptr c2 0 ∧ a1 6 = .ptr c3 0 ∧ a1 105 = .sl .shr (ks.map Nd.av) ∧ a1 106 = .int .i64 ks.length ∧ a1 107 = .int .i64 i) ∧ ∃ k τ1, a1 14 = .sl k ((ks.take i).map fun y => (Nd.map e.node y).av) ∧ Grown τ1 s2 k i 12 ∧ τ1 c1 = some (.obj e.cs) ∧ τ1 c2 = some (.obj NC) ∧ τ1 c3 = some (.obj [.int .i64 0, .int .i64 0, .str [], .int .i64 0, .int .i64 0, .bool false, .bool false, .int .i64 0, .int .i64 0, .bool false, .bool false, .sl .full []]) ∧ Drop τ1 σ) (fun i => ks.length - i) 0 ⟨Nat.zero_le _, ?_, .full, τ, ?_, Grown.start _ _, d1, d2, d3, hD⟩ ?_
 ·simp (disch := first | assumption | omega) only [go_sem, Nat.reduceEqDiff, ↓reduceIte]
 ·first | rfl | (simp (disch := first | assumption | omega) only [go_sem, reduceCtorEq, Nat.reduceEqDiff, Nat.reduceAdd, Nat.reduceSub, Nat.reduceMul, Nat.reduceLeDiff, Int.reduceLT, Int.reduceLE, Int.reduceEq, ↓reduceIte, Int.reduceNeg, Int.reduceAdd, Int.reduceSub, Int.reduceMul, true_imp_iff, forall_const, Nat.mul_one, Int.reduceToNat, Nat.reducePow, Int.reducePow, Bool.true_and, Bool.false_and, Bool.and_false, List.take_zero, List.map_nil])
 rintro i a1 s2 ⟨hi, hf, k, τ1, hkk, hG, e1, e2, e3, hD1⟩
 have htl : ((ks.take i).map fun y => (Nd.map e.node y).av).length = i := by rw [List.length_map, List.length_take]; omega
 have s1 := hG.at e1
 have s2' := hG.at e2
 have s3 := hG.at e3
 by_cases hlt : i < ks.length
 ·have hlt' : (i : Int) < ks.length := by omega
  have hx : ks[i]? = some (ks[i]'hlt) := List.getElem?_eq_getElem hlt
  obtain ⟨x, hxe⟩ : ∃ x, ks[i]'hlt = x := ⟨_, rfl⟩
  have hmem : x ∈ ks := by rw [← hxe]; exact List.getElem_mem hlt
  rw [hxe] at hx
  have hmx := Nd.get hx
  have hcall := hk x hmem
  have hsn := take_snoc hx (Nd.map e.node)
  have hw := Nd.well [Nd.map e.node x]
  have hlf := Nd.leafs [Nd.map e.node x]
  obtain ⟨Y, hY⟩ : ∃ Y, Nd.map e.node x = Y := ⟨_, rfl⟩
  rw [hY] at hcall hsn hw hlf
  obtain ⟨yo, ym, ys, ya, yb, yk⟩ := Y
  obtain ⟨xo, xm, xs, xa, xb, xk⟩ := x
  rw [Nd.av_cs] at hmx hcall hsn
  rw [Nd.av_cs] at hcall
  have hav2 : [Nd.mk yo ym ys ya yb yk].map Nd.av = [.agg (Nd.cs yo ym ys ya yb (yk.map Nd.av))] := by rw [List.map_cons, Nd.av_cs]; rfl
  rw [hav2] at hw hlf
  generalize ks.map Nd.av = L at *
  generalize xk.map Nd.av = XL at *
  generalize yk.map Nd.av = YL at *
  generalize ((ks.take i).map fun y => (Nd.map e.node y).av) = P1 at *
  generalize hP2 : ((ks.take (i + 1)).map fun y => (Nd.map e.node y).av) = P2 at *
  simp (disch := first | assumption | omega) only [go_sem, Nat.reduceEqDiff, Nat.reduceLeDiff, ↓reduceIte, hf, hlt', hmx]
  refine allocC_by fun c4 h4 => ?_
  have hG2 := fun r => hG.add (r := r) h4
  have l4 := hG.low h4
  have n1 : c1 ≠ c4 := by rintro rfl; rw [s1] at h4; cases h4
  have n2 : c2 ≠ c4 := by rintro rfl; rw [s2'] at h4; cases h4
  have n3 : c3 ≠ c4 := by rintro rfl; rw [s3] at h4; cases h4
  simp (disch := first | assumption | omega) only [go_sem, Nat.reduceEqDiff, Nat.reduceAdd, Nat.reduceLeDiff, ↓reduceIte, hf, hkk, s1, ASt.set_set]
  refine hcall.use ?_
  simp (disch := first | assumption | omega) only [go_sem, Nat.reduceEqDiff, ↓reduceIte, Bool.true_and]
  refine appC_by (bytes := 104) (xs := P1) (by rw [htl]; exact hG2 _) hw hlf (by simp only [htl, List.length_cons, List.length_nil]; omega) (by simp only [htl, List.length_cons, List.length_nil]; omega) fun k' s' hg' => ?_
  rw [List.length_append, htl] at hg'
  rw [hsn]
  simp (disch := first | assumption | omega) only [go_sem, Nat.reduceEqDiff, ↓reduceIte, hf]
  refine ⟨i + 1, by omega, by omega, ?_, k', _, ?_, hg', ?_, ?_, ?_, ?_⟩
  ·simp (disch := first | assumption | omega) only [go_sem]
  ·rw [hP2]
  ·rw [ASt.set_ne n1]; exact e1
  ·rw [ASt.set_ne n2]; exact e2
  ·rw [ASt.set_ne n3]; exact e3
  ·exact (Drop.set l4).trans hD1
 ·have hlt' : ¬ (i : Int) < ks.length := by omega
  rw [List.take_of_length_le (by omega)] at hkk
  have hcm : ks.map (Nd.av ∘ Nd.map e.node) = ks.map fun y => (Nd.map e.node y).av := rfl
  rw [hcm]
  generalize (ks.map fun y => (Nd.map e.node y).av) = P1 at *
  have n23 : c2 ≠ c3 := by
   rintro rfl
   rw [e2] at e3
   injection e3 with e3
   injection e3 with e3
   rw [e3] at k11
   injection k11 with k11
   injection k11 with k11
   cases k11
  simp (disch := first | assumption | omega) only [go_sem, Nat.reduceEqDiff, Nat.reduceAdd, Nat.reduceLeDiff, ↓reduceIte, Bool.true_and, hf, hkk, hlt', s2', s3, hncl, hns]
  refine retC_by ?_ fz_node ⟨rfl, rfl⟩
  exact ((hG.drop.trans hD1).off z2).off z3
theorem rckids_ok (rows cols : Int) {o m : Int} {s : List UInt8} {a b : Ref} {ks : List Nd} (h5 : ¬ o = 5) (h6 : ¬ o = 6)
  (hk : ∀ x ∈ ks, Pure Tryz.prog 16 [x.av, .int .i64 rows, .int .i64 cols] (Nd.map (copyN rows cols) x).av) (hl : ks.length ≤ 1000000) :
  Pure Tryz.prog 16 [(Nd.mk o m s a b ks).av, .int .i64 rows, .int .i64 cols] (Nd.map (copyN rows cols) (.mk o m s a b ks)).av := by
 intro σ
 have hav : ∀ l : List Nd, (Nd.mk o m s a b l).av = .agg [.int .i64 o, .int .i64 m, .str s, .int .i64 a.row, .int .i64 a.col, .bool a.absRow, .bool a.absCol, .int .i64 b.row, .int .i64 b.col, .bool b.absRow, .bool b.absCol, .sl .shr (l.map Nd.av)] := fun l => Nd.av_cs ..
 rw [map_node h5 h6, hav, hav, List.map_map]
 have hlm : (ks.map Nd.av).length = ks.length := List.length_map _
 obtain ⟨NC, hNC⟩ : ∃ NC, NC = [AV.int .i64 o, .int .i64 m, .str s, .int .i64 a.row, .int .i64 a.col, .bool a.absRow, .bool a.absCol, .int .i64 b.row, .int .i64 b.col, .bool b.absRow, .bool b.absCol, .sl .shr (ks.map Nd.av)] := ⟨_, rfl⟩
 have k0 : NC[0]? = some (.int .i64 o) := by rw [hNC]; rfl
 have k11 : NC[11]? = some (.sl .shr (ks.map Nd.av)) := by rw [hNC]; rfl
 rw [← hNC]
 have hncl : NC.length = 12 := by rw [hNC]; rfl
 have hnlv : leaves NC = true := by rw [hNC]; rfl
 have hnf : fieldVal 0 (some 12) NC = some (.agg NC) := by rw [hNC]; rfl
 have hns : ∀ v, (NC.take 11 ++ [v]) ++ NC.drop 12 = [AV.int .i64 o, .int .i64 m, .str s, .int .i64 a.row, .int .i64 a.col, .bool a.absRow, .bool a.absCol, .int .i64 b.row, .int .i64 b.col, .bool b.absRow, .bool b.absCol, v] := fun v => by rw [hNC]; rfl
 refine a16 (by simp) ?_
 simp (disch := first | assumption | omega) only [go_sem]
 refine boxC_by rfl fun c2 g2 => ?_
 simp (disch := first | assumption | omega) only [go_sem]
 refine allocC_by fun c3 g3 => ?_
 repeat (with_reducible replace g3 := set_none g3; obtain ⟨_, _, g3⟩ := g3)
 have z2 : σ c2 = none := by assumption
 have z3 : σ c3 = none := by assumption
 obtain ⟨τ, hτ⟩ : ∃ τ, τ = (σ.set c2 (some (.obj NC))).set c3 (some (.obj [.int .i64 0, .int .i64 0, .str [], .int .i64 0, .int .i64 0, .bool false, .bool false, .int .i64 0, .int .i64 0, .bool false, .bool false, .sl .full []])) := ⟨_, rfl⟩
 have d2 : τ c2 = some (.obj NC) := by rw [hτ]; simp (disch := first | assumption | omega) only [go_sem]
 have d3 : τ c3 = some (.obj [.int .i64 0, .int .i64 0, .str [], .int .i64 0, .int .i64 0, .bool false, .bool false, .int .i64 0, .int .i64 0, .bool false, .bool false, .sl .full []]) := by rw [hτ]; simp (disch := first | assumption | omega) only [go_sem]
 have hD : Drop τ σ := by rw [hτ]; repeat' (first | exact Drop.refl _ | with_reducible refine Drop.off ?_ (by assumption))
 simp (disch := first | assumption | omega) only [go_sem, Nat.reduceEqDiff, ↓reduceIte, h5, h6, k0, k11, hlm]
 rw [← hτ]
 refine wp_loop_on (fun (i : Nat) a1 s2 => i ≤ ks.length ∧ (a1 1 = .int .i64 rows ∧ a1 2 = .int .i64 cols ∧ a1 3 = .ptr c2 0 ∧ a1 6 = .ptr c3 0 ∧ a1 60 = .sl .shr (ks.map Nd.av) ∧ a1 61 = .int .i64 ks.length ∧ a1 62 = .int .i64 i) ∧ ∃ k τ1, a1 11 = .sl k ((ks.take i).map fun y => (Nd.map (copyN rows cols) y).av) ∧ Grown τ1 s2 k i 12 ∧ τ1 c2 = some (.obj NC) ∧ τ1 c3 = some (.obj [.int .i64 0, .int .i64 0, .str [], .int .i64 0, .int .i64 0, .bool false, .bool false, .int .i64 0, .int .i64 0, .bool false, .bool false, .sl .full []]) ∧ Drop τ1 σ) (fun i => ks.length - i) 0 ⟨Nat.zero_le _, ?_, .full, τ, ?_, Grown.start _ _, d2, d3, hD⟩ ?_
 ·simp (disch := first | assumption | omega) only [go_sem, Nat.reduceEqDiff, ↓reduceIte]
 ·first | rfl | (simp (disch := first | assumption | omega) only [go_sem, reduceCtorEq, Nat.reduceEqDiff, Nat.reduceAdd, Nat.reduceSub, Nat.reduceMul, Nat.reduceLeDiff, Int.reduceLT, Int.reduceLE, Int.reduceEq, ↓reduceIte, Int.reduceNeg, Int.reduceAdd, Int.reduceSub, Int.reduceMul, true_imp_iff, forall_const, Nat.mul_one, Int.reduceToNat, Nat.reducePow, Int.reducePow, Bool.true_and, Bool.false_and, Bool.and_false, List.take_zero, List.map_nil])
 rintro i a1 s2 ⟨hi, hf, k, τ1, hkk, hG, e2, e3, hD1⟩
 have htl : ((ks.take i).map fun y => (Nd.map (copyN rows cols) y).av).length = i := by rw [List.length_map, List.length_take]; omega
 have s2' := hG.at e2
 have s3 := hG.at e3
 by_cases hlt : i < ks.length
 ·have hlt' : (i : Int) < ks.length := by omega
  have hx : ks[i]? = some (ks[i]'hlt) := List.getElem?_eq_getElem hlt
  obtain ⟨x, hxe⟩ : ∃ x, ks[i]'hlt = x := ⟨_, rfl⟩
  have hmem : x ∈ ks := by rw [← hxe]; exact List.getElem_mem hlt
  rw [hxe] at hx
  have hmx := Nd.get hx
  have hcall := hk x hmem
  have hsn := take_snoc hx (Nd.map (copyN rows cols))
  have hw := Nd.well [Nd.map (copyN rows cols) x]
  have hlf := Nd.leafs [Nd.map (copyN rows cols) x]
  obtain ⟨Y, hY⟩ : ∃ Y, Nd.map (copyN rows cols) x = Y := ⟨_, rfl⟩
  rw [hY] at hcall hsn hw hlf
  obtain ⟨yo, ym, ys, ya, yb, yk⟩ := Y
  obtain ⟨xo, xm, xs, xa, xb, xk⟩ := x
  rw [Nd.av_cs] at hmx hcall hsn
  rw [Nd.av_cs] at hcall
  have hav2 : [Nd.mk yo ym ys ya yb yk].map Nd.av = [.agg (Nd.cs yo ym ys ya yb (yk.map Nd.av))] := by rw [List.map_cons, Nd.av_cs]; rfl
  rw [hav2] at hw hlf
  generalize ks.map Nd.av = L at *
  generalize xk.map Nd.av = XL at *
  generalize yk.map Nd.av = YL at *
  generalize ((ks.take i).map fun y => (Nd.map (copyN rows cols) y).av) = P1 at *
  generalize hP2 : ((ks.take (i + 1)).map fun y => (Nd.map (copyN rows cols) y).av) = P2 at *
  simp (disch := first | assumption | omega) only [go_sem, Nat.reduceEqDiff, Nat.reduceLeDiff, ↓reduceIte, hf, hlt', hmx]
  refine allocC_by fun c4 h4 => ?_
  have hG2 := fun r => hG.add (r := r) h4
  have l4 := hG.low h4
  have n2 : c2 ≠ c4 := by rintro rfl; rw [s2'] at h4; cases h4
  have n3 : c3 ≠ c4 := by rintro rfl; rw [s3] at h4; cases h4
  simp (disch := first | assumption | omega) only [go_sem, Nat.reduceEqDiff, Nat.reduceAdd, Nat.reduceLeDiff, ↓reduceIte, hf, hkk, ASt.set_set]
  refine hcall.use ?_
  simp (disch := first | assumption | omega) only [go_sem, Nat.reduceEqDiff, ↓reduceIte, Bool.true_and]
  refine appC_by (bytes := 104) (xs := P1) (by rw [htl]; exact hG2 _) hw hlf (by simp only [htl, List.length_cons, List.length_nil]; omega) (by simp only [htl, List.length_cons, List.length_nil]; omega) fun k' s' hg' => ?_
  rw [List.length_append, htl] at hg'
  rw [hsn]
  simp (disch := first | assumption | omega) only [go_sem, Nat.reduceEqDiff, ↓reduceIte, hf]
  refine ⟨i + 1, by omega, by omega, ?_, k', _, ?_, hg', ?_, ?_, ?_⟩
  ·simp (disch := first | assumption | omega) only [go_sem]
  ·rw [hP2]
  ·rw [ASt.set_ne n2]; exact e2
  ·rw [ASt.set_ne n3]; exact e3
  ·exact (Drop.set l4).trans hD1
 ·have hlt' : ¬ (i : Int) < ks.length := by omega
  rw [List.take_of_length_le (by omega)] at hkk
  have hcm : ks.map (Nd.av ∘ Nd.map (copyN rows cols)) = ks.map fun y => (Nd.map (copyN rows cols) y).av := rfl
  rw [hcm]
  generalize (ks.map fun y => (Nd.map (copyN rows cols) y).av) = P1 at *
  have n23 : c2 ≠ c3 := by
   rintro rfl
   rw [e2] at e3
   injection e3 with e3
   injection e3 with e3
   rw [e3] at k11
   injection k11 with k11
   injection k11 with k11
   cases k11
  simp (disch := first | assumption | omega) only [go_sem, Nat.reduceEqDiff, Nat.reduceAdd, Nat.reduceLeDiff, ↓reduceIte, Bool.true_and, hf, hkk, hlt', s2', s3, hncl, hns]
  refine retC_by ?_ fz_node ⟨rfl, rfl⟩
  exact ((hG.drop.trans hD1).off z2).off z3
theorem rcleaf_ok (rows cols : Int) {op : Int} (ho : op = 5 ∨ op = 6) {a b : Ref} (ha : a.good = true) (hb : b.good = true) :
  Pure Tryz.prog 16 [(Nd.mk op 0 [] a b []).av, .int .i64 rows, .int .i64 cols] (copyN rows cols (.mk op 0 [] a b [])).av := by
 intro σ
 have hm := rmoved_ok a ha rows cols
 have hm2 := rmoved_ok b hb rows cols
 have hgone := rgone_ok
 rw [gone_av] at hgone
 have hav : ∀ a b : Ref, (Nd.mk op 0 [] a b []).av = .agg [.int .i64 op, .int .i64 0, .str [], .int .i64 a.row, .int .i64 a.col, .bool a.absRow, .bool a.absCol, .int .i64 b.row, .int .i64 b.col, .bool b.absRow, .bool b.absCol, .sl .shr []] := fun a b => Nd.av_cs ..
 rw [copyN, hav a b]
 obtain ⟨⟨a', ok⟩, hA⟩ : ∃ q, movedP a rows cols = q := ⟨_, rfl⟩
 obtain ⟨⟨b', ok2⟩, hB⟩ : ∃ q, movedP b rows cols = q := ⟨_, rfl⟩
 rw [hA] at hm ⊢
 rw [hB] at hm2 ⊢
 dsimp only at hm hm2 ⊢
 unfold refAV at hm hm2
 rcases ho with rfl | rfl
 ·rw [if_pos rfl]
  cases ok with
  | true =>
    rw [if_pos rfl, hav]
    refine a16 (by simp) ?_
    simp (disch := first | assumption | omega) only [go_sem]
    refine boxC_by rfl fun c2 g2 => ?_
    simp (disch := first | assumption | omega) only [go_sem]
    refine allocC_by fun c3 g3 => ?_
    repeat (with_reducible replace g3 := set_none g3; obtain ⟨_, _, g3⟩ := g3)
    simp (disch := first | assumption | omega) only [go_sem, Nat.reduceEqDiff, Nat.reduceAdd, Nat.reduceLeDiff, ↓reduceIte]
    refine hm.use ?_
    simp (disch := first | assumption | omega) only [go_sem, Nat.reduceEqDiff, ↓reduceIte]
    refine allocC_by fun c4 g4 => ?_
    repeat (with_reducible replace g4 := set_none g4; obtain ⟨_, _, g4⟩ := g4)
    simp (disch := first | assumption | omega) only [go_sem, Nat.reduceEqDiff, Nat.reduceAdd, Nat.reduceLeDiff, ↓reduceIte, Bool.true_and, ASt.set_set]
    refine hm2.use ?_
    simp (disch := first | assumption | omega) only [go_sem, Nat.reduceEqDiff, ↓reduceIte]
    refine allocC_by fun c5 g5 => ?_
    repeat (with_reducible replace g5 := set_none g5; obtain ⟨_, _, g5⟩ := g5)
    simp (disch := first | assumption | omega) only [go_sem, Nat.reduceEqDiff, Nat.reduceAdd, Nat.reduceLeDiff, Int.reduceEq, ↓reduceIte, Bool.true_and, ASt.set_set]
    exact retC_by (by repeat' (first | exact Drop.refl _ | with_reducible refine Drop.off ?_ (by assumption))) (.refl _) ⟨rfl, rfl⟩
  | false =>
    rw [if_neg (by simp), gone_av]
    refine a16 (by simp) ?_
    simp (disch := first | assumption | omega) only [go_sem]
    refine boxC_by rfl fun c2 g2 => ?_
    simp (disch := first | assumption | omega) only [go_sem]
    refine allocC_by fun c3 g3 => ?_
    repeat (with_reducible replace g3 := set_none g3; obtain ⟨_, _, g3⟩ := g3)
    simp (disch := first | assumption | omega) only [go_sem, Nat.reduceEqDiff, Nat.reduceAdd, Nat.reduceLeDiff, ↓reduceIte]
    refine hm.use ?_
    simp (disch := first | assumption | omega) only [go_sem, Nat.reduceEqDiff, ↓reduceIte]
    refine allocC_by fun c4 g4 => ?_
    repeat (with_reducible replace g4 := set_none g4; obtain ⟨_, _, g4⟩ := g4)
    simp (disch := first | assumption | omega) only [go_sem, Nat.reduceEqDiff, Nat.reduceAdd, Nat.reduceLeDiff, ↓reduceIte, Bool.true_and, ASt.set_set]
    refine hm2.use ?_
    simp (disch := first | assumption | omega) only [go_sem, Nat.reduceEqDiff, ↓reduceIte]
    refine allocC_by fun c5 g5 => ?_
    repeat (with_reducible replace g5 := set_none g5; obtain ⟨_, _, g5⟩ := g5)
    simp (disch := first | assumption | omega) only [go_sem, Nat.reduceEqDiff, Nat.reduceAdd, Nat.reduceLeDiff, ↓reduceIte, Bool.true_and, ASt.set_set]
    refine hgone.use ?_
    simp (disch := first | assumption | omega) only [go_sem, Nat.reduceEqDiff, Nat.reduceAdd, Nat.reduceLeDiff, ↓reduceIte, Bool.true_and]
    exact retC_by (by repeat' (first | exact Drop.refl _ | with_reducible refine Drop.off ?_ (by assumption))) (.refl _) ⟨rfl, rfl⟩
 ·rw [if_neg (by decide)]
  cases ok with
  | true =>
    cases ok2 with
    | true =>
      rw [if_pos ⟨rfl, rfl⟩, hav]
      refine a16 (by simp) ?_
      simp (disch := first | assumption | omega) only [go_sem]
      refine boxC_by rfl fun c2 g2 => ?_
      simp (disch := first | assumption | omega) only [go_sem]
      refine allocC_by fun c3 g3 => ?_
      repeat (with_reducible replace g3 := set_none g3; obtain ⟨_, _, g3⟩ := g3)
      simp (disch := first | assumption | omega) only [go_sem, Nat.reduceEqDiff, Nat.reduceAdd, Nat.reduceLeDiff, Int.reduceEq, ↓reduceIte]
      refine hm.use ?_
      simp (disch := first | assumption | omega) only [go_sem, Nat.reduceEqDiff, ↓reduceIte]
      refine allocC_by fun c4 g4 => ?_
      repeat (with_reducible replace g4 := set_none g4; obtain ⟨_, _, g4⟩ := g4)
      simp (disch := first | assumption | omega) only [go_sem, Nat.reduceEqDiff, Nat.reduceAdd, Nat.reduceLeDiff, ↓reduceIte, Bool.true_and, ASt.set_set]
      refine hm2.use ?_
      simp (disch := first | assumption | omega) only [go_sem, Nat.reduceEqDiff, ↓reduceIte]
      refine allocC_by fun c5 g5 => ?_
      repeat (with_reducible replace g5 := set_none g5; obtain ⟨_, _, g5⟩ := g5)
      simp (disch := first | assumption | omega) only [go_sem, Nat.reduceEqDiff, Nat.reduceAdd, Nat.reduceLeDiff, ↓reduceIte, Bool.true_and, ASt.set_set]
      exact retC_by (by repeat' (first | exact Drop.refl _ | with_reducible refine Drop.off ?_ (by assumption))) (.refl _) ⟨rfl, rfl⟩
    | false =>
      rw [if_neg (by simp), gone_av]
      refine a16 (by simp) ?_
      simp (disch := first | assumption | omega) only [go_sem]
      refine boxC_by rfl fun c2 g2 => ?_
      simp (disch := first | assumption | omega) only [go_sem]
      refine allocC_by fun c3 g3 => ?_
      repeat (with_reducible replace g3 := set_none g3; obtain ⟨_, _, g3⟩ := g3)
      simp (disch := first | assumption | omega) only [go_sem, Nat.reduceEqDiff, Nat.reduceAdd, Nat.reduceLeDiff, Int.reduceEq, ↓reduceIte]
      refine hm.use ?_
      simp (disch := first | assumption | omega) only [go_sem, Nat.reduceEqDiff, ↓reduceIte]
      refine allocC_by fun c4 g4 => ?_
      repeat (with_reducible replace g4 := set_none g4; obtain ⟨_, _, g4⟩ := g4)
      simp (disch := first | assumption | omega) only [go_sem, Nat.reduceEqDiff, Nat.reduceAdd, Nat.reduceLeDiff, ↓reduceIte, Bool.true_and, ASt.set_set]
      refine hm2.use ?_
      simp (disch := first | assumption | omega) only [go_sem, Nat.reduceEqDiff, ↓reduceIte]
      refine allocC_by fun c5 g5 => ?_
      repeat (with_reducible replace g5 := set_none g5; obtain ⟨_, _, g5⟩ := g5)
      simp (disch := first | assumption | omega) only [go_sem, Nat.reduceEqDiff, Nat.reduceAdd, Nat.reduceLeDiff, ↓reduceIte, Bool.true_and, ASt.set_set]
      refine hgone.use ?_
      simp (disch := first | assumption | omega) only [go_sem, Nat.reduceEqDiff, Nat.reduceAdd, Nat.reduceLeDiff, ↓reduceIte, Bool.true_and]
      exact retC_by (by repeat' (first | exact Drop.refl _ | with_reducible refine Drop.off ?_ (by assumption))) (.refl _) ⟨rfl, rfl⟩
  | false =>
    rw [if_neg (by simp), gone_av]
    refine a16 (by simp) ?_
    simp (disch := first | assumption | omega) only [go_sem]
    refine boxC_by rfl fun c2 g2 => ?_
    simp (disch := first | assumption | omega) only [go_sem]
    refine allocC_by fun c3 g3 => ?_
    repeat (with_reducible replace g3 := set_none g3; obtain ⟨_, _, g3⟩ := g3)
    simp (disch := first | assumption | omega) only [go_sem, Nat.reduceEqDiff, Nat.reduceAdd, Nat.reduceLeDiff, Int.reduceEq, ↓reduceIte]
    refine hm.use ?_
    simp (disch := first | assumption | omega) only [go_sem, Nat.reduceEqDiff, ↓reduceIte]
    refine allocC_by fun c4 g4 => ?_
    repeat (with_reducible replace g4 := set_none g4; obtain ⟨_, _, g4⟩ := g4)
    simp (disch := first | assumption | omega) only [go_sem, Nat.reduceEqDiff, Nat.reduceAdd, Nat.reduceLeDiff, ↓reduceIte, Bool.true_and, ASt.set_set]
    refine hm2.use ?_
    simp (disch := first | assumption | omega) only [go_sem, Nat.reduceEqDiff, ↓reduceIte]
    refine allocC_by fun c5 g5 => ?_
    repeat (with_reducible replace g5 := set_none g5; obtain ⟨_, _, g5⟩ := g5)
    simp (disch := first | assumption | omega) only [go_sem, Nat.reduceEqDiff, Nat.reduceAdd, Nat.reduceLeDiff, ↓reduceIte, Bool.true_and, ASt.set_set]
    refine hgone.use ?_
    simp (disch := first | assumption | omega) only [go_sem, Nat.reduceEqDiff, Nat.reduceAdd, Nat.reduceLeDiff, ↓reduceIte, Bool.true_and]
    exact retC_by (by repeat' (first | exact Drop.refl _ | with_reducible refine Drop.off ?_ (by assumption))) (.refl _) ⟨rfl, rfl⟩
theorem kid_size {op m : Int} {s : List UInt8} {a b : Ref} {ks : List Nd} {x : Nd} (h : x ∈ ks) : x.size ≤ (Nd.mk op m s a b ks).size := by
 rw [Nd.size]
 have : ∀ l : List Nd, x ∈ l → x.size ≤ Nd.sizes l := by
  intro l
  induction l with
  | nil => intro h; cases h
  | cons y l ih =>
    intro h
    rw [Nd.sizes]
    rcases List.mem_cons.1 h with rfl | h
    ·omega
    ·have := ih h; omega
 have := this ks h
 omega
theorem rtree_nf {e : Edt} (h : e.good e.all = true) {n : Nd} (hn : Nf n) (hs : n.size ≤ 1000000) : Pure Tryz.prog 19 [e.av, .sl .shr e.lieL, n.av] (e.tree n).av := by
 have key : ∀ (o m : Int) (s : List UInt8) (a b : Ref) (ks : List Nd), ¬ o = 5 → ¬ o = 6 → (Nd.mk o m s a b ks).size ≤ 1000000 → (∀ x ∈ ks, x.size ≤ 1000000 → Pure Tryz.prog 19 [e.av, .sl .shr e.lieL, x.av] (e.tree x).av) →
   Pure Tryz.prog 19 [e.av, .sl .shr e.lieL, (Nd.mk o m s a b ks).av] (e.tree (.mk o m s a b ks)).av := fun o m s a b ks h5 h6 hz hk => by
  have hsz := hz
  rw [Nd.size] at hsz
  have := sizes_len ks
  exact rtkids_ok e e.lieL h5 h6 (fun x hx => hk x hx (Nat.le_trans (kid_size hx) hz)) (by omega)
 induction hn with
 | num _ _ => exact key _ _ _ _ _ _ (by decide) (by decide) hs (fun x hx => by cases hx)
 | text _ _ => exact key _ _ _ _ _ _ (by decide) (by decide) hs (fun x hx => by cases hx)
 | truth _ => exact key _ _ _ _ _ _ (by decide) (by decide) hs (fun x hx => by cases hx)
 | fail _ => exact key _ _ _ _ _ _ (by decide) (by decide) hs (fun x hx => by cases hx)
 | cell hr => exact rtcell_ok h hr
 | area hr hq => exact rtarea_ok h hr hq
 | sign ho hx hne ih => exact key _ _ _ _ _ _ (by omega) (by omega) hs (fun y hy => by rw [List.mem_singleton.1 hy]; exact ih)
 | hund hx hne ih => exact key _ _ _ _ _ _ (by decide) (by decide) hs (fun y hy => by rw [List.mem_singleton.1 hy]; exact ih)
 | bin hi hx hnx hy hny ihx ihy =>
   refine key _ _ _ _ _ _ (by omega) (by omega) hs (fun z hz => ?_)
   simp only [List.mem_cons, List.not_mem_nil, or_false] at hz
   rcases hz with rfl | rfl
   ·exact ihx
   ·exact ihy
 | call hs' hl hk hm ih => exact key _ _ _ _ _ _ (by decide) (by decide) hs ih
 | miss => exact key _ _ _ _ _ _ (by decide) (by decide) hs (fun x hx => by cases hx)
theorem rcopy_nf (rows cols : Int) {n : Nd} (hn : Nf n) (hs : n.size ≤ 1000000) : Pure Tryz.prog 16 [n.av, .int .i64 rows, .int .i64 cols] (n.copy rows cols).av := by
 have key : ∀ (o m : Int) (s : List UInt8) (a b : Ref) (ks : List Nd), ¬ o = 5 → ¬ o = 6 → (Nd.mk o m s a b ks).size ≤ 1000000 → (∀ x ∈ ks, x.size ≤ 1000000 → Pure Tryz.prog 16 [x.av, .int .i64 rows, .int .i64 cols] (x.copy rows cols).av) →
   Pure Tryz.prog 16 [(Nd.mk o m s a b ks).av, .int .i64 rows, .int .i64 cols] ((Nd.mk o m s a b ks).copy rows cols).av := fun o m s a b ks h5 h6 hz hk => by
  have hsz := hz
  rw [Nd.size] at hsz
  have := sizes_len ks
  exact rckids_ok rows cols h5 h6 (fun x hx => hk x hx (Nat.le_trans (kid_size hx) hz)) (by omega)
 induction hn with
 | num _ _ => exact key _ _ _ _ _ _ (by decide) (by decide) hs (fun x hx => by cases hx)
 | text _ _ => exact key _ _ _ _ _ _ (by decide) (by decide) hs (fun x hx => by cases hx)
 | truth _ => exact key _ _ _ _ _ _ (by decide) (by decide) hs (fun x hx => by cases hx)
 | fail _ => exact key _ _ _ _ _ _ (by decide) (by decide) hs (fun x hx => by cases hx)
 | @cell r hr =>
   have e : (Nd.mk 5 0 [] r .zero []).copy rows cols = copyN rows cols (.mk 5 0 [] r .zero []) := by
    show Nd.map _ _ = _
    rw [Nd.map, if_pos (.inl rfl)]
   rw [e]
   exact rcleaf_ok rows cols (.inl rfl) hr (by decide)
 | @area r q hr hq =>
   have e : (Nd.mk 6 0 [] r q []).copy rows cols = copyN rows cols (.mk 6 0 [] r q []) := by
    show Nd.map _ _ = _
    rw [Nd.map, if_pos (.inr rfl)]
   rw [e]
   exact rcleaf_ok rows cols (.inr rfl) hr hq
 | sign ho hx hne ih => exact key _ _ _ _ _ _ (by omega) (by omega) hs (fun y hy => by rw [List.mem_singleton.1 hy]; exact ih)
 | hund hx hne ih => exact key _ _ _ _ _ _ (by decide) (by decide) hs (fun y hy => by rw [List.mem_singleton.1 hy]; exact ih)
 | bin hi hx hnx hy hny ihx ihy =>
   refine key _ _ _ _ _ _ (by omega) (by omega) hs (fun z hz => ?_)
   simp only [List.mem_cons, List.not_mem_nil, or_false] at hz
   rcases hz with rfl | rfl
   ·exact ihx
   ·exact ihy
 | call hs' hl hk hm ih => exact key _ _ _ _ _ _ (by decide) (by decide) hs ih
 | miss => exact key _ _ _ _ _ _ (by decide) (by decide) hs (fun x hx => by cases hx)
end Go.A
namespace Go.A
open Go.Proofs
/-! 4: tabular/tabularlaw14.ShiftTrees -/
def c4_33 : ACode := .seq (.ops [ oq 16 (.mv (.t 0)), oe 17 (.call 8 [(.t 16), (.v (.int .i64 300))]), oe 18 (.call 7 [(.t 17)]), oq 15 (.mv (.t 18)), oq 19 (.ext 0 (.t 15)), oq 20 (.ext 1 (.t 15)), oq 21 (.ext 2 (.t 15)), oe 9 (.alloc [(.int .i64 0), (.int .i64 0), (.str []), (.int .i64 0), (.int .i64 0), (.bool false), (.bool false), (.int .i64 0), (.int .i64 0), (.bool false), (.bool false), (.sl .full [])]), oz (.store 12 (.t 9) (.t 19)), oq 10 (.mv (.t 20)), oq 11 (.mv (.t 21))]) (.seq (.seq (.ops [ oq 22 (.mv (.t 11)), oq 23 (.bin .neq (.t 22) (.v (.int .i64 0)))]) (.cond (.t 23) (.seq (.ops [ oe 24 (.call 12 []), oq 8 (.mv (.t 24))]) .ret) .skip)) (.seq (.ops [ oq 25 (.ld (some 5) (.t 5)), oe 12 (.alloc [(.bool false), (.int .i64 0), (.int .i64 0), (.int .i64 0), (.int .i64 0)]), oz (.store 5 (.t 12) (.t 25))]) (.seq (.ops [ oq 26 (.ld (some 12) (.t 9)), oe 27 (.call 13 [(.t 26)]), oe 13 (.alloc [(.int .i64 0), (.int .i64 0), (.str []), (.int .i64 0), (.int .i64 0), (.bool false), (.bool false), (.int .i64 0), (.int .i64 0), (.bool false), (.bool false), (.sl .full [])]), oz (.store 12 (.t 13) (.t 27))]) (.seq (.seq (.ops [ oq 28 (.ld (some 12) (.t 9)), oq 29 (.mv (.t 2)), oq 30 (.mv (.t 3)), oq 33 (.ld (some 12) (.t 13)), oq 34 (.mv (.t 2)), oq 35 (.mv (.t 3)), ⟨some 31, none, .e (.call 15 [(.t 28), (.t 29), (.t 30)]), [⟨none, .ld (some 12) (.t 13), 33⟩]⟩, ⟨some 32, none, .e (.call 13 [(.t 31)]), [⟨none, .ld (some 12) (.t 13), 33⟩]⟩, oe 36 (.call 16 [(.t 33), (.t 34), (.t 35)]), oe 37 (.call 14 [(.t 32), (.t 36)]), oq 38 (.un .not (.t 37))]) (.cond (.t 38) (.seq (.ops [ oq 8 (.mv (.v (.bool false)))]) .ret) .skip)) (.seq (.ops [ oq 39 (.ld (some 5) (.t 5)), oe 40 (.call 17 [(.t 39)]), oq 14 (.mv (.t 40))]) (.seq (.seq (.ops [ oq 41 (.fa 1 (.t 5)), oq 42 (.ld none (.t 41)), oq 43 (.bin .eql (.t 42) (.v (.int .i64 1)))]) (.cond (.t 43) (.ops [ oq 44 (.mv (.t 14)), oq 45 (.fa 3 (.t 5)), oq 46 (.ld none (.t 45)), oq 47 (.bin .sub (.t 44) (.t 46)), oq 14 (.mv (.t 47))]) .skip)) (.seq (.seq (.ops [ oq 48 (.ld (some 5) (.t 12)), oq 49 (.mv (.t 14)), oe 50 (.call 18 [(.t 48), (.t 49)]), oq 51 (.un .not (.t 50))]) (.cond (.t 51) (.seq (.ops [ oe 52 (.call 12 []), oq 8 (.mv (.t 52))]) .ret) .skip)) (.seq (.ops [ oe 53 (.call 12 []), oq 54 (.mv (.t 53)), ⟨some 55, some (54, true), .q (.ld (some 5) (.t 5)), []⟩, ⟨some 56, some (54, true), .q (.ld (some 12) (.t 9)), []⟩, ⟨some 59, some (54, true), .q (.ld (some 5) (.t 12)), []⟩, ⟨some 60, some (54, true), .q (.ld (some 5) (.t 12)), []⟩, ⟨some 62, some (54, true), .q (.ld (some 12) (.t 13)), []⟩, ⟨some 57, some (54, true), .e (.call 11 [(.t 55), (.t 56)]), [⟨(some (54, true)), .ld (some 5) (.t 12), 59⟩, ⟨(some (54, true)), .ld (some 5) (.t 12), 60⟩, ⟨(some (54, true)), .ld (some 12) (.t 13), 62⟩]⟩, ⟨some 58, some (54, true), .e (.call 13 [(.t 57)]), [⟨(some (54, true)), .ld (some 5) (.t 12), 59⟩, ⟨(some (54, true)), .ld (some 5) (.t 12), 60⟩, ⟨(some (54, true)), .ld (some 12) (.t 13), 62⟩]⟩, ⟨some 61, some (54, true), .e (.call 20 [(.t 60)]), [⟨(some (54, true)), .ld (some 5) (.t 12), 59⟩, ⟨(some (54, true)), .ld (some 12) (.t 13), 62⟩]⟩, ⟨some 63, some (54, true), .e (.call 19 [(.t 59), (.t 61), (.t 62)]), []⟩, ⟨some 64, some (54, true), .e (.call 14 [(.t 58), (.t 63)]), []⟩, oq 65 (.pick (.t 54) (.t 64) (.v (.bool false))), oq 8 (.mv (.t 65))]) .ret))))))))
def c4_34 : ACode := .seq (.ops [ oe 5 (.box (.t 1)), oq 8 (.mv (.v (.bool false)))]) c4_33
@[go_sem] def c4_33_wp := wp_of c4_33.eq_1
@[go_sem] def c4_34_wp := wp_of c4_34.eq_1
def c4 : AFn := ⟨66, [.t 8], c4_34⟩
theorem c4_ok : compF Tryz.prog Tryz.f4 = some c4 := by kernel_rfl
theorem a4 {args : List AV} {σ : ASt} {R : AV → ASt → Prop} (hl : args.length ≤ 66) (h : c4_34.wp Tryz.prog (RetQ [.t 8] R) (init args) σ) : ACalls Tryz.prog 4 args σ R := acalls_of Tryz.func4 c4_ok hl h
/-! 17: tabular/tabularlaw14.most -/
def c17_3 : ACode := .seq (.ops [ oe 1 (.box (.t 0)), oq 2 (.mv (.v (.int .i64 0)))]) (.seq (.ops [ oq 3 (.ld (some 5) (.t 1)), oe 4 (.call 46 [(.t 3)]), oq 2 (.mv (.t 4))]) .ret)
@[go_sem] def c17_3_wp := wp_of c17_3.eq_1
def c17 : AFn := ⟨5, [.t 2], c17_3⟩
theorem c17_ok : compF Tryz.prog Tryz.f17 = some c17 := by kernel_rfl
theorem a17 {args : List AV} {σ : ASt} {R : AV → ASt → Prop} (hl : args.length ≤ 5) (h : c17_3.wp Tryz.prog (RetQ [.t 2] R) (init args) σ) : ACalls Tryz.prog 17 args σ R := acalls_of Tryz.func17 c17_ok hl h
end Go.A
namespace Go.A
open Go.Proofs Go.Lib
theorem nf_map_size {f : Nd → Nd} (h5 : ∀ r, (f (.mk 5 0 [] r .zero [])).size = 1) (h6 : ∀ r q, (f (.mk 6 0 [] r q [])).size = 1) {n : Nd} (h : Nf n) : (Nd.map f n).size = n.size := by
 have hk : ∀ (ks : List Nd), (∀ x ∈ ks, (Nd.map f x).size = x.size) → Nd.sizes (ks.map (Nd.map f)) = Nd.sizes ks := by
  intro ks
  induction ks with
  | nil => intro _; rfl
  | cons x l ih =>
    intro hx
    rw [List.map_cons, Nd.sizes, Nd.sizes, hx x (by simp), ih fun y hy => hx y (by simp [hy])]
 induction h with
 | num _ _ => rfl
 | text _ _ => rfl
 | truth _ => rfl
 | fail _ => rfl
 | cell _ => rw [Nd.map, if_pos (.inl rfl), h5]; rfl
 | area _ _ => rw [Nd.map, if_pos (.inr rfl), h6]; rfl
 | sign ho _ _ ih => rw [map_node (by omega) (by omega), Nd.size, Nd.size, hk _ fun y hy => by rw [List.mem_singleton.1 hy]; exact ih]
 | hund _ _ ih => rw [map_node (by decide) (by decide), Nd.size, Nd.size, hk _ fun y hy => by rw [List.mem_singleton.1 hy]; exact ih]
 | bin hi _ _ _ _ ihx ihy =>
   rw [map_node (by omega) (by omega), Nd.size, Nd.size, hk _ fun z hz => by
    simp only [List.mem_cons, List.not_mem_nil, or_false] at hz
    rcases hz with rfl | rfl
    ·exact ihx
    ·exact ihy]
 | call _ _ _ _ ih => rw [map_node (by decide) (by decide), Nd.size, Nd.size, hk _ ih]
 | miss => rfl
theorem copy_nf_size {n : Nd} (h : Nf n) (rows cols : Int) : (n.copy rows cols).size = n.size := by
 refine nf_map_size (fun r => ?_) (fun r q => ?_) h
 ·rw [copyN, if_pos rfl]
  split <;> rfl
 ·rw [copyN, if_neg (by decide)]
  split <;> rfl
theorem tree_nf_size {n : Nd} (h : Nf n) (e : Edt) : (e.tree n).size = n.size := by
 refine nf_map_size (fun r => ?_) (fun r q => ?_) h
 ·rcases cell_is e r .zero with ⟨h, _⟩ | ⟨_, h⟩ <;> rw [h] <;> rfl
 ·rcases area_is e r q with ⟨h, _⟩ | ⟨_, h⟩ <;> rw [h] <;> rfl
theorem l14most_ok (e : Edt) : Pure Tryz.prog 17 [e.av] (.int .i64 e.most) := by
 intro σ
 have hm := rmost_ok e
 unfold Edt.av at hm ⊢
 refine a17 (by simp) ?_
 simp (disch := first | assumption | omega) only [go_sem]
 refine boxC_by rfl fun c hc => ?_
 simp (disch := first | assumption | omega) only [go_sem, Nat.reduceEqDiff, Nat.reduceLeDiff, ↓reduceIte]
 refine hm.use ?_
 simp (disch := first | assumption | omega) only [go_sem, ↓reduceIte]
 exact retC_by (Drop.set hc) (.refl _) ⟨rfl, rfl⟩
set_option maxHeartbeats 2000000 in
theorem ShiftTrees_any {σ : ASt} (hT : Tab σ) (hM : MaxL σ) (hU : U8 σ) (hV : LV σ) (s : List UInt8) (e : Edt) (he : -9223372036854775808 ≤ e.n ∧ e.n ≤ 9223372036854775807) (rows cols : Int) :
  ACalls Tryz.prog 4 [.str s, e.av, .int .i64 rows, .int .i64 cols] σ fun v σ' => v = .bool true ∧ σ' = σ := by
 have hA : ∀ τ, Tab τ → MaxL τ → U8 τ → LV τ → ACalls Tryz.prog 12 [] τ fun v σ' => v = .bool true ∧ σ' = τ := fun τ h1 h2 h3 h4 => shawake_ok h1 h2 h3 h4
 have hc : Pure Tryz.prog 8 [.str s, .int .i64 300] (.str (s.take 300)) := cut_ok s 300
 have hlen : (s.take 300).length ≤ 1000000000 := by rw [List.length_take]; omega
 have hP := fun (τ : ASt) (h1 : U8 τ) (h2 : LV τ) => parseR_ok h1 h2 (s.take 300) hlen
 have hgd := parseR_gd (s := s.take 300)
 have hnf := parseR_nf (s := s.take 300)
 obtain ⟨⟨n, k, er⟩, hR⟩ : ∃ R, parseR (s.take 300) = R := ⟨_, rfl⟩
 rw [hR] at hP hgd hnf
 dsimp only at hP hgd hnf
 clear hR
 generalize s.take 300 = s' at *
 have hmo := l14most_ok e
 have hgo := rgood14_ok e
 have hmr := most_rng e
 by_cases her : er = 0
 ·obtain ⟨hg, hsz⟩ := hgd her
  obtain ⟨hn, hn2, hn3⟩ := hnf her
  subst her
  have hTo := told_ok n (by omega)
  have hCo := shcopy_ok n hg.1 (by omega) rows cols
  have hcs := copy_nf_size hn rows cols
  have hTc := told_ok (n.copy rows cols) (by omega)
  have hRc := rcopy_nf rows cols hn (by omega)
  have hSc := rsame_ok (n.copy rows cols) (n.copy rows cols) (by omega) (by omega)
  rw [Nd.same_refl] at hSc
  have hts := tree_nf_size hn e
  have hTt := told_ok (e.tree n) (by omega)
  have hSt := rsame_ok (e.tree n) (e.tree n) (by omega) (by omega)
  rw [Nd.same_refl] at hSt
  have hTr := fun h => shtree_ok e (Edt.good_fit (c := e.all) h) n hg.1 (by omega)
  have hPl := fun h : e.good e.all = true => rplaces_ok h
  have hRt := fun h : e.good e.all = true => rtree_nf h hn (by omega)
  have hall : e.n < 1 → ∀ c, e.good c = false := fun h c => by
   unfold Edt.good
   rw [if_pos (by omega)]
  have hal : e.all = if e.kind = 1 then e.most - e.n else e.most := rfl
  clear hgd hnf hg hn hcs hts
  generalize e.lieL = LL at *
  generalize e.tree n = TN at *
  generalize n.copy rows cols = CN at *
  obtain ⟨op, m, x, a, b, ks⟩ := n
  obtain ⟨top, tm, tx, ta, tb, tks⟩ := TN
  obtain ⟨cop, cm, cx, ca, cb, cks⟩ := CN
  simp only [Nd.av_cs] at hP hTo hCo hRc hTr hRt hTc hSc hTt hSt
  unfold Edt.av at *
  generalize ks.map Nd.av = L at *
  generalize tks.map Nd.av = L2 at *
  generalize cks.map Nd.av = L3 at *
  generalize hM0 : e.most = M at *
  refine a4 (by simp) ?_
  simp (disch := first | assumption | omega) only [go_sem]
  refine boxC_by rfl fun c5 h5 => ?_
  have T1 := fun r => Tab.set (r := r) hT h5
  have M1 := fun r => MaxL.set (r := r) hM h5
  have U1 := fun r => U8.set (r := r) hU h5
  have V1 := fun r => LV.set (r := r) hV h5
  simp (disch := first | assumption | omega) only [go_sem, reduceCtorEq, ↓reduceIte]
  refine hc.use ?_
  simp (disch := first | assumption | omega) only [go_sem, ↓reduceIte]
  refine (hP _ (U1 _) (V1 _)).mono ?_
  rintro v σ' ⟨rfl, rfl⟩
  simp (disch := first | assumption | omega) only [go_sem, Nat.reduceEqDiff, ↓reduceIte]
  refine allocC_by fun c9 h9 => ?_
  have T2 := fun r => Tab.set (r := r) (T1 _) h9
  have M2 := fun r => MaxL.set (r := r) (M1 _) h9
  have U2 := fun r => U8.set (r := r) (U1 _) h9
  have V2 := fun r => LV.set (r := r) (V1 _) h9
  have h9' := h9
  repeat (with_reducible replace h9 := set_none h9; obtain ⟨_, _, h9⟩ := h9)
  simp (disch := first | assumption | omega) only [go_sem, Nat.reduceEqDiff, Nat.reduceAdd, Nat.reduceLeDiff, ↓reduceIte, ASt.set_set]
  refine allocC_by fun c12 h12 => ?_
  have h12' := h12
  have T3 := fun r => Tab.set (r := r) (T2 _) h12
  have M3 := fun r => MaxL.set (r := r) (M2 _) h12
  have U3 := fun r => U8.set (r := r) (U2 _) h12
  have V3 := fun r => LV.set (r := r) (V2 _) h12
  repeat (with_reducible replace h12 := set_none h12; obtain ⟨_, _, h12⟩ := h12)
  simp (disch := first | assumption | omega) only [go_sem, Nat.reduceEqDiff, Nat.reduceAdd, Nat.reduceLeDiff, ↓reduceIte, ASt.set_set]
  refine hTo.use ?_
  simp (disch := first | assumption | omega) only [go_sem]
  refine allocC_by fun c13 h13 => ?_
  have T4 := fun r => Tab.set (r := r) (T3 _) h13
  have M4 := fun r => MaxL.set (r := r) (M3 _) h13
  have U4 := fun r => U8.set (r := r) (U3 _) h13
  have V4 := fun r => LV.set (r := r) (V3 _) h13
  repeat (with_reducible replace h13 := set_none h13; obtain ⟨_, _, h13⟩ := h13)
  simp (disch := first | assumption | omega) only [go_sem, Nat.reduceEqDiff, Nat.reduceAdd, Nat.reduceLeDiff, ↓reduceIte, ASt.set_set]
  refine hCo.use ?_
  simp (disch := first | assumption | omega) only [go_sem, Nat.reduceEqDiff, Nat.reduceLeDiff, ↓reduceIte, eq_self]
  refine hTc.use ?_
  simp (disch := first | assumption | omega) only [go_sem, Nat.reduceEqDiff, Nat.reduceLeDiff, ↓reduceIte, eq_self]
  refine hRc.use ?_
  simp (disch := first | assumption | omega) only [go_sem, Nat.reduceEqDiff, ↓reduceIte, eq_self]
  refine hSc.use ?_
  simp (disch := first | assumption | omega) only [go_sem, Nat.reduceEqDiff, Nat.reduceLeDiff, ↓reduceIte]
  refine hmo.use ?_
  by_cases hgg : e.good e.all = true
  ·have hTr := hTr hgg
   have hPl := hPl hgg
   have hRt := hRt hgg
   have hn1 : ¬ e.n < 1 := fun h => by rw [hall h] at hgg; cases hgg
   have hn3 : e.n ≤ 3000 := by
    have := (Edt.all_good hgg)
    rw [hM0] at this
    omega
   have hgo := hgo e.all
   rw [hgg] at hgo
   rw [hal] at hgo
   by_cases k1 : e.kind = 1
   ·rw [if_pos k1] at hgo
    simp (disch := first | assumption | omega) only [go_sem, Nat.reduceEqDiff, Nat.reduceLeDiff, ↓reduceIte, k1]
    refine hgo.use ?_
    simp (disch := first | assumption | omega) only [go_sem, ↓reduceIte]
    refine (hA _ (T4 _) (M4 _) (U4 _) (V4 _)).mono ?_
    rintro v σ' ⟨rfl, rfl⟩
    simp (disch := first | assumption | omega) only [go_sem, Nat.reduceEqDiff, Nat.reduceLeDiff, ↓reduceIte, eq_self]
    refine hTr.use ?_
    simp (disch := first | assumption | omega) only [go_sem, Nat.reduceEqDiff, Nat.reduceLeDiff, ↓reduceIte, forall_const, eq_self]
    refine hTt.use ?_
    simp (disch := first | assumption | omega) only [go_sem, Nat.reduceEqDiff, Nat.reduceLeDiff, ↓reduceIte, forall_const, eq_self]
    refine hPl.use ?_
    simp (disch := first | assumption | omega) only [go_sem, Nat.reduceEqDiff, Nat.reduceLeDiff, ↓reduceIte, forall_const, eq_self]
    refine hRt.use ?_
    simp (disch := first | assumption | omega) only [go_sem, Nat.reduceEqDiff, ↓reduceIte, eq_self]
    refine hSt.use ?_
    simp (disch := first | assumption | omega) only [go_sem, Nat.reduceEqDiff, ↓reduceIte]
    exact retC_by (by repeat' (first | exact Drop.refl _ | with_reducible refine Drop.off ?_ (by assumption))) (.refl _) ⟨rfl, rfl⟩
   ·rw [if_neg k1] at hgo
    simp (disch := first | assumption | omega) only [go_sem, Nat.reduceEqDiff, Nat.reduceLeDiff, ↓reduceIte, k1]
    refine hgo.use ?_
    simp (disch := first | assumption | omega) only [go_sem, ↓reduceIte]
    refine (hA _ (T4 _) (M4 _) (U4 _) (V4 _)).mono ?_
    rintro v σ' ⟨rfl, rfl⟩
    simp (disch := first | assumption | omega) only [go_sem, Nat.reduceEqDiff, Nat.reduceLeDiff, ↓reduceIte, eq_self]
    refine hTr.use ?_
    simp (disch := first | assumption | omega) only [go_sem, Nat.reduceEqDiff, Nat.reduceLeDiff, ↓reduceIte, forall_const, eq_self]
    refine hTt.use ?_
    simp (disch := first | assumption | omega) only [go_sem, Nat.reduceEqDiff, Nat.reduceLeDiff, ↓reduceIte, forall_const, eq_self]
    refine hPl.use ?_
    simp (disch := first | assumption | omega) only [go_sem, Nat.reduceEqDiff, Nat.reduceLeDiff, ↓reduceIte, forall_const, eq_self]
    refine hRt.use ?_
    simp (disch := first | assumption | omega) only [go_sem, Nat.reduceEqDiff, ↓reduceIte, eq_self]
    refine hSt.use ?_
    simp (disch := first | assumption | omega) only [go_sem, Nat.reduceEqDiff, ↓reduceIte]
    exact retC_by (by repeat' (first | exact Drop.refl _ | with_reducible refine Drop.off ?_ (by assumption))) (.refl _) ⟨rfl, rfl⟩
  ·clear hTr hPl hRt hTt hSt
   have hgf : e.good e.all = false := by simpa using hgg
   by_cases k1 : e.kind = 1
   ·obtain ⟨c, hc0⟩ : ∃ c, IntKind.wrap .i64 (M - e.n) = c := ⟨_, rfl⟩
    have hcc : e.good c = false := by
     by_cases hn1 : e.n < 1
     ·exact hall hn1 c
     ·rw [hal, if_pos k1] at hgf
      rw [wrap_i64 (by omega) (by omega)] at hc0
      rw [← hc0]
      exact hgf
    have hgo := hgo c
    rw [hcc] at hgo
    simp (disch := first | assumption | omega) only [go_sem, Nat.reduceEqDiff, Nat.reduceLeDiff, ↓reduceIte, k1, hc0]
    refine hgo.use ?_
    simp (disch := first | assumption | omega) only [go_sem, ↓reduceIte]
    refine (hA _ (T4 _) (M4 _) (U4 _) (V4 _)).mono ?_
    rintro v σ' ⟨rfl, rfl⟩
    simp (disch := first | assumption | omega) only [go_sem, ↓reduceIte]
    exact retC_by (by repeat' (first | exact Drop.refl _ | with_reducible refine Drop.off ?_ (by assumption))) (.refl _) ⟨rfl, rfl⟩
   ·have hgo := hgo e.all
    rw [hgf, hal, if_neg k1] at hgo
    simp (disch := first | assumption | omega) only [go_sem, Nat.reduceEqDiff, Nat.reduceLeDiff, ↓reduceIte, k1]
    refine hgo.use ?_
    simp (disch := first | assumption | omega) only [go_sem, ↓reduceIte]
    refine (hA _ (T4 _) (M4 _) (U4 _) (V4 _)).mono ?_
    rintro v σ' ⟨rfl, rfl⟩
    simp (disch := first | assumption | omega) only [go_sem, ↓reduceIte]
    exact retC_by (by repeat' (first | exact Drop.refl _ | with_reducible refine Drop.off ?_ (by assumption))) (.refl _) ⟨rfl, rfl⟩
 ·obtain ⟨op, m, x, a, b, ks⟩ := n
  rw [Nd.av_cs] at hP
  clear hgd hnf hgo hmo
  unfold Edt.av
  generalize ks.map Nd.av = L at *
  refine a4 (by simp) ?_
  simp (disch := first | assumption | omega) only [go_sem]
  refine boxC_by rfl fun c5 h5 => ?_
  have T1 := fun r => Tab.set (r := r) hT h5
  have M1 := fun r => MaxL.set (r := r) hM h5
  have U1 := fun r => U8.set (r := r) hU h5
  have V1 := fun r => LV.set (r := r) hV h5
  simp (disch := first | assumption | omega) only [go_sem, reduceCtorEq, ↓reduceIte]
  refine hc.use ?_
  simp (disch := first | assumption | omega) only [go_sem, ↓reduceIte]
  refine (hP _ (U1 _) (V1 _)).mono ?_
  rintro v σ' ⟨rfl, rfl⟩
  simp (disch := first | assumption | omega) only [go_sem, Nat.reduceEqDiff, ↓reduceIte]
  refine allocC_by fun c9 h9 => ?_
  have T2 := fun r => Tab.set (r := r) (T1 _) h9
  have M2 := fun r => MaxL.set (r := r) (M1 _) h9
  have U2 := fun r => U8.set (r := r) (U1 _) h9
  have V2 := fun r => LV.set (r := r) (V1 _) h9
  repeat (with_reducible replace h9 := set_none h9; obtain ⟨_, _, h9⟩ := h9)
  simp (disch := first | assumption | omega) only [go_sem, Nat.reduceEqDiff, Nat.reduceAdd, Nat.reduceLeDiff, ↓reduceIte, her, ASt.set_set]
  refine (hA _ (T2 _) (M2 _) (U2 _) (V2 _)).mono ?_
  rintro v σ' ⟨rfl, rfl⟩
  simp (disch := first | assumption | omega) only [go_sem, ↓reduceIte]
  exact retC_by (by repeat' (first | exact Drop.refl _ | with_reducible refine Drop.off ?_ (by assumption))) (.refl _) ⟨rfl, rfl⟩
end Go.A
namespace Go.Proofs.YthdpkgfdjmeaiaaGreatDoor
open Go Go.ChangeShapes Go.WideShapes Go.ChangeAt Go.RowKit Go.A Go.Lib Go.Shelf
theorem row_own : ownKnob Tryz.prog.godebug = none := by kernel_rfl
theorem row_laid : laidOutB Tryz.prog = true := by kernel_rfl
theorem first_eq : Rows.laid_unicode_utf8_first = firstData := by kernel_rfl
theorem acc_eq : (Rows.laid_unicode_utf8_acceptRanges : DataW Unit) = acceptData := by kernel_rfl
theorem u8_extra : U8Extra Tryz.prog Tryz.lays260_ren := ⟨by kernel_rfl, by kernel_rfl, by kernel_rfl, by kernel_rfl, by kernel_rfl, by kernel_rfl, by kernel_rfl⟩
theorem var_size {P : Program} {w : World} {n : String} {d : DataW Unit} (h : VarReads P w n d) {g : Nat} (hg : P.globalNamed n = some g) {t e : TypeId} {k : Nat} (hty : (P.globals[g]?).map (·.type) = some t) (ht : P.underlying t = some (.array k e)) :
  ∃ cs T fr, w.heap[g]? = some (.cells cs T fr) ∧ cs.size = P.cellsOf t := by
 obtain ⟨g', t', cs, fuel, p, hg', hty', hvar, hd⟩ := h
 obtain rfl := Option.some.inj (hg.symm.trans hg')
 obtain rfl := Option.some.inj (hty.symm.trans hty')
 have hlen : cs.toList.length = P.cellsOf t := by
  cases fuel with
  | zero => simp [DataW.trod] at hd
  | succ fuel =>
    simp only [DataW.trod, ht] at hd
    split at hd
    ·assumption
    ·cases hd
 unfold World.var? at hvar
 rw [hg, Option.bind_some] at hvar
 split at hvar
 ·rename_i cs' T fr hheap
  injection hvar with hvar
  subst hvar
  exact ⟨_, _, _, hheap, by simpa using hlen⟩
 ·cases hvar
theorem ints_reps {σ : ASt} {w : World} {k : IntKind} : ∀ zs : List Int, Reps σ w (zs.map (AV.int k)) (zs.map (Value.int k))
 | [] => .nil
 | z :: zs => .cons (.int k z) (ints_reps zs)
theorem fix_ok {σ : ASt} {W : World} {b : Nat} {zs : List Int} (hs : σ b = some (.fix (zs.map (AV.int .u8)))) {cs : Array Value} {T : TypeId} {fr : Nat × Nat} (hh : W.heap[b]? = some (.cells cs T fr)) (hsz : cs.size = zs.length)
  (hc : ∀ j z, zs[j]? = some z → W.cell? ⟨b, j, none⟩ = some (.int .u8 z)) : RoleOk σ W b (.fix (zs.map (AV.int .u8))) := by
 have hlt : b < W.heap.size := (Array.getElem?_eq_some_iff.1 hh).1
 refine ⟨At.mk' (ints_reps _) (fun j _ => ⟨hlt, .inr (.inl ⟨_, hs⟩)⟩) (fun j v hj => ?_), cs, T, fr, hh, by simpa using hsz⟩
 rw [List.getElem?_map] at hj
 obtain ⟨z, hz, rfl⟩ := Option.map_eq_some_iff.1 hj
 rw [Nat.zero_add]
 exact hc j z hz
def stOf : List (Nat × List AV) → ASt
 | [], _ => none
 | p :: ps, b => if b = p.1 then some (.fix p.2) else stOf ps b
theorem stOf_fix : ∀ {ps : List (Nat × List AV)} {b : Nat} {r : Role}, stOf ps b = some r → ∃ l, r = .fix l
 | [], _, _, h => by cases h
 | p :: ps, b, r, h => by
   simp only [stOf] at h
   split at h
   ·injection h with h; exact ⟨_, h.symm⟩
   ·exact stOf_fix h
theorem stOf_mem : ∀ {ps : List (Nat × List AV)} {b : Nat} {r : Role}, stOf ps b = some r → ∃ l, (b, l) ∈ ps ∧ r = .fix l
 | [], _, _, h => by cases h
 | p :: ps, b, r, h => by
   simp only [stOf] at h
   split at h
   ·rename_i hb
    injection h with h
    subst hb
    exact ⟨p.2, List.mem_cons_self, h.symm⟩
   ·obtain ⟨l, hl, he⟩ := stOf_mem h
    exact ⟨l, List.mem_cons_of_mem _ hl, he⟩
theorem still_fix {σ : ASt} (hfx : ∀ b r, σ b = some r → ∃ l, r = .fix l) {w : World} {b o : Nat} (h : b < w.heap.size) : Still σ w b o := by
 refine ⟨h, ?_⟩
 cases hb : σ b with
 | none => exact .inl rfl
 | some r => obtain ⟨l, rfl⟩ := hfx b r hb; exact .inr (.inl ⟨_, rfl⟩)
end Go.Proofs.YthdpkgfdjmeaiaaGreatDoor
namespace Go.A
section
variable {σ : ASt} {w : World}
theorem Still.fixed (hfx : ∀ b r, σ b = some r → ∃ l, r = .fix l) {b o : Nat} (h : Still noRole w b o) : Still σ w b o := by
 refine ⟨h.1, ?_⟩
 cases hb : σ b with
 | none => exact .inl rfl
 | some r => obtain ⟨l, rfl⟩ := hfx b r hb; exact .inr (.inl ⟨_, rfl⟩)
theorem Stands.fixed (hfx : ∀ b r, σ b = some r → ∃ l, r = .fix l) (b : Nat) : Stands σ b := by
 refine ⟨fun cs h => ?_, fun l p h => ?_, fun T cs h => ?_⟩ <;> (obtain ⟨l, hl⟩ := hfx b _ h; cases hl)
theorem SK.ok_fixed (hfx : ∀ b r, σ b = some r → ∃ l, r = .fix l) {k : SK} {b o n c sz : Nat} (h : k.ok noRole w b o n c sz) : k.ok σ w b o n c sz := by
 cases k with
 | shr => trivial
 | full => exact h
 | tok t s T => exact ⟨h.1, h.2.1, h.2.2.1, h.2.2.2.1, Stands.fixed hfx b⟩
mutual
theorem Rep.fixed (hfx : ∀ b r, σ b = some r → ∃ l, r = .fix l) : ∀ {a : AV} {v : Value}, Rep noRole w a v → Rep σ w a v
 | _, _, .any v => .any v
 | _, _, .bool b => .bool b
 | _, _, .int k n => .int k n
 | _, _, .str l => .str l
 | _, _, .ptr b o => .ptr b o
 | _, _, .imm h1 => .imm (h1.fixed hfx)
 | _, _, .nilp => .nilp
 | _, _, .slE A c => .slE A c
 | _, _, .slN => .slN
 | _, _, .sl h1 h2 h3 h4 h5 => .sl (h1.fixed hfx) h2 h3 (SK.ok_fixed hfx h4) h5
 | _, _, .msl b o n c => .msl b o n c
 | _, _, .agg h1 => .agg (h1.fixed hfx)
 | _, _, .tuple h1 => .tuple (h1.fixed hfx)
 | _, _, .iface h1 => .iface (h1.fixed hfx)
 | _, _, .nili => .nili
 | _, _, .func h1 h2 => .func (h1.fixed hfx) (h2.fixed hfx)
 | _, _, .nilf => .nilf
theorem Reps.fixed (hfx : ∀ b r, σ b = some r → ∃ l, r = .fix l) : ∀ {avs : List AV} {vs : List Value}, Reps noRole w avs vs → Reps σ w avs vs
 | _, _, .nil => .nil
 | _, _, .cons h1 h2 => .cons (h1.fixed hfx) (h2.fixed hfx)
theorem At.fixed (hfx : ∀ b r, σ b = some r → ∃ l, r = .fix l) : ∀ {b o : Nat} {avs : List AV}, At noRole w b o avs → At σ w b o avs
 | _, _, _, .nil b o => .nil b o
 | _, _, _, .cons h1 h2 h3 h4 => .cons (h1.fixed hfx) h2 (h3.fixed hfx) (h4.fixed hfx)
theorem Row.fixed (hfx : ∀ b r, σ b = some r → ∃ l, r = .fix l) : ∀ {b o sz : Nat} {avs : List AV}, Row noRole w b o sz avs → Row σ w b o sz avs
 | _, _, _, _, .nil b o sz => .nil b o sz
 | _, _, _, _, .cons h1 h2 h3 => .cons h1 (h2.fixed hfx) (h3.fixed hfx)
end
end
end Go.A
namespace Go.Proofs.YthdpkgfdjmeaiaaGreatDoor
open Go Go.ChangeShapes Go.WideShapes Go.ChangeAt Go.RowKit Go.A Go.Lib Go.Shelf
theorem u8_roles {σ : ASt} {W : World} (h3 : VarReads Tryz.prog W "unicode/utf8.first" firstData) (h4 : VarReads Tryz.prog W "unicode/utf8.acceptRanges" acceptData) :
  (σ 3 = some (.fix (firstTab.map (AV.int .u8))) → RoleOk σ W 3 (.fix (firstTab.map (AV.int .u8)))) ∧ (σ 4 = some (.fix (accTab.map (AV.int .u8))) → RoleOk σ W 4 (.fix (accTab.map (AV.int .u8)))) := by
 have hT := utf8Tabs_of_reads (ρ := Tryz.lays260_ren) Tryz.lays260 u8_extra h3 h4
 obtain ⟨hT1, hT2⟩ := hT
 have hT1 : ∀ c, c < 256 → W.cell? ⟨3, c, none⟩ = some (.int .u8 (firstT c)) := hT1
 have hT2 : ∀ i, i < 16 → W.cell? ⟨4, 2 * i, none⟩ = some (.int .u8 (accLo i)) ∧ W.cell? ⟨4, 2 * i + 1, none⟩ = some (.int .u8 (accHi i)) := hT2
 constructor
 ·intro hs
  obtain ⟨cs, T, fr, hh, hsz⟩ := var_size h3 (g := 3) (by kernel_rfl) u8_extra.y3 (Tryz.lays260.t119)
  refine fix_ok hs hh (hsz.trans (by kernel_rfl)) fun j z hj => ?_
  have hl := (List.getElem?_eq_some_iff.1 hj).1
  simp only [firstTab, List.length_map, List.length_range] at hl
  simp only [firstTab, List.getElem?_map, List.getElem?_range hl, Option.map_some, Option.some.injEq] at hj
  subst hj
  exact hT1 j hl
 ·intro hs
  obtain ⟨cs, T, fr, hh, hsz⟩ := var_size h4 (g := 4) (by kernel_rfl) u8_extra.y4 (Tryz.lays260.t139)
  refine fix_ok hs hh (hsz.trans (by kernel_rfl)) fun j z hj => ?_
  have hl := (List.getElem?_eq_some_iff.1 hj).1
  have key : ∀ j, j < 32 → accTab[j]? = some (if j % 2 = 0 then (accLo (j / 2) : Int) else accHi (j / 2)) := by decide
  have hl : j < 32 := hl
  rw [key j hl] at hj
  injection hj with hj
  subst hj
  obtain ⟨g1, g2⟩ := hT2 (j / 2) (by omega)
  split
  ·rw [show 2 * (j / 2) = j by omega] at g1; exact g1
  ·rw [show 2 * (j / 2) + 1 = j by omega] at g2; exact g2
theorem pow_role {σ : ASt} {W : World} (hfx : ∀ b r, σ b = some r → ∃ l, r = .fix l) (h3 : VarReads Tryz.prog W "internal/strconv.uint64pow10" (Lib.tabData .u64 Lib.pow10Tab)) :
  RoleOk σ W 5 (.fix (Lib.pow10Tab.map (AV.int .u64))) := by
 obtain ⟨g', t', cs, fuel, p, hg', ht', hvar, hd⟩ := h3
 obtain rfl := Option.some.inj ((show Tryz.prog.globalNamed "internal/strconv.uint64pow10" = some 5 by kernel_rfl).symm.trans hg')
 obtain rfl := Option.some.inj ((show (Tryz.prog.globals[5]?).map (·.type) = some 211 by kernel_rfl).symm.trans ht')
 have hcs := cells_of_tab (n := 20) (e := 103) (k := .u64) (by kernel_rfl) (by kernel_rfl) (by kernel_rfl) (by kernel_rfl) hd
 unfold World.var? at hvar
 rw [show Tryz.prog.globalNamed "internal/strconv.uint64pow10" = some 5 by kernel_rfl, Option.bind_some] at hvar
 split at hvar
 ·rename_i cs' T fr hheap
  injection hvar with hvar
  have hlt : 5 < W.heap.size := (Array.getElem?_eq_some_iff.1 hheap).1
  have he : cs' = (Lib.pow10Tab.map fun z => Value.int .u64 z).toArray := by rw [hvar]; exact Array.ext' (by simpa using hcs)
  refine ⟨At.mk' (ints_reps _) (fun j _ => still_fix hfx hlt) (fun j v hj => ?_), cs', T, fr, hheap, by rw [he]; simp⟩
  simp only [World.cell?, hheap, Nat.zero_add, he]
  simpa using hj
 ·cases hvar
end Go.Proofs.YthdpkgfdjmeaiaaGreatDoor
namespace Go.Proofs.YthdpkgfdjmeaiaaGreatDoor
open Go Go.ChangeShapes Go.WideShapes Go.ChangeAt Go.RowKit Go.A Go.Lib Go.Shelf
def vPs : List (Nat × List AV) := [(3, firstTab.map (AV.int .u8)), (4, accTab.map (AV.int .u8)), (5, Lib.pow10Tab.map (AV.int .u64))]
def vSt : ASt := stOf vPs
end Go.Proofs.YthdpkgfdjmeaiaaGreatDoor
namespace Go
variable {H : Type} {enc : TypeId × Value → H}
theorem A.returnsInHanded_and_shaped {a : Assume} {C : Checked} {os : Os} {f : FuncId} {fn : Func} {s : ChangeSpec} {conds : List PathCond} {apart fresh handsOn again : Bool} {X : World → Array Value → Prop}
  (hX : ∀ (w w' : World) (args : Array Value), w.heap = w'.heap → X w args → X w' args)
  (own : ownKnob C.prog.godebug = none) (started : os.Started) (noInit : C.prog.inits.idxOf? f = none) (hfn : C.prog.funcs[f]? = some fn)
  (witness : ∃ (w : World) (tape : Tape) (i : Input), w.os = os ∧ (w.forCall tape i).Shaped C.prog ∧ i.vars = [] ∧ Input.okWide C.prog (w.forCall tape i) .any w.heap.size f i ∧
   ((s.pre enc C.prog fn conds apart (w.forCall tape i).memory i.args ∧ X (w.forCall tape i).memory i.args) ∧ sizedMet enc C.prog fn (OpenSpec.ofChange s) apart (w.forCall tape i).memory i.args) ∧ a.holds C.prog (lone (Frame.enter C.prog f i.args .normal) [] (w.forCall tape i)))
  (contract : ∀ (W : World) (base : Nat) (args : Array Value) (ds gs : List (DataW H)) (before : List MemPlace),
   (∀ (j : Nat) t v, fn.params[j]? = some t → args[j]? = some v → Value.okWide C.prog W .any base t v) →
   DataW.Whole enc C.prog fn.params.toList s.vars apart W args.toList ds gs before →
   W.ShapedOpen C.prog → X W args →
   Calls C.prog f args W fun e W' => ∃ v, e = .returned v ∧ s.post enc C.prog fn apart fresh handsOn again W args v W') :
  ReturnsInHanded a C os f .any (fun w args => (s.pre enc C.prog fn conds apart w args ∧ X w args) ∧ sizedMet enc C.prog fn (OpenSpec.ofChange s) apart w args) (s.post enc C.prog fn apart fresh handsOn again) := by
 refine returnsInHanded_of_calls own started noInit witness ?_
 intro w tape i _ hsh _ hok hpre hholds
 obtain ⟨_, _, _, fn', hfn', _, _, _, _, hval⟩ := hok
 have e : fn' = fn := Option.some.inj (hfn'.symm.trans hfn)
 subst e
 obtain ⟨⟨⟨ds, gs, before, hw, hc⟩, hx⟩, hz⟩ := hpre
 have hw' := DataW.Whole.of_heap (w' := w.forCall tape i) (by rfl) hw
 refine (contract (w.forCall tape i) w.heap.size i.args ds gs before hval hw' hsh (hX _ _ _ (by rfl) hx)).mono fun e W' ⟨v, he, hp⟩ => ?_
 subst he
 exact ChangeSpec.post_blind hp
end Go
namespace Go.Proofs.YthdpkgfdjmeaiaaGreatDoor
open Go Go.ChangeShapes Go.WideShapes Go.ChangeAt Go.RowKit Go.A Go.Lib Go.Shelf
def wSt (m : Int) : ASt := fun b => if b = 2 then some (.fix ([m].map (AV.int .i64))) else vSt b
theorem wSt_fix {m : Int} {b : Nat} {r : Role} (h : wSt m b = some r) : ∃ l, r = .fix l := by
 unfold wSt at h
 split at h
 ·injection h with h; exact ⟨_, h.symm⟩
 ·exact stOf_fix h
end Go.Proofs.YthdpkgfdjmeaiaaGreatDoor
namespace Go.Proofs.YthdpkgfdjmeaiaaGreatDoor
open Go Go.ChangeShapes Go.WideShapes Go.ChangeAt Go.RowKit Go.A Go.Lib Go.Shelf
theorem strs_trod {H : Type} {enc : TypeId × Value → H} {P : Program} {w : World} {base : Nat} {spare : Nat → Bool} {held : Bool} {fuel : Nat} {t e : TypeId} {cs : List Value} {l : List (List UInt8)} {m : List MemPlace}
  (ht : P.underlying t = some (.slice e)) (he : P.underlying e = some .string) (hc : P.cellsOf e = 1) (hl : 0 < l.length)
  (hd : DataW.trod enc P w base spare held fuel t cs = some (.slice (l.map fun s => .lit (.string s)) [], m)) :
  ∃ R o cap, cs = [.slice (some ⟨R, o, none⟩) l.length cap] ∧ l.length ≤ cap ∧ ∀ j s, l[j]? = some s → w.cell? ⟨R, o + j, none⟩ = some (.string ⟨⟨s⟩⟩) := by
 rcases DataW.trod_slice ht hd with ⟨_, hx⟩ | ⟨a, len, cap, el, rs, k, rfl, hcs, hx, _, hlc, _, hel, helem, hsp, _⟩
 ·cases hx
 have e0 := congrArg Prod.fst hx
 simp only [DataW.slice.injEq] at e0
 obtain ⟨eE, eR⟩ := e0
 have hlen : len = l.length := by
  have := congrArg List.length eE
  simp at this
  omega
 have hcell : ∀ i z, l[i]? = some z → w.cell? (a.add i) = some (.string ⟨⟨z⟩⟩) := by
  intro i z hiz
  have hi : i < l.length := (List.getElem?_eq_some_iff.1 hiz).1
  have h1 := helem i (by omega)
  rw [hc] at h1
  obtain ⟨b, hb⟩ : ∃ b, el[i]? = some b := ⟨el[i]'(by omega), List.getElem?_eq_getElem (by omega)⟩
  rw [hb] at h1
  obtain ⟨ce, hce, hte⟩ := Option.bind_eq_some_iff.1 h1
  obtain ⟨z', hz, hbz, _⟩ := DataW.trod_string he hte
  have hb1 : b.1 = .lit (.string z) := by
   have := congrArg (·[i]?) eE
   simp only [List.getElem?_map, hiz, hb, Option.map_some, Option.some.injEq] at this
   exact this.symm
  rw [hbz] at hb1
  simp only [DataW.lit.injEq, Lit.string.injEq] at hb1
  obtain ⟨_, _, hcc⟩ := World.cells?_some hce
  have := hcc 0 (by omega)
  rw [hz] at this
  simp only [Nat.mul_one] at this
  have e1 : (a.add i).add 0 = a.add i := by simp [Addr.add]
  rw [e1] at this
  rw [this, ← hb1]
  rfl
 obtain ⟨z0, hz0⟩ : ∃ z, l[0]? = some z := ⟨l[0], List.getElem?_eq_getElem hl⟩
 obtain ⟨R, o, sR⟩ := a
 obtain rfl : sR = none := by
  have h00 := hcell 0 z0 hz0
  have : (Addr.add ⟨R, o, sR⟩ 0) = ⟨R, o, sR⟩ := by simp [Addr.add]
  rw [this] at h00
  exact Go.Proofs.cell_spot h00
 exact ⟨R, o, cap, by rw [hcs, hlen], by omega, fun j s hj => by have := hcell j s hj; rwa [Addr.add_lit] at this⟩
theorem block_lt {w : World} {R o : Nat} {s : Option Nat} {v : Value} (h : w.cell? ⟨R, o, none⟩ = some v) : R < w.heap.size := by
 refine Nat.lt_of_not_le fun hge => ?_
 simp [World.cell?, Array.getElem?_eq_none hge] at h
theorem strs_row {σ : ASt} {w : World} {b : Nat} (hst : ∀ o, Still σ w b o) : ∀ (zs : List (List UInt8)) (o : Nat), (∀ j z, zs[j]? = some z → w.cell? ⟨b, o + j, none⟩ = some (.string ⟨⟨z⟩⟩)) → Row σ w b o 1 (zs.map AV.str)
 | [], o, _ => .nil _ _ _
 | z :: zs, o, h => .cons rfl (.cons (hst o) (h 0 z rfl) (.str z) (.nil _ _)) (strs_row hst zs (o + 1) fun j z' hj => by
   have := h (j + 1) z' (by simpa using hj)
   rwa [show o + (j + 1) = o + 1 + j by omega] at this)
theorem strss_row {σ : ASt} {w : World} {b : Nat} (hst : ∀ o, Still σ w b o) : ∀ (zs : List (List (List UInt8))) (o : Nat),
  (∀ j z, zs[j]? = some z → ∃ v, w.cell? ⟨b, o + j, none⟩ = some v ∧ Rep σ w (.sl .shr (z.map AV.str)) v) → Row σ w b o 1 (zs.map fun l => AV.sl .shr (l.map AV.str))
 | [], o, _ => .nil _ _ _
 | z :: zs, o, h => by
   obtain ⟨v, hv, hr⟩ := h 0 z rfl
   exact .cons rfl (.cons (hst o) hv hr (.nil _ _)) (strss_row hst zs (o + 1) fun j z' hj => by
    have := h (j + 1) z' (by simpa using hj)
    rwa [show o + (j + 1) = o + 1 + j by omega] at this)
theorem levels_role {σ : ASt} {W : World} (hfx : ∀ b r, σ b = some r → ∃ l, r = .fix l) (h : VarReads Tryz.prog W "tabular/parse.levels" (.slice (levelsL.map fun l => .slice (l.map fun s => .lit (.string s)) []) [])) :
  RoleOk σ W 0 (.fix [lvAV]) := by
 obtain ⟨g', t', cs, fuel, p, hg, hty, hvar, hd⟩ := h
 obtain rfl := Option.some.inj ((show Tryz.prog.globalNamed "tabular/parse.levels" = some 0 by kernel_rfl).symm.trans hg)
 obtain rfl := Option.some.inj ((show (Tryz.prog.globals[0]?).map (·.type) = some 130 by kernel_rfl).symm.trans hty)
 have ht : Tryz.prog.underlying 130 = some (.slice 132) := by kernel_rfl
 have ht2 : Tryz.prog.underlying 132 = some (.slice 9) := by kernel_rfl
 have he : Tryz.prog.underlying 9 = some .string := by kernel_rfl
 have hc : Tryz.prog.cellsOf 132 = 1 := by kernel_rfl
 have hc2 : Tryz.prog.cellsOf 9 = 1 := by kernel_rfl
 have hpos : ∀ (j : Nat) (z : List (List UInt8)), levelsL[j]? = some z → 0 < z.length := by
  intro j z hj
  match j, hj with
  | 0, hj | 1, hj | 2, hj | 3, hj | 4, hj => injection hj with hj; subst hj; decide
 rcases DataW.trod_slice ht hd with ⟨_, hx⟩ | ⟨a, len, cap, el, rs, k, rfl, hcs, hx, _, hlc, _, hel, helem, hsp, _⟩
 ·cases hx
 have e0 := congrArg Prod.fst hx
 simp only [DataW.slice.injEq] at e0
 obtain ⟨eE, eR⟩ := e0
 have hlen : len = levelsL.length := by
  have := congrArg List.length eE
  simp at this
  omega
 have hcell : ∀ i z, levelsL[i]? = some z → ∃ v, W.cell? (a.add i) = some v ∧ Rep σ W (.sl .shr (z.map AV.str)) v := by
  intro i z hiz
  have hi : i < levelsL.length := (List.getElem?_eq_some_iff.1 hiz).1
  have h1 := helem i (by omega)
  rw [hc] at h1
  obtain ⟨b, hb⟩ : ∃ b, el[i]? = some b := ⟨el[i]'(by omega), List.getElem?_eq_getElem (by omega)⟩
  rw [hb] at h1
  obtain ⟨ce, hce, hte⟩ := Option.bind_eq_some_iff.1 h1
  have hb1 : b.1 = .slice (z.map fun s => .lit (.string s)) [] := by
   have := congrArg (·[i]?) eE
   simp only [List.getElem?_map, hiz, hb, Option.map_some, Option.some.injEq] at this
   exact this.symm
  obtain ⟨b1, b2⟩ := b
  dsimp only at hb1
  subst hb1
  obtain ⟨R, o, cap', rfl, hle, hcells⟩ := strs_trod ht2 he hc2 (hpos i z hiz) hte
  obtain ⟨_, _, hcc⟩ := World.cells?_some hce
  have := hcc 0 (by omega)
  simp only [Nat.mul_one] at this
  have e1 : (a.add i).add 0 = a.add i := by simp [Addr.add]
  rw [e1] at this
  obtain ⟨z0, hz0⟩ : ∃ z0, z[0]? = some z0 := ⟨z[0]'(hpos i z hiz), List.getElem?_eq_getElem (hpos i z hiz)⟩
  have hR := block_lt (s := none) (hcells 0 z0 hz0)
  exact ⟨_, this, .sl (sz := 1) (strs_row (fun o => still_fix hfx hR) z o hcells) (by simp) hle trivial hR⟩
 obtain ⟨R, o, sR⟩ := a
 obtain ⟨v0, h00, _⟩ := hcell 0 [[61], [60, 62], [60], [60, 61], [62], [62, 61]] rfl
 obtain rfl : sR = none := by
  have : (Addr.add ⟨R, o, sR⟩ 0) = ⟨R, o, sR⟩ := by simp [Addr.add]
  rw [this] at h00
  exact Go.Proofs.cell_spot h00
 have hR : R < W.heap.size := by
  have : (Addr.add ⟨R, o, none⟩ 0) = ⟨R, o, none⟩ := by simp [Addr.add]
  rw [this] at h00
  exact block_lt (s := none) h00
 have hrow := strss_row (fun o => still_fix hfx hR) levelsL o fun j z hj => by
  obtain ⟨v, hv, hr⟩ := hcell j z hj
  rw [Addr.add_lit] at hv
  exact ⟨v, hv, hr⟩
 unfold World.var? at hvar
 rw [hg, Option.bind_some] at hvar
 split at hvar
 ·rename_i cs' T fr hheap
  injection hvar with hvar
  subst hvar
  have hcs2 : cs' = #[.slice (some ⟨R, o, none⟩) levelsL.length cap] := by
   rw [← hlen]
   exact Array.ext' (by simpa using hcs)
  subst hcs2
  have hlt : 0 < W.heap.size := (Array.getElem?_eq_some_iff.1 hheap).1
  have hce : W.cell? ⟨0, 0, none⟩ = some (.slice (some ⟨R, o, none⟩) levelsL.length cap) := by simp [World.cell?, hheap]
  have hrep : Rep σ W lvAV (.slice (some ⟨R, o, none⟩) levelsL.length cap) := .sl (sz := 1) hrow (by simp) (by omega) trivial hR
  exact ⟨.cons (still_fix hfx hlt) hce hrep (.nil _ _), _, T, fr, hheap, rfl⟩
 ·cases hvar
def laidX : List (String × DataW Unit) := [("math/bits.deBruijn32tab", Rows.laid_math_bits_deBruijn32tab), ("math/bits.deBruijn64tab", Rows.laid_math_bits_deBruijn64tab), ("internal/strconv.uint64pow10", Rows.laid_internal_strconv_uint64pow10), ("unicode/utf8.acceptRanges", Rows.laid_unicode_utf8_acceptRanges), ("tabular/parse.levels", Rows.laid_tabular_parse_levels), ("unicode/utf8.first", Rows.laid_unicode_utf8_first)]
def xSt (m : Int) : ASt := fun b => if b = 0 then some (.fix [lvAV]) else wSt m b
theorem xSt_u8 (m : Int) : U8 (xSt m) := ⟨by simp [xSt, wSt, vSt, vPs, stOf], by simp [xSt, wSt, vSt, vPs, stOf]⟩
theorem xSt_tab (m : Int) : Tab (xSt m) := by simp [Tab, xSt, wSt, vSt, vPs, stOf]
theorem xSt_max (m : Int) : MaxL (xSt m) := ⟨m, by simp [xSt, wSt]⟩
theorem xSt_lv (m : Int) : LV (xSt m) := by simp [LV, xSt]
theorem xSt_fix {m : Int} {b : Nat} {r : Role} (h : xSt m b = some r) : ∃ l, r = .fix l := by
 unfold xSt at h
 split at h
 ·injection h with h; exact ⟨_, h.symm⟩
 ·exact wSt_fix h
theorem x_sim {W : World} (hsh : W.ShapedOpen Tryz.prog) (h : laidMetH Tryz.prog laidX W) : ∃ m, Sim (xSt m) W := by
 rw [MakeChecks.laidMetH_plain _ _ _ (by kernel_rfl)] at h
 have hp : VarReads Tryz.prog W "internal/strconv.uint64pow10" (Lib.tabData .u64 Lib.pow10Tab) := Lib.laidMet.reads h (.tail _ (.tail _ (.head _)))
 have h4 : VarReads Tryz.prog W "unicode/utf8.acceptRanges" acceptData := acc_eq ▸ Lib.laidMet.reads h (.tail _ (.tail _ (.tail _ (.head _))))
 have h5 : VarReads Tryz.prog W "tabular/parse.levels" (.slice (levelsL.map fun l => .slice (l.map fun s => .lit (.string s)) []) []) := Lib.laidMet.reads h (.tail _ (.tail _ (.tail _ (.tail _ (.head _)))))
 have h3 : VarReads Tryz.prog W "unicode/utf8.first" firstData := first_eq ▸ Lib.laidMet.reads h (.tail _ (.tail _ (.tail _ (.tail _ (.tail _ (.head _))))))
 obtain ⟨m, hm⟩ := Go.Proofs.cell_of_shapedOpen_int (g := 2) (zero := #[.int .i64 0]) (t := 3) hsh (of_decide_eq_true (by kernel_rfl)) (by kernel_rfl) rfl (by kernel_rfl) (by kernel_rfl) Tryz.underlying3
 have hm : W.cell? ⟨2, 0, none⟩ = some (.int .i64 m) := hm
 obtain ⟨cs, hh, hsz, _⟩ := hsh.1 2 #[.int .i64 0] 3 (of_decide_eq_true (by kernel_rfl)) (by kernel_rfl)
 obtain ⟨r1, r2⟩ := u8_roles (σ := xSt m) h3 h4
 refine ⟨m, fun b r hb => ?_⟩
 have hb0 := hb
 unfold xSt at hb
 split at hb
 ·rename_i hbb
  subst hbb
  injection hb with hb
  subst hb
  exact levels_role (fun _ _ => xSt_fix) h5
 unfold wSt at hb
 split at hb
 ·rename_i hbb
  subst hbb
  injection hb with hb
  subst hb
  have hlt : 2 < W.heap.size := (Array.getElem?_eq_some_iff.1 hh).1
  refine ⟨At.mk' (ints_reps _) (fun j _ => ⟨hlt, .inr (.inl ⟨_, hb0⟩)⟩) (fun j v hj => ?_), cs, _, _, hh, hsz⟩
  match j, hj with
  | 0, hj => injection hj with hj; subst hj; exact hm
 ·obtain ⟨l, hl, rfl⟩ := stOf_mem hb
  simp only [vPs, List.mem_cons, List.not_mem_nil, or_false, Prod.mk.injEq] at hl
  rcases hl with ⟨rfl, rfl⟩ | ⟨rfl, rfl⟩ | ⟨rfl, rfl⟩
  ·exact r1 (xSt_u8 m).1
  ·exact r2 (xSt_u8 m).2
  ·exact pow_role (fun _ _ => xSt_fix) hp
theorem calls_x {m : Int} {f : FuncId} {args : List AV} {vs : List Value} {w : World} (h : ACalls Tryz.prog f args (xSt m) fun r σ' => r = .bool true ∧ σ' = xSt m) (hs : Sim (xSt m) w) (hr : Reps (xSt m) w args vs) :
  Calls Tryz.prog f ⟨vs⟩ w fun e w' => e = .returned (.bool true) ∧ Ext w w' :=
 (h w vs hs hr).mono fun e w' ⟨u, r, σ', he, ⟨hrt, hst⟩, hle, _, hrep⟩ => by
  subst hrt hst
  cases hrep
  refine ⟨he, Ext.of_below ⟨hle.os, hle.tape, hle.output, hle.size, fun k hk => ?_⟩⟩
  cases hn : xSt m k with
  | none => exact (hle.keep k hk hn).2
  | some r =>
    obtain ⟨l, rfl⟩ := xSt_fix hn
    exact (hle.fix k _ hk hn).2
end Go.Proofs.YthdpkgfdjmeaiaaGreatDoor
