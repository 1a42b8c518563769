/- Part 7 of what ShiftTrees leans on: Eh CodeSa Sa So CodeSb Sb St Ej CodeRa Ra CodeSw. -/
import Derived.Test.YthdpkgfdjmeaiaaGreatDoorProg
import Derived.KernelRfl
import Derived.Test.YthdpkgfdjmeaiaaGreatDoorZShiftTreesf
set_option linter.defProp false
set_option linter.unusedSimpArgs false
set_option linter.unusedVariables false
set_option maxRecDepth 100000
namespace Go.A
def OwnSl (σ0 σ : ASt) (v : AV) (xs : List AV) (s : Nat) : Prop :=
 (xs = [] ∧ v = .sl .full [] ∧ σ = σ0) ∨ ∃ b c rest, v = .msl b 0 xs.length c ∧ xs.length ≤ c ∧ rest.length = (c - xs.length) * s ∧ σ0 b = none ∧ σ = σ0.set b (some (.obj (xs.flatMap AV.cells ++ rest)))
theorem OwnSl.drop {σ0 σ : ASt} {v : AV} {xs : List AV} {s : Nat} (h : OwnSl σ0 σ v xs s) : Drop σ σ0 := by
 rcases h with ⟨_, _, rfl⟩ | ⟨b, c, rest, _, _, _, hb, rfl⟩
 ·exact Drop.refl _
 ·exact Drop.set hb
def zrow (s : Nat) (z : List AV) (n c : Nat) : List AV := (List.range ((c - n) * s)).map fun i => z.getD (i % s) .any
theorem zrow_len (s : Nat) (z : List AV) (n c : Nat) : (zrow s z n c).length = (c - n) * s := by simp [zrow]
theorem ownRow_z {s n c : Nat} {z cs : List AV} : ownRow s z cs n c = cs ++ zrow s z n c := rfl
theorem OwnSl.app {e : TypeId} {σ0 σ : ASt} {v : AV} {xs ys z : List AV} {s bytes : Nat} {k2 : SK} {K : AV → ASt → Prop} (h : OwnSl σ0 σ v xs s) (hx : ∀ x ∈ xs, x.cells.length = s) (h2 : wellSz s ys = true) (h3 : leaves (ys.flatMap AV.cells) = true)
  (h4 : (xs.length + ys.length) * bytes ≤ 140737488355328) (h5 : xs.length + ys.length ≤ 4611686018427387904) (h6 : 0 < ys.length)
  (hK : ∀ v' σ', (∃ σ2, Drop σ' σ2 ∧ OwnSl σ0 σ2 v' (xs ++ ys) s) → K v' σ') : appC e s bytes z v (.sl k2 ys) σ K := by
 have hyl : (ys.flatMap AV.cells).length = ys.length * s := lens_flat (wellSz_lens h2)
 have hxl : (xs.flatMap AV.cells).length = xs.length * s := lens_flat hx
 rcases h with ⟨rfl, rfl, rfl⟩ | ⟨b, c, rest, rfl, hc, hr, hb, rfl⟩
 ·refine appO_by rfl h2 h3 h4 h5 h6 fun b c hb hc => hK _ _ ⟨_, Drop.refl _, .inr ⟨b, c, zrow s z (([] : List AV).length + ys.length) c, ?_, ?_, ?_, hb, ?_⟩⟩
  ·simp
  ·simpa using hc
  ·rw [zrow_len]; simp
  ·rw [ownRow_z]; simp only [List.nil_append, List.flatMap_nil]
 ·rw [appC_msl, ASt.set_same]
  refine appM_by h2 h3 h4 h5 (by rw [List.length_append, hxl, hr]; omega) (fun hroom => ⟨?_, ?_⟩) (fun hgrow b' c' hb' hc' => ?_)
  ·rw [List.length_append, hxl, hr, Nat.zero_add, ← Nat.add_mul]
   exact Nat.mul_le_mul_right _ (by omega)
  ·rw [ASt.set_set]
   refine hK _ _ ⟨_, Drop.refl _, .inr ⟨b, c, rest.drop (ys.length * s), by simp, by simpa using hroom, ?_, hb, ?_⟩⟩
   ·rw [List.length_drop, hr, ← Nat.sub_mul, List.length_append]
    congr 1
    omega
   ·congr 3
    unfold splice
    rw [Nat.zero_add, List.flatMap_append]
    have e1 : (xs.flatMap AV.cells ++ rest).take (xs.length * s) = xs.flatMap AV.cells := by rw [← hxl]; simp
    have e2 : (xs.flatMap AV.cells ++ rest).drop (xs.length * s + ys.length * s) = rest.drop (ys.length * s) := by rw [← hxl, ← List.drop_drop]; simp
    rw [e1, e2]
  ·obtain ⟨m1, m2, hb0⟩ := set_none hb'
   have e1 : ((xs.flatMap AV.cells ++ rest).drop 0).take (xs.length * s) = xs.flatMap AV.cells := by rw [← hxl]; simp
   rw [e1]
   refine hK _ _ ⟨σ0.set b' (some (.obj (ownRow s z (xs.flatMap AV.cells ++ ys.flatMap AV.cells) (xs.length + ys.length) c'))), ?_, .inr ⟨b', c', zrow s z (xs.length + ys.length) c', by simp, by simpa using hc', by rw [zrow_len, List.length_append], hb0, ?_⟩⟩
   ·rw [set_swap m2]
    exact Drop.set (by rw [ASt.set_ne m2]; exact hb)
   ·rw [ownRow_z, List.flatMap_append]
theorem OwnSl.at {σ0 σ : ASt} {x : Nat} {r : Role} {v : AV} {xs : List AV} {s : Nat} (h : OwnSl σ0 σ v xs s) (hx : σ0 x = some r) : σ x = some r := by
 rcases h with ⟨_, _, rfl⟩ | ⟨b, c, rest, _, _, _, hb, rfl⟩
 ·exact hx
 ·rw [ASt.set_ne]
  ·exact hx
  ·rintro rfl; rw [hb] at hx; cases hx
theorem OwnSl.fresh {σ0 σ : ASt} {x : Nat} {v : AV} {xs : List AV} {s : Nat} (h : OwnSl σ0 σ v xs s) (hx : σ x = none) : σ0 x = none := by
 cases hr : σ0 x with
 | none => rfl
 | some r => rw [h.at hr] at hx; cases hx
theorem OwnSl.add {σ0 σ : ASt} {d : Nat} {r : Option Role} {v : AV} {xs : List AV} {s : Nat} (h : OwnSl σ0 σ v xs s) (hd : σ d = none) : OwnSl (σ0.set d r) (σ.set d r) v xs s := by
 rcases h with ⟨h1, h2, rfl⟩ | ⟨b, c, rest, h1, h2, h3, h4, rfl⟩
 ·exact .inl ⟨h1, h2, rfl⟩
 ·obtain ⟨h5, h6, h7⟩ := set_none hd
  exact .inr ⟨b, c, rest, h1, h2, h3, by rw [ASt.set_ne h6]; exact h4, set_swap h6⟩
theorem OwnSl.less {σ0 σ : ASt} {e : Nat} {E : Role} {v : AV} {xs : List AV} {s : Nat} (h : OwnSl (σ0.set e (some E)) σ v xs s) (he : σ0 e = none) : ∃ σ', Drop σ σ' ∧ OwnSl σ0 σ' v xs s := by
 rcases h with ⟨h1, h2, rfl⟩ | ⟨b, c, rest, h1, h2, h3, h4, rfl⟩
 ·exact ⟨σ0, Drop.set he, .inl ⟨h1, h2, rfl⟩⟩
 ·obtain ⟨h5, h6, h7⟩ := set_none h4
  refine ⟨σ0.set b (some (.obj (xs.flatMap AV.cells ++ rest))), ?_, .inr ⟨b, c, rest, h1, h2, h3, h7, rfl⟩⟩
  rw [set_swap h6]
  exact Drop.set (by rw [ASt.set_ne h6]; exact he)
theorem OwnSl.fz {σ0 σ σ' : ASt} {v : AV} {xs : List AV} {s : Nat} (h : OwnSl σ0 σ v xs s) (hx : ∀ x ∈ xs, x.cells.length = s) (hn : ∀ b, σ0 b = none → σ' b = none) : Fz σ σ' v (.sl .shr xs) := by
 rcases h with ⟨rfl, rfl, rfl⟩ | ⟨b, c, rest, rfl, h2, h3, h4, rfl⟩
 ·exact .sl _ _
 ·have hxl : (xs.flatMap AV.cells).length = xs.length * s := lens_flat hx
  refine .msl 0 _ c s xs (ASt.set_same _ _ _) (hn _ h4) rfl h2 hx ?_
  rw [List.drop_zero, ← hxl, List.take_left]
end Go.A
namespace Go.A
open Go.Proofs Go.Lib
mutual
def Nd.same : Nd → Nd → Bool
 | .mk o n s a b ks, .mk o' n' s' a' b' ks' => decide (o = o') && decide (n = n') && decide (s = s') && decide (a = a') && decide (b = b') && Nd.sames ks ks'
def Nd.sames : List Nd → List Nd → Bool
 | [], [] => true
 | [], _ :: _ => false
 | _ :: _, [] => false
 | x :: xs, y :: ys => Nd.same x y && Nd.sames xs ys
end
mutual
theorem Nd.same_eq : ∀ (x y : Nd), Nd.same x y = true → x = y
 | .mk o n s a b ks, .mk o' n' s' a' b' ks', h => by
   rw [Nd.same] at h
   simp only [Bool.and_eq_true, decide_eq_true_eq] at h
   obtain ⟨⟨⟨⟨⟨rfl, rfl⟩, rfl⟩, rfl⟩, rfl⟩, h⟩ := h
   rw [Nd.sames_eq ks ks' h]
theorem Nd.sames_eq : ∀ (xs ys : List Nd), Nd.sames xs ys = true → xs = ys
 | [], [], _ => rfl
 | [], _ :: _, h => by cases h
 | _ :: _, [], h => by cases h
 | x :: xs, y :: ys, h => by
   rw [Nd.sames, Bool.and_eq_true] at h
   rw [Nd.same_eq x y h.1, Nd.sames_eq xs ys h.2]
end
mutual
theorem Nd.same_refl : ∀ x : Nd, Nd.same x x = true
 | .mk o n s a b ks => by rw [Nd.same, Nd.sames_refl ks]; simp
theorem Nd.sames_refl : ∀ xs : List Nd, Nd.sames xs xs = true
 | [] => rfl
 | x :: xs => by rw [Nd.sames, Nd.same_refl x, Nd.sames_refl xs]; rfl
end
theorem Nd.sames_len : ∀ {xs ys : List Nd}, Nd.sames xs ys = true → xs.length = ys.length := fun h => by rw [Nd.sames_eq _ _ h]
theorem Nd.sames_get {xs ys : List Nd} {i : Nat} {x y : Nd} (hx : xs[i]? = some x) (hy : ys[i]? = some y) (h : Nd.sames xs ys = true) : Nd.same x y = true := by
 rw [Nd.sames_eq _ _ h, hy] at hx
 injection hx with hx
 rw [hx]; exact Nd.same_refl _
theorem Nd.sames_all : ∀ {xs ys : List Nd}, xs.length = ys.length → (∀ (i : Nat) x y, xs[i]? = some x → ys[i]? = some y → Nd.same x y = true) → Nd.sames xs ys = true
 | [], [], _, _ => rfl
 | [], _ :: _, h, _ => by simp at h
 | _ :: _, [], h, _ => by simp at h
 | x :: xs, y :: ys, h, hs => by
   rw [Nd.sames, hs 0 x y rfl rfl, Nd.sames_all (by simpa using h) fun i u v hu hv => hs (i + 1) u v (by simpa using hu) (by simpa using hv)]
   rfl
theorem ref_ne {a b : Ref} (h : a ≠ b) : (decide (a.row = b.row) && (decide (a.col = b.col) && (decide (a.absRow = b.absRow) && decide (a.absCol = b.absCol)))) = false := by
 obtain ⟨a1, a2, a3, a4⟩ := a
 obtain ⟨b1, b2, b3, b4⟩ := b
 cases hd : (decide (a1 = b1) && (decide (a2 = b2) && (decide (a3 = b3) && decide (a4 = b4)))) with
 | false => rfl
 | true =>
   simp only [Bool.and_eq_true, decide_eq_true_eq] at hd
   obtain ⟨rfl, rfl, rfl, rfl⟩ := hd
   exact absurd rfl h
end Go.A
namespace Go.A
open Go.Proofs Go.Lib
mutual
def Nd.map (f : Nd → Nd) : Nd → Nd
 | .mk op n s a b ks => if op = 5 ∨ op = 6 then f (.mk op n s a b ks) else .mk op n s a b (Nd.maps f ks)
def Nd.maps (f : Nd → Nd) : List Nd → List Nd
 | [] => []
 | x :: xs => Nd.map f x :: Nd.maps f xs
end
theorem Nd.maps_map (f : Nd → Nd) : ∀ l : List Nd, Nd.maps f l = l.map (Nd.map f)
 | [] => rfl
 | x :: xs => by rw [Nd.maps, Nd.maps_map f xs]; rfl
def zeroC : List AV := [.int .i64 0, .int .i64 0, .str [], .int .i64 0, .int .i64 0, .bool false, .bool false, .int .i64 0, .int .i64 0, .bool false, .bool false, .sl .full []]
def rowAt (f : Nd → Nd) (ks : List Nd) (z : List AV) (i : Nat) : List AV := (((ks.take i).map fun x => (Nd.map f x).av).flatMap AV.cells) ++ (List.replicate (ks.length - i) z).flatten
theorem rowAt_pre (f : Nd → Nd) (ks : List Nd) (i : Nat) : (((ks.take i).map fun x => (Nd.map f x).av).flatMap AV.cells).length = (ks.take i).length * 12 := by
 rw [lens_flat (s := 12)]
 ·simp
 ·intro x hx
  obtain ⟨y, _, rfl⟩ := List.mem_map.1 hx
  exact Nd.av_len _
theorem rowAt_len (f : Nd → Nd) (ks : List Nd) {z : List AV} (hz : z.length = 12) {i : Nat} (hi : i ≤ ks.length) : (rowAt f ks z i).length = ks.length * 12 := by
 unfold rowAt
 rw [List.length_append, rowAt_pre, flatten_len, hz, List.length_take, ← Nat.add_mul]
 congr 1
 omega
theorem rowAt_step (f : Nd → Nd) (ks : List Nd) {z : List AV} (hz : z.length = 12) {i : Nat} {x : Nd} (hx : ks[i]? = some x) :
  ((rowAt f ks z i).take (i * 12) ++ (Nd.map f x).av.cells) ++ (rowAt f ks z i).drop (i * 12 + 12) = rowAt f ks z (i + 1) := by
 rw [List.append_assoc]
 have hlt : i < ks.length := (List.getElem?_eq_some_iff.1 hx).1
 have hp := rowAt_pre f ks i
 rw [List.length_take, Nat.min_eq_left (by omega)] at hp
 have ht : ks.take (i + 1) = ks.take i ++ [x] := by rw [List.take_add_one, hx]; rfl
 have hr : ks.length - i = (ks.length - (i + 1)) + 1 := by omega
 unfold rowAt
 rw [ht, hr, List.replicate_succ, List.flatten_cons, List.map_append, List.flatMap_append]
 generalize (((ks.take i).map fun x => (Nd.map f x).av).flatMap AV.cells) = P at *
 generalize (List.replicate (ks.length - (i + 1)) z).flatten = R
 have e1 : (P ++ (z ++ R)).take (i * 12) = P := by rw [← hp]; simp
 have e2 : (P ++ (z ++ R)).drop (i * 12 + 12) = R := by
  rw [← List.drop_drop, ← hp, List.drop_left, ← hz, List.drop_left]
 rw [e1, e2]
 simp
theorem rowAt_end (f : Nd → Nd) (ks : List Nd) (z : List AV) : rowAt f ks z ks.length = (ks.map fun x => (Nd.map f x).av).flatMap AV.cells := by
 unfold rowAt
 rw [List.take_length, Nat.sub_self]
 simp
theorem rowAt_zero (f : Nd → Nd) (ks : List Nd) (z : List AV) : rowAt f ks z 0 = (List.replicate ks.length z).flatten := by
 unfold rowAt
 simp
end Go.A
namespace Go.A
open Go.Proofs Go.Lib
theorem good_near {r : Ref} (h : r.good = true) : r.near := by
 simp only [Ref.good, decide_eq_true_eq] at h
 unfold Ref.near
 omega
end Go.A
namespace Go.A
open Go.Proofs
/-! 9: (tabular/shift.Edit).Good -/
def c9_27 : ACode := .seq (.seq (.ops [ oq 5 (.fa 2 (.t 2)), oq 6 (.ld none (.t 5)), oq 7 (.bin .lss (.t 6) (.v (.int .i64 0))), oq 8 (.mv (.t 7)), ⟨some 9, some (8, false), .q (.fa 3 (.t 2)), []⟩, ⟨some 10, some (8, false), .q (.ld none (.t 9)), []⟩, ⟨some 11, some (8, false), .q (.bin .lss (.t 10) (.v (.int .i64 1))), []⟩, oq 12 (.pick (.t 8) (.v (.bool true)) (.t 11)), oq 13 (.mv (.t 12)), ⟨some 14, some (13, false), .q (.mv (.t 1)), []⟩, ⟨some 15, some (13, false), .q (.bin .lss (.t 14) (.v (.int .i64 0))), []⟩, oq 16 (.pick (.t 13) (.v (.bool true)) (.t 15)), oq 17 (.mv (.t 16)), ⟨some 18, some (17, false), .q (.mv (.t 1)), []⟩, ⟨some 19, some (17, false), .q (.ld (some 5) (.t 2)), []⟩, ⟨some 20, some (17, false), .e (.call 35 [(.t 19)]), []⟩, ⟨some 21, some (17, false), .q (.bin .gtr (.t 18) (.t 20)), []⟩, oq 22 (.pick (.t 17) (.v (.bool true)) (.t 21))]) (.cond (.t 22) (.seq (.ops [ oq 4 (.mv (.v (.bool false)))]) .ret) .skip)) (.seq (.seq (.ops [ oq 23 (.fa 1 (.t 2)), oq 24 (.ld none (.t 23))]) (.block 0 (.seq (.ops [ oq 26 (.bin .eql (.t 24) (.v (.int .i64 1))), oq 25 (.mv (.t 26))]) (.cond (.t 25) (.seq (.ops [ oq 27 (.fa 2 (.t 2)), oq 28 (.ld none (.t 27)), oq 29 (.mv (.t 1)), oq 30 (.bin .leq (.t 28) (.t 29)), oq 31 (.mv (.t 30)), ⟨some 32, some (31, true), .q (.fa 3 (.t 2)), []⟩, ⟨some 33, some (31, true), .q (.ld none (.t 32)), []⟩, ⟨some 34, some (31, true), .q (.ld (some 5) (.t 2)), []⟩, ⟨some 36, some (31, true), .q (.mv (.t 1)), []⟩, ⟨some 35, some (31, true), .e (.call 35 [(.t 34)]), [⟨(some (31, true)), .ld none (.t 32), 33⟩]⟩, ⟨some 37, some (31, true), .q (.bin .sub (.t 35) (.t 36)), []⟩, ⟨some 38, some (31, true), .q (.bin .leq (.t 33) (.t 37)), []⟩, oq 39 (.pick (.t 31) (.t 38) (.v (.bool false))), oq 4 (.mv (.t 39))]) .ret) (.seq (.ops [ oq 41 (.bin .eql (.t 24) (.v (.int .i64 2))), oq 40 (.mv (.t 41))]) (.cond (.t 40) (.seq (.ops [ oq 42 (.fa 3 (.t 2)), oq 43 (.ld none (.t 42)), oq 44 (.mv (.t 1)), oq 45 (.bin .lss (.t 43) (.t 44)), oq 46 (.mv (.t 45)), ⟨some 47, some (46, true), .q (.fa 2 (.t 2)), []⟩, ⟨some 48, some (46, true), .q (.ld none (.t 47)), []⟩, ⟨some 49, some (46, true), .q (.mv (.t 1)), []⟩, ⟨some 50, some (46, true), .q (.fa 3 (.t 2)), []⟩, ⟨some 51, some (46, true), .q (.ld none (.t 50)), []⟩, ⟨some 52, some (46, true), .q (.bin .sub (.t 49) (.t 51)), []⟩, ⟨some 53, some (46, true), .q (.bin .leq (.t 48) (.t 52)), []⟩, oq 54 (.pick (.t 46) (.t 53) (.v (.bool false))), oq 4 (.mv (.t 54))]) .ret) (.seq (.ops [ oq 56 (.bin .eql (.t 24) (.v (.int .i64 3))), oq 55 (.mv (.t 56))]) (.cond (.t 55) (.seq (.ops [ oq 57 (.fa 3 (.t 2)), oq 58 (.ld none (.t 57)), oq 59 (.mv (.t 1)), oq 60 (.bin .leq (.t 58) (.t 59)), oq 61 (.mv (.t 60)), ⟨some 62, some (61, true), .q (.fa 2 (.t 2)), []⟩, ⟨some 63, some (61, true), .q (.ld none (.t 62)), []⟩, ⟨some 64, some (61, true), .q (.mv (.t 1)), []⟩, ⟨some 65, some (61, true), .q (.fa 3 (.t 2)), []⟩, ⟨some 66, some (61, true), .q (.ld none (.t 65)), []⟩, ⟨some 67, some (61, true), .q (.bin .sub (.t 64) (.t 66)), []⟩, ⟨some 68, some (61, true), .q (.bin .leq (.t 63) (.t 67)), []⟩, oq 69 (.pick (.t 61) (.t 68) (.v (.bool false))), oq 70 (.mv (.t 69)), ⟨some 71, some (70, true), .q (.fa 4 (.t 2)), []⟩, ⟨some 72, some (70, true), .q (.ld none (.t 71)), []⟩, ⟨some 73, some (70, true), .q (.bin .geq (.t 72) (.v (.int .i64 0))), []⟩, oq 74 (.pick (.t 70) (.t 73) (.v (.bool false))), oq 75 (.mv (.t 74)), ⟨some 76, some (75, true), .q (.fa 4 (.t 2)), []⟩, ⟨some 77, some (75, true), .q (.ld none (.t 76)), []⟩, ⟨some 78, some (75, true), .q (.mv (.t 1)), []⟩, ⟨some 79, some (75, true), .q (.fa 3 (.t 2)), []⟩, ⟨some 80, some (75, true), .q (.ld none (.t 79)), []⟩, ⟨some 81, some (75, true), .q (.bin .sub (.t 78) (.t 80)), []⟩, ⟨some 82, some (75, true), .q (.bin .leq (.t 77) (.t 81)), []⟩, oq 83 (.pick (.t 75) (.t 82) (.v (.bool false))), oq 4 (.mv (.t 83))]) .ret) .skip)))))))) (.seq (.ops [ oq 4 (.mv (.v (.bool false)))]) .ret))
def c9_28 : ACode := .seq (.ops [ oe 2 (.box (.t 0)), oq 4 (.mv (.v (.bool false)))]) c9_27
def c9 : AFn := ⟨84, [.t 4], c9_28⟩
/-! 35: (tabular/shift.Edit).most -/
def c35_9 : ACode := .seq (.ops [ oe 1 (.box (.t 0)), oq 2 (.mv (.v (.int .i64 0)))]) (.seq (.seq (.ops [ oq 3 (.fa 0 (.t 1)), oq 4 (.ld none (.t 3))]) (.cond (.t 4) (.seq (.ops [ oq 2 (.mv (.v (.int .i64 700)))]) .ret) .skip)) (.seq (.ops [ oq 2 (.mv (.v (.int .i64 3000)))]) .ret))
@[go_sem] def c35_9_wp := wp_of c35_9.eq_1
def c35 : AFn := ⟨5, [.t 2], c35_9⟩
theorem c35_ok : compF Tryz.prog Tryz.f35 = some c35 := by kernel_rfl
theorem a35 {args : List AV} {σ : ASt} {R : AV → ASt → Prop} (hl : args.length ≤ 5) (h : c35_9.wp Tryz.prog (RetQ [.t 2] R) (init args) σ) : ACalls Tryz.prog 35 args σ R := acalls_of Tryz.func35 c35_ok hl h
/-! 43: tabular/shift.gone -/
def c43_3 : ACode := .seq (.ops [ oe 0 (.alloc [(.int .i64 0), (.int .i64 0), (.str []), (.int .i64 0), (.int .i64 0), (.bool false), (.bool false), (.int .i64 0), (.int .i64 0), (.bool false), (.bool false), (.sl .full [])])]) (.seq (.ops [ oq 1 (.build [(.int .i64 0), (.int .i64 0), (.str []), (.int .i64 0), (.int .i64 0), (.bool false), (.bool false), (.int .i64 0), (.int .i64 0), (.bool false), (.bool false), (.sl .full [])] [(0, 1, (.v (.int .i64 4))), (1, 1, (.v (.int .i64 40000)))]), oz (.store 12 (.t 0) (.t 1))]) .ret)
@[go_sem] def c43_3_wp := wp_of c43_3.eq_1
def c43 : AFn := ⟨2, [.c 0 (some 12)], c43_3⟩
theorem c43_ok : compF Tryz.prog Tryz.f43 = some c43 := by kernel_rfl
theorem a43 {args : List AV} {σ : ASt} {R : AV → ASt → Prop} (hl : args.length ≤ 2) (h : c43_3.wp Tryz.prog (RetQ [.c 0 (some 12)] R) (init args) σ) : ACalls Tryz.prog 43 args σ R := acalls_of Tryz.func43 c43_ok hl h
/-! 72: (tabular/shift.Edit).Place -/
def c72_48 : ACode := .seq (.seq (.ops [ oq 6 (.fa 1 (.t 2)), oq 7 (.ld none (.t 6))]) (.block 0 (.seq (.ops [ oq 9 (.bin .eql (.t 7) (.v (.int .i64 1))), oq 8 (.mv (.t 9))]) (.cond (.t 8) (.seq (.seq (.ops [ oq 10 (.mv (.t 1)), oq 11 (.fa 2 (.t 2)), oq 12 (.ld none (.t 11)), oq 13 (.bin .geq (.t 10) (.t 12))]) (.cond (.t 13) (.ops [ oq 14 (.mv (.t 1)), oq 15 (.fa 3 (.t 2)), oq 16 (.ld none (.t 15)), oq 17 (.bin .add (.t 14) (.t 16)), oq 1 (.mv (.t 17))]) .skip)) (.seq (.ops [ oq 18 (.mv (.t 1)), oq 19 (.mv (.t 1)), oq 20 (.ld (some 5) (.t 2)), oe 21 (.call 35 [(.t 20)]), oq 22 (.bin .lss (.t 19) (.t 21)), oq 4 (.mv (.t 18)), oq 5 (.mv (.t 22))]) .ret)) (.seq (.ops [ oq 24 (.bin .eql (.t 7) (.v (.int .i64 2))), oq 23 (.mv (.t 24))]) (.cond (.t 23) (.seq (.seq (.ops [ oq 25 (.mv (.t 1)), oq 26 (.fa 2 (.t 2)), oq 27 (.ld none (.t 26)), oq 28 (.bin .geq (.t 25) (.t 27)), oq 29 (.mv (.t 28)), ⟨some 30, some (29, true), .q (.mv (.t 1)), []⟩, ⟨some 31, some (29, true), .q (.fa 2 (.t 2)), []⟩, ⟨some 32, some (29, true), .q (.ld none (.t 31)), []⟩, ⟨some 33, some (29, true), .q (.fa 3 (.t 2)), []⟩, ⟨some 34, some (29, true), .q (.ld none (.t 33)), []⟩, ⟨some 35, some (29, true), .q (.bin .add (.t 32) (.t 34)), []⟩, ⟨some 36, some (29, true), .q (.bin .lss (.t 30) (.t 35)), []⟩, oq 37 (.pick (.t 29) (.t 36) (.v (.bool false)))]) (.cond (.t 37) (.seq (.ops [ oq 4 (.mv (.v (.int .i64 0))), oq 5 (.mv (.v (.bool false)))]) .ret) .skip)) (.seq (.seq (.ops [ oq 38 (.mv (.t 1)), oq 39 (.fa 2 (.t 2)), oq 40 (.ld none (.t 39)), oq 41 (.bin .geq (.t 38) (.t 40))]) (.cond (.t 41) (.ops [ oq 42 (.mv (.t 1)), oq 43 (.fa 3 (.t 2)), oq 44 (.ld none (.t 43)), oq 45 (.bin .sub (.t 42) (.t 44)), oq 1 (.mv (.t 45))]) .skip)) (.seq (.ops [ oq 46 (.mv (.t 1)), oq 4 (.mv (.t 46)), oq 5 (.mv (.v (.bool true)))]) .ret))) .skip)))))) (.seq (.seq (.ops [ oq 47 (.mv (.t 1)), oq 48 (.fa 2 (.t 2)), oq 49 (.ld none (.t 48)), oq 50 (.bin .geq (.t 47) (.t 49)), oq 51 (.mv (.t 50)), ⟨some 52, some (51, true), .q (.mv (.t 1)), []⟩, ⟨some 53, some (51, true), .q (.fa 2 (.t 2)), []⟩, ⟨some 54, some (51, true), .q (.ld none (.t 53)), []⟩, ⟨some 55, some (51, true), .q (.fa 3 (.t 2)), []⟩, ⟨some 56, some (51, true), .q (.ld none (.t 55)), []⟩, ⟨some 57, some (51, true), .q (.bin .add (.t 54) (.t 56)), []⟩, ⟨some 58, some (51, true), .q (.bin .lss (.t 52) (.t 57)), []⟩, oq 59 (.pick (.t 51) (.t 58) (.v (.bool false)))]) (.cond (.t 59) (.seq (.ops [ oq 60 (.mv (.t 1)), oq 61 (.fa 2 (.t 2)), oq 62 (.ld none (.t 61)), oq 63 (.bin .sub (.t 60) (.t 62)), oq 64 (.fa 4 (.t 2)), oq 65 (.ld none (.t 64)), oq 66 (.bin .add (.t 63) (.t 65)), oq 4 (.mv (.t 66)), oq 5 (.mv (.v (.bool true)))]) .ret) .skip)) (.seq (.seq (.ops [ oq 67 (.mv (.t 1)), oq 68 (.fa 2 (.t 2)), oq 69 (.ld none (.t 68)), oq 70 (.bin .geq (.t 67) (.t 69))]) (.cond (.t 70) (.ops [ oq 71 (.mv (.t 1)), oq 72 (.fa 3 (.t 2)), oq 73 (.ld none (.t 72)), oq 74 (.bin .sub (.t 71) (.t 73)), oq 1 (.mv (.t 74))]) .skip)) (.seq (.seq (.ops [ oq 75 (.mv (.t 1)), oq 76 (.fa 4 (.t 2)), oq 77 (.ld none (.t 76)), oq 78 (.bin .geq (.t 75) (.t 77))]) (.cond (.t 78) (.ops [ oq 79 (.mv (.t 1)), oq 80 (.fa 3 (.t 2)), oq 81 (.ld none (.t 80)), oq 82 (.bin .add (.t 79) (.t 81)), oq 1 (.mv (.t 82))]) .skip)) (.seq (.ops [ oq 83 (.mv (.t 1)), oq 4 (.mv (.t 83)), oq 5 (.mv (.v (.bool true)))]) .ret))))
def c72_49 : ACode := .seq (.ops [ oe 2 (.box (.t 0)), oq 4 (.mv (.v (.int .i64 0))), oq 5 (.mv (.v (.bool false)))]) c72_48
@[go_sem] def c72_48_wp := wp_of c72_48.eq_1
@[go_sem] def c72_49_wp := wp_of c72_49.eq_1
def c72 : AFn := ⟨84, [.t 4, .t 5], c72_49⟩
theorem c72_ok : compF Tryz.prog Tryz.f72 = some c72 := by kernel_rfl
theorem a72 {args : List AV} {σ : ASt} {R : AV → ASt → Prop} (hl : args.length ≤ 84) (h : c72_49.wp Tryz.prog (RetQ [.t 4, .t 5] R) (init args) σ) : ACalls Tryz.prog 72 args σ R := acalls_of Tryz.func72 c72_ok hl h
end Go.A
namespace Go.A
open Go.Proofs Go.Lib
structure Edt where
 cols : Bool
 kind : Int
 at' : Int
 n : Int
 dst : Int
def Edt.cs (e : Edt) : List AV := [.bool e.cols, .int .i64 e.kind, .int .i64 e.at', .int .i64 e.n, .int .i64 e.dst]
def Edt.av (e : Edt) : AV := .agg e.cs
section
variable {e : Edt}
@[go_sem] theorem ed_0 : e.cs[0]? = some (.bool e.cols) := id rfl
@[go_sem] theorem ed_1 : e.cs[1]? = some (.int .i64 e.kind) := id rfl
@[go_sem] theorem ed_2 : e.cs[2]? = some (.int .i64 e.at') := id rfl
@[go_sem] theorem ed_3 : e.cs[3]? = some (.int .i64 e.n) := id rfl
@[go_sem] theorem ed_4 : e.cs[4]? = some (.int .i64 e.dst) := id rfl
@[go_sem] theorem ed_len : e.cs.length = 5 := id rfl
@[go_sem] theorem ed_leaves : leaves e.cs = true := id rfl
@[go_sem] theorem ed_take : e.cs.take 5 = e.cs := id rfl
end
def Edt.most (e : Edt) : Int := if e.cols = true then 700 else 3000
def Edt.good (e : Edt) (c : Int) : Bool :=
 if e.at' < 0 ∨ e.n < 1 ∨ c < 0 ∨ e.most < c then false
 else if e.kind = 1 then decide (e.at' ≤ c ∧ e.n ≤ e.most - c)
 else if e.kind = 2 then decide (e.n < c ∧ e.at' ≤ c - e.n)
 else if e.kind = 3 then decide (e.n ≤ c ∧ e.at' ≤ c - e.n ∧ 0 ≤ e.dst ∧ e.dst ≤ c - e.n)
 else false
def ahead (p : Int) (d i : Int) : Int := if p ≤ i then i + d else i
def Edt.place (e : Edt) (i : Int) : Int × Bool :=
 if e.kind = 1 then (ahead e.at' e.n i, decide (ahead e.at' e.n i < e.most))
 else if e.at' ≤ i ∧ i < e.at' + e.n then (if e.kind = 2 then (0, false) else (i - e.at' + e.dst, true))
 else if e.kind = 2 then (ahead e.at' (-e.n) i, true)
 else (ahead e.dst e.n (ahead e.at' (-e.n) i), true)
structure Edt.fit (e : Edt) : Prop where
 a0 : 0 ≤ e.at'
 a1 : e.at' ≤ 3000
 n0 : 0 ≤ e.n
 n1 : e.n ≤ 3000
 t : e.kind ≠ 1 → e.kind ≠ 2 → 0 ≤ e.dst ∧ e.dst ≤ 3000
theorem Edt.good_fit {e : Edt} {c : Int} (h : e.good c = true) : e.fit := by
 unfold Edt.good at h
 split at h
 ·cases h
 rename_i h0
 have hm : e.most ≤ 3000 := by unfold Edt.most; split <;> omega
 split at h
 ·have := of_decide_eq_true h
  exact ⟨by omega, by omega, by omega, by omega, by omega⟩
 split at h
 ·have := of_decide_eq_true h
  exact ⟨by omega, by omega, by omega, by omega, by omega⟩
 split at h
 ·have := of_decide_eq_true h
  exact ⟨by omega, by omega, by omega, by omega, by omega⟩
 ·cases h
theorem shmost_ok (e : Edt) : Pure Tryz.prog 35 [e.av] (.int .i64 e.most) := by
 intro σ
 obtain ⟨q, hq⟩ : ∃ q, e.most = q := ⟨_, rfl⟩
 rw [hq]
 unfold Edt.most at hq
 unfold Edt.av
 refine a35 (by simp) ?_
 simp (disch := first | assumption | omega) only [go_sem]
 refine boxC_by rfl fun c hc => ?_
 cases hb : e.cols with
 | true =>
   rw [if_pos hb] at hq
   subst hq
   simp (disch := first | assumption | omega) only [go_sem, Nat.reduceEqDiff, ↓reduceIte, hb]
   exact retC_by (Drop.set hc) (.refl _) ⟨rfl, rfl⟩
 | false =>
   rw [if_neg (by simp [hb])] at hq
   subst hq
   simp (disch := first | assumption | omega) only [go_sem, Nat.reduceEqDiff, ↓reduceIte, hb]
   exact retC_by (Drop.set hc) (.refl _) ⟨rfl, rfl⟩
theorem most_rng (e : Edt) : 700 ≤ e.most ∧ e.most ≤ 3000 := by unfold Edt.most; split <;> omega
theorem shplace_ok (e : Edt) (he : e.fit) (i : Int) (h0 : 0 ≤ i) (h1 : i ≤ 10000) : Pure Tryz.prog 72 [e.av, .int .i64 i] (.tuple [.int .i64 (e.place i).1, .bool (e.place i).2]) := by
 intro σ
 have hm := shmost_ok e
 have hr := most_rng e
 obtain ⟨a0, a1, n0, n1, ht⟩ := he
 obtain ⟨q, hq⟩ : ∃ q, e.place i = q := ⟨_, rfl⟩
 rw [hq]
 unfold Edt.place ahead at hq
 generalize e.most = M at *
 unfold Edt.av at hm ⊢
 refine a72 (by simp) ?_
 simp (disch := first | assumption | omega) only [go_sem]
 refine boxC_by rfl fun b hb => ?_
 by_cases k1 : e.kind = 1
 ·rw [if_pos k1] at hq
  by_cases g1 : e.at' ≤ i
  ·rw [if_pos g1] at hq
   subst hq
   simp (disch := first | assumption | omega) only [go_sem, Nat.reduceEqDiff, Nat.reduceLeDiff, ↓reduceIte, k1, g1]
   refine hm.use ?_
   simp (disch := first | assumption | omega) only [go_sem, Nat.reduceEqDiff, ↓reduceIte]
   exact retC_by (Drop.set hb) (.refl _) ⟨rfl, rfl⟩
  ·rw [if_neg g1] at hq
   subst hq
   simp (disch := first | assumption | omega) only [go_sem, Nat.reduceEqDiff, Nat.reduceLeDiff, ↓reduceIte, k1, g1]
   refine hm.use ?_
   simp (disch := first | assumption | omega) only [go_sem, Nat.reduceEqDiff, ↓reduceIte]
   exact retC_by (Drop.set hb) (.refl _) ⟨rfl, rfl⟩
 rw [if_neg k1] at hq
 by_cases k2 : e.kind = 2
 ·rw [if_pos k2, if_pos k2] at hq
  by_cases g1 : e.at' ≤ i
  ·by_cases g2 : i < e.at' + e.n
   ·rw [if_pos ⟨g1, g2⟩] at hq
    subst hq
    simp (disch := first | assumption | omega) only [go_sem, Nat.reduceEqDiff, Int.reduceEq, ↓reduceIte, k2, g1, g2]
    exact retC_by (Drop.set hb) (.refl _) ⟨rfl, rfl⟩
   ·rw [if_neg (fun h => g2 h.2), if_pos g1] at hq
    subst hq
    simp (disch := first | assumption | omega) only [go_sem, Nat.reduceEqDiff, Int.reduceEq, ↓reduceIte, k2, g1, g2]
    exact retC_by (Drop.set hb) (.refl _) ⟨rfl, rfl⟩
  ·rw [if_neg (fun h => g1 h.1), if_neg g1] at hq
   subst hq
   simp (disch := first | assumption | omega) only [go_sem, Nat.reduceEqDiff, Int.reduceEq, ↓reduceIte, k2, g1]
   exact retC_by (Drop.set hb) (.refl _) ⟨rfl, rfl⟩
 rw [if_neg k2, if_neg k2] at hq
 have ht := ht k1 k2
 by_cases g1 : e.at' ≤ i
 ·by_cases g2 : i < e.at' + e.n
  ·rw [if_pos ⟨g1, g2⟩] at hq
   subst hq
   simp (disch := first | assumption | omega) only [go_sem, Nat.reduceEqDiff, ↓reduceIte, k1, k2, g1, g2]
   exact retC_by (Drop.set hb) (.refl _) ⟨rfl, rfl⟩
  ·rw [if_neg (fun h => g2 h.2), if_pos g1] at hq
   by_cases g3 : e.dst ≤ i + -e.n
   ·rw [if_pos g3] at hq
    subst hq
    have g3' : e.dst ≤ i - e.n := by omega
    simp (disch := first | assumption | omega) only [go_sem, Nat.reduceEqDiff, ↓reduceIte, k1, k2, g1, g2, g3']
    exact retC_by (Drop.set hb) (.refl _) ⟨rfl, rfl⟩
   ·rw [if_neg g3] at hq
    subst hq
    have g3' : ¬ e.dst ≤ i - e.n := by omega
    simp (disch := first | assumption | omega) only [go_sem, Nat.reduceEqDiff, ↓reduceIte, k1, k2, g1, g2, g3']
    exact retC_by (Drop.set hb) (.refl _) ⟨rfl, rfl⟩
 ·rw [if_neg (fun h => g1 h.1), if_neg g1] at hq
  by_cases g3 : e.dst ≤ i
  ·rw [if_pos g3] at hq
   subst hq
   simp (disch := first | assumption | omega) only [go_sem, Nat.reduceEqDiff, ↓reduceIte, k1, k2, g1, g3]
   exact retC_by (Drop.set hb) (.refl _) ⟨rfl, rfl⟩
  ·rw [if_neg g3] at hq
   subst hq
   simp (disch := first | assumption | omega) only [go_sem, Nat.reduceEqDiff, ↓reduceIte, k1, k2, g1, g3]
   exact retC_by (Drop.set hb) (.refl _) ⟨rfl, rfl⟩
theorem shgone_ok : Pure Tryz.prog 43 [] (Nd.mk 4 40000 [] .zero .zero []).av := by
 intro σ
 refine a43 (by simp) ?_
 rw [Nd.av_cs]
 simp (disch := first | assumption | omega) only [go_sem]
 refine allocC_by fun b hb => ?_
 simp (disch := first | assumption | omega) only [go_sem, reduceCtorEq, Nat.reduceAdd, Nat.reduceLeDiff, ↓reduceIte, Bool.true_and, ASt.set_set]
 refine retC_by (Drop.set hb) ?_ ⟨rfl, rfl⟩
 exact Fz.agg (.cons (.refl _) (.cons (.refl _) (.cons (.refl _) (.cons (.refl _) (.cons (.refl _) (.cons (.refl _) (.cons (.refl _) (.cons (.refl _) (.cons (.refl _) (.cons (.refl _) (.cons (.refl _) (.cons (.sl _ _) .nil))))))))))))
end Go.A
namespace Go.A
open Go.Proofs Go.Lib
def MapG (P : Nd → Prop) (F : AV) (f : Nd → Nd) (I : ASt → Prop) : Prop := ∃ g cap, F = .func (.func g) [] cap ∧ okFn Tryz.prog g = true ∧ (∀ σ b r, I σ → σ b = none → I (σ.set b r)) ∧
 ∀ x σ, I σ → P x → (x.op = 5 ∨ x.op = 6) → ACalls Tryz.prog g (x.av :: cap) σ fun v σ' => v = (f x).av ∧ σ' = σ
theorem mapg_le (F : AV) (f : Nd → Nd) (I : ASt → Prop) (P : Nd → Prop) (hP : ∀ op m s a b ks, P (.mk op m s a b ks) → ∀ x ∈ ks, P x) (hF : MapG P F f I) : ∀ (k : Nat) (n : Nd), n.size ≤ k → n.size ≤ 1000000000 → P n → ∀ σ, I σ → ACalls Tryz.prog 37 [n.av, F] σ fun v σ' => v = (Nd.map f n).av ∧ σ' = σ
 | 0, n, hk, _, _ => by have := n.size_pos; omega
 | k + 1, n, hk, hb, hp => by
   intro σ hI
   have ih := mapg_le F f I P hP hF k
   obtain ⟨g, cap, rfl, hok, hst, hcall⟩ := hF
   obtain ⟨op, m, s, a, b, ks⟩ := n
   have hc0 := fun τ hτ => hcall (.mk op m s a b ks) τ hτ hp
   rw [Nd.size] at hk hb
   have hlen := sizes_len ks
   rw [Nd.map, Nd.maps_map]
   have hav := Nd.av_cs op m s a b ks
   by_cases ho : op = 5 ∨ op = 6
   ·rw [if_pos ho]
    obtain ⟨w, hw⟩ : ∃ w, (f (Nd.mk op m s a b ks)) = w := ⟨_, rfl⟩
    rw [hw, hav] at hc0
    rw [hw, hav]
    obtain ⟨wo, wm, ws, wa, wb, wk⟩ := w
    rw [Nd.av_cs] at hc0 ⊢
    generalize ks.map Nd.av = L at *
    generalize wk.map Nd.av = WL at *
    refine a37 (by simp) ?_
    simp (disch := first | assumption | omega) only [go_sem]
    refine boxC_by rfl fun c hc => ?_
    simp (disch := first | assumption | omega) only [go_sem]
    refine allocC_by fun d hd => ?_
    have hd0 := hd
    repeat (with_reducible replace hd := set_none hd; obtain ⟨_, _, hd⟩ := hd)
    have h0 := hc0 _ (hst _ _ (some (.obj zeroC)) (hst _ _ (some (.obj (Nd.cs op m s a b L))) hI hc) hd0) ho
    unfold zeroC Nd.cs at h0
    rcases ho with rfl | rfl
    ·simp (disch := first | assumption | omega) only [go_sem, Nat.reduceEqDiff, Nat.reduceLeDiff, ↓reduceIte]
     refine ⟨hok, ?_⟩
     unfold Nd.cs
     refine h0.mono ?_
     rintro v σ' ⟨rfl, rfl⟩
     simp (disch := first | assumption | omega) only [go_sem, Nat.reduceEqDiff, Nat.reduceAdd, Nat.reduceLeDiff, ↓reduceIte, Bool.true_and, ASt.set_set]
     exact retC_by ((Drop.set hc).off (by assumption)) (.refl _) ⟨rfl, rfl⟩
    ·simp (disch := first | assumption | omega) only [go_sem, Nat.reduceEqDiff, Nat.reduceLeDiff, Int.reduceEq, ↓reduceIte]
     refine ⟨hok, ?_⟩
     unfold Nd.cs
     refine h0.mono ?_
     rintro v σ' ⟨rfl, rfl⟩
     simp (disch := first | assumption | omega) only [go_sem, Nat.reduceEqDiff, Nat.reduceAdd, Nat.reduceLeDiff, ↓reduceIte, Bool.true_and, ASt.set_set]
     exact retC_by ((Drop.set hc).off (by assumption)) (.refl _) ⟨rfl, rfl⟩
   ·rw [if_neg ho, hav, Nd.av_cs]
    have o5 : op ≠ 5 := by omega
    have o6 : op ≠ 6 := by omega
    have hmm : (ks.map (Nd.map f)).map Nd.av = ks.map fun x => (Nd.map f x).av := by rw [List.map_map]; rfl
    rw [hmm]
    have hks : ∀ x ∈ ks, ∀ σ, I σ → ACalls Tryz.prog 37 [x.av, .func (.func g) [] cap] σ fun v σ' => v = (Nd.map f x).av ∧ σ' = σ := fun x hx => by
     have := Nd.size_kid hx
     exact ih x (by omega) (by omega) (hP _ _ _ _ _ _ hp x hx)
    refine a37 (by simp) ?_
    simp (disch := first | assumption | omega) only [go_sem]
    refine boxC_by rfl fun c hc => ?_
    simp (disch := first | assumption | omega) only [go_sem]
    refine allocC_by fun d hd => ?_
    have hd0 := hd
    repeat (with_reducible replace hd := set_none hd; obtain ⟨_, _, hd⟩ := hd)
    by_cases h0 : ks = []
    ·subst h0
     simp only [List.map_nil]
     simp (disch := first | assumption | omega) only [go_sem, Nat.reduceEqDiff, Nat.reduceAdd, Nat.reduceLeDiff, Int.reduceLT, ↓reduceIte, o5, o6, ASt.set_set]
     exact retC_by ((Drop.set hc).off (by assumption)) (.refl _) ⟨rfl, rfl⟩
    have hpos : 0 < ks.length := by
     rcases ks with _ | ⟨_, _⟩
     ·exact absurd rfl h0
     ·simp
    have hpos' : (0 : Int) < ks.length := by omega
    obtain ⟨G, hG⟩ : ∃ G, G = ACode.wp Tryz.prog c37_22 := ⟨_, rfl⟩
    simp (disch := first | assumption | omega) only [go_sem, Nat.reduceEqDiff, ↓reduceIte, o5, o6, hpos']
    refine mkb_own (by omega) (by omega) (by omega) (by omega) fun e he => ?_
    have he0 := he
    repeat (with_reducible replace he := set_none he; obtain ⟨_, _, he⟩ := he)
    rw [Int.toNat_natCast]
    have hz12 : ([.int .i64 0, .int .i64 0, .str [], .int .i64 0, .int .i64 0, .bool false, .bool false, .int .i64 0, .int .i64 0, .bool false, .bool false, .sl .full []] : List AV).length = 12 := rfl
    have hrz := rowAt_zero f ks [.int .i64 0, .int .i64 0, .str [], .int .i64 0, .int .i64 0, .bool false, .bool false, .int .i64 0, .int .i64 0, .bool false, .bool false, .sl .full []]
    have hrl : ∀ i, i ≤ ks.length → (rowAt f ks [.int .i64 0, .int .i64 0, .str [], .int .i64 0, .int .i64 0, .bool false, .bool false, .int .i64 0, .int .i64 0, .bool false, .bool false, .sl .full []] i).length = ks.length * 12 := fun i hi => rowAt_len f ks hz12 hi
    have hrs := fun i x hx => rowAt_step f ks hz12 (i := i) (x := x) hx
    have hre := rowAt_end f ks [.int .i64 0, .int .i64 0, .str [], .int .i64 0, .int .i64 0, .bool false, .bool false, .int .i64 0, .int .i64 0, .bool false, .bool false, .sl .full []]
    rw [← hrz]
    generalize rowAt f ks [.int .i64 0, .int .i64 0, .str [], .int .i64 0, .int .i64 0, .bool false, .bool false, .int .i64 0, .int .i64 0, .bool false, .bool false, .sl .full []] = q at *
    have nce : c ≠ e := by assumption
    have nde : d ≠ e := by assumption
    have ncd : c ≠ d := by assumption
    have hII : ∀ X Y Z : Option Role, I (((σ.set c X).set d Y).set e Z) := fun X Y Z => hst _ _ _ (hst _ _ _ (hst _ _ _ hI hc) (by rw [ASt.set_ne (Ne.symm ncd)]; assumption)) (by rw [ASt.set_ne (Ne.symm nde), ASt.set_ne (Ne.symm nce)]; assumption)
    have hDD : ∀ X Y Z : Option Role, Drop (((σ.set c X).set d Y).set e Z) σ := fun X Y Z => ((Drop.set hc).off (by assumption)).off (by assumption)
    simp (disch := first | assumption | omega) only [go_sem, Nat.reduceEqDiff, ↓reduceIte, ←hG]
    refine wp_loop_by (fun (i : Nat) a1 s2 => i ≤ ks.length ∧ (a1 1 = .func (.func g) [] cap ∧ a1 2 = .ptr c 0 ∧ a1 4 = .ptr d 0 ∧ a1 5 = .msl e 0 ks.length ks.length ∧ a1 28 = .sl .shr (ks.map Nd.av) ∧ a1 29 = .int .i64 ks.length ∧ a1 30 = .int .i64 i) ∧
     s2 = ((σ.set c (some (.obj (Nd.cs op m s a b (ks.map Nd.av))))).set d (some (.obj [.int .i64 0, .int .i64 0, .str [], .int .i64 0, .int .i64 0, .bool false, .bool false, .int .i64 0, .int .i64 0, .bool false, .bool false, .sl .full []]))).set e (some (.obj (q i)))) (fun i => ks.length - i) 0 (Dr.now ⟨Nat.zero_le _, ?_, rfl⟩) ?_
    ·simp (disch := first | assumption | omega) only [go_sem, Nat.reduceEqDiff, ↓reduceIte]
    rintro i a1 s2 ⟨hi, hf, rfl⟩
    by_cases hlt : i < ks.length
    ·have hlt' : (i : Int) < ks.length := by omega
     have hx : ks[i]? = some (ks[i]'hlt) := List.getElem?_eq_getElem hlt
     have hkx := hks _ (List.getElem_mem hlt)
     obtain ⟨x, hxe⟩ : ∃ x, ks[i]'hlt = x := ⟨_, rfl⟩
     rw [hxe] at hx hkx
     have hmx := Nd.get hx
     have hqs := hrs i x hx
     have hql := hrl i (by omega)
     obtain ⟨y, hy⟩ : ∃ y, Nd.map f x = y := ⟨_, rfl⟩
     rw [hy] at hkx hqs
     obtain ⟨xo, xm, xs, xa, xb, xk⟩ := x
     obtain ⟨yo, ym, ys, ya, yb, yk⟩ := y
     rw [Nd.av_cs] at hmx
     rw [Nd.av_cs, Nd.av_cs] at hkx
     rw [Nd.av_cs, cells_agg] at hqs
     generalize xk.map Nd.av = XK at *
     generalize yk.map Nd.av = YK at *
     generalize hXL : ks.map Nd.av = XL at *
     simp (disch := first | assumption | omega) only [go_sem, Nat.reduceEqDiff, Nat.reduceLeDiff, ↓reduceIte, hf, hlt', hmx]
     refine allocC_by fun t ht => ?_
     have ht0 := ht
     repeat (with_reducible replace ht := set_none ht; obtain ⟨_, _, ht⟩ := ht)
     have hk1 := hkx _ (hst _ _ (some (.obj (Nd.cs xo xm xs xa xb XK))) (hII _ _ _) ht0)
     simp (disch := first | assumption | omega) only [go_sem, Nat.reduceEqDiff, Nat.reduceAdd, Nat.reduceLeDiff, ↓reduceIte, hf, ASt.set_set]
     refine hk1.mono ?_
     rintro v σ' ⟨rfl, rfl⟩
     have hb1 : i * 12 + 12 ≤ (q i).length := by rw [hql]; omega
     have het : e ≠ t := by assumption
     have hsw : ∀ (ρ : ASt) (X Y Z : Option Role), ((ρ.set e X).set t Y).set e Z = (ρ.set e Z).set t Y := fun _ _ _ _ => set_mid het
     simp (disch := first | assumption | omega) only [go_sem, Nat.reduceEqDiff, ↓reduceIte, hf, hb1, hqs, hsw]
     refine ⟨i + 1, by dsimp only; omega, Dr.drop (Drop.set (by rw [ASt.set_ne (Ne.symm het)]; rw [ASt.set_ne (Ne.symm het)] at ht0; exact ht0)) ⟨by omega, ?_, rfl⟩⟩
     simp (disch := first | assumption | omega) only [go_sem, Nat.reduceEqDiff, ↓reduceIte, hf]
    ·have hlt' : ¬ (i : Int) < ks.length := by omega
     obtain rfl : i = ks.length := by omega
     rw [hre]
     simp (disch := first | assumption | omega) only [go_sem, ↓reduceIte, hf, hlt']
     rw [hG]
     have hsw1 : ∀ (ρ : ASt) (X Y Z W : Option Role), (((ρ.set c X).set d Y).set e Z).set c W = ((ρ.set c W).set d Y).set e Z := fun ρ X Y Z W => by rw [set_swap (Ne.symm nce), set_mid ncd]
     have hsw2 : ∀ (ρ : ASt) (Y Z W : Option Role), ((ρ.set d Y).set e Z).set d W = (ρ.set d W).set e Z := fun ρ Y Z W => set_mid nde
     unfold Nd.cs
     simp (disch := first | assumption | omega) only [go_sem, Nat.reduceEqDiff, Nat.reduceAdd, Nat.reduceLeDiff, ↓reduceIte, Bool.true_and, hf, hsw1, hsw2]
     refine retC_by (r := .agg [.int .i64 op, .int .i64 m, .str s, .int .i64 a.row, .int .i64 a.col, .bool a.absRow, .bool a.absCol, .int .i64 b.row, .int .i64 b.col, .bool b.absRow, .bool b.absCol, .sl .shr (ks.map fun x => (Nd.map f x).av)]) (hDD _ _ _) ?_ ⟨rfl, rfl⟩
     refine Fz.agg ?_
     refine .cons (.refl _) (.cons (.refl _) (.cons (.refl _) (.cons (.refl _) (.cons (.refl _) (.cons (.refl _) (.cons (.refl _) (.cons (.refl _) (.cons (.refl _) (.cons (.refl _) (.cons (.refl _) (.cons ?_ .nil)))))))))))
     refine .msl 0 _ _ 12 _ (ASt.set_same _ _ _) (by assumption) (by simp) (Nat.le_refl _) (fun y hy => ?_) ?_
     ·obtain ⟨z, _, rfl⟩ := List.mem_map.1 hy
      exact Nd.av_len _
     ·rw [List.drop_zero, List.take_of_length_le]
      rw [lens_flat (s := 12)]
      ·simp
      ·intro y hy
       obtain ⟨z, _, rfl⟩ := List.mem_map.1 hy
       exact Nd.av_len _
end Go.A
namespace Go.A
open Go.Proofs
/-! 11: (tabular/shift.Edit).Tree -/
def c11_3 : ACode := .seq (.ops [ oe 2 (.box (.t 0)), oe 3 (.box (.t 1)), oe 4 (.alloc [(.int .i64 0), (.int .i64 0), (.str []), (.int .i64 0), (.int .i64 0), (.bool false), (.bool false), (.int .i64 0), (.int .i64 0), (.bool false), (.bool false), (.sl .full [])])]) (.seq (.ops [ oq 5 (.ld (some 12) (.t 3)), oq 6 (.mkf (.func 38) [] [(.t 2)]), oe 7 (.call 37 [(.t 5), (.t 6)]), oz (.store 12 (.t 4) (.t 7))]) .ret)
@[go_sem] def c11_3_wp := wp_of c11_3.eq_1
def c11 : AFn := ⟨8, [.c 4 (some 12)], c11_3⟩
theorem c11_ok : compF Tryz.prog Tryz.f11 = some c11 := by kernel_rfl
theorem a11 {args : List AV} {σ : ASt} {R : AV → ASt → Prop} (hl : args.length ≤ 8) (h : c11_3.wp Tryz.prog (RetQ [.c 4 (some 12)] R) (init args) σ) : ACalls Tryz.prog 11 args σ R := acalls_of Tryz.func11 c11_ok hl h
/-! 38: (tabular/shift.Edit).Tree$1 -/
def c38_9 : ACode := .seq (.ops [ oe 2 (.box (.t 0)), oe 3 (.alloc [(.int .i64 0), (.int .i64 0), (.str []), (.int .i64 0), (.int .i64 0), (.bool false), (.bool false), (.int .i64 0), (.int .i64 0), (.bool false), (.bool false), (.sl .full [])])]) (.seq (.seq (.ops [ oq 4 (.fa 0 (.t 2)), oq 5 (.ld none (.t 4)), oq 6 (.bin .eql (.t 5) (.v (.int .i64 5)))]) (.cond (.t 6) (.seq (.ops [ oq 7 (.ld (some 5) (.t 1)), oq 8 (.ld (some 12) (.t 2)), oe 9 (.call 39 [(.t 7), (.t 8)]), oz (.store 12 (.t 3) (.t 9))]) .ret) .skip)) (.seq (.ops [ oq 10 (.ld (some 5) (.t 1)), oq 11 (.ld (some 12) (.t 2)), oe 12 (.call 40 [(.t 10), (.t 11)]), oz (.store 12 (.t 3) (.t 12))]) .ret))
@[go_sem] def c38_9_wp := wp_of c38_9.eq_1
def c38 : AFn := ⟨13, [.c 3 (some 12)], c38_9⟩
theorem c38_ok : compF Tryz.prog Tryz.f38 = some c38 := by kernel_rfl
theorem a38 {args : List AV} {σ : ASt} {R : AV → ASt → Prop} (hl : args.length ≤ 13) (h : c38_9.wp Tryz.prog (RetQ [.c 3 (some 12)] R) (init args) σ) : ACalls Tryz.prog 38 args σ R := acalls_of Tryz.func38 c38_ok hl h
/-! 39: (tabular/shift.Edit).cell -/
def c39_20 : ACode := .seq (.ops [ oe 2 (.box (.t 0)), oe 3 (.box (.t 1)), oe 4 (.alloc [(.int .i64 0), (.int .i64 0), (.str []), (.int .i64 0), (.int .i64 0), (.bool false), (.bool false), (.int .i64 0), (.int .i64 0), (.bool false), (.bool false), (.sl .full [])])]) (.seq (.ops [ oq 8 (.fa 3 (.t 3)), oq 9 (.fa 0 (.t 8)), oq 5 (.mv (.t 9))]) (.seq (.seq (.ops [ oq 10 (.fa 0 (.t 2)), oq 11 (.ld none (.t 10))]) (.cond (.t 11) (.ops [ oq 12 (.fa 3 (.t 3)), oq 13 (.fa 1 (.t 12)), oq 5 (.mv (.t 13))]) .skip)) (.seq (.ops [ oq 15 (.ld (some 5) (.t 2)), oq 16 (.mv (.t 5)), oq 17 (.nc (.t 16)), oq 18 (.ld none (.t 17)), oe 19 (.call 72 [(.t 15), (.t 18)]), oq 14 (.mv (.t 19)), oq 20 (.ext 0 (.t 14)), oq 21 (.ext 1 (.t 14)), oq 6 (.mv (.t 20)), oq 7 (.mv (.t 21))]) (.seq (.seq (.ops [ oq 22 (.mv (.t 7)), oq 23 (.un .not (.t 22))]) (.cond (.t 23) (.seq (.ops [ oe 24 (.call 43 []), oz (.store 12 (.t 4) (.t 24))]) .ret) .skip)) (.seq (.ops [ oq 25 (.mv (.t 5)), oq 26 (.mv (.t 6)), oq 27 (.nc (.t 25)), oz (.store 1 (.t 27) (.t 26))]) (.seq (.ops [ oq 28 (.ld (some 12) (.t 3)), oz (.store 12 (.t 4) (.t 28))]) .ret))))))
@[go_sem] def c39_20_wp := wp_of c39_20.eq_1
def c39 : AFn := ⟨29, [.c 4 (some 12)], c39_20⟩
theorem c39_ok : compF Tryz.prog Tryz.f39 = some c39 := by kernel_rfl
theorem a39 {args : List AV} {σ : ASt} {R : AV → ASt → Prop} (hl : args.length ≤ 29) (h : c39_20.wp Tryz.prog (RetQ [.c 4 (some 12)] R) (init args) σ) : ACalls Tryz.prog 39 args σ R := acalls_of Tryz.func39 c39_ok hl h
/-! 40: (tabular/shift.Edit).area -/
def c40_27 : ACode := .seq (.ops [ oe 2 (.box (.t 0)), oe 3 (.box (.t 1)), oe 4 (.alloc [(.int .i64 0), (.int .i64 0), (.str []), (.int .i64 0), (.int .i64 0), (.bool false), (.bool false), (.int .i64 0), (.int .i64 0), (.bool false), (.bool false), (.sl .full [])])]) (.seq (.ops [ oq 11 (.fa 3 (.t 3)), oq 12 (.fa 0 (.t 11)), oq 13 (.fa 7 (.t 3)), oq 14 (.fa 0 (.t 13)), oq 5 (.mv (.t 12)), oq 6 (.mv (.t 14))]) (.seq (.seq (.ops [ oq 15 (.fa 0 (.t 2)), oq 16 (.ld none (.t 15))]) (.cond (.t 16) (.ops [ oq 17 (.fa 3 (.t 3)), oq 18 (.fa 1 (.t 17)), oq 19 (.fa 7 (.t 3)), oq 20 (.fa 1 (.t 19)), oq 5 (.mv (.t 18)), oq 6 (.mv (.t 20))]) .skip)) (.seq (.ops [ oq 21 (.mv (.t 5)), oq 22 (.nc (.t 21)), oq 23 (.ld none (.t 22)), oq 24 (.mv (.t 6)), oq 25 (.nc (.t 24)), oq 26 (.ld none (.t 25)), oq 27 (.bin .gtr (.t 23) (.t 26)), oq 7 (.mv (.t 27))]) (.seq (.ops [ oq 29 (.ld (some 5) (.t 2)), oq 30 (.mv (.t 5)), oq 31 (.nc (.t 30)), oq 32 (.ld none (.t 31)), oq 33 (.mv (.t 6)), oq 34 (.nc (.t 33)), oq 35 (.ld none (.t 34)), oq 36 (.mnx false (.t 32) (.t 35)), oq 37 (.mv (.t 5)), oq 38 (.nc (.t 37)), oq 39 (.ld none (.t 38)), oq 40 (.mv (.t 6)), oq 41 (.nc (.t 40)), oq 42 (.ld none (.t 41)), oq 43 (.mnx true (.t 39) (.t 42)), oe 44 (.call 73 [(.t 29), (.t 36), (.t 43)]), oq 28 (.mv (.t 44)), oq 45 (.ext 0 (.t 28)), oq 46 (.ext 1 (.t 28)), oq 47 (.ext 2 (.t 28)), oq 8 (.mv (.t 45)), oq 9 (.mv (.t 46)), oq 10 (.mv (.t 47))]) (.seq (.seq (.ops [ oq 48 (.mv (.t 10)), oq 49 (.un .not (.t 48))]) (.cond (.t 49) (.seq (.ops [ oe 50 (.call 43 []), oz (.store 12 (.t 4) (.t 50))]) .ret) .skip)) (.seq (.seq (.ops [ oq 51 (.mv (.t 7))]) (.cond (.t 51) (.ops [ oq 52 (.mv (.t 9)), oq 53 (.mv (.t 8)), oq 8 (.mv (.t 52)), oq 9 (.mv (.t 53))]) .skip)) (.seq (.ops [ oq 54 (.mv (.t 5)), oq 55 (.mv (.t 6)), oq 56 (.mv (.t 8)), oq 57 (.mv (.t 9)), oq 58 (.nc (.t 54)), oz (.store 1 (.t 58) (.t 56)), oq 59 (.nc (.t 55)), oz (.store 1 (.t 59) (.t 57))]) (.seq (.ops [ oq 60 (.ld (some 12) (.t 3)), oz (.store 12 (.t 4) (.t 60))]) .ret))))))))
@[go_sem] def c40_27_wp := wp_of c40_27.eq_1
def c40 : AFn := ⟨61, [.c 4 (some 12)], c40_27⟩
theorem c40_ok : compF Tryz.prog Tryz.f40 = some c40 := by kernel_rfl
theorem a40 {args : List AV} {σ : ASt} {R : AV → ASt → Prop} (hl : args.length ≤ 61) (h : c40_27.wp Tryz.prog (RetQ [.c 4 (some 12)] R) (init args) σ) : ACalls Tryz.prog 40 args σ R := acalls_of Tryz.func40 c40_ok hl h
/-! 73: (tabular/shift.Edit).Span -/
def c73_38 : ACode := .cond (.t 18) (.seq (.ops [ oq 21 (.ld (some 5) (.t 3)), oq 22 (.mv (.t 1)), oe 23 (.call 72 [(.t 21), (.t 22)]), oq 20 (.mv (.t 23)), oq 24 (.ext 0 (.t 20)), oq 25 (.ext 1 (.t 20)), oq 9 (.mv (.t 24)), oq 10 (.mv (.t 25))]) (.seq (.seq (.ops [ oq 26 (.mv (.t 10)), oq 27 (.un .not (.t 26))]) (.cond (.t 27) (.seq (.ops [ oq 6 (.mv (.v (.int .i64 0))), oq 7 (.mv (.v (.int .i64 0))), oq 8 (.mv (.v (.bool false)))]) .ret) .skip)) (.seq (.ops [ oq 29 (.ld (some 5) (.t 3)), oq 30 (.mv (.t 2)), oe 31 (.call 72 [(.t 29), (.t 30)]), oq 28 (.mv (.t 31)), oq 32 (.ext 0 (.t 28)), oq 33 (.ext 1 (.t 28)), oq 11 (.mv (.t 32)), oq 10 (.mv (.t 33))]) (.seq (.seq (.ops [ oq 34 (.mv (.t 10)), oq 35 (.un .not (.t 34))]) (.cond (.t 35) (.ops [ oq 36 (.ld (some 5) (.t 3)), oe 37 (.call 35 [(.t 36)]), oq 38 (.bin .sub (.t 37) (.v (.int .i64 1))), oq 11 (.mv (.t 38))]) .skip)) (.seq (.ops [ oq 39 (.mv (.t 9)), oq 40 (.mv (.t 11)), oq 6 (.mv (.t 39)), oq 7 (.mv (.t 40)), oq 8 (.mv (.v (.bool true)))]) .ret))))) (.seq (.ops [ oq 42 (.bin .eql (.t 17) (.v (.int .i64 2))), oq 41 (.mv (.t 42))]) (.cond (.t 41) (.seq (.seq (.ops [ oq 43 (.mv (.t 1)), oq 44 (.fa 2 (.t 3)), oq 45 (.ld none (.t 44)), oq 46 (.bin .geq (.t 43) (.t 45)), oq 47 (.mv (.t 46)), ⟨some 48, some (47, true), .q (.mv (.t 2)), []⟩, ⟨some 49, some (47, true), .q (.fa 2 (.t 3)), []⟩, ⟨some 50, some (47, true), .q (.ld none (.t 49)), []⟩, ⟨some 51, some (47, true), .q (.fa 3 (.t 3)), []⟩, ⟨some 52, some (47, true), .q (.ld none (.t 51)), []⟩, ⟨some 53, some (47, true), .q (.bin .add (.t 50) (.t 52)), []⟩, ⟨some 54, some (47, true), .q (.bin .lss (.t 48) (.t 53)), []⟩, oq 55 (.pick (.t 47) (.t 54) (.v (.bool false)))]) (.cond (.t 55) (.seq (.ops [ oq 6 (.mv (.v (.int .i64 0))), oq 7 (.mv (.v (.int .i64 0))), oq 8 (.mv (.v (.bool false)))]) .ret) .skip)) (.seq (.seq (.ops [ oq 56 (.mv (.t 1)), oq 57 (.fa 2 (.t 3)), oq 58 (.ld none (.t 57)), oq 59 (.bin .geq (.t 56) (.t 58)), oq 60 (.mv (.t 59)), ⟨some 61, some (60, true), .q (.mv (.t 1)), []⟩, ⟨some 62, some (60, true), .q (.fa 2 (.t 3)), []⟩, ⟨some 63, some (60, true), .q (.ld none (.t 62)), []⟩, ⟨some 64, some (60, true), .q (.fa 3 (.t 3)), []⟩, ⟨some 65, some (60, true), .q (.ld none (.t 64)), []⟩, ⟨some 66, some (60, true), .q (.bin .add (.t 63) (.t 65)), []⟩, ⟨some 67, some (60, true), .q (.bin .lss (.t 61) (.t 66)), []⟩, oq 68 (.pick (.t 60) (.t 67) (.v (.bool false)))]) (.cond (.t 68) (.ops [ oq 69 (.fa 2 (.t 3)), oq 70 (.ld none (.t 69)), oq 71 (.fa 3 (.t 3)), oq 72 (.ld none (.t 71)), oq 73 (.bin .add (.t 70) (.t 72)), oq 1 (.mv (.t 73))]) .skip)) (.seq (.ops [ oq 74 (.mv (.t 2)), oq 75 (.fa 2 (.t 3)), oq 76 (.ld none (.t 75)), oq 77 (.bin .geq (.t 74) (.t 76)), oq 78 (.mv (.t 77)), ⟨some 79, some (78, true), .q (.mv (.t 2)), []⟩, ⟨some 80, some (78, true), .q (.fa 2 (.t 3)), []⟩, ⟨some 81, some (78, true), .q (.ld none (.t 80)), []⟩, ⟨some 82, some (78, true), .q (.fa 3 (.t 3)), []⟩, ⟨some 83, some (78, true), .q (.ld none (.t 82)), []⟩, ⟨some 84, some (78, true), .q (.bin .add (.t 81) (.t 83)), []⟩, ⟨some 85, some (78, true), .q (.bin .lss (.t 79) (.t 84)), []⟩, oq 86 (.pick (.t 78) (.t 85) (.v (.bool false)))]) (.cond (.t 86) (.ops [ oq 87 (.fa 2 (.t 3)), oq 88 (.ld none (.t 87)), oq 89 (.bin .sub (.t 88) (.v (.int .i64 1))), oq 2 (.mv (.t 89))]) .skip)))) .skip))
def c73_49 : ACode := .seq (.ops [ oe 3 (.box (.t 0)), oq 6 (.mv (.v (.int .i64 0))), oq 7 (.mv (.v (.int .i64 0))), oq 8 (.mv (.v (.bool false)))]) (.seq (.seq (.ops [ oq 16 (.fa 1 (.t 3)), oq 17 (.ld none (.t 16))]) (.block 0 (.seq (.ops [ oq 19 (.bin .eql (.t 17) (.v (.int .i64 1))), oq 18 (.mv (.t 19))]) c73_38))) (.seq (.ops [ oq 91 (.ld (some 5) (.t 3)), oq 92 (.mv (.t 1)), oe 93 (.call 72 [(.t 91), (.t 92)]), oq 90 (.mv (.t 93)), oq 94 (.ext 0 (.t 90)), oq 95 (.ext 1 (.t 90)), oq 12 (.mv (.t 94)), oq 13 (.mv (.t 95))]) (.seq (.ops [ oq 97 (.ld (some 5) (.t 3)), oq 98 (.mv (.t 2)), oe 99 (.call 72 [(.t 97), (.t 98)]), oq 96 (.mv (.t 99)), oq 100 (.ext 0 (.t 96)), oq 101 (.ext 1 (.t 96)), oq 14 (.mv (.t 100)), oq 15 (.mv (.t 101))]) (.seq (.ops [ oq 102 (.mv (.t 12)), oq 103 (.mv (.t 14)), oq 104 (.mnx false (.t 102) (.t 103)), oq 105 (.mv (.t 12)), oq 106 (.mv (.t 14)), oq 107 (.mnx true (.t 105) (.t 106)), oq 6 (.mv (.t 104)), oq 7 (.mv (.t 107)), oq 8 (.mv (.v (.bool true)))]) .ret))))
@[go_sem] def c73_38_wp := wp_of c73_38.eq_1
@[go_sem] def c73_49_wp := wp_of c73_49.eq_1
def c73 : AFn := ⟨108, [.t 6, .t 7, .t 8], c73_49⟩
theorem c73_ok : compF Tryz.prog Tryz.f73 = some c73 := by kernel_rfl
theorem a73 {args : List AV} {σ : ASt} {R : AV → ASt → Prop} (hl : args.length ≤ 108) (h : c73_49.wp Tryz.prog (RetQ [.t 6, .t 7, .t 8] R) (init args) σ) : ACalls Tryz.prog 73 args σ R := acalls_of Tryz.func73 c73_ok hl h
end Go.A
namespace Go.A
open Go.Proofs Go.Lib
def Edt.span (e : Edt) (f t : Int) : Int × Int × Bool :=
 if e.kind = 1 then
  if (e.place f).2 = true then ((e.place f).1, if (e.place t).2 = true then (e.place t).1 else e.most - 1, true) else (0, 0, false)
 else if e.kind = 2 then
  if e.at' ≤ f ∧ t < e.at' + e.n then (0, 0, false)
  else
   let f' := if e.at' ≤ f ∧ f < e.at' + e.n then e.at' + e.n else f
   let t' := if e.at' ≤ t ∧ t < e.at' + e.n then e.at' - 1 else t
   (min (e.place f').1 (e.place t').1, max (e.place f').1 (e.place t').1, true)
 else (min (e.place f).1 (e.place t).1, max (e.place f).1 (e.place t).1, true)
theorem shspan_ok (e : Edt) (he : e.fit) (f t : Int) (h0 : 0 ≤ f) (h1 : f ≤ t) (h2 : t ≤ 4000) :
  Pure Tryz.prog 73 [e.av, .int .i64 f, .int .i64 t] (.tuple [.int .i64 (e.span f t).1, .int .i64 (e.span f t).2.1, .bool (e.span f t).2.2]) := by
 intro σ
 have hm := shmost_ok e
 have hr := most_rng e
 have hp : ∀ i, 0 ≤ i → i ≤ 10000 → Pure Tryz.prog 72 [e.av, .int .i64 i] (.tuple [.int .i64 (e.place i).1, .bool (e.place i).2]) := fun i h0 h1 => shplace_ok e he i h0 h1
 obtain ⟨a0, a1, n0, n1, ht⟩ := he
 obtain ⟨q, hq⟩ : ∃ q, e.span f t = q := ⟨_, rfl⟩
 rw [hq]
 unfold Edt.span at hq
 generalize e.most = M at *
 generalize e.place = pl at *
 unfold Edt.av at hm hp ⊢
 by_cases k1 : e.kind = 1
 ·rw [if_pos k1] at hq
  have h3 := hp f (by omega) (by omega)
  have h4 := hp t (by omega) (by omega)
  obtain ⟨⟨i, ok⟩, hi⟩ : ∃ r, pl f = r := ⟨_, rfl⟩
  obtain ⟨⟨j, ok2⟩, hj⟩ : ∃ r, pl t = r := ⟨_, rfl⟩
  rw [hi] at hq h3
  rw [hj] at hq h4
  dsimp only at hq h3 h4
  cases ok with
  | false =>
    rw [if_neg (by simp)] at hq
    subst hq
    refine a73 (by simp) ?_
    simp (disch := first | assumption | omega) only [go_sem]
    refine boxC_by rfl fun b hb => ?_
    simp (disch := first | assumption | omega) only [go_sem, Nat.reduceEqDiff, Nat.reduceLeDiff, ↓reduceIte, k1]
    refine h3.use ?_
    simp (disch := first | assumption | omega) only [go_sem, Nat.reduceEqDiff, ↓reduceIte]
    exact retC_by (Drop.set hb) (.refl _) ⟨rfl, rfl⟩
  | true =>
    rw [if_pos rfl] at hq
    cases ok2 with
    | true =>
      rw [if_pos rfl] at hq
      subst hq
      refine a73 (by simp) ?_
      simp (disch := first | assumption | omega) only [go_sem]
      refine boxC_by rfl fun b hb => ?_
      simp (disch := first | assumption | omega) only [go_sem, Nat.reduceEqDiff, Nat.reduceLeDiff, ↓reduceIte, k1]
      refine h3.use ?_
      simp (disch := first | assumption | omega) only [go_sem, Nat.reduceEqDiff, Nat.reduceLeDiff, ↓reduceIte]
      refine h4.use ?_
      simp (disch := first | assumption | omega) only [go_sem, Nat.reduceEqDiff, ↓reduceIte]
      exact retC_by (Drop.set hb) (.refl _) ⟨rfl, rfl⟩
    | false =>
      rw [if_neg (by simp)] at hq
      subst hq
      refine a73 (by simp) ?_
      simp (disch := first | assumption | omega) only [go_sem]
      refine boxC_by rfl fun b hb => ?_
      simp (disch := first | assumption | omega) only [go_sem, Nat.reduceEqDiff, Nat.reduceLeDiff, ↓reduceIte, k1]
      refine h3.use ?_
      simp (disch := first | assumption | omega) only [go_sem, Nat.reduceEqDiff, Nat.reduceLeDiff, ↓reduceIte]
      refine h4.use ?_
      simp (disch := first | assumption | omega) only [go_sem, Nat.reduceEqDiff, Nat.reduceLeDiff, ↓reduceIte]
      refine hm.use ?_
      simp (disch := first | assumption | omega) only [go_sem, Nat.reduceEqDiff, ↓reduceIte]
      exact retC_by (Drop.set hb) (.refl _) ⟨rfl, rfl⟩
 rw [if_neg k1] at hq
 by_cases k2 : e.kind = 2
 ·rw [if_pos k2] at hq
  by_cases g1 : e.at' ≤ f
  ·by_cases g2 : t < e.at' + e.n
   ·rw [if_pos ⟨g1, g2⟩] at hq
    subst hq
    refine a73 (by simp) ?_
    simp (disch := first | assumption | omega) only [go_sem]
    refine boxC_by rfl fun b hb => ?_
    simp (disch := first | assumption | omega) only [go_sem, Nat.reduceEqDiff, Int.reduceEq, ↓reduceIte, k2, g1, g2]
    exact retC_by (Drop.set hb) (.refl _) ⟨rfl, rfl⟩
   ·rw [if_neg (fun h => g2 h.2)] at hq
    have g3 : e.at' ≤ t := by omega
    rw [if_neg (c := e.at' ≤ t ∧ t < e.at' + e.n) (fun h => g2 h.2)] at hq
    by_cases g4 : f < e.at' + e.n
    ·rw [if_pos ⟨g1, g4⟩] at hq
     have h3 := hp (e.at' + e.n) (by omega) (by omega)
     have h4 := hp t (by omega) (by omega)
     dsimp only at hq
     subst hq
     refine a73 (by simp) ?_
     simp (disch := first | assumption | omega) only [go_sem]
     refine boxC_by rfl fun b hb => ?_
     simp (disch := first | assumption | omega) only [go_sem, Nat.reduceEqDiff, Nat.reduceLeDiff, Int.reduceEq, ↓reduceIte, k2, g1, g2, g3, g4]
     refine h3.use ?_
     simp (disch := first | assumption | omega) only [go_sem, Nat.reduceEqDiff, Nat.reduceLeDiff, ↓reduceIte]
     refine h4.use ?_
     simp (disch := first | assumption | omega) only [go_sem, Nat.reduceEqDiff, ↓reduceIte]
     exact retC_by (Drop.set hb) (.refl _) ⟨rfl, rfl⟩
    ·rw [if_neg (fun h => g4 h.2)] at hq
     have h3 := hp f (by omega) (by omega)
     have h4 := hp t (by omega) (by omega)
     dsimp only at hq
     subst hq
     refine a73 (by simp) ?_
     simp (disch := first | assumption | omega) only [go_sem]
     refine boxC_by rfl fun b hb => ?_
     simp (disch := first | assumption | omega) only [go_sem, Nat.reduceEqDiff, Nat.reduceLeDiff, Int.reduceEq, ↓reduceIte, k2, g1, g2, g3, g4]
     refine h3.use ?_
     simp (disch := first | assumption | omega) only [go_sem, Nat.reduceEqDiff, Nat.reduceLeDiff, ↓reduceIte]
     refine h4.use ?_
     simp (disch := first | assumption | omega) only [go_sem, Nat.reduceEqDiff, ↓reduceIte]
     exact retC_by (Drop.set hb) (.refl _) ⟨rfl, rfl⟩
  ·rw [if_neg (fun h => g1 h.1), if_neg (c := e.at' ≤ f ∧ f < e.at' + e.n) (fun h => g1 h.1)] at hq
   have h3 := hp f (by omega) (by omega)
   by_cases g3 : e.at' ≤ t
   ·by_cases g2 : t < e.at' + e.n
    ·rw [if_pos ⟨g3, g2⟩] at hq
     have h4 := hp (e.at' - 1) (by omega) (by omega)
     dsimp only at hq
     subst hq
     refine a73 (by simp) ?_
     simp (disch := first | assumption | omega) only [go_sem]
     refine boxC_by rfl fun b hb => ?_
     simp (disch := first | assumption | omega) only [go_sem, Nat.reduceEqDiff, Nat.reduceLeDiff, Int.reduceEq, ↓reduceIte, k2, g1, g2, g3]
     refine h3.use ?_
     simp (disch := first | assumption | omega) only [go_sem, Nat.reduceEqDiff, Nat.reduceLeDiff, ↓reduceIte]
     refine h4.use ?_
     simp (disch := first | assumption | omega) only [go_sem, Nat.reduceEqDiff, ↓reduceIte]
     exact retC_by (Drop.set hb) (.refl _) ⟨rfl, rfl⟩
    ·rw [if_neg (fun h => g2 h.2)] at hq
     have h4 := hp t (by omega) (by omega)
     dsimp only at hq
     subst hq
     refine a73 (by simp) ?_
     simp (disch := first | assumption | omega) only [go_sem]
     refine boxC_by rfl fun b hb => ?_
     simp (disch := first | assumption | omega) only [go_sem, Nat.reduceEqDiff, Nat.reduceLeDiff, Int.reduceEq, ↓reduceIte, k2, g1, g2, g3]
     refine h3.use ?_
     simp (disch := first | assumption | omega) only [go_sem, Nat.reduceEqDiff, Nat.reduceLeDiff, ↓reduceIte]
     refine h4.use ?_
     simp (disch := first | assumption | omega) only [go_sem, Nat.reduceEqDiff, ↓reduceIte]
     exact retC_by (Drop.set hb) (.refl _) ⟨rfl, rfl⟩
   ·rw [if_neg (fun h => g3 h.1)] at hq
    have h4 := hp t (by omega) (by omega)
    dsimp only at hq
    subst hq
    refine a73 (by simp) ?_
    simp (disch := first | assumption | omega) only [go_sem]
    refine boxC_by rfl fun b hb => ?_
    simp (disch := first | assumption | omega) only [go_sem, Nat.reduceEqDiff, Nat.reduceLeDiff, Int.reduceEq, ↓reduceIte, k2, g1, g3]
    refine h3.use ?_
    simp (disch := first | assumption | omega) only [go_sem, Nat.reduceEqDiff, Nat.reduceLeDiff, ↓reduceIte]
    refine h4.use ?_
    simp (disch := first | assumption | omega) only [go_sem, Nat.reduceEqDiff, ↓reduceIte]
    exact retC_by (Drop.set hb) (.refl _) ⟨rfl, rfl⟩
 ·rw [if_neg k2] at hq
  have h3 := hp f (by omega) (by omega)
  have h4 := hp t (by omega) (by omega)
  subst hq
  refine a73 (by simp) ?_
  simp (disch := first | assumption | omega) only [go_sem]
  refine boxC_by rfl fun b hb => ?_
  simp (disch := first | assumption | omega) only [go_sem, Nat.reduceEqDiff, Nat.reduceLeDiff, ↓reduceIte, k1, k2]
  refine h3.use ?_
  simp (disch := first | assumption | omega) only [go_sem, Nat.reduceEqDiff, Nat.reduceLeDiff, ↓reduceIte]
  refine h4.use ?_
  simp (disch := first | assumption | omega) only [go_sem, Nat.reduceEqDiff, ↓reduceIte]
  exact retC_by (Drop.set hb) (.refl _) ⟨rfl, rfl⟩
def goneN : Nd := .mk 4 40000 [] .zero .zero []
theorem gone_av : goneN.av = .agg [.int .i64 4, .int .i64 40000, .str [], .int .i64 0, .int .i64 0, .bool false, .bool false, .int .i64 0, .int .i64 0, .bool false, .bool false, .sl .shr []] := by
 unfold goneN
 rw [Nd.av_cs]; rfl
def Edt.of (e : Edt) (a : Ref) : Int := if e.cols = true then a.col else a.row
def Edt.set (e : Edt) (a : Ref) (i : Int) : Ref := if e.cols = true then ⟨a.row, i, a.absRow, a.absCol⟩ else ⟨i, a.col, a.absRow, a.absCol⟩
def Edt.cell (e : Edt) : Nd → Nd
 | .mk op n s a b ks => if (e.place (e.of a)).2 = true then .mk op n s (e.set a (e.place (e.of a)).1) b ks else goneN
def Edt.area (e : Edt) : Nd → Nd
 | .mk op n s a b ks =>
   if (e.span (min (e.of a) (e.of b)) (max (e.of a) (e.of b))).2.2 = true then
    if e.of b < e.of a then .mk op n s (e.set a (e.span (min (e.of a) (e.of b)) (max (e.of a) (e.of b))).2.1) (e.set b (e.span (min (e.of a) (e.of b)) (max (e.of a) (e.of b))).1) ks
    else .mk op n s (e.set a (e.span (min (e.of a) (e.of b)) (max (e.of a) (e.of b))).1) (e.set b (e.span (min (e.of a) (e.of b)) (max (e.of a) (e.of b))).2.1) ks
   else goneN
def Edt.node (e : Edt) (x : Nd) : Nd := if x.op = 5 then e.cell x else e.area x
def Edt.tree (e : Edt) (n : Nd) : Nd := Nd.map e.node n
theorem of_rng {e : Edt} {a : Ref} (h : a.good = true) : 0 ≤ e.of a ∧ e.of a < 3000 := by
 simp only [Ref.good, decide_eq_true_eq] at h
 unfold Edt.of
 split <;> omega
theorem shcell_ok (e : Edt) (he : e.fit) (op n : Int) (s : List UInt8) (a b : Ref) (ks : List Nd) (ha : a.good = true) :
  Pure Tryz.prog 39 [e.av, (Nd.mk op n s a b ks).av] (e.cell (.mk op n s a b ks)).av := by
 intro σ
 have hg : Pure Tryz.prog 43 [] (.agg [.int .i64 4, .int .i64 40000, .str [], .int .i64 0, .int .i64 0, .bool false, .bool false, .int .i64 0, .int .i64 0, .bool false, .bool false, .sl .shr []]) := by
  have := shgone_ok
  rw [Nd.av_cs] at this
  exact this
 have h0 := of_rng (e := e) ha
 have hp := shplace_ok e he (e.of a) (by omega) (by omega)
 obtain ⟨⟨i, ok⟩, hq⟩ : ∃ q, e.place (e.of a) = q := ⟨_, rfl⟩
 rw [Edt.cell, hq]
 rw [hq] at hp
 dsimp only at hp ⊢
 have hav : ∀ r : Ref, (Nd.mk op n s r b ks).av = .agg [.int .i64 op, .int .i64 n, .str s, .int .i64 r.row, .int .i64 r.col, .bool r.absRow, .bool r.absCol, .int .i64 b.row, .int .i64 b.col, .bool b.absRow, .bool b.absCol, .sl .shr (ks.map Nd.av)] := fun r => Nd.av_cs ..
 rw [hav]
 generalize ks.map Nd.av = L at *
 cases hb : e.cols with
 | true =>
   have ho : e.of a = a.col := by unfold Edt.of; rw [if_pos hb]
   have hs : e.set a i = ⟨a.row, i, a.absRow, a.absCol⟩ := by unfold Edt.set; rw [if_pos hb]
   rw [ho] at hp
   rw [hs]
   unfold Edt.av at hp ⊢
   cases ok with
   | true =>
     rw [if_pos rfl, hav]
     refine a39 (by simp) ?_
     simp (disch := first | assumption | omega) only [go_sem]
     refine boxC_by rfl fun c hc => ?_
     simp (disch := first | assumption | omega) only [go_sem, Nat.reduceEqDiff, ↓reduceIte]
     refine boxC_by rfl fun d hd => ?_
     repeat (with_reducible replace hd := set_none hd; obtain ⟨_, _, hd⟩ := hd)
     simp (disch := first | assumption | omega) only [go_sem]
     refine allocC_by fun t ht => ?_
     repeat (with_reducible replace ht := set_none ht; obtain ⟨_, _, ht⟩ := ht)
     have hdt : d ≠ t := by assumption
     have hsw : ∀ (ρ : ASt) (X Y Z : Option Role), ((ρ.set d X).set t Y).set d Z = (ρ.set d Z).set t Y := fun _ _ _ _ => set_mid hdt
     simp (disch := first | assumption | omega) only [go_sem, Nat.reduceEqDiff, Nat.reduceAdd, Nat.reduceLeDiff, ↓reduceIte, hb]
     refine hp.use ?_
     simp (disch := first | assumption | omega) only [go_sem, Nat.reduceEqDiff, Nat.reduceAdd, Nat.reduceLeDiff, ↓reduceIte, Bool.true_and, hsw, ASt.set_set]
     exact retC_by (by repeat' (first | exact Drop.refl _ | with_reducible refine Drop.off ?_ (by assumption))) (.refl _) ⟨rfl, rfl⟩
   | false =>
     rw [if_neg (by simp), gone_av]
     refine a39 (by simp) ?_
     simp (disch := first | assumption | omega) only [go_sem]
     refine boxC_by rfl fun c hc => ?_
     simp (disch := first | assumption | omega) only [go_sem, Nat.reduceEqDiff, ↓reduceIte]
     refine boxC_by rfl fun d hd => ?_
     repeat (with_reducible replace hd := set_none hd; obtain ⟨_, _, hd⟩ := hd)
     simp (disch := first | assumption | omega) only [go_sem]
     refine allocC_by fun t ht => ?_
     repeat (with_reducible replace ht := set_none ht; obtain ⟨_, _, ht⟩ := ht)
     simp (disch := first | assumption | omega) only [go_sem, Nat.reduceEqDiff, Nat.reduceAdd, Nat.reduceLeDiff, ↓reduceIte, hb]
     refine hp.use ?_
     simp (disch := first | assumption | omega) only [go_sem, Nat.reduceEqDiff, ↓reduceIte]
     refine hg.use ?_
     simp (disch := first | assumption | omega) only [go_sem, Nat.reduceEqDiff, Nat.reduceAdd, Nat.reduceLeDiff, ↓reduceIte, Bool.true_and, ASt.set_set]
     exact retC_by (by repeat' (first | exact Drop.refl _ | with_reducible refine Drop.off ?_ (by assumption))) (.refl _) ⟨rfl, rfl⟩
 | false =>
   have ho : e.of a = a.row := by unfold Edt.of; rw [if_neg (by simp [hb])]
   have hs : e.set a i = ⟨i, a.col, a.absRow, a.absCol⟩ := by unfold Edt.set; rw [if_neg (by simp [hb])]
   rw [ho] at hp
   rw [hs]
   unfold Edt.av at hp ⊢
   cases ok with
   | true =>
     rw [if_pos rfl, hav]
     refine a39 (by simp) ?_
     simp (disch := first | assumption | omega) only [go_sem]
     refine boxC_by rfl fun c hc => ?_
     simp (disch := first | assumption | omega) only [go_sem, Nat.reduceEqDiff, ↓reduceIte]
     refine boxC_by rfl fun d hd => ?_
     repeat (with_reducible replace hd := set_none hd; obtain ⟨_, _, hd⟩ := hd)
     simp (disch := first | assumption | omega) only [go_sem]
     refine allocC_by fun t ht => ?_
     repeat (with_reducible replace ht := set_none ht; obtain ⟨_, _, ht⟩ := ht)
     have hdt : d ≠ t := by assumption
     have hsw : ∀ (ρ : ASt) (X Y Z : Option Role), ((ρ.set d X).set t Y).set d Z = (ρ.set d Z).set t Y := fun _ _ _ _ => set_mid hdt
     simp (disch := first | assumption | omega) only [go_sem, Nat.reduceEqDiff, Nat.reduceLeDiff, ↓reduceIte, hb]
     refine hp.use ?_
     simp (disch := first | assumption | omega) only [go_sem, Nat.reduceEqDiff, Nat.reduceAdd, Nat.reduceLeDiff, ↓reduceIte, Bool.true_and, hsw, ASt.set_set]
     exact retC_by (by repeat' (first | exact Drop.refl _ | with_reducible refine Drop.off ?_ (by assumption))) (.refl _) ⟨rfl, rfl⟩
   | false =>
     rw [if_neg (by simp), gone_av]
     refine a39 (by simp) ?_
     simp (disch := first | assumption | omega) only [go_sem]
     refine boxC_by rfl fun c hc => ?_
     simp (disch := first | assumption | omega) only [go_sem, Nat.reduceEqDiff, ↓reduceIte]
     refine boxC_by rfl fun d hd => ?_
     repeat (with_reducible replace hd := set_none hd; obtain ⟨_, _, hd⟩ := hd)
     simp (disch := first | assumption | omega) only [go_sem]
     refine allocC_by fun t ht => ?_
     repeat (with_reducible replace ht := set_none ht; obtain ⟨_, _, ht⟩ := ht)
     simp (disch := first | assumption | omega) only [go_sem, Nat.reduceEqDiff, Nat.reduceLeDiff, ↓reduceIte, hb]
     refine hp.use ?_
     simp (disch := first | assumption | omega) only [go_sem, Nat.reduceEqDiff, ↓reduceIte]
     refine hg.use ?_
     simp (disch := first | assumption | omega) only [go_sem, Nat.reduceEqDiff, Nat.reduceAdd, Nat.reduceLeDiff, ↓reduceIte, Bool.true_and, ASt.set_set]
     exact retC_by (by repeat' (first | exact Drop.refl _ | with_reducible refine Drop.off ?_ (by assumption))) (.refl _) ⟨rfl, rfl⟩
theorem sharea_ok (e : Edt) (he : e.fit) (op n : Int) (s : List UInt8) (a b : Ref) (ks : List Nd) (ha : a.good = true) (hb' : b.good = true) :
  Pure Tryz.prog 40 [e.av, (Nd.mk op n s a b ks).av] (e.area (.mk op n s a b ks)).av := by
 intro σ
 have hg : Pure Tryz.prog 43 [] (.agg [.int .i64 4, .int .i64 40000, .str [], .int .i64 0, .int .i64 0, .bool false, .bool false, .int .i64 0, .int .i64 0, .bool false, .bool false, .sl .shr []]) := by
  have := shgone_ok
  rw [Nd.av_cs] at this
  exact this
 have h0 := of_rng (e := e) ha
 have h1 := of_rng (e := e) hb'
 have hp := shspan_ok e he (min (e.of a) (e.of b)) (max (e.of a) (e.of b)) (by omega) (by omega) (by omega)
 obtain ⟨⟨i, j, ok⟩, hq⟩ : ∃ q, e.span (min (e.of a) (e.of b)) (max (e.of a) (e.of b)) = q := ⟨_, rfl⟩
 rw [Edt.area, hq]
 rw [hq] at hp
 dsimp only at hp ⊢
 have hav : ∀ r u : Ref, (Nd.mk op n s r u ks).av = .agg [.int .i64 op, .int .i64 n, .str s, .int .i64 r.row, .int .i64 r.col, .bool r.absRow, .bool r.absCol, .int .i64 u.row, .int .i64 u.col, .bool u.absRow, .bool u.absCol, .sl .shr (ks.map Nd.av)] := fun r u => Nd.av_cs ..
 cases hb : e.cols with
 | true =>
   have ho : ∀ r : Ref, e.of r = r.col := fun r => by unfold Edt.of; rw [if_pos hb]
   have hs : ∀ (r : Ref) (k : Int), e.set r k = ⟨r.row, k, r.absRow, r.absCol⟩ := fun r k => by unfold Edt.set; rw [if_pos hb]
   rw [ho, ho] at hp ⊢
   unfold Edt.av at hp ⊢
   cases ok with
   | true =>
     rw [if_pos rfl]
     by_cases hlt : b.col < a.col
     ·rw [if_pos hlt, hs, hs, hav, hav]
      generalize ks.map Nd.av = L at *
      refine a40 (by simp) ?_
      simp (disch := first | assumption | omega) only [go_sem]
      refine boxC_by rfl fun c hc => ?_
      simp (disch := first | assumption | omega) only [go_sem, Nat.reduceEqDiff, ↓reduceIte]
      refine boxC_by rfl fun d hd => ?_
      repeat (with_reducible replace hd := set_none hd; obtain ⟨_, _, hd⟩ := hd)
      simp (disch := first | assumption | omega) only [go_sem]
      refine allocC_by fun t ht => ?_
      repeat (with_reducible replace ht := set_none ht; obtain ⟨_, _, ht⟩ := ht)
      have hdt : d ≠ t := by assumption
      have hsw : ∀ (ρ : ASt) (X Y Z : Option Role), ((ρ.set d X).set t Y).set d Z = (ρ.set d Z).set t Y := fun _ _ _ _ => set_mid hdt
      simp (disch := first | assumption | omega) only [go_sem, Nat.reduceEqDiff, Nat.reduceAdd, Nat.reduceLeDiff, ↓reduceIte, hb, hlt]
      refine hp.use ?_
      simp (disch := first | assumption | omega) only [go_sem, Nat.reduceEqDiff, Nat.reduceAdd, Nat.reduceLeDiff, ↓reduceIte, Bool.true_and, hsw, ASt.set_set]
      exact retC_by (by repeat' (first | exact Drop.refl _ | with_reducible refine Drop.off ?_ (by assumption))) (.refl _) ⟨rfl, rfl⟩
     ·rw [if_neg hlt, hs, hs, hav, hav]
      generalize ks.map Nd.av = L at *
      refine a40 (by simp) ?_
      simp (disch := first | assumption | omega) only [go_sem]
      refine boxC_by rfl fun c hc => ?_
      simp (disch := first | assumption | omega) only [go_sem, Nat.reduceEqDiff, ↓reduceIte]
      refine boxC_by rfl fun d hd => ?_
      repeat (with_reducible replace hd := set_none hd; obtain ⟨_, _, hd⟩ := hd)
      simp (disch := first | assumption | omega) only [go_sem]
      refine allocC_by fun t ht => ?_
      repeat (with_reducible replace ht := set_none ht; obtain ⟨_, _, ht⟩ := ht)
      have hdt : d ≠ t := by assumption
      have hsw : ∀ (ρ : ASt) (X Y Z : Option Role), ((ρ.set d X).set t Y).set d Z = (ρ.set d Z).set t Y := fun _ _ _ _ => set_mid hdt
      simp (disch := first | assumption | omega) only [go_sem, Nat.reduceEqDiff, Nat.reduceAdd, Nat.reduceLeDiff, ↓reduceIte, hb, hlt]
      refine hp.use ?_
      simp (disch := first | assumption | omega) only [go_sem, Nat.reduceEqDiff, Nat.reduceAdd, Nat.reduceLeDiff, ↓reduceIte, Bool.true_and, hsw, ASt.set_set]
      exact retC_by (by repeat' (first | exact Drop.refl _ | with_reducible refine Drop.off ?_ (by assumption))) (.refl _) ⟨rfl, rfl⟩
   | false =>
     rw [if_neg (by simp), hav, gone_av]
     generalize ks.map Nd.av = L at *
     refine a40 (by simp) ?_
     simp (disch := first | assumption | omega) only [go_sem]
     refine boxC_by rfl fun c hc => ?_
     simp (disch := first | assumption | omega) only [go_sem, Nat.reduceEqDiff, ↓reduceIte]
     refine boxC_by rfl fun d hd => ?_
     repeat (with_reducible replace hd := set_none hd; obtain ⟨_, _, hd⟩ := hd)
     simp (disch := first | assumption | omega) only [go_sem]
     refine allocC_by fun t ht => ?_
     repeat (with_reducible replace ht := set_none ht; obtain ⟨_, _, ht⟩ := ht)
     simp (disch := first | assumption | omega) only [go_sem, Nat.reduceEqDiff, Nat.reduceAdd, Nat.reduceLeDiff, ↓reduceIte, hb]
     refine hp.use ?_
     simp (disch := first | assumption | omega) only [go_sem, Nat.reduceEqDiff, ↓reduceIte]
     refine hg.use ?_
     simp (disch := first | assumption | omega) only [go_sem, Nat.reduceEqDiff, Nat.reduceAdd, Nat.reduceLeDiff, ↓reduceIte, Bool.true_and, ASt.set_set]
     exact retC_by (by repeat' (first | exact Drop.refl _ | with_reducible refine Drop.off ?_ (by assumption))) (.refl _) ⟨rfl, rfl⟩
 | false =>
   have ho : ∀ r : Ref, e.of r = r.row := fun r => by unfold Edt.of; rw [if_neg (by simp [hb])]
   have hs : ∀ (r : Ref) (k : Int), e.set r k = ⟨k, r.col, r.absRow, r.absCol⟩ := fun r k => by unfold Edt.set; rw [if_neg (by simp [hb])]
   rw [ho, ho] at hp ⊢
   unfold Edt.av at hp ⊢
   cases ok with
   | true =>
     rw [if_pos rfl]
     by_cases hlt : b.row < a.row
     ·rw [if_pos hlt, hs, hs, hav, hav]
      generalize ks.map Nd.av = L at *
      refine a40 (by simp) ?_
      simp (disch := first | assumption | omega) only [go_sem]
      refine boxC_by rfl fun c hc => ?_
      simp (disch := first | assumption | omega) only [go_sem, Nat.reduceEqDiff, ↓reduceIte]
      refine boxC_by rfl fun d hd => ?_
      repeat (with_reducible replace hd := set_none hd; obtain ⟨_, _, hd⟩ := hd)
      simp (disch := first | assumption | omega) only [go_sem]
      refine allocC_by fun t ht => ?_
      repeat (with_reducible replace ht := set_none ht; obtain ⟨_, _, ht⟩ := ht)
      have hdt : d ≠ t := by assumption
      have hsw : ∀ (ρ : ASt) (X Y Z : Option Role), ((ρ.set d X).set t Y).set d Z = (ρ.set d Z).set t Y := fun _ _ _ _ => set_mid hdt
      simp (disch := first | assumption | omega) only [go_sem, Nat.reduceEqDiff, Nat.reduceLeDiff, ↓reduceIte, hb, hlt]
      refine hp.use ?_
      simp (disch := first | assumption | omega) only [go_sem, Nat.reduceEqDiff, Nat.reduceAdd, Nat.reduceLeDiff, ↓reduceIte, Bool.true_and, hsw, ASt.set_set]
      exact retC_by (by repeat' (first | exact Drop.refl _ | with_reducible refine Drop.off ?_ (by assumption))) (.refl _) ⟨rfl, rfl⟩
     ·rw [if_neg hlt, hs, hs, hav, hav]
      generalize ks.map Nd.av = L at *
      refine a40 (by simp) ?_
      simp (disch := first | assumption | omega) only [go_sem]
      refine boxC_by rfl fun c hc => ?_
      simp (disch := first | assumption | omega) only [go_sem, Nat.reduceEqDiff, ↓reduceIte]
      refine boxC_by rfl fun d hd => ?_
      repeat (with_reducible replace hd := set_none hd; obtain ⟨_, _, hd⟩ := hd)
      simp (disch := first | assumption | omega) only [go_sem]
      refine allocC_by fun t ht => ?_
      repeat (with_reducible replace ht := set_none ht; obtain ⟨_, _, ht⟩ := ht)
      have hdt : d ≠ t := by assumption
      have hsw : ∀ (ρ : ASt) (X Y Z : Option Role), ((ρ.set d X).set t Y).set d Z = (ρ.set d Z).set t Y := fun _ _ _ _ => set_mid hdt
      simp (disch := first | assumption | omega) only [go_sem, Nat.reduceEqDiff, Nat.reduceLeDiff, ↓reduceIte, hb, hlt]
      refine hp.use ?_
      simp (disch := first | assumption | omega) only [go_sem, Nat.reduceEqDiff, Nat.reduceAdd, Nat.reduceLeDiff, ↓reduceIte, Bool.true_and, hsw, ASt.set_set]
      exact retC_by (by repeat' (first | exact Drop.refl _ | with_reducible refine Drop.off ?_ (by assumption))) (.refl _) ⟨rfl, rfl⟩
   | false =>
     rw [if_neg (by simp), hav, gone_av]
     generalize ks.map Nd.av = L at *
     refine a40 (by simp) ?_
     simp (disch := first | assumption | omega) only [go_sem]
     refine boxC_by rfl fun c hc => ?_
     simp (disch := first | assumption | omega) only [go_sem, Nat.reduceEqDiff, ↓reduceIte]
     refine boxC_by rfl fun d hd => ?_
     repeat (with_reducible replace hd := set_none hd; obtain ⟨_, _, hd⟩ := hd)
     simp (disch := first | assumption | omega) only [go_sem]
     refine allocC_by fun t ht => ?_
     repeat (with_reducible replace ht := set_none ht; obtain ⟨_, _, ht⟩ := ht)
     simp (disch := first | assumption | omega) only [go_sem, Nat.reduceEqDiff, Nat.reduceLeDiff, ↓reduceIte, hb]
     refine hp.use ?_
     simp (disch := first | assumption | omega) only [go_sem, Nat.reduceEqDiff, ↓reduceIte]
     refine hg.use ?_
     simp (disch := first | assumption | omega) only [go_sem, Nat.reduceEqDiff, Nat.reduceAdd, Nat.reduceLeDiff, ↓reduceIte, Bool.true_and, ASt.set_set]
     exact retC_by (by repeat' (first | exact Drop.refl _ | with_reducible refine Drop.off ?_ (by assumption))) (.refl _) ⟨rfl, rfl⟩
theorem ok_kids : ∀ (op m : Int) (s : List UInt8) (a b : Ref) (ks : List Nd), (Nd.mk op m s a b ks).ok → ∀ x ∈ ks, x.ok := fun op m s a b ks h => by
 rw [Nd.ok] at h
 exact Nd.oks_mem.1 h.2
theorem ok_refs {op m : Int} {s : List UInt8} {a b : Ref} {ks : List Nd} (h : (Nd.mk op m s a b ks).ok) : (op = 5 ∨ op = 6 → a.good = true) ∧ (op = 6 → b.good = true) := by
 rw [Nd.ok] at h
 exact ⟨h.1.2.2.2.2.2.1, h.1.2.2.2.2.2.2.1⟩
def EdtAt (e : Edt) (c : Nat) (σ : ASt) : Prop := σ c = some (.obj e.cs)
theorem shTree1_ok (e : Edt) (he : e.fit) (c : Nat) (x : Nd) (hx : x.ok) (ho : x.op = 5 ∨ x.op = 6) (σ : ASt) (hσ : EdtAt e c σ) :
  ACalls Tryz.prog 38 [x.av, .ptr c 0] σ fun v σ' => v = (e.node x).av ∧ σ' = σ := by
 obtain ⟨op, n, s, a, b, ks⟩ := x
 have hr := ok_refs hx
 unfold EdtAt at hσ
 change op = 5 ∨ op = 6 at ho
 have hc1 : op = 5 → Pure Tryz.prog 39 [e.av, (Nd.mk op n s a b ks).av] (e.cell (.mk op n s a b ks)).av := fun h => shcell_ok e he op n s a b ks (hr.1 ho)
 have hc2 : op ≠ 5 → Pure Tryz.prog 40 [e.av, (Nd.mk op n s a b ks).av] (e.area (.mk op n s a b ks)).av := fun h => sharea_ok e he op n s a b ks (hr.1 ho) (hr.2 (by omega))
 have hnode : e.node (.mk op n s a b ks) = if op = 5 then e.cell (.mk op n s a b ks) else e.area (.mk op n s a b ks) := rfl
 rw [hnode]
 have hav : (Nd.mk op n s a b ks).av = .agg [.int .i64 op, .int .i64 n, .str s, .int .i64 a.row, .int .i64 a.col, .bool a.absRow, .bool a.absCol, .int .i64 b.row, .int .i64 b.col, .bool b.absRow, .bool b.absCol, .sl .shr (ks.map Nd.av)] := Nd.av_cs ..
 rw [hav] at hc1 hc2 ⊢
 unfold Edt.av at hc1 hc2
 generalize ks.map Nd.av = L at *
 by_cases h5 : op = 5
 ·have h := hc1 h5
  rw [if_pos h5]
  subst h5
  obtain ⟨⟨wo, wm, ws, wa, wb, wk⟩, hw⟩ : ∃ w, e.cell (.mk 5 n s a b ks) = w := ⟨_, rfl⟩
  rw [hw, Nd.av_cs] at h
  rw [hw, Nd.av_cs]
  unfold Nd.cs at h ⊢
  generalize wk.map Nd.av = WL at *
  refine a38 (by simp) ?_
  simp (disch := first | assumption | omega) only [go_sem]
  refine boxC_by rfl fun d hd => ?_
  have hcd : c ≠ d := by rintro rfl; rw [hd] at hσ; cases hσ
  simp (disch := first | assumption | omega) only [go_sem]
  refine allocC_by fun t ht => ?_
  have hct : c ≠ t := by rintro rfl; rw [ASt.set_ne hcd, hσ] at ht; cases ht
  repeat (with_reducible replace ht := set_none ht; obtain ⟨_, _, ht⟩ := ht)
  simp (disch := first | assumption | omega) only [go_sem, Nat.reduceEqDiff, Nat.reduceAdd, Nat.reduceLeDiff, ↓reduceIte, hσ]
  refine h.use ?_
  simp (disch := first | assumption | omega) only [go_sem, Nat.reduceEqDiff, Nat.reduceAdd, Nat.reduceLeDiff, ↓reduceIte, Bool.true_and, ASt.set_set]
  exact retC_by (by repeat' (first | exact Drop.refl _ | with_reducible refine Drop.off ?_ (by assumption))) (.refl _) ⟨rfl, rfl⟩
 ·have h := hc2 h5
  rw [if_neg h5]
  obtain ⟨⟨wo, wm, ws, wa, wb, wk⟩, hw⟩ : ∃ w, e.area (.mk op n s a b ks) = w := ⟨_, rfl⟩
  rw [hw, Nd.av_cs] at h
  rw [hw, Nd.av_cs]
  unfold Nd.cs at h ⊢
  generalize wk.map Nd.av = WL at *
  refine a38 (by simp) ?_
  simp (disch := first | assumption | omega) only [go_sem]
  refine boxC_by rfl fun d hd => ?_
  have hcd : c ≠ d := by rintro rfl; rw [hd] at hσ; cases hσ
  simp (disch := first | assumption | omega) only [go_sem]
  refine allocC_by fun t ht => ?_
  have hct : c ≠ t := by rintro rfl; rw [ASt.set_ne hcd, hσ] at ht; cases ht
  repeat (with_reducible replace ht := set_none ht; obtain ⟨_, _, ht⟩ := ht)
  simp (disch := first | assumption | omega) only [go_sem, Nat.reduceEqDiff, Nat.reduceAdd, Nat.reduceLeDiff, ↓reduceIte, h5, hσ]
  refine h.use ?_
  simp (disch := first | assumption | omega) only [go_sem, Nat.reduceEqDiff, Nat.reduceAdd, Nat.reduceLeDiff, ↓reduceIte, Bool.true_and, ASt.set_set]
  exact retC_by (by repeat' (first | exact Drop.refl _ | with_reducible refine Drop.off ?_ (by assumption))) (.refl _) ⟨rfl, rfl⟩
theorem tree_map (e : Edt) (he : e.fit) (c : Nat) : MapG Nd.ok (.func (.func 38) [] [.ptr c 0]) e.node (EdtAt e c) := by
 refine ⟨38, [.ptr c 0], rfl, by kernel_rfl, fun σ b r hσ hb => ?_, fun x σ hσ hx ho => shTree1_ok e he c x hx ho σ hσ⟩
 unfold EdtAt at *
 rw [ASt.set_ne]
 ·exact hσ
 ·rintro rfl; rw [hb] at hσ; cases hσ
theorem shtree_ok (e : Edt) (he : e.fit) (n : Nd) (hn : n.ok) (hs : n.size ≤ 1000000000) : Pure Tryz.prog 11 [e.av, n.av] (e.tree n).av := by
 intro σ
 have hM := fun c => mapg_le _ e.node (EdtAt e c) Nd.ok ok_kids (tree_map e he c) n.size n (Nat.le_refl _) hs hn
 unfold Edt.tree
 obtain ⟨⟨wo, wm, ws, wa, wb, wk⟩, hw⟩ : ∃ w, Nd.map e.node n = w := ⟨_, rfl⟩
 rw [hw, Nd.av_cs]
 simp only [hw, Nd.av_cs] at hM
 obtain ⟨op, m, s, a, b, ks⟩ := n
 have hav : (Nd.mk op m s a b ks).av = .agg [.int .i64 op, .int .i64 m, .str s, .int .i64 a.row, .int .i64 a.col, .bool a.absRow, .bool a.absCol, .int .i64 b.row, .int .i64 b.col, .bool b.absRow, .bool b.absCol, .sl .shr (ks.map Nd.av)] := Nd.av_cs ..
 simp only [hav] at hM
 rw [hav]
 unfold Nd.cs at hM ⊢
 unfold Edt.av
 generalize ks.map Nd.av = L at *
 generalize wk.map Nd.av = WL at *
 refine a11 (by simp) ?_
 simp (disch := first | assumption | omega) only [go_sem]
 refine boxC_by rfl fun c hc => ?_
 simp (disch := first | assumption | omega) only [go_sem, Nat.reduceEqDiff, ↓reduceIte]
 refine boxC_by rfl fun d hd => ?_
 have hcd : c ≠ d := by rintro rfl; rw [ASt.set_same] at hd; cases hd
 have hdc := hcd.symm
 have hd0 := hd
 rw [ASt.set_ne hdc] at hd0
 simp (disch := first | assumption | omega) only [go_sem]
 refine allocC_by fun t ht => ?_
 have hct : c ≠ t := by rintro rfl; rw [ASt.set_ne hcd, ASt.set_same] at ht; cases ht
 repeat (with_reducible replace ht := set_none ht; obtain ⟨_, _, ht⟩ := ht)
 simp (disch := first | assumption | omega) only [go_sem, Nat.reduceEqDiff, Nat.reduceAdd, Nat.reduceLeDiff, ↓reduceIte]
 refine (hM c _ ?_).mono ?_
 ·unfold EdtAt
  rw [ASt.set_ne hct, ASt.set_ne hcd, ASt.set_same]
 rintro v σ' ⟨rfl, rfl⟩
 simp (disch := first | assumption | omega) only [go_sem, Nat.reduceEqDiff, Nat.reduceAdd, Nat.reduceLeDiff, ↓reduceIte, Bool.true_and, ASt.set_set]
 exact retC_by (by repeat' (first | exact Drop.refl _ | with_reducible refine Drop.off ?_ (by assumption))) (.refl _) ⟨rfl, rfl⟩
end Go.A
namespace Go.A
open Go.Proofs Go.Lib
def Edt.all (e : Edt) : Int := if e.kind = 1 then e.most - e.n else e.most
def Edt.lie (e : Edt) (i : Int) : Int := if (e.place i).2 = true then (e.place i).1 else -1
theorem Edt.all_good {e : Edt} (h : e.good e.all = true) : 0 ≤ e.at' ∧ 1 ≤ e.n ∧ ((e.kind = 1 ∧ e.at' + e.n ≤ e.most) ∨ (e.kind = 2 ∧ e.n < e.most ∧ e.at' + e.n ≤ e.most) ∨ (e.kind = 3 ∧ e.n ≤ e.most ∧ e.at' + e.n ≤ e.most ∧ 0 ≤ e.dst ∧ e.dst + e.n ≤ e.most)) := by
 unfold Edt.good Edt.all at h
 generalize e.most = M at *
 by_cases k1 : e.kind = 1
 ·rw [if_pos k1] at h
  split at h
  ·cases h
  rw [decide_eq_true_eq] at h
  omega
 simp only [if_neg k1] at h
 split at h
 ·cases h
 by_cases k2 : e.kind = 2
 ·rw [if_pos k2, decide_eq_true_eq] at h
  omega
 rw [if_neg k2] at h
 by_cases k3 : e.kind = 3
 ·rw [if_pos k3, decide_eq_true_eq] at h
  omega
 rw [if_neg k3] at h
 cases h
theorem Edt.place_ins {e : Edt} (k : e.kind = 1) (i : Int) : e.place i = (ahead e.at' e.n i, decide (ahead e.at' e.n i < e.most)) := by
 unfold Edt.place
 rw [if_pos k]
theorem Edt.place_del {e : Edt} (k : e.kind = 2) (i : Int) : e.place i = if e.at' ≤ i ∧ i < e.at' + e.n then (0, false) else (ahead e.at' (-e.n) i, true) := by
 have k1 : ¬ e.kind = 1 := by rw [k]; decide
 unfold Edt.place
 simp only [if_neg k1, if_pos k]
theorem Edt.place_mov {e : Edt} (k : e.kind = 3) (i : Int) : e.place i = if e.at' ≤ i ∧ i < e.at' + e.n then (i - e.at' + e.dst, true) else (ahead e.dst e.n (ahead e.at' (-e.n) i), true) := by
 have k1 : ¬ e.kind = 1 := by rw [k]; decide
 have k2 : ¬ e.kind = 2 := by rw [k]; decide
 unfold Edt.place
 simp only [if_neg k1, if_neg k2]
theorem Edt.lie_ins {e : Edt} (k : e.kind = 1) (i : Int) : e.lie i = if ahead e.at' e.n i < e.most then ahead e.at' e.n i else -1 := by
 unfold Edt.lie
 rw [Edt.place_ins k]
 simp only [decide_eq_true_eq]
theorem Edt.lie_del {e : Edt} (k : e.kind = 2) (i : Int) : e.lie i = if e.at' ≤ i ∧ i < e.at' + e.n then -1 else ahead e.at' (-e.n) i := by
 unfold Edt.lie
 rw [Edt.place_del k]
 by_cases q : e.at' ≤ i ∧ i < e.at' + e.n
 ·simp only [if_pos q]; rfl
 ·simp only [if_neg q]; rfl
theorem Edt.lie_mov {e : Edt} (k : e.kind = 3) (i : Int) : e.lie i = if e.at' ≤ i ∧ i < e.at' + e.n then i - e.at' + e.dst else ahead e.dst e.n (ahead e.at' (-e.n) i) := by
 unfold Edt.lie
 rw [Edt.place_mov k]
 by_cases q : e.at' ≤ i ∧ i < e.at' + e.n
 ·simp only [if_pos q]; rfl
 ·simp only [if_neg q]; rfl
theorem Edt.lie_rng {e : Edt} (h : e.good e.all = true) {i : Int} (h0 : 0 ≤ i) (h1 : i < e.most) : -1 ≤ e.lie i ∧ e.lie i < e.most := by
 obtain ⟨a, b, ⟨k, c⟩ | ⟨k, c⟩ | ⟨k, c⟩⟩ := Edt.all_good h
 ·rw [Edt.lie_ins k]
  unfold ahead
  by_cases q : e.at' ≤ i
  ·simp only [if_pos q]
   split <;> omega
  ·simp only [if_neg q]
   split <;> omega
 ·rw [Edt.lie_del k]
  unfold ahead
  split
  ·omega
  ·split <;> omega
 ·rw [Edt.lie_mov k]
  unfold ahead
  split
  ·omega
  ·split <;> split <;> omega
theorem Edt.span_ins {e : Edt} (h : e.good e.all = true) (k : e.kind = 1) {f t : Int} (h0 : 0 ≤ f) (h1 : f ≤ t) : e.span f t = if e.lie f < 0 then (0, 0, false) else if e.lie t < 0 then (e.lie f, e.most - 1, true) else (e.lie f, e.lie t, true) := by
 obtain ⟨a, b, ⟨_, c⟩ | ⟨k', _⟩ | ⟨k', _⟩⟩ := Edt.all_good h
 ·rw [Edt.lie_ins k, Edt.lie_ins k]
  unfold Edt.span
  rw [if_pos k, Edt.place_ins k, Edt.place_ins k]
  simp only [decide_eq_true_eq]
  have p1 : 0 ≤ ahead e.at' e.n f := by unfold ahead; split <;> omega
  have p2 : 0 ≤ ahead e.at' e.n t := by unfold ahead; split <;> omega
  have n1 : ¬ ahead e.at' e.n f < 0 := by omega
  have n2 : ¬ ahead e.at' e.n t < 0 := by omega
  have m1 : (-1 : Int) < 0 := by decide
  by_cases q1 : ahead e.at' e.n f < e.most
  ·by_cases q2 : ahead e.at' e.n t < e.most
   ·simp only [if_pos q1, if_pos q2, if_neg n1, if_neg n2]
   ·simp only [if_pos q1, if_neg q2, if_neg n1, if_pos m1]
  ·simp only [if_neg q1, if_pos m1]
 ·omega
 ·omega
theorem Edt.span_none {e : Edt} (h : e.good e.all = true) (k : e.kind ≠ 1) {f t : Int} (h0 : 0 ≤ f) (h1 : f ≤ t) (hg : ∀ j, f ≤ j → j ≤ t → e.lie j < 0) : e.span f t = (0, 0, false) := by
 have g1 := hg f (by omega) h1
 have g2 := hg t h1 (by omega)
 obtain ⟨a, b, ⟨k', c⟩ | ⟨k', c⟩ | ⟨k', c⟩⟩ := Edt.all_good h
 ·exact absurd k' k
 ·rw [Edt.lie_del k'] at g1 g2
  unfold ahead at g1 g2
  unfold Edt.span
  rw [if_neg k, if_pos k', if_pos]
  split at g1 <;> split at g2 <;> first | omega | (split at g1 <;> omega) | (split at g2 <;> omega)
 ·rw [Edt.lie_mov k'] at g1
  unfold ahead at g1
  split at g1
  ·omega
  ·split at g1 <;> split at g1 <;> omega
theorem Edt.span_some {e : Edt} (h : e.good e.all = true) (k : e.kind ≠ 1) {f t i l : Int} (h0 : 0 ≤ f) (h1 : f ≤ i) (h2 : i ≤ l) (h3 : l ≤ t) (hf : ∀ j, f ≤ j → j < i → e.lie j < 0) (ht : ∀ j, l < j → j ≤ t → e.lie j < 0) (gi : 0 ≤ e.lie i) (gl : 0 ≤ e.lie l) :
  e.span f t = (min (e.lie i) (e.lie l), max (e.lie i) (e.lie l), true) := by
 obtain ⟨a, b, ⟨k', c⟩ | ⟨k', c⟩ | ⟨k', c⟩⟩ := Edt.all_good h
 ·exact absurd k' k
 ·have hgone : ∀ j, 0 ≤ j → (e.lie j < 0 ↔ (e.at' ≤ j ∧ j < e.at' + e.n)) := by
   intro j hj
   rw [Edt.lie_del k']
   unfold ahead
   split
   ·omega
   ·split <;> omega
  have ei : ∀ j, ¬ (e.at' ≤ j ∧ j < e.at' + e.n) → (e.place j).1 = e.lie j := by
   intro j hj
   rw [Edt.lie_del k', if_neg hj, Edt.place_del k', if_neg hj]
  have ni : ¬ (e.at' ≤ i ∧ i < e.at' + e.n) := fun q => by have := (hgone i (by omega)).2 q; omega
  have nl : ¬ (e.at' ≤ l ∧ l < e.at' + e.n) := fun q => by have := (hgone l (by omega)).2 q; omega
  have hi : (if e.at' ≤ f ∧ f < e.at' + e.n then e.at' + e.n else f) = i := by
   by_cases q : e.at' ≤ f ∧ f < e.at' + e.n
   ·rw [if_pos q]
    by_cases q2 : e.at' + e.n < i
    ·have := (hgone _ (by omega)).1 (hf (e.at' + e.n) (by omega) q2); omega
    ·omega
   ·rw [if_neg q]
    by_cases q2 : f < i
    ·have := (hgone _ h0).1 (hf f (by omega) q2); omega
    ·omega
  have hl : (if e.at' ≤ t ∧ t < e.at' + e.n then e.at' - 1 else t) = l := by
   by_cases q : e.at' ≤ t ∧ t < e.at' + e.n
   ·rw [if_pos q]
    by_cases q2 : l < e.at' - 1
    ·have := (hgone _ (by omega)).1 (ht (e.at' - 1) q2 (by omega)); omega
    ·omega
   ·rw [if_neg q]
    by_cases q2 : l < t
    ·have := (hgone _ (by omega)).1 (ht t q2 (by omega)); omega
    ·omega
  unfold Edt.span
  rw [if_neg k, if_pos k', if_neg (by omega)]
  dsimp only
  rw [hi, hl, ei i ni, ei l nl]
 ·have hn : ∀ j, 0 ≤ j → 0 ≤ e.lie j := by
   intro j hj
   rw [Edt.lie_mov k']
   unfold ahead
   split
   ·omega
   ·split <;> split <;> omega
  have ei : ∀ j, (e.place j).1 = e.lie j := by
   intro j
   rw [Edt.lie_mov k', Edt.place_mov k']
   split <;> rfl
  have hi : f = i := by
   by_cases q : f < i
   ·have := hf f (by omega) q; have := hn f h0; omega
   ·omega
  have hl : t = l := by
   by_cases q : l < t
   ·have := ht t q (by omega); have := hn t (by omega); omega
   ·omega
  subst hi hl
  unfold Edt.span
  rw [if_neg k, if_neg (by omega), ei, ei]
def Edt.now (e : Edt) (i : Int) : Int :=
 if e.kind = 1 then (if i < e.at' then i else if i < e.at' + e.n then -1 else i - e.n)
 else if e.kind = 2 then (if i < e.at' then i else i + e.n)
 else if i < e.dst then (if i < e.at' then i else i + e.n)
 else if i < e.dst + e.n then e.at' + (i - e.dst)
 else (if i - e.n < e.at' then i - e.n else i)
def Edt.nows (e : Edt) : Int := if e.kind = 1 then e.most + e.n else if e.kind = 2 then e.most - e.n else e.most
theorem Edt.now_lie {e : Edt} (h : e.good e.all = true) {i w : Int} (h0 : 0 ≤ i) (h1 : i < e.nows) (w0 : 0 ≤ w) (w1 : w < e.most) : (e.now i = w ∧ i < e.most) ↔ e.lie w = i := by
 obtain ⟨a, b, ⟨k, c⟩ | ⟨k, c⟩ | ⟨k, c⟩⟩ := Edt.all_good h
 ·rw [Edt.lie_ins k]
  unfold Edt.now Edt.nows ahead at *
  simp only [if_pos k] at *
  by_cases q : e.at' ≤ w
  ·simp only [if_pos q]
   split <;> split <;> first | omega | (split <;> omega)
  ·simp only [if_neg q]
   split <;> first | omega | (split <;> first | omega | (split <;> omega))
 ·have k1 : ¬ e.kind = 1 := by omega
  rw [Edt.lie_del k]
  unfold Edt.now Edt.nows ahead at *
  simp only [if_neg k1, if_pos k] at *
  by_cases q : e.at' ≤ w
  ·simp only [if_pos q]
   split <;> split <;> omega
  ·simp only [if_neg q]
   split <;> split <;> omega
 ·have k1 : ¬ e.kind = 1 := by omega
  have k2 : ¬ e.kind = 2 := by omega
  rw [Edt.lie_mov k]
  unfold Edt.now Edt.nows ahead at *
  simp only [if_neg k1, if_neg k2] at *
  by_cases q : e.at' ≤ w
  ·simp only [if_pos q]
   split <;> split <;> first | omega | (split <;> first | omega | (split <;> omega))
  ·simp only [if_neg q]
   split <;> split <;> first | omega | (split <;> first | omega | (split <;> omega))
theorem Edt.now_rng {e : Edt} (h : e.good e.all = true) {i : Int} (h0 : 0 ≤ i) (h1 : i < e.nows) : -1 ≤ e.now i ∧ e.now i < e.most := by
 obtain ⟨a, b, ⟨k, c⟩ | ⟨k, c⟩ | ⟨k, c⟩⟩ := Edt.all_good h
 ·unfold Edt.now Edt.nows at *
  simp only [if_pos k] at *
  split <;> first | omega | (split <;> omega)
 ·have k1 : ¬ e.kind = 1 := by omega
  unfold Edt.now Edt.nows at *
  simp only [if_neg k1, if_pos k] at *
  split <;> omega
 ·have k1 : ¬ e.kind = 1 := by omega
  have k2 : ¬ e.kind = 2 := by omega
  unfold Edt.now Edt.nows at *
  simp only [if_neg k1, if_neg k2] at *
  split <;> split <;> first | omega | (split <;> omega)
def wasL (m : Nat) : List AV := (List.range m).map fun (i : Nat) => AV.int .i64 (i : Int)
theorem wasL_succ (m : Nat) : wasL (m + 1) = wasL m ++ [.int .i64 (m : Int)] := by unfold wasL; rw [List.range_succ, List.map_append]; rfl
theorem wasL_len (m : Nat) : (wasL m).length = m := by unfold wasL; rw [List.length_map, List.length_range]
theorem wasL_get (m i : Nat) : (wasL m)[i]? = if i < m then some (.int .i64 (i : Int)) else none := by
 unfold wasL
 rw [List.getElem?_map]
 by_cases q : i < m
 ·rw [if_pos q, List.getElem?_range q]; rfl
 ·rw [if_neg q, List.getElem?_eq_none (by rw [List.length_range]; omega)]; rfl
def Edt.nowL (e : Edt) : List AV := (List.range e.nows.toNat).map fun (i : Nat) => AV.int .i64 (e.now i)
theorem Edt.nowL_get (e : Edt) (i : Nat) : e.nowL[i]? = if (i : Int) < e.nows then some (.int .i64 (e.now i)) else none := by
 unfold Edt.nowL
 rw [List.getElem?_map]
 by_cases q : (i : Int) < e.nows
 ·rw [if_pos q, List.getElem?_range (by omega)]; rfl
 ·rw [if_neg q, List.getElem?_eq_none (by rw [List.length_range]; omega)]; rfl
def Edt.outL (e : Edt) (m i : Nat) : List AV := (List.range m).map fun (w : Nat) => AV.int .i64 (if e.lie w < i then e.lie w else -1)
theorem getE_take {α : Type} (l : List α) (n i : Nat) : (l.take n)[i]? = if i < n then l[i]? else none := List.getElem?_take
theorem nowL_ins {e : Edt} (h : e.good e.all = true) (k : e.kind = 1) {M A N : Nat} (hM : e.most = M) (hA : e.at' = A) (hN : e.n = N) :
  (wasL M).take A ++ List.replicate N (AV.int .i64 (-1)) ++ (wasL M).drop A = e.nowL := by
 obtain ⟨a, b, ⟨_, c⟩ | ⟨k', c⟩ | ⟨k', c⟩⟩ := Edt.all_good h
 ·apply List.ext_getElem?
  intro i
  have hl : ((wasL M).take A).length = A := by rw [List.length_take, wasL_len]; omega
  rw [Edt.nowL_get]
  unfold Edt.nows Edt.now
  rw [if_pos k, if_pos k]
  by_cases q1 : i < A
  ·rw [List.append_assoc, List.getElem?_append_left (by omega), getE_take, if_pos q1, wasL_get, if_pos (by omega), if_pos (by omega), if_pos (by omega)]
  ·by_cases q2 : i < A + N
   ·rw [List.append_assoc, List.getElem?_append_right (by omega), List.getElem?_append_left (by rw [List.length_replicate]; omega), List.getElem?_replicate, if_pos (by omega), if_pos (by omega), if_neg (by omega), if_pos (by omega)]
   ·rw [List.getElem?_append_right (by rw [List.length_append, List.length_replicate]; omega), List.getElem?_drop, wasL_get, List.length_append, List.length_replicate, hl]
    by_cases q3 : i < M + N
    ·rw [if_pos (by omega), if_pos (by omega), if_neg (by omega), if_neg (by omega)]
     congr 2
     omega
    ·rw [if_neg (by omega), if_neg (by omega)]
 ·omega
 ·omega
theorem nowL_del {e : Edt} (h : e.good e.all = true) (k : e.kind = 2) {M A N : Nat} (hM : e.most = M) (hA : e.at' = A) (hN : e.n = N) :
  (wasL M).take A ++ (wasL M).drop (A + N) = e.nowL := by
 have k1 : ¬ e.kind = 1 := by omega
 obtain ⟨a, b, ⟨_, c⟩ | ⟨k', c⟩ | ⟨k', c⟩⟩ := Edt.all_good h
 ·omega
 ·apply List.ext_getElem?
  intro i
  have hl : ((wasL M).take A).length = A := by rw [List.length_take, wasL_len]; omega
  rw [Edt.nowL_get]
  unfold Edt.nows Edt.now
  rw [if_neg k1, if_pos k, if_neg k1, if_pos k]
  by_cases q1 : i < A
  ·rw [List.getElem?_append_left (by omega), getE_take, if_pos q1, wasL_get, if_pos (by omega), if_pos (by omega), if_pos (by omega)]
  ·rw [List.getElem?_append_right (by omega), List.getElem?_drop, wasL_get, hl]
   by_cases q3 : i + N < M
   ·rw [if_pos (by omega), if_pos (by omega), if_neg (by omega)]
    congr 2
    omega
   ·rw [if_neg (by omega), if_neg (by omega)]
 ·omega
def restL (M A N : Nat) : List AV := (wasL M).take A ++ (wasL M).drop (A + N)
theorem restL_len {M A N : Nat} (h : A + N ≤ M) : (restL M A N).length = M - N := by
 unfold restL
 rw [List.length_append, List.length_take, List.length_drop, wasL_len]
 omega
theorem restL_get {M A N i : Nat} (h : A + N ≤ M) (hi : i + N < M) : (restL M A N)[i]? = some (.int .i64 (if (i : Int) < A then (i : Int) else (i : Int) + N)) := by
 unfold restL
 have hl : ((wasL M).take A).length = A := by rw [List.length_take, wasL_len]; omega
 by_cases q1 : i < A
 ·rw [List.getElem?_append_left (by omega), getE_take, if_pos q1, wasL_get, if_pos (by omega), if_pos (by omega)]
 ·rw [List.getElem?_append_right (by omega), List.getElem?_drop, wasL_get, hl, if_pos (by omega), if_neg (by omega)]
  congr 2
  omega
theorem nowL_mov {e : Edt} (h : e.good e.all = true) (k : e.kind = 3) {M A N D : Nat} (hM : e.most = M) (hA : e.at' = A) (hN : e.n = N) (hD : e.dst = D) :
  (restL M A N).take D ++ ((wasL M).take (A + N)).drop A ++ (restL M A N).drop D = e.nowL := by
 have k1 : ¬ e.kind = 1 := by omega
 have k2 : ¬ e.kind = 2 := by omega
 obtain ⟨a, b, ⟨_, c⟩ | ⟨k', c⟩ | ⟨k', c⟩⟩ := Edt.all_good h
 ·omega
 ·omega
 ·have hAN : A + N ≤ M := by omega
  have hr := restL_len hAN
  apply List.ext_getElem?
  intro i
  have hl : ((restL M A N).take D).length = D := by rw [List.length_take, hr]; omega
  have hm : (((wasL M).take (A + N)).drop A).length = N := by rw [List.length_drop, List.length_take, wasL_len]; omega
  rw [Edt.nowL_get]
  unfold Edt.nows Edt.now
  rw [if_neg k1, if_neg k2, if_neg k1, if_neg k2, hA, hN, hD, hM]
  by_cases q1 : i < D
  ·have f1 : (i : Int) < M := by omega
   have f2 : (i : Int) < D := by omega
   rw [List.append_assoc, List.getElem?_append_left (by omega), getE_take, if_pos q1, restL_get hAN (by omega), if_pos f1, if_pos f2]
  ·have f2 : ¬ (i : Int) < D := by omega
   by_cases q2 : i < D + N
   ·have f1 : (i : Int) < M := by omega
    have f3 : (i : Int) < D + N := by omega
    rw [List.append_assoc, List.getElem?_append_right (by omega), List.getElem?_append_left (by omega), List.getElem?_drop, getE_take, wasL_get, hl, if_pos f1, if_neg f2, if_pos f3, if_pos (by omega), if_pos (by omega)]
    congr 2
    omega
   ·have f3 : ¬ (i : Int) < D + N := by omega
    rw [List.getElem?_append_right (by rw [List.length_append]; omega), List.getElem?_drop, List.length_append, hl, hm, if_neg f2, if_neg f3]
    by_cases q3 : i < M
    ·have f1 : (i : Int) < M := by omega
     rw [restL_get hAN (by omega), if_pos f1]
     congr 2
     split <;> split <;> omega
    ·have f1 : ¬ (i : Int) < M := by omega
     rw [List.getElem?_eq_none (by rw [hr]; omega), if_neg f1]
theorem Edt.outL_len (e : Edt) (m i : Nat) : (e.outL m i).length = m := by unfold Edt.outL; rw [List.length_map, List.length_range]
theorem Edt.outL_get (e : Edt) (m i w : Nat) : (e.outL m i)[w]? = if w < m then some (.int .i64 (if e.lie w < i then e.lie w else -1)) else none := by
 unfold Edt.outL
 rw [List.getElem?_map]
 by_cases q : w < m
 ·rw [if_pos q, List.getElem?_range q]; rfl
 ·rw [if_neg q, List.getElem?_eq_none (by rw [List.length_range]; omega)]; rfl
theorem Edt.outL_zero {e : Edt} (h : e.good e.all = true) {M : Nat} (hM : e.most = M) : e.outL M 0 = List.replicate M (AV.int .i64 (-1)) := by
 apply List.ext_getElem?
 intro w
 rw [Edt.outL_get, List.getElem?_replicate]
 by_cases q : w < M
 ·have := Edt.lie_rng h (i := w) (by omega) (by omega)
  rw [if_pos q, if_pos q]
  congr 2
  split <;> omega
 ·rw [if_neg q, if_neg q]
theorem Edt.outL_set {e : Edt} (h : e.good e.all = true) {M i w : Nat} (hM : e.most = M) (hi : (i : Int) < e.nows) (hm : i < M) (hw : e.now i = w) : (e.outL M i).set w (.int .i64 i) = e.outL M (i + 1) := by
 have hr := Edt.now_rng h (i := i) (by omega) hi
 apply List.ext_getElem?
 intro v
 rw [List.getElem?_set, Edt.outL_len, Edt.outL_get, Edt.outL_get]
 have hl : v < M → ((e.now i = v ∧ (i : Int) < e.most) ↔ e.lie v = i) := fun q => Edt.now_lie h (by omega) hi (by omega) (by omega)
 by_cases q : w = v
 ·subst q
  have hwM : w < M := by omega
  have := (hl hwM).1 ⟨hw, by omega⟩
  rw [if_pos rfl, if_pos hwM, if_pos hwM, if_pos (by omega), this]
 ·rw [if_neg q]
  by_cases q2 : v < M
  ·have h2 : e.lie v ≠ i := fun q3 => by have := ((hl q2).2 q3).1; omega
   rw [if_pos q2, if_pos q2]
   congr 2
   split <;> split <;> omega
  ·rw [if_neg q2, if_neg q2]
theorem Edt.outL_skip {e : Edt} (h : e.good e.all = true) {M i : Nat} (hM : e.most = M) (hi : (i : Int) < e.nows) (hs : e.now i < 0 ∨ M ≤ i) : e.outL M i = e.outL M (i + 1) := by
 apply List.ext_getElem?
 intro v
 rw [Edt.outL_get, Edt.outL_get]
 by_cases q2 : v < M
 ·have hl := Edt.now_lie h (i := i) (w := v) (by omega) hi (by omega) (by omega)
  have h2 : e.lie v ≠ i := fun q3 => by have := hl.2 q3; omega
  rw [if_pos q2, if_pos q2]
  congr 2
  split <;> split <;> omega
 ·rw [if_neg q2, if_neg q2]
end Go.A
namespace Go.A
open Go.Proofs Go.Lib
structure Pt where
 op : Int
 n : Int
 s : List UInt8
 a : Ref
 b : Ref
 deriving Inhabited
def ndV (o m : Int) (s : List UInt8) (a b : Ref) (v : AV) : List AV := [.int .i64 o, .int .i64 m, .str s, .int .i64 a.row, .int .i64 a.col, .bool a.absRow, .bool a.absCol, .int .i64 b.row, .int .i64 b.col, .bool b.absRow, .bool b.absCol, v]
section
variable {o m : Int} {s : List UInt8} {a b : Ref} {v w : AV}
@[go_sem] theorem nv_11 : (ndV o m s a b v)[11]? = some v := id rfl
@[go_sem] theorem nv_len : (ndV o m s a b v).length = 12 := id rfl
@[go_sem] theorem nv_take : (ndV o m s a b v).take 12 = ndV o m s a b v := id rfl
@[go_sem] theorem nv_drop : (ndV o m s a b v).drop 12 = [] := id rfl
@[go_sem] theorem nv_put'' : (ndV o m s a b v).take 11 ++ [w] = ndV o m s a b w := id rfl
theorem nv_leaves (h : v.leaf = true) : leaves (ndV o m s a b v) = true := by
 cases v <;> first | rfl | cases h
end
def missN : Nd := .mk 23 0 [] .zero .zero []
end Go.A
namespace Go.A
open Go.Proofs Go.Lib
def zero12 : List AV := [.int .i64 0, .int .i64 0, .str [], .int .i64 0, .int .i64 0, .bool false, .bool false, .int .i64 0, .int .i64 0, .bool false, .bool false, .sl .full []]
theorem OwnSl.leaf {σ0 σ : ASt} {v : AV} {xs : List AV} {s : Nat} (h : OwnSl σ0 σ v xs s) : v.leaf = true ∧ v.cells = [v] := by
 rcases h with ⟨rfl, rfl, rfl⟩ | ⟨b, c, rest, rfl, _⟩ <;> exact ⟨rfl, rfl⟩
theorem OwnSl.put {σ0 σ : ASt} {d : Nat} {r : Role} {v : AV} {xs : List AV} {s : Nat} (h : OwnSl σ0 σ v xs s) (hd : σ0 d = some r) (r' : Option Role) : OwnSl (σ0.set d r') (σ.set d r') v xs s := by
 rcases h with ⟨h1, h2, rfl⟩ | ⟨b, c, rest, h1, h2, h3, h4, rfl⟩
 ·exact .inl ⟨h1, h2, rfl⟩
 ·have hbd : b ≠ d := by rintro rfl; rw [hd] at h4; cases h4
  exact .inr ⟨b, c, rest, h1, h2, h3, by rw [ASt.set_ne hbd]; exact h4, set_swap hbd⟩
theorem leaf1 {v : AV} : leaves [v] = v.leaf := by simp [leaves]
theorem Drop.had {σ σ' : ASt} {b : Nat} {r : Role} (h : Drop σ σ') (hb : σ' b = some r) : σ b = some r := by
 rcases h b with h1 | h1
 ·rw [← h1]; exact hb
 ·rw [h1] at hb; cases hb
theorem Drop.nil {σ σ' : ASt} {b : Nat} (h : Drop σ σ') (hb : σ b = none) : σ' b = none := by
 rcases h b with h1 | h1
 ·rw [h1]; exact hb
 ·exact h1
end Go.A
namespace Go.A
open Go.Proofs
/-! 13: tabular/tabularlaw12.Told -/
def c13_12 : ACode := .seq (.ops [ oq 21 (.bin .lss (.t 20) (.t 19))]) (.seq (.cond (.t 21) .skip (.exit 0)) (.seq (.block 1 (.seq (.ops [ oq 22 (.ia 12 (.t 18) (.t 20)), oq 23 (.ld (some 12) (.t 22)), oe 5 (.alloc [(.int .i64 0), (.int .i64 0), (.str []), (.int .i64 0), (.int .i64 0), (.bool false), (.bool false), (.int .i64 0), (.int .i64 0), (.bool false), (.bool false), (.sl .full [])]), oz (.store 12 (.t 5) (.t 23))]) (.ops [ oq 24 (.fa 11 (.t 3)), oq 25 (.ld none (.t 24)), oq 26 (.ld (some 12) (.t 5)), ⟨some 27, none, .e (.call 13 [(.t 26)]), [⟨none, .ld none (.t 24), 25⟩]⟩, oq 28 (.bsl 12 [(.t 27)]), oe 29 (.app 43 12 104 [(.int .i64 0), (.int .i64 0), (.str []), (.int .i64 0), (.int .i64 0), (.bool false), (.bool false), (.int .i64 0), (.int .i64 0), (.bool false), (.bool false), (.sl .full [])] (.t 25) (.t 28)), oq 30 (.fa 11 (.t 3)), oz (.store 1 (.t 30) (.t 29))]))) (.ops [ oq 31 (.bin .add (.t 20) (.v (.int .i64 1))), oq 20 (.mv (.t 31))])))
def c13_17 : ACode := .seq (.ops [ oq 32 (.ld (some 12) (.t 3)), oz (.store 12 (.t 2) (.t 32))]) .ret
def c13_20 : ACode := .seq (.ops [ oe 1 (.box (.t 0)), oe 2 (.alloc [(.int .i64 0), (.int .i64 0), (.str []), (.int .i64 0), (.int .i64 0), (.bool false), (.bool false), (.int .i64 0), (.int .i64 0), (.bool false), (.bool false), (.sl .full [])])]) (.seq (.ops [ oq 6 (.fa 0 (.t 1)), oq 7 (.ld none (.t 6)), oq 8 (.fa 1 (.t 1)), oq 9 (.ld none (.t 8)), oq 10 (.fa 2 (.t 1)), oq 11 (.ld none (.t 10)), oq 12 (.fa 3 (.t 1)), oq 13 (.ld (some 4) (.t 12)), oq 14 (.fa 7 (.t 1)), oq 15 (.ld (some 4) (.t 14)), oq 16 (.build [(.int .i64 0), (.int .i64 0), (.str []), (.int .i64 0), (.int .i64 0), (.bool false), (.bool false), (.int .i64 0), (.int .i64 0), (.bool false), (.bool false), (.sl .full [])] [(0, 1, (.t 7)), (1, 1, (.t 9)), (2, 1, (.t 11)), (3, 4, (.t 13)), (7, 4, (.t 15))]), oe 3 (.alloc [(.int .i64 0), (.int .i64 0), (.str []), (.int .i64 0), (.int .i64 0), (.bool false), (.bool false), (.int .i64 0), (.int .i64 0), (.bool false), (.bool false), (.sl .full [])]), oz (.store 12 (.t 3) (.t 16))]) (.seq (.seq (.ops [ oq 17 (.fa 11 (.t 1)), oq 18 (.ld none (.t 17)), oq 19 (.len (.t 18)), oq 20 (.mv (.v (.int .i64 0)))]) (.block 0 (.loop c13_12))) c13_17))
@[go_sem] def c13_12_wp := wp_of c13_12.eq_1
@[go_sem] def c13_17_wp := wp_of c13_17.eq_1
@[go_sem] def c13_20_wp := wp_of c13_20.eq_1
def c13 : AFn := ⟨33, [.c 2 (some 12)], c13_20⟩
theorem c13_ok : compF Tryz.prog Tryz.f13 = some c13 := by kernel_rfl
theorem a13 {args : List AV} {σ : ASt} {R : AV → ASt → Prop} (hl : args.length ≤ 33) (h : c13_20.wp Tryz.prog (RetQ [.c 2 (some 12)] R) (init args) σ) : ACalls Tryz.prog 13 args σ R := acalls_of Tryz.func13 c13_ok hl h
/-! 14: tabular/tabularref12.Same -/
def c14_20 : ACode := .seq (.ops [ oq 52 (.bin .lss (.t 51) (.t 50))]) (.seq (.cond (.t 52) .skip (.exit 0)) (.seq (.block 1 (.seq (.ops [ oq 53 (.mv (.t 51)), oq 5 (.mv (.t 53))]) (.seq (.ops [ oq 54 (.fa 11 (.t 2)), oq 55 (.ld none (.t 54)), oq 56 (.mv (.t 5)), oq 57 (.ia 12 (.t 55) (.t 56)), oq 58 (.ld (some 12) (.t 57)), oq 59 (.fa 11 (.t 3)), oq 60 (.ld none (.t 59)), oq 61 (.mv (.t 5)), oq 62 (.ia 12 (.t 60) (.t 61)), oq 63 (.ld (some 12) (.t 62)), oe 64 (.call 14 [(.t 58), (.t 63)]), oq 65 (.un .not (.t 64))]) (.cond (.t 65) (.seq (.ops [ oq 4 (.mv (.v (.bool false)))]) .ret) .skip)))) (.ops [ oq 66 (.bin .add (.t 51) (.v (.int .i64 1))), oq 51 (.mv (.t 66))])))
def c14_28 : ACode := .seq (.ops [ oe 2 (.box (.t 0)), oe 3 (.box (.t 1)), oq 4 (.mv (.v (.bool false)))]) (.seq (.seq (.ops [ oq 6 (.fa 0 (.t 2)), oq 7 (.ld none (.t 6)), oq 8 (.fa 0 (.t 3)), oq 9 (.ld none (.t 8)), oq 10 (.bin .neq (.t 7) (.t 9)), oq 11 (.mv (.t 10)), ⟨some 12, some (11, false), .q (.fa 1 (.t 2)), []⟩, ⟨some 13, some (11, false), .q (.ld none (.t 12)), []⟩, ⟨some 14, some (11, false), .q (.fa 1 (.t 3)), []⟩, ⟨some 15, some (11, false), .q (.ld none (.t 14)), []⟩, ⟨some 16, some (11, false), .q (.bin .neq (.t 13) (.t 15)), []⟩, oq 17 (.pick (.t 11) (.v (.bool true)) (.t 16)), oq 18 (.mv (.t 17)), ⟨some 19, some (18, false), .q (.fa 2 (.t 2)), []⟩, ⟨some 20, some (18, false), .q (.ld none (.t 19)), []⟩, ⟨some 21, some (18, false), .q (.fa 2 (.t 3)), []⟩, ⟨some 22, some (18, false), .q (.ld none (.t 21)), []⟩, ⟨some 23, some (18, false), .q (.bin .neq (.t 20) (.t 22)), []⟩, oq 24 (.pick (.t 18) (.v (.bool true)) (.t 23)), oq 25 (.mv (.t 24)), ⟨some 26, some (25, false), .q (.fa 3 (.t 2)), []⟩, ⟨some 27, some (25, false), .q (.ld (some 4) (.t 26)), []⟩, ⟨some 28, some (25, false), .q (.fa 3 (.t 3)), []⟩, ⟨some 29, some (25, false), .q (.ld (some 4) (.t 28)), []⟩, ⟨some 30, some (25, false), .q (.eqs true [(0, 0), (1, 0), (2, 1), (3, 1)] (.t 27) (.t 29)), []⟩, oq 31 (.pick (.t 25) (.v (.bool true)) (.t 30)), oq 32 (.mv (.t 31)), ⟨some 33, some (32, false), .q (.fa 7 (.t 2)), []⟩, ⟨some 34, some (32, false), .q (.ld (some 4) (.t 33)), []⟩, ⟨some 35, some (32, false), .q (.fa 7 (.t 3)), []⟩, ⟨some 36, some (32, false), .q (.ld (some 4) (.t 35)), []⟩, ⟨some 37, some (32, false), .q (.eqs true [(0, 0), (1, 0), (2, 1), (3, 1)] (.t 34) (.t 36)), []⟩, oq 38 (.pick (.t 32) (.v (.bool true)) (.t 37)), oq 39 (.mv (.t 38)), ⟨some 40, some (39, false), .q (.fa 11 (.t 2)), []⟩, ⟨some 41, some (39, false), .q (.ld none (.t 40)), []⟩, ⟨some 42, some (39, false), .q (.len (.t 41)), []⟩, ⟨some 43, some (39, false), .q (.fa 11 (.t 3)), []⟩, ⟨some 44, some (39, false), .q (.ld none (.t 43)), []⟩, ⟨some 45, some (39, false), .q (.len (.t 44)), []⟩, ⟨some 46, some (39, false), .q (.bin .neq (.t 42) (.t 45)), []⟩, oq 47 (.pick (.t 39) (.v (.bool true)) (.t 46))]) (.cond (.t 47) (.seq (.ops [ oq 4 (.mv (.v (.bool false)))]) .ret) .skip)) (.seq (.seq (.ops [ oq 48 (.fa 11 (.t 2)), oq 49 (.ld none (.t 48)), oq 50 (.len (.t 49)), oq 51 (.mv (.v (.int .i64 0)))]) (.block 0 (.loop c14_20))) (.seq (.ops [ oq 4 (.mv (.v (.bool true)))]) .ret)))
@[go_sem] def c14_20_wp := wp_of c14_20.eq_1
@[go_sem] def c14_28_wp := wp_of c14_28.eq_1
def c14 : AFn := ⟨67, [.t 4], c14_28⟩
theorem c14_ok : compF Tryz.prog Tryz.f14 = some c14 := by kernel_rfl
theorem a14 {args : List AV} {σ : ASt} {R : AV → ASt → Prop} (hl : args.length ≤ 67) (h : c14_28.wp Tryz.prog (RetQ [.t 4] R) (init args) σ) : ACalls Tryz.prog 14 args σ R := acalls_of Tryz.func14 c14_ok hl h
end Go.A
namespace Go.A
open Go.Proofs Go.Lib
theorem told_le : ∀ (k : Nat) (n : Nd), n.size ≤ k → n.size ≤ 1000000000 → Pure Tryz.prog 13 [n.av] n.av
 | 0, n, hk, _ => by have := n.size_pos; omega
 | k + 1, n, hk, hbig => by
   intro σ
   have ih := told_le k
   obtain ⟨o, m, s, a, b, ks⟩ := n
   rw [Nd.size] at hk hbig
   have hlen := sizes_len ks
   have hkid : ∀ x ∈ ks, Pure Tryz.prog 13 [x.av] x.av := fun x hx => by
    have := Nd.size_kid hx
    exact ih x (by omega) (by omega)
   clear ih
   rw [Nd.av_cs]
   refine a13 (by simp) ?_
   simp (disch := first | assumption | omega) only [go_sem]
   refine boxC_by rfl fun c1 h1 => ?_
   simp (disch := first | assumption | omega) only [go_sem]
   refine allocC_by fun c2 h2 => ?_
   have h2' := h2
   repeat (with_reducible replace h2 := set_none h2; obtain ⟨_, _, h2⟩ := h2)
   simp (disch := first | assumption | omega) only [go_sem, Nat.reduceEqDiff, Nat.reduceAdd, Nat.reduceLeDiff, ↓reduceIte]
   refine allocC_by fun c3 h3 => ?_
   have h3' := h3
   repeat (with_reducible replace h3 := set_none h3; obtain ⟨_, _, h3⟩ := h3)
   obtain ⟨τ, hτ⟩ : ∃ τ, (σ.set c1 (some (.obj (Nd.cs o m s a b (ks.map Nd.av))))).set c2 (some (.obj zero12)) = τ := ⟨_, rfl⟩
   have hτ3 : τ c3 = none := by rw [← hτ]; exact h3'
   have hτ2 : τ c2 = some (.obj zero12) := by rw [← hτ, ASt.set_same]
   have hDτ : ∀ X R : Option Role, Drop (((τ.set c3 R).set c2 X)) σ := fun X R => by
    rw [← hτ]
    exact ((((Drop.set h1).off h2).off (by assumption)).off h2)
   have hz12 : zero12 = [.int .i64 0, .int .i64 0, .str [], .int .i64 0, .int .i64 0, .bool false, .bool false, .int .i64 0, .int .i64 0, .bool false, .bool false, .sl .full []] := rfl
   rw [hz12] at hτ
   have n23 : c2 ≠ c3 := by rintro rfl; rw [hτ2] at hτ3; cases hτ3
   simp (disch := first | assumption | omega) only [go_sem, Nat.reduceEqDiff, Nat.reduceAdd, Nat.reduceLeDiff, ↓reduceIte, Bool.true_and, ASt.set_set]
   rw [hτ]
   obtain ⟨G, hG⟩ : ∃ G, G = ACode.wp Tryz.prog c13_17 := ⟨_, rfl⟩
   simp (disch := first | assumption | omega) only [go_sem, ←hG]
   refine wp_loop_by (fun (i : Nat) a1 s2 => i ≤ ks.length ∧ (a1 2 = .ptr c2 0 ∧ a1 3 = .ptr c3 0 ∧ a1 18 = .sl .shr (ks.map Nd.av) ∧ a1 19 = .int .i64 ks.length ∧ a1 20 = .int .i64 i) ∧
    ∃ v, OwnSl (τ.set c3 (some (.obj (ndV o m s a b v)))) s2 v ((ks.take i).map Nd.av) 12) (fun i => ks.length - i) 0 (Dr.now ⟨Nat.zero_le _, ?_, .sl .full [], .inl ⟨rfl, rfl, rfl⟩⟩) ?_
   ·simp (disch := first | assumption | omega) only [go_sem, Nat.reduceEqDiff, ↓reduceIte]
   rintro i a1 s2 ⟨hi, hf, v, hO⟩
   have hb7 := hO.at (x := c3) (ASt.set_same _ _ _)
   by_cases hlt : i < ks.length
   ·have hlt' : (i : Int) < ks.length := by omega
    have hx : ks[i]? = some (ks[i]'hlt) := List.getElem?_eq_getElem hlt
    obtain ⟨x, hxe⟩ : ∃ x, ks[i]'hlt = x := ⟨_, rfl⟩
    have hcall := hkid x (by rw [← hxe]; exact List.getElem_mem _)
    have htake : (ks.take (i + 1)).map Nd.av = (ks.take i).map Nd.av ++ [x.av] := by rw [List.take_succ_eq_append_getElem hlt, hxe]; simp
    rw [hxe] at hx
    have hmx := Nd.get hx
    have hDm : ((ks.take i).map Nd.av).length = i := by simp; omega
    have hlD : ∀ y ∈ (ks.take i).map Nd.av, y.cells.length = 12 := by
     intro y hy
     obtain ⟨z, _, rfl⟩ := List.mem_map.1 hy
     exact Nd.av_len z
    obtain ⟨xo, xm, xs, xa, xb, xk⟩ := x
    rw [Nd.av_cs] at hcall htake hmx
    generalize hXK : xk.map Nd.av = XK at *
    generalize (ks.take i).map Nd.av = DL at *
    generalize ks.map Nd.av = L at *
    simp (disch := first | assumption | omega) only [go_sem, Nat.reduceEqDiff, Nat.reduceLeDiff, ↓reduceIte, hf, hlt', hmx]
    refine allocC_by fun e he => ?_
    have he7 : c3 ≠ e := by rintro rfl; rw [hb7] at he; cases he
    have he0 : τ e = none := by
     have := hO.fresh he
     rw [ASt.set_ne (Ne.symm he7)] at this
     exact this
    have hOe := hO.add (r := some (.obj (Nd.cs xo xm xs xa xb XK))) he
    have hb7e : (s2.set e (some (.obj (Nd.cs xo xm xs xa xb XK)))) c3 = some (.obj (ndV o m s a b v)) := by rw [ASt.set_ne he7]; exact hb7
    simp (disch := first | assumption | omega) only [go_sem, Nat.reduceEqDiff, Nat.reduceAdd, Nat.reduceLeDiff, ↓reduceIte, hf, hb7e, ASt.set_set]
    refine hcall.use ?_
    simp (disch := first | assumption | omega) only [go_sem, Nat.reduceEqDiff, ↓reduceIte, Bool.true_and, hb7e]
    refine OwnSl.app hOe hlD rfl rfl (by rw [hDm]; simp only [List.length_cons, List.length_nil]; omega) (by rw [hDm]; simp only [List.length_cons, List.length_nil]; omega) (by simp) fun v' σ' ⟨σ2, hd, hO2⟩ => ?_
    have h70 : ((τ.set c3 (some (.obj (ndV o m s a b v)))).set e (some (.obj (Nd.cs xo xm xs xa xb XK)))) c3 = some (.obj (ndV o m s a b v)) := by rw [ASt.set_ne he7, ASt.set_same]
    have hb7' := hd.had (hO2.at h70)
    have hO3 := hO2.put h70 (some (.obj (ndV o m s a b v')))
    rw [set_mid he7] at hO3
    obtain ⟨σ5, hd5, hO5⟩ := hO3.less (by rw [ASt.set_ne (Ne.symm he7)]; exact he0)
    have hvl := hO2.leaf
    have hvc := hvl.2
    have hvv : leaves [v'] = true := by rw [leaf1]; exact hvl.1
    have hD5 : Drop (σ'.set c3 (some (.obj (ndV o m s a b v')))) σ5 := hd.set_cong.trans hd5
    simp (disch := first | assumption | omega) only [go_sem, Nat.reduceEqDiff, Nat.reduceAdd, Nat.reduceLeDiff, ↓reduceIte, hf, hb7', hvc, hvv]
    refine ⟨i + 1, by dsimp only; omega, Dr.drop hD5 ⟨by omega, ?_, v', ?_⟩⟩
    ·simp (disch := first | assumption | omega) only [go_sem, Nat.reduceEqDiff, ↓reduceIte, hf]
    ·rw [htake]; exact hO5
   ·have hlt' : ¬ (i : Int) < ks.length := by omega
    rw [List.take_of_length_le (by omega)] at hO
    have hb2 := hO.at (x := c2) (r := .obj zero12) (by rw [ASt.set_ne n23]; exact hτ2)
    have hxl : ∀ x ∈ ks.map Nd.av, x.cells.length = 12 := by
     intro y hy
     obtain ⟨z, _, rfl⟩ := List.mem_map.1 hy
     exact Nd.av_len z
    have hnl := nv_leaves (o := o) (m := m) (s := s) (a := a) (b := b) hO.leaf.1
    have hO2 := hO.put (by rw [ASt.set_ne n23]; exact hτ2) (some (.obj (ndV o m s a b v)))
    have hDz := hDτ (some (.obj (ndV o m s a b v))) (some (.obj (ndV o m s a b v)))
    have hz := hO2.fz hxl (fun x hx => hDz.nil hx)
    unfold zero12 at hb2
    generalize ks.map Nd.av = L at *
    simp (disch := first | assumption | omega) only [go_sem, ↓reduceIte, hf, hlt']
    rw [hG]
    simp (disch := first | assumption | omega) only [go_sem, Nat.reduceEqDiff, Nat.reduceAdd, Nat.reduceLeDiff, ↓reduceIte, hf, hb7, hb2, hnl]
    refine retC_by (r := .agg (ndV o m s a b (.sl .shr L))) (hO2.drop.trans hDz) ?_ ⟨rfl, rfl⟩
    exact .agg (.cons (.refl _) (.cons (.refl _) (.cons (.refl _) (.cons (.refl _) (.cons (.refl _) (.cons (.refl _) (.cons (.refl _) (.cons (.refl _) (.cons (.refl _) (.cons (.refl _) (.cons (.refl _) (.cons hz .nil))))))))))))
theorem rsame_le : ∀ (k : Nat) (x y : Nd), x.size ≤ k → x.size ≤ 1000000000 → y.size ≤ 1000000000 → Pure Tryz.prog 14 [x.av, y.av] (.bool (Nd.same x y))
 | 0, x, y, hk, _, _ => by have := x.size_pos; omega
 | k + 1, x, y, hk, hx, hy => by
   intro σ
   obtain ⟨o, n, s, a, b, ks⟩ := x
   obtain ⟨o', n', s', a', b', ks'⟩ := y
   rw [Nd.size] at hk hx hy
   have l1 := sizes_len ks
   have l2 := sizes_len ks'
   have hE : ∀ u ∈ ks, ∀ v ∈ ks', Pure Tryz.prog 14 [u.av, v.av] (.bool (Nd.same u v)) := fun u hu v hv => by
    have h1 := Nd.size_kid hu
    have h2 := Nd.size_kid hv
    exact rsame_le k u v (by omega) (by omega) (by omega)
   rw [Nd.av_cs, Nd.av_cs, Nd.same]
   refine a14 (by simp) ?_
   simp (disch := first | assumption | omega) only [go_sem]
   refine boxC_by rfl fun c hc => ?_
   simp (disch := first | assumption | omega) only [go_sem, Nat.reduceEqDiff, ↓reduceIte]
   refine boxC_by rfl fun d hd => ?_
   have hd0 := hd
   repeat (with_reducible replace hd := set_none hd; obtain ⟨_, _, hd⟩ := hd)
   have hD : ∀ r r' : Option Role, Drop ((σ.set c r).set d r') σ := fun r r' => (Drop.set hc).off (by assumption)
   by_cases h1 : o = o'
   ·by_cases h2 : n = n'
    ·by_cases h3 : s = s'
     ·by_cases h4 : a = a'
      ·by_cases h5 : b = b'
       ·subst h1 h2 h3 h4 h5
        by_cases hl : ks.length = ks'.length
        ·have hl' : (ks.length : Int) = ks'.length := by omega
         have hlm : (ks.map Nd.av).length = ks.length := List.length_map _
         have hlm' : (ks'.map Nd.av).length = ks'.length := List.length_map _
         simp (disch := first | assumption | omega) only [go_sem, Nat.reduceEqDiff, Nat.reduceAdd, Nat.reduceLeDiff, ↓reduceIte, Bool.true_and, eq_self, hl']
         refine wp_loop_by (fun (i : Nat) a1 s2 => i ≤ ks.length ∧ (a1 2 = .ptr c 0 ∧ a1 3 = .ptr d 0 ∧ a1 50 = .int .i64 ks.length ∧ a1 51 = .int .i64 i) ∧ s2 = ((σ.set c (some (.obj (Nd.cs o n s a b (ks.map Nd.av))))).set d (some (.obj (Nd.cs o n s a b (ks'.map Nd.av))))) ∧ ∀ j u v, j < i → ks[j]? = some u → ks'[j]? = some v → Nd.same u v = true) (fun i => ks.length - i) 0 (Dr.now ⟨Nat.zero_le _, ?_, rfl, fun j u v hj => by omega⟩) ?_
         ·simp (disch := first | assumption | omega) only [go_sem, Nat.reduceEqDiff, ↓reduceIte, hl']
         rintro i a1 s2 ⟨hi, hf, rfl, hall⟩
         by_cases hlt : i < ks.length
         ·have hlt' : (i : Int) < ks.length := by omega
          have hlt2 : (i : Int) < ks'.length := by omega
          have hx1 : ks[i]? = some (ks[i]'hlt) := List.getElem?_eq_getElem hlt
          have hy1 : ks'[i]? = some (ks'[i]'(by omega)) := List.getElem?_eq_getElem _
          have hcall := hE _ (List.getElem_mem hlt) _ (List.getElem_mem (l := ks') (n := i) (by omega))
          obtain ⟨u, hu⟩ : ∃ u, ks[i]'hlt = u := ⟨_, rfl⟩
          obtain ⟨v, hv⟩ : ∃ v, ks'[i]'(by omega) = v := ⟨_, rfl⟩
          rw [hu] at hx1 hcall
          rw [hv] at hy1 hcall
          have hmx := Nd.get hx1
          have hmy := Nd.get hy1
          obtain ⟨r, hr⟩ : ∃ r, Nd.same u v = r := ⟨_, rfl⟩
          rw [hr] at hcall
          have hfalse : r = false → Nd.sames ks ks' = false := fun hrf => by
           cases h : Nd.sames ks ks' with
           | false => rfl
           | true => rw [Nd.sames_get hx1 hy1 h] at hr; rw [hrf] at hr; cases hr
          have htrue : r = true → ∀ j u' v', j < i + 1 → ks[j]? = some u' → ks'[j]? = some v' → Nd.same u' v' = true := fun hrt j u' v' hj hju hjv => by
           rcases Nat.lt_or_ge j i with h | h
           ·exact hall j u' v' h hju hjv
           ·obtain rfl : j = i := by omega
            rw [hx1] at hju
            rw [hy1] at hjv
            injection hju with hju
            injection hjv with hjv
            subst hju hjv
            rw [hr, hrt]
          obtain ⟨uo, um, us, ua, ub, uk⟩ := u
          obtain ⟨vo, vm, vs, va, vb, vk⟩ := v
          rw [Nd.av_cs] at hmx hmy
          rw [Nd.av_cs, Nd.av_cs] at hcall
          simp (disch := first | assumption | omega) only [go_sem, Nat.reduceEqDiff, Nat.reduceLeDiff, ↓reduceIte, hf, hlt', hmx, hmy]
          refine hcall.use ?_
          cases r with
          | true =>
            simp (disch := first | assumption | omega) only [go_sem, Nat.reduceEqDiff, ↓reduceIte, hf]
            refine ⟨i + 1, by dsimp only; omega, Dr.now ⟨by omega, ?_, rfl, htrue rfl⟩⟩
            simp (disch := first | assumption | omega) only [go_sem, Nat.reduceEqDiff, ↓reduceIte, hf]
          | false =>
            simp (disch := first | assumption | omega) only [go_sem, ↓reduceIte]
            refine retC_by (hD _ _) (.refl _) ⟨?_, rfl⟩
            show AV.bool _ = AV.bool _
            simp [hfalse rfl]
         ·have hlt' : ¬ (i : Int) < ks.length := by omega
          have hfin : Nd.sames ks ks' = true := Nd.sames_all hl fun j u v hu hv => hall j u v (by have := (List.getElem?_eq_some_iff.1 hu).1; omega) hu hv
          simp (disch := first | assumption | omega) only [go_sem, ↓reduceIte, hf, hlt']
          refine retC_by (hD _ _) (.refl _) ⟨?_, rfl⟩
          show AV.bool _ = AV.bool _
          simp [hfin]
        ·have hl' : ¬ (ks.length : Int) = ks'.length := by omega
         have hlm : (ks.map Nd.av).length = ks.length := List.length_map _
         have hlm' : (ks'.map Nd.av).length = ks'.length := List.length_map _
         have hfin : Nd.sames ks ks' = false := by
          cases h : Nd.sames ks ks' with
          | false => rfl
          | true => exact absurd (Nd.sames_len h) hl
         rw [hfin]
         simp (disch := first | assumption | omega) only [go_sem, Nat.reduceEqDiff, Nat.reduceAdd, Nat.reduceLeDiff, ↓reduceIte, Bool.true_and, Bool.and_false, eq_self, hl']
         refine retC_by (hD _ _) (.refl _) ⟨?_, rfl⟩
         show AV.bool _ = AV.bool _
         simp
       ·have h5' := ref_ne h5
        subst h1 h2 h3 h4
        simp (disch := first | assumption | omega) only [go_sem, Nat.reduceEqDiff, Nat.reduceAdd, Nat.reduceLeDiff, ↓reduceIte, Bool.true_and, Bool.false_and, Bool.and_false, eq_self, h5']
        refine retC_by (hD _ _) (.refl _) ⟨?_, rfl⟩
        first | rfl | (show AV.bool _ = AV.bool _; simp [h5])
      ·have h4' := ref_ne h4
       subst h1 h2 h3
       simp (disch := first | assumption | omega) only [go_sem, Nat.reduceEqDiff, Nat.reduceAdd, Nat.reduceLeDiff, ↓reduceIte, Bool.true_and, Bool.false_and, Bool.and_false, eq_self, h4']
       refine retC_by (hD _ _) (.refl _) ⟨?_, rfl⟩
       first | rfl | (show AV.bool _ = AV.bool _; simp [h4])
     ·subst h1 h2
      simp (disch := first | assumption | omega) only [go_sem, Nat.reduceEqDiff, ↓reduceIte, Bool.true_and, Bool.false_and, Bool.and_false, eq_self, h3]
      refine retC_by (hD _ _) (.refl _) ⟨?_, rfl⟩
      first | rfl | (show AV.bool _ = AV.bool _; simp [h3])
    ·subst h1
     simp (disch := first | assumption | omega) only [go_sem, Nat.reduceEqDiff, ↓reduceIte, Bool.false_and, Bool.and_false, eq_self, h2]
     refine retC_by (hD _ _) (.refl _) ⟨?_, rfl⟩
     first | rfl | (show AV.bool _ = AV.bool _; simp [h2])
   ·simp (disch := first | assumption | omega) only [go_sem, Nat.reduceEqDiff, ↓reduceIte, Bool.false_and, h1]
    refine retC_by (hD _ _) (.refl _) ⟨?_, rfl⟩
    first | rfl | (show AV.bool _ = AV.bool _; simp [h1])
theorem rsame_ok (x y : Nd) (hx : x.size ≤ 1000000000) (hy : y.size ≤ 1000000000) : Pure Tryz.prog 14 [x.av, y.av] (.bool (Nd.same x y)) := rsame_le x.size x y (Nat.le_refl _) hx hy
theorem told_ok (n : Nd) (h : n.size ≤ 1000000000) : Pure Tryz.prog 13 [n.av] n.av := told_le n.size n (Nat.le_refl _) h
end Go.A
namespace Go.A
open Go.Proofs
/-! 18: tabular/tabularref14.Good -/
def c18_20 : ACode := .seq (.seq (.ops [ oq 5 (.fa 3 (.t 2)), oq 6 (.ld none (.t 5)), oq 7 (.bin .lss (.t 6) (.v (.int .i64 1))), oq 8 (.mv (.t 7)), ⟨some 9, some (8, false), .q (.fa 2 (.t 2)), []⟩, ⟨some 10, some (8, false), .q (.ld none (.t 9)), []⟩, ⟨some 11, some (8, false), .q (.bin .lss (.t 10) (.v (.int .i64 0))), []⟩, oq 12 (.pick (.t 8) (.v (.bool true)) (.t 11)), oq 13 (.mv (.t 12)), ⟨some 14, some (13, false), .q (.mv (.t 1)), []⟩, ⟨some 15, some (13, false), .q (.bin .lss (.t 14) (.v (.int .i64 0))), []⟩, oq 16 (.pick (.t 13) (.v (.bool true)) (.t 15)), oq 17 (.mv (.t 16)), ⟨some 18, some (17, false), .q (.mv (.t 1)), []⟩, ⟨some 19, some (17, false), .q (.ld (some 5) (.t 2)), []⟩, ⟨some 20, some (17, false), .e (.call 46 [(.t 19)]), []⟩, ⟨some 21, some (17, false), .q (.bin .gtr (.t 18) (.t 20)), []⟩, oq 22 (.pick (.t 17) (.v (.bool true)) (.t 21)), oq 23 (.mv (.t 22)), ⟨some 24, some (23, false), .q (.fa 3 (.t 2)), []⟩, ⟨some 25, some (23, false), .q (.ld none (.t 24)), []⟩, ⟨some 26, some (23, false), .q (.bin .gtr (.t 25) (.v (.int .i64 3000))), []⟩, oq 27 (.pick (.t 23) (.v (.bool true)) (.t 26)), oq 28 (.mv (.t 27)), ⟨some 29, some (28, false), .q (.fa 2 (.t 2)), []⟩, ⟨some 30, some (28, false), .q (.ld none (.t 29)), []⟩, ⟨some 31, some (28, false), .q (.bin .gtr (.t 30) (.v (.int .i64 3000))), []⟩, oq 32 (.pick (.t 28) (.v (.bool true)) (.t 31)), oq 33 (.mv (.t 32)), ⟨some 34, some (33, false), .q (.fa 1 (.t 2)), []⟩, ⟨some 35, some (33, false), .q (.ld none (.t 34)), []⟩, ⟨some 36, some (33, false), .q (.bin .lss (.t 35) (.v (.int .i64 1))), []⟩, oq 37 (.pick (.t 33) (.v (.bool true)) (.t 36)), oq 38 (.mv (.t 37)), ⟨some 39, some (38, false), .q (.fa 1 (.t 2)), []⟩, ⟨some 40, some (38, false), .q (.ld none (.t 39)), []⟩, ⟨some 41, some (38, false), .q (.bin .gtr (.t 40) (.v (.int .i64 3))), []⟩, oq 42 (.pick (.t 38) (.v (.bool true)) (.t 41))]) (.cond (.t 42) (.seq (.ops [ oq 4 (.mv (.v (.bool false)))]) .ret) .skip)) (.seq (.seq (.ops [ oq 43 (.fa 1 (.t 2)), oq 44 (.ld none (.t 43)), oq 45 (.bin .eql (.t 44) (.v (.int .i64 1)))]) (.cond (.t 45) (.seq (.ops [ oq 46 (.fa 2 (.t 2)), oq 47 (.ld none (.t 46)), oq 48 (.mv (.t 1)), oq 49 (.bin .leq (.t 47) (.t 48)), oq 50 (.mv (.t 49)), ⟨some 51, some (50, true), .q (.mv (.t 1)), []⟩, ⟨some 52, some (50, true), .q (.fa 3 (.t 2)), []⟩, ⟨some 53, some (50, true), .q (.ld none (.t 52)), []⟩, ⟨some 54, some (50, true), .q (.bin .add (.t 51) (.t 53)), []⟩, ⟨some 55, some (50, true), .q (.ld (some 5) (.t 2)), []⟩, ⟨some 56, some (50, true), .e (.call 46 [(.t 55)]), [⟨(some (50, true)), .ld none (.t 52), 53⟩]⟩, ⟨some 57, some (50, true), .q (.bin .leq (.t 54) (.t 56)), []⟩, oq 58 (.pick (.t 50) (.t 57) (.v (.bool false))), oq 4 (.mv (.t 58))]) .ret) .skip)) (.seq (.seq (.ops [ oq 59 (.fa 1 (.t 2)), oq 60 (.ld none (.t 59)), oq 61 (.bin .eql (.t 60) (.v (.int .i64 2)))]) (.cond (.t 61) (.seq (.ops [ oq 62 (.fa 3 (.t 2)), oq 63 (.ld none (.t 62)), oq 64 (.mv (.t 1)), oq 65 (.bin .lss (.t 63) (.t 64)), oq 66 (.mv (.t 65)), ⟨some 67, some (66, true), .q (.fa 2 (.t 2)), []⟩, ⟨some 68, some (66, true), .q (.ld none (.t 67)), []⟩, ⟨some 69, some (66, true), .q (.fa 3 (.t 2)), []⟩, ⟨some 70, some (66, true), .q (.ld none (.t 69)), []⟩, ⟨some 71, some (66, true), .q (.bin .add (.t 68) (.t 70)), []⟩, ⟨some 72, some (66, true), .q (.mv (.t 1)), []⟩, ⟨some 73, some (66, true), .q (.bin .leq (.t 71) (.t 72)), []⟩, oq 74 (.pick (.t 66) (.t 73) (.v (.bool false))), oq 4 (.mv (.t 74))]) .ret) .skip)) (.seq (.ops [ oq 75 (.fa 2 (.t 2)), oq 76 (.ld none (.t 75)), oq 77 (.fa 3 (.t 2)), oq 78 (.ld none (.t 77)), oq 79 (.bin .add (.t 76) (.t 78)), oq 80 (.mv (.t 1)), oq 81 (.bin .leq (.t 79) (.t 80)), oq 82 (.mv (.t 81)), ⟨some 83, some (82, true), .q (.fa 4 (.t 2)), []⟩, ⟨some 84, some (82, true), .q (.ld none (.t 83)), []⟩, ⟨some 85, some (82, true), .q (.bin .geq (.t 84) (.v (.int .i64 0))), []⟩, oq 86 (.pick (.t 82) (.t 85) (.v (.bool false))), oq 87 (.mv (.t 86)), ⟨some 88, some (87, true), .q (.fa 4 (.t 2)), []⟩, ⟨some 89, some (87, true), .q (.ld none (.t 88)), []⟩, ⟨some 90, some (87, true), .q (.mv (.t 1)), []⟩, ⟨some 91, some (87, true), .q (.fa 3 (.t 2)), []⟩, ⟨some 92, some (87, true), .q (.ld none (.t 91)), []⟩, ⟨some 93, some (87, true), .q (.bin .sub (.t 90) (.t 92)), []⟩, ⟨some 94, some (87, true), .q (.bin .leq (.t 89) (.t 93)), []⟩, oq 95 (.pick (.t 87) (.t 94) (.v (.bool false))), oq 4 (.mv (.t 95))]) .ret)))
def c18_21 : ACode := .seq (.ops [ oe 2 (.box (.t 0)), oq 4 (.mv (.v (.bool false)))]) c18_20
@[go_sem] def c18_20_wp := wp_of c18_20.eq_1
@[go_sem] def c18_21_wp := wp_of c18_21.eq_1
def c18 : AFn := ⟨96, [.t 4], c18_21⟩
theorem c18_ok : compF Tryz.prog Tryz.f18 = some c18 := by kernel_rfl
theorem a18 {args : List AV} {σ : ASt} {R : AV → ASt → Prop} (hl : args.length ≤ 96) (h : c18_21.wp Tryz.prog (RetQ [.t 4] R) (init args) σ) : ACalls Tryz.prog 18 args σ R := acalls_of Tryz.func18 c18_ok hl h
/-! 46: tabular/tabularref14.Most -/
def c46_9 : ACode := .seq (.ops [ oe 1 (.box (.t 0)), oq 2 (.mv (.v (.int .i64 0)))]) (.seq (.seq (.ops [ oq 3 (.fa 0 (.t 1)), oq 4 (.ld none (.t 3))]) (.cond (.t 4) (.seq (.ops [ oq 2 (.mv (.v (.int .i64 700)))]) .ret) .skip)) (.seq (.ops [ oq 2 (.mv (.v (.int .i64 3000)))]) .ret))
@[go_sem] def c46_9_wp := wp_of c46_9.eq_1
def c46 : AFn := ⟨5, [.t 2], c46_9⟩
theorem c46_ok : compF Tryz.prog Tryz.f46 = some c46 := by kernel_rfl
theorem a46 {args : List AV} {σ : ASt} {R : AV → ASt → Prop} (hl : args.length ≤ 5) (h : c46_9.wp Tryz.prog (RetQ [.t 2] R) (init args) σ) : ACalls Tryz.prog 46 args σ R := acalls_of Tryz.func46 c46_ok hl h
/-! 47: tabular/tabularref14.Span -/
def c47_23 : ACode := .seq (.seq (.ops [ oq 39 (.mv (.t 2)), oq 40 (.mv (.t 3)), oq 41 (.bin .leq (.t 39) (.t 40)), oq 42 (.mv (.t 41)), ⟨some 43, some (42, true), .q (.mv (.t 1)), []⟩, ⟨some 44, some (42, true), .q (.mv (.t 2)), []⟩, ⟨some 45, some (42, true), .q (.ia 1 (.t 43) (.t 44)), []⟩, ⟨some 46, some (42, true), .q (.ld none (.t 45)), []⟩, ⟨some 47, some (42, true), .q (.bin .lss (.t 46) (.v (.int .i64 0))), []⟩, oq 48 (.pick (.t 42) (.t 47) (.v (.bool false)))]) (.cond (.t 48) .skip (.exit 0))) (.block 1 (.ops [ oq 49 (.mv (.t 2)), oq 50 (.bin .add (.t 49) (.v (.int .i64 1))), oq 2 (.mv (.t 50))]))
def c47_36 : ACode := .seq (.seq (.ops [ oq 54 (.mv (.t 1)), oq 55 (.mv (.t 3)), oq 56 (.ia 1 (.t 54) (.t 55)), oq 57 (.ld none (.t 56)), oq 58 (.bin .lss (.t 57) (.v (.int .i64 0)))]) (.cond (.t 58) .skip (.exit 2))) (.block 3 (.ops [ oq 59 (.mv (.t 3)), oq 60 (.bin .sub (.t 59) (.v (.int .i64 1))), oq 3 (.mv (.t 60))]))
def c47_40 : ACode := .seq (.ops [ oq 61 (.mv (.t 1)), oq 62 (.mv (.t 2)), oq 63 (.ia 1 (.t 61) (.t 62)), oq 64 (.ld none (.t 63)), oq 65 (.mv (.t 1)), oq 66 (.mv (.t 3)), oq 67 (.ia 1 (.t 65) (.t 66)), oq 68 (.ld none (.t 67)), oq 69 (.mnx false (.t 64) (.t 68)), oq 70 (.mv (.t 1)), oq 71 (.mv (.t 2)), oq 72 (.ia 1 (.t 70) (.t 71)), oq 73 (.ld none (.t 72)), oq 74 (.mv (.t 1)), oq 75 (.mv (.t 3)), oq 76 (.ia 1 (.t 74) (.t 75)), oq 77 (.ld none (.t 76)), oq 78 (.mnx true (.t 73) (.t 77)), oq 8 (.mv (.t 69)), oq 9 (.mv (.t 78)), oq 10 (.mv (.v (.bool true)))]) .ret
def c47_42 : ACode := .seq (.seq (.ops [ oq 51 (.mv (.t 2)), oq 52 (.mv (.t 3)), oq 53 (.bin .gtr (.t 51) (.t 52))]) (.cond (.t 53) (.seq (.ops [ oq 8 (.mv (.v (.int .i64 0))), oq 9 (.mv (.v (.int .i64 0))), oq 10 (.mv (.v (.bool false)))]) .ret) .skip)) (.seq (.block 2 (.loop c47_36)) c47_40)
def c47_45 : ACode := .seq (.ops [ oe 4 (.box (.t 0)), oq 8 (.mv (.v (.int .i64 0))), oq 9 (.mv (.v (.int .i64 0))), oq 10 (.mv (.v (.bool false)))]) (.seq (.seq (.ops [ oq 11 (.fa 1 (.t 4)), oq 12 (.ld none (.t 11)), oq 13 (.bin .eql (.t 12) (.v (.int .i64 1)))]) (.cond (.t 13) (.seq (.seq (.ops [ oq 14 (.mv (.t 1)), oq 15 (.mv (.t 2)), oq 16 (.ia 1 (.t 14) (.t 15)), oq 17 (.ld none (.t 16)), oq 18 (.bin .lss (.t 17) (.v (.int .i64 0)))]) (.cond (.t 18) (.seq (.ops [ oq 8 (.mv (.v (.int .i64 0))), oq 9 (.mv (.v (.int .i64 0))), oq 10 (.mv (.v (.bool false)))]) .ret) .skip)) (.seq (.seq (.ops [ oq 19 (.mv (.t 1)), oq 20 (.mv (.t 3)), oq 21 (.ia 1 (.t 19) (.t 20)), oq 22 (.ld none (.t 21)), oq 23 (.bin .lss (.t 22) (.v (.int .i64 0)))]) (.cond (.t 23) (.seq (.ops [ oq 24 (.mv (.t 1)), oq 25 (.mv (.t 2)), oq 26 (.ia 1 (.t 24) (.t 25)), oq 27 (.ld none (.t 26)), oq 28 (.ld (some 5) (.t 4)), ⟨some 29, none, .e (.call 46 [(.t 28)]), [⟨none, .ld none (.t 26), 27⟩]⟩, oq 30 (.bin .sub (.t 29) (.v (.int .i64 1))), oq 8 (.mv (.t 27)), oq 9 (.mv (.t 30)), oq 10 (.mv (.v (.bool true)))]) .ret) .skip)) (.seq (.ops [ oq 31 (.mv (.t 1)), oq 32 (.mv (.t 2)), oq 33 (.ia 1 (.t 31) (.t 32)), oq 34 (.ld none (.t 33)), oq 35 (.mv (.t 1)), oq 36 (.mv (.t 3)), oq 37 (.ia 1 (.t 35) (.t 36)), oq 38 (.ld none (.t 37)), oq 8 (.mv (.t 34)), oq 9 (.mv (.t 38)), oq 10 (.mv (.v (.bool true)))]) .ret))) .skip)) (.seq (.block 0 (.loop c47_23)) c47_42))
@[go_sem] def c47_23_wp := wp_of c47_23.eq_1
@[go_sem] def c47_36_wp := wp_of c47_36.eq_1
@[go_sem] def c47_40_wp := wp_of c47_40.eq_1
@[go_sem] def c47_42_wp := wp_of c47_42.eq_1
@[go_sem] def c47_45_wp := wp_of c47_45.eq_1
def c47 : AFn := ⟨79, [.t 8, .t 9, .t 10], c47_45⟩
theorem c47_ok : compF Tryz.prog Tryz.f47 = some c47 := by kernel_rfl
theorem a47 {args : List AV} {σ : ASt} {R : AV → ASt → Prop} (hl : args.length ≤ 79) (h : c47_45.wp Tryz.prog (RetQ [.t 8, .t 9, .t 10] R) (init args) σ) : ACalls Tryz.prog 47 args σ R := acalls_of Tryz.func47 c47_ok hl h
end Go.A
