/- Part 8 of what ShiftApart leans on: Eh Ej Pa CodeZk. -/
import Derived.Test.YtelbefdoehlmhaaGreatDoorProg
import Derived.KernelRfl
import Derived.Test.YtelbefdoehlmhaaGreatDoorZShiftApartg
set_option linter.defProp false
set_option linter.unusedSimpArgs false
set_option linter.unusedVariables false
set_option maxRecDepth 100000
namespace Go.A
def OwnSl (σ0 σ : ASt) (v : AV) (xs : List AV) (s : Nat) : Prop :=
  (xs = [] ∧ v = .sl .full [] ∧ σ = σ0) ∨ ∃ b c rest, v = .msl b 0 xs.length c ∧ xs.length ≤ c ∧ rest.length = (c - xs.length) * s ∧ σ0 b = none ∧ σ = σ0.set b (some (.obj (xs.flatMap AV.cells ++ rest)))
theorem OwnSl.drop {σ0 σ : ASt} {v : AV} {xs : List AV} {s : Nat} (h : OwnSl σ0 σ v xs s) : Drop σ σ0 := by
  rcases h with ⟨_, _, rfl⟩ | ⟨b, c, rest, _, _, _, hb, rfl⟩
  · exact Drop.refl _
  · exact Drop.set hb
def zrow (s : Nat) (z : List AV) (n c : Nat) : List AV := (List.range ((c - n) * s)).map fun i => z.getD (i % s) .any
theorem zrow_len (s : Nat) (z : List AV) (n c : Nat) : (zrow s z n c).length = (c - n) * s := by simp [zrow]
theorem ownRow_z {s n c : Nat} {z cs : List AV} : ownRow s z cs n c = cs ++ zrow s z n c := rfl
theorem OwnSl.app {e : TypeId} {σ0 σ : ASt} {v : AV} {xs ys z : List AV} {s bytes : Nat} {k2 : SK} {K : AV → ASt → Prop} (h : OwnSl σ0 σ v xs s) (hx : ∀ x ∈ xs, x.cells.length = s) (h2 : wellSz s ys = true) (h3 : leaves (ys.flatMap AV.cells) = true)
    (h4 : (xs.length + ys.length) * bytes ≤ 140737488355328) (h5 : xs.length + ys.length ≤ 4611686018427387904) (h6 : 0 < ys.length)
    (hK : ∀ v' σ', (∃ σ2, Drop σ' σ2 ∧ OwnSl σ0 σ2 v' (xs ++ ys) s) → K v' σ') : appC e s bytes z v (.sl k2 ys) σ K := by
  have hyl : (ys.flatMap AV.cells).length = ys.length * s := lens_flat (wellSz_lens h2)
  have hxl : (xs.flatMap AV.cells).length = xs.length * s := lens_flat hx
  rcases h with ⟨rfl, rfl, rfl⟩ | ⟨b, c, rest, rfl, hc, hr, hb, rfl⟩
  · refine appO_by rfl h2 h3 h4 h5 h6 fun b c hb hc => hK _ _ ⟨_, Drop.refl _, .inr ⟨b, c, zrow s z (([] : List AV).length + ys.length) c, ?_, ?_, ?_, hb, ?_⟩⟩
    · simp
    · simpa using hc
    · rw [zrow_len]; simp
    · rw [ownRow_z]; simp only [List.nil_append, List.flatMap_nil]
  · rw [appC_msl, ASt.set_same]
    refine appM_by h2 h3 h4 h5 (by rw [List.length_append, hxl, hr]; omega) (fun hroom => ⟨?_, ?_⟩) (fun hgrow b' c' hb' hc' => ?_)
    · rw [List.length_append, hxl, hr, Nat.zero_add, ← Nat.add_mul]
      exact Nat.mul_le_mul_right _ (by omega)
    · rw [ASt.set_set]
      refine hK _ _ ⟨_, Drop.refl _, .inr ⟨b, c, rest.drop (ys.length * s), by simp, by simpa using hroom, ?_, hb, ?_⟩⟩
      · rw [List.length_drop, hr, ← Nat.sub_mul, List.length_append]
        congr 1
        omega
      · congr 3
        unfold splice
        rw [Nat.zero_add, List.flatMap_append]
        have e1 : (xs.flatMap AV.cells ++ rest).take (xs.length * s) = xs.flatMap AV.cells := by rw [← hxl]; simp
        have e2 : (xs.flatMap AV.cells ++ rest).drop (xs.length * s + ys.length * s) = rest.drop (ys.length * s) := by rw [← hxl, ← List.drop_drop]; simp
        rw [e1, e2]
    · obtain ⟨m1, m2, hb0⟩ := set_none hb'
      have e1 : ((xs.flatMap AV.cells ++ rest).drop 0).take (xs.length * s) = xs.flatMap AV.cells := by rw [← hxl]; simp
      rw [e1]
      refine hK _ _ ⟨σ0.set b' (some (.obj (ownRow s z (xs.flatMap AV.cells ++ ys.flatMap AV.cells) (xs.length + ys.length) c'))), ?_, .inr ⟨b', c', zrow s z (xs.length + ys.length) c', by simp, by simpa using hc', by rw [zrow_len, List.length_append], hb0, ?_⟩⟩
      · rw [set_swap m2]
        exact Drop.set (by rw [ASt.set_ne m2]; exact hb)
      · rw [ownRow_z, List.flatMap_append]
theorem OwnSl.at {σ0 σ : ASt} {x : Nat} {r : Role} {v : AV} {xs : List AV} {s : Nat} (h : OwnSl σ0 σ v xs s) (hx : σ0 x = some r) : σ x = some r := by
  rcases h with ⟨_, _, rfl⟩ | ⟨b, c, rest, _, _, _, hb, rfl⟩
  · exact hx
  · rw [ASt.set_ne]
    · exact hx
    · rintro rfl; rw [hb] at hx; cases hx
end Go.A
namespace Go.A
open Go.Proofs Go.Lib
mutual
def Nd.same : Nd → Nd → Bool
  | .mk o n s a b ks, .mk o' n' s' a' b' ks' => decide (o = o') && decide (n = n') && decide (s = s') && decide (a = a') && decide (b = b') && Nd.sames ks ks'
def Nd.sames : List Nd → List Nd → Bool
  | [], [] => true
  | [], _ :: _ => false
  | _ :: _, [] => false
  | x :: xs, y :: ys => Nd.same x y && Nd.sames xs ys
end
mutual
theorem Nd.same_eq : ∀ (x y : Nd), Nd.same x y = true → x = y
  | .mk o n s a b ks, .mk o' n' s' a' b' ks', h => by
    rw [Nd.same] at h
    simp only [Bool.and_eq_true, decide_eq_true_eq] at h
    obtain ⟨⟨⟨⟨⟨rfl, rfl⟩, rfl⟩, rfl⟩, rfl⟩, h⟩ := h
    rw [Nd.sames_eq ks ks' h]
theorem Nd.sames_eq : ∀ (xs ys : List Nd), Nd.sames xs ys = true → xs = ys
  | [], [], _ => rfl
  | [], _ :: _, h => by cases h
  | _ :: _, [], h => by cases h
  | x :: xs, y :: ys, h => by
    rw [Nd.sames, Bool.and_eq_true] at h
    rw [Nd.same_eq x y h.1, Nd.sames_eq xs ys h.2]
end
mutual
theorem Nd.same_refl : ∀ x : Nd, Nd.same x x = true
  | .mk o n s a b ks => by rw [Nd.same, Nd.sames_refl ks]; simp
theorem Nd.sames_refl : ∀ xs : List Nd, Nd.sames xs xs = true
  | [] => rfl
  | x :: xs => by rw [Nd.sames, Nd.same_refl x, Nd.sames_refl xs]; rfl
end
theorem Nd.sames_len : ∀ {xs ys : List Nd}, Nd.sames xs ys = true → xs.length = ys.length := fun h => by rw [Nd.sames_eq _ _ h]
theorem Nd.sames_get {xs ys : List Nd} {i : Nat} {x y : Nd} (hx : xs[i]? = some x) (hy : ys[i]? = some y) (h : Nd.sames xs ys = true) : Nd.same x y = true := by
  rw [Nd.sames_eq _ _ h, hy] at hx
  injection hx with hx
  rw [hx]; exact Nd.same_refl _
theorem Nd.sames_all : ∀ {xs ys : List Nd}, xs.length = ys.length → (∀ (i : Nat) x y, xs[i]? = some x → ys[i]? = some y → Nd.same x y = true) → Nd.sames xs ys = true
  | [], [], _, _ => rfl
  | [], _ :: _, h, _ => by simp at h
  | _ :: _, [], h, _ => by simp at h
  | x :: xs, y :: ys, h, hs => by
    rw [Nd.sames, hs 0 x y rfl rfl, Nd.sames_all (by simpa using h) fun i u v hu hv => hs (i + 1) u v (by simpa using hu) (by simpa using hv)]
    rfl
theorem equal_ok (xs ys : List Nd) (hl : xs.length ≤ 1000000000 ∧ ys.length ≤ 1000000000) (ih : ∀ x ∈ xs, ∀ y ∈ ys, Pure Tryz.prog 23 [x.av, y.av] (.bool (Nd.same x y))) :
    Pure Tryz.prog 44 [.sl .shr (xs.map Nd.av), .sl .shr (ys.map Nd.av), .func (.func 23) [] []] (.bool (Nd.sames xs ys)) := by
  intro σ
  refine a44 (by simp) ?_
  by_cases hne : xs.length = ys.length
  · have hne' : ¬ ((xs.length : Int) ≠ ys.length) := by omega
    have hne2 : (xs.length : Int) = ys.length := by omega
    simp (disch := first | assumption | omega) only [go_sem, reduceCtorEq, Nat.reduceEqDiff, ↓reduceIte, hne2]
    refine wp_loop_by (fun (i : Nat) a1 s2 => (i ≤ xs.length ∧ ∀ k x y, k < i → xs[k]? = some x → ys[k]? = some y → Nd.same x y = true) ∧ (a1 1 = .sl .shr (ys.map Nd.av) ∧ a1 2 = .func (.func 23) [] [] ∧ a1 15 = .sl .shr (xs.map Nd.av) ∧ a1 16 = .int .i64 xs.length ∧ a1 17 = .int .i64 i) ∧ s2 = σ) (fun i => xs.length - i) 0 (Dr.now ⟨⟨Nat.zero_le _, fun k x y h => by omega⟩, ?_, rfl⟩) ?_
    · simp (disch := first | assumption | omega) only [go_sem, Nat.reduceEqDiff, ↓reduceIte, hne2]
    rintro i a1 s2 ⟨⟨hi, hall⟩, hf, rfl⟩
    by_cases hlt : i < xs.length
    · have hlt' : (i : Int) < xs.length := by omega
      have hx : xs[i]? = some (xs[i]'hlt) := List.getElem?_eq_getElem hlt
      have hy : ys[i]? = some (ys[i]'(by omega)) := List.getElem?_eq_getElem (by omega)
      have hih := ih _ (List.getElem_mem hlt) _ (List.getElem_mem (h := by omega) : ys[i]'(by omega) ∈ ys)
      obtain ⟨x, hxe⟩ : ∃ x, xs[i]'hlt = x := ⟨_, rfl⟩
      obtain ⟨y, hye⟩ : ∃ y, ys[i]'(by omega) = y := ⟨_, rfl⟩
      rw [hxe] at hx hih
      rw [hye] at hy hih
      have hmx := Nd.get hx
      have hmy := Nd.get hy
      obtain ⟨r, hr⟩ : ∃ r, Nd.same x y = r := ⟨_, rfl⟩
      rw [hr] at hih
      obtain ⟨xo, xm, xs', xa, xb, xk⟩ := x
      obtain ⟨yo, ym, ys', ya, yb, yk⟩ := y
      rw [Nd.av_cs] at hmx
      rw [Nd.av_cs] at hmy
      rw [Nd.av_cs, Nd.av_cs] at hih
      generalize xk.map Nd.av = XK at *
      generalize yk.map Nd.av = YK at *
      generalize hXL : xs.map Nd.av = XL at *
      generalize hYL : ys.map Nd.av = YL at *
      have hok : okFn Tryz.prog 23 = true := by kernel_rfl
      simp (disch := first | assumption | omega) only [go_sem, Nat.reduceEqDiff, Nat.reduceLeDiff, ↓reduceIte, hf, hlt', hmx]
      refine allocC_by fun d hd => ?_
      have hd0 := hd
      simp (disch := first | assumption | omega) only [go_sem, Nat.reduceEqDiff, Nat.reduceAdd, Nat.reduceLeDiff, ↓reduceIte, hf, hmy, ASt.set_set]
      refine allocC_by fun e he => ?_
      have he0 := he
      repeat (with_reducible replace he := set_none he; obtain ⟨_, _, he⟩ := he)
      simp (disch := first | assumption | omega) only [go_sem, Nat.reduceEqDiff, Nat.reduceAdd, Nat.reduceLeDiff, ↓reduceIte, hf, ASt.set_set]
      refine ⟨hok, hih.use ?_⟩
      cases r with
      | true =>
        simp (disch := first | assumption | omega) only [go_sem, Nat.reduceEqDiff, ↓reduceIte, hf]
        refine ⟨i + 1, by dsimp only; omega, Dr.drop ((Drop.set hd).off (by assumption)) ⟨⟨by omega, fun k u v hk hu hv => ?_⟩, ?_, rfl⟩⟩
        · by_cases hki : k = i
          · subst hki
            rw [hx] at hu; rw [hy] at hv
            injection hu with hu; injection hv with hv
            subst hu hv; exact hr
          · exact hall k u v (by omega) hu hv
        · simp (disch := first | assumption | omega) only [go_sem, Nat.reduceEqDiff, ↓reduceIte, hf]
      | false =>
        have hfin : Nd.sames xs ys = false := by
          cases h : Nd.sames xs ys with
          | false => rfl
          | true => rw [Nd.sames_get hx hy h] at hr; cases hr
        simp (disch := first | assumption | omega) only [go_sem, ↓reduceIte]
        exact retC_by ((Drop.set hd).off (by assumption)) (.refl _) ⟨by rw [hfin]; rfl, rfl⟩
    · have hlt' : ¬ (i : Int) < xs.length := by omega
      have hfin : Nd.sames xs ys = true := Nd.sames_all hne fun k u v hu hv => hall k u v (by have := (List.getElem?_eq_some_iff.1 hu).1; omega) hu hv
      simp (disch := first | assumption | omega) only [go_sem, ↓reduceIte, hf, hlt']
      exact retC_by (Drop.refl _) (.refl _) ⟨by rw [hfin]; rfl, rfl⟩
  · have hne2 : ¬ (xs.length : Int) = ys.length := by omega
    have hfin : Nd.sames xs ys = false := by
      cases h : Nd.sames xs ys with
      | false => rfl
      | true => exact absurd (Nd.sames_len h) hne
    simp (disch := first | assumption | omega) only [go_sem, reduceCtorEq, Nat.reduceEqDiff, ↓reduceIte, hne2]
    exact retC_by (Drop.refl _) (.refl _) ⟨by rw [hfin]; rfl, rfl⟩
theorem ref_ne {a b : Ref} (h : a ≠ b) : (decide (a.row = b.row) && (decide (a.col = b.col) && (decide (a.absRow = b.absRow) && decide (a.absCol = b.absCol)))) = false := by
  obtain ⟨a1, a2, a3, a4⟩ := a
  obtain ⟨b1, b2, b3, b4⟩ := b
  cases hd : (decide (a1 = b1) && (decide (a2 = b2) && (decide (a3 = b3) && decide (a4 = b4)))) with
  | false => rfl
  | true =>
    simp only [Bool.and_eq_true, decide_eq_true_eq] at hd
    obtain ⟨rfl, rfl, rfl, rfl⟩ := hd
    exact absurd rfl h
theorem esame_le : ∀ (k : Nat) (x y : Nd), x.size ≤ k → x.size ≤ 1000000000 → y.size ≤ 1000000000 → Pure Tryz.prog 23 [x.av, y.av] (.bool (Nd.same x y))
  | 0, x, y, hk, _, _ => by have := x.size_pos; omega
  | k + 1, x, y, hk, hx, hy => by
    intro σ
    obtain ⟨o, n, s, a, b, ks⟩ := x
    obtain ⟨o', n', s', a', b', ks'⟩ := y
    rw [Nd.size] at hk hx hy
    have l1 := sizes_len ks
    have l2 := sizes_len ks'
    have hE := equal_ok ks ks' ⟨by omega, by omega⟩ fun u hu v hv => by
      have h1 := Nd.size_kid hu
      have h2 := Nd.size_kid hv
      exact esame_le k u v (by omega) (by omega) (by omega)
    rw [Nd.av_cs, Nd.av_cs, Nd.same]
    generalize Nd.sames ks ks' = r at *
    generalize ks.map Nd.av = L at *
    generalize ks'.map Nd.av = L' at *
    refine a23 (by simp) ?_
    simp (disch := first | assumption | omega) only [go_sem]
    refine boxC_by rfl fun c hc => ?_
    simp (disch := first | assumption | omega) only [go_sem, Nat.reduceEqDiff, ↓reduceIte]
    refine boxC_by rfl fun d hd => ?_
    have hd0 := hd
    repeat (with_reducible replace hd := set_none hd; obtain ⟨_, _, hd⟩ := hd)
    have hD : ∀ r r' : Option Role, Drop ((σ.set c r).set d r') σ := fun r r' => (Drop.set hc).off (by assumption)
    by_cases h1 : o = o'
    · by_cases h2 : n = n'
      · by_cases h3 : s = s'
        · by_cases h4 : a = a'
          · by_cases h5 : b = b'
            · subst h1 h2 h3 h4 h5
              simp (disch := first | assumption | omega) only [go_sem, Nat.reduceEqDiff, Nat.reduceAdd, Nat.reduceLeDiff, ↓reduceIte, Bool.true_and, eq_self]
              refine hE.use ?_
              simp (disch := first | assumption | omega) only [go_sem, Nat.reduceEqDiff, ↓reduceIte, eq_self]
              refine retC_by (hD _ _) (.refl _) ⟨?_, rfl⟩
              first | rfl | (show AV.bool _ = AV.bool _; simp)
            · have h5' := ref_ne h5
              subst h1 h2 h3 h4
              simp (disch := first | assumption | omega) only [go_sem, Nat.reduceEqDiff, Nat.reduceAdd, Nat.reduceLeDiff, ↓reduceIte, Bool.true_and, Bool.false_and, Bool.and_false, eq_self, h5']
              refine retC_by (hD _ _) (.refl _) ⟨?_, rfl⟩
              first | rfl | (show AV.bool _ = AV.bool _; simp [h5])
          · have h4' := ref_ne h4
            subst h1 h2 h3
            simp (disch := first | assumption | omega) only [go_sem, Nat.reduceEqDiff, Nat.reduceAdd, Nat.reduceLeDiff, ↓reduceIte, Bool.true_and, Bool.false_and, Bool.and_false, eq_self, h4']
            refine retC_by (hD _ _) (.refl _) ⟨?_, rfl⟩
            first | rfl | (show AV.bool _ = AV.bool _; simp [h4])
        · subst h1 h2
          simp (disch := first | assumption | omega) only [go_sem, Nat.reduceEqDiff, ↓reduceIte, Bool.true_and, Bool.false_and, Bool.and_false, eq_self, h3]
          refine retC_by (hD _ _) (.refl _) ⟨?_, rfl⟩
          first | rfl | (show AV.bool _ = AV.bool _; simp [h3])
      · subst h1
        simp (disch := first | assumption | omega) only [go_sem, Nat.reduceEqDiff, ↓reduceIte, Bool.false_and, Bool.and_false, eq_self, h2]
        refine retC_by (hD _ _) (.refl _) ⟨?_, rfl⟩
        first | rfl | (show AV.bool _ = AV.bool _; simp [h2])
    · simp (disch := first | assumption | omega) only [go_sem, Nat.reduceEqDiff, ↓reduceIte, Bool.false_and, h1]
      refine retC_by (hD _ _) (.refl _) ⟨?_, rfl⟩
      first | rfl | (show AV.bool _ = AV.bool _; simp [h1])
theorem esame_ok (x y : Nd) (hx : x.size ≤ 1000000000) (hy : y.size ≤ 1000000000) : Pure Tryz.prog 23 [x.av, y.av] (.bool (Nd.same x y)) := esame_le x.size x y (Nat.le_refl _) hx hy
end Go.A
namespace Go.A
open Go.Proofs Go.Lib
mutual
def Nd.map (f : Nd → Nd) : Nd → Nd
  | .mk op n s a b ks => if op = 5 ∨ op = 6 then f (.mk op n s a b ks) else .mk op n s a b (Nd.maps f ks)
def Nd.maps (f : Nd → Nd) : List Nd → List Nd
  | [] => []
  | x :: xs => Nd.map f x :: Nd.maps f xs
end
theorem Nd.maps_map (f : Nd → Nd) : ∀ l : List Nd, Nd.maps f l = l.map (Nd.map f)
  | [] => rfl
  | x :: xs => by rw [Nd.maps, Nd.maps_map f xs]; rfl
def MapF (F : AV) (f : Nd → Nd) (I : ASt → Prop) : Prop := ∃ g cap, F = .func (.func g) [] cap ∧ okFn Tryz.prog g = true ∧ (∀ σ b r, I σ → σ b = none → I (σ.set b r)) ∧
  ∀ x σ, I σ → (x.op = 5 ∨ x.op = 6) → ACalls Tryz.prog g (x.av :: cap) σ fun v σ' => v = (f x).av ∧ σ' = σ
def zeroC : List AV := [.int .i64 0, .int .i64 0, .str [], .int .i64 0, .int .i64 0, .bool false, .bool false, .int .i64 0, .int .i64 0, .bool false, .bool false, .sl .full []]
def rowAt (f : Nd → Nd) (ks : List Nd) (z : List AV) (i : Nat) : List AV := (((ks.take i).map fun x => (Nd.map f x).av).flatMap AV.cells) ++ (List.replicate (ks.length - i) z).flatten
theorem rowAt_pre (f : Nd → Nd) (ks : List Nd) (i : Nat) : (((ks.take i).map fun x => (Nd.map f x).av).flatMap AV.cells).length = (ks.take i).length * 12 := by
  rw [lens_flat (s := 12)]
  · simp
  · intro x hx
    obtain ⟨y, _, rfl⟩ := List.mem_map.1 hx
    exact Nd.av_len _
theorem rowAt_len (f : Nd → Nd) (ks : List Nd) {z : List AV} (hz : z.length = 12) {i : Nat} (hi : i ≤ ks.length) : (rowAt f ks z i).length = ks.length * 12 := by
  unfold rowAt
  rw [List.length_append, rowAt_pre, flatten_len, hz, List.length_take, ← Nat.add_mul]
  congr 1
  omega
theorem rowAt_step (f : Nd → Nd) (ks : List Nd) {z : List AV} (hz : z.length = 12) {i : Nat} {x : Nd} (hx : ks[i]? = some x) :
    ((rowAt f ks z i).take (i * 12) ++ (Nd.map f x).av.cells) ++ (rowAt f ks z i).drop (i * 12 + 12) = rowAt f ks z (i + 1) := by
  rw [List.append_assoc]
  have hlt : i < ks.length := (List.getElem?_eq_some_iff.1 hx).1
  have hp := rowAt_pre f ks i
  rw [List.length_take, Nat.min_eq_left (by omega)] at hp
  have ht : ks.take (i + 1) = ks.take i ++ [x] := by rw [List.take_add_one, hx]; rfl
  have hr : ks.length - i = (ks.length - (i + 1)) + 1 := by omega
  unfold rowAt
  rw [ht, hr, List.replicate_succ, List.flatten_cons, List.map_append, List.flatMap_append]
  generalize (((ks.take i).map fun x => (Nd.map f x).av).flatMap AV.cells) = P at *
  generalize (List.replicate (ks.length - (i + 1)) z).flatten = R
  have e1 : (P ++ (z ++ R)).take (i * 12) = P := by rw [← hp]; simp
  have e2 : (P ++ (z ++ R)).drop (i * 12 + 12) = R := by
    rw [← List.drop_drop, ← hp, List.drop_left, ← hz, List.drop_left]
  rw [e1, e2]
  simp
theorem rowAt_end (f : Nd → Nd) (ks : List Nd) (z : List AV) : rowAt f ks z ks.length = (ks.map fun x => (Nd.map f x).av).flatMap AV.cells := by
  unfold rowAt
  rw [List.take_length, Nat.sub_self]
  simp
theorem rowAt_zero (f : Nd → Nd) (ks : List Nd) (z : List AV) : rowAt f ks z 0 = (List.replicate ks.length z).flatten := by
  unfold rowAt
  simp
theorem map_le (F : AV) (f : Nd → Nd) (I : ASt → Prop) (hF : MapF F f I) : ∀ (k : Nat) (n : Nd), n.size ≤ k → n.size ≤ 1000000000 → ∀ σ, I σ → ACalls Tryz.prog 32 [n.av, F] σ fun v σ' => v = (Nd.map f n).av ∧ σ' = σ
  | 0, n, hk, _ => by have := n.size_pos; omega
  | k + 1, n, hk, hb => by
    intro σ hI
    have ih := map_le F f I hF k
    obtain ⟨g, cap, rfl, hok, hst, hcall⟩ := hF
    obtain ⟨op, m, s, a, b, ks⟩ := n
    have hc0 := hcall (.mk op m s a b ks)
    rw [Nd.size] at hk hb
    have hlen := sizes_len ks
    rw [Nd.map, Nd.maps_map]
    have hav := Nd.av_cs op m s a b ks
    by_cases ho : op = 5 ∨ op = 6
    · rw [if_pos ho]
      obtain ⟨w, hw⟩ : ∃ w, (f (Nd.mk op m s a b ks)) = w := ⟨_, rfl⟩
      rw [hw, hav] at hc0
      rw [hw, hav]
      obtain ⟨wo, wm, ws, wa, wb, wk⟩ := w
      rw [Nd.av_cs] at hc0 ⊢
      generalize ks.map Nd.av = L at *
      generalize wk.map Nd.av = WL at *
      refine a32 (by simp) ?_
      simp (disch := first | assumption | omega) only [go_sem]
      refine boxC_by rfl fun c hc => ?_
      simp (disch := first | assumption | omega) only [go_sem]
      refine allocC_by fun d hd => ?_
      have hd0 := hd
      repeat (with_reducible replace hd := set_none hd; obtain ⟨_, _, hd⟩ := hd)
      have h0 := hc0 _ (hst _ _ (some (.obj zeroC)) (hst _ _ (some (.obj (Nd.cs op m s a b L))) hI hc) hd0) ho
      unfold zeroC Nd.cs at h0
      rcases ho with rfl | rfl
      · simp (disch := first | assumption | omega) only [go_sem, Nat.reduceEqDiff, Nat.reduceLeDiff, ↓reduceIte]
        refine ⟨hok, ?_⟩
        unfold Nd.cs
        refine h0.mono ?_
        rintro v σ' ⟨rfl, rfl⟩
        simp (disch := first | assumption | omega) only [go_sem, Nat.reduceEqDiff, Nat.reduceAdd, Nat.reduceLeDiff, ↓reduceIte, Bool.true_and, ASt.set_set]
        exact retC_by ((Drop.set hc).off (by assumption)) (.refl _) ⟨rfl, rfl⟩
      · simp (disch := first | assumption | omega) only [go_sem, Nat.reduceEqDiff, Nat.reduceLeDiff, Int.reduceEq, ↓reduceIte]
        refine ⟨hok, ?_⟩
        unfold Nd.cs
        refine h0.mono ?_
        rintro v σ' ⟨rfl, rfl⟩
        simp (disch := first | assumption | omega) only [go_sem, Nat.reduceEqDiff, Nat.reduceAdd, Nat.reduceLeDiff, ↓reduceIte, Bool.true_and, ASt.set_set]
        exact retC_by ((Drop.set hc).off (by assumption)) (.refl _) ⟨rfl, rfl⟩
    · rw [if_neg ho, hav, Nd.av_cs]
      have o5 : op ≠ 5 := by omega
      have o6 : op ≠ 6 := by omega
      have hmm : (ks.map (Nd.map f)).map Nd.av = ks.map fun x => (Nd.map f x).av := by rw [List.map_map]; rfl
      rw [hmm]
      have hks : ∀ x ∈ ks, ∀ σ, I σ → ACalls Tryz.prog 32 [x.av, .func (.func g) [] cap] σ fun v σ' => v = (Nd.map f x).av ∧ σ' = σ := fun x hx => by
        have := Nd.size_kid hx
        exact ih x (by omega) (by omega)
      refine a32 (by simp) ?_
      simp (disch := first | assumption | omega) only [go_sem]
      refine boxC_by rfl fun c hc => ?_
      simp (disch := first | assumption | omega) only [go_sem]
      refine allocC_by fun d hd => ?_
      have hd0 := hd
      repeat (with_reducible replace hd := set_none hd; obtain ⟨_, _, hd⟩ := hd)
      by_cases h0 : ks = []
      · subst h0
        simp only [List.map_nil]
        simp (disch := first | assumption | omega) only [go_sem, Nat.reduceEqDiff, Nat.reduceAdd, Nat.reduceLeDiff, Int.reduceLT, ↓reduceIte, o5, o6, ASt.set_set]
        exact retC_by ((Drop.set hc).off (by assumption)) (.refl _) ⟨rfl, rfl⟩
      have hpos : 0 < ks.length := by
        rcases ks with _ | ⟨_, _⟩
        · exact absurd rfl h0
        · simp
      have hpos' : (0 : Int) < ks.length := by omega
      obtain ⟨G, hG⟩ : ∃ G, G = ACode.wp Tryz.prog c32_22 := ⟨_, rfl⟩
      simp (disch := first | assumption | omega) only [go_sem, Nat.reduceEqDiff, ↓reduceIte, o5, o6, hpos']
      refine mkb_own (by omega) (by omega) (by omega) (by omega) fun e he => ?_
      have he0 := he
      repeat (with_reducible replace he := set_none he; obtain ⟨_, _, he⟩ := he)
      rw [Int.toNat_natCast]
      have hz12 : ([.int .i64 0, .int .i64 0, .str [], .int .i64 0, .int .i64 0, .bool false, .bool false, .int .i64 0, .int .i64 0, .bool false, .bool false, .sl .full []] : List AV).length = 12 := rfl
      have hrz := rowAt_zero f ks [.int .i64 0, .int .i64 0, .str [], .int .i64 0, .int .i64 0, .bool false, .bool false, .int .i64 0, .int .i64 0, .bool false, .bool false, .sl .full []]
      have hrl : ∀ i, i ≤ ks.length → (rowAt f ks [.int .i64 0, .int .i64 0, .str [], .int .i64 0, .int .i64 0, .bool false, .bool false, .int .i64 0, .int .i64 0, .bool false, .bool false, .sl .full []] i).length = ks.length * 12 := fun i hi => rowAt_len f ks hz12 hi
      have hrs := fun i x hx => rowAt_step f ks hz12 (i := i) (x := x) hx
      have hre := rowAt_end f ks [.int .i64 0, .int .i64 0, .str [], .int .i64 0, .int .i64 0, .bool false, .bool false, .int .i64 0, .int .i64 0, .bool false, .bool false, .sl .full []]
      rw [← hrz]
      generalize rowAt f ks [.int .i64 0, .int .i64 0, .str [], .int .i64 0, .int .i64 0, .bool false, .bool false, .int .i64 0, .int .i64 0, .bool false, .bool false, .sl .full []] = q at *
      have nce : c ≠ e := by assumption
      have nde : d ≠ e := by assumption
      have ncd : c ≠ d := by assumption
      have hII : ∀ X Y Z : Option Role, I (((σ.set c X).set d Y).set e Z) := fun X Y Z => hst _ _ _ (hst _ _ _ (hst _ _ _ hI hc) (by rw [ASt.set_ne (Ne.symm ncd)]; assumption)) (by rw [ASt.set_ne (Ne.symm nde), ASt.set_ne (Ne.symm nce)]; assumption)
      have hDD : ∀ X Y Z : Option Role, Drop (((σ.set c X).set d Y).set e Z) σ := fun X Y Z => ((Drop.set hc).off (by assumption)).off (by assumption)
      simp (disch := first | assumption | omega) only [go_sem, Nat.reduceEqDiff, ↓reduceIte, ←hG]
      refine wp_loop_by (fun (i : Nat) a1 s2 => i ≤ ks.length ∧ (a1 1 = .func (.func g) [] cap ∧ a1 2 = .ptr c 0 ∧ a1 4 = .ptr d 0 ∧ a1 5 = .msl e 0 ks.length ks.length ∧ a1 28 = .sl .shr (ks.map Nd.av) ∧ a1 29 = .int .i64 ks.length ∧ a1 30 = .int .i64 i) ∧
        s2 = ((σ.set c (some (.obj (Nd.cs op m s a b (ks.map Nd.av))))).set d (some (.obj [.int .i64 0, .int .i64 0, .str [], .int .i64 0, .int .i64 0, .bool false, .bool false, .int .i64 0, .int .i64 0, .bool false, .bool false, .sl .full []]))).set e (some (.obj (q i)))) (fun i => ks.length - i) 0 (Dr.now ⟨Nat.zero_le _, ?_, rfl⟩) ?_
      · simp (disch := first | assumption | omega) only [go_sem, Nat.reduceEqDiff, ↓reduceIte]
      rintro i a1 s2 ⟨hi, hf, rfl⟩
      by_cases hlt : i < ks.length
      · have hlt' : (i : Int) < ks.length := by omega
        have hx : ks[i]? = some (ks[i]'hlt) := List.getElem?_eq_getElem hlt
        have hkx := hks _ (List.getElem_mem hlt)
        obtain ⟨x, hxe⟩ : ∃ x, ks[i]'hlt = x := ⟨_, rfl⟩
        rw [hxe] at hx hkx
        have hmx := Nd.get hx
        have hqs := hrs i x hx
        have hql := hrl i (by omega)
        obtain ⟨y, hy⟩ : ∃ y, Nd.map f x = y := ⟨_, rfl⟩
        rw [hy] at hkx hqs
        obtain ⟨xo, xm, xs, xa, xb, xk⟩ := x
        obtain ⟨yo, ym, ys, ya, yb, yk⟩ := y
        rw [Nd.av_cs] at hmx
        rw [Nd.av_cs, Nd.av_cs] at hkx
        rw [Nd.av_cs, cells_agg] at hqs
        generalize xk.map Nd.av = XK at *
        generalize yk.map Nd.av = YK at *
        generalize hXL : ks.map Nd.av = XL at *
        simp (disch := first | assumption | omega) only [go_sem, Nat.reduceEqDiff, Nat.reduceLeDiff, ↓reduceIte, hf, hlt', hmx]
        refine allocC_by fun t ht => ?_
        have ht0 := ht
        repeat (with_reducible replace ht := set_none ht; obtain ⟨_, _, ht⟩ := ht)
        have hk1 := hkx _ (hst _ _ (some (.obj (Nd.cs xo xm xs xa xb XK))) (hII _ _ _) ht0)
        simp (disch := first | assumption | omega) only [go_sem, Nat.reduceEqDiff, Nat.reduceAdd, Nat.reduceLeDiff, ↓reduceIte, hf, ASt.set_set]
        refine hk1.mono ?_
        rintro v σ' ⟨rfl, rfl⟩
        have hb1 : i * 12 + 12 ≤ (q i).length := by rw [hql]; omega
        have het : e ≠ t := by assumption
        have hsw : ∀ (ρ : ASt) (X Y Z : Option Role), ((ρ.set e X).set t Y).set e Z = (ρ.set e Z).set t Y := fun _ _ _ _ => set_mid het
        simp (disch := first | assumption | omega) only [go_sem, Nat.reduceEqDiff, ↓reduceIte, hf, hb1, hqs, hsw]
        refine ⟨i + 1, by dsimp only; omega, Dr.drop (Drop.set (by rw [ASt.set_ne (Ne.symm het)]; rw [ASt.set_ne (Ne.symm het)] at ht0; exact ht0)) ⟨by omega, ?_, rfl⟩⟩
        simp (disch := first | assumption | omega) only [go_sem, Nat.reduceEqDiff, ↓reduceIte, hf]
      · have hlt' : ¬ (i : Int) < ks.length := by omega
        obtain rfl : i = ks.length := by omega
        rw [hre]
        simp (disch := first | assumption | omega) only [go_sem, ↓reduceIte, hf, hlt']
        rw [hG]
        have hsw1 : ∀ (ρ : ASt) (X Y Z W : Option Role), (((ρ.set c X).set d Y).set e Z).set c W = ((ρ.set c W).set d Y).set e Z := fun ρ X Y Z W => by rw [set_swap (Ne.symm nce), set_mid ncd]
        have hsw2 : ∀ (ρ : ASt) (Y Z W : Option Role), ((ρ.set d Y).set e Z).set d W = (ρ.set d W).set e Z := fun ρ Y Z W => set_mid nde
        unfold Nd.cs
        simp (disch := first | assumption | omega) only [go_sem, Nat.reduceEqDiff, Nat.reduceAdd, Nat.reduceLeDiff, ↓reduceIte, Bool.true_and, hf, hsw1, hsw2]
        refine retC_by (r := .agg [.int .i64 op, .int .i64 m, .str s, .int .i64 a.row, .int .i64 a.col, .bool a.absRow, .bool a.absCol, .int .i64 b.row, .int .i64 b.col, .bool b.absRow, .bool b.absCol, .sl .shr (ks.map fun x => (Nd.map f x).av)]) (hDD _ _ _) ?_ ⟨rfl, rfl⟩
        refine Fz.agg ?_
        refine .cons (.refl _) (.cons (.refl _) (.cons (.refl _) (.cons (.refl _) (.cons (.refl _) (.cons (.refl _) (.cons (.refl _) (.cons (.refl _) (.cons (.refl _) (.cons (.refl _) (.cons (.refl _) (.cons ?_ .nil)))))))))))
        refine .msl 0 _ _ 12 _ (ASt.set_same _ _ _) (by assumption) (by simp) (Nat.le_refl _) (fun y hy => ?_) ?_
        · obtain ⟨z, _, rfl⟩ := List.mem_map.1 hy
          exact Nd.av_len _
        · rw [List.drop_zero, List.take_of_length_le]
          rw [lens_flat (s := 12)]
          · simp
          · intro y hy
            obtain ⟨z, _, rfl⟩ := List.mem_map.1 hy
            exact Nd.av_len _
end Go.A
namespace Go.A
open Go.Proofs Go.Lib
structure Rc where
  row : Int
  col : Int
  rows : Int
  cols : Int
  deriving DecidableEq, Inhabited
def Rc.av (r : Rc) : AV := .agg [.int .i64 r.row, .int .i64 r.col, .int .i64 r.rows, .int .i64 r.cols]
theorem Rc.get {l : List Rc} {i : Nat} {x : Rc} (h : l[i]? = some x) : (l.map Rc.av)[i]? = some x.av := by rw [List.getElem?_map, h]; rfl
def rectN (op : Int) (a b : Ref) : Rc := if op = 5 then ⟨a.row, a.col, 1, 1⟩ else ⟨(normP a b).1.row, (normP a b).1.col, (normP a b).2.row - (normP a b).1.row + 1, (normP a b).2.col - (normP a b).1.col + 1⟩
def addR (out : List Rc) (r : Rc) : List Rc := if r ∈ out then out else out ++ [r]
mutual
def Nd.areas (out : List Rc) : Nd → List Rc
  | .mk op n s a b ks => Nd.areass (if op = 5 ∨ op = 6 then addR out (rectN op a b) else out) ks
def Nd.areass (out : List Rc) : List Nd → List Rc
  | [] => out
  | x :: xs => Nd.areass (Nd.areas out x) xs
end
theorem addR_len (out : List Rc) (r : Rc) : (addR out r).length ≤ out.length + 1 := by unfold addR; split <;> simp
mutual
theorem Nd.areas_len : ∀ (n : Nd) (out : List Rc), (Nd.areas out n).length ≤ out.length + n.size
  | .mk op m s a b ks, out => by
    rw [Nd.areas, Nd.size]
    have h1 := Nd.areass_len ks (if op = 5 ∨ op = 6 then addR out (rectN op a b) else out)
    have h2 : (if op = 5 ∨ op = 6 then addR out (rectN op a b) else out).length ≤ out.length + 1 := by
      split
      · exact addR_len _ _
      · omega
    omega
theorem Nd.areass_len : ∀ (l : List Nd) (out : List Rc), (Nd.areass out l).length ≤ out.length + Nd.sizes l
  | [], out => by rw [Nd.areass, Nd.sizes]; omega
  | x :: xs, out => by
    rw [Nd.areass, Nd.sizes]
    have h1 := Nd.areass_len xs (Nd.areas out x)
    have h2 := Nd.areas_len x out
    omega
end
def idxF (r : Rc) : List Rc → Nat → Int
  | [], _ => -1
  | x :: xs, k => if r = x then k else idxF r xs (k + 1)
theorem idxF_mem (r : Rc) : ∀ (l : List Rc) (k : Nat), decide (0 ≤ idxF r l k) = decide (r ∈ l)
  | [], k => by simp [idxF]
  | x :: xs, k => by
    rw [idxF]
    by_cases h : r = x
    · subst h; simp
    · rw [if_neg h, idxF_mem r xs (k + 1)]; simp [h]
theorem rc_ne {a b : Rc} (h : a ≠ b) : (decide (a.row = b.row) && (decide (a.col = b.col) && (decide (a.rows = b.rows) && decide (a.cols = b.cols)))) = false := by
  obtain ⟨a1, a2, a3, a4⟩ := a
  obtain ⟨b1, b2, b3, b4⟩ := b
  cases hd : (decide (a1 = b1) && (decide (a2 = b2) && (decide (a3 = b3) && decide (a4 = b4)))) with
  | false => rfl
  | true =>
    simp only [Bool.and_eq_true, decide_eq_true_eq] at hd
    obtain ⟨rfl, rfl, rfl, rfl⟩ := hd
    exact absurd rfl h
theorem rcindex_ok (l : List Rc) (r : Rc) (hl : l.length ≤ 1000000000) : Pure Tryz.prog 83 [.sl .shr (l.map Rc.av), r.av] (.int .i64 (idxF r l 0)) := by
  intro σ
  obtain ⟨q, hq⟩ : ∃ q, idxF r l 0 = q := ⟨_, rfl⟩
  rw [hq]
  have hra : r.av = .agg [.int .i64 r.row, .int .i64 r.col, .int .i64 r.rows, .int .i64 r.cols] := rfl
  rw [hra]
  refine a83 (by simp) ?_
  simp (disch := first | assumption | omega) only [go_sem]
  refine boxC_by rfl fun c hc => ?_
  simp (disch := first | assumption | omega) only [go_sem, reduceCtorEq, ↓reduceIte]
  refine wp_loop_on (fun (i : Nat) a1 s2 => (i ≤ l.length ∧ idxF r (l.drop i) i = q) ∧ (a1 0 = .sl .shr (l.map Rc.av) ∧ a1 3 = .ptr c 0 ∧ a1 7 = .int .i64 l.length ∧ a1 8 = .int .i64 i) ∧ s2 = σ.set c (some (.obj [.int .i64 r.row, .int .i64 r.col, .int .i64 r.rows, .int .i64 r.cols]))) (fun i => l.length - i) 0 ⟨⟨Nat.zero_le _, by rw [List.drop_zero]; exact hq⟩, ?_, rfl⟩ ?_
  · simp (disch := first | assumption | omega) only [go_sem, reduceCtorEq, Nat.reduceEqDiff, ↓reduceIte]
  rintro i a1 s2 ⟨⟨hi, hqi⟩, hf, rfl⟩
  by_cases hlt : i < l.length
  · have hlt' : (i : Int) < l.length := by omega
    have hx : l[i]? = some (l[i]'hlt) := List.getElem?_eq_getElem hlt
    rw [List.drop_eq_getElem_cons hlt, idxF] at hqi
    obtain ⟨x, hxe⟩ : ∃ x, l[i]'hlt = x := ⟨_, rfl⟩
    rw [hxe] at hx hqi
    have hmx := Rc.get hx
    rw [show x.av = .agg [.int .i64 x.row, .int .i64 x.col, .int .i64 x.rows, .int .i64 x.cols] from rfl] at hmx
    generalize l.map Rc.av = XL at *
    by_cases he : r = x
    · rw [if_pos he] at hqi
      subst he
      simp (disch := first | assumption | omega) only [go_sem, reduceCtorEq, Nat.reduceEqDiff, Nat.reduceAdd, Nat.reduceLeDiff, ↓reduceIte, Bool.true_and, hf, hlt', hmx, eq_self]
      exact retC_by (Drop.set hc) (.refl _) ⟨by rw [← hqi]; rfl, rfl⟩
    · rw [if_neg he] at hqi
      have he' := rc_ne he
      simp (disch := first | assumption | omega) only [go_sem, reduceCtorEq, Nat.reduceEqDiff, Nat.reduceAdd, Nat.reduceLeDiff, ↓reduceIte, hf, hlt', hmx, he']
      exact ⟨i + 1, by omega, ⟨by omega, hqi⟩, rfl⟩
  · have hlt' : ¬ (i : Int) < l.length := by omega
    rw [List.drop_eq_nil_of_le (by omega), idxF] at hqi
    subst hqi
    simp (disch := first | assumption | omega) only [go_sem, ↓reduceIte, Int.reduceNeg, hf, hlt']
    exact retC_by (Drop.set hc) (.refl _) ⟨rfl, rfl⟩
theorem rccontains_ok (l : List Rc) (r : Rc) (hl : l.length ≤ 1000000000) : Pure Tryz.prog 59 [.sl .shr (l.map Rc.av), r.av] (.bool (decide (r ∈ l))) := by
  intro σ
  have hI := rcindex_ok l r hl
  rw [← idxF_mem r l 0]
  have hra : r.av = .agg [.int .i64 r.row, .int .i64 r.col, .int .i64 r.rows, .int .i64 r.cols] := rfl
  rw [hra] at hI ⊢
  generalize idxF r l 0 = q at *
  generalize l.map Rc.av = XL at *
  refine a59 (by simp) ?_
  simp (disch := first | assumption | omega) only [go_sem]
  refine boxC_by rfl fun c hc => ?_
  simp (disch := first | assumption | omega) only [go_sem, reduceCtorEq, Nat.reduceEqDiff, Nat.reduceAdd, Nat.reduceLeDiff, ↓reduceIte]
  refine hI.use ?_
  simp (disch := first | assumption | omega) only [go_sem, ↓reduceIte]
  exact retC_by (Drop.set hc) (.refl _) ⟨rfl, rfl⟩
theorem refrect_ok (a : Ref) : Pure Tryz.prog 57 [refAV a] (Rc.av ⟨a.row, a.col, 1, 1⟩) := by
  intro σ
  unfold refAV Rc.av
  refine a57 (by simp) ?_
  simp (disch := first | assumption | omega) only [go_sem]
  refine boxC_by rfl fun c hc => ?_
  simp (disch := first | assumption | omega) only [go_sem]
  refine allocC_by fun d hd => ?_
  repeat (with_reducible replace hd := set_none hd; obtain ⟨_, _, hd⟩ := hd)
  simp (disch := first | assumption | omega) only [go_sem, Nat.reduceEqDiff, Nat.reduceAdd, Nat.reduceLeDiff, ↓reduceIte, Bool.true_and, ASt.set_set]
  exact retC_by ((Drop.set hc).off (by assumption)) (.refl _) ⟨rfl, rfl⟩
theorem good_near {r : Ref} (h : r.good = true) : r.near := by
  simp only [Ref.good, decide_eq_true_eq] at h
  unfold Ref.near
  omega
def RO (σ0 : ASt) (b : Nat) (l : List Rc) (σ : ASt) : Prop := GO σ0 b (fun k => [.sl k (l.map Rc.av)]) l.length 4 σ
theorem RO.add {σ0 σ : ASt} {b c : Nat} {l : List Rc} {r : Role} (h : RO σ0 b l σ) (hc : σ c = none) : RO (σ0.set c (some r)) b l (σ.set c (some r)) ∧ c ≠ b ∧ σ0 c = none := GO.add h hc
theorem RO.off {σ0 σ : ASt} {b c : Nat} {l : List Rc} {r : Role} (h : RO (σ0.set c (some r)) b l σ) (hcb : c ≠ b) (hc : σ0 c = none) : ∃ σ', Drop σ σ' ∧ RO σ0 b l σ' := GO.off h hcb hc
theorem RO.at {σ0 σ : ASt} {b x : Nat} {l : List Rc} {r : Role} (h : RO σ0 b l σ) (hx : x ≠ b) (h0 : σ0 x = some r) : σ x = some r := GO.at h hx h0
theorem areass_take {x : Nd} : ∀ {l : List Nd} {i : Nat} {out : List Rc}, l[i]? = some x → Nd.areass out (l.take (i + 1)) = Nd.areas (Nd.areass out (l.take i)) x
  | [], i, out, h => by simp at h
  | y :: l, 0, out, h => by simp at h; subst h; simp [Nd.areass]
  | y :: l, i + 1, out, h => by
    simp only [List.getElem?_cons_succ] at h
    rw [List.take_succ_cons, List.take_succ_cons, Nd.areass, Nd.areass, areass_take h]
theorem areas_le : ∀ (k : Nat) (n : Nd), n.size ≤ k → n.ok → ∀ (σ0 σ : ASt) (b : Nat) (rs : List Rc), RO σ0 b rs σ → rs.length + n.size ≤ 1000000 →
    ACalls Tryz.prog 45 [n.av, .ptr b 0] σ fun v σ' => v = .tuple [] ∧ RO σ0 b (Nd.areas rs n) σ'
  | 0, n, hk, _ => by have := n.size_pos; omega
  | k + 1, n, hk, hn => by
    intro σ0 σ b rs h hb
    have ih := areas_le k
    obtain ⟨op, m, s, a, a2, ks⟩ := n
    rw [Nd.size] at hk hb
    rw [Nd.ok] at hn
    obtain ⟨⟨ho, _, _, _, _, g5, g6, _⟩, hoks⟩ := hn
    have hlen := sizes_len ks
    rw [Nd.areas, Nd.av_cs]
    have hks : ∀ x ∈ ks, ∀ (σ0 σ : ASt) (b : Nat) (rs : List Rc), RO σ0 b rs σ → rs.length + x.size ≤ 1000000 →
        ACalls Tryz.prog 45 [x.av, .ptr b 0] σ fun v σ' => v = .tuple [] ∧ RO σ0 b (Nd.areas rs x) σ' := fun x hx => by
      have := Nd.size_kid hx
      exact ih x (by omega) (Nd.oks_mem.1 hoks x hx)
    refine a45 (by simp) ?_
    obtain ⟨F, hF⟩ : ∃ F, F = ACode.wp Tryz.prog c45_31 := ⟨_, rfl⟩
    simp (disch := first | assumption | omega) only [go_sem]
    refine boxC_by rfl fun c hc => ?_
    obtain ⟨hR1, hcb, hc0⟩ := h.add hc (r := .obj (Nd.cs op m s a a2 (ks.map Nd.av)))
    have hgo : ∀ (R : Role) (d : Nat), (σ.set c (some (.obj (Nd.cs op m s a a2 (ks.map Nd.av))))) d = none → ∀ (a1 : AFr) (σ1 : ASt) (rs' : List Rc), RO ((σ0.set c (some (.obj (Nd.cs op m s a a2 (ks.map Nd.av))))).set d (some R)) b rs' σ1 → rs'.length ≤ rs.length + 1 →
        (a1 1 = .ptr b 0 ∧ a1 2 = .ptr c 0) → F (RetQ [] fun v σ' => v = .tuple [] ∧ RO σ0 b (Nd.areass rs' ks) σ') a1 σ1 := by
      intro R d hd a1 σ1 rs' hR hl1 hf
      obtain ⟨hR2, hdb, hd0⟩ := hR1.add hd (r := R)
      have hcd : c ≠ d := by rintro rfl; rw [ASt.set_same] at hd; cases hd
      have hcell : ∀ {l' : List Rc} {σ1 : ASt}, RO ((σ0.set c (some (.obj (Nd.cs op m s a a2 (ks.map Nd.av))))).set d (some R)) b l' σ1 → σ1 c = some (.obj (Nd.cs op m s a a2 (ks.map Nd.av))) := fun h => h.at hcb (by rw [ASt.set_ne hcd, ASt.set_same])
      have hoff : ∀ {l' : List Rc} {σ1 : ASt}, RO ((σ0.set c (some (.obj (Nd.cs op m s a a2 (ks.map Nd.av))))).set d (some R)) b l' σ1 → ∃ σ', Drop σ1 σ' ∧ RO σ0 b l' σ' := fun h => by
        obtain ⟨σ2, h1, h2⟩ := h.off hdb hd0
        obtain ⟨σ3, h3, h4⟩ := h2.off hcb hc0
        exact ⟨σ3, h1.trans h3, h4⟩
      have hc1 := hcell hR
      generalize (σ0.set c (some (.obj (Nd.cs op m s a a2 (ks.map Nd.av))))).set d (some R) = τ at hR hcell hoff
      rw [hF]
      simp (disch := first | assumption | omega) only [go_sem, ↓reduceIte, hf, hc1]
      refine wp_loop_by (fun (i : Nat) a1 s2 => i ≤ ks.length ∧ (a1 1 = .ptr b 0 ∧ a1 42 = .sl .shr (ks.map Nd.av) ∧ a1 43 = .int .i64 ks.length ∧ a1 44 = .int .i64 i) ∧ RO τ b (Nd.areass rs' (ks.take i)) s2) (fun i => ks.length - i) 0 (Dr.now ⟨Nat.zero_le _, ?_, hR⟩) ?_
      · simp (disch := first | assumption | omega) only [go_sem, Nat.reduceEqDiff, ↓reduceIte, hf]
      rintro i a2 s2 ⟨hi, hf, hRi⟩
      have hli := Nd.areass_len (ks.take i) rs'
      by_cases hlt : i < ks.length
      · have hlt' : (i : Int) < ks.length := by omega
        have hx : ks[i]? = some (ks[i]'hlt) := List.getElem?_eq_getElem hlt
        have hkx := hks _ (List.getElem_mem hlt)
        obtain ⟨x, hxe⟩ : ∃ x, ks[i]'hlt = x := ⟨_, rfl⟩
        rw [hxe] at hx hkx
        have hmx := Nd.get hx
        have hst := sizes_take hx
        have hle2 := sizes_le ks (i + 1)
        have hat := areass_take (out := rs') hx
        obtain ⟨xo, xm, xs, xa, xb, xk⟩ := x
        generalize hxn : Nd.mk xo xm xs xa xb xk = xn at *
        have hav : xn.av = .agg (Nd.cs xo xm xs xa xb (xk.map Nd.av)) := by rw [← hxn, Nd.av_cs]
        rw [hav] at hmx hkx
        generalize xk.map Nd.av = XK at *
        generalize hKL : ks.map Nd.av = KL at *
        simp (disch := first | assumption | omega) only [go_sem, Nat.reduceEqDiff, Nat.reduceLeDiff, ↓reduceIte, hf, hlt', hmx]
        refine allocC_by fun e he => ?_
        obtain ⟨hRe, heb, he0⟩ := hRi.add he (r := .obj (Nd.cs xo xm xs xa xb XK))
        simp (disch := first | assumption | omega) only [go_sem, Nat.reduceEqDiff, Nat.reduceAdd, Nat.reduceLeDiff, ↓reduceIte, hf, ASt.set_set]
        refine (hkx _ _ _ _ hRe (by omega)).mono ?_
        rintro v σ' ⟨rfl, hR4⟩
        simp (disch := first | assumption | omega) only [go_sem, Nat.reduceEqDiff, ↓reduceIte, hf]
        obtain ⟨σ5, hd5, hR5⟩ := hR4.off heb he0
        refine ⟨i + 1, by dsimp only; omega, Dr.drop hd5 ⟨by omega, ?_, by rw [hat]; exact hR5⟩⟩
        simp (disch := first | assumption | omega) only [go_sem, Nat.reduceEqDiff, ↓reduceIte, hf]
      · have hlt' : ¬ (i : Int) < ks.length := by omega
        rw [List.take_of_length_le (by omega)] at hRi
        simp (disch := first | assumption | omega) only [go_sem, ↓reduceIte, hf, hlt']
        obtain ⟨σ5, hd5, hR5⟩ := hoff hRi
        exact retC_by hd5 (.refl _) ⟨rfl, hR5⟩
    have hap : ∀ (q : Rc) (d : Nat), (σ.set c (some (.obj (Nd.cs op m s a a2 (ks.map Nd.av))))) d = none → d ≠ b ∧ ∃ k, Grown ((((σ0.set c (some (.obj (Nd.cs op m s a a2 (ks.map Nd.av))))).set d (some (.obj [.int .i64 q.row, .int .i64 q.col, .int .i64 q.rows, .int .i64 q.cols])))).set b (some (.obj [.sl k (rs.map Rc.av)]))) ((σ.set c (some (.obj (Nd.cs op m s a a2 (ks.map Nd.av))))).set d (some (.obj [.int .i64 q.row, .int .i64 q.col, .int .i64 q.rows, .int .i64 q.cols]))) k rs.length 4 := fun q d hd => by
      obtain ⟨⟨k, hg⟩, hdb, _⟩ := hR1.add hd (r := .obj [.int .i64 q.row, .int .i64 q.col, .int .i64 q.rows, .int .i64 q.cols])
      exact ⟨hdb, k, hg⟩
    have hno : ∀ (d : Nat), (σ.set c (some (.obj (Nd.cs op m s a a2 (ks.map Nd.av))))) d = none → RO ((σ0.set c (some (.obj (Nd.cs op m s a a2 (ks.map Nd.av))))).set d (some (.obj [.int .i64 0, .int .i64 0, .int .i64 0, .int .i64 0]))) b rs ((σ.set c (some (.obj (Nd.cs op m s a a2 (ks.map Nd.av))))).set d (some (.obj [.int .i64 0, .int .i64 0, .int .i64 0, .int .i64 0]))) := fun d hd => (hR1.add hd).1
    by_cases h56 : op = 5 ∨ op = 6
    · rw [if_pos h56]
      have hq : ∃ q : Rc, rectN op a a2 = q := ⟨_, rfl⟩
      obtain ⟨q, hq⟩ := hq
      rw [hq]
      have hrr := refrect_ok a
      have harr : op = 6 → Pure Tryz.prog 58 [areaAV a a2] q.av := fun h6 => by
        have := rect_ok a a2 (good_near (g5 h56)) (good_near (g6 h6))
        rw [← hq]
        unfold rectN
        rw [if_neg (by omega)]
        exact this
      have hrr5 : op = 5 → Pure Tryz.prog 57 [refAV a] q.av := fun h5 => by
        rw [← hq]
        unfold rectN
        rw [if_pos h5]
        exact hrr
      have hC := rccontains_ok rs q (by omega)
      have hqa : q.av = .agg [.int .i64 q.row, .int .i64 q.col, .int .i64 q.rows, .int .i64 q.cols] := rfl
      rw [hqa] at harr hrr5 hC
      unfold areaAV at harr
      unfold refAV at hrr5
      have mid : ∀ (a1 : AFr) (d : Nat), (σ.set c (some (.obj (Nd.cs op m s a a2 (ks.map Nd.av))))) d = none → (a1 1 = .ptr b 0 ∧ a1 2 = .ptr c 0 ∧ a1 4 = .ptr d 0 ∧ a1 5 = .bool true) →
          ACode.wp Tryz.prog c45_17 (SeqQ F (RetQ [] fun v σ' => v = .tuple [] ∧ RO σ0 b (Nd.areass (addR rs q) ks) σ')) a1 ((σ.set c (some (.obj (Nd.cs op m s a a2 (ks.map Nd.av))))).set d (some (.obj [.int .i64 q.row, .int .i64 q.col, .int .i64 q.rows, .int .i64 q.cols]))) := by
        intro a1 d hd hf
        obtain ⟨hdb, k, hg⟩ := hap q d hd
        have hgo2 := hgo (.obj [.int .i64 q.row, .int .i64 q.col, .int .i64 q.rows, .int .i64 q.cols]) d hd
        have hbc := GO.cell (cs := fun k => [.sl k (rs.map Rc.av)]) hg
        have hdc : ((σ.set c (some (.obj (Nd.cs op m s a a2 (ks.map Nd.av))))).set d (some (.obj [.int .i64 q.row, .int .i64 q.col, .int .i64 q.rows, .int .i64 q.cols]))) d = some (.obj [.int .i64 q.row, .int .i64 q.col, .int .i64 q.rows, .int .i64 q.cols]) := ASt.set_same _ _ _
        generalize (σ.set c (some (.obj (Nd.cs op m s a a2 (ks.map Nd.av))))).set d (some (.obj [.int .i64 q.row, .int .i64 q.col, .int .i64 q.rows, .int .i64 q.cols])) = σ1 at *
        generalize (σ0.set c (some (.obj (Nd.cs op m s a a2 (ks.map Nd.av))))).set d (some (.obj [.int .i64 q.row, .int .i64 q.col, .int .i64 q.rows, .int .i64 q.cols])) = τ at *
        have hml : (rs.map Rc.av).length = rs.length := List.length_map ..
        by_cases hm : q ∈ rs
        · rw [decide_eq_true hm] at hC
          have hadd : addR rs q = rs := if_pos hm
          rw [hadd]
          simp (disch := first | assumption | omega) only [go_sem, Nat.reduceEqDiff, Nat.reduceAdd, Nat.reduceLeDiff, ↓reduceIte, hf, hbc, hdc]
          refine ACalls.shr (by simp (disch := first | assumption | omega) only [go_sem]) (hC.use ?_)
          simp (disch := first | assumption | omega) only [go_sem, Nat.reduceEqDiff, ↓reduceIte]
          refine hgo2 _ _ rs ⟨k, hg⟩ (by omega) ?_
          simp (disch := first | assumption | omega) only [go_sem, Nat.reduceEqDiff, ↓reduceIte, hf]
        · rw [decide_eq_false hm] at hC
          have hadd : addR rs q = rs ++ [q] := if_neg hm
          rw [hadd]
          simp (disch := first | assumption | omega) only [go_sem, Nat.reduceEqDiff, Nat.reduceAdd, Nat.reduceLeDiff, ↓reduceIte, hf, hbc, hdc]
          refine ACalls.shr (by simp (disch := first | assumption | omega) only [go_sem]) (hC.use ?_)
          simp (disch := first | assumption | omega) only [go_sem, Nat.reduceEqDiff, Nat.reduceAdd, Nat.reduceLeDiff, ↓reduceIte, Bool.true_and, hf, hbc, hdc]
          refine appC_by (bytes := 32) (xs := rs.map Rc.av) (ys := [.agg [.int .i64 q.row, .int .i64 q.col, .int .i64 q.rows, .int .i64 q.cols]]) (by rw [hml]; exact hg) rfl rfl (by rw [hml]; simp only [List.length_cons, List.length_nil]; omega) (by rw [hml]; simp only [List.length_cons, List.length_nil]; omega) fun k' σ' hg' => ?_
          have hbc' := hg'.at (ASt.set_same _ _ _)
          have hR' : RO τ b (rs ++ [q]) (σ'.set b (some (.obj [.sl k' (rs.map Rc.av ++ [.agg [.int .i64 q.row, .int .i64 q.col, .int .i64 q.rows, .int .i64 q.cols]])]))) := by
            have h3 := hg'.obj (r' := .obj [.sl k' (rs.map Rc.av ++ [.agg [.int .i64 q.row, .int .i64 q.col, .int .i64 q.rows, .int .i64 q.cols]])])
            refine ⟨k', ?_⟩
            have e1 : (rs ++ [q]).map Rc.av = rs.map Rc.av ++ [AV.agg [.int .i64 q.row, .int .i64 q.col, .int .i64 q.rows, .int .i64 q.cols]] := by simp [Rc.av]
            have e2 : (rs ++ [q]).length = (rs.map Rc.av ++ [AV.agg [.int .i64 q.row, .int .i64 q.col, .int .i64 q.rows, .int .i64 q.cols]]).length := by simp
            rw [e2]
            dsimp only
            rw [e1]
            exact h3
          simp (disch := first | assumption | omega) only [go_sem, Nat.reduceEqDiff, Nat.reduceLeDiff, ↓reduceIte, Bool.true_and, hbc']
          refine hgo2 _ _ (rs ++ [q]) hR' (by simp) ?_
          simp (disch := first | assumption | omega) only [go_sem, Nat.reduceEqDiff, ↓reduceIte, hf]
      obtain ⟨M, hM⟩ : ∃ M, M = ACode.wp Tryz.prog c45_17 := ⟨_, rfl⟩
      rw [← hM] at mid
      by_cases h5 : op = 5
      · have hrr5' := hrr5 h5
        subst h5
        simp (disch := first | assumption | omega) only [go_sem]
        refine allocC_by fun d hd => ?_
        have hcd : c ≠ d := by rintro rfl; rw [ASt.set_same] at hd; cases hd
        simp (disch := first | assumption | omega) only [go_sem, Nat.reduceEqDiff, Nat.reduceAdd, Nat.reduceLeDiff, ↓reduceIte, Bool.true_and, ASt.set_set]
        refine hrr5'.use ?_
        simp (disch := first | assumption | omega) only [go_sem, Nat.reduceEqDiff, Nat.reduceAdd, Nat.reduceLeDiff, ↓reduceIte, Bool.true_and, ASt.set_set, ←hF, ←hM]
        refine mid _ d hd ?_
        simp (disch := first | assumption | omega) only [go_sem, Nat.reduceEqDiff, ↓reduceIte]
      · have h6 : op = 6 := by omega
        have harr' := harr h6
        subst h6
        simp (disch := first | assumption | omega) only [go_sem]
        refine allocC_by fun d hd => ?_
        have hcd : c ≠ d := by rintro rfl; rw [ASt.set_same] at hd; cases hd
        simp (disch := first | assumption | omega) only [go_sem, Nat.reduceEqDiff, Nat.reduceAdd, Nat.reduceLeDiff, Int.reduceEq, ↓reduceIte, Bool.true_and, ASt.set_set]
        refine harr'.use ?_
        simp (disch := first | assumption | omega) only [go_sem, Nat.reduceEqDiff, Nat.reduceAdd, Nat.reduceLeDiff, ↓reduceIte, Bool.true_and, ASt.set_set, ←hF, ←hM]
        refine mid _ d hd ?_
        simp (disch := first | assumption | omega) only [go_sem, Nat.reduceEqDiff, ↓reduceIte]
    · rw [if_neg h56]
      have o5 : op ≠ 5 := by omega
      have o6 : op ≠ 6 := by omega
      simp (disch := first | assumption | omega) only [go_sem]
      refine allocC_by fun d hd => ?_
      have hcd : c ≠ d := by rintro rfl; rw [ASt.set_same] at hd; cases hd
      simp (disch := first | assumption | omega) only [go_sem, Nat.reduceEqDiff, Nat.reduceAdd, Nat.reduceLeDiff, ↓reduceIte, Bool.true_and, o5, o6, ASt.set_set, ←hF]
      refine hgo _ d hd _ _ rs (hno d hd) (by omega) ?_
      simp (disch := first | assumption | omega) only [go_sem, Nat.reduceEqDiff, ↓reduceIte]
theorem Areas_ok (n : Nd) (hn : n.ok) (hb : n.size ≤ 1000000) : Pure Tryz.prog 25 [n.av] (.sl .shr ((Nd.areas [] n).map Rc.av)) := by
  intro σ
  have hA := areas_le n.size n (Nat.le_refl _) hn
  obtain ⟨op, m, s, a, a2, ks⟩ := n
  have hav := Nd.av_cs op m s a a2 ks
  generalize hnn : Nd.mk op m s a a2 ks = nn at *
  rw [hav] at hA ⊢
  generalize ks.map Nd.av = L at *
  refine a25 (by simp) ?_
  simp (disch := first | assumption | omega) only [go_sem]
  refine boxC_by rfl fun c hc => ?_
  simp (disch := first | assumption | omega) only [go_sem]
  refine allocC_by fun d hd => ?_
  have hd0 := hd
  repeat (with_reducible replace hd := set_none hd; obtain ⟨_, _, hd⟩ := hd)
  have hR : RO (σ.set c (some (.obj (Nd.cs op m s a a2 L)))) d [] ((σ.set c (some (.obj (Nd.cs op m s a a2 L)))).set d (some (.obj [.sl .full []]))) := ⟨.full, .inl ⟨rfl, rfl, rfl⟩⟩
  simp (disch := first | assumption | omega) only [go_sem, Nat.reduceEqDiff, Nat.reduceLeDiff, ↓reduceIte]
  refine (hA _ _ _ _ hR (by simpa using hb)).mono ?_
  rintro v σ' ⟨rfl, k, hg⟩
  have hdc := GO.cell (cs := fun k => [.sl k ((Nd.areas [] nn).map Rc.av)]) hg
  simp (disch := first | assumption | omega) only [go_sem, Nat.reduceEqDiff, ↓reduceIte, hdc]
  refine retC_by ?_ (.sl _ _) ⟨rfl, rfl⟩
  exact (hg.drop.trans (Drop.set hd0)).trans (Drop.set hc)
end Go.A
namespace Go.A
open Go.Proofs Go.Lib
structure Pt where
  op : Int
  n : Int
  s : List UInt8
  a : Ref
  b : Ref
  deriving Inhabited
def missN : Nd := .mk 23 0 [] .zero .zero []
end Go.A
namespace Go.A
open Go.Proofs Go.Lib
def zero12 : List AV := [.int .i64 0, .int .i64 0, .str [], .int .i64 0, .int .i64 0, .bool false, .bool false, .int .i64 0, .int .i64 0, .bool false, .bool false, .sl .full []]
theorem OwnSl.put {σ0 σ : ASt} {d : Nat} {r : Role} {v : AV} {xs : List AV} {s : Nat} (h : OwnSl σ0 σ v xs s) (hd : σ0 d = some r) (r' : Option Role) : OwnSl (σ0.set d r') (σ.set d r') v xs s := by
  rcases h with ⟨h1, h2, rfl⟩ | ⟨b, c, rest, h1, h2, h3, h4, rfl⟩
  · exact .inl ⟨h1, h2, rfl⟩
  · have hbd : b ≠ d := by rintro rfl; rw [hd] at h4; cases h4
    exact .inr ⟨b, c, rest, h1, h2, h3, by rw [ASt.set_ne hbd]; exact h4, set_swap hbd⟩
theorem Drop.had {σ σ' : ASt} {b : Nat} {r : Role} (h : Drop σ σ') (hb : σ' b = some r) : σ b = some r := by
  rcases h b with h1 | h1
  · rw [← h1]; exact hb
  · rw [h1] at hb; cases hb
theorem Drop.nil {σ σ' : ASt} {b : Nat} (h : Drop σ σ') (hb : σ b = none) : σ' b = none := by
  rcases h b with h1 | h1
  · rw [h1]; exact hb
  · exact h1
end Go.A
namespace Go.A
open Go.Proofs Go.Lib
structure PSt where
  i : Nat
  deep : Int
  err : Int
  bad : Int
  deriving DecidableEq
def endT : Tok := ⟨0, [], 0, 0⟩
def zN : Nd := .mk 0 0 [] .zero .zero []
section
variable (T : List Tok)
def PSt.next (s : PSt) : PSt := { s with i := s.i + 1 }
def curT (s : PSt) : Tok := if s.err ≠ 0 then endT else T.getD s.i endT
def failP (s : PSt) (e : Int) : PSt := if s.err = 0 then { s with err := e, bad := ((T.getD s.i endT).at' : Nat) } else s
def isOp (s : PSt) (x : List UInt8) : Bool := decide ((curT T s).kind = 6) && decide ((curT T s).text = x)
def mustP (s : PSt) (x : List UInt8) : PSt := if isOp T s x then s.next else failP T s 10
def enterP (s : PSt) : PSt := if 40 < s.deep + 1 then failP T { s with deep := s.deep + 1 } 12 else { s with deep := s.deep + 1 }
def leaveP (s : PSt) : PSt := { s with deep := s.deep - 1 }
def stepP1 (s : PSt) : PSt := if s.err = 0 then s.next else s
def levelsL : List (List (List UInt8)) := [[[61], [60, 62], [60], [60, 61], [62], [62, 61]], [[38]], [[43], [45]], [[42], [47]], [[94]]]
def idxS (x : List UInt8) : List (List UInt8) → Nat → Int
  | [], _ => -1
  | y :: l, i => if x = y then i else idxS x l (i + 1)
def idxP (l : List (List UInt8)) (x : List UInt8) : Int := idxS x l 0
theorem idxS_mem (x : List UInt8) : ∀ (l : List (List UInt8)) (k : Nat), decide (0 ≤ idxS x l k) = decide (x ∈ l)
  | [], k => by simp [idxS]
  | y :: l, k => by
    rw [idxS]
    by_cases h : x = y
    · subst h; simp
    · rw [if_neg h, idxS_mem x l (k + 1)]; simp [h]
theorem idxS_rng (x : List UInt8) : ∀ (l : List (List UInt8)) (k : Nat), -1 ≤ idxS x l k ∧ idxS x l k ≤ k + l.length
  | [], k => by simp only [idxS]; omega
  | y :: l, k => by
    rw [idxS]
    split
    · simp only [List.length_cons]; omega
    · have := idxS_rng x l (k + 1); simp only [List.length_cons]; omega
def sgn (s : PSt) (lvl : Nat) : Bool := decide ((curT T s).kind = 6) && decide ((curT T s).text ∈ levelsL.getD lvl [])
def refT (t : Tok) : Ref := (parseP t.text).1
def areaP (s : PSt) : Nd × PSt :=
  if isOp T s.next [58] = false then (.mk 5 0 [] (refT (curT T s)) .zero [], s.next)
  else if (curT T s.next.next).kind ≠ 4 then (zN, failP T s.next.next 10)
  else (.mk 6 0 [] (refT (curT T s)) (refT (curT T s.next.next)) [], s.next.next.next)
mutual
def betwP : Nat → Nat → PSt → Option (Nd × PSt)
  | 0, _, _ => none
  | f + 1, lvl, s => if lvl = 5 then signedP f s else match betwP f (lvl + 1) s with
    | none => none
    | some r => loopP f lvl r.1 r.2
def loopP : Nat → Nat → Nd → PSt → Option (Nd × PSt)
  | 0, _, _, _ => none
  | f + 1, lvl, n, s => if sgn T s lvl = true then (match betwP f (lvl + 1) s.next with
    | none => none
    | some r => loopP f lvl (.mk (10 + idxP signL (curT T s).text) 0 [] .zero .zero [n, r.1]) r.2) else some (n, s)
def signedP : Nat → PSt → Option (Nd × PSt)
  | 0, _ => none
  | f + 1, s => if isOp T s [45] = true then (match signedP f (stepP1 (enterP T s)) with
      | none => none
      | some r => some (.mk 7 0 [] .zero .zero [r.1], leaveP r.2))
    else if isOp T s [43] = true then (match signedP f (stepP1 (enterP T s)) with
      | none => none
      | some r => some (.mk 8 0 [] .zero .zero [r.1], leaveP r.2))
    else hundredP f s
def hundredP : Nat → PSt → Option (Nd × PSt)
  | 0, _ => none
  | f + 1, s => match primP f s with
    | none => none
    | some r => hloopP f r.1 r.2
def hloopP : Nat → Nd → PSt → Option (Nd × PSt)
  | 0, _, _ => none
  | f + 1, n, s => if isOp T s [37] = true then hloopP f (.mk 9 0 [] .zero .zero [n]) s.next else some (n, s)
def primP : Nat → PSt → Option (Nd × PSt)
  | 0, _ => none
  | f + 1, s =>
    if (curT T s).kind = 1 then (match parseD (curT T s).text with
      | none => some (zN, failP T s 10)
      | some v => some (.mk 1 v [] .zero .zero [], s.next))
    else if (curT T s).kind = 2 then some (.mk 2 0 (curT T s).text .zero .zero [], s.next)
    else if (curT T s).kind = 5 then some (.mk 4 ((idxP errL (curT T s).text + 1) * 10000) [] .zero .zero [], s.next)
    else if (curT T s).kind = 4 then some (areaP T s)
    else if (curT T s).kind = 3 then nameP f s
    else if isOp T s [40] = true then (match betwP f 0 (stepP1 (enterP T s)) with
      | none => none
      | some r => some (r.1, leaveP (mustP T r.2 [41])))
    else some (zN, failP T s 10)
def nameP : Nat → PSt → Option (Nd × PSt)
  | 0, _ => none
  | f + 1, s =>
    if (T.getD (s.i + 1) endT).kind = 6 ∧ (T.getD (s.i + 1) endT).text = [40] then
      (if (enterP T s).err ≠ 0 then some (zN, leaveP (enterP T s))
       else match argsP f (enterP T s).next.next with
        | none => none
        | some r => some (.mk 22 0 (curT T s).text .zero .zero r.1, leaveP r.2))
    else if (curT T s).text = [84, 82, 85, 69] then some (.mk 3 1 [] .zero .zero [], s.next)
    else if (curT T s).text = [70, 65, 76, 83, 69] then some (.mk 3 0 [] .zero .zero [], s.next)
    else some (zN, failP T s 10)
def argsP : Nat → PSt → Option (List Nd × PSt)
  | 0, _ => none
  | f + 1, s => if isOp T s [41] = true then some ([], s.next) else aloopP f [] s
def aloopP : Nat → List Nd → PSt → Option (List Nd × PSt)
  | 0, _, _ => none
  | f + 1, l, s => if s.err ≠ 0 then some (l, s) else
    match (if isOp T s [44] = true ∨ isOp T s [41] = true then some (missN, s) else betwP f 0 s) with
    | none => none
    | some r => if isOp T r.2 [44] = true then aloopP f (l ++ [r.1]) r.2.next else some (l ++ [r.1], mustP T r.2 [41])
end
def parseT (f : Nat) (s : List UInt8) : Option (Nd × Int × Int) :=
  if (lexP s).2.2 ≠ 0 then some (zN, (lexP s).2.1, (lexP s).2.2) else
  match betwP (lexP s).1 f 0 ⟨0, 0, 0, 0⟩ with
  | none => none
  | some r =>
    if (if (curT (lexP s).1 r.2).kind ≠ 0 then failP (lexP s).1 r.2 10 else r.2).err ≠ 0 then some (zN, (if (curT (lexP s).1 r.2).kind ≠ 0 then failP (lexP s).1 r.2 10 else r.2).bad, (if (curT (lexP s).1 r.2).kind ≠ 0 then failP (lexP s).1 r.2 10 else r.2).err)
    else some (r.1, 0, 0)
end
structure Ends (T : List Tok) : Prop where
  pos : 0 < T.length
  last : ∀ i, i + 1 = T.length → (T.getD i endT).kind = 0
  more : ∀ i, i < T.length → (T.getD i endT).kind ≠ 0 → i + 1 < T.length
structure Fit (T : List Tok) (s : PSt) : Prop where
  i : s.i < T.length
  d0 : 0 ≤ s.deep
  d1 : s.deep ≤ 41
  d2 : s.err = 0 → s.deep ≤ 40
structure Went (T : List Tok) (s s' : PSt) : Prop where
  fit : Fit T s'
  le : s.i ≤ s'.i
  deep : s'.deep = s.deep
  err : s.err ≠ 0 → s'.err = s.err ∧ s'.i = s.i
section
variable {T : List Tok}
theorem Went.refl {s : PSt} (h : Fit T s) : Went T s s := ⟨h, Nat.le_refl _, rfl, fun _ => ⟨rfl, rfl⟩⟩
theorem Went.trans {s s' s'' : PSt} (h : Went T s s') (k : Went T s' s'') : Went T s s'' :=
  ⟨k.fit, Nat.le_trans h.le k.le, k.deep.trans h.deep, fun he => by
    obtain ⟨h1, h2⟩ := h.err he
    obtain ⟨k1, k2⟩ := k.err (by rw [h1]; exact he)
    exact ⟨k1.trans h1, k2.trans h2⟩⟩
theorem Fit.next {s : PSt} (hT : Ends T) (h : Fit T s) (hk : (curT T s).kind ≠ 0) : Fit T s.next ∧ s.err = 0 := by
  unfold curT at hk
  split at hk
  · exact absurd rfl hk
  · rename_i he
    have := hT.more s.i h.i hk
    exact ⟨⟨this, h.d0, h.d1, h.d2⟩, by simpa using he⟩
theorem Went.next {s : PSt} (hT : Ends T) (h : Fit T s) (hk : (curT T s).kind ≠ 0) : Went T s s.next :=
  ⟨(h.next hT hk).1, Nat.le_succ _, rfl, fun he => absurd (h.next hT hk).2 he⟩
theorem Fit.fail {s : PSt} (h : Fit T s) (e : Int) (he : e ≠ 0) : Fit T (failP T s e) := by
  unfold failP
  split
  · exact ⟨h.i, h.d0, h.d1, fun h0 => absurd h0 he⟩
  · exact h
theorem Went.fail {s : PSt} (h : Fit T s) (e : Int) (he : e ≠ 0) : Went T s (failP T s e) := by
  refine ⟨h.fail e he, ?_, ?_, fun h0 => ?_⟩
  · unfold failP; split <;> exact Nat.le_refl _
  · unfold failP; split <;> rfl
  · unfold failP; rw [if_neg h0]; exact ⟨rfl, rfl⟩
theorem isOp_kind {s : PSt} {x : List UInt8} (h : isOp T s x = true) : (curT T s).kind ≠ 0 := by
  unfold isOp at h
  simp only [Bool.and_eq_true, decide_eq_true_eq] at h
  omega
theorem sgn_kind {s : PSt} {l : Nat} (h : sgn T s l = true) : (curT T s).kind ≠ 0 := by
  unfold sgn at h
  simp only [Bool.and_eq_true, decide_eq_true_eq] at h
  omega
theorem Went.must {s : PSt} (hT : Ends T) (h : Fit T s) (x : List UInt8) : Went T s (mustP T s x) := by
  unfold mustP
  split
  · rename_i hx; exact Went.next hT h (isOp_kind hx)
  · exact Went.fail h 10 (by decide)
theorem enter_fit {s : PSt} (hT : Ends T) (h : Fit T s) (hk : (curT T s).kind ≠ 0) : Fit T (stepP1 (enterP T s)) ∧ (stepP1 (enterP T s)).deep = s.deep + 1 ∧ s.i ≤ (stepP1 (enterP T s)).i := by
  obtain ⟨h1, h2⟩ := h.next hT hk
  have hd := h.d2 h2
  unfold enterP
  split
  · unfold failP
    dsimp only
    rw [if_pos h2]
    unfold stepP1
    dsimp only
    rw [if_neg (by decide)]
    exact ⟨⟨h.i, by have := h.d0; dsimp only; omega, by dsimp only; omega, fun h0 => absurd h0 (by dsimp only; decide)⟩, rfl, Nat.le_refl _⟩
  · unfold stepP1
    dsimp only
    rw [if_pos h2]
    exact ⟨⟨h1.i, by have := h.d0; dsimp only [PSt.next]; omega, by dsimp only [PSt.next]; omega, fun _ => by dsimp only [PSt.next]; omega⟩, rfl, Nat.le_succ _⟩
theorem Went.leave {s s1 s2 : PSt} (h1 : s1.deep = s.deep + 1) (hle : s.i ≤ s1.i) (h0 : s.err = 0) (hs : Fit T s) (h : Went T s1 s2) : Went T s (leaveP s2) := by
  have hd := h.deep
  have e : (leaveP s2).deep = s2.deep - 1 := rfl
  have := hs.d0
  have := hs.d2 h0
  exact ⟨⟨h.fit.i, by omega, by omega, fun _ => by omega⟩, Nat.le_trans hle h.le, by omega, fun he => absurd h0 he⟩
theorem cur_err {s : PSt} (h : (curT T s).kind ≠ 0) : s.err = 0 := by
  unfold curT at h
  split at h
  · exact absurd rfl h
  · rename_i he; simpa using he
theorem cur_at {s : PSt} (h : s.err = 0) : curT T s = T.getD s.i endT := by unfold curT; rw [if_neg (by simp [h])]
theorem Went.area {s : PSt} (hT : Ends T) (h : Fit T s) (hk : (curT T s).kind = 4) : Went T s (areaP T s).2 := by
  have h1 := Went.next hT h (by omega)
  unfold areaP
  split
  · exact h1
  · rename_i ho
    have ho' : isOp T s.next [58] = true := by simpa using ho
    have h2 := h1.trans (Went.next hT h1.fit (isOp_kind ho'))
    split
    · exact h2.trans (Went.fail h2.fit 10 (by decide))
    · rename_i hk2
      exact h2.trans (Went.next hT h2.fit (by omega))
structure WentF (T : List Tok) (f : Nat) : Prop where
  betw : ∀ lvl s r, betwP T f lvl s = some r → Fit T s → Went T s r.2
  loop : ∀ lvl n s r, loopP T f lvl n s = some r → Fit T s → Went T s r.2
  signed : ∀ s r, signedP T f s = some r → Fit T s → Went T s r.2
  hundred : ∀ s r, hundredP T f s = some r → Fit T s → Went T s r.2
  hloop : ∀ n s r, hloopP T f n s = some r → Fit T s → Went T s r.2
  prim : ∀ s r, primP T f s = some r → Fit T s → Went T s r.2
  name : ∀ s r, nameP T f s = some r → Fit T s → (curT T s).kind = 3 → Went T s r.2
  args : ∀ s r, argsP T f s = some r → Fit T s → Went T s r.2
  aloop : ∀ l s r, aloopP T f l s = some r → Fit T s → Went T s r.2
theorem enter2 {s : PSt} (hT : Ends T) (h : Fit T s) (hk : (curT T s).kind ≠ 0) (he : (enterP T s).err = 0) : Fit T (enterP T s).next ∧ (enterP T s).deep = s.deep + 1 ∧ (enterP T s).i = s.i ∧ (enterP T s).next = stepP1 (enterP T s) := by
  have h1 := enter_fit hT h hk
  have e : stepP1 (enterP T s) = (enterP T s).next := if_pos he
  rw [e] at h1
  refine ⟨h1.1, h1.2.1, ?_, e.symm⟩
  unfold enterP failP
  split
  · split <;> rfl
  · rfl
theorem enter_err {s : PSt} (hT : Ends T) (h : Fit T s) (h0 : s.err = 0) : Fit T (enterP T s) ∧ (enterP T s).deep = s.deep + 1 ∧ (enterP T s).i = s.i := by
  have hd := h.d2 h0
  have := h.d0
  unfold enterP
  split
  · unfold failP
    dsimp only
    rw [if_pos h0]
    exact ⟨⟨h.i, by dsimp only; omega, by dsimp only; omega, fun h => absurd h (by dsimp only; decide)⟩, rfl, rfl⟩
  · exact ⟨⟨h.i, by dsimp only; omega, by dsimp only; omega, fun _ => by dsimp only; omega⟩, rfl, rfl⟩
theorem wentF (hT : Ends T) : ∀ f, WentF T f
  | 0 => by
    constructor
    all_goals intros
    all_goals first
      | (rename_i h _; simp only [betwP, loopP, signedP, hundredP, hloopP, primP, argsP, aloopP, reduceCtorEq] at h)
      | (rename_i h _ _; simp only [nameP, reduceCtorEq] at h)
  | f + 1 => by
    have ih := wentF hT f
    constructor
    · intro lvl s r h hf
      rw [betwP] at h
      split at h
      · exact ih.signed s r h hf
      · split at h
        · cases h
        · rename_i r1 h1
          have w1 := ih.betw _ _ _ h1 hf
          exact w1.trans (ih.loop _ _ _ _ h w1.fit)
    · intro lvl n s r h hf
      rw [loopP] at h
      split at h
      · rename_i hk
        split at h
        · cases h
        · rename_i r1 h1
          have w0 := Went.next hT hf (sgn_kind hk)
          have w1 := w0.trans (ih.betw _ _ _ h1 w0.fit)
          exact w1.trans (ih.loop _ _ _ _ h w1.fit)
      · injection h with h; subst h; exact Went.refl hf
    · intro s r h hf
      rw [signedP] at h
      split at h
      · rename_i hk
        split at h
        · cases h
        · rename_i r1 h1
          injection h with h; subst h
          obtain ⟨g1, g2, g3⟩ := enter_fit hT hf (isOp_kind hk)
          exact Went.leave g2 g3 (cur_err (isOp_kind hk)) hf (ih.signed _ _ h1 g1)
      split at h
      · rename_i hk
        split at h
        · cases h
        · rename_i r1 h1
          injection h with h; subst h
          obtain ⟨g1, g2, g3⟩ := enter_fit hT hf (isOp_kind hk)
          exact Went.leave g2 g3 (cur_err (isOp_kind hk)) hf (ih.signed _ _ h1 g1)
      · exact ih.hundred _ _ h hf
    · intro s r h hf
      rw [hundredP] at h
      split at h
      · cases h
      · rename_i r1 h1
        have w1 := ih.prim _ _ h1 hf
        exact w1.trans (ih.hloop _ _ _ h w1.fit)
    · intro n s r h hf
      rw [hloopP] at h
      split at h
      · rename_i hk
        have w0 := Went.next hT hf (isOp_kind hk)
        exact w0.trans (ih.hloop _ _ _ h w0.fit)
      · injection h with h; subst h; exact Went.refl hf
    · intro s r h hf
      rw [primP] at h
      split at h
      · rename_i hk
        split at h
        · injection h with h; subst h; exact Went.fail hf 10 (by decide)
        · injection h with h; subst h; exact Went.next hT hf (by rw [hk]; decide)
      split at h
      · rename_i hk
        injection h with h; subst h; exact Went.next hT hf (by omega)
      split at h
      · rename_i hk
        injection h with h; subst h; exact Went.next hT hf (by omega)
      split at h
      · rename_i hk
        injection h with h; subst h; exact Went.area hT hf hk
      split at h
      · rename_i hk
        exact ih.name _ _ h hf hk
      split at h
      · rename_i hk
        split at h
        · cases h
        · rename_i r1 h1
          injection h with h; subst h
          obtain ⟨g1, g2, g3⟩ := enter_fit hT hf (isOp_kind hk)
          have w1 := ih.betw _ _ _ h1 g1
          exact Went.leave g2 g3 (cur_err (isOp_kind hk)) hf (w1.trans (Went.must hT w1.fit _))
      · injection h with h; subst h; exact Went.fail hf 10 (by decide)
    · intro s r h hf hk3
      have h0 : s.err = 0 := cur_err (T := T) (by omega)
      have hn := hf.next hT (by omega)
      rw [nameP] at h
      split at h
      · rename_i hk
        obtain ⟨e1, e2, e3⟩ := enter_err hT hf h0
        split at h
        · injection h with h; subst h
          exact Went.leave e2 (by omega) h0 hf (Went.refl e1)
        · rename_i he
          split at h
          · cases h
          · rename_i r1 h1
            injection h with h; subst h
            obtain ⟨g1, g2, g3, _⟩ := enter2 hT hf (by omega) (by simpa using he)
            have hl := hT.more (s.i + 1) hn.1.i (by omega)
            have g4 : Fit T (enterP T s).next.next := ⟨by show (enterP T s).i + 1 + 1 < _; omega, g1.d0, g1.d1, g1.d2⟩
            exact Went.leave (s1 := (enterP T s).next.next) g2 (by show s.i ≤ (enterP T s).i + 1 + 1; omega) h0 hf (ih.args _ _ h1 g4)
      split at h
      · injection h with h; subst h; exact Went.next hT hf (by omega)
      split at h
      · injection h with h; subst h; exact Went.next hT hf (by omega)
      · injection h with h; subst h; exact Went.fail hf 10 (by decide)
    · intro s r h hf
      rw [argsP] at h
      split at h
      · rename_i hk
        injection h with h; subst h; exact Went.next hT hf (isOp_kind hk)
      · exact ih.aloop _ _ _ h hf
    · intro l s r h hf
      rw [aloopP] at h
      split at h
      · injection h with h; subst h; exact Went.refl hf
      · rename_i he
        split at h
        · cases h
        · rename_i r1 h1
          have w1 : Went T s r1.2 := by
            split at h1
            · injection h1 with h1; subst h1; exact Went.refl hf
            · exact ih.betw _ _ _ h1 hf
          split at h
          · rename_i hk
            have w2 := w1.trans (Went.next hT w1.fit (isOp_kind hk))
            exact w2.trans (ih.aloop _ _ _ h w2.fit)
          · injection h with h; subst h; exact w1.trans (Went.must hT w1.fit _)
end
end Go.A
namespace Go.A
open Go.Proofs
/-! 27: tabular/token.Lex -/
def c27_0 : ACode := .ops [
 ⟨some 2, none, .q (.mv (.v (.sl .full []))), []⟩,
 ⟨some 3, none, .q (.mv (.v (.int .i64 0))), []⟩,
 ⟨some 4, none, .q (.mv (.v (.int .i64 0))), []⟩]
def c27_1 : ACode := .ops [
 ⟨some 7, none, .q (.mv (.t 0)), []⟩,
 ⟨some 8, none, .q (.lenS (.t 7)), []⟩,
 ⟨some 9, none, .q (.bin .gtr (.t 8) (.v (.int .i64 2000))), []⟩]
def c27_2 : ACode := .ops [
 ⟨some 2, none, .q (.mv (.v (.sl .full []))), []⟩,
 ⟨some 3, none, .q (.mv (.v (.int .i64 0))), []⟩,
 ⟨some 4, none, .q (.mv (.v (.int .i64 11))), []⟩]
def c27_3 : ACode := .seq c27_2 .ret
def c27_4 : ACode := .cond (.t 9) c27_3 .skip
def c27_5 : ACode := .seq c27_1 c27_4
def c27_6 : ACode := .ops [
 ⟨some 10, none, .q (.mv (.t 0)), []⟩,
 ⟨some 11, none, .q (.build [(.str []), (.int .i64 0), (.int .i64 0), (.sl .full [])] [(0, 1, (.t 10))]), []⟩,
 ⟨some 12, none, .e (.box (.t 11)), []⟩,
 ⟨some 5, none, .q (.mv (.t 12)), []⟩]
def c27_7 : ACode := .ops [
 ⟨some 13, none, .q (.mv (.t 5)), []⟩,
 ⟨some 14, none, .q (.nc (.t 13)), []⟩,
 ⟨some 15, none, .q (.fa 1 (.t 14)), []⟩,
 ⟨some 16, none, .q (.ld none (.t 15)), []⟩,
 ⟨some 17, none, .q (.mv (.t 0)), []⟩,
 ⟨some 18, none, .q (.lenS (.t 17)), []⟩,
 ⟨some 19, none, .q (.bin .lss (.t 16) (.t 18)), []⟩]
def c27_8 : ACode := .cond (.t 19) .skip (.exit 0)
def c27_9 : ACode := .seq c27_7 c27_8
def c27_10 : ACode := .ops [
 ⟨some 20, none, .q (.mv (.t 5)), []⟩,
 ⟨some 21, none, .e (.call 46 [(.t 20)]), []⟩,
 ⟨some 6, none, .q (.mv (.t 21)), []⟩]
def c27_11 : ACode := .ops [
 ⟨some 22, none, .q (.mv (.t 6)), []⟩,
 ⟨some 23, none, .q (.bin .neq (.t 22) (.v (.int .i64 0))), []⟩]
def c27_12 : ACode := .ops [
 ⟨some 24, none, .q (.mv (.t 5)), []⟩,
 ⟨some 25, none, .q (.nc (.t 24)), []⟩,
 ⟨some 26, none, .q (.fa 1 (.t 25)), []⟩,
 ⟨some 27, none, .q (.ld none (.t 26)), []⟩,
 ⟨some 28, none, .q (.mv (.t 6)), []⟩,
 ⟨some 2, none, .q (.mv (.v (.sl .full []))), []⟩,
 ⟨some 3, none, .q (.mv (.t 27)), []⟩,
 ⟨some 4, none, .q (.mv (.t 28)), []⟩]
def c27_13 : ACode := .seq c27_12 .ret
def c27_14 : ACode := .cond (.t 23) c27_13 .skip
def c27_15 : ACode := .seq c27_11 c27_14
def c27_16 : ACode := .seq c27_10 c27_15
def c27_17 : ACode := .block 1 c27_16
def c27_18 : ACode := .seq c27_9 c27_17
def c27_19 : ACode := .loop c27_18
def c27_20 : ACode := .block 0 c27_19
def c27_21 : ACode := .ops [
 ⟨some 29, none, .q (.mv (.t 5)), []⟩,
 ⟨some 30, none, .e (.call 47 [(.t 29), (.v (.int .i64 0)), (.v (.str [])), (.v (.int .i64 0))]), []⟩]
def c27_22 : ACode := .ops [
 ⟨some 31, none, .q (.mv (.t 5)), []⟩,
 ⟨some 32, none, .q (.nc (.t 31)), []⟩,
 ⟨some 33, none, .q (.fa 3 (.t 32)), []⟩,
 ⟨some 34, none, .q (.ld none (.t 33)), []⟩,
 ⟨some 2, none, .q (.mv (.t 34)), []⟩,
 ⟨some 3, none, .q (.mv (.v (.int .i64 0))), []⟩,
 ⟨some 4, none, .q (.mv (.v (.int .i64 0))), []⟩]
def c27_23 : ACode := .seq c27_22 .ret
def c27_24 : ACode := .seq c27_21 c27_23
def c27_25 : ACode := .seq c27_20 c27_24
def c27_26 : ACode := .seq c27_6 c27_25
def c27_27 : ACode := .seq c27_5 c27_26
def c27_28 : ACode := .seq c27_0 c27_27
@[go_sem] def c27_0_wp := wp_of c27_0.eq_1
@[go_sem] def c27_1_wp := wp_of c27_1.eq_1
@[go_sem] def c27_2_wp := wp_of c27_2.eq_1
@[go_sem] def c27_3_wp := wp_of c27_3.eq_1
@[go_sem] def c27_4_wp := wp_of c27_4.eq_1
@[go_sem] def c27_5_wp := wp_of c27_5.eq_1
@[go_sem] def c27_6_wp := wp_of c27_6.eq_1
@[go_sem] def c27_7_wp := wp_of c27_7.eq_1
@[go_sem] def c27_8_wp := wp_of c27_8.eq_1
@[go_sem] def c27_9_wp := wp_of c27_9.eq_1
@[go_sem] def c27_10_wp := wp_of c27_10.eq_1
@[go_sem] def c27_11_wp := wp_of c27_11.eq_1
@[go_sem] def c27_12_wp := wp_of c27_12.eq_1
@[go_sem] def c27_13_wp := wp_of c27_13.eq_1
@[go_sem] def c27_14_wp := wp_of c27_14.eq_1
@[go_sem] def c27_15_wp := wp_of c27_15.eq_1
@[go_sem] def c27_16_wp := wp_of c27_16.eq_1
@[go_sem] def c27_17_wp := wp_of c27_17.eq_1
@[go_sem] def c27_18_wp := wp_of c27_18.eq_1
@[go_sem] def c27_19_wp := wp_of c27_19.eq_1
@[go_sem] def c27_20_wp := wp_of c27_20.eq_1
@[go_sem] def c27_21_wp := wp_of c27_21.eq_1
@[go_sem] def c27_22_wp := wp_of c27_22.eq_1
@[go_sem] def c27_23_wp := wp_of c27_23.eq_1
@[go_sem] def c27_24_wp := wp_of c27_24.eq_1
@[go_sem] def c27_25_wp := wp_of c27_25.eq_1
@[go_sem] def c27_26_wp := wp_of c27_26.eq_1
@[go_sem] def c27_27_wp := wp_of c27_27.eq_1
@[go_sem] def c27_28_wp := wp_of c27_28.eq_1
def c27 : AFn := ⟨35, [.t 2, .t 3, .t 4], c27_28⟩
theorem c27_ok : compF Tryz.prog Tryz.f27 = some c27 := by kernel_rfl
theorem a27 {args : List AV} {σ : ASt} {R : AV → ASt → Prop} (hl : args.length ≤ 35) (h : c27_28.wp Tryz.prog (RetQ [.t 2, .t 3, .t 4] R) (init args) σ) : ACalls Tryz.prog 27 args σ R := acalls_of Tryz.func27 c27_ok hl h
/-! 46: (*tabular/token.lexer).next -/
def c46_0 : ACode := .ops [
 ⟨some 2, none, .q (.mv (.v (.int .i64 0))), []⟩]
def c46_1 : ACode := .ops [
 ⟨some 6, none, .q (.mv (.t 0)), []⟩,
 ⟨some 7, none, .e (.call 60 [(.t 6)]), []⟩,
 ⟨some 5, none, .q (.mv (.t 7)), []⟩,
 ⟨some 8, none, .q (.ext 0 (.t 5)), []⟩,
 ⟨some 9, none, .q (.ext 1 (.t 5)), []⟩,
 ⟨some 3, none, .q (.mv (.t 8)), []⟩,
 ⟨some 4, none, .q (.mv (.t 9)), []⟩]
def c46_2 : ACode := .ops [
 ⟨some 15, none, .q (.mv (.t 4)), []⟩,
 ⟨some 16, none, .q (.bin .lss (.t 15) (.v (.int .i64 0))), []⟩,
 ⟨some 14, none, .q (.mv (.t 16)), []⟩]
def c46_3 : ACode := .ops [
 ⟨some 2, none, .q (.mv (.v (.int .i64 10))), []⟩]
def c46_4 : ACode := .seq c46_3 .ret
def c46_5 : ACode := .ops [
 ⟨some 18, none, .q (.mv (.t 3)), []⟩,
 ⟨some 19, none, .q (.bin .eql (.t 18) (.v (.int .i32 32))), []⟩,
 ⟨some 17, none, .q (.mv (.t 19)), []⟩]
def c46_6 : ACode := .ops [
 ⟨some 20, none, .q (.mv (.t 3)), []⟩,
 ⟨some 21, none, .q (.bin .eql (.t 20) (.v (.int .i32 9))), []⟩,
 ⟨some 17, none, .q (.mv (.t 21)), []⟩]
def c46_7 : ACode := .ops [
 ⟨some 22, none, .q (.mv (.t 3)), []⟩,
 ⟨some 23, none, .q (.bin .eql (.t 22) (.v (.int .i32 10))), []⟩,
 ⟨some 17, none, .q (.mv (.t 23)), []⟩]
def c46_8 : ACode := .cond (.t 17) .skip c46_7
def c46_9 : ACode := .seq c46_6 c46_8
def c46_10 : ACode := .cond (.t 17) .skip c46_9
def c46_11 : ACode := .seq c46_5 c46_10
def c46_12 : ACode := .ops [
 ⟨some 24, none, .q (.mv (.t 0)), []⟩,
 ⟨some 25, none, .q (.mv (.t 0)), []⟩,
 ⟨some 26, none, .q (.nc (.t 25)), []⟩,
 ⟨some 27, none, .q (.fa 1 (.t 26)), []⟩,
 ⟨some 28, none, .q (.ld none (.t 27)), []⟩,
 ⟨some 29, none, .q (.mv (.t 4)), []⟩,
 ⟨some 30, none, .q (.bin .add (.t 28) (.t 29)), []⟩,
 ⟨some 31, none, .e (.call 61 [(.t 24), (.t 30)]), []⟩]
def c46_13 : ACode := .ops [
 ⟨some 33, none, .q (.mv (.t 3)), []⟩,
 ⟨some 34, none, .q (.bin .lss (.t 33) (.v (.int .i32 128))), []⟩,
 ⟨some 35, none, .q (.mv (.t 34)), []⟩,
 ⟨some 36, some (35, true), .q (.mv (.t 3)), []⟩,
 ⟨some 37, some (35, true), .q (.conv .u8 (.t 36)), []⟩,
 ⟨some 38, some (35, true), .e (.call 62 [(.t 37)]), []⟩,
 ⟨some 39, none, .q (.pick (.t 35) (.t 38) (.v (.bool false))), []⟩,
 ⟨some 32, none, .q (.mv (.t 39)), []⟩]
def c46_14 : ACode := .ops [
 ⟨some 40, none, .q (.mv (.t 0)), []⟩,
 ⟨some 41, none, .e (.call 63 [(.t 40)]), []⟩,
 ⟨some 2, none, .q (.mv (.t 41)), []⟩]
def c46_15 : ACode := .seq c46_14 .ret
def c46_16 : ACode := .ops [
 ⟨some 43, none, .q (.mv (.t 3)), []⟩,
 ⟨some 44, none, .q (.bin .eql (.t 43) (.v (.int .i32 34))), []⟩,
 ⟨some 42, none, .q (.mv (.t 44)), []⟩]
def c46_17 : ACode := .ops [
 ⟨some 45, none, .q (.mv (.t 0)), []⟩,
 ⟨some 46, none, .e (.call 64 [(.t 45)]), []⟩,
 ⟨some 2, none, .q (.mv (.t 46)), []⟩]
def c46_18 : ACode := .seq c46_17 .ret
def c46_19 : ACode := .ops [
 ⟨some 48, none, .q (.mv (.t 3)), []⟩,
 ⟨some 49, none, .q (.bin .eql (.t 48) (.v (.int .i32 35))), []⟩,
 ⟨some 47, none, .q (.mv (.t 49)), []⟩]
def c46_20 : ACode := .ops [
 ⟨some 50, none, .q (.mv (.t 0)), []⟩,
 ⟨some 51, none, .e (.call 65 [(.t 50)]), []⟩,
 ⟨some 2, none, .q (.mv (.t 51)), []⟩]
def c46_21 : ACode := .seq c46_20 .ret
def c46_22 : ACode := .ops [
 ⟨some 10, none, .q (.mv (.t 0)), []⟩,
 ⟨some 11, none, .q (.mv (.t 3)), []⟩,
 ⟨some 12, none, .q (.mv (.t 4)), []⟩,
 ⟨some 13, none, .e (.call 66 [(.t 10), (.t 11), (.t 12)]), []⟩,
 ⟨some 2, none, .q (.mv (.t 13)), []⟩]
def c46_23 : ACode := .seq c46_22 .ret
def c46_24 : ACode := .cond (.t 47) c46_21 c46_23
def c46_25 : ACode := .seq c46_19 c46_24
def c46_26 : ACode := .cond (.t 42) c46_18 c46_25
def c46_27 : ACode := .seq c46_16 c46_26
def c46_28 : ACode := .cond (.t 32) c46_15 c46_27
def c46_29 : ACode := .seq c46_13 c46_28
def c46_30 : ACode := .cond (.t 17) c46_12 c46_29
def c46_31 : ACode := .seq c46_11 c46_30
def c46_32 : ACode := .cond (.t 14) c46_4 c46_31
def c46_33 : ACode := .seq c46_2 c46_32
def c46_34 : ACode := .block 0 c46_33
def c46_35 : ACode := .ops [
 ⟨some 2, none, .q (.mv (.v (.int .i64 0))), []⟩]
def c46_36 : ACode := .seq c46_35 .ret
def c46_37 : ACode := .seq c46_34 c46_36
def c46_38 : ACode := .seq c46_1 c46_37
def c46_39 : ACode := .seq c46_0 c46_38
@[go_sem] def c46_0_wp := wp_of c46_0.eq_1
@[go_sem] def c46_1_wp := wp_of c46_1.eq_1
@[go_sem] def c46_2_wp := wp_of c46_2.eq_1
@[go_sem] def c46_3_wp := wp_of c46_3.eq_1
@[go_sem] def c46_4_wp := wp_of c46_4.eq_1
@[go_sem] def c46_5_wp := wp_of c46_5.eq_1
@[go_sem] def c46_6_wp := wp_of c46_6.eq_1
@[go_sem] def c46_7_wp := wp_of c46_7.eq_1
@[go_sem] def c46_8_wp := wp_of c46_8.eq_1
@[go_sem] def c46_9_wp := wp_of c46_9.eq_1
@[go_sem] def c46_10_wp := wp_of c46_10.eq_1
@[go_sem] def c46_11_wp := wp_of c46_11.eq_1
@[go_sem] def c46_12_wp := wp_of c46_12.eq_1
@[go_sem] def c46_13_wp := wp_of c46_13.eq_1
@[go_sem] def c46_14_wp := wp_of c46_14.eq_1
@[go_sem] def c46_15_wp := wp_of c46_15.eq_1
@[go_sem] def c46_16_wp := wp_of c46_16.eq_1
@[go_sem] def c46_17_wp := wp_of c46_17.eq_1
@[go_sem] def c46_18_wp := wp_of c46_18.eq_1
@[go_sem] def c46_19_wp := wp_of c46_19.eq_1
@[go_sem] def c46_20_wp := wp_of c46_20.eq_1
@[go_sem] def c46_21_wp := wp_of c46_21.eq_1
@[go_sem] def c46_22_wp := wp_of c46_22.eq_1
@[go_sem] def c46_23_wp := wp_of c46_23.eq_1
@[go_sem] def c46_24_wp := wp_of c46_24.eq_1
@[go_sem] def c46_25_wp := wp_of c46_25.eq_1
@[go_sem] def c46_26_wp := wp_of c46_26.eq_1
@[go_sem] def c46_27_wp := wp_of c46_27.eq_1
@[go_sem] def c46_28_wp := wp_of c46_28.eq_1
@[go_sem] def c46_29_wp := wp_of c46_29.eq_1
@[go_sem] def c46_30_wp := wp_of c46_30.eq_1
@[go_sem] def c46_31_wp := wp_of c46_31.eq_1
@[go_sem] def c46_32_wp := wp_of c46_32.eq_1
@[go_sem] def c46_33_wp := wp_of c46_33.eq_1
@[go_sem] def c46_34_wp := wp_of c46_34.eq_1
@[go_sem] def c46_35_wp := wp_of c46_35.eq_1
@[go_sem] def c46_36_wp := wp_of c46_36.eq_1
@[go_sem] def c46_37_wp := wp_of c46_37.eq_1
@[go_sem] def c46_38_wp := wp_of c46_38.eq_1
@[go_sem] def c46_39_wp := wp_of c46_39.eq_1
def c46 : AFn := ⟨52, [.t 2], c46_39⟩
theorem c46_ok : compF Tryz.prog Tryz.f46 = some c46 := by kernel_rfl
theorem a46 {args : List AV} {σ : ASt} {R : AV → ASt → Prop} (hl : args.length ≤ 52) (h : c46_39.wp Tryz.prog (RetQ [.t 2] R) (init args) σ) : ACalls Tryz.prog 46 args σ R := acalls_of Tryz.func46 c46_ok hl h
/-! 47: (*tabular/token.lexer).put -/
def c47_0 : ACode := .ops [
 ⟨some 8, none, .q (.mv (.t 0)), []⟩,
 ⟨some 9, none, .q (.mv (.t 0)), []⟩,
 ⟨some 10, none, .q (.nc (.t 9)), []⟩,
 ⟨some 11, none, .q (.fa 3 (.t 10)), []⟩,
 ⟨some 12, none, .q (.ld none (.t 11)), []⟩,
 ⟨some 13, none, .q (.mv (.t 1)), []⟩,
 ⟨some 14, none, .q (.mv (.t 2)), []⟩,
 ⟨some 15, none, .q (.mv (.t 0)), []⟩,
 ⟨some 16, none, .q (.nc (.t 15)), []⟩,
 ⟨some 17, none, .q (.fa 1 (.t 16)), []⟩,
 ⟨some 18, none, .q (.ld none (.t 17)), []⟩,
 ⟨some 19, none, .q (.mv (.t 0)), []⟩,
 ⟨some 20, none, .q (.nc (.t 19)), []⟩,
 ⟨some 21, none, .q (.fa 2 (.t 20)), []⟩,
 ⟨some 22, none, .q (.ld none (.t 21)), []⟩,
 ⟨some 23, none, .q (.build [(.int .i64 0), (.str []), (.int .i64 0), (.int .i64 0)] [(0, 1, (.t 13)), (1, 1, (.t 14)), (2, 1, (.t 18)), (3, 1, (.t 22))]), []⟩,
 ⟨some 24, none, .q (.bsl 4 [(.t 23)]), []⟩,
 ⟨some 25, none, .e (.app 75 4 40 [(.int .i64 0), (.str []), (.int .i64 0), (.int .i64 0)] (.t 12) (.t 24)), []⟩,
 ⟨some 26, none, .q (.nc (.t 8)), []⟩,
 ⟨some 27, none, .q (.fa 3 (.t 26)), []⟩,
 ⟨none, none, .e (.store 1 (.t 27) (.t 25)), []⟩]
def c47_1 : ACode := .ops [
 ⟨some 28, none, .q (.mv (.t 0)), []⟩,
 ⟨some 29, none, .q (.nc (.t 28)), []⟩,
 ⟨some 30, none, .q (.fa 2 (.t 29)), []⟩,
 ⟨some 31, none, .q (.ld none (.t 30)), []⟩,
 ⟨some 32, none, .q (.mv (.t 0)), []⟩,
 ⟨some 33, none, .q (.nc (.t 32)), []⟩,
 ⟨some 34, none, .q (.fa 0 (.t 33)), []⟩,
 ⟨some 35, none, .q (.ld none (.t 34)), []⟩,
 ⟨some 36, none, .q (.mv (.t 0)), []⟩,
 ⟨some 37, none, .q (.nc (.t 36)), []⟩,
 ⟨some 38, none, .q (.fa 1 (.t 37)), []⟩,
 ⟨some 39, none, .q (.ld none (.t 38)), []⟩,
 ⟨some 40, none, .q (.mv (.t 0)), []⟩,
 ⟨some 41, none, .q (.nc (.t 40)), []⟩,
 ⟨some 42, none, .q (.fa 1 (.t 41)), []⟩,
 ⟨some 43, none, .q (.ld none (.t 42)), []⟩,
 ⟨some 44, none, .q (.mv (.t 3)), []⟩,
 ⟨some 45, none, .q (.bin .add (.t 43) (.t 44)), []⟩,
 ⟨some 46, none, .q (.sls (true, 0) (.t 35) (.t 39) (.t 45)), []⟩,
 ⟨some 47, none, .e (.call 67 [(.t 46)]), [⟨none, .ld none (.t 30), 31⟩]⟩,
 ⟨some 48, none, .q (.bin .add (.t 31) (.t 47)), []⟩,
 ⟨some 49, none, .q (.nc (.t 28)), []⟩,
 ⟨some 50, none, .q (.fa 2 (.t 49)), []⟩,
 ⟨none, none, .e (.store 1 (.t 50) (.t 48)), []⟩]
def c47_2 : ACode := .ops [
 ⟨some 51, none, .q (.mv (.t 0)), []⟩,
 ⟨some 52, none, .q (.nc (.t 51)), []⟩,
 ⟨some 53, none, .q (.fa 1 (.t 52)), []⟩,
 ⟨some 54, none, .q (.ld none (.t 53)), []⟩,
 ⟨some 55, none, .q (.mv (.t 3)), []⟩,
 ⟨some 56, none, .q (.bin .add (.t 54) (.t 55)), []⟩,
 ⟨some 57, none, .q (.nc (.t 51)), []⟩,
 ⟨some 58, none, .q (.fa 1 (.t 57)), []⟩,
 ⟨none, none, .e (.store 1 (.t 58) (.t 56)), []⟩]
def c47_3 : ACode := .seq c47_1 c47_2
def c47_4 : ACode := .seq c47_0 c47_3
@[go_sem] def c47_0_wp := wp_of c47_0.eq_1
@[go_sem] def c47_1_wp := wp_of c47_1.eq_1
@[go_sem] def c47_2_wp := wp_of c47_2.eq_1
@[go_sem] def c47_3_wp := wp_of c47_3.eq_1
@[go_sem] def c47_4_wp := wp_of c47_4.eq_1
def c47 : AFn := ⟨59, [], c47_4⟩
theorem c47_ok : compF Tryz.prog Tryz.f47 = some c47 := by kernel_rfl
theorem a47 {args : List AV} {σ : ASt} {R : AV → ASt → Prop} (hl : args.length ≤ 59) (h : c47_4.wp Tryz.prog (RetQ [] R) (init args) σ) : ACalls Tryz.prog 47 args σ R := acalls_of Tryz.func47 c47_ok hl h
/-! 60: (*tabular/token.lexer).sign -/
def c60_0 : ACode := .ops [
 ⟨some 2, none, .q (.mv (.v (.int .i32 0))), []⟩,
 ⟨some 3, none, .q (.mv (.v (.int .i64 0))), []⟩]
def c60_1 : ACode := .ops [
 ⟨some 6, none, .q (.mv (.t 0)), []⟩,
 ⟨some 7, none, .q (.nc (.t 6)), []⟩,
 ⟨some 8, none, .q (.fa 1 (.t 7)), []⟩,
 ⟨some 9, none, .q (.ld none (.t 8)), []⟩,
 ⟨some 10, none, .q (.mv (.t 0)), []⟩,
 ⟨some 11, none, .q (.nc (.t 10)), []⟩,
 ⟨some 12, none, .q (.fa 0 (.t 11)), []⟩,
 ⟨some 13, none, .q (.ld none (.t 12)), []⟩,
 ⟨some 14, none, .q (.lenS (.t 13)), []⟩,
 ⟨some 15, none, .q (.bin .geq (.t 9) (.t 14)), []⟩]
def c60_2 : ACode := .ops [
 ⟨some 2, none, .q (.mv (.v (.int .i32 0))), []⟩,
 ⟨some 3, none, .q (.mv (.v (.int .i64 0))), []⟩]
def c60_3 : ACode := .seq c60_2 .ret
def c60_4 : ACode := .cond (.t 15) c60_3 .skip
def c60_5 : ACode := .seq c60_1 c60_4
def c60_6 : ACode := .ops [
 ⟨some 17, none, .q (.mv (.t 0)), []⟩,
 ⟨some 18, none, .q (.nc (.t 17)), []⟩,
 ⟨some 19, none, .q (.fa 0 (.t 18)), []⟩,
 ⟨some 20, none, .q (.ld none (.t 19)), []⟩,
 ⟨some 21, none, .q (.mv (.t 0)), []⟩,
 ⟨some 22, none, .q (.nc (.t 21)), []⟩,
 ⟨some 23, none, .q (.fa 1 (.t 22)), []⟩,
 ⟨some 24, none, .q (.ld none (.t 23)), []⟩,
 ⟨some 25, none, .q (.slfrom (true, 0) (.t 20) (.t 24)), []⟩,
 ⟨some 26, none, .e (.call 84 [(.t 25)]), []⟩,
 ⟨some 16, none, .q (.mv (.t 26)), []⟩,
 ⟨some 27, none, .q (.ext 0 (.t 16)), []⟩,
 ⟨some 28, none, .q (.ext 1 (.t 16)), []⟩,
 ⟨some 4, none, .q (.mv (.t 27)), []⟩,
 ⟨some 5, none, .q (.mv (.t 28)), []⟩]
def c60_7 : ACode := .ops [
 ⟨some 29, none, .q (.mv (.t 4)), []⟩,
 ⟨some 30, none, .q (.bin .eql (.t 29) (.v (.int .i32 65533))), []⟩,
 ⟨some 31, none, .q (.mv (.t 30)), []⟩,
 ⟨some 32, some (31, true), .q (.mv (.t 5)), []⟩,
 ⟨some 33, some (31, true), .q (.bin .eql (.t 32) (.v (.int .i64 1))), []⟩,
 ⟨some 34, none, .q (.pick (.t 31) (.t 33) (.v (.bool false))), []⟩]
def c60_8 : ACode := .ops [
 ⟨some 2, none, .q (.mv (.v (.int .i32 0))), []⟩,
 ⟨some 3, none, .q (.mv (.v (.int .i64 (-1)))), []⟩]
def c60_9 : ACode := .seq c60_8 .ret
def c60_10 : ACode := .cond (.t 34) c60_9 .skip
def c60_11 : ACode := .seq c60_7 c60_10
def c60_12 : ACode := .ops [
 ⟨some 35, none, .q (.mv (.t 4)), []⟩,
 ⟨some 36, none, .q (.mv (.t 5)), []⟩,
 ⟨some 2, none, .q (.mv (.t 35)), []⟩,
 ⟨some 3, none, .q (.mv (.t 36)), []⟩]
def c60_13 : ACode := .seq c60_12 .ret
def c60_14 : ACode := .seq c60_11 c60_13
def c60_15 : ACode := .seq c60_6 c60_14
def c60_16 : ACode := .seq c60_5 c60_15
def c60_17 : ACode := .seq c60_0 c60_16
@[go_sem] def c60_0_wp := wp_of c60_0.eq_1
@[go_sem] def c60_1_wp := wp_of c60_1.eq_1
@[go_sem] def c60_4_wp := wp_of c60_4.eq_1
@[go_sem] def c60_5_wp := wp_of c60_5.eq_1
@[go_sem] def c60_6_wp := wp_of c60_6.eq_1
@[go_sem] def c60_7_wp := wp_of c60_7.eq_1
@[go_sem] def c60_8_wp := wp_of c60_8.eq_1
@[go_sem] def c60_9_wp := wp_of c60_9.eq_1
@[go_sem] def c60_10_wp := wp_of c60_10.eq_1
@[go_sem] def c60_11_wp := wp_of c60_11.eq_1
@[go_sem] def c60_12_wp := wp_of c60_12.eq_1
@[go_sem] def c60_13_wp := wp_of c60_13.eq_1
@[go_sem] def c60_14_wp := wp_of c60_14.eq_1
@[go_sem] def c60_15_wp := wp_of c60_15.eq_1
@[go_sem] def c60_16_wp := wp_of c60_16.eq_1
@[go_sem] def c60_17_wp := wp_of c60_17.eq_1
def c60 : AFn := ⟨37, [.t 2, .t 3], c60_17⟩
theorem c60_ok : compF Tryz.prog Tryz.f60 = some c60 := by kernel_rfl
theorem a60 {args : List AV} {σ : ASt} {R : AV → ASt → Prop} (hl : args.length ≤ 37) (h : c60_17.wp Tryz.prog (RetQ [.t 2, .t 3] R) (init args) σ) : ACalls Tryz.prog 60 args σ R := acalls_of Tryz.func60 c60_ok hl h
/-! 61: (*tabular/token.lexer).pass -/
def c61_0 : ACode := .ops [
 ⟨some 4, none, .q (.mv (.t 0)), []⟩,
 ⟨some 5, none, .q (.nc (.t 4)), []⟩,
 ⟨some 6, none, .q (.fa 2 (.t 5)), []⟩,
 ⟨some 7, none, .q (.ld none (.t 6)), []⟩,
 ⟨some 8, none, .q (.mv (.t 0)), []⟩,
 ⟨some 9, none, .q (.nc (.t 8)), []⟩,
 ⟨some 10, none, .q (.fa 0 (.t 9)), []⟩,
 ⟨some 11, none, .q (.ld none (.t 10)), []⟩,
 ⟨some 12, none, .q (.mv (.t 0)), []⟩,
 ⟨some 13, none, .q (.nc (.t 12)), []⟩,
 ⟨some 14, none, .q (.fa 1 (.t 13)), []⟩,
 ⟨some 15, none, .q (.ld none (.t 14)), []⟩,
 ⟨some 16, none, .q (.mv (.t 1)), []⟩,
 ⟨some 17, none, .q (.sls (true, 0) (.t 11) (.t 15) (.t 16)), []⟩,
 ⟨some 18, none, .e (.call 67 [(.t 17)]), [⟨none, .ld none (.t 6), 7⟩]⟩,
 ⟨some 19, none, .q (.bin .add (.t 7) (.t 18)), []⟩,
 ⟨some 20, none, .q (.nc (.t 4)), []⟩,
 ⟨some 21, none, .q (.fa 2 (.t 20)), []⟩,
 ⟨none, none, .e (.store 1 (.t 21) (.t 19)), []⟩]
def c61_1 : ACode := .ops [
 ⟨some 22, none, .q (.mv (.t 0)), []⟩,
 ⟨some 23, none, .q (.mv (.t 1)), []⟩,
 ⟨some 24, none, .q (.nc (.t 22)), []⟩,
 ⟨some 25, none, .q (.fa 1 (.t 24)), []⟩,
 ⟨none, none, .e (.store 1 (.t 25) (.t 23)), []⟩]
def c61_2 : ACode := .seq c61_0 c61_1
@[go_sem] def c61_0_wp := wp_of c61_0.eq_1
@[go_sem] def c61_1_wp := wp_of c61_1.eq_1
@[go_sem] def c61_2_wp := wp_of c61_2.eq_1
def c61 : AFn := ⟨26, [], c61_2⟩
theorem c61_ok : compF Tryz.prog Tryz.f61 = some c61 := by kernel_rfl
theorem a61 {args : List AV} {σ : ASt} {R : AV → ASt → Prop} (hl : args.length ≤ 26) (h : c61_2.wp Tryz.prog (RetQ [] R) (init args) σ) : ACalls Tryz.prog 61 args σ R := acalls_of Tryz.func61 c61_ok hl h
/-! 63: (*tabular/token.lexer).words -/
def c63_0 : ACode := .ops [
 ⟨some 2, none, .q (.mv (.v (.int .i64 0))), []⟩]
def c63_1 : ACode := .ops [
 ⟨some 3, none, .q (.mv (.v (.int .i64 0))), []⟩]
def c63_2 : ACode := .ops [
 ⟨some 5, none, .q (.mv (.t 0)), []⟩,
 ⟨some 6, none, .q (.nc (.t 5)), []⟩,
 ⟨some 7, none, .q (.fa 1 (.t 6)), []⟩,
 ⟨some 8, none, .q (.ld none (.t 7)), []⟩,
 ⟨some 9, none, .q (.mv (.t 3)), []⟩,
 ⟨some 10, none, .q (.bin .add (.t 8) (.t 9)), []⟩,
 ⟨some 11, none, .q (.mv (.t 0)), []⟩,
 ⟨some 12, none, .q (.nc (.t 11)), []⟩,
 ⟨some 13, none, .q (.fa 0 (.t 12)), []⟩,
 ⟨some 14, none, .q (.ld none (.t 13)), []⟩,
 ⟨some 15, none, .q (.lenS (.t 14)), []⟩,
 ⟨some 16, none, .q (.bin .lss (.t 10) (.t 15)), []⟩,
 ⟨some 17, none, .q (.mv (.t 16)), []⟩,
 ⟨some 18, some (17, true), .q (.mv (.t 0)), []⟩,
 ⟨some 19, some (17, true), .q (.nc (.t 18)), []⟩,
 ⟨some 20, some (17, true), .q (.fa 0 (.t 19)), []⟩,
 ⟨some 21, some (17, true), .q (.ld none (.t 20)), []⟩,
 ⟨some 22, some (17, true), .q (.mv (.t 0)), []⟩,
 ⟨some 23, some (17, true), .q (.nc (.t 22)), []⟩,
 ⟨some 24, some (17, true), .q (.fa 1 (.t 23)), []⟩,
 ⟨some 25, some (17, true), .q (.ld none (.t 24)), []⟩,
 ⟨some 26, some (17, true), .q (.mv (.t 3)), []⟩,
 ⟨some 27, some (17, true), .q (.bin .add (.t 25) (.t 26)), []⟩,
 ⟨some 28, some (17, true), .q (.idx (.t 21) (.t 27)), []⟩,
 ⟨some 29, some (17, true), .e (.call 62 [(.t 28)]), []⟩,
 ⟨some 30, none, .q (.pick (.t 17) (.t 29) (.v (.bool false))), []⟩]
def c63_3 : ACode := .cond (.t 30) .skip (.exit 0)
def c63_4 : ACode := .seq c63_2 c63_3
def c63_5 : ACode := .ops [
 ⟨some 31, none, .q (.mv (.t 3)), []⟩,
 ⟨some 32, none, .q (.bin .add (.t 31) (.v (.int .i64 1))), []⟩,
 ⟨some 3, none, .q (.mv (.t 32)), []⟩]
def c63_6 : ACode := .block 1 c63_5
def c63_7 : ACode := .seq c63_4 c63_6
def c63_8 : ACode := .loop c63_7
def c63_9 : ACode := .block 0 c63_8
def c63_10 : ACode := .ops [
 ⟨some 33, none, .q (.mv (.t 0)), []⟩,
 ⟨some 34, none, .q (.nc (.t 33)), []⟩,
 ⟨some 35, none, .q (.fa 0 (.t 34)), []⟩,
 ⟨some 36, none, .q (.ld none (.t 35)), []⟩,
 ⟨some 37, none, .q (.mv (.t 0)), []⟩,
 ⟨some 38, none, .q (.nc (.t 37)), []⟩,
 ⟨some 39, none, .q (.fa 1 (.t 38)), []⟩,
 ⟨some 40, none, .q (.ld none (.t 39)), []⟩,
 ⟨some 41, none, .q (.mv (.t 0)), []⟩,
 ⟨some 42, none, .q (.nc (.t 41)), []⟩,
 ⟨some 43, none, .q (.fa 1 (.t 42)), []⟩,
 ⟨some 44, none, .q (.ld none (.t 43)), []⟩,
 ⟨some 45, none, .q (.mv (.t 3)), []⟩,
 ⟨some 46, none, .q (.bin .add (.t 44) (.t 45)), []⟩,
 ⟨some 47, none, .q (.sls (true, 0) (.t 36) (.t 40) (.t 46)), []⟩,
 ⟨some 4, none, .q (.mv (.t 47)), []⟩]
def c63_11 : ACode := .ops [
 ⟨some 49, none, .q (.mv (.t 4)), []⟩,
 ⟨some 50, none, .e (.call 85 [(.t 49)]), []⟩,
 ⟨some 48, none, .q (.mv (.t 50)), []⟩]
def c63_12 : ACode := .ops [
 ⟨some 51, none, .q (.mv (.t 0)), []⟩,
 ⟨some 52, none, .q (.mv (.t 4)), []⟩,
 ⟨some 53, none, .q (.mv (.t 3)), []⟩,
 ⟨some 54, none, .e (.call 47 [(.t 51), (.v (.int .i64 1)), (.t 52), (.t 53)]), []⟩]
def c63_13 : ACode := .ops [
 ⟨some 56, none, .q (.mv (.t 4)), []⟩,
 ⟨some 57, none, .e (.call 86 [(.t 56)]), []⟩,
 ⟨some 55, none, .q (.mv (.t 57)), []⟩]
def c63_14 : ACode := .ops [
 ⟨some 58, none, .q (.mv (.t 0)), []⟩,
 ⟨some 59, none, .q (.mv (.t 4)), []⟩,
 ⟨some 60, none, .e (.call 87 [(.t 59)]), []⟩,
 ⟨some 61, none, .q (.mv (.t 3)), []⟩,
 ⟨some 62, none, .e (.call 47 [(.t 58), (.v (.int .i64 4)), (.t 60), (.t 61)]), []⟩]
def c63_15 : ACode := .ops [
 ⟨some 64, none, .q (.mv (.t 4)), []⟩,
 ⟨some 65, none, .e (.call 88 [(.t 64)]), []⟩,
 ⟨some 63, none, .q (.mv (.t 65)), []⟩]
def c63_16 : ACode := .ops [
 ⟨some 66, none, .q (.mv (.t 0)), []⟩,
 ⟨some 67, none, .q (.mv (.t 4)), []⟩,
 ⟨some 68, none, .e (.call 87 [(.t 67)]), []⟩,
 ⟨some 69, none, .q (.mv (.t 3)), []⟩,
 ⟨some 70, none, .e (.call 47 [(.t 66), (.v (.int .i64 3)), (.t 68), (.t 69)]), []⟩]
def c63_17 : ACode := .ops [
 ⟨some 2, none, .q (.mv (.v (.int .i64 10))), []⟩]
def c63_18 : ACode := .seq c63_17 .ret
def c63_19 : ACode := .cond (.t 63) c63_16 c63_18
def c63_20 : ACode := .seq c63_15 c63_19
def c63_21 : ACode := .cond (.t 55) c63_14 c63_20
def c63_22 : ACode := .seq c63_13 c63_21
def c63_23 : ACode := .cond (.t 48) c63_12 c63_22
def c63_24 : ACode := .seq c63_11 c63_23
def c63_25 : ACode := .block 2 c63_24
def c63_26 : ACode := .ops [
 ⟨some 2, none, .q (.mv (.v (.int .i64 0))), []⟩]
def c63_27 : ACode := .seq c63_26 .ret
def c63_28 : ACode := .seq c63_25 c63_27
def c63_29 : ACode := .seq c63_10 c63_28
def c63_30 : ACode := .seq c63_9 c63_29
def c63_31 : ACode := .seq c63_1 c63_30
def c63_32 : ACode := .seq c63_0 c63_31
@[go_sem] def c63_0_wp := wp_of c63_0.eq_1
@[go_sem] def c63_1_wp := wp_of c63_1.eq_1
@[go_sem] def c63_2_wp := wp_of c63_2.eq_1
@[go_sem] def c63_3_wp := wp_of c63_3.eq_1
@[go_sem] def c63_4_wp := wp_of c63_4.eq_1
@[go_sem] def c63_5_wp := wp_of c63_5.eq_1
@[go_sem] def c63_6_wp := wp_of c63_6.eq_1
@[go_sem] def c63_7_wp := wp_of c63_7.eq_1
@[go_sem] def c63_8_wp := wp_of c63_8.eq_1
@[go_sem] def c63_9_wp := wp_of c63_9.eq_1
@[go_sem] def c63_10_wp := wp_of c63_10.eq_1
@[go_sem] def c63_11_wp := wp_of c63_11.eq_1
@[go_sem] def c63_12_wp := wp_of c63_12.eq_1
@[go_sem] def c63_13_wp := wp_of c63_13.eq_1
@[go_sem] def c63_14_wp := wp_of c63_14.eq_1
@[go_sem] def c63_15_wp := wp_of c63_15.eq_1
@[go_sem] def c63_16_wp := wp_of c63_16.eq_1
@[go_sem] def c63_17_wp := wp_of c63_17.eq_1
@[go_sem] def c63_18_wp := wp_of c63_18.eq_1
@[go_sem] def c63_19_wp := wp_of c63_19.eq_1
@[go_sem] def c63_20_wp := wp_of c63_20.eq_1
@[go_sem] def c63_21_wp := wp_of c63_21.eq_1
@[go_sem] def c63_22_wp := wp_of c63_22.eq_1
@[go_sem] def c63_23_wp := wp_of c63_23.eq_1
@[go_sem] def c63_24_wp := wp_of c63_24.eq_1
@[go_sem] def c63_25_wp := wp_of c63_25.eq_1
@[go_sem] def c63_26_wp := wp_of c63_26.eq_1
@[go_sem] def c63_27_wp := wp_of c63_27.eq_1
@[go_sem] def c63_28_wp := wp_of c63_28.eq_1
@[go_sem] def c63_29_wp := wp_of c63_29.eq_1
@[go_sem] def c63_30_wp := wp_of c63_30.eq_1
@[go_sem] def c63_31_wp := wp_of c63_31.eq_1
@[go_sem] def c63_32_wp := wp_of c63_32.eq_1
def c63 : AFn := ⟨71, [.t 2], c63_32⟩
theorem c63_ok : compF Tryz.prog Tryz.f63 = some c63 := by kernel_rfl
theorem a63 {args : List AV} {σ : ASt} {R : AV → ASt → Prop} (hl : args.length ≤ 71) (h : c63_32.wp Tryz.prog (RetQ [.t 2] R) (init args) σ) : ACalls Tryz.prog 63 args σ R := acalls_of Tryz.func63 c63_ok hl h
/-! 64: (*tabular/token.lexer).quoted -/
def c64_0 : ACode := .ops [
 ⟨some 2, none, .q (.mv (.v (.int .i64 0))), []⟩]
def c64_1 : ACode := .ops [
 ⟨some 3, none, .e (.allocT 106), []⟩]
def c64_2 : ACode := .ops [
 ⟨some 4, none, .q (.mv (.v (.bool true))), []⟩]
def c64_3 : ACode := .ops [
 ⟨some 5, none, .q (.mv (.v (.int .i64 1))), []⟩]
def c64_4 : ACode := .ops [
 ⟨some 11, none, .q (.mv (.t 0)), []⟩,
 ⟨some 12, none, .q (.nc (.t 11)), []⟩,
 ⟨some 13, none, .q (.fa 0 (.t 12)), []⟩,
 ⟨some 14, none, .q (.ld none (.t 13)), []⟩,
 ⟨some 15, none, .q (.mv (.t 0)), []⟩,
 ⟨some 16, none, .q (.nc (.t 15)), []⟩,
 ⟨some 17, none, .q (.fa 1 (.t 16)), []⟩,
 ⟨some 18, none, .q (.ld none (.t 17)), []⟩,
 ⟨some 19, none, .q (.bin .add (.t 18) (.v (.int .i64 1))), []⟩,
 ⟨some 20, none, .q (.slfrom (true, 0) (.t 14) (.t 19)), []⟩,
 ⟨some 21, none, .e (.rng (.t 20)), []⟩]
def c64_5 : ACode := .ops [
 ⟨some 22, none, .e (.nxt (.t 21)), []⟩,
 ⟨some 23, none, .q (.ext 0 (.t 22)), []⟩]
def c64_6 : ACode := .cond (.t 23) .skip (.exit 0)
def c64_7 : ACode := .ops [
 ⟨some 24, none, .q (.ext 1 (.t 22)), []⟩,
 ⟨some 25, none, .q (.ext 2 (.t 22)), []⟩,
 ⟨some 6, none, .q (.mv (.t 24)), []⟩,
 ⟨some 7, none, .q (.mv (.t 25)), []⟩]
def c64_8 : ACode := .ops [
 ⟨some 26, none, .q (.mv (.t 6)), []⟩,
 ⟨some 27, none, .q (.bin .add (.t 26) (.v (.int .i64 1))), []⟩,
 ⟨some 28, none, .q (.mv (.t 5)), []⟩,
 ⟨some 29, none, .q (.bin .lss (.t 27) (.t 28)), []⟩]
def c64_9 : ACode := .cond (.t 29) (.exit 1) .skip
def c64_10 : ACode := .seq c64_8 c64_9
def c64_11 : ACode := .ops [
 ⟨some 30, none, .q (.mv (.t 0)), []⟩,
 ⟨some 31, none, .q (.nc (.t 30)), []⟩,
 ⟨some 32, none, .q (.fa 1 (.t 31)), []⟩,
 ⟨some 33, none, .q (.ld none (.t 32)), []⟩,
 ⟨some 34, none, .q (.bin .add (.t 33) (.v (.int .i64 1))), []⟩,
 ⟨some 35, none, .q (.mv (.t 6)), []⟩,
 ⟨some 36, none, .q (.bin .add (.t 34) (.t 35)), []⟩,
 ⟨some 8, none, .q (.mv (.t 36)), []⟩]
def c64_12 : ACode := .ops [
 ⟨some 37, none, .q (.mv (.t 7)), []⟩,
 ⟨some 38, none, .q (.bin .eql (.t 37) (.v (.int .i32 65533))), []⟩]
def c64_13 : ACode := .ops [
 ⟨some 40, none, .q (.mv (.t 0)), []⟩,
 ⟨some 41, none, .q (.nc (.t 40)), []⟩,
 ⟨some 42, none, .q (.fa 0 (.t 41)), []⟩,
 ⟨some 43, none, .q (.ld none (.t 42)), []⟩,
 ⟨some 44, none, .q (.mv (.t 8)), []⟩,
 ⟨some 45, none, .q (.slfrom (true, 0) (.t 43) (.t 44)), []⟩,
 ⟨some 46, none, .e (.call 84 [(.t 45)]), []⟩,
 ⟨some 39, none, .q (.mv (.t 46)), []⟩,
 ⟨some 47, none, .q (.ext 0 (.t 39)), []⟩,
 ⟨some 48, none, .q (.ext 1 (.t 39)), []⟩,
 ⟨some 9, none, .q (.mv (.t 47)), []⟩,
 ⟨some 10, none, .q (.mv (.t 48)), []⟩]
def c64_14 : ACode := .ops [
 ⟨some 49, none, .q (.mv (.t 10)), []⟩,
 ⟨some 50, none, .q (.bin .eql (.t 49) (.v (.int .i64 1))), []⟩]
def c64_15 : ACode := .ops [
 ⟨some 51, none, .q (.mv (.t 0)), []⟩,
 ⟨some 52, none, .q (.mv (.t 8)), []⟩,
 ⟨some 53, none, .e (.call 61 [(.t 51), (.t 52)]), []⟩]
def c64_16 : ACode := .ops [
 ⟨some 2, none, .q (.mv (.v (.int .i64 10))), []⟩]
def c64_17 : ACode := .seq c64_16 .ret
def c64_18 : ACode := .seq c64_15 c64_17
def c64_19 : ACode := .cond (.t 50) c64_18 .skip
def c64_20 : ACode := .seq c64_14 c64_19
def c64_21 : ACode := .seq c64_13 c64_20
def c64_22 : ACode := .cond (.t 38) c64_21 .skip
def c64_23 : ACode := .seq c64_12 c64_22
def c64_24 : ACode := .ops [
 ⟨some 54, none, .q (.mv (.t 7)), []⟩,
 ⟨some 55, none, .q (.bin .neq (.t 54) (.v (.int .i32 34))), []⟩]
def c64_25 : ACode := .ops [
 ⟨some 56, none, .q (.mv (.t 7)), []⟩,
 ⟨some 57, none, .e (.call 89 [(.t 3), (.t 56)]), []⟩]
def c64_26 : ACode := .ops [
 ⟨some 58, none, .q (.mv (.t 6)), []⟩,
 ⟨some 59, none, .q (.bin .add (.t 58) (.v (.int .i64 1))), []⟩,
 ⟨some 60, none, .q (.mv (.t 7)), []⟩,
 ⟨some 61, none, .e (.call 90 [(.t 60)]), []⟩,
 ⟨some 62, none, .q (.bin .add (.t 59) (.t 61)), []⟩,
 ⟨some 5, none, .q (.mv (.t 62)), []⟩]
def c64_27 : ACode := .seq c64_26 (.exit 1)
def c64_28 : ACode := .seq c64_25 c64_27
def c64_29 : ACode := .cond (.t 55) c64_28 .skip
def c64_30 : ACode := .seq c64_24 c64_29
def c64_31 : ACode := .ops [
 ⟨some 63, none, .q (.mv (.t 8)), []⟩,
 ⟨some 64, none, .q (.bin .add (.t 63) (.v (.int .i64 1))), []⟩,
 ⟨some 65, none, .q (.mv (.t 0)), []⟩,
 ⟨some 66, none, .q (.nc (.t 65)), []⟩,
 ⟨some 67, none, .q (.fa 0 (.t 66)), []⟩,
 ⟨some 68, none, .q (.ld none (.t 67)), []⟩,
 ⟨some 69, none, .q (.lenS (.t 68)), []⟩,
 ⟨some 70, none, .q (.bin .lss (.t 64) (.t 69)), []⟩,
 ⟨some 71, none, .q (.mv (.t 70)), []⟩,
 ⟨some 72, some (71, true), .q (.mv (.t 0)), []⟩,
 ⟨some 73, some (71, true), .q (.nc (.t 72)), []⟩,
 ⟨some 74, some (71, true), .q (.fa 0 (.t 73)), []⟩,
 ⟨some 75, some (71, true), .q (.ld none (.t 74)), []⟩,
 ⟨some 76, some (71, true), .q (.mv (.t 8)), []⟩,
 ⟨some 77, some (71, true), .q (.bin .add (.t 76) (.v (.int .i64 1))), []⟩,
 ⟨some 78, some (71, true), .q (.idx (.t 75) (.t 77)), []⟩,
 ⟨some 79, some (71, true), .q (.bin .eql (.t 78) (.v (.int .u8 34))), []⟩,
 ⟨some 80, none, .q (.pick (.t 71) (.t 79) (.v (.bool false))), []⟩]
def c64_32 : ACode := .ops [
 ⟨some 81, none, .e (.call 79 [(.t 3), (.v (.int .u8 34))]), []⟩]
def c64_33 : ACode := .ops [
 ⟨some 82, none, .q (.mv (.t 6)), []⟩,
 ⟨some 83, none, .q (.bin .add (.t 82) (.v (.int .i64 3))), []⟩,
 ⟨some 5, none, .q (.mv (.t 83)), []⟩]
def c64_34 : ACode := .seq c64_33 (.exit 1)
def c64_35 : ACode := .seq c64_32 c64_34
def c64_36 : ACode := .cond (.t 80) c64_35 .skip
def c64_37 : ACode := .seq c64_31 c64_36
def c64_38 : ACode := .ops [
 ⟨some 84, none, .q (.mv (.t 6)), []⟩,
 ⟨some 85, none, .q (.bin .add (.t 84) (.v (.int .i64 2))), []⟩,
 ⟨some 5, none, .q (.mv (.t 85)), []⟩]
def c64_39 : ACode := .ops [
 ⟨some 4, none, .q (.mv (.v (.bool false))), []⟩]
def c64_40 : ACode := .seq c64_39 (.exit 0)
def c64_41 : ACode := .seq c64_38 c64_40
def c64_42 : ACode := .seq c64_37 c64_41
def c64_43 : ACode := .seq c64_30 c64_42
def c64_44 : ACode := .seq c64_23 c64_43
def c64_45 : ACode := .seq c64_11 c64_44
def c64_46 : ACode := .seq c64_10 c64_45
def c64_47 : ACode := .seq c64_7 c64_46
def c64_48 : ACode := .block 1 c64_47
def c64_49 : ACode := .seq c64_6 c64_48
def c64_50 : ACode := .seq c64_5 c64_49
def c64_51 : ACode := .loop c64_50
def c64_52 : ACode := .block 0 c64_51
def c64_53 : ACode := .seq c64_4 c64_52
def c64_54 : ACode := .ops [
 ⟨some 86, none, .q (.mv (.t 4)), []⟩]
def c64_55 : ACode := .ops [
 ⟨some 2, none, .q (.mv (.v (.int .i64 10))), []⟩]
def c64_56 : ACode := .seq c64_55 .ret
def c64_57 : ACode := .cond (.t 86) c64_56 .skip
def c64_58 : ACode := .seq c64_54 c64_57
def c64_59 : ACode := .ops [
 ⟨some 87, none, .q (.mv (.t 0)), []⟩,
 ⟨some 88, none, .e (.call 53 [(.t 3)]), []⟩,
 ⟨some 89, none, .q (.mv (.t 5)), []⟩,
 ⟨some 90, none, .e (.call 47 [(.t 87), (.v (.int .i64 2)), (.t 88), (.t 89)]), []⟩]
def c64_60 : ACode := .ops [
 ⟨some 2, none, .q (.mv (.v (.int .i64 0))), []⟩]
def c64_61 : ACode := .seq c64_60 .ret
def c64_62 : ACode := .seq c64_59 c64_61
def c64_63 : ACode := .seq c64_58 c64_62
def c64_64 : ACode := .seq c64_53 c64_63
def c64_65 : ACode := .seq c64_3 c64_64
def c64_66 : ACode := .seq c64_2 c64_65
def c64_67 : ACode := .seq c64_1 c64_66
def c64_68 : ACode := .seq c64_0 c64_67
@[go_sem] def c64_0_wp := wp_of c64_0.eq_1
@[go_sem] def c64_1_wp := wp_of c64_1.eq_1
@[go_sem] def c64_2_wp := wp_of c64_2.eq_1
@[go_sem] def c64_3_wp := wp_of c64_3.eq_1
@[go_sem] def c64_4_wp := wp_of c64_4.eq_1
@[go_sem] def c64_5_wp := wp_of c64_5.eq_1
@[go_sem] def c64_6_wp := wp_of c64_6.eq_1
@[go_sem] def c64_7_wp := wp_of c64_7.eq_1
@[go_sem] def c64_8_wp := wp_of c64_8.eq_1
@[go_sem] def c64_9_wp := wp_of c64_9.eq_1
@[go_sem] def c64_10_wp := wp_of c64_10.eq_1
@[go_sem] def c64_11_wp := wp_of c64_11.eq_1
@[go_sem] def c64_12_wp := wp_of c64_12.eq_1
@[go_sem] def c64_13_wp := wp_of c64_13.eq_1
@[go_sem] def c64_14_wp := wp_of c64_14.eq_1
@[go_sem] def c64_15_wp := wp_of c64_15.eq_1
@[go_sem] def c64_16_wp := wp_of c64_16.eq_1
@[go_sem] def c64_17_wp := wp_of c64_17.eq_1
@[go_sem] def c64_18_wp := wp_of c64_18.eq_1
@[go_sem] def c64_19_wp := wp_of c64_19.eq_1
@[go_sem] def c64_20_wp := wp_of c64_20.eq_1
@[go_sem] def c64_21_wp := wp_of c64_21.eq_1
@[go_sem] def c64_22_wp := wp_of c64_22.eq_1
@[go_sem] def c64_23_wp := wp_of c64_23.eq_1
@[go_sem] def c64_24_wp := wp_of c64_24.eq_1
@[go_sem] def c64_25_wp := wp_of c64_25.eq_1
@[go_sem] def c64_26_wp := wp_of c64_26.eq_1
@[go_sem] def c64_27_wp := wp_of c64_27.eq_1
@[go_sem] def c64_28_wp := wp_of c64_28.eq_1
@[go_sem] def c64_29_wp := wp_of c64_29.eq_1
@[go_sem] def c64_30_wp := wp_of c64_30.eq_1
@[go_sem] def c64_31_wp := wp_of c64_31.eq_1
@[go_sem] def c64_32_wp := wp_of c64_32.eq_1
@[go_sem] def c64_33_wp := wp_of c64_33.eq_1
@[go_sem] def c64_34_wp := wp_of c64_34.eq_1
@[go_sem] def c64_35_wp := wp_of c64_35.eq_1
@[go_sem] def c64_36_wp := wp_of c64_36.eq_1
@[go_sem] def c64_37_wp := wp_of c64_37.eq_1
@[go_sem] def c64_38_wp := wp_of c64_38.eq_1
@[go_sem] def c64_39_wp := wp_of c64_39.eq_1
@[go_sem] def c64_40_wp := wp_of c64_40.eq_1
@[go_sem] def c64_41_wp := wp_of c64_41.eq_1
@[go_sem] def c64_42_wp := wp_of c64_42.eq_1
@[go_sem] def c64_43_wp := wp_of c64_43.eq_1
@[go_sem] def c64_44_wp := wp_of c64_44.eq_1
@[go_sem] def c64_45_wp := wp_of c64_45.eq_1
@[go_sem] def c64_46_wp := wp_of c64_46.eq_1
@[go_sem] def c64_47_wp := wp_of c64_47.eq_1
@[go_sem] def c64_48_wp := wp_of c64_48.eq_1
@[go_sem] def c64_49_wp := wp_of c64_49.eq_1
@[go_sem] def c64_50_wp := wp_of c64_50.eq_1
@[go_sem] def c64_51_wp := wp_of c64_51.eq_1
@[go_sem] def c64_52_wp := wp_of c64_52.eq_1
@[go_sem] def c64_53_wp := wp_of c64_53.eq_1
@[go_sem] def c64_54_wp := wp_of c64_54.eq_1
@[go_sem] def c64_55_wp := wp_of c64_55.eq_1
@[go_sem] def c64_56_wp := wp_of c64_56.eq_1
@[go_sem] def c64_57_wp := wp_of c64_57.eq_1
@[go_sem] def c64_58_wp := wp_of c64_58.eq_1
@[go_sem] def c64_59_wp := wp_of c64_59.eq_1
@[go_sem] def c64_60_wp := wp_of c64_60.eq_1
@[go_sem] def c64_61_wp := wp_of c64_61.eq_1
@[go_sem] def c64_62_wp := wp_of c64_62.eq_1
@[go_sem] def c64_63_wp := wp_of c64_63.eq_1
@[go_sem] def c64_64_wp := wp_of c64_64.eq_1
@[go_sem] def c64_65_wp := wp_of c64_65.eq_1
@[go_sem] def c64_66_wp := wp_of c64_66.eq_1
@[go_sem] def c64_67_wp := wp_of c64_67.eq_1
@[go_sem] def c64_68_wp := wp_of c64_68.eq_1
def c64 : AFn := ⟨91, [.t 2], c64_68⟩
theorem c64_ok : compF Tryz.prog Tryz.f64 = some c64 := by kernel_rfl
theorem a64 {args : List AV} {σ : ASt} {R : AV → ASt → Prop} (hl : args.length ≤ 91) (h : c64_68.wp Tryz.prog (RetQ [.t 2] R) (init args) σ) : ACalls Tryz.prog 64 args σ R := acalls_of Tryz.func64 c64_ok hl h
/-! 65: (*tabular/token.lexer).failure -/
def c65_0 : ACode := .ops [
 ⟨some 2, none, .q (.mv (.v (.int .i64 0))), []⟩]
def c65_1 : ACode := .ops [
 ⟨some 6, none, .e (.call 91 []), []⟩,
 ⟨some 7, none, .q (.len (.t 6)), []⟩,
 ⟨some 8, none, .q (.mv (.v (.int .i64 0))), []⟩]
def c65_2 : ACode := .ops [
 ⟨some 9, none, .q (.bin .lss (.t 8) (.t 7)), []⟩]
def c65_3 : ACode := .cond (.t 9) .skip (.exit 0)
def c65_4 : ACode := .ops [
 ⟨some 10, none, .q (.ia 1 (.t 6) (.t 8)), []⟩,
 ⟨some 11, none, .q (.ld none (.t 10)), []⟩,
 ⟨some 4, none, .q (.mv (.t 11)), []⟩]
def c65_5 : ACode := .ops [
 ⟨some 12, none, .q (.mv (.t 4)), []⟩,
 ⟨some 13, none, .q (.lenS (.t 12)), []⟩,
 ⟨some 5, none, .q (.mv (.t 13)), []⟩]
def c65_6 : ACode := .ops [
 ⟨some 14, none, .q (.mv (.t 0)), []⟩,
 ⟨some 15, none, .q (.nc (.t 14)), []⟩,
 ⟨some 16, none, .q (.fa 1 (.t 15)), []⟩,
 ⟨some 17, none, .q (.ld none (.t 16)), []⟩,
 ⟨some 18, none, .q (.mv (.t 5)), []⟩,
 ⟨some 19, none, .q (.bin .add (.t 17) (.t 18)), []⟩,
 ⟨some 20, none, .q (.mv (.t 0)), []⟩,
 ⟨some 21, none, .q (.nc (.t 20)), []⟩,
 ⟨some 22, none, .q (.fa 0 (.t 21)), []⟩,
 ⟨some 23, none, .q (.ld none (.t 22)), []⟩,
 ⟨some 24, none, .q (.lenS (.t 23)), []⟩,
 ⟨some 25, none, .q (.bin .leq (.t 19) (.t 24)), []⟩,
 ⟨some 26, none, .q (.mv (.t 25)), []⟩,
 ⟨some 27, some (26, true), .q (.mv (.t 0)), []⟩,
 ⟨some 28, some (26, true), .q (.nc (.t 27)), []⟩,
 ⟨some 29, some (26, true), .q (.fa 0 (.t 28)), []⟩,
 ⟨some 30, some (26, true), .q (.ld none (.t 29)), []⟩,
 ⟨some 31, some (26, true), .q (.mv (.t 0)), []⟩,
 ⟨some 32, some (26, true), .q (.nc (.t 31)), []⟩,
 ⟨some 33, some (26, true), .q (.fa 1 (.t 32)), []⟩,
 ⟨some 34, some (26, true), .q (.ld none (.t 33)), []⟩,
 ⟨some 35, some (26, true), .q (.mv (.t 0)), []⟩,
 ⟨some 36, some (26, true), .q (.nc (.t 35)), []⟩,
 ⟨some 37, some (26, true), .q (.fa 1 (.t 36)), []⟩,
 ⟨some 38, some (26, true), .q (.ld none (.t 37)), []⟩,
 ⟨some 39, some (26, true), .q (.mv (.t 5)), []⟩,
 ⟨some 40, some (26, true), .q (.bin .add (.t 38) (.t 39)), []⟩,
 ⟨some 41, some (26, true), .q (.sls (true, 0) (.t 30) (.t 34) (.t 40)), []⟩,
 ⟨some 43, some (26, true), .q (.mv (.t 4)), []⟩,
 ⟨some 42, some (26, true), .e (.call 87 [(.t 41)]), []⟩,
 ⟨some 44, some (26, true), .q (.bin .eql (.t 42) (.t 43)), []⟩,
 ⟨some 45, none, .q (.pick (.t 26) (.t 44) (.v (.bool false))), []⟩]
def c65_7 : ACode := .ops [
 ⟨some 46, none, .q (.mv (.t 0)), []⟩,
 ⟨some 47, none, .q (.mv (.t 4)), []⟩,
 ⟨some 48, none, .q (.mv (.t 5)), []⟩,
 ⟨some 49, none, .e (.call 47 [(.t 46), (.v (.int .i64 5)), (.t 47), (.t 48)]), []⟩]
def c65_8 : ACode := .ops [
 ⟨some 2, none, .q (.mv (.v (.int .i64 0))), []⟩]
def c65_9 : ACode := .seq c65_8 .ret
def c65_10 : ACode := .seq c65_7 c65_9
def c65_11 : ACode := .cond (.t 45) c65_10 .skip
def c65_12 : ACode := .seq c65_6 c65_11
def c65_13 : ACode := .seq c65_5 c65_12
def c65_14 : ACode := .seq c65_4 c65_13
def c65_15 : ACode := .block 1 c65_14
def c65_16 : ACode := .ops [
 ⟨some 50, none, .q (.bin .add (.t 8) (.v (.int .i64 1))), []⟩,
 ⟨some 8, none, .q (.mv (.t 50)), []⟩]
def c65_17 : ACode := .seq c65_15 c65_16
def c65_18 : ACode := .seq c65_3 c65_17
def c65_19 : ACode := .seq c65_2 c65_18
def c65_20 : ACode := .loop c65_19
def c65_21 : ACode := .block 0 c65_20
def c65_22 : ACode := .seq c65_1 c65_21
def c65_23 : ACode := .ops [
 ⟨some 2, none, .q (.mv (.v (.int .i64 10))), []⟩]
def c65_24 : ACode := .seq c65_23 .ret
def c65_25 : ACode := .seq c65_22 c65_24
def c65_26 : ACode := .seq c65_0 c65_25
@[go_sem] def c65_0_wp := wp_of c65_0.eq_1
@[go_sem] def c65_1_wp := wp_of c65_1.eq_1
@[go_sem] def c65_2_wp := wp_of c65_2.eq_1
@[go_sem] def c65_3_wp := wp_of c65_3.eq_1
@[go_sem] def c65_4_wp := wp_of c65_4.eq_1
@[go_sem] def c65_5_wp := wp_of c65_5.eq_1
@[go_sem] def c65_6_wp := wp_of c65_6.eq_1
@[go_sem] def c65_7_wp := wp_of c65_7.eq_1
@[go_sem] def c65_8_wp := wp_of c65_8.eq_1
@[go_sem] def c65_9_wp := wp_of c65_9.eq_1
@[go_sem] def c65_10_wp := wp_of c65_10.eq_1
@[go_sem] def c65_11_wp := wp_of c65_11.eq_1
@[go_sem] def c65_12_wp := wp_of c65_12.eq_1
@[go_sem] def c65_13_wp := wp_of c65_13.eq_1
@[go_sem] def c65_14_wp := wp_of c65_14.eq_1
@[go_sem] def c65_15_wp := wp_of c65_15.eq_1
@[go_sem] def c65_16_wp := wp_of c65_16.eq_1
@[go_sem] def c65_17_wp := wp_of c65_17.eq_1
@[go_sem] def c65_18_wp := wp_of c65_18.eq_1
@[go_sem] def c65_19_wp := wp_of c65_19.eq_1
@[go_sem] def c65_20_wp := wp_of c65_20.eq_1
@[go_sem] def c65_21_wp := wp_of c65_21.eq_1
@[go_sem] def c65_22_wp := wp_of c65_22.eq_1
@[go_sem] def c65_23_wp := wp_of c65_23.eq_1
@[go_sem] def c65_24_wp := wp_of c65_24.eq_1
@[go_sem] def c65_25_wp := wp_of c65_25.eq_1
@[go_sem] def c65_26_wp := wp_of c65_26.eq_1
def c65 : AFn := ⟨51, [.t 2], c65_26⟩
theorem c65_ok : compF Tryz.prog Tryz.f65 = some c65 := by kernel_rfl
theorem a65 {args : List AV} {σ : ASt} {R : AV → ASt → Prop} (hl : args.length ≤ 51) (h : c65_26.wp Tryz.prog (RetQ [.t 2] R) (init args) σ) : ACalls Tryz.prog 65 args σ R := acalls_of Tryz.func65 c65_ok hl h
/-! 66: (*tabular/token.lexer).op -/
def c66_0 : ACode := .ops [
 ⟨some 6, none, .q (.mv (.v (.int .i64 0))), []⟩]
def c66_1 : ACode := .ops [
 ⟨some 10, none, .q (.mv (.t 1)), []⟩,
 ⟨some 11, none, .e (.call 92 [(.t 10)]), []⟩,
 ⟨some 7, none, .q (.mv (.t 11)), []⟩]
def c66_2 : ACode := .ops [
 ⟨some 12, none, .q (.mv (.t 7)), []⟩,
 ⟨some 13, none, .q (.bin .neq (.t 12) (.v (.str []))), []⟩]
def c66_3 : ACode := .ops [
 ⟨some 14, none, .q (.mv (.t 0)), []⟩,
 ⟨some 15, none, .q (.mv (.t 7)), []⟩,
 ⟨some 16, none, .q (.mv (.t 2)), []⟩,
 ⟨some 17, none, .e (.call 47 [(.t 14), (.v (.int .i64 6)), (.t 15), (.t 16)]), []⟩]
def c66_4 : ACode := .ops [
 ⟨some 6, none, .q (.mv (.v (.int .i64 0))), []⟩]
def c66_5 : ACode := .seq c66_4 .ret
def c66_6 : ACode := .seq c66_3 c66_5
def c66_7 : ACode := .cond (.t 13) c66_6 .skip
def c66_8 : ACode := .seq c66_2 c66_7
def c66_9 : ACode := .seq c66_1 c66_8
def c66_10 : ACode := .ops [
 ⟨some 18, none, .q (.bsl 1 [(.v (.str [60, 61])), (.v (.str [62, 61])), (.v (.str [60, 62]))]), []⟩,
 ⟨some 19, none, .q (.len (.t 18)), []⟩,
 ⟨some 20, none, .q (.mv (.v (.int .i64 0))), []⟩]
def c66_11 : ACode := .ops [
 ⟨some 21, none, .q (.bin .lss (.t 20) (.t 19)), []⟩]
def c66_12 : ACode := .cond (.t 21) .skip (.exit 0)
def c66_13 : ACode := .ops [
 ⟨some 22, none, .q (.ia 1 (.t 18) (.t 20)), []⟩,
 ⟨some 23, none, .q (.ld none (.t 22)), []⟩,
 ⟨some 9, none, .q (.mv (.t 23)), []⟩]
def c66_14 : ACode := .ops [
 ⟨some 24, none, .q (.mv (.t 0)), []⟩,
 ⟨some 25, none, .q (.nc (.t 24)), []⟩,
 ⟨some 26, none, .q (.fa 0 (.t 25)), []⟩,
 ⟨some 27, none, .q (.ld none (.t 26)), []⟩,
 ⟨some 28, none, .q (.mv (.t 0)), []⟩,
 ⟨some 29, none, .q (.nc (.t 28)), []⟩,
 ⟨some 30, none, .q (.fa 1 (.t 29)), []⟩,
 ⟨some 31, none, .q (.ld none (.t 30)), []⟩,
 ⟨some 32, none, .q (.slfrom (true, 0) (.t 27) (.t 31)), []⟩,
 ⟨some 33, none, .q (.mv (.t 9)), []⟩,
 ⟨some 34, none, .e (.call 93 [(.t 32), (.t 33)]), []⟩]
def c66_15 : ACode := .ops [
 ⟨some 35, none, .q (.mv (.t 0)), []⟩,
 ⟨some 36, none, .q (.mv (.t 9)), []⟩,
 ⟨some 37, none, .e (.call 47 [(.t 35), (.v (.int .i64 6)), (.t 36), (.v (.int .i64 2))]), []⟩]
def c66_16 : ACode := .ops [
 ⟨some 6, none, .q (.mv (.v (.int .i64 0))), []⟩]
def c66_17 : ACode := .seq c66_16 .ret
def c66_18 : ACode := .seq c66_15 c66_17
def c66_19 : ACode := .cond (.t 34) c66_18 .skip
def c66_20 : ACode := .seq c66_14 c66_19
def c66_21 : ACode := .seq c66_13 c66_20
def c66_22 : ACode := .block 1 c66_21
def c66_23 : ACode := .ops [
 ⟨some 38, none, .q (.bin .add (.t 20) (.v (.int .i64 1))), []⟩,
 ⟨some 20, none, .q (.mv (.t 38)), []⟩]
def c66_24 : ACode := .seq c66_22 c66_23
def c66_25 : ACode := .seq c66_12 c66_24
def c66_26 : ACode := .seq c66_11 c66_25
def c66_27 : ACode := .loop c66_26
def c66_28 : ACode := .block 0 c66_27
def c66_29 : ACode := .seq c66_10 c66_28
def c66_30 : ACode := .ops [
 ⟨some 39, none, .q (.mv (.t 0)), []⟩,
 ⟨some 40, none, .q (.nc (.t 39)), []⟩,
 ⟨some 41, none, .q (.fa 0 (.t 40)), []⟩,
 ⟨some 42, none, .q (.ld none (.t 41)), []⟩,
 ⟨some 43, none, .q (.mv (.t 0)), []⟩,
 ⟨some 44, none, .q (.nc (.t 43)), []⟩,
 ⟨some 45, none, .q (.fa 1 (.t 44)), []⟩,
 ⟨some 46, none, .q (.ld none (.t 45)), []⟩,
 ⟨some 47, none, .q (.idx (.t 42) (.t 46)), []⟩,
 ⟨some 48, none, .q (.bsl 1 [(.t 47)]), []⟩,
 ⟨some 49, none, .q (.b2s (.t 48)), []⟩,
 ⟨some 50, none, .e (.call 94 [(.v (.str [43, 45, 42, 47, 94, 38, 61, 60, 62, 37, 40, 41, 58, 44])), (.t 49)]), []⟩,
 ⟨some 51, none, .q (.un .not (.t 50)), []⟩]
def c66_31 : ACode := .ops [
 ⟨some 6, none, .q (.mv (.v (.int .i64 10))), []⟩]
def c66_32 : ACode := .seq c66_31 .ret
def c66_33 : ACode := .cond (.t 51) c66_32 .skip
def c66_34 : ACode := .seq c66_30 c66_33
def c66_35 : ACode := .ops [
 ⟨some 52, none, .q (.mv (.t 0)), []⟩,
 ⟨some 53, none, .q (.mv (.t 0)), []⟩,
 ⟨some 54, none, .q (.nc (.t 53)), []⟩,
 ⟨some 55, none, .q (.fa 0 (.t 54)), []⟩,
 ⟨some 56, none, .q (.ld none (.t 55)), []⟩,
 ⟨some 57, none, .q (.mv (.t 0)), []⟩,
 ⟨some 58, none, .q (.nc (.t 57)), []⟩,
 ⟨some 59, none, .q (.fa 1 (.t 58)), []⟩,
 ⟨some 60, none, .q (.ld none (.t 59)), []⟩,
 ⟨some 61, none, .q (.mv (.t 0)), []⟩,
 ⟨some 62, none, .q (.nc (.t 61)), []⟩,
 ⟨some 63, none, .q (.fa 1 (.t 62)), []⟩,
 ⟨some 64, none, .q (.ld none (.t 63)), []⟩,
 ⟨some 65, none, .q (.bin .add (.t 64) (.v (.int .i64 1))), []⟩,
 ⟨some 66, none, .q (.sls (true, 0) (.t 56) (.t 60) (.t 65)), []⟩,
 ⟨some 67, none, .e (.call 47 [(.t 52), (.v (.int .i64 6)), (.t 66), (.v (.int .i64 1))]), []⟩]
def c66_36 : ACode := .ops [
 ⟨some 6, none, .q (.mv (.v (.int .i64 0))), []⟩]
def c66_37 : ACode := .seq c66_36 .ret
def c66_38 : ACode := .seq c66_35 c66_37
def c66_39 : ACode := .seq c66_34 c66_38
def c66_40 : ACode := .seq c66_29 c66_39
def c66_41 : ACode := .seq c66_9 c66_40
def c66_42 : ACode := .seq c66_0 c66_41
@[go_sem] def c66_0_wp := wp_of c66_0.eq_1
@[go_sem] def c66_1_wp := wp_of c66_1.eq_1
@[go_sem] def c66_2_wp := wp_of c66_2.eq_1
@[go_sem] def c66_3_wp := wp_of c66_3.eq_1
@[go_sem] def c66_4_wp := wp_of c66_4.eq_1
@[go_sem] def c66_5_wp := wp_of c66_5.eq_1
@[go_sem] def c66_6_wp := wp_of c66_6.eq_1
@[go_sem] def c66_7_wp := wp_of c66_7.eq_1
@[go_sem] def c66_8_wp := wp_of c66_8.eq_1
@[go_sem] def c66_9_wp := wp_of c66_9.eq_1
@[go_sem] def c66_10_wp := wp_of c66_10.eq_1
@[go_sem] def c66_11_wp := wp_of c66_11.eq_1
@[go_sem] def c66_12_wp := wp_of c66_12.eq_1
@[go_sem] def c66_13_wp := wp_of c66_13.eq_1
@[go_sem] def c66_14_wp := wp_of c66_14.eq_1
@[go_sem] def c66_15_wp := wp_of c66_15.eq_1
@[go_sem] def c66_16_wp := wp_of c66_16.eq_1
@[go_sem] def c66_17_wp := wp_of c66_17.eq_1
@[go_sem] def c66_18_wp := wp_of c66_18.eq_1
@[go_sem] def c66_19_wp := wp_of c66_19.eq_1
@[go_sem] def c66_20_wp := wp_of c66_20.eq_1
@[go_sem] def c66_21_wp := wp_of c66_21.eq_1
@[go_sem] def c66_22_wp := wp_of c66_22.eq_1
@[go_sem] def c66_23_wp := wp_of c66_23.eq_1
@[go_sem] def c66_24_wp := wp_of c66_24.eq_1
@[go_sem] def c66_25_wp := wp_of c66_25.eq_1
@[go_sem] def c66_26_wp := wp_of c66_26.eq_1
@[go_sem] def c66_27_wp := wp_of c66_27.eq_1
@[go_sem] def c66_28_wp := wp_of c66_28.eq_1
@[go_sem] def c66_29_wp := wp_of c66_29.eq_1
@[go_sem] def c66_30_wp := wp_of c66_30.eq_1
@[go_sem] def c66_31_wp := wp_of c66_31.eq_1
@[go_sem] def c66_32_wp := wp_of c66_32.eq_1
@[go_sem] def c66_33_wp := wp_of c66_33.eq_1
@[go_sem] def c66_34_wp := wp_of c66_34.eq_1
@[go_sem] def c66_35_wp := wp_of c66_35.eq_1
@[go_sem] def c66_36_wp := wp_of c66_36.eq_1
@[go_sem] def c66_37_wp := wp_of c66_37.eq_1
@[go_sem] def c66_38_wp := wp_of c66_38.eq_1
@[go_sem] def c66_39_wp := wp_of c66_39.eq_1
@[go_sem] def c66_40_wp := wp_of c66_40.eq_1
@[go_sem] def c66_41_wp := wp_of c66_41.eq_1
@[go_sem] def c66_42_wp := wp_of c66_42.eq_1
def c66 : AFn := ⟨68, [.t 6], c66_42⟩
theorem c66_ok : compF Tryz.prog Tryz.f66 = some c66 := by kernel_rfl
theorem a66 {args : List AV} {σ : ASt} {R : AV → ASt → Prop} (hl : args.length ≤ 68) (h : c66_42.wp Tryz.prog (RetQ [.t 6] R) (init args) σ) : ACalls Tryz.prog 66 args σ R := acalls_of Tryz.func66 c66_ok hl h
end Go.A
