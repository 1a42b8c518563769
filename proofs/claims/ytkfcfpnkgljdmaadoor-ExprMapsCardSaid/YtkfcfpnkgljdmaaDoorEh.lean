/- Slices of one's own, all of whose memory is known. No program in sight. · Are two trees the same: plain; walked. · Trees with references laid elsewhere: plain; walked. · The areas of a tree: plain; walked. -/
import Derived.Test.YtkfcfpnkgljdmaaDoorBp
import Derived.Test.YtkfcfpnkgljdmaaDoorEe
import Derived.Test.YtkfcfpnkgljdmaaDoorCodeEh
namespace Go.A
set_option linter.unusedSimpArgs false
set_option linter.unusedVariables false

def OwnSl (σ0 σ : ASt) (v : AV) (xs : List AV) (s : Nat) : Prop :=
  (xs = [] ∧ v = .sl .full [] ∧ σ = σ0) ∨ ∃ b c rest, v = .msl b 0 xs.length c ∧ xs.length ≤ c ∧ rest.length = (c - xs.length) * s ∧ σ0 b = none ∧ σ = σ0.set b (some (.obj (xs.flatMap AV.cells ++ rest)))
theorem OwnSl.drop {σ0 σ : ASt} {v : AV} {xs : List AV} {s : Nat} (h : OwnSl σ0 σ v xs s) : Drop σ σ0 := by
  rcases h with ⟨_, _, rfl⟩ | ⟨b, c, rest, _, _, _, hb, rfl⟩
  · exact Drop.refl _
  · exact Drop.set hb
def zrow (s : Nat) (z : List AV) (n c : Nat) : List AV := (List.range ((c - n) * s)).map fun i => z.getD (i % s) .any
theorem zrow_len (s : Nat) (z : List AV) (n c : Nat) : (zrow s z n c).length = (c - n) * s := by simp [zrow]
theorem ownRow_z {s n c : Nat} {z cs : List AV} : ownRow s z cs n c = cs ++ zrow s z n c := rfl
theorem OwnSl.app {e : TypeId} {σ0 σ : ASt} {v : AV} {xs ys z : List AV} {s bytes : Nat} {k2 : SK} {K : AV → ASt → Prop} (h : OwnSl σ0 σ v xs s) (hx : ∀ x ∈ xs, x.cells.length = s) (h2 : wellSz s ys = true) (h3 : leaves (ys.flatMap AV.cells) = true)
    (h4 : (xs.length + ys.length) * bytes ≤ 140737488355328) (h5 : xs.length + ys.length ≤ 4611686018427387904) (h6 : 0 < ys.length)
    (hK : ∀ v' σ', (∃ σ2, Drop σ' σ2 ∧ OwnSl σ0 σ2 v' (xs ++ ys) s) → K v' σ') : appC e s bytes z v (.sl k2 ys) σ K := by
  have hyl : (ys.flatMap AV.cells).length = ys.length * s := lens_flat (wellSz_lens h2)
  have hxl : (xs.flatMap AV.cells).length = xs.length * s := lens_flat hx
  rcases h with ⟨rfl, rfl, rfl⟩ | ⟨b, c, rest, rfl, hc, hr, hb, rfl⟩
  · refine appO_by rfl h2 h3 h4 h5 h6 fun b c hb hc => hK _ _ ⟨_, Drop.refl _, .inr ⟨b, c, zrow s z (([] : List AV).length + ys.length) c, ?_, ?_, ?_, hb, ?_⟩⟩
    · simp
    · simpa using hc
    · rw [zrow_len]; simp
    · rw [ownRow_z]; simp only [List.nil_append, List.flatMap_nil]
  · rw [appC_msl, ASt.set_same]
    refine appM_by h2 h3 h4 h5 (by rw [List.length_append, hxl, hr]; omega) (fun hroom => ⟨?_, ?_⟩) (fun hgrow b' c' hb' hc' => ?_)
    · rw [List.length_append, hxl, hr, Nat.zero_add, ← Nat.add_mul]
      exact Nat.mul_le_mul_right _ (by omega)
    · rw [ASt.set_set]
      refine hK _ _ ⟨_, Drop.refl _, .inr ⟨b, c, rest.drop (ys.length * s), by simp, by simpa using hroom, ?_, hb, ?_⟩⟩
      · rw [List.length_drop, hr, ← Nat.sub_mul, List.length_append]
        congr 1
        omega
      · congr 3
        unfold splice
        rw [Nat.zero_add, List.flatMap_append]
        have e1 : (xs.flatMap AV.cells ++ rest).take (xs.length * s) = xs.flatMap AV.cells := by rw [← hxl]; simp
        have e2 : (xs.flatMap AV.cells ++ rest).drop (xs.length * s + ys.length * s) = rest.drop (ys.length * s) := by rw [← hxl, ← List.drop_drop]; simp
        rw [e1, e2]
    · obtain ⟨m1, m2, hb0⟩ := set_none hb'
      have e1 : ((xs.flatMap AV.cells ++ rest).drop 0).take (xs.length * s) = xs.flatMap AV.cells := by rw [← hxl]; simp
      rw [e1]
      refine hK _ _ ⟨σ0.set b' (some (.obj (ownRow s z (xs.flatMap AV.cells ++ ys.flatMap AV.cells) (xs.length + ys.length) c'))), ?_, .inr ⟨b', c', zrow s z (xs.length + ys.length) c', by simp, by simpa using hc', by rw [zrow_len, List.length_append], hb0, ?_⟩⟩
      · rw [set_swap m2]
        exact Drop.set (by rw [ASt.set_ne m2]; exact hb)
      · rw [ownRow_z, List.flatMap_append]
/-- Another object is written. -/
theorem OwnSl.obj {σ0 σ : ASt} {d : Nat} {r r' : Role} {v : AV} {xs : List AV} {s : Nat} (h : OwnSl (σ0.set d (some r)) σ v xs s) : OwnSl (σ0.set d (some r')) (σ.set d (some r')) v xs s := by
  rcases h with ⟨h1, h2, rfl⟩ | ⟨b, c, rest, h1, h2, h3, h4, rfl⟩
  · exact .inl ⟨h1, h2, by rw [ASt.set_set]⟩
  · obtain ⟨h5, h6, h7⟩ := set_none h4
    refine .inr ⟨b, c, rest, h1, h2, h3, by rw [ASt.set_ne h5]; exact h7, ?_⟩
    rw [← set_swap h6, ASt.set_set]
theorem OwnSl.at {σ0 σ : ASt} {x : Nat} {r : Role} {v : AV} {xs : List AV} {s : Nat} (h : OwnSl σ0 σ v xs s) (hx : σ0 x = some r) : σ x = some r := by
  rcases h with ⟨_, _, rfl⟩ | ⟨b, c, rest, _, _, _, hb, rfl⟩
  · exact hx
  · rw [ASt.set_ne]
    · exact hx
    · rintro rfl; rw [hb] at hx; cases hx
theorem OwnSl.fresh {σ0 σ : ASt} {x : Nat} {v : AV} {xs : List AV} {s : Nat} (h : OwnSl σ0 σ v xs s) (hx : σ x = none) : σ0 x = none := by
  cases hr : σ0 x with
  | none => rfl
  | some r => rw [h.at hr] at hx; cases hx
/-- Something else is laid, and laid down. -/
theorem OwnSl.add {σ0 σ : ASt} {d : Nat} {r : Option Role} {v : AV} {xs : List AV} {s : Nat} (h : OwnSl σ0 σ v xs s) (hd : σ d = none) : OwnSl (σ0.set d r) (σ.set d r) v xs s := by
  rcases h with ⟨h1, h2, rfl⟩ | ⟨b, c, rest, h1, h2, h3, h4, rfl⟩
  · exact .inl ⟨h1, h2, rfl⟩
  · obtain ⟨h5, h6, h7⟩ := set_none hd
    exact .inr ⟨b, c, rest, h1, h2, h3, by rw [ASt.set_ne h6]; exact h4, set_swap h6⟩
theorem OwnSl.less {σ0 σ : ASt} {e : Nat} {E : Role} {v : AV} {xs : List AV} {s : Nat} (h : OwnSl (σ0.set e (some E)) σ v xs s) (he : σ0 e = none) : ∃ σ', Drop σ σ' ∧ OwnSl σ0 σ' v xs s := by
  rcases h with ⟨h1, h2, rfl⟩ | ⟨b, c, rest, h1, h2, h3, h4, rfl⟩
  · exact ⟨σ0, Drop.set he, .inl ⟨h1, h2, rfl⟩⟩
  · obtain ⟨h5, h6, h7⟩ := set_none h4
    refine ⟨σ0.set b (some (.obj (xs.flatMap AV.cells ++ rest))), ?_, .inr ⟨b, c, rest, h1, h2, h3, h7, rfl⟩⟩
    rw [set_swap h6]
    exact Drop.set (by rw [ASt.set_ne h6]; exact he)
/-- What it is when it is only read. -/
theorem OwnSl.fz {σ0 σ σ' : ASt} {v : AV} {xs : List AV} {s : Nat} (h : OwnSl σ0 σ v xs s) (hx : ∀ x ∈ xs, x.cells.length = s) (hn : ∀ b, σ0 b = none → σ' b = none) : Fz σ σ' v (.sl .shr xs) := by
  rcases h with ⟨rfl, rfl, rfl⟩ | ⟨b, c, rest, rfl, h2, h3, h4, rfl⟩
  · exact .sl _ _
  · have hxl : (xs.flatMap AV.cells).length = xs.length * s := lens_flat hx
    refine .msl 0 _ c s xs (ASt.set_same _ _ _) (hn _ h4) rfl h2 hx ?_
    rw [List.drop_zero, ← hxl, List.take_left]
end Go.A
namespace Go.A
open Go.Proofs Go.Lib
set_option maxRecDepth 100000
set_option linter.unusedSimpArgs false
set_option linter.unusedVariables false

mutual
def Nd.same : Nd → Nd → Bool
  | .mk o n s a b ks, .mk o' n' s' a' b' ks' => decide (o = o') && decide (n = n') && decide (s = s') && decide (a = a') && decide (b = b') && Nd.sames ks ks'
def Nd.sames : List Nd → List Nd → Bool
  | [], [] => true
  | [], _ :: _ => false
  | _ :: _, [] => false
  | x :: xs, y :: ys => Nd.same x y && Nd.sames xs ys
end
mutual
theorem Nd.same_eq : ∀ (x y : Nd), Nd.same x y = true → x = y
  | .mk o n s a b ks, .mk o' n' s' a' b' ks', h => by
    rw [Nd.same] at h
    simp only [Bool.and_eq_true, decide_eq_true_eq] at h
    obtain ⟨⟨⟨⟨⟨rfl, rfl⟩, rfl⟩, rfl⟩, rfl⟩, h⟩ := h
    rw [Nd.sames_eq ks ks' h]
theorem Nd.sames_eq : ∀ (xs ys : List Nd), Nd.sames xs ys = true → xs = ys
  | [], [], _ => rfl
  | [], _ :: _, h => by cases h
  | _ :: _, [], h => by cases h
  | x :: xs, y :: ys, h => by
    rw [Nd.sames, Bool.and_eq_true] at h
    rw [Nd.same_eq x y h.1, Nd.sames_eq xs ys h.2]
end
mutual
theorem Nd.same_refl : ∀ x : Nd, Nd.same x x = true
  | .mk o n s a b ks => by rw [Nd.same, Nd.sames_refl ks]; simp
theorem Nd.sames_refl : ∀ xs : List Nd, Nd.sames xs xs = true
  | [] => rfl
  | x :: xs => by rw [Nd.sames, Nd.same_refl x, Nd.sames_refl xs]; rfl
end
theorem Nd.sames_len : ∀ {xs ys : List Nd}, Nd.sames xs ys = true → xs.length = ys.length := fun h => by rw [Nd.sames_eq _ _ h]
theorem Nd.sames_get {xs ys : List Nd} {i : Nat} {x y : Nd} (hx : xs[i]? = some x) (hy : ys[i]? = some y) (h : Nd.sames xs ys = true) : Nd.same x y = true := by
  rw [Nd.sames_eq _ _ h, hy] at hx
  injection hx with hx
  rw [hx]; exact Nd.same_refl _
theorem Nd.sames_all : ∀ {xs ys : List Nd}, xs.length = ys.length → (∀ (i : Nat) x y, xs[i]? = some x → ys[i]? = some y → Nd.same x y = true) → Nd.sames xs ys = true
  | [], [], _, _ => rfl
  | [], _ :: _, h, _ => by simp at h
  | _ :: _, [], h, _ => by simp at h
  | x :: xs, y :: ys, h, hs => by
    rw [Nd.sames, hs 0 x y rfl rfl, Nd.sames_all (by simpa using h) fun i u v hu hv => hs (i + 1) u v (by simpa using hu) (by simpa using hv)]
    rfl
theorem equal_ok (xs ys : List Nd) (hl : xs.length ≤ 1000000000 ∧ ys.length ≤ 1000000000) (ih : ∀ x ∈ xs, ∀ y ∈ ys, Pure Tryd.prog 15 [x.av, y.av] (.bool (Nd.same x y))) :
    Pure Tryd.prog 22 [.sl .shr (xs.map Nd.av), .sl .shr (ys.map Nd.av), .func (.func 15) [] []] (.bool (Nd.sames xs ys)) := by
  intro σ
  refine a22 (by simp) ?_
  by_cases hne : xs.length = ys.length
  · have hne' : ¬ ((xs.length : Int) ≠ ys.length) := by omega
    have hne2 : (xs.length : Int) = ys.length := by omega
    simp (disch := first | assumption | omega | (simp only [List.length_append, List.length_cons, List.length_nil]; omega)) only [go_sem, reduceCtorEq, Nat.reduceEqDiff, Nat.reduceAdd, Nat.reduceSub, Nat.reduceMul, Nat.reduceLeDiff, Int.reduceLT, Int.reduceLE, Int.reduceEq, ↓reduceIte, Int.reduceNeg, Int.reduceAdd, Int.reduceSub, Int.reduceMul, true_imp_iff, forall_const, Nat.mul_one, Int.reduceToNat, Nat.reducePow, Int.reducePow, Bool.true_and, Bool.false_and, Bool.and_false, hne2]
    refine wp_loop_by (fun (i : Nat) a1 s2 => (i ≤ xs.length ∧ ∀ k x y, k < i → xs[k]? = some x → ys[k]? = some y → Nd.same x y = true) ∧ (a1 1 = .sl .shr (ys.map Nd.av) ∧ a1 2 = .func (.func 15) [] [] ∧ a1 15 = .sl .shr (xs.map Nd.av) ∧ a1 16 = .int .i64 xs.length ∧ a1 17 = .int .i64 i) ∧ s2 = σ) (fun i => xs.length - i) 0 (Dr.now ⟨⟨Nat.zero_le _, fun k x y h => by omega⟩, ?_, rfl⟩) ?_
    · simp (disch := first | assumption | omega | (simp only [List.length_append, List.length_cons, List.length_nil]; omega)) only [go_sem, reduceCtorEq, Nat.reduceEqDiff, Nat.reduceAdd, Nat.reduceSub, Nat.reduceMul, Nat.reduceLeDiff, Int.reduceLT, Int.reduceLE, Int.reduceEq, ↓reduceIte, Int.reduceNeg, Int.reduceAdd, Int.reduceSub, Int.reduceMul, true_imp_iff, forall_const, Nat.mul_one, Int.reduceToNat, Nat.reducePow, Int.reducePow, Bool.true_and, Bool.false_and, Bool.and_false, hne2]
    rintro i a1 s2 ⟨⟨hi, hall⟩, hf, rfl⟩
    by_cases hlt : i < xs.length
    · have hlt' : (i : Int) < xs.length := by omega
      have hx : xs[i]? = some (xs[i]'hlt) := List.getElem?_eq_getElem hlt
      have hy : ys[i]? = some (ys[i]'(by omega)) := List.getElem?_eq_getElem (by omega)
      have hih := ih _ (List.getElem_mem hlt) _ (List.getElem_mem (h := by omega) : ys[i]'(by omega) ∈ ys)
      obtain ⟨x, hxe⟩ : ∃ x, xs[i]'hlt = x := ⟨_, rfl⟩
      obtain ⟨y, hye⟩ : ∃ y, ys[i]'(by omega) = y := ⟨_, rfl⟩
      rw [hxe] at hx hih
      rw [hye] at hy hih
      have hmx := Nd.get hx
      have hmy := Nd.get hy
      obtain ⟨r, hr⟩ : ∃ r, Nd.same x y = r := ⟨_, rfl⟩
      rw [hr] at hih
      obtain ⟨xo, xm, xs', xa, xb, xk⟩ := x
      obtain ⟨yo, ym, ys', ya, yb, yk⟩ := y
      rw [Nd.av_cs] at hmx
      rw [Nd.av_cs] at hmy
      rw [Nd.av_cs, Nd.av_cs] at hih
      generalize xk.map Nd.av = XK at *
      generalize yk.map Nd.av = YK at *
      generalize hXL : xs.map Nd.av = XL at *
      generalize hYL : ys.map Nd.av = YL at *
      have hok : okFn Tryd.prog 15 = true := by kernel_rfl
      simp (disch := first | assumption | omega | (simp only [List.length_append, List.length_cons, List.length_nil]; omega)) only [go_sem, reduceCtorEq, Nat.reduceEqDiff, Nat.reduceAdd, Nat.reduceSub, Nat.reduceMul, Nat.reduceLeDiff, Int.reduceLT, Int.reduceLE, Int.reduceEq, ↓reduceIte, Int.reduceNeg, Int.reduceAdd, Int.reduceSub, Int.reduceMul, true_imp_iff, forall_const, Nat.mul_one, Int.reduceToNat, Nat.reducePow, Int.reducePow, Bool.true_and, Bool.false_and, Bool.and_false, hf, hlt', hmx]
      refine allocC_by fun d hd => ?_
      have hd0 := hd
      simp (disch := first | assumption | omega | (simp only [List.length_append, List.length_cons, List.length_nil]; omega)) only [go_sem, reduceCtorEq, Nat.reduceEqDiff, Nat.reduceAdd, Nat.reduceSub, Nat.reduceMul, Nat.reduceLeDiff, Int.reduceLT, Int.reduceLE, Int.reduceEq, ↓reduceIte, Int.reduceNeg, Int.reduceAdd, Int.reduceSub, Int.reduceMul, true_imp_iff, forall_const, Nat.mul_one, Int.reduceToNat, Nat.reducePow, Int.reducePow, Bool.true_and, Bool.false_and, Bool.and_false, hf, hmy, ASt.set_set]
      refine allocC_by fun e he => ?_
      have he0 := he
      repeat (with_reducible replace he := set_none he; obtain ⟨_, _, he⟩ := he)
      simp (disch := first | assumption | omega | (simp only [List.length_append, List.length_cons, List.length_nil]; omega)) only [go_sem, reduceCtorEq, Nat.reduceEqDiff, Nat.reduceAdd, Nat.reduceSub, Nat.reduceMul, Nat.reduceLeDiff, Int.reduceLT, Int.reduceLE, Int.reduceEq, ↓reduceIte, Int.reduceNeg, Int.reduceAdd, Int.reduceSub, Int.reduceMul, true_imp_iff, forall_const, Nat.mul_one, Int.reduceToNat, Nat.reducePow, Int.reducePow, Bool.true_and, Bool.false_and, Bool.and_false, hf, ASt.set_set]
      refine ⟨hok, hih.use ?_⟩
      cases r with
      | true =>
        simp (disch := first | assumption | omega | (simp only [List.length_append, List.length_cons, List.length_nil]; omega)) only [go_sem, reduceCtorEq, Nat.reduceEqDiff, Nat.reduceAdd, Nat.reduceSub, Nat.reduceMul, Nat.reduceLeDiff, Int.reduceLT, Int.reduceLE, Int.reduceEq, ↓reduceIte, Int.reduceNeg, Int.reduceAdd, Int.reduceSub, Int.reduceMul, true_imp_iff, forall_const, Nat.mul_one, Int.reduceToNat, Nat.reducePow, Int.reducePow, Bool.true_and, Bool.false_and, Bool.and_false, hf]
        refine ⟨i + 1, by dsimp only; omega, Dr.drop ((Drop.set hd).off (by assumption)) ⟨⟨by omega, fun k u v hk hu hv => ?_⟩, ?_, rfl⟩⟩
        · by_cases hki : k = i
          · subst hki
            rw [hx] at hu; rw [hy] at hv
            injection hu with hu; injection hv with hv
            subst hu hv; exact hr
          · exact hall k u v (by omega) hu hv
        · simp (disch := first | assumption | omega | (simp only [List.length_append, List.length_cons, List.length_nil]; omega)) only [go_sem, reduceCtorEq, Nat.reduceEqDiff, Nat.reduceAdd, Nat.reduceSub, Nat.reduceMul, Nat.reduceLeDiff, Int.reduceLT, Int.reduceLE, Int.reduceEq, ↓reduceIte, Int.reduceNeg, Int.reduceAdd, Int.reduceSub, Int.reduceMul, true_imp_iff, forall_const, Nat.mul_one, Int.reduceToNat, Nat.reducePow, Int.reducePow, Bool.true_and, Bool.false_and, Bool.and_false, hf]
      | false =>
        have hfin : Nd.sames xs ys = false := by
          cases h : Nd.sames xs ys with
          | false => rfl
          | true => rw [Nd.sames_get hx hy h] at hr; cases hr
        simp (disch := first | assumption | omega | (simp only [List.length_append, List.length_cons, List.length_nil]; omega)) only [go_sem, reduceCtorEq, Nat.reduceEqDiff, Nat.reduceAdd, Nat.reduceSub, Nat.reduceMul, Nat.reduceLeDiff, Int.reduceLT, Int.reduceLE, Int.reduceEq, ↓reduceIte, Int.reduceNeg, Int.reduceAdd, Int.reduceSub, Int.reduceMul, true_imp_iff, forall_const, Nat.mul_one, Int.reduceToNat, Nat.reducePow, Int.reducePow, Bool.true_and, Bool.false_and, Bool.and_false, hf]
        exact retC_by ((Drop.set hd).off (by assumption)) (.refl _) ⟨by rw [hfin]; rfl, rfl⟩
    · have hlt' : ¬ (i : Int) < xs.length := by omega
      have hfin : Nd.sames xs ys = true := Nd.sames_all hne fun k u v hu hv => hall k u v (by have := (List.getElem?_eq_some_iff.1 hu).1; omega) hu hv
      simp (disch := first | assumption | omega | (simp only [List.length_append, List.length_cons, List.length_nil]; omega)) only [go_sem, reduceCtorEq, Nat.reduceEqDiff, Nat.reduceAdd, Nat.reduceSub, Nat.reduceMul, Nat.reduceLeDiff, Int.reduceLT, Int.reduceLE, Int.reduceEq, ↓reduceIte, Int.reduceNeg, Int.reduceAdd, Int.reduceSub, Int.reduceMul, true_imp_iff, forall_const, Nat.mul_one, Int.reduceToNat, Nat.reducePow, Int.reducePow, Bool.true_and, Bool.false_and, Bool.and_false, hf, hlt']
      exact retC_by (Drop.refl _) (.refl _) ⟨by rw [hfin]; rfl, rfl⟩
  · have hne2 : ¬ (xs.length : Int) = ys.length := by omega
    have hfin : Nd.sames xs ys = false := by
      cases h : Nd.sames xs ys with
      | false => rfl
      | true => exact absurd (Nd.sames_len h) hne
    simp (disch := first | assumption | omega | (simp only [List.length_append, List.length_cons, List.length_nil]; omega)) only [go_sem, reduceCtorEq, Nat.reduceEqDiff, Nat.reduceAdd, Nat.reduceSub, Nat.reduceMul, Nat.reduceLeDiff, Int.reduceLT, Int.reduceLE, Int.reduceEq, ↓reduceIte, Int.reduceNeg, Int.reduceAdd, Int.reduceSub, Int.reduceMul, true_imp_iff, forall_const, Nat.mul_one, Int.reduceToNat, Nat.reducePow, Int.reducePow, Bool.true_and, Bool.false_and, Bool.and_false, hne2]
    exact retC_by (Drop.refl _) (.refl _) ⟨by rw [hfin]; rfl, rfl⟩
theorem ref_ne {a b : Ref} (h : a ≠ b) : (decide (a.row = b.row) && (decide (a.col = b.col) && (decide (a.absRow = b.absRow) && decide (a.absCol = b.absCol)))) = false := by
  obtain ⟨a1, a2, a3, a4⟩ := a
  obtain ⟨b1, b2, b3, b4⟩ := b
  cases hd : (decide (a1 = b1) && (decide (a2 = b2) && (decide (a3 = b3) && decide (a4 = b4)))) with
  | false => rfl
  | true =>
    simp only [Bool.and_eq_true, decide_eq_true_eq] at hd
    obtain ⟨rfl, rfl, rfl, rfl⟩ := hd
    exact absurd rfl h
theorem esame_le : ∀ (k : Nat) (x y : Nd), x.size ≤ k → x.size ≤ 1000000000 → y.size ≤ 1000000000 → Pure Tryd.prog 15 [x.av, y.av] (.bool (Nd.same x y))
  | 0, x, y, hk, _, _ => by have := x.size_pos; omega
  | k + 1, x, y, hk, hx, hy => by
    intro σ
    obtain ⟨o, n, s, a, b, ks⟩ := x
    obtain ⟨o', n', s', a', b', ks'⟩ := y
    rw [Nd.size] at hk hx hy
    have l1 := sizes_len ks
    have l2 := sizes_len ks'
    have hE := equal_ok ks ks' ⟨by omega, by omega⟩ fun u hu v hv => by
      have h1 := Nd.size_kid hu
      have h2 := Nd.size_kid hv
      exact esame_le k u v (by omega) (by omega) (by omega)
    rw [Nd.av_cs, Nd.av_cs, Nd.same]
    generalize Nd.sames ks ks' = r at *
    generalize ks.map Nd.av = L at *
    generalize ks'.map Nd.av = L' at *
    refine a15 (by simp) ?_
    simp (disch := first | assumption | omega | (simp only [List.length_append, List.length_cons, List.length_nil]; omega)) only [go_sem, reduceCtorEq, Nat.reduceEqDiff, Nat.reduceAdd, Nat.reduceSub, Nat.reduceMul, Nat.reduceLeDiff, Int.reduceLT, Int.reduceLE, Int.reduceEq, ↓reduceIte, Int.reduceNeg, Int.reduceAdd, Int.reduceSub, Int.reduceMul, true_imp_iff, forall_const, Nat.mul_one, Int.reduceToNat, Nat.reducePow, Int.reducePow, Bool.true_and, Bool.false_and, Bool.and_false]
    refine boxC_by rfl fun c hc => ?_
    simp (disch := first | assumption | omega | (simp only [List.length_append, List.length_cons, List.length_nil]; omega)) only [go_sem, reduceCtorEq, Nat.reduceEqDiff, Nat.reduceAdd, Nat.reduceSub, Nat.reduceMul, Nat.reduceLeDiff, Int.reduceLT, Int.reduceLE, Int.reduceEq, ↓reduceIte, Int.reduceNeg, Int.reduceAdd, Int.reduceSub, Int.reduceMul, true_imp_iff, forall_const, Nat.mul_one, Int.reduceToNat, Nat.reducePow, Int.reducePow, Bool.true_and, Bool.false_and, Bool.and_false]
    refine boxC_by rfl fun d hd => ?_
    have hd0 := hd
    repeat (with_reducible replace hd := set_none hd; obtain ⟨_, _, hd⟩ := hd)
    have hD : ∀ r r' : Option Role, Drop ((σ.set c r).set d r') σ := fun r r' => (Drop.set hc).off (by assumption)
    by_cases h1 : o = o'
    · by_cases h2 : n = n'
      · by_cases h3 : s = s'
        · by_cases h4 : a = a'
          · by_cases h5 : b = b'
            · subst h1 h2 h3 h4 h5
              simp (disch := first | assumption | omega | (simp only [List.length_append, List.length_cons, List.length_nil]; omega)) only [go_sem, reduceCtorEq, Nat.reduceEqDiff, Nat.reduceAdd, Nat.reduceSub, Nat.reduceMul, Nat.reduceLeDiff, Int.reduceLT, Int.reduceLE, Int.reduceEq, ↓reduceIte, Int.reduceNeg, Int.reduceAdd, Int.reduceSub, Int.reduceMul, true_imp_iff, forall_const, Nat.mul_one, Int.reduceToNat, Nat.reducePow, Int.reducePow, Bool.true_and, Bool.false_and, Bool.and_false, eq_self]
              refine hE.use ?_
              simp (disch := first | assumption | omega | (simp only [List.length_append, List.length_cons, List.length_nil]; omega)) only [go_sem, reduceCtorEq, Nat.reduceEqDiff, Nat.reduceAdd, Nat.reduceSub, Nat.reduceMul, Nat.reduceLeDiff, Int.reduceLT, Int.reduceLE, Int.reduceEq, ↓reduceIte, Int.reduceNeg, Int.reduceAdd, Int.reduceSub, Int.reduceMul, true_imp_iff, forall_const, Nat.mul_one, Int.reduceToNat, Nat.reducePow, Int.reducePow, Bool.true_and, Bool.false_and, Bool.and_false, eq_self]
              refine retC_by (hD _ _) (.refl _) ⟨?_, rfl⟩
              first | rfl | (show AV.bool _ = AV.bool _; simp)
            · have h5' := ref_ne h5
              subst h1 h2 h3 h4
              simp (disch := first | assumption | omega | (simp only [List.length_append, List.length_cons, List.length_nil]; omega)) only [go_sem, reduceCtorEq, Nat.reduceEqDiff, Nat.reduceAdd, Nat.reduceSub, Nat.reduceMul, Nat.reduceLeDiff, Int.reduceLT, Int.reduceLE, Int.reduceEq, ↓reduceIte, Int.reduceNeg, Int.reduceAdd, Int.reduceSub, Int.reduceMul, true_imp_iff, forall_const, Nat.mul_one, Int.reduceToNat, Nat.reducePow, Int.reducePow, Bool.true_and, Bool.false_and, Bool.and_false, eq_self, h5']
              refine retC_by (hD _ _) (.refl _) ⟨?_, rfl⟩
              first | rfl | (show AV.bool _ = AV.bool _; simp [h5])
          · have h4' := ref_ne h4
            subst h1 h2 h3
            simp (disch := first | assumption | omega | (simp only [List.length_append, List.length_cons, List.length_nil]; omega)) only [go_sem, reduceCtorEq, Nat.reduceEqDiff, Nat.reduceAdd, Nat.reduceSub, Nat.reduceMul, Nat.reduceLeDiff, Int.reduceLT, Int.reduceLE, Int.reduceEq, ↓reduceIte, Int.reduceNeg, Int.reduceAdd, Int.reduceSub, Int.reduceMul, true_imp_iff, forall_const, Nat.mul_one, Int.reduceToNat, Nat.reducePow, Int.reducePow, Bool.true_and, Bool.false_and, Bool.and_false, eq_self, h4']
            refine retC_by (hD _ _) (.refl _) ⟨?_, rfl⟩
            first | rfl | (show AV.bool _ = AV.bool _; simp [h4])
        · subst h1 h2
          simp (disch := first | assumption | omega | (simp only [List.length_append, List.length_cons, List.length_nil]; omega)) only [go_sem, reduceCtorEq, Nat.reduceEqDiff, Nat.reduceAdd, Nat.reduceSub, Nat.reduceMul, Nat.reduceLeDiff, Int.reduceLT, Int.reduceLE, Int.reduceEq, ↓reduceIte, Int.reduceNeg, Int.reduceAdd, Int.reduceSub, Int.reduceMul, true_imp_iff, forall_const, Nat.mul_one, Int.reduceToNat, Nat.reducePow, Int.reducePow, Bool.true_and, Bool.false_and, Bool.and_false, eq_self, h3]
          refine retC_by (hD _ _) (.refl _) ⟨?_, rfl⟩
          first | rfl | (show AV.bool _ = AV.bool _; simp [h3])
      · subst h1
        simp (disch := first | assumption | omega | (simp only [List.length_append, List.length_cons, List.length_nil]; omega)) only [go_sem, reduceCtorEq, Nat.reduceEqDiff, Nat.reduceAdd, Nat.reduceSub, Nat.reduceMul, Nat.reduceLeDiff, Int.reduceLT, Int.reduceLE, Int.reduceEq, ↓reduceIte, Int.reduceNeg, Int.reduceAdd, Int.reduceSub, Int.reduceMul, true_imp_iff, forall_const, Nat.mul_one, Int.reduceToNat, Nat.reducePow, Int.reducePow, Bool.true_and, Bool.false_and, Bool.and_false, eq_self, h2]
        refine retC_by (hD _ _) (.refl _) ⟨?_, rfl⟩
        first | rfl | (show AV.bool _ = AV.bool _; simp [h2])
    · simp (disch := first | assumption | omega | (simp only [List.length_append, List.length_cons, List.length_nil]; omega)) only [go_sem, reduceCtorEq, Nat.reduceEqDiff, Nat.reduceAdd, Nat.reduceSub, Nat.reduceMul, Nat.reduceLeDiff, Int.reduceLT, Int.reduceLE, Int.reduceEq, ↓reduceIte, Int.reduceNeg, Int.reduceAdd, Int.reduceSub, Int.reduceMul, true_imp_iff, forall_const, Nat.mul_one, Int.reduceToNat, Nat.reducePow, Int.reducePow, Bool.true_and, Bool.false_and, Bool.and_false, h1]
      refine retC_by (hD _ _) (.refl _) ⟨?_, rfl⟩
      first | rfl | (show AV.bool _ = AV.bool _; simp [h1])
theorem esame_ok (x y : Nd) (hx : x.size ≤ 1000000000) (hy : y.size ≤ 1000000000) : Pure Tryd.prog 15 [x.av, y.av] (.bool (Nd.same x y)) := esame_le x.size x y (Nat.le_refl _) hx hy
end Go.A
namespace Go.A
open Go.Proofs Go.Lib
set_option maxRecDepth 100000
set_option linter.unusedSimpArgs false
set_option linter.unusedVariables false

mutual
def Nd.map (f : Nd → Nd) : Nd → Nd
  | .mk op n s a b ks => if op = 5 ∨ op = 6 then f (.mk op n s a b ks) else .mk op n s a b (Nd.maps f ks)
def Nd.maps (f : Nd → Nd) : List Nd → List Nd
  | [] => []
  | x :: xs => Nd.map f x :: Nd.maps f xs
end
theorem Nd.maps_map (f : Nd → Nd) : ∀ l : List Nd, Nd.maps f l = l.map (Nd.map f)
  | [] => rfl
  | x :: xs => by rw [Nd.maps, Nd.maps_map f xs]; rfl
/-- What is made of references: a function value that leaves all as it was. -/
def MapF (F : AV) (f : Nd → Nd) (I : ASt → Prop) : Prop := ∃ g cap, F = .func (.func g) [] cap ∧ okFn Tryd.prog g = true ∧ (∀ σ b r, I σ → σ b = none → I (σ.set b r)) ∧
  ∀ x σ, I σ → (x.op = 5 ∨ x.op = 6) → ACalls Tryd.prog g (x.av :: cap) σ fun v σ' => v = (f x).av ∧ σ' = σ
def zeroC : List AV := [.int .i64 0, .int .i64 0, .str [], .int .i64 0, .int .i64 0, .bool false, .bool false, .int .i64 0, .int .i64 0, .bool false, .bool false, .sl .full []]
/-- What lies in the row of the new kids behind the first i of them. -/
def rowAt (f : Nd → Nd) (ks : List Nd) (z : List AV) (i : Nat) : List AV := (((ks.take i).map fun x => (Nd.map f x).av).flatMap AV.cells) ++ (List.replicate (ks.length - i) z).flatten
theorem rowAt_pre (f : Nd → Nd) (ks : List Nd) (i : Nat) : (((ks.take i).map fun x => (Nd.map f x).av).flatMap AV.cells).length = (ks.take i).length * 12 := by
  rw [lens_flat (s := 12)]
  · simp
  · intro x hx
    obtain ⟨y, _, rfl⟩ := List.mem_map.1 hx
    exact Nd.av_len _
theorem rowAt_len (f : Nd → Nd) (ks : List Nd) {z : List AV} (hz : z.length = 12) {i : Nat} (hi : i ≤ ks.length) : (rowAt f ks z i).length = ks.length * 12 := by
  unfold rowAt
  rw [List.length_append, rowAt_pre, flatten_len, hz, List.length_take, ← Nat.add_mul]
  congr 1
  omega
theorem rowAt_step (f : Nd → Nd) (ks : List Nd) {z : List AV} (hz : z.length = 12) {i : Nat} {x : Nd} (hx : ks[i]? = some x) :
    ((rowAt f ks z i).take (i * 12) ++ (Nd.map f x).av.cells) ++ (rowAt f ks z i).drop (i * 12 + 12) = rowAt f ks z (i + 1) := by
  rw [List.append_assoc]
  have hlt : i < ks.length := (List.getElem?_eq_some_iff.1 hx).1
  have hp := rowAt_pre f ks i
  rw [List.length_take, Nat.min_eq_left (by omega)] at hp
  have ht : ks.take (i + 1) = ks.take i ++ [x] := by rw [List.take_add_one, hx]; rfl
  have hr : ks.length - i = (ks.length - (i + 1)) + 1 := by omega
  unfold rowAt
  rw [ht, hr, List.replicate_succ, List.flatten_cons, List.map_append, List.flatMap_append]
  generalize (((ks.take i).map fun x => (Nd.map f x).av).flatMap AV.cells) = P at *
  generalize (List.replicate (ks.length - (i + 1)) z).flatten = R
  have e1 : (P ++ (z ++ R)).take (i * 12) = P := by rw [← hp]; simp
  have e2 : (P ++ (z ++ R)).drop (i * 12 + 12) = R := by
    rw [← List.drop_drop, ← hp, List.drop_left, ← hz, List.drop_left]
  rw [e1, e2]
  simp
theorem rowAt_end (f : Nd → Nd) (ks : List Nd) (z : List AV) : rowAt f ks z ks.length = (ks.map fun x => (Nd.map f x).av).flatMap AV.cells := by
  unfold rowAt
  rw [List.take_length, Nat.sub_self]
  simp
theorem rowAt_zero (f : Nd → Nd) (ks : List Nd) (z : List AV) : rowAt f ks z 0 = (List.replicate ks.length z).flatten := by
  unfold rowAt
  simp
theorem map_le (F : AV) (f : Nd → Nd) (I : ASt → Prop) (hF : MapF F f I) : ∀ (k : Nat) (n : Nd), n.size ≤ k → n.size ≤ 1000000000 → ∀ σ, I σ → ACalls Tryd.prog 11 [n.av, F] σ fun v σ' => v = (Nd.map f n).av ∧ σ' = σ
  | 0, n, hk, _ => by have := n.size_pos; omega
  | k + 1, n, hk, hb => by
    intro σ hI
    have ih := map_le F f I hF k
    obtain ⟨g, cap, rfl, hok, hst, hcall⟩ := hF
    obtain ⟨op, m, s, a, b, ks⟩ := n
    have hc0 := hcall (.mk op m s a b ks)
    rw [Nd.size] at hk hb
    have hlen := sizes_len ks
    rw [Nd.map, Nd.maps_map]
    have hav := Nd.av_cs op m s a b ks
    by_cases ho : op = 5 ∨ op = 6
    · rw [if_pos ho]
      obtain ⟨w, hw⟩ : ∃ w, (f (Nd.mk op m s a b ks)) = w := ⟨_, rfl⟩
      rw [hw, hav] at hc0
      rw [hw, hav]
      obtain ⟨wo, wm, ws, wa, wb, wk⟩ := w
      rw [Nd.av_cs] at hc0 ⊢
      generalize ks.map Nd.av = L at *
      generalize wk.map Nd.av = WL at *
      refine a11 (by simp) ?_
      simp (disch := first | assumption | omega | (simp only [List.length_append, List.length_cons, List.length_nil]; omega)) only [go_sem, reduceCtorEq, Nat.reduceEqDiff, Nat.reduceAdd, Nat.reduceSub, Nat.reduceMul, Nat.reduceLeDiff, Int.reduceLT, Int.reduceLE, Int.reduceEq, ↓reduceIte, Int.reduceNeg, Int.reduceAdd, Int.reduceSub, Int.reduceMul, true_imp_iff, forall_const, Nat.mul_one, Int.reduceToNat, Nat.reducePow, Int.reducePow, Bool.true_and, Bool.false_and, Bool.and_false]
      refine boxC_by rfl fun c hc => ?_
      simp (disch := first | assumption | omega | (simp only [List.length_append, List.length_cons, List.length_nil]; omega)) only [go_sem, reduceCtorEq, Nat.reduceEqDiff, Nat.reduceAdd, Nat.reduceSub, Nat.reduceMul, Nat.reduceLeDiff, Int.reduceLT, Int.reduceLE, Int.reduceEq, ↓reduceIte, Int.reduceNeg, Int.reduceAdd, Int.reduceSub, Int.reduceMul, true_imp_iff, forall_const, Nat.mul_one, Int.reduceToNat, Nat.reducePow, Int.reducePow, Bool.true_and, Bool.false_and, Bool.and_false]
      refine allocC_by fun d hd => ?_
      have hd0 := hd
      repeat (with_reducible replace hd := set_none hd; obtain ⟨_, _, hd⟩ := hd)
      have h0 := hc0 _ (hst _ _ (some (.obj zeroC)) (hst _ _ (some (.obj (Nd.cs op m s a b L))) hI hc) hd0) ho
      unfold zeroC Nd.cs at h0
      rcases ho with rfl | rfl
      · simp (disch := first | assumption | omega | (simp only [List.length_append, List.length_cons, List.length_nil]; omega)) only [go_sem, reduceCtorEq, Nat.reduceEqDiff, Nat.reduceAdd, Nat.reduceSub, Nat.reduceMul, Nat.reduceLeDiff, Int.reduceLT, Int.reduceLE, Int.reduceEq, ↓reduceIte, Int.reduceNeg, Int.reduceAdd, Int.reduceSub, Int.reduceMul, true_imp_iff, forall_const, Nat.mul_one, Int.reduceToNat, Nat.reducePow, Int.reducePow, Bool.true_and, Bool.false_and, Bool.and_false]
        refine ⟨hok, ?_⟩
        unfold Nd.cs
        refine h0.mono ?_
        rintro v σ' ⟨rfl, rfl⟩
        simp (disch := first | assumption | omega | (simp only [List.length_append, List.length_cons, List.length_nil]; omega)) only [go_sem, reduceCtorEq, Nat.reduceEqDiff, Nat.reduceAdd, Nat.reduceSub, Nat.reduceMul, Nat.reduceLeDiff, Int.reduceLT, Int.reduceLE, Int.reduceEq, ↓reduceIte, Int.reduceNeg, Int.reduceAdd, Int.reduceSub, Int.reduceMul, true_imp_iff, forall_const, Nat.mul_one, Int.reduceToNat, Nat.reducePow, Int.reducePow, Bool.true_and, Bool.false_and, Bool.and_false, ASt.set_set]
        exact retC_by ((Drop.set hc).off (by assumption)) (.refl _) ⟨rfl, rfl⟩
      · simp (disch := first | assumption | omega | (simp only [List.length_append, List.length_cons, List.length_nil]; omega)) only [go_sem, reduceCtorEq, Nat.reduceEqDiff, Nat.reduceAdd, Nat.reduceSub, Nat.reduceMul, Nat.reduceLeDiff, Int.reduceLT, Int.reduceLE, Int.reduceEq, ↓reduceIte, Int.reduceNeg, Int.reduceAdd, Int.reduceSub, Int.reduceMul, true_imp_iff, forall_const, Nat.mul_one, Int.reduceToNat, Nat.reducePow, Int.reducePow, Bool.true_and, Bool.false_and, Bool.and_false]
        refine ⟨hok, ?_⟩
        unfold Nd.cs
        refine h0.mono ?_
        rintro v σ' ⟨rfl, rfl⟩
        simp (disch := first | assumption | omega | (simp only [List.length_append, List.length_cons, List.length_nil]; omega)) only [go_sem, reduceCtorEq, Nat.reduceEqDiff, Nat.reduceAdd, Nat.reduceSub, Nat.reduceMul, Nat.reduceLeDiff, Int.reduceLT, Int.reduceLE, Int.reduceEq, ↓reduceIte, Int.reduceNeg, Int.reduceAdd, Int.reduceSub, Int.reduceMul, true_imp_iff, forall_const, Nat.mul_one, Int.reduceToNat, Nat.reducePow, Int.reducePow, Bool.true_and, Bool.false_and, Bool.and_false, ASt.set_set]
        exact retC_by ((Drop.set hc).off (by assumption)) (.refl _) ⟨rfl, rfl⟩
    · rw [if_neg ho, hav, Nd.av_cs]
      have o5 : op ≠ 5 := by omega
      have o6 : op ≠ 6 := by omega
      have hmm : (ks.map (Nd.map f)).map Nd.av = ks.map fun x => (Nd.map f x).av := by rw [List.map_map]; rfl
      rw [hmm]
      have hks : ∀ x ∈ ks, ∀ σ, I σ → ACalls Tryd.prog 11 [x.av, .func (.func g) [] cap] σ fun v σ' => v = (Nd.map f x).av ∧ σ' = σ := fun x hx => by
        have := Nd.size_kid hx
        exact ih x (by omega) (by omega)
      refine a11 (by simp) ?_
      simp (disch := first | assumption | omega | (simp only [List.length_append, List.length_cons, List.length_nil]; omega)) only [go_sem, reduceCtorEq, Nat.reduceEqDiff, Nat.reduceAdd, Nat.reduceSub, Nat.reduceMul, Nat.reduceLeDiff, Int.reduceLT, Int.reduceLE, Int.reduceEq, ↓reduceIte, Int.reduceNeg, Int.reduceAdd, Int.reduceSub, Int.reduceMul, true_imp_iff, forall_const, Nat.mul_one, Int.reduceToNat, Nat.reducePow, Int.reducePow, Bool.true_and, Bool.false_and, Bool.and_false]
      refine boxC_by rfl fun c hc => ?_
      simp (disch := first | assumption | omega | (simp only [List.length_append, List.length_cons, List.length_nil]; omega)) only [go_sem, reduceCtorEq, Nat.reduceEqDiff, Nat.reduceAdd, Nat.reduceSub, Nat.reduceMul, Nat.reduceLeDiff, Int.reduceLT, Int.reduceLE, Int.reduceEq, ↓reduceIte, Int.reduceNeg, Int.reduceAdd, Int.reduceSub, Int.reduceMul, true_imp_iff, forall_const, Nat.mul_one, Int.reduceToNat, Nat.reducePow, Int.reducePow, Bool.true_and, Bool.false_and, Bool.and_false]
      refine allocC_by fun d hd => ?_
      have hd0 := hd
      repeat (with_reducible replace hd := set_none hd; obtain ⟨_, _, hd⟩ := hd)
      by_cases h0 : ks = []
      · subst h0
        simp only [List.map_nil]
        simp (disch := first | assumption | omega | (simp only [List.length_append, List.length_cons, List.length_nil]; omega)) only [go_sem, reduceCtorEq, Nat.reduceEqDiff, Nat.reduceAdd, Nat.reduceSub, Nat.reduceMul, Nat.reduceLeDiff, Int.reduceLT, Int.reduceLE, Int.reduceEq, ↓reduceIte, Int.reduceNeg, Int.reduceAdd, Int.reduceSub, Int.reduceMul, true_imp_iff, forall_const, Nat.mul_one, Int.reduceToNat, Nat.reducePow, Int.reducePow, Bool.true_and, Bool.false_and, Bool.and_false, o5, o6, ASt.set_set]
        exact retC_by ((Drop.set hc).off (by assumption)) (.refl _) ⟨rfl, rfl⟩
      have hpos : 0 < ks.length := by
        rcases ks with _ | ⟨_, _⟩
        · exact absurd rfl h0
        · simp
      have hpos' : (0 : Int) < ks.length := by omega
      obtain ⟨G, hG⟩ : ∃ G, G = ACode.wp Tryd.prog c11_22 := ⟨_, rfl⟩
      simp (disch := first | assumption | omega | (simp only [List.length_append, List.length_cons, List.length_nil]; omega)) only [go_sem, reduceCtorEq, Nat.reduceEqDiff, Nat.reduceAdd, Nat.reduceSub, Nat.reduceMul, Nat.reduceLeDiff, Int.reduceLT, Int.reduceLE, Int.reduceEq, ↓reduceIte, Int.reduceNeg, Int.reduceAdd, Int.reduceSub, Int.reduceMul, true_imp_iff, forall_const, Nat.mul_one, Int.reduceToNat, Nat.reducePow, Int.reducePow, Bool.true_and, Bool.false_and, Bool.and_false, o5, o6, hpos', ←hG]
      refine mkb_own (by omega) (by omega) (by omega) (by omega) fun e he => ?_
      have he0 := he
      repeat (with_reducible replace he := set_none he; obtain ⟨_, _, he⟩ := he)
      rw [Int.toNat_natCast]
      have hz12 : ([.int .i64 0, .int .i64 0, .str [], .int .i64 0, .int .i64 0, .bool false, .bool false, .int .i64 0, .int .i64 0, .bool false, .bool false, .sl .full []] : List AV).length = 12 := rfl
      have hrz := rowAt_zero f ks [.int .i64 0, .int .i64 0, .str [], .int .i64 0, .int .i64 0, .bool false, .bool false, .int .i64 0, .int .i64 0, .bool false, .bool false, .sl .full []]
      have hrl : ∀ i, i ≤ ks.length → (rowAt f ks [.int .i64 0, .int .i64 0, .str [], .int .i64 0, .int .i64 0, .bool false, .bool false, .int .i64 0, .int .i64 0, .bool false, .bool false, .sl .full []] i).length = ks.length * 12 := fun i hi => rowAt_len f ks hz12 hi
      have hrs := fun i x hx => rowAt_step f ks hz12 (i := i) (x := x) hx
      have hre := rowAt_end f ks [.int .i64 0, .int .i64 0, .str [], .int .i64 0, .int .i64 0, .bool false, .bool false, .int .i64 0, .int .i64 0, .bool false, .bool false, .sl .full []]
      rw [← hrz]
      generalize rowAt f ks [.int .i64 0, .int .i64 0, .str [], .int .i64 0, .int .i64 0, .bool false, .bool false, .int .i64 0, .int .i64 0, .bool false, .bool false, .sl .full []] = q at *
      have nce : c ≠ e := by assumption
      have nde : d ≠ e := by assumption
      have ncd : c ≠ d := by assumption
      have hII : ∀ X Y Z : Option Role, I (((σ.set c X).set d Y).set e Z) := fun X Y Z => hst _ _ _ (hst _ _ _ (hst _ _ _ hI hc) (by rw [ASt.set_ne (Ne.symm ncd)]; assumption)) (by rw [ASt.set_ne (Ne.symm nde), ASt.set_ne (Ne.symm nce)]; assumption)
      have hDD : ∀ X Y Z : Option Role, Drop (((σ.set c X).set d Y).set e Z) σ := fun X Y Z => ((Drop.set hc).off (by assumption)).off (by assumption)
      simp (disch := first | assumption | omega | (simp only [List.length_append, List.length_cons, List.length_nil]; omega)) only [go_sem, reduceCtorEq, Nat.reduceEqDiff, Nat.reduceAdd, Nat.reduceSub, Nat.reduceMul, Nat.reduceLeDiff, Int.reduceLT, Int.reduceLE, Int.reduceEq, ↓reduceIte, Int.reduceNeg, Int.reduceAdd, Int.reduceSub, Int.reduceMul, true_imp_iff, forall_const, Nat.mul_one, Int.reduceToNat, Nat.reducePow, Int.reducePow, Bool.true_and, Bool.false_and, Bool.and_false, o5, o6, ASt.set_set, ←hG]
      refine wp_loop_by (fun (i : Nat) a1 s2 => i ≤ ks.length ∧ (a1 1 = .func (.func g) [] cap ∧ a1 2 = .ptr c 0 ∧ a1 4 = .ptr d 0 ∧ a1 5 = .msl e 0 ks.length ks.length ∧ a1 28 = .sl .shr (ks.map Nd.av) ∧ a1 29 = .int .i64 ks.length ∧ a1 30 = .int .i64 i) ∧
        s2 = ((σ.set c (some (.obj (Nd.cs op m s a b (ks.map Nd.av))))).set d (some (.obj [.int .i64 0, .int .i64 0, .str [], .int .i64 0, .int .i64 0, .bool false, .bool false, .int .i64 0, .int .i64 0, .bool false, .bool false, .sl .full []]))).set e (some (.obj (q i)))) (fun i => ks.length - i) 0 (Dr.now ⟨Nat.zero_le _, ?_, rfl⟩) ?_
      · simp (disch := first | assumption | omega | (simp only [List.length_append, List.length_cons, List.length_nil]; omega)) only [go_sem, reduceCtorEq, Nat.reduceEqDiff, Nat.reduceAdd, Nat.reduceSub, Nat.reduceMul, Nat.reduceLeDiff, Int.reduceLT, Int.reduceLE, Int.reduceEq, ↓reduceIte, Int.reduceNeg, Int.reduceAdd, Int.reduceSub, Int.reduceMul, true_imp_iff, forall_const, Nat.mul_one, Int.reduceToNat, Nat.reducePow, Int.reducePow, Bool.true_and, Bool.false_and, Bool.and_false]
      rintro i a1 s2 ⟨hi, hf, rfl⟩
      by_cases hlt : i < ks.length
      · have hlt' : (i : Int) < ks.length := by omega
        have hx : ks[i]? = some (ks[i]'hlt) := List.getElem?_eq_getElem hlt
        have hkx := hks _ (List.getElem_mem hlt)
        obtain ⟨x, hxe⟩ : ∃ x, ks[i]'hlt = x := ⟨_, rfl⟩
        rw [hxe] at hx hkx
        have hmx := Nd.get hx
        have hqs := hrs i x hx
        have hql := hrl i (by omega)
        obtain ⟨y, hy⟩ : ∃ y, Nd.map f x = y := ⟨_, rfl⟩
        rw [hy] at hkx hqs
        obtain ⟨xo, xm, xs, xa, xb, xk⟩ := x
        obtain ⟨yo, ym, ys, ya, yb, yk⟩ := y
        rw [Nd.av_cs] at hmx
        rw [Nd.av_cs, Nd.av_cs] at hkx
        rw [Nd.av_cs, cells_agg] at hqs
        generalize xk.map Nd.av = XK at *
        generalize yk.map Nd.av = YK at *
        generalize hXL : ks.map Nd.av = XL at *
        simp (disch := first | assumption | omega | (simp only [List.length_append, List.length_cons, List.length_nil]; omega)) only [go_sem, reduceCtorEq, Nat.reduceEqDiff, Nat.reduceAdd, Nat.reduceSub, Nat.reduceMul, Nat.reduceLeDiff, Int.reduceLT, Int.reduceLE, Int.reduceEq, ↓reduceIte, Int.reduceNeg, Int.reduceAdd, Int.reduceSub, Int.reduceMul, true_imp_iff, forall_const, Nat.mul_one, Int.reduceToNat, Nat.reducePow, Int.reducePow, Bool.true_and, Bool.false_and, Bool.and_false, hf, hlt', hmx, ←hG]
        refine allocC_by fun t ht => ?_
        have ht0 := ht
        repeat (with_reducible replace ht := set_none ht; obtain ⟨_, _, ht⟩ := ht)
        have hk1 := hkx _ (hst _ _ (some (.obj (Nd.cs xo xm xs xa xb XK))) (hII _ _ _) ht0)
        simp (disch := first | assumption | omega | (simp only [List.length_append, List.length_cons, List.length_nil]; omega)) only [go_sem, reduceCtorEq, Nat.reduceEqDiff, Nat.reduceAdd, Nat.reduceSub, Nat.reduceMul, Nat.reduceLeDiff, Int.reduceLT, Int.reduceLE, Int.reduceEq, ↓reduceIte, Int.reduceNeg, Int.reduceAdd, Int.reduceSub, Int.reduceMul, true_imp_iff, forall_const, Nat.mul_one, Int.reduceToNat, Nat.reducePow, Int.reducePow, Bool.true_and, Bool.false_and, Bool.and_false, hf, ASt.set_set, ←hG]
        refine hk1.mono ?_
        rintro v σ' ⟨rfl, rfl⟩
        have hb1 : i * 12 + 12 ≤ (q i).length := by rw [hql]; omega
        have het : e ≠ t := by assumption
        have hsw : ∀ (ρ : ASt) (X Y Z : Option Role), ((ρ.set e X).set t Y).set e Z = (ρ.set e Z).set t Y := fun _ _ _ _ => set_mid het
        simp (disch := first | assumption | omega | (simp only [List.length_append, List.length_cons, List.length_nil]; omega)) only [go_sem, reduceCtorEq, Nat.reduceEqDiff, Nat.reduceAdd, Nat.reduceSub, Nat.reduceMul, Nat.reduceLeDiff, Int.reduceLT, Int.reduceLE, Int.reduceEq, ↓reduceIte, Int.reduceNeg, Int.reduceAdd, Int.reduceSub, Int.reduceMul, true_imp_iff, forall_const, Nat.mul_one, Int.reduceToNat, Nat.reducePow, Int.reducePow, Bool.true_and, Bool.false_and, Bool.and_false, hf, hb1, hqs, hsw, ←hG]
        refine ⟨i + 1, by dsimp only; omega, Dr.drop (Drop.set (by rw [ASt.set_ne (Ne.symm het)]; rw [ASt.set_ne (Ne.symm het)] at ht0; exact ht0)) ⟨by omega, ?_, rfl⟩⟩
        simp (disch := first | assumption | omega | (simp only [List.length_append, List.length_cons, List.length_nil]; omega)) only [go_sem, reduceCtorEq, Nat.reduceEqDiff, Nat.reduceAdd, Nat.reduceSub, Nat.reduceMul, Nat.reduceLeDiff, Int.reduceLT, Int.reduceLE, Int.reduceEq, ↓reduceIte, Int.reduceNeg, Int.reduceAdd, Int.reduceSub, Int.reduceMul, true_imp_iff, forall_const, Nat.mul_one, Int.reduceToNat, Nat.reducePow, Int.reducePow, Bool.true_and, Bool.false_and, Bool.and_false, hf]
      · have hlt' : ¬ (i : Int) < ks.length := by omega
        obtain rfl : i = ks.length := by omega
        rw [hre]
        simp (disch := first | assumption | omega | (simp only [List.length_append, List.length_cons, List.length_nil]; omega)) only [go_sem, reduceCtorEq, Nat.reduceEqDiff, Nat.reduceAdd, Nat.reduceSub, Nat.reduceMul, Nat.reduceLeDiff, Int.reduceLT, Int.reduceLE, Int.reduceEq, ↓reduceIte, Int.reduceNeg, Int.reduceAdd, Int.reduceSub, Int.reduceMul, true_imp_iff, forall_const, Nat.mul_one, Int.reduceToNat, Nat.reducePow, Int.reducePow, Bool.true_and, Bool.false_and, Bool.and_false, hf, hlt', ←hG]
        rw [hG]
        have hsw1 : ∀ (ρ : ASt) (X Y Z W : Option Role), (((ρ.set c X).set d Y).set e Z).set c W = ((ρ.set c W).set d Y).set e Z := fun ρ X Y Z W => by rw [set_swap (Ne.symm nce), set_mid ncd]
        have hsw2 : ∀ (ρ : ASt) (Y Z W : Option Role), ((ρ.set d Y).set e Z).set d W = (ρ.set d W).set e Z := fun ρ Y Z W => set_mid nde
        unfold Nd.cs
        simp (disch := first | assumption | omega | (simp only [List.length_append, List.length_cons, List.length_nil]; omega)) only [go_sem, reduceCtorEq, Nat.reduceEqDiff, Nat.reduceAdd, Nat.reduceSub, Nat.reduceMul, Nat.reduceLeDiff, Int.reduceLT, Int.reduceLE, Int.reduceEq, ↓reduceIte, Int.reduceNeg, Int.reduceAdd, Int.reduceSub, Int.reduceMul, true_imp_iff, forall_const, Nat.mul_one, Int.reduceToNat, Nat.reducePow, Int.reducePow, Bool.true_and, Bool.false_and, Bool.and_false, hf, hsw1, hsw2, ASt.set_set]
        refine retC_by (r := .agg [.int .i64 op, .int .i64 m, .str s, .int .i64 a.row, .int .i64 a.col, .bool a.absRow, .bool a.absCol, .int .i64 b.row, .int .i64 b.col, .bool b.absRow, .bool b.absCol, .sl .shr (ks.map fun x => (Nd.map f x).av)]) (hDD _ _ _) ?_ ⟨rfl, rfl⟩
        refine Fz.agg ?_
        refine .cons (.refl _) (.cons (.refl _) (.cons (.refl _) (.cons (.refl _) (.cons (.refl _) (.cons (.refl _) (.cons (.refl _) (.cons (.refl _) (.cons (.refl _) (.cons (.refl _) (.cons (.refl _) (.cons ?_ .nil)))))))))))
        refine .msl 0 _ _ 12 _ (ASt.set_same _ _ _) (by assumption) (by simp) (Nat.le_refl _) (fun y hy => ?_) ?_
        · obtain ⟨z, _, rfl⟩ := List.mem_map.1 hy
          exact Nd.av_len _
        · rw [List.drop_zero, List.take_of_length_le]
          rw [lens_flat (s := 12)]
          · simp
          · intro y hy
            obtain ⟨z, _, rfl⟩ := List.mem_map.1 hy
            exact Nd.av_len _
end Go.A
namespace Go.A
open Go.Proofs Go.Lib
set_option maxRecDepth 100000
set_option linter.unusedSimpArgs false
set_option linter.unusedVariables false

structure Rc where
  row : Int
  col : Int
  rows : Int
  cols : Int
  deriving DecidableEq, Inhabited
def Rc.cs (r : Rc) : List AV := [.int .i64 r.row, .int .i64 r.col, .int .i64 r.rows, .int .i64 r.cols]
def Rc.av (r : Rc) : AV := .agg [.int .i64 r.row, .int .i64 r.col, .int .i64 r.rows, .int .i64 r.cols]
theorem Rc.get {l : List Rc} {i : Nat} {x : Rc} (h : l[i]? = some x) : (l.map Rc.av)[i]? = some x.av := by rw [List.getElem?_map, h]; rfl
theorem Rc.well (l : List Rc) : wellSz 4 (l.map Rc.av) = true := wellSz_map (f := Rc.av) (fun x => ⟨rfl, rfl⟩) l
theorem Rc.leafs (l : List Rc) : leaves ((l.map Rc.av).flatMap AV.cells) = true := leaves_map (f := Rc.av) (fun x => rfl) l
/-- The rectangle of a reference, of an area. -/
def rectN (op : Int) (a b : Ref) : Rc := if op = 5 then ⟨a.row, a.col, 1, 1⟩ else ⟨(normP a b).1.row, (normP a b).1.col, (normP a b).2.row - (normP a b).1.row + 1, (normP a b).2.col - (normP a b).1.col + 1⟩
def addR (out : List Rc) (r : Rc) : List Rc := if r ∈ out then out else out ++ [r]
mutual
def Nd.areas (out : List Rc) : Nd → List Rc
  | .mk op n s a b ks => Nd.areass (if op = 5 ∨ op = 6 then addR out (rectN op a b) else out) ks
def Nd.areass (out : List Rc) : List Nd → List Rc
  | [] => out
  | x :: xs => Nd.areass (Nd.areas out x) xs
end
theorem addR_len (out : List Rc) (r : Rc) : (addR out r).length ≤ out.length + 1 := by unfold addR; split <;> simp
mutual
theorem Nd.areas_len : ∀ (n : Nd) (out : List Rc), (Nd.areas out n).length ≤ out.length + n.size
  | .mk op m s a b ks, out => by
    rw [Nd.areas, Nd.size]
    have h1 := Nd.areass_len ks (if op = 5 ∨ op = 6 then addR out (rectN op a b) else out)
    have h2 : (if op = 5 ∨ op = 6 then addR out (rectN op a b) else out).length ≤ out.length + 1 := by
      split
      · exact addR_len _ _
      · omega
    omega
theorem Nd.areass_len : ∀ (l : List Nd) (out : List Rc), (Nd.areass out l).length ≤ out.length + Nd.sizes l
  | [], out => by rw [Nd.areass, Nd.sizes]; omega
  | x :: xs, out => by
    rw [Nd.areass, Nd.sizes]
    have h1 := Nd.areass_len xs (Nd.areas out x)
    have h2 := Nd.areas_len x out
    omega
end
/-- Where a rectangle stands in a list, from number k on. -/
def idxF (r : Rc) : List Rc → Nat → Int
  | [], _ => -1
  | x :: xs, k => if r = x then k else idxF r xs (k + 1)
theorem idxF_mem (r : Rc) : ∀ (l : List Rc) (k : Nat), decide (0 ≤ idxF r l k) = decide (r ∈ l)
  | [], k => by simp [idxF]
  | x :: xs, k => by
    rw [idxF]
    by_cases h : r = x
    · subst h; simp
    · rw [if_neg h, idxF_mem r xs (k + 1)]; simp [h]
theorem idxF_rng (r : Rc) : ∀ (l : List Rc) (k : Nat), -1 ≤ idxF r l k ∧ idxF r l k ≤ k + l.length
  | [], k => by simp [idxF]
  | x :: xs, k => by
    rw [idxF]
    have := idxF_rng r xs (k + 1)
    simp only [List.length_cons]
    split <;> omega
theorem rc_ne {a b : Rc} (h : a ≠ b) : (decide (a.row = b.row) && (decide (a.col = b.col) && (decide (a.rows = b.rows) && decide (a.cols = b.cols)))) = false := by
  obtain ⟨a1, a2, a3, a4⟩ := a
  obtain ⟨b1, b2, b3, b4⟩ := b
  cases hd : (decide (a1 = b1) && (decide (a2 = b2) && (decide (a3 = b3) && decide (a4 = b4)))) with
  | false => rfl
  | true =>
    simp only [Bool.and_eq_true, decide_eq_true_eq] at hd
    obtain ⟨rfl, rfl, rfl, rfl⟩ := hd
    exact absurd rfl h
theorem rcindex_ok (l : List Rc) (r : Rc) (hl : l.length ≤ 1000000000) : Pure Tryd.prog 50 [.sl .shr (l.map Rc.av), r.av] (.int .i64 (idxF r l 0)) := by
  intro σ
  obtain ⟨q, hq⟩ : ∃ q, idxF r l 0 = q := ⟨_, rfl⟩
  rw [hq]
  have hra : r.av = .agg [.int .i64 r.row, .int .i64 r.col, .int .i64 r.rows, .int .i64 r.cols] := rfl
  rw [hra]
  refine a50 (by simp) ?_
  simp (disch := first | assumption | omega | (simp only [List.length_append, List.length_cons, List.length_nil]; omega)) only [go_sem, reduceCtorEq, Nat.reduceEqDiff, Nat.reduceAdd, Nat.reduceSub, Nat.reduceMul, Nat.reduceLeDiff, Int.reduceLT, Int.reduceLE, Int.reduceEq, ↓reduceIte, Int.reduceNeg, Int.reduceAdd, Int.reduceSub, Int.reduceMul, true_imp_iff, forall_const, Nat.mul_one, Int.reduceToNat, Nat.reducePow, Int.reducePow, Bool.true_and, Bool.false_and, Bool.and_false]
  refine boxC_by rfl fun c hc => ?_
  simp (disch := first | assumption | omega | (simp only [List.length_append, List.length_cons, List.length_nil]; omega)) only [go_sem, reduceCtorEq, Nat.reduceEqDiff, Nat.reduceAdd, Nat.reduceSub, Nat.reduceMul, Nat.reduceLeDiff, Int.reduceLT, Int.reduceLE, Int.reduceEq, ↓reduceIte, Int.reduceNeg, Int.reduceAdd, Int.reduceSub, Int.reduceMul, true_imp_iff, forall_const, Nat.mul_one, Int.reduceToNat, Nat.reducePow, Int.reducePow, Bool.true_and, Bool.false_and, Bool.and_false]
  refine wp_loop_on (fun (i : Nat) a1 s2 => (i ≤ l.length ∧ idxF r (l.drop i) i = q) ∧ (a1 0 = .sl .shr (l.map Rc.av) ∧ a1 3 = .ptr c 0 ∧ a1 7 = .int .i64 l.length ∧ a1 8 = .int .i64 i) ∧ s2 = σ.set c (some (.obj [.int .i64 r.row, .int .i64 r.col, .int .i64 r.rows, .int .i64 r.cols]))) (fun i => l.length - i) 0 ⟨⟨Nat.zero_le _, by rw [List.drop_zero]; exact hq⟩, ?_, rfl⟩ ?_
  · simp (disch := first | assumption | omega | (simp only [List.length_append, List.length_cons, List.length_nil]; omega)) only [go_sem, reduceCtorEq, Nat.reduceEqDiff, Nat.reduceAdd, Nat.reduceSub, Nat.reduceMul, Nat.reduceLeDiff, Int.reduceLT, Int.reduceLE, Int.reduceEq, ↓reduceIte, Int.reduceNeg, Int.reduceAdd, Int.reduceSub, Int.reduceMul, true_imp_iff, forall_const, Nat.mul_one, Int.reduceToNat, Nat.reducePow, Int.reducePow, Bool.true_and, Bool.false_and, Bool.and_false]
  rintro i a1 s2 ⟨⟨hi, hqi⟩, hf, rfl⟩
  by_cases hlt : i < l.length
  · have hlt' : (i : Int) < l.length := by omega
    have hx : l[i]? = some (l[i]'hlt) := List.getElem?_eq_getElem hlt
    rw [List.drop_eq_getElem_cons hlt, idxF] at hqi
    obtain ⟨x, hxe⟩ : ∃ x, l[i]'hlt = x := ⟨_, rfl⟩
    rw [hxe] at hx hqi
    have hmx := Rc.get hx
    rw [show x.av = .agg [.int .i64 x.row, .int .i64 x.col, .int .i64 x.rows, .int .i64 x.cols] from rfl] at hmx
    generalize l.map Rc.av = XL at *
    by_cases he : r = x
    · rw [if_pos he] at hqi
      subst he
      simp (disch := first | assumption | omega | (simp only [List.length_append, List.length_cons, List.length_nil]; omega)) only [go_sem, reduceCtorEq, Nat.reduceEqDiff, Nat.reduceAdd, Nat.reduceSub, Nat.reduceMul, Nat.reduceLeDiff, Int.reduceLT, Int.reduceLE, Int.reduceEq, ↓reduceIte, Int.reduceNeg, Int.reduceAdd, Int.reduceSub, Int.reduceMul, true_imp_iff, forall_const, Nat.mul_one, Int.reduceToNat, Nat.reducePow, Int.reducePow, Bool.true_and, Bool.false_and, Bool.and_false, hf, hlt', hmx, eq_self]
      exact retC_by (Drop.set hc) (.refl _) ⟨by rw [← hqi]; rfl, rfl⟩
    · rw [if_neg he] at hqi
      have he' := rc_ne he
      simp (disch := first | assumption | omega | (simp only [List.length_append, List.length_cons, List.length_nil]; omega)) only [go_sem, reduceCtorEq, Nat.reduceEqDiff, Nat.reduceAdd, Nat.reduceSub, Nat.reduceMul, Nat.reduceLeDiff, Int.reduceLT, Int.reduceLE, Int.reduceEq, ↓reduceIte, Int.reduceNeg, Int.reduceAdd, Int.reduceSub, Int.reduceMul, true_imp_iff, forall_const, Nat.mul_one, Int.reduceToNat, Nat.reducePow, Int.reducePow, Bool.true_and, Bool.false_and, Bool.and_false, hf, hlt', hmx, he']
      exact ⟨i + 1, by omega, ⟨by omega, hqi⟩, rfl⟩
  · have hlt' : ¬ (i : Int) < l.length := by omega
    rw [List.drop_eq_nil_of_le (by omega), idxF] at hqi
    subst hqi
    simp (disch := first | assumption | omega | (simp only [List.length_append, List.length_cons, List.length_nil]; omega)) only [go_sem, reduceCtorEq, Nat.reduceEqDiff, Nat.reduceAdd, Nat.reduceSub, Nat.reduceMul, Nat.reduceLeDiff, Int.reduceLT, Int.reduceLE, Int.reduceEq, ↓reduceIte, Int.reduceNeg, Int.reduceAdd, Int.reduceSub, Int.reduceMul, true_imp_iff, forall_const, Nat.mul_one, Int.reduceToNat, Nat.reducePow, Int.reducePow, Bool.true_and, Bool.false_and, Bool.and_false, hf, hlt']
    exact retC_by (Drop.set hc) (.refl _) ⟨rfl, rfl⟩
theorem rccontains_ok (l : List Rc) (r : Rc) (hl : l.length ≤ 1000000000) : Pure Tryd.prog 37 [.sl .shr (l.map Rc.av), r.av] (.bool (decide (r ∈ l))) := by
  intro σ
  have hI := rcindex_ok l r hl
  rw [← idxF_mem r l 0]
  have hra : r.av = .agg [.int .i64 r.row, .int .i64 r.col, .int .i64 r.rows, .int .i64 r.cols] := rfl
  rw [hra] at hI ⊢
  generalize idxF r l 0 = q at *
  generalize l.map Rc.av = XL at *
  refine a37 (by simp) ?_
  simp (disch := first | assumption | omega | (simp only [List.length_append, List.length_cons, List.length_nil]; omega)) only [go_sem, reduceCtorEq, Nat.reduceEqDiff, Nat.reduceAdd, Nat.reduceSub, Nat.reduceMul, Nat.reduceLeDiff, Int.reduceLT, Int.reduceLE, Int.reduceEq, ↓reduceIte, Int.reduceNeg, Int.reduceAdd, Int.reduceSub, Int.reduceMul, true_imp_iff, forall_const, Nat.mul_one, Int.reduceToNat, Nat.reducePow, Int.reducePow, Bool.true_and, Bool.false_and, Bool.and_false]
  refine boxC_by rfl fun c hc => ?_
  simp (disch := first | assumption | omega | (simp only [List.length_append, List.length_cons, List.length_nil]; omega)) only [go_sem, reduceCtorEq, Nat.reduceEqDiff, Nat.reduceAdd, Nat.reduceSub, Nat.reduceMul, Nat.reduceLeDiff, Int.reduceLT, Int.reduceLE, Int.reduceEq, ↓reduceIte, Int.reduceNeg, Int.reduceAdd, Int.reduceSub, Int.reduceMul, true_imp_iff, forall_const, Nat.mul_one, Int.reduceToNat, Nat.reducePow, Int.reducePow, Bool.true_and, Bool.false_and, Bool.and_false]
  refine hI.use ?_
  simp (disch := first | assumption | omega | (simp only [List.length_append, List.length_cons, List.length_nil]; omega)) only [go_sem, reduceCtorEq, Nat.reduceEqDiff, Nat.reduceAdd, Nat.reduceSub, Nat.reduceMul, Nat.reduceLeDiff, Int.reduceLT, Int.reduceLE, Int.reduceEq, ↓reduceIte, Int.reduceNeg, Int.reduceAdd, Int.reduceSub, Int.reduceMul, true_imp_iff, forall_const, Nat.mul_one, Int.reduceToNat, Nat.reducePow, Int.reducePow, Bool.true_and, Bool.false_and, Bool.and_false]
  exact retC_by (Drop.set hc) (.refl _) ⟨rfl, rfl⟩
theorem refrect_ok (a : Ref) : Pure Tryd.prog 16 [refAV a] (Rc.av ⟨a.row, a.col, 1, 1⟩) := by
  intro σ
  unfold refAV Rc.av
  refine a16 (by simp) ?_
  simp (disch := first | assumption | omega | (simp only [List.length_append, List.length_cons, List.length_nil]; omega)) only [go_sem, reduceCtorEq, Nat.reduceEqDiff, Nat.reduceAdd, Nat.reduceSub, Nat.reduceMul, Nat.reduceLeDiff, Int.reduceLT, Int.reduceLE, Int.reduceEq, ↓reduceIte, Int.reduceNeg, Int.reduceAdd, Int.reduceSub, Int.reduceMul, true_imp_iff, forall_const, Nat.mul_one, Int.reduceToNat, Nat.reducePow, Int.reducePow, Bool.true_and, Bool.false_and, Bool.and_false]
  refine boxC_by rfl fun c hc => ?_
  simp (disch := first | assumption | omega | (simp only [List.length_append, List.length_cons, List.length_nil]; omega)) only [go_sem, reduceCtorEq, Nat.reduceEqDiff, Nat.reduceAdd, Nat.reduceSub, Nat.reduceMul, Nat.reduceLeDiff, Int.reduceLT, Int.reduceLE, Int.reduceEq, ↓reduceIte, Int.reduceNeg, Int.reduceAdd, Int.reduceSub, Int.reduceMul, true_imp_iff, forall_const, Nat.mul_one, Int.reduceToNat, Nat.reducePow, Int.reducePow, Bool.true_and, Bool.false_and, Bool.and_false]
  refine allocC_by fun d hd => ?_
  repeat (with_reducible replace hd := set_none hd; obtain ⟨_, _, hd⟩ := hd)
  simp (disch := first | assumption | omega | (simp only [List.length_append, List.length_cons, List.length_nil]; omega)) only [go_sem, reduceCtorEq, Nat.reduceEqDiff, Nat.reduceAdd, Nat.reduceSub, Nat.reduceMul, Nat.reduceLeDiff, Int.reduceLT, Int.reduceLE, Int.reduceEq, ↓reduceIte, Int.reduceNeg, Int.reduceAdd, Int.reduceSub, Int.reduceMul, true_imp_iff, forall_const, Nat.mul_one, Int.reduceToNat, Nat.reducePow, Int.reducePow, Bool.true_and, Bool.false_and, Bool.and_false, ASt.set_set]
  exact retC_by ((Drop.set hc).off (by assumption)) (.refl _) ⟨rfl, rfl⟩
theorem good_near {r : Ref} (h : r.good = true) : r.near := by
  simp only [Ref.good, decide_eq_true_eq] at h
  unfold Ref.near
  omega
/-- What gathers rectangles. -/
def RO (σ0 : ASt) (b : Nat) (l : List Rc) (σ : ASt) : Prop := GO σ0 b (fun k => [.sl k (l.map Rc.av)]) l.length 4 σ
theorem RO.add {σ0 σ : ASt} {b c : Nat} {l : List Rc} {r : Role} (h : RO σ0 b l σ) (hc : σ c = none) : RO (σ0.set c (some r)) b l (σ.set c (some r)) ∧ c ≠ b ∧ σ0 c = none := GO.add h hc
theorem RO.off {σ0 σ : ASt} {b c : Nat} {l : List Rc} {r : Role} (h : RO (σ0.set c (some r)) b l σ) (hcb : c ≠ b) (hc : σ0 c = none) : ∃ σ', Drop σ σ' ∧ RO σ0 b l σ' := GO.off h hcb hc
theorem RO.at {σ0 σ : ASt} {b x : Nat} {l : List Rc} {r : Role} (h : RO σ0 b l σ) (hx : x ≠ b) (h0 : σ0 x = some r) : σ x = some r := GO.at h hx h0
theorem areass_take {x : Nd} : ∀ {l : List Nd} {i : Nat} {out : List Rc}, l[i]? = some x → Nd.areass out (l.take (i + 1)) = Nd.areas (Nd.areass out (l.take i)) x
  | [], i, out, h => by simp at h
  | y :: l, 0, out, h => by simp at h; subst h; simp [Nd.areass]
  | y :: l, i + 1, out, h => by
    simp only [List.getElem?_cons_succ] at h
    rw [List.take_succ_cons, List.take_succ_cons, Nd.areass, Nd.areass, areass_take h]
theorem areas_le : ∀ (k : Nat) (n : Nd), n.size ≤ k → n.ok → ∀ (σ0 σ : ASt) (b : Nat) (rs : List Rc), RO σ0 b rs σ → rs.length + n.size ≤ 1000000 →
    ACalls Tryd.prog 21 [n.av, .ptr b 0] σ fun v σ' => v = .tuple [] ∧ RO σ0 b (Nd.areas rs n) σ'
  | 0, n, hk, _ => by have := n.size_pos; omega
  | k + 1, n, hk, hn => by
    intro σ0 σ b rs h hb
    have ih := areas_le k
    obtain ⟨op, m, s, a, a2, ks⟩ := n
    rw [Nd.size] at hk hb
    rw [Nd.ok] at hn
    obtain ⟨⟨ho, _, _, _, _, g5, g6, _⟩, hoks⟩ := hn
    have hlen := sizes_len ks
    rw [Nd.areas, Nd.av_cs]
    have hks : ∀ x ∈ ks, ∀ (σ0 σ : ASt) (b : Nat) (rs : List Rc), RO σ0 b rs σ → rs.length + x.size ≤ 1000000 →
        ACalls Tryd.prog 21 [x.av, .ptr b 0] σ fun v σ' => v = .tuple [] ∧ RO σ0 b (Nd.areas rs x) σ' := fun x hx => by
      have := Nd.size_kid hx
      exact ih x (by omega) (Nd.oks_mem.1 hoks x hx)
    refine a21 (by simp) ?_
    obtain ⟨F, hF⟩ : ∃ F, F = ACode.wp Tryd.prog c21_31 := ⟨_, rfl⟩
    simp (disch := first | assumption | omega | (simp only [List.length_append, List.length_cons, List.length_nil]; omega)) only [go_sem, reduceCtorEq, Nat.reduceEqDiff, Nat.reduceAdd, Nat.reduceSub, Nat.reduceMul, Nat.reduceLeDiff, Int.reduceLT, Int.reduceLE, Int.reduceEq, ↓reduceIte, Int.reduceNeg, Int.reduceAdd, Int.reduceSub, Int.reduceMul, true_imp_iff, forall_const, Nat.mul_one, Int.reduceToNat, Nat.reducePow, Int.reducePow, Bool.true_and, Bool.false_and, Bool.and_false, ←hF]
    refine boxC_by rfl fun c hc => ?_
    obtain ⟨hR1, hcb, hc0⟩ := h.add hc (r := .obj (Nd.cs op m s a a2 (ks.map Nd.av)))
    have hgo : ∀ (R : Role) (d : Nat), (σ.set c (some (.obj (Nd.cs op m s a a2 (ks.map Nd.av))))) d = none → ∀ (a1 : AFr) (σ1 : ASt) (rs' : List Rc), RO ((σ0.set c (some (.obj (Nd.cs op m s a a2 (ks.map Nd.av))))).set d (some R)) b rs' σ1 → rs'.length ≤ rs.length + 1 →
        (a1 1 = .ptr b 0 ∧ a1 2 = .ptr c 0) → F (RetQ [] fun v σ' => v = .tuple [] ∧ RO σ0 b (Nd.areass rs' ks) σ') a1 σ1 := by
      intro R d hd a1 σ1 rs' hR hl1 hf
      obtain ⟨hR2, hdb, hd0⟩ := hR1.add hd (r := R)
      have hcd : c ≠ d := by rintro rfl; rw [ASt.set_same] at hd; cases hd
      have hcell : ∀ {l' : List Rc} {σ1 : ASt}, RO ((σ0.set c (some (.obj (Nd.cs op m s a a2 (ks.map Nd.av))))).set d (some R)) b l' σ1 → σ1 c = some (.obj (Nd.cs op m s a a2 (ks.map Nd.av))) := fun h => h.at hcb (by rw [ASt.set_ne hcd, ASt.set_same])
      have hoff : ∀ {l' : List Rc} {σ1 : ASt}, RO ((σ0.set c (some (.obj (Nd.cs op m s a a2 (ks.map Nd.av))))).set d (some R)) b l' σ1 → ∃ σ', Drop σ1 σ' ∧ RO σ0 b l' σ' := fun h => by
        obtain ⟨σ2, h1, h2⟩ := h.off hdb hd0
        obtain ⟨σ3, h3, h4⟩ := h2.off hcb hc0
        exact ⟨σ3, h1.trans h3, h4⟩
      have hc1 := hcell hR
      generalize (σ0.set c (some (.obj (Nd.cs op m s a a2 (ks.map Nd.av))))).set d (some R) = τ at hR hcell hoff
      rw [hF]
      simp (disch := first | assumption | omega | (simp only [List.length_append, List.length_cons, List.length_nil]; omega)) only [go_sem, reduceCtorEq, Nat.reduceEqDiff, Nat.reduceAdd, Nat.reduceSub, Nat.reduceMul, Nat.reduceLeDiff, Int.reduceLT, Int.reduceLE, Int.reduceEq, ↓reduceIte, Int.reduceNeg, Int.reduceAdd, Int.reduceSub, Int.reduceMul, true_imp_iff, forall_const, Nat.mul_one, Int.reduceToNat, Nat.reducePow, Int.reducePow, Bool.true_and, Bool.false_and, Bool.and_false, hf, hc1]
      refine wp_loop_by (fun (i : Nat) a1 s2 => i ≤ ks.length ∧ (a1 1 = .ptr b 0 ∧ a1 42 = .sl .shr (ks.map Nd.av) ∧ a1 43 = .int .i64 ks.length ∧ a1 44 = .int .i64 i) ∧ RO τ b (Nd.areass rs' (ks.take i)) s2) (fun i => ks.length - i) 0 (Dr.now ⟨Nat.zero_le _, ?_, hR⟩) ?_
      · simp (disch := first | assumption | omega | (simp only [List.length_append, List.length_cons, List.length_nil]; omega)) only [go_sem, reduceCtorEq, Nat.reduceEqDiff, Nat.reduceAdd, Nat.reduceSub, Nat.reduceMul, Nat.reduceLeDiff, Int.reduceLT, Int.reduceLE, Int.reduceEq, ↓reduceIte, Int.reduceNeg, Int.reduceAdd, Int.reduceSub, Int.reduceMul, true_imp_iff, forall_const, Nat.mul_one, Int.reduceToNat, Nat.reducePow, Int.reducePow, Bool.true_and, Bool.false_and, Bool.and_false, hf]
      rintro i a2 s2 ⟨hi, hf, hRi⟩
      have hli := Nd.areass_len (ks.take i) rs'
      by_cases hlt : i < ks.length
      · have hlt' : (i : Int) < ks.length := by omega
        have hx : ks[i]? = some (ks[i]'hlt) := List.getElem?_eq_getElem hlt
        have hkx := hks _ (List.getElem_mem hlt)
        obtain ⟨x, hxe⟩ : ∃ x, ks[i]'hlt = x := ⟨_, rfl⟩
        rw [hxe] at hx hkx
        have hmx := Nd.get hx
        have hst := sizes_take hx
        have hle2 := sizes_le ks (i + 1)
        have hat := areass_take (out := rs') hx
        obtain ⟨xo, xm, xs, xa, xb, xk⟩ := x
        generalize hxn : Nd.mk xo xm xs xa xb xk = xn at *
        have hav : xn.av = .agg (Nd.cs xo xm xs xa xb (xk.map Nd.av)) := by rw [← hxn, Nd.av_cs]
        rw [hav] at hmx hkx
        generalize xk.map Nd.av = XK at *
        generalize hKL : ks.map Nd.av = KL at *
        simp (disch := first | assumption | omega | (simp only [List.length_append, List.length_cons, List.length_nil]; omega)) only [go_sem, reduceCtorEq, Nat.reduceEqDiff, Nat.reduceAdd, Nat.reduceSub, Nat.reduceMul, Nat.reduceLeDiff, Int.reduceLT, Int.reduceLE, Int.reduceEq, ↓reduceIte, Int.reduceNeg, Int.reduceAdd, Int.reduceSub, Int.reduceMul, true_imp_iff, forall_const, Nat.mul_one, Int.reduceToNat, Nat.reducePow, Int.reducePow, Bool.true_and, Bool.false_and, Bool.and_false, hf, hlt', hmx]
        refine allocC_by fun e he => ?_
        obtain ⟨hRe, heb, he0⟩ := hRi.add he (r := .obj (Nd.cs xo xm xs xa xb XK))
        simp (disch := first | assumption | omega | (simp only [List.length_append, List.length_cons, List.length_nil]; omega)) only [go_sem, reduceCtorEq, Nat.reduceEqDiff, Nat.reduceAdd, Nat.reduceSub, Nat.reduceMul, Nat.reduceLeDiff, Int.reduceLT, Int.reduceLE, Int.reduceEq, ↓reduceIte, Int.reduceNeg, Int.reduceAdd, Int.reduceSub, Int.reduceMul, true_imp_iff, forall_const, Nat.mul_one, Int.reduceToNat, Nat.reducePow, Int.reducePow, Bool.true_and, Bool.false_and, Bool.and_false, hf, ASt.set_set]
        refine (hkx _ _ _ _ hRe (by omega)).mono ?_
        rintro v σ' ⟨rfl, hR4⟩
        simp (disch := first | assumption | omega | (simp only [List.length_append, List.length_cons, List.length_nil]; omega)) only [go_sem, reduceCtorEq, Nat.reduceEqDiff, Nat.reduceAdd, Nat.reduceSub, Nat.reduceMul, Nat.reduceLeDiff, Int.reduceLT, Int.reduceLE, Int.reduceEq, ↓reduceIte, Int.reduceNeg, Int.reduceAdd, Int.reduceSub, Int.reduceMul, true_imp_iff, forall_const, Nat.mul_one, Int.reduceToNat, Nat.reducePow, Int.reducePow, Bool.true_and, Bool.false_and, Bool.and_false, hf]
        obtain ⟨σ5, hd5, hR5⟩ := hR4.off heb he0
        refine ⟨i + 1, by dsimp only; omega, Dr.drop hd5 ⟨by omega, ?_, by rw [hat]; exact hR5⟩⟩
        simp (disch := first | assumption | omega | (simp only [List.length_append, List.length_cons, List.length_nil]; omega)) only [go_sem, reduceCtorEq, Nat.reduceEqDiff, Nat.reduceAdd, Nat.reduceSub, Nat.reduceMul, Nat.reduceLeDiff, Int.reduceLT, Int.reduceLE, Int.reduceEq, ↓reduceIte, Int.reduceNeg, Int.reduceAdd, Int.reduceSub, Int.reduceMul, true_imp_iff, forall_const, Nat.mul_one, Int.reduceToNat, Nat.reducePow, Int.reducePow, Bool.true_and, Bool.false_and, Bool.and_false, hf]
      · have hlt' : ¬ (i : Int) < ks.length := by omega
        rw [List.take_of_length_le (by omega)] at hRi
        simp (disch := first | assumption | omega | (simp only [List.length_append, List.length_cons, List.length_nil]; omega)) only [go_sem, reduceCtorEq, Nat.reduceEqDiff, Nat.reduceAdd, Nat.reduceSub, Nat.reduceMul, Nat.reduceLeDiff, Int.reduceLT, Int.reduceLE, Int.reduceEq, ↓reduceIte, Int.reduceNeg, Int.reduceAdd, Int.reduceSub, Int.reduceMul, true_imp_iff, forall_const, Nat.mul_one, Int.reduceToNat, Nat.reducePow, Int.reducePow, Bool.true_and, Bool.false_and, Bool.and_false, hf, hlt']
        obtain ⟨σ5, hd5, hR5⟩ := hoff hRi
        exact retC_by hd5 (.refl _) ⟨rfl, hR5⟩
    have hap : ∀ (q : Rc) (d : Nat), (σ.set c (some (.obj (Nd.cs op m s a a2 (ks.map Nd.av))))) d = none → d ≠ b ∧ ∃ k, Grown ((((σ0.set c (some (.obj (Nd.cs op m s a a2 (ks.map Nd.av))))).set d (some (.obj [.int .i64 q.row, .int .i64 q.col, .int .i64 q.rows, .int .i64 q.cols])))).set b (some (.obj [.sl k (rs.map Rc.av)]))) ((σ.set c (some (.obj (Nd.cs op m s a a2 (ks.map Nd.av))))).set d (some (.obj [.int .i64 q.row, .int .i64 q.col, .int .i64 q.rows, .int .i64 q.cols]))) k rs.length 4 := fun q d hd => by
      obtain ⟨⟨k, hg⟩, hdb, _⟩ := hR1.add hd (r := .obj [.int .i64 q.row, .int .i64 q.col, .int .i64 q.rows, .int .i64 q.cols])
      exact ⟨hdb, k, hg⟩
    have hno : ∀ (d : Nat), (σ.set c (some (.obj (Nd.cs op m s a a2 (ks.map Nd.av))))) d = none → RO ((σ0.set c (some (.obj (Nd.cs op m s a a2 (ks.map Nd.av))))).set d (some (.obj [.int .i64 0, .int .i64 0, .int .i64 0, .int .i64 0]))) b rs ((σ.set c (some (.obj (Nd.cs op m s a a2 (ks.map Nd.av))))).set d (some (.obj [.int .i64 0, .int .i64 0, .int .i64 0, .int .i64 0]))) := fun d hd => (hR1.add hd).1
    by_cases h56 : op = 5 ∨ op = 6
    · rw [if_pos h56]
      have hq : ∃ q : Rc, rectN op a a2 = q := ⟨_, rfl⟩
      obtain ⟨q, hq⟩ := hq
      rw [hq]
      have hrr := refrect_ok a
      have harr : op = 6 → Pure Tryd.prog 36 [areaAV a a2] q.av := fun h6 => by
        have := rect_ok a a2 (good_near (g5 h56)) (good_near (g6 h6))
        rw [← hq]
        unfold rectN
        rw [if_neg (by omega)]
        exact this
      have hrr5 : op = 5 → Pure Tryd.prog 16 [refAV a] q.av := fun h5 => by
        rw [← hq]
        unfold rectN
        rw [if_pos h5]
        exact hrr
      have hC := rccontains_ok rs q (by omega)
      have hqa : q.av = .agg [.int .i64 q.row, .int .i64 q.col, .int .i64 q.rows, .int .i64 q.cols] := rfl
      rw [hqa] at harr hrr5 hC
      unfold areaAV at harr
      unfold refAV at hrr5
      -- behind the rectangle
      have mid : ∀ (a1 : AFr) (d : Nat), (σ.set c (some (.obj (Nd.cs op m s a a2 (ks.map Nd.av))))) d = none → (a1 1 = .ptr b 0 ∧ a1 2 = .ptr c 0 ∧ a1 4 = .ptr d 0 ∧ a1 5 = .bool true) →
          ACode.wp Tryd.prog c21_17 (SeqQ F (RetQ [] fun v σ' => v = .tuple [] ∧ RO σ0 b (Nd.areass (addR rs q) ks) σ')) a1 ((σ.set c (some (.obj (Nd.cs op m s a a2 (ks.map Nd.av))))).set d (some (.obj [.int .i64 q.row, .int .i64 q.col, .int .i64 q.rows, .int .i64 q.cols]))) := by
        intro a1 d hd hf
        obtain ⟨hdb, k, hg⟩ := hap q d hd
        have hgo2 := hgo (.obj [.int .i64 q.row, .int .i64 q.col, .int .i64 q.rows, .int .i64 q.cols]) d hd
        have hbc := GO.cell (cs := fun k => [.sl k (rs.map Rc.av)]) hg
        have hdc : ((σ.set c (some (.obj (Nd.cs op m s a a2 (ks.map Nd.av))))).set d (some (.obj [.int .i64 q.row, .int .i64 q.col, .int .i64 q.rows, .int .i64 q.cols]))) d = some (.obj [.int .i64 q.row, .int .i64 q.col, .int .i64 q.rows, .int .i64 q.cols]) := ASt.set_same _ _ _
        generalize (σ.set c (some (.obj (Nd.cs op m s a a2 (ks.map Nd.av))))).set d (some (.obj [.int .i64 q.row, .int .i64 q.col, .int .i64 q.rows, .int .i64 q.cols])) = σ1 at *
        generalize (σ0.set c (some (.obj (Nd.cs op m s a a2 (ks.map Nd.av))))).set d (some (.obj [.int .i64 q.row, .int .i64 q.col, .int .i64 q.rows, .int .i64 q.cols])) = τ at *
        have hml : (rs.map Rc.av).length = rs.length := List.length_map ..
        by_cases hm : q ∈ rs
        · rw [decide_eq_true hm] at hC
          have hadd : addR rs q = rs := if_pos hm
          rw [hadd]
          simp (disch := first | assumption | omega | (simp only [List.length_append, List.length_cons, List.length_nil]; omega)) only [go_sem, reduceCtorEq, Nat.reduceEqDiff, Nat.reduceAdd, Nat.reduceSub, Nat.reduceMul, Nat.reduceLeDiff, Int.reduceLT, Int.reduceLE, Int.reduceEq, ↓reduceIte, Int.reduceNeg, Int.reduceAdd, Int.reduceSub, Int.reduceMul, true_imp_iff, forall_const, Nat.mul_one, Int.reduceToNat, Nat.reducePow, Int.reducePow, Bool.true_and, Bool.false_and, Bool.and_false, hf, hbc, hdc]
          refine ACalls.shr (by simp (disch := first | assumption | omega | (simp only [List.length_append, List.length_cons, List.length_nil]; omega)) only [go_sem, reduceCtorEq, Nat.reduceEqDiff, Nat.reduceAdd, Nat.reduceSub, Nat.reduceMul, Nat.reduceLeDiff, Int.reduceLT, Int.reduceLE, Int.reduceEq, ↓reduceIte, Int.reduceNeg, Int.reduceAdd, Int.reduceSub, Int.reduceMul, true_imp_iff, forall_const, Nat.mul_one, Int.reduceToNat, Nat.reducePow, Int.reducePow, Bool.true_and, Bool.false_and, Bool.and_false]) (hC.use ?_)
          simp (disch := first | assumption | omega | (simp only [List.length_append, List.length_cons, List.length_nil]; omega)) only [go_sem, reduceCtorEq, Nat.reduceEqDiff, Nat.reduceAdd, Nat.reduceSub, Nat.reduceMul, Nat.reduceLeDiff, Int.reduceLT, Int.reduceLE, Int.reduceEq, ↓reduceIte, Int.reduceNeg, Int.reduceAdd, Int.reduceSub, Int.reduceMul, true_imp_iff, forall_const, Nat.mul_one, Int.reduceToNat, Nat.reducePow, Int.reducePow, Bool.true_and, Bool.false_and, Bool.and_false, hf, hbc, hdc]
          refine hgo2 _ _ rs ⟨k, hg⟩ (by omega) ?_
          simp (disch := first | assumption | omega | (simp only [List.length_append, List.length_cons, List.length_nil]; omega)) only [go_sem, reduceCtorEq, Nat.reduceEqDiff, Nat.reduceAdd, Nat.reduceSub, Nat.reduceMul, Nat.reduceLeDiff, Int.reduceLT, Int.reduceLE, Int.reduceEq, ↓reduceIte, Int.reduceNeg, Int.reduceAdd, Int.reduceSub, Int.reduceMul, true_imp_iff, forall_const, Nat.mul_one, Int.reduceToNat, Nat.reducePow, Int.reducePow, Bool.true_and, Bool.false_and, Bool.and_false, hf]
        · rw [decide_eq_false hm] at hC
          have hadd : addR rs q = rs ++ [q] := if_neg hm
          rw [hadd]
          simp (disch := first | assumption | omega | (simp only [List.length_append, List.length_cons, List.length_nil]; omega)) only [go_sem, reduceCtorEq, Nat.reduceEqDiff, Nat.reduceAdd, Nat.reduceSub, Nat.reduceMul, Nat.reduceLeDiff, Int.reduceLT, Int.reduceLE, Int.reduceEq, ↓reduceIte, Int.reduceNeg, Int.reduceAdd, Int.reduceSub, Int.reduceMul, true_imp_iff, forall_const, Nat.mul_one, Int.reduceToNat, Nat.reducePow, Int.reducePow, Bool.true_and, Bool.false_and, Bool.and_false, hf, hbc, hdc]
          refine ACalls.shr (by simp (disch := first | assumption | omega | (simp only [List.length_append, List.length_cons, List.length_nil]; omega)) only [go_sem, reduceCtorEq, Nat.reduceEqDiff, Nat.reduceAdd, Nat.reduceSub, Nat.reduceMul, Nat.reduceLeDiff, Int.reduceLT, Int.reduceLE, Int.reduceEq, ↓reduceIte, Int.reduceNeg, Int.reduceAdd, Int.reduceSub, Int.reduceMul, true_imp_iff, forall_const, Nat.mul_one, Int.reduceToNat, Nat.reducePow, Int.reducePow, Bool.true_and, Bool.false_and, Bool.and_false]) (hC.use ?_)
          simp (disch := first | assumption | omega | (simp only [List.length_append, List.length_cons, List.length_nil]; omega)) only [go_sem, reduceCtorEq, Nat.reduceEqDiff, Nat.reduceAdd, Nat.reduceSub, Nat.reduceMul, Nat.reduceLeDiff, Int.reduceLT, Int.reduceLE, Int.reduceEq, ↓reduceIte, Int.reduceNeg, Int.reduceAdd, Int.reduceSub, Int.reduceMul, true_imp_iff, forall_const, Nat.mul_one, Int.reduceToNat, Nat.reducePow, Int.reducePow, Bool.true_and, Bool.false_and, Bool.and_false, hf, hbc, hdc]
          refine appC_by (bytes := 32) (xs := rs.map Rc.av) (ys := [.agg [.int .i64 q.row, .int .i64 q.col, .int .i64 q.rows, .int .i64 q.cols]]) (by rw [hml]; exact hg) rfl rfl (by rw [hml]; simp only [List.length_cons, List.length_nil]; omega) (by rw [hml]; simp only [List.length_cons, List.length_nil]; omega) fun k' σ' hg' => ?_
          have hbc' := hg'.at (ASt.set_same _ _ _)
          have hR' : RO τ b (rs ++ [q]) (σ'.set b (some (.obj [.sl k' (rs.map Rc.av ++ [.agg [.int .i64 q.row, .int .i64 q.col, .int .i64 q.rows, .int .i64 q.cols]])]))) := by
            have h3 := hg'.obj (r' := .obj [.sl k' (rs.map Rc.av ++ [.agg [.int .i64 q.row, .int .i64 q.col, .int .i64 q.rows, .int .i64 q.cols]])])
            refine ⟨k', ?_⟩
            have e1 : (rs ++ [q]).map Rc.av = rs.map Rc.av ++ [AV.agg [.int .i64 q.row, .int .i64 q.col, .int .i64 q.rows, .int .i64 q.cols]] := by simp [Rc.av]
            have e2 : (rs ++ [q]).length = (rs.map Rc.av ++ [AV.agg [.int .i64 q.row, .int .i64 q.col, .int .i64 q.rows, .int .i64 q.cols]]).length := by simp
            rw [e2]
            dsimp only
            rw [e1]
            exact h3
          simp (disch := first | assumption | omega | (simp only [List.length_append, List.length_cons, List.length_nil]; omega)) only [go_sem, reduceCtorEq, Nat.reduceEqDiff, Nat.reduceAdd, Nat.reduceSub, Nat.reduceMul, Nat.reduceLeDiff, Int.reduceLT, Int.reduceLE, Int.reduceEq, ↓reduceIte, Int.reduceNeg, Int.reduceAdd, Int.reduceSub, Int.reduceMul, true_imp_iff, forall_const, Nat.mul_one, Int.reduceToNat, Nat.reducePow, Int.reducePow, Bool.true_and, Bool.false_and, Bool.and_false, hf, hbc']
          refine hgo2 _ _ (rs ++ [q]) hR' (by simp) ?_
          simp (disch := first | assumption | omega | (simp only [List.length_append, List.length_cons, List.length_nil]; omega)) only [go_sem, reduceCtorEq, Nat.reduceEqDiff, Nat.reduceAdd, Nat.reduceSub, Nat.reduceMul, Nat.reduceLeDiff, Int.reduceLT, Int.reduceLE, Int.reduceEq, ↓reduceIte, Int.reduceNeg, Int.reduceAdd, Int.reduceSub, Int.reduceMul, true_imp_iff, forall_const, Nat.mul_one, Int.reduceToNat, Nat.reducePow, Int.reducePow, Bool.true_and, Bool.false_and, Bool.and_false, hf]
      obtain ⟨M, hM⟩ : ∃ M, M = ACode.wp Tryd.prog c21_17 := ⟨_, rfl⟩
      rw [← hM] at mid
      by_cases h5 : op = 5
      · have hrr5' := hrr5 h5
        subst h5
        simp (disch := first | assumption | omega | (simp only [List.length_append, List.length_cons, List.length_nil]; omega)) only [go_sem, reduceCtorEq, Nat.reduceEqDiff, Nat.reduceAdd, Nat.reduceSub, Nat.reduceMul, Nat.reduceLeDiff, Int.reduceLT, Int.reduceLE, Int.reduceEq, ↓reduceIte, Int.reduceNeg, Int.reduceAdd, Int.reduceSub, Int.reduceMul, true_imp_iff, forall_const, Nat.mul_one, Int.reduceToNat, Nat.reducePow, Int.reducePow, Bool.true_and, Bool.false_and, Bool.and_false, ←hF, ←hM]
        refine allocC_by fun d hd => ?_
        have hcd : c ≠ d := by rintro rfl; rw [ASt.set_same] at hd; cases hd
        simp (disch := first | assumption | omega | (simp only [List.length_append, List.length_cons, List.length_nil]; omega)) only [go_sem, reduceCtorEq, Nat.reduceEqDiff, Nat.reduceAdd, Nat.reduceSub, Nat.reduceMul, Nat.reduceLeDiff, Int.reduceLT, Int.reduceLE, Int.reduceEq, ↓reduceIte, Int.reduceNeg, Int.reduceAdd, Int.reduceSub, Int.reduceMul, true_imp_iff, forall_const, Nat.mul_one, Int.reduceToNat, Nat.reducePow, Int.reducePow, Bool.true_and, Bool.false_and, Bool.and_false, ASt.set_set, ←hF, ←hM]
        refine hrr5'.use ?_
        simp (disch := first | assumption | omega | (simp only [List.length_append, List.length_cons, List.length_nil]; omega)) only [go_sem, reduceCtorEq, Nat.reduceEqDiff, Nat.reduceAdd, Nat.reduceSub, Nat.reduceMul, Nat.reduceLeDiff, Int.reduceLT, Int.reduceLE, Int.reduceEq, ↓reduceIte, Int.reduceNeg, Int.reduceAdd, Int.reduceSub, Int.reduceMul, true_imp_iff, forall_const, Nat.mul_one, Int.reduceToNat, Nat.reducePow, Int.reducePow, Bool.true_and, Bool.false_and, Bool.and_false, ASt.set_set, ←hF, ←hM]
        refine mid _ d hd ?_
        simp (disch := first | assumption | omega | (simp only [List.length_append, List.length_cons, List.length_nil]; omega)) only [go_sem, reduceCtorEq, Nat.reduceEqDiff, Nat.reduceAdd, Nat.reduceSub, Nat.reduceMul, Nat.reduceLeDiff, Int.reduceLT, Int.reduceLE, Int.reduceEq, ↓reduceIte, Int.reduceNeg, Int.reduceAdd, Int.reduceSub, Int.reduceMul, true_imp_iff, forall_const, Nat.mul_one, Int.reduceToNat, Nat.reducePow, Int.reducePow, Bool.true_and, Bool.false_and, Bool.and_false]
      · have h6 : op = 6 := by omega
        have harr' := harr h6
        subst h6
        simp (disch := first | assumption | omega | (simp only [List.length_append, List.length_cons, List.length_nil]; omega)) only [go_sem, reduceCtorEq, Nat.reduceEqDiff, Nat.reduceAdd, Nat.reduceSub, Nat.reduceMul, Nat.reduceLeDiff, Int.reduceLT, Int.reduceLE, Int.reduceEq, ↓reduceIte, Int.reduceNeg, Int.reduceAdd, Int.reduceSub, Int.reduceMul, true_imp_iff, forall_const, Nat.mul_one, Int.reduceToNat, Nat.reducePow, Int.reducePow, Bool.true_and, Bool.false_and, Bool.and_false, ←hF, ←hM]
        refine allocC_by fun d hd => ?_
        have hcd : c ≠ d := by rintro rfl; rw [ASt.set_same] at hd; cases hd
        simp (disch := first | assumption | omega | (simp only [List.length_append, List.length_cons, List.length_nil]; omega)) only [go_sem, reduceCtorEq, Nat.reduceEqDiff, Nat.reduceAdd, Nat.reduceSub, Nat.reduceMul, Nat.reduceLeDiff, Int.reduceLT, Int.reduceLE, Int.reduceEq, ↓reduceIte, Int.reduceNeg, Int.reduceAdd, Int.reduceSub, Int.reduceMul, true_imp_iff, forall_const, Nat.mul_one, Int.reduceToNat, Nat.reducePow, Int.reducePow, Bool.true_and, Bool.false_and, Bool.and_false, ASt.set_set, ←hF, ←hM]
        refine harr'.use ?_
        simp (disch := first | assumption | omega | (simp only [List.length_append, List.length_cons, List.length_nil]; omega)) only [go_sem, reduceCtorEq, Nat.reduceEqDiff, Nat.reduceAdd, Nat.reduceSub, Nat.reduceMul, Nat.reduceLeDiff, Int.reduceLT, Int.reduceLE, Int.reduceEq, ↓reduceIte, Int.reduceNeg, Int.reduceAdd, Int.reduceSub, Int.reduceMul, true_imp_iff, forall_const, Nat.mul_one, Int.reduceToNat, Nat.reducePow, Int.reducePow, Bool.true_and, Bool.false_and, Bool.and_false, ASt.set_set, ←hF, ←hM]
        refine mid _ d hd ?_
        simp (disch := first | assumption | omega | (simp only [List.length_append, List.length_cons, List.length_nil]; omega)) only [go_sem, reduceCtorEq, Nat.reduceEqDiff, Nat.reduceAdd, Nat.reduceSub, Nat.reduceMul, Nat.reduceLeDiff, Int.reduceLT, Int.reduceLE, Int.reduceEq, ↓reduceIte, Int.reduceNeg, Int.reduceAdd, Int.reduceSub, Int.reduceMul, true_imp_iff, forall_const, Nat.mul_one, Int.reduceToNat, Nat.reducePow, Int.reducePow, Bool.true_and, Bool.false_and, Bool.and_false]
    · rw [if_neg h56]
      have o5 : op ≠ 5 := by omega
      have o6 : op ≠ 6 := by omega
      simp (disch := first | assumption | omega | (simp only [List.length_append, List.length_cons, List.length_nil]; omega)) only [go_sem, reduceCtorEq, Nat.reduceEqDiff, Nat.reduceAdd, Nat.reduceSub, Nat.reduceMul, Nat.reduceLeDiff, Int.reduceLT, Int.reduceLE, Int.reduceEq, ↓reduceIte, Int.reduceNeg, Int.reduceAdd, Int.reduceSub, Int.reduceMul, true_imp_iff, forall_const, Nat.mul_one, Int.reduceToNat, Nat.reducePow, Int.reducePow, Bool.true_and, Bool.false_and, Bool.and_false, o5, o6, ←hF]
      refine allocC_by fun d hd => ?_
      have hcd : c ≠ d := by rintro rfl; rw [ASt.set_same] at hd; cases hd
      simp (disch := first | assumption | omega | (simp only [List.length_append, List.length_cons, List.length_nil]; omega)) only [go_sem, reduceCtorEq, Nat.reduceEqDiff, Nat.reduceAdd, Nat.reduceSub, Nat.reduceMul, Nat.reduceLeDiff, Int.reduceLT, Int.reduceLE, Int.reduceEq, ↓reduceIte, Int.reduceNeg, Int.reduceAdd, Int.reduceSub, Int.reduceMul, true_imp_iff, forall_const, Nat.mul_one, Int.reduceToNat, Nat.reducePow, Int.reducePow, Bool.true_and, Bool.false_and, Bool.and_false, o5, o6, ASt.set_set, ←hF]
      refine hgo _ d hd _ _ rs (hno d hd) (by omega) ?_
      simp (disch := first | assumption | omega | (simp only [List.length_append, List.length_cons, List.length_nil]; omega)) only [go_sem, reduceCtorEq, Nat.reduceEqDiff, Nat.reduceAdd, Nat.reduceSub, Nat.reduceMul, Nat.reduceLeDiff, Int.reduceLT, Int.reduceLE, Int.reduceEq, ↓reduceIte, Int.reduceNeg, Int.reduceAdd, Int.reduceSub, Int.reduceMul, true_imp_iff, forall_const, Nat.mul_one, Int.reduceToNat, Nat.reducePow, Int.reducePow, Bool.true_and, Bool.false_and, Bool.and_false]
theorem Areas_ok (n : Nd) (hn : n.ok) (hb : n.size ≤ 1000000) : Pure Tryd.prog 14 [n.av] (.sl .shr ((Nd.areas [] n).map Rc.av)) := by
  intro σ
  have hA := areas_le n.size n (Nat.le_refl _) hn
  obtain ⟨op, m, s, a, a2, ks⟩ := n
  have hav := Nd.av_cs op m s a a2 ks
  generalize hnn : Nd.mk op m s a a2 ks = nn at *
  rw [hav] at hA ⊢
  generalize ks.map Nd.av = L at *
  refine a14 (by simp) ?_
  simp (disch := first | assumption | omega | (simp only [List.length_append, List.length_cons, List.length_nil]; omega)) only [go_sem, reduceCtorEq, Nat.reduceEqDiff, Nat.reduceAdd, Nat.reduceSub, Nat.reduceMul, Nat.reduceLeDiff, Int.reduceLT, Int.reduceLE, Int.reduceEq, ↓reduceIte, Int.reduceNeg, Int.reduceAdd, Int.reduceSub, Int.reduceMul, true_imp_iff, forall_const, Nat.mul_one, Int.reduceToNat, Nat.reducePow, Int.reducePow, Bool.true_and, Bool.false_and, Bool.and_false]
  refine boxC_by rfl fun c hc => ?_
  simp (disch := first | assumption | omega | (simp only [List.length_append, List.length_cons, List.length_nil]; omega)) only [go_sem, reduceCtorEq, Nat.reduceEqDiff, Nat.reduceAdd, Nat.reduceSub, Nat.reduceMul, Nat.reduceLeDiff, Int.reduceLT, Int.reduceLE, Int.reduceEq, ↓reduceIte, Int.reduceNeg, Int.reduceAdd, Int.reduceSub, Int.reduceMul, true_imp_iff, forall_const, Nat.mul_one, Int.reduceToNat, Nat.reducePow, Int.reducePow, Bool.true_and, Bool.false_and, Bool.and_false]
  refine allocC_by fun d hd => ?_
  have hd0 := hd
  repeat (with_reducible replace hd := set_none hd; obtain ⟨_, _, hd⟩ := hd)
  have hR : RO (σ.set c (some (.obj (Nd.cs op m s a a2 L)))) d [] ((σ.set c (some (.obj (Nd.cs op m s a a2 L)))).set d (some (.obj [.sl .full []]))) := ⟨.full, .inl ⟨rfl, rfl, rfl⟩⟩
  simp (disch := first | assumption | omega | (simp only [List.length_append, List.length_cons, List.length_nil]; omega)) only [go_sem, reduceCtorEq, Nat.reduceEqDiff, Nat.reduceAdd, Nat.reduceSub, Nat.reduceMul, Nat.reduceLeDiff, Int.reduceLT, Int.reduceLE, Int.reduceEq, ↓reduceIte, Int.reduceNeg, Int.reduceAdd, Int.reduceSub, Int.reduceMul, true_imp_iff, forall_const, Nat.mul_one, Int.reduceToNat, Nat.reducePow, Int.reducePow, Bool.true_and, Bool.false_and, Bool.and_false]
  refine (hA _ _ _ _ hR (by simpa using hb)).mono ?_
  rintro v σ' ⟨rfl, k, hg⟩
  have hdc := GO.cell (cs := fun k => [.sl k ((Nd.areas [] nn).map Rc.av)]) hg
  simp (disch := first | assumption | omega | (simp only [List.length_append, List.length_cons, List.length_nil]; omega)) only [go_sem, reduceCtorEq, Nat.reduceEqDiff, Nat.reduceAdd, Nat.reduceSub, Nat.reduceMul, Nat.reduceLeDiff, Int.reduceLT, Int.reduceLE, Int.reduceEq, ↓reduceIte, Int.reduceNeg, Int.reduceAdd, Int.reduceSub, Int.reduceMul, true_imp_iff, forall_const, Nat.mul_one, Int.reduceToNat, Nat.reducePow, Int.reducePow, Bool.true_and, Bool.false_and, Bool.and_false, hdc]
  refine retC_by ?_ (.sl _ _) ⟨rfl, rfl⟩
  exact (hg.drop.trans (Drop.set hd0)).trans (Drop.set hc)
end Go.A
