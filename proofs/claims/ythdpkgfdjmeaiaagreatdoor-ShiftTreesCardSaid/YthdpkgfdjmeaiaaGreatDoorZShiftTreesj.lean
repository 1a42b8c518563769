/- Part 10 of what ShiftTrees leans on: Sd CodeSc Sc CodeSe Se Ya Ye Qe Qf Qd Qg Qh Su CodeXb Xb CodeSy Sy CodeSya. -/
import Derived.Test.YthdpkgfdjmeaiaaGreatDoorProg
import Derived.KernelRfl
import Derived.Lib.ValidLaws
import Derived.Test.YthdpkgfdjmeaiaaGreatDoorZShiftTreesi
set_option linter.defProp false
set_option linter.unusedSimpArgs false
set_option linter.unusedVariables false
set_option maxRecDepth 100000
namespace Go.A
open Go.Proofs Go.Lib
theorem columnP_rng (l : List UInt8) : 0 ≤ (columnP l).1 ∧ (columnP l).1 < 700 := by
 unfold columnP
 split
 ·split
  ·decide
  ·dsimp only; omega
 ·decide
theorem readQ_good (l : List UInt8) (i : Nat) (col : Int) (ar ac : Bool) (h : 0 ≤ col ∧ col < 700) : (readQ l i col ar ac).1.good = true := by
 unfold readQ
 split
 ·rfl
 ·simp only [Ref.good, decide_eq_true_eq]; omega
theorem readR_good (l : List UInt8) (i : Nat) (ac : Bool) : (readR l i ac).1.good = true := by
 unfold readR
 split
 ·rfl
 split
 ·exact readQ_good _ _ _ _ _ (columnP_rng _)
 ·exact readQ_good _ _ _ _ _ (columnP_rng _)
theorem parseP_good (l : List UInt8) : (parseP l).1.good = true := by
 unfold parseP
 split
 ·rfl
 ·unfold readP
  split
  ·exact readR_good _ _ _
  ·exact readR_good _ _ _
theorem parseQ_rng {m d : Bool} {w p : List UInt8} {v : Int} (h : parseQ m w p d = some v) : v.natAbs ≤ 999999999999999999 := by
 unfold parseQ at h
 split at h
 ·cases h
 ·obtain ⟨n, _, hn⟩ := Option.bind_eq_some_iff.1 h
  unfold madeP at hn
  split at hn
  ·injection hn with hn
   split at hn <;> omega
  ·cases hn
theorem parseD_rng {s : List UInt8} {v : Int} (h : parseD s = some v) : v.natAbs ≤ 999999999999999999 := parseQ_rng h
mutual
def Nd.nk : Nd → Prop
 | .mk op _ _ _ _ ks => ((op = 5 ∨ op = 6) → ks = []) ∧ Nd.nks ks
def Nd.nks : List Nd → Prop
 | [] => True
 | x :: xs => x.nk ∧ Nd.nks xs
end
theorem nks_mem : ∀ {l : List Nd}, Nd.nks l ↔ ∀ x ∈ l, x.nk
 | [] => by simp [Nd.nks]
 | x :: xs => by rw [Nd.nks, nks_mem (l := xs)]; simp
def Nd.gd (n : Nd) : Prop := n.ok ∧ n.nk
theorem gd_mk {op n : Int} {s : List UInt8} {a b : Ref} {ks : List Nd} (h : nodeOk op n s a b ks.length) (h2 : (op = 5 ∨ op = 6) → ks = []) (hk : ∀ x ∈ ks, x.gd) : (Nd.mk op n s a b ks).gd := by
 constructor
 ·rw [Nd.ok]
  exact ⟨h, Nd.oks_mem.2 fun x hx => (hk x hx).1⟩
 ·rw [Nd.nk]
  exact ⟨h2, nks_mem.2 fun x hx => (hk x hx).2⟩
theorem no_kids {x : Nd} : ∀ y ∈ ([] : List Nd), y.gd := fun y hy => by cases hy
theorem miss_gd : missN.gd := gd_mk ⟨by decide, fun h => by omega, fun h => by omega, fun h => by omega, fun h => by omega, fun h => by omega, fun h => by omega, fun h => by omega, fun h => by omega, by decide⟩ (fun h => by omega) (no_kids (x := missN))
theorem sign_rng {x : List UInt8} {lvl : Nat} (h : x ∈ levelsL.getD lvl []) : 0 ≤ idxP signL x ∧ idxP signL x ≤ 11 := by
 have : ∀ y ∈ levelsL.flatten, 0 ≤ idxP signL y ∧ idxP signL y ≤ 11 := by decide
 refine this x (List.mem_flatten.2 ?_)
 rw [List.getD_eq_getElem?_getD] at h
 cases hl : levelsL[lvl]? with
 | none => rw [hl] at h; simp at h
 | some l => rw [hl] at h; exact ⟨l, List.mem_of_getElem? hl, h⟩
theorem fault_rng {x : List UInt8} (h : x ∈ errTexts) : 0 ≤ idxP errL x ∧ idxP errL x ≤ 6 := by
 have : ∀ y ∈ errTexts, 0 ≤ idxP errL y ∧ idxP errL y ≤ 6 := by decide
 exact this x h
theorem sizes_snoc (l : List Nd) (x : Nd) : Nd.sizes (l ++ [x]) = Nd.sizes l + x.size := by
 induction l with
 | nil => simp [Nd.sizes]
 | cons y l ih => rw [List.cons_append, Nd.sizes, ih, Nd.sizes]; omega
section
variable {T : List Tok}
theorem Went.e0 {s s' : PSt} (h : Went T s s') (h0 : s'.err = 0) : s.err = 0 := by
 by_cases he : s.err = 0
 ·exact he
 ·have := (h.err he).1; omega
theorem enter_i {s : PSt} (h : (stepP1 (enterP T s)).err = 0) : (stepP1 (enterP T s)).i = s.i + 1 := by
 have hi : (enterP T s).i = s.i := by
  unfold enterP failP
  split
  ·split <;> rfl
  ·rfl
 unfold stepP1 at h ⊢
 split
 ·show (enterP T s).i + 1 = _
  omega
 ·rename_i hne
  rw [if_neg hne] at h
  exact absurd h hne
theorem must_i {s : PSt} {x : List UInt8} (h : (mustP T s x).err = 0) : s.err = 0 ∧ (mustP T s x).i = s.i + 1 := by
 unfold mustP at h ⊢
 split
 ·rename_i hx
  rw [if_pos hx] at h
  exact ⟨h, rfl⟩
 ·rename_i hx
  rw [if_neg hx] at h
  unfold failP at h
  split at h
  ·cases h
  ·rename_i hne; exact absurd h hne
theorem fail_err {s : PSt} {e : Int} (he : e ≠ 0) (h : (failP T s e).err = 0) : False := by
 unfold failP at h
 split at h
 ·exact he h
 ·rename_i hne; exact hne h
structure GoodF (T : List Tok) (f : Nat) : Prop where
 betw : ∀ lvl s r, betwP T f lvl s = some r → Fit T s → r.2.err = 0 → r.1.gd ∧ r.1.size + 2 * s.i ≤ 2 * r.2.i
 loop : ∀ lvl n s r, loopP T f lvl n s = some r → Fit T s → r.2.err = 0 → n.gd → r.1.gd ∧ r.1.size + 2 * s.i ≤ n.size + 2 * r.2.i
 signed : ∀ s r, signedP T f s = some r → Fit T s → r.2.err = 0 → r.1.gd ∧ r.1.size + 2 * s.i ≤ 2 * r.2.i
 hundred : ∀ s r, hundredP T f s = some r → Fit T s → r.2.err = 0 → r.1.gd ∧ r.1.size + 2 * s.i ≤ 2 * r.2.i
 hloop : ∀ n s r, hloopP T f n s = some r → Fit T s → r.2.err = 0 → n.gd → r.1.gd ∧ r.1.size + 2 * s.i ≤ n.size + 2 * r.2.i
 prim : ∀ s r, primP T f s = some r → Fit T s → r.2.err = 0 → r.1.gd ∧ r.1.size + 2 * s.i ≤ 2 * r.2.i
 name : ∀ s r, nameP T f s = some r → Fit T s → (curT T s).kind = 3 → r.2.err = 0 → r.1.gd ∧ r.1.size + 2 * s.i ≤ 2 * r.2.i
 args : ∀ s r, argsP T f s = some r → Fit T s → r.2.err = 0 → (∀ x ∈ r.1, x.gd) ∧ Nd.sizes r.1 + 2 * s.i ≤ 2 * r.2.i
 aloop : ∀ l s r, aloopP T f l s = some r → Fit T s → r.2.err = 0 → (∀ x ∈ l, x.gd) → (∀ x ∈ r.1, x.gd) ∧ Nd.sizes r.1 + 2 * s.i ≤ Nd.sizes l + 2 * r.2.i
theorem leaf_gd {op n : Int} {s : List UInt8} {a b : Ref} (h : nodeOk op n s a b 0) : (Nd.mk op n s a b []).gd := gd_mk h (fun _ => rfl) (no_kids (x := missN))
theorem leaf_size (op n : Int) (s : List UInt8) (a b : Ref) : (Nd.mk op n s a b []).size = 1 := by rw [Nd.size, Nd.sizes]
theorem one_size (op n : Int) (s : List UInt8) (a b : Ref) (x : Nd) : (Nd.mk op n s a b [x]).size = 1 + x.size := by rw [Nd.size, Nd.sizes, Nd.sizes]; omega
theorem two_size (op n : Int) (s : List UInt8) (a b : Ref) (x y : Nd) : (Nd.mk op n s a b [x, y]).size = 1 + x.size + y.size := by rw [Nd.size, Nd.sizes, Nd.sizes, Nd.sizes]; omega
theorem one_gd {op n : Int} {s : List UInt8} {a b : Ref} {x : Nd} (h : nodeOk op n s a b 1) (h5 : op ≠ 5 ∧ op ≠ 6) (hx : x.gd) : (Nd.mk op n s a b [x]).gd :=
 gd_mk h (fun h => by omega) fun y hy => by simp at hy; subst hy; exact hx
theorem one_ok {op : Int} (h : op = 7 ∨ op = 8 ∨ op = 9) : nodeOk op 0 [] .zero .zero 1 :=
 ⟨by omega, fun h => by omega, fun h => by omega, fun h => by omega, fun h => by omega, fun h => by omega, fun h => by omega, fun h => by omega, fun h => by omega, by decide⟩
theorem goodF (hT : Ends T) (hG : ∀ i, (T.getD i endT).kind ≠ 0 → TokGd (T.getD i endT)) (hL : T.length ≤ 100000) : ∀ f, GoodF T f
 | 0 => by
   constructor
   all_goals intros
   all_goals first
    | (rename_i h _ _; simp only [betwP, signedP, hundredP, primP, argsP, reduceCtorEq] at h)
    | (rename_i h _ _ _; simp only [loopP, hloopP, nameP, aloopP, reduceCtorEq] at h)
 | f + 1 => by
   have ih := goodF hT hG hL f
   have W := wentF hT f
   constructor
   ·intro lvl s r h hf h0
    rw [betwP] at h
    split at h
    ·exact ih.signed s r h hf h0
    ·split at h
     ·cases h
     ·rename_i r1 h1
      have w1 := W.betw _ _ _ h1 hf
      have w2 := W.loop _ _ _ _ h w1.fit
      obtain ⟨g1, g2⟩ := ih.betw _ _ _ h1 hf (w2.e0 h0)
      obtain ⟨g3, g4⟩ := ih.loop _ _ _ _ h w1.fit h0 g1
      exact ⟨g3, by omega⟩
   ·intro lvl n s r h hf h0 hn
    rw [loopP] at h
    split at h
    ·rename_i hk
     split at h
     ·cases h
     ·rename_i r1 h1
      have w0 := Went.next hT hf (sgn_kind hk)
      have w1 := W.betw _ _ _ h1 w0.fit
      have w2 := W.loop _ _ _ _ h w1.fit
      obtain ⟨g1, g2⟩ := ih.betw _ _ _ h1 w0.fit (w2.e0 h0)
      have hs : (curT T s).text ∈ levelsL.getD lvl [] := by
       unfold sgn at hk
       simp only [Bool.and_eq_true, decide_eq_true_eq] at hk
       exact hk.2
      have hr := sign_rng hs
      have hg : (Nd.mk (10 + idxP signL (curT T s).text) 0 [] .zero .zero [n, r1.1]).gd := by
       refine gd_mk ⟨by omega, fun h => by omega, fun h => by omega, fun h => by omega, fun h => by omega, fun h => by omega, fun h => by omega, fun h => by omega, fun h => by simp, by simp⟩ (fun h => by omega) fun y hy => ?_
       simp only [List.mem_cons, List.not_mem_nil, or_false] at hy
       rcases hy with rfl | rfl
       ·exact hn
       ·exact g1
      obtain ⟨g3, g4⟩ := ih.loop _ _ _ _ h w1.fit h0 hg
      rw [two_size] at g4
      have : s.next.i = s.i + 1 := rfl
      exact ⟨g3, by omega⟩
    ·injection h with h; subst h; exact ⟨hn, by dsimp only; omega⟩
   ·intro s r h hf h0
    rw [signedP] at h
    split at h
    ·rename_i hk
     split at h
     ·cases h
     ·rename_i r1 h1
      injection h with h; subst h
      obtain ⟨e1, e2, e3⟩ := enter_fit hT hf (isOp_kind hk)
      have w1 := W.signed _ _ h1 e1
      have e4 := enter_i (w1.e0 h0)
      obtain ⟨g1, g2⟩ := ih.signed _ _ h1 e1 h0
      dsimp only
      rw [one_size]
      exact ⟨one_gd (one_ok (by omega)) (by omega) g1, by show _ ≤ 2 * r1.2.i; omega⟩
    split at h
    ·rename_i hk
     split at h
     ·cases h
     ·rename_i r1 h1
      injection h with h; subst h
      obtain ⟨e1, e2, e3⟩ := enter_fit hT hf (isOp_kind hk)
      have w1 := W.signed _ _ h1 e1
      have e4 := enter_i (w1.e0 h0)
      obtain ⟨g1, g2⟩ := ih.signed _ _ h1 e1 h0
      dsimp only
      rw [one_size]
      exact ⟨one_gd (one_ok (by omega)) (by omega) g1, by show _ ≤ 2 * r1.2.i; omega⟩
    ·exact ih.hundred _ _ h hf h0
   ·intro s r h hf h0
    rw [hundredP] at h
    split at h
    ·cases h
    ·rename_i r1 h1
     have w1 := W.prim _ _ h1 hf
     have w2 := W.hloop _ _ _ h w1.fit
     obtain ⟨g1, g2⟩ := ih.prim _ _ h1 hf (w2.e0 h0)
     obtain ⟨g3, g4⟩ := ih.hloop _ _ _ h w1.fit h0 g1
     exact ⟨g3, by omega⟩
   ·intro n s r h hf h0 hn
    rw [hloopP] at h
    split at h
    ·rename_i hk
     have w0 := Went.next hT hf (isOp_kind hk)
     obtain ⟨g3, g4⟩ := ih.hloop _ _ _ h w0.fit h0 (one_gd (one_ok (by omega)) (by omega) hn)
     rw [one_size] at g4
     have : s.next.i = s.i + 1 := rfl
     exact ⟨g3, by omega⟩
    ·injection h with h; subst h; exact ⟨hn, by dsimp only; omega⟩
   ·intro s r h hf h0
    have hni : s.next.i = s.i + 1 := rfl
    have hgd : (curT T s).kind ≠ 0 → TokGd (curT T s) := fun hk => by
     have he := cur_err hk
     rw [cur_at he] at hk ⊢
     exact hG _ hk
    rw [primP] at h
    split at h
    ·rename_i hk
     split at h
     ·injection h with h; subst h; exact absurd h0 fun h => fail_err (by decide) h
     ·rename_i v hv
      injection h with h; subst h
      refine ⟨leaf_gd ⟨by decide, fun _ => parseD_rng hv, fun h => by omega, fun h => by omega, fun h => by omega, fun h => by omega, fun h => by omega, fun h => by omega, fun h => by omega, by decide⟩, ?_⟩
      rw [leaf_size]; dsimp only; omega
    split at h
    ·rename_i hk
     injection h with h; subst h
     have := (hgd (by omega)).len
     refine ⟨leaf_gd ⟨by decide, fun h => by omega, fun _ => by omega, fun h => by omega, fun h => by omega, fun h => by omega, fun h => by omega, fun h => by omega, fun h => by omega, by decide⟩, ?_⟩
     rw [leaf_size]; dsimp only; omega
    split at h
    ·rename_i hk
     injection h with h; subst h
     have hr := fault_rng ((hgd (by omega)).err hk)
     have hq : ((idxP errL (curT T s).text + 1) * 10000).tdiv 10000 = idxP errL (curT T s).text + 1 := Int.mul_tdiv_cancel _ (by decide)
     refine ⟨leaf_gd ⟨by decide, fun h => by omega, fun h => by omega, fun h => by rw [hq]; omega, fun h => by omega, fun h => by omega, fun h => by omega, fun h => by omega, fun h => by omega, by decide⟩, ?_⟩
     rw [leaf_size]; dsimp only; omega
    split at h
    ·rename_i hk
     injection h with h; subst h
     unfold areaP at h0 ⊢
     split at h0
     ·rename_i ho
      rw [if_pos ho]
      refine ⟨leaf_gd ⟨by decide, fun h => by omega, fun h => by omega, fun h => by omega, fun h => by omega, fun _ => parseP_good _, fun h => by omega, fun h => by omega, fun h => by omega, by decide⟩, ?_⟩
      rw [leaf_size]; dsimp only; omega
     ·rename_i ho
      rw [if_neg ho]
      split at h0
      ·exact absurd h0 fun h => fail_err (by decide) h
      ·rename_i hk2
       rw [if_neg hk2]
       refine ⟨leaf_gd ⟨by decide, fun h => by omega, fun h => by omega, fun h => by omega, fun h => by omega, fun _ => parseP_good _, fun _ => parseP_good _, fun h => by omega, fun h => by omega, by decide⟩, ?_⟩
       rw [leaf_size]
       have : s.next.next.next.i = s.i + 3 := rfl
       dsimp only; omega
    split at h
    ·rename_i hk
     exact ih.name _ _ h hf hk h0
    split at h
    ·rename_i hk
     split at h
     ·cases h
     ·rename_i r1 h1
      injection h with h; subst h
      obtain ⟨e1, e2, e3⟩ := enter_fit hT hf (isOp_kind hk)
      have w1 := W.betw _ _ _ h1 e1
      obtain ⟨m1, m2⟩ := must_i (T := T) (s := r1.2) (x := [41]) h0
      have e4 := enter_i (w1.e0 m1)
      obtain ⟨g1, g2⟩ := ih.betw _ _ _ h1 e1 m1
      exact ⟨g1, by show _ ≤ 2 * (mustP T r1.2 [41]).i; dsimp only; omega⟩
    ·injection h with h; subst h; exact absurd h0 fun h => fail_err (by decide) h
   ·intro s r h hf hk3 h0
    have hni : s.next.i = s.i + 1 := rfl
    have he0 : s.err = 0 := cur_err (T := T) (by omega)
    have hn := hf.next hT (by omega)
    have hgd : TokGd (curT T s) := by
     have hk : (curT T s).kind ≠ 0 := by omega
     rw [cur_at he0] at hk ⊢
     exact hG _ hk
    rw [nameP] at h
    split at h
    ·rename_i hk
     obtain ⟨e1, e2, e3⟩ := enter_err hT hf he0
     split at h
     ·rename_i he
      injection h with h; subst h
      exact absurd h0 he
     ·rename_i he
      split at h
      ·cases h
      ·rename_i r1 h1
       injection h with h; subst h
       obtain ⟨g1, g2, g3, _⟩ := enter2 hT hf (by omega) (by simpa using he)
       have hl := hT.more (s.i + 1) hn.1.i (by omega)
       have g4 : Fit T (enterP T s).next.next := ⟨by show (enterP T s).i + 1 + 1 < _; omega, g1.d0, g1.d1, g1.d2⟩
       have w1 := W.args _ _ h1 g4
       obtain ⟨k1, k2⟩ := ih.args _ _ h1 g4 h0
       have hi2 : (enterP T s).next.next.i = (enterP T s).i + 2 := rfl
       have hsl := sizes_len r1.1
       have hlt := w1.fit.i
       refine ⟨gd_mk ⟨by decide, fun h => by omega, fun h => by omega, fun h => by omega, fun _ => hgd.nam hk3, fun h => by omega, fun h => by omega, fun h => by omega, fun h => by omega, by omega⟩ (fun h => by omega) k1, ?_⟩
       dsimp only
       rw [Nd.size]
       show _ ≤ 2 * r1.2.i
       omega
    split at h
    ·injection h with h; subst h
     refine ⟨leaf_gd ⟨by decide, fun h => by omega, fun h => by omega, fun h => by omega, fun h => by omega, fun h => by omega, fun h => by omega, fun h => by omega, fun h => by omega, by decide⟩, ?_⟩
     rw [leaf_size]; dsimp only; omega
    split at h
    ·injection h with h; subst h
     refine ⟨leaf_gd ⟨by decide, fun h => by omega, fun h => by omega, fun h => by omega, fun h => by omega, fun h => by omega, fun h => by omega, fun h => by omega, fun h => by omega, by decide⟩, ?_⟩
     rw [leaf_size]; dsimp only; omega
    ·injection h with h; subst h; exact absurd h0 fun h => fail_err (by decide) h
   ·intro s r h hf h0
    rw [argsP] at h
    split at h
    ·rename_i hk
     injection h with h; subst h
     refine ⟨no_kids (x := missN), ?_⟩
     have : s.next.i = s.i + 1 := rfl
     rw [Nd.sizes]; dsimp only; omega
    ·obtain ⟨g1, g2⟩ := ih.aloop _ _ _ h hf h0 (no_kids (x := missN))
     rw [Nd.sizes] at g2
     exact ⟨g1, by omega⟩
   ·intro l s r h hf h0 hl
    rw [aloopP] at h
    split at h
    ·rename_i he
     injection h with h; subst h; exact absurd h0 he
    ·rename_i he
     split at h
     ·cases h
     ·rename_i r1 h1
      have w1 : Went T s r1.2 := by
       split at h1
       ·injection h1 with h1; subst h1; exact Went.refl hf
       ·exact W.betw _ _ _ h1 hf
      have key : r1.2.err = 0 → r1.1.gd ∧ r1.1.size + 2 * s.i ≤ 1 + 2 * r1.2.i := fun k0 => by
       split at h1
       ·injection h1 with h1; subst h1
        refine ⟨miss_gd, ?_⟩
        show missN.size + _ ≤ _
        unfold missN
        rw [leaf_size]
        dsimp only
        omega
       ·obtain ⟨k1, k2⟩ := ih.betw _ _ _ h1 hf k0
        exact ⟨k1, by omega⟩
      have hsnoc := sizes_snoc l r1.1
      have hmem : r1.1.gd → ∀ x ∈ l ++ [r1.1], x.gd := fun k x hx => by
       rcases List.mem_append.1 hx with hx | hx
       ·exact hl x hx
       ·simp at hx; subst hx; exact k
      split at h
      ·rename_i hk
       have w2 := Went.next hT w1.fit (isOp_kind hk)
       have w3 := W.aloop _ _ _ h w2.fit
       obtain ⟨k1, k2⟩ := key (w2.e0 (w3.e0 h0))
       obtain ⟨g1, g2⟩ := ih.aloop _ _ _ h w2.fit h0 (hmem k1)
       have : r1.2.next.i = r1.2.i + 1 := rfl
       exact ⟨g1, by omega⟩
      ·injection h with h; subst h
       obtain ⟨m1, m2⟩ := must_i (T := T) (s := r1.2) (x := [41]) h0
       obtain ⟨k1, k2⟩ := key m1
       exact ⟨hmem k1, by dsimp only; omega⟩
end
theorem parseR_gd {s : List UInt8} (h : (parseR s).2.2 = 0) : (parseR s).1.gd ∧ (parseR s).1.size ≤ 5000 := by
 unfold parseR parseT at h ⊢
 by_cases h1 : (lexP s).2.2 = 0
 ·obtain ⟨hT, hL, hG⟩ := lex_toks h1
  obtain ⟨r, hr⟩ := betw_some h1
  have hr' := hr
  unfold st0 at hr
  rw [if_neg (by simp [h1]), hr] at h ⊢
  dsimp only at h ⊢
  have W := (wentF hT.ends _).betw _ _ _ hr' (st0_fit hT.ends)
  obtain ⟨q, hq⟩ : ∃ q, (if (curT (lexP s).1 r.2).kind ≠ 0 then failP (lexP s).1 r.2 10 else r.2) = q := ⟨_, rfl⟩
  rw [hq] at h ⊢
  by_cases he : q.err ≠ 0
  ·rw [if_pos he] at h
   exact absurd h he
  ·rw [if_neg he]
   have h0 : r.2.err = 0 := by
    split at hq
    ·subst hq
     exact absurd (by simpa using he) fun h => fail_err (T := (lexP s).1) (s := r.2) (e := 10) (by decide) h
    ·subst hq
     simpa using he
   obtain ⟨g1, g2⟩ := (goodF hT.ends hG (by omega) _).betw _ _ _ hr' (st0_fit hT.ends) h0
   have := W.fit.i
   refine ⟨g1, ?_⟩
   show r.1.size ≤ _
   omega
 ·rw [if_pos (by simpa using h1)] at h
  exact absurd h h1
end Go.A
namespace Go.A
open Go.Proofs
/-! 15: tabular/shift.Copy -/
def c15_3 : ACode := .seq (.ops [ oe 3 (.box (.t 0)), oe 4 (.box (.t 1)), oe 5 (.box (.t 2)), oe 6 (.alloc [(.int .i64 0), (.int .i64 0), (.str []), (.int .i64 0), (.int .i64 0), (.bool false), (.bool false), (.int .i64 0), (.int .i64 0), (.bool false), (.bool false), (.sl .full [])])]) (.seq (.ops [ oq 7 (.ld (some 12) (.t 3)), oq 8 (.mkf (.func 41) [] [(.t 4), (.t 5)]), oe 9 (.call 37 [(.t 7), (.t 8)]), oz (.store 12 (.t 6) (.t 9))]) .ret)
@[go_sem] def c15_3_wp := wp_of c15_3.eq_1
def c15 : AFn := ⟨10, [.c 6 (some 12)], c15_3⟩
theorem c15_ok : compF Tryz.prog Tryz.f15 = some c15 := by kernel_rfl
theorem a15 {args : List AV} {σ : ASt} {R : AV → ASt → Prop} (hl : args.length ≤ 10) (h : c15_3.wp Tryz.prog (RetQ [.c 6 (some 12)] R) (init args) σ) : ACalls Tryz.prog 15 args σ R := acalls_of Tryz.func15 c15_ok hl h
/-! 41: tabular/shift.Copy$1 -/
def c41_29 : ACode := .seq (.ops [ oe 3 (.box (.t 0)), oe 4 (.alloc [(.int .i64 0), (.int .i64 0), (.str []), (.int .i64 0), (.int .i64 0), (.bool false), (.bool false), (.int .i64 0), (.int .i64 0), (.bool false), (.bool false), (.sl .full [])])]) (.seq (.ops [ oq 10 (.fa 3 (.t 3)), oq 11 (.ld (some 4) (.t 10)), oq 12 (.ld none (.t 1)), oq 13 (.ld none (.t 2)), oe 14 (.call 42 [(.t 11), (.t 12), (.t 13)]), oq 9 (.mv (.t 14)), oq 15 (.ext 0 (.t 9)), oq 16 (.ext 1 (.t 9)), oe 5 (.alloc [(.int .i64 0), (.int .i64 0), (.bool false), (.bool false)]), oz (.store 4 (.t 5) (.t 15)), oq 6 (.mv (.t 16))]) (.seq (.seq (.ops [ oq 17 (.fa 0 (.t 3)), oq 18 (.ld none (.t 17)), oq 19 (.bin .eql (.t 18) (.v (.int .i64 5)))]) (.cond (.t 19) (.seq (.seq (.ops [ oq 20 (.mv (.t 6)), oq 21 (.un .not (.t 20))]) (.cond (.t 21) (.seq (.ops [ oe 22 (.call 43 []), oz (.store 12 (.t 4) (.t 22))]) .ret) .skip)) (.seq (.ops [ oq 23 (.ld (some 4) (.t 5)), oq 24 (.fa 3 (.t 3)), oz (.store 4 (.t 24) (.t 23))]) (.seq (.ops [ oq 25 (.ld (some 12) (.t 3)), oz (.store 12 (.t 4) (.t 25))]) .ret))) .skip)) (.seq (.ops [ oq 27 (.fa 7 (.t 3)), oq 28 (.ld (some 4) (.t 27)), oq 29 (.ld none (.t 1)), oq 30 (.ld none (.t 2)), oe 31 (.call 42 [(.t 28), (.t 29), (.t 30)]), oq 26 (.mv (.t 31)), oq 32 (.ext 0 (.t 26)), oq 33 (.ext 1 (.t 26)), oe 7 (.alloc [(.int .i64 0), (.int .i64 0), (.bool false), (.bool false)]), oz (.store 4 (.t 7) (.t 32)), oq 8 (.mv (.t 33))]) (.seq (.seq (.ops [ oq 34 (.mv (.t 6)), oq 35 (.un .not (.t 34)), oq 36 (.mv (.t 35)), ⟨some 37, some (36, false), .q (.mv (.t 8)), []⟩, ⟨some 38, some (36, false), .q (.un .not (.t 37)), []⟩, oq 39 (.pick (.t 36) (.v (.bool true)) (.t 38))]) (.cond (.t 39) (.seq (.ops [ oe 40 (.call 43 []), oz (.store 12 (.t 4) (.t 40))]) .ret) .skip)) (.seq (.ops [ oq 41 (.ld (some 4) (.t 5)), oq 42 (.ld (some 4) (.t 7)), oq 43 (.fa 3 (.t 3)), ⟨none, none, .e (.store 4 (.t 43) (.t 41)), [⟨none, .ld (some 4) (.t 7), 42⟩]⟩, oq 44 (.fa 7 (.t 3)), oz (.store 4 (.t 44) (.t 42))]) (.seq (.ops [ oq 45 (.ld (some 12) (.t 3)), oz (.store 12 (.t 4) (.t 45))]) .ret))))))
@[go_sem] def c41_29_wp := wp_of c41_29.eq_1
def c41 : AFn := ⟨46, [.c 4 (some 12)], c41_29⟩
theorem c41_ok : compF Tryz.prog Tryz.f41 = some c41 := by kernel_rfl
theorem a41 {args : List AV} {σ : ASt} {R : AV → ASt → Prop} (hl : args.length ≤ 46) (h : c41_29.wp Tryz.prog (RetQ [.c 4 (some 12)] R) (init args) σ) : ACalls Tryz.prog 41 args σ R := acalls_of Tryz.func41 c41_ok hl h
end Go.A
namespace Go.A
open Go.Proofs Go.Lib
def copyN (rows cols : Int) : Nd → Nd
 | .mk op n s a b ks =>
   if op = 5 then if (movedP a rows cols).2 = true then .mk op n s (movedP a rows cols).1 b ks else goneN
   else if (movedP a rows cols).2 = true ∧ (movedP b rows cols).2 = true then .mk op n s (movedP a rows cols).1 (movedP b rows cols).1 ks else goneN
def Nd.copy (n : Nd) (rows cols : Int) : Nd := Nd.map (copyN rows cols) n
def CopAt (rows cols : Int) (c c2 : Nat) (σ : ASt) : Prop := σ c = some (.obj [.int .i64 rows]) ∧ σ c2 = some (.obj [.int .i64 cols])
theorem shCopy1_ok (rows cols : Int) (c c2 : Nat) (x : Nd) (hx : x.ok) (ho : x.op = 5 ∨ x.op = 6) (σ : ASt) (hσ : CopAt rows cols c c2 σ) :
  ACalls Tryz.prog 41 [x.av, .ptr c 0, .ptr c2 0] σ fun v σ' => v = (copyN rows cols x).av ∧ σ' = σ := by
 obtain ⟨op, n, s, a, b, ks⟩ := x
 have hr := ok_refs hx
 obtain ⟨hs1, hs2⟩ := hσ
 change op = 5 ∨ op = 6 at ho
 have hg : Pure Tryz.prog 43 [] (.agg [.int .i64 4, .int .i64 40000, .str [], .int .i64 0, .int .i64 0, .bool false, .bool false, .int .i64 0, .int .i64 0, .bool false, .bool false, .sl .shr []]) := by
  have := shgone_ok
  rw [Nd.av_cs] at this
  exact this
 have hga := gone_av
 have na := good_near (hr.1 ho)
 have hm := moved_ok a rows cols ⟨na.1, na.2.1⟩ ⟨na.2.2.1, na.2.2.2⟩
 have hm2 : op ≠ 5 → Pure Tryz.prog 42 [refAV b, .int .i64 rows, .int .i64 cols] (.tuple [refAV (movedP b rows cols).1, .bool (movedP b rows cols).2]) := fun h => by
  have nb := good_near (hr.2 (by omega))
  exact moved_ok b rows cols ⟨nb.1, nb.2.1⟩ ⟨nb.2.2.1, nb.2.2.2⟩
 have hav : ∀ r u : Ref, (Nd.mk op n s r u ks).av = .agg [.int .i64 op, .int .i64 n, .str s, .int .i64 r.row, .int .i64 r.col, .bool r.absRow, .bool r.absCol, .int .i64 u.row, .int .i64 u.col, .bool u.absRow, .bool u.absCol, .sl .shr (ks.map Nd.av)] := fun r u => Nd.av_cs ..
 rw [copyN, hav]
 obtain ⟨⟨a', ok⟩, hA⟩ : ∃ q, movedP a rows cols = q := ⟨_, rfl⟩
 obtain ⟨⟨b', ok2⟩, hB⟩ : ∃ q, movedP b rows cols = q := ⟨_, rfl⟩
 rw [hA] at hm ⊢
 rw [hB] at hm2 ⊢
 dsimp only at hm hm2 ⊢
 unfold refAV at hm hm2
 by_cases h5 : op = 5
 ·rw [if_pos h5]
  cases ok with
  | true =>
    rw [if_pos rfl, hav]
    generalize ks.map Nd.av = L at *
    refine a41 (by simp) ?_
    simp (disch := first | assumption | omega) only [go_sem]
    refine boxC_by rfl fun d hd => ?_
    have hcd : c ≠ d := by rintro rfl; rw [hd] at hs1; cases hs1
    have hcd2 : c2 ≠ d := by rintro rfl; rw [hd] at hs2; cases hs2
    simp (disch := first | assumption | omega) only [go_sem]
    refine allocC_by fun t ht => ?_
    have hct : c ≠ t := by rintro rfl; rw [ASt.set_ne hcd, hs1] at ht; cases ht
    have hct2 : c2 ≠ t := by rintro rfl; rw [ASt.set_ne hcd2, hs2] at ht; cases ht
    repeat (with_reducible replace ht := set_none ht; obtain ⟨_, _, ht⟩ := ht)
    have hdt : d ≠ t := by assumption
    simp (disch := first | assumption | omega) only [go_sem, Nat.reduceEqDiff, Nat.reduceAdd, Nat.reduceLeDiff, ↓reduceIte, hs1, hs2]
    refine hm.use ?_
    simp (disch := first | assumption | omega) only [go_sem, Nat.reduceEqDiff, ↓reduceIte]
    refine allocC_by fun u hu => ?_
    repeat (with_reducible replace hu := set_none hu; obtain ⟨_, _, hu⟩ := hu)
    have hdu : d ≠ u := by assumption
    have htu : t ≠ u := by assumption
    have hsw : ∀ (ρ : ASt) (X Y Z W : Option Role), (((ρ.set d X).set t Y).set u Z).set d W = ((ρ.set d W).set t Y).set u Z := fun ρ X Y Z W => by rw [set_swap (Ne.symm hdu), set_mid hdt]
    have hsw2 : ∀ (ρ : ASt) (X Y Z : Option Role), ((ρ.set t X).set u Y).set t Z = (ρ.set t Z).set u Y := fun _ _ _ _ => set_mid htu
    simp (disch := first | assumption | omega) only [go_sem, Nat.reduceEqDiff, Nat.reduceAdd, Nat.reduceLeDiff, ↓reduceIte, Bool.true_and, h5, hsw, hsw2, ASt.set_set]
    exact retC_by (by repeat' (first | exact Drop.refl _ | with_reducible refine Drop.off ?_ (by assumption))) (.refl _) ⟨rfl, rfl⟩
  | false =>
    rw [if_neg (by simp), hga]
    generalize ks.map Nd.av = L at *
    refine a41 (by simp) ?_
    simp (disch := first | assumption | omega) only [go_sem]
    refine boxC_by rfl fun d hd => ?_
    have hcd : c ≠ d := by rintro rfl; rw [hd] at hs1; cases hs1
    have hcd2 : c2 ≠ d := by rintro rfl; rw [hd] at hs2; cases hs2
    simp (disch := first | assumption | omega) only [go_sem]
    refine allocC_by fun t ht => ?_
    have hct : c ≠ t := by rintro rfl; rw [ASt.set_ne hcd, hs1] at ht; cases ht
    have hct2 : c2 ≠ t := by rintro rfl; rw [ASt.set_ne hcd2, hs2] at ht; cases ht
    repeat (with_reducible replace ht := set_none ht; obtain ⟨_, _, ht⟩ := ht)
    simp (disch := first | assumption | omega) only [go_sem, Nat.reduceEqDiff, Nat.reduceAdd, Nat.reduceLeDiff, ↓reduceIte, hs1, hs2]
    refine hm.use ?_
    simp (disch := first | assumption | omega) only [go_sem, Nat.reduceEqDiff, ↓reduceIte]
    refine allocC_by fun u hu => ?_
    repeat (with_reducible replace hu := set_none hu; obtain ⟨_, _, hu⟩ := hu)
    have htu : t ≠ u := by assumption
    have hsw2 : ∀ (ρ : ASt) (X Y Z : Option Role), ((ρ.set t X).set u Y).set t Z = (ρ.set t Z).set u Y := fun _ _ _ _ => set_mid htu
    simp (disch := first | assumption | omega) only [go_sem, Nat.reduceEqDiff, Nat.reduceAdd, Nat.reduceLeDiff, ↓reduceIte, Bool.true_and, h5, ASt.set_set]
    refine hg.use ?_
    simp (disch := first | assumption | omega) only [go_sem, Nat.reduceEqDiff, Nat.reduceAdd, Nat.reduceLeDiff, ↓reduceIte, Bool.true_and, hsw2]
    exact retC_by (by repeat' (first | exact Drop.refl _ | with_reducible refine Drop.off ?_ (by assumption))) (.refl _) ⟨rfl, rfl⟩
 ·rw [if_neg h5]
  have hm2 := hm2 h5
  cases ok with
  | true =>
    cases ok2 with
    | true =>
      rw [if_pos ⟨rfl, rfl⟩, hav]
      generalize ks.map Nd.av = L at *
      refine a41 (by simp) ?_
      simp (disch := first | assumption | omega) only [go_sem]
      refine boxC_by rfl fun d hd => ?_
      have hcd : c ≠ d := by rintro rfl; rw [hd] at hs1; cases hs1
      have hcd2 : c2 ≠ d := by rintro rfl; rw [hd] at hs2; cases hs2
      simp (disch := first | assumption | omega) only [go_sem]
      refine allocC_by fun t ht => ?_
      have hct : c ≠ t := by rintro rfl; rw [ASt.set_ne hcd, hs1] at ht; cases ht
      have hct2 : c2 ≠ t := by rintro rfl; rw [ASt.set_ne hcd2, hs2] at ht; cases ht
      have ht0 := ht
      repeat (with_reducible replace ht := set_none ht; obtain ⟨_, _, ht⟩ := ht)
      have hdt : d ≠ t := by assumption
      simp (disch := first | assumption | omega) only [go_sem, Nat.reduceEqDiff, Nat.reduceAdd, Nat.reduceLeDiff, ↓reduceIte, hs1, hs2]
      refine hm.use ?_
      simp (disch := first | assumption | omega) only [go_sem, Nat.reduceEqDiff, ↓reduceIte]
      refine allocC_by fun u hu => ?_
      have hcu : c ≠ u := by rintro rfl; rw [ASt.set_ne hct, ASt.set_ne hcd, hs1] at hu; cases hu
      have hcu2 : c2 ≠ u := by rintro rfl; rw [ASt.set_ne hct2, ASt.set_ne hcd2, hs2] at hu; cases hu
      repeat (with_reducible replace hu := set_none hu; obtain ⟨_, _, hu⟩ := hu)
      have hdu : d ≠ u := by assumption
      have htu : t ≠ u := by assumption
      simp (disch := first | assumption | omega) only [go_sem, Nat.reduceEqDiff, Nat.reduceAdd, Nat.reduceLeDiff, ↓reduceIte, Bool.true_and, h5, hs1, hs2]
      refine hm2.use ?_
      simp (disch := first | assumption | omega) only [go_sem, Nat.reduceEqDiff, ↓reduceIte]
      refine allocC_by fun w hw => ?_
      repeat (with_reducible replace hw := set_none hw; obtain ⟨_, _, hw⟩ := hw)
      have hdw : d ≠ w := by assumption
      have htw : t ≠ w := by assumption
      have huw : u ≠ w := by assumption
      have hsw : ∀ (ρ : ASt) (X Y Z V W : Option Role), ((((ρ.set d X).set t Y).set u Z).set w V).set d W = (((ρ.set d W).set t Y).set u Z).set w V := fun ρ X Y Z V W => by rw [set_swap (Ne.symm hdw), set_swap (Ne.symm hdu), set_mid hdt]
      have hsw2 : ∀ (ρ : ASt) (X Y Z V : Option Role), (((ρ.set t X).set u Y).set w Z).set t V = ((ρ.set t V).set u Y).set w Z := fun ρ X Y Z V => by rw [set_swap (Ne.symm htw), set_mid htu]
      have hsw3 : ∀ (ρ : ASt) (X Y Z : Option Role), ((ρ.set u X).set w Y).set u Z = (ρ.set u Z).set w Y := fun _ _ _ _ => set_mid huw
      simp (disch := first | assumption | omega) only [go_sem, Nat.reduceEqDiff, Nat.reduceAdd, Nat.reduceLeDiff, ↓reduceIte, Bool.true_and, hsw, hsw2, ASt.set_set]
      exact retC_by (by repeat' (first | exact Drop.refl _ | with_reducible refine Drop.off ?_ (by assumption))) (.refl _) ⟨rfl, rfl⟩
    | false =>
      rw [if_neg (by simp), hga]
      generalize ks.map Nd.av = L at *
      refine a41 (by simp) ?_
      simp (disch := first | assumption | omega) only [go_sem]
      refine boxC_by rfl fun d hd => ?_
      have hcd : c ≠ d := by rintro rfl; rw [hd] at hs1; cases hs1
      have hcd2 : c2 ≠ d := by rintro rfl; rw [hd] at hs2; cases hs2
      simp (disch := first | assumption | omega) only [go_sem]
      refine allocC_by fun t ht => ?_
      have hct : c ≠ t := by rintro rfl; rw [ASt.set_ne hcd, hs1] at ht; cases ht
      have hct2 : c2 ≠ t := by rintro rfl; rw [ASt.set_ne hcd2, hs2] at ht; cases ht
      repeat (with_reducible replace ht := set_none ht; obtain ⟨_, _, ht⟩ := ht)
      simp (disch := first | assumption | omega) only [go_sem, Nat.reduceEqDiff, Nat.reduceAdd, Nat.reduceLeDiff, ↓reduceIte, hs1, hs2]
      refine hm.use ?_
      simp (disch := first | assumption | omega) only [go_sem, Nat.reduceEqDiff, ↓reduceIte]
      refine allocC_by fun u hu => ?_
      have hcu : c ≠ u := by rintro rfl; rw [ASt.set_ne hct, ASt.set_ne hcd, hs1] at hu; cases hu
      have hcu2 : c2 ≠ u := by rintro rfl; rw [ASt.set_ne hct2, ASt.set_ne hcd2, hs2] at hu; cases hu
      repeat (with_reducible replace hu := set_none hu; obtain ⟨_, _, hu⟩ := hu)
      have htu : t ≠ u := by assumption
      simp (disch := first | assumption | omega) only [go_sem, Nat.reduceEqDiff, Nat.reduceAdd, Nat.reduceLeDiff, ↓reduceIte, Bool.true_and, h5, hs1, hs2]
      refine hm2.use ?_
      simp (disch := first | assumption | omega) only [go_sem, Nat.reduceEqDiff, ↓reduceIte]
      refine allocC_by fun w hw => ?_
      repeat (with_reducible replace hw := set_none hw; obtain ⟨_, _, hw⟩ := hw)
      have htw : t ≠ w := by assumption
      have huw : u ≠ w := by assumption
      have hsw2 : ∀ (ρ : ASt) (X Y Z V : Option Role), (((ρ.set t X).set u Y).set w Z).set t V = ((ρ.set t V).set u Y).set w Z := fun ρ X Y Z V => by rw [set_swap (Ne.symm htw), set_mid htu]
      simp (disch := first | assumption | omega) only [go_sem, Nat.reduceEqDiff, Nat.reduceAdd, Nat.reduceLeDiff, ↓reduceIte, Bool.true_and, ASt.set_set]
      refine hg.use ?_
      simp (disch := first | assumption | omega) only [go_sem, Nat.reduceEqDiff, Nat.reduceAdd, Nat.reduceLeDiff, ↓reduceIte, Bool.true_and, hsw2]
      exact retC_by (by repeat' (first | exact Drop.refl _ | with_reducible refine Drop.off ?_ (by assumption))) (.refl _) ⟨rfl, rfl⟩
  | false =>
    rw [if_neg (by simp), hga]
    generalize ks.map Nd.av = L at *
    refine a41 (by simp) ?_
    simp (disch := first | assumption | omega) only [go_sem]
    refine boxC_by rfl fun d hd => ?_
    have hcd : c ≠ d := by rintro rfl; rw [hd] at hs1; cases hs1
    have hcd2 : c2 ≠ d := by rintro rfl; rw [hd] at hs2; cases hs2
    simp (disch := first | assumption | omega) only [go_sem]
    refine allocC_by fun t ht => ?_
    have hct : c ≠ t := by rintro rfl; rw [ASt.set_ne hcd, hs1] at ht; cases ht
    have hct2 : c2 ≠ t := by rintro rfl; rw [ASt.set_ne hcd2, hs2] at ht; cases ht
    repeat (with_reducible replace ht := set_none ht; obtain ⟨_, _, ht⟩ := ht)
    simp (disch := first | assumption | omega) only [go_sem, Nat.reduceEqDiff, Nat.reduceAdd, Nat.reduceLeDiff, ↓reduceIte, hs1, hs2]
    refine hm.use ?_
    simp (disch := first | assumption | omega) only [go_sem, Nat.reduceEqDiff, ↓reduceIte]
    refine allocC_by fun u hu => ?_
    have hcu : c ≠ u := by rintro rfl; rw [ASt.set_ne hct, ASt.set_ne hcd, hs1] at hu; cases hu
    have hcu2 : c2 ≠ u := by rintro rfl; rw [ASt.set_ne hct2, ASt.set_ne hcd2, hs2] at hu; cases hu
    repeat (with_reducible replace hu := set_none hu; obtain ⟨_, _, hu⟩ := hu)
    have htu : t ≠ u := by assumption
    simp (disch := first | assumption | omega) only [go_sem, Nat.reduceEqDiff, Nat.reduceAdd, Nat.reduceLeDiff, ↓reduceIte, Bool.true_and, h5, hs1, hs2]
    refine hm2.use ?_
    simp (disch := first | assumption | omega) only [go_sem, Nat.reduceEqDiff, ↓reduceIte]
    refine allocC_by fun w hw => ?_
    repeat (with_reducible replace hw := set_none hw; obtain ⟨_, _, hw⟩ := hw)
    have htw : t ≠ w := by assumption
    have huw : u ≠ w := by assumption
    have hsw2 : ∀ (ρ : ASt) (X Y Z V : Option Role), (((ρ.set t X).set u Y).set w Z).set t V = ((ρ.set t V).set u Y).set w Z := fun ρ X Y Z V => by rw [set_swap (Ne.symm htw), set_mid htu]
    simp (disch := first | assumption | omega) only [go_sem, Nat.reduceEqDiff, Nat.reduceAdd, Nat.reduceLeDiff, ↓reduceIte, Bool.true_and, ASt.set_set]
    refine hg.use ?_
    simp (disch := first | assumption | omega) only [go_sem, Nat.reduceEqDiff, Nat.reduceAdd, Nat.reduceLeDiff, ↓reduceIte, Bool.true_and, hsw2]
    exact retC_by (by repeat' (first | exact Drop.refl _ | with_reducible refine Drop.off ?_ (by assumption))) (.refl _) ⟨rfl, rfl⟩
theorem copy_map (rows cols : Int) (c c2 : Nat) : MapG Nd.ok (.func (.func 41) [] [.ptr c 0, .ptr c2 0]) (copyN rows cols) (CopAt rows cols c c2) := by
 refine ⟨41, [.ptr c 0, .ptr c2 0], rfl, by kernel_rfl, fun σ b r hσ hb => ⟨?_, ?_⟩, fun x σ hσ hx ho => shCopy1_ok rows cols c c2 x hx ho σ hσ⟩
 ·rw [ASt.set_ne]
  ·exact hσ.1
  ·rintro rfl; rw [hσ.1] at hb; cases hb
 ·rw [ASt.set_ne]
  ·exact hσ.2
  ·rintro rfl; rw [hσ.2] at hb; cases hb
theorem shcopy_ok (n : Nd) (hn : n.ok) (hs : n.size ≤ 1000000000) (rows cols : Int) : Pure Tryz.prog 15 [n.av, .int .i64 rows, .int .i64 cols] (n.copy rows cols).av := by
 intro σ
 have hM := fun c c2 => mapg_le _ (copyN rows cols) (CopAt rows cols c c2) Nd.ok ok_kids (copy_map rows cols c c2) n.size n (Nat.le_refl _) hs hn
 unfold Nd.copy
 obtain ⟨⟨wo, wm, ws, wa, wb, wk⟩, hw⟩ : ∃ w, Nd.map (copyN rows cols) n = w := ⟨_, rfl⟩
 rw [hw, Nd.av_cs]
 simp only [hw, Nd.av_cs] at hM
 obtain ⟨op, m, s, a, b, ks⟩ := n
 have hav : (Nd.mk op m s a b ks).av = .agg [.int .i64 op, .int .i64 m, .str s, .int .i64 a.row, .int .i64 a.col, .bool a.absRow, .bool a.absCol, .int .i64 b.row, .int .i64 b.col, .bool b.absRow, .bool b.absCol, .sl .shr (ks.map Nd.av)] := Nd.av_cs ..
 rw [hav]
 unfold Nd.cs at hM ⊢
 simp only [hav] at hM
 generalize ks.map Nd.av = L at *
 generalize wk.map Nd.av = WL at *
 refine a15 (by simp) ?_
 simp (disch := first | assumption | omega) only [go_sem]
 refine boxC_by rfl fun d hd => ?_
 simp (disch := first | assumption | omega) only [go_sem, Nat.reduceEqDiff, ↓reduceIte]
 refine boxC_by rfl fun c hc => ?_
 have hdc : d ≠ c := by rintro rfl; rw [ASt.set_same] at hc; cases hc
 repeat (with_reducible replace hc := set_none hc; obtain ⟨_, _, hc⟩ := hc)
 simp (disch := first | assumption | omega) only [go_sem, Nat.reduceEqDiff, ↓reduceIte]
 refine boxC_by rfl fun c2 hc2 => ?_
 have hcc : c ≠ c2 := by rintro rfl; rw [ASt.set_same] at hc2; cases hc2
 repeat (with_reducible replace hc2 := set_none hc2; obtain ⟨_, _, hc2⟩ := hc2)
 simp (disch := first | assumption | omega) only [go_sem]
 refine allocC_by fun t ht => ?_
 have hct2 : c2 ≠ t := by rintro rfl; rw [ASt.set_same] at ht; cases ht
 have hct : c ≠ t := by rintro rfl; rw [ASt.set_ne hcc, ASt.set_same] at ht; cases ht
 repeat (with_reducible replace ht := set_none ht; obtain ⟨_, _, ht⟩ := ht)
 simp (disch := first | assumption | omega) only [go_sem, Nat.reduceEqDiff, Nat.reduceAdd, Nat.reduceLeDiff, ↓reduceIte]
 refine (hM c c2 _ ⟨?_, ?_⟩).mono ?_
 ·rw [ASt.set_ne hct, ASt.set_ne hcc, ASt.set_same]
 ·rw [ASt.set_ne hct2, ASt.set_same]
 rintro v σ' ⟨rfl, rfl⟩
 simp (disch := first | assumption | omega) only [go_sem, Nat.reduceEqDiff, Nat.reduceAdd, Nat.reduceLeDiff, ↓reduceIte, Bool.true_and, ASt.set_set]
 exact retC_by (by repeat' (first | exact Drop.refl _ | with_reducible refine Drop.off ?_ (by assumption))) (.refl _) ⟨rfl, rfl⟩
mutual
def Nd.okB : Nd → Bool
 | .mk op n s a b ks => (decide (1 ≤ op ∧ op ≤ 23) && (decide (op ≠ 1) || decide (n.natAbs ≤ 999999999999999999)) && (decide (op ≠ 2) || decide (s.length ≤ 100000)) && (decide (op ≠ 4) || decide (1 ≤ n.tdiv 10000 ∧ n.tdiv 10000 ≤ 7)) && (decide (op ≠ 22) || !s.isEmpty) && (decide (¬ (op = 5 ∨ op = 6)) || a.good) && (decide (op ≠ 6) || b.good) && (decide (¬ (op = 7 ∨ op = 8 ∨ op = 9)) || decide (1 ≤ ks.length)) && (decide (¬ (10 ≤ op ∧ op ≤ 21)) || decide (2 ≤ ks.length)) && decide (ks.length ≤ 1000000)) && Nd.oksB ks
def Nd.oksB : List Nd → Bool
 | [] => true
 | x :: xs => Nd.okB x && Nd.oksB xs
end
mutual
theorem okB_ok : ∀ {n : Nd}, n.okB = true → n.ok
 | .mk op n s a b ks, h => by
   rw [Nd.okB] at h
   simp only [Bool.and_eq_true, Bool.or_eq_true, decide_eq_true_eq, Bool.not_eq_true'] at h
   obtain ⟨⟨⟨⟨⟨⟨⟨⟨⟨⟨h1, h2⟩, h3⟩, h4⟩, h5⟩, h6⟩, h7⟩, h8⟩, h9⟩, h10⟩, h11⟩ := h
   rw [Nd.ok]
   refine ⟨⟨h1, fun h => h2.resolve_left (by omega), fun h => h3.resolve_left (by omega), fun h => h4.resolve_left (by omega), fun h hs => ?_, fun h => h6.resolve_left (fun k => k h), fun h => h7.resolve_left (by omega), fun h => h8.resolve_left (fun k => k h), fun h => h9.resolve_left (fun k => k h), h10⟩, oksB_ok h11⟩
   have := h5.resolve_left (by omega)
   rw [hs] at this
   cases this
theorem oksB_ok : ∀ {l : List Nd}, Nd.oksB l = true → Nd.oks l
 | [], _ => trivial
 | x :: xs, h => by
   rw [Nd.oksB, Bool.and_eq_true] at h
   exact ⟨okB_ok h.1, oksB_ok h.2⟩
end
def edIn : Edt := ⟨false, 1, 1, 2, 0⟩
def edOut : Edt := ⟨false, 2, 1, 1, 0⟩
def edMove : Edt := ⟨false, 3, 0, 1, 2⟩
def awT : List UInt8 := [65, 49, 43, 65, 50, 43, 65, 49, 58, 65, 51]
theorem aw_0 : (parseR awT).2.2 = 0 ∧ (parseR awT).1.size = 5 := by decide +kernel
theorem aw_1 : (parseR awT).1.okB = true := by decide +kernel
theorem aw_2 : (edIn.tree (parseR awT).1).okB = true ∧ (edOut.tree (parseR awT).1).okB = true ∧ (edMove.tree (parseR awT).1).okB = true ∧ ((parseR awT).1.copy 1 1).okB = true := by decide +kernel
theorem aw_3 : (edIn.tree (parseR awT).1).spell = [65, 49, 43, 65, 52, 43, 65, 49, 58, 65, 53] ∧ (edOut.tree (parseR awT).1).spell = [65, 49, 43, 35, 82, 69, 70, 33, 43, 65, 49, 58, 65, 50] ∧
  (edMove.tree (parseR awT).1).spell = [65, 51, 43, 65, 49, 43, 65, 50, 58, 65, 51] ∧ ((parseR awT).1.copy 1 1).spell = [66, 50, 43, 66, 51, 43, 66, 50, 58, 66, 52] := by decide +kernel
end Go.A
namespace Go.A
open Go.Proofs
/-! 12: tabular/tabularlaw14.awake -/
def c12_11 : ACode := .seq (.ops [ oq 0 (.mv (.v (.bool false)))]) (.seq (.ops [ oe 8 (.call 7 [(.v (.str [65, 49, 43, 65, 50, 43, 65, 49, 58, 65, 51]))]), oq 7 (.mv (.t 8)), oq 9 (.ext 0 (.t 7)), oq 10 (.ext 1 (.t 7)), oq 11 (.ext 2 (.t 7)), oe 1 (.alloc [(.int .i64 0), (.int .i64 0), (.str []), (.int .i64 0), (.int .i64 0), (.bool false), (.bool false), (.int .i64 0), (.int .i64 0), (.bool false), (.bool false), (.sl .full [])]), oz (.store 12 (.t 1) (.t 9)), oq 2 (.mv (.t 10)), oq 3 (.mv (.t 11))]) (.seq (.ops [ oq 12 (.build [(.bool false), (.int .i64 0), (.int .i64 0), (.int .i64 0), (.int .i64 0)] [(1, 1, (.v (.int .i64 1))), (2, 1, (.v (.int .i64 1))), (3, 1, (.v (.int .i64 2)))]), oe 4 (.alloc [(.bool false), (.int .i64 0), (.int .i64 0), (.int .i64 0), (.int .i64 0)]), oz (.store 5 (.t 4) (.t 12))]) (.seq (.ops [ oq 13 (.build [(.bool false), (.int .i64 0), (.int .i64 0), (.int .i64 0), (.int .i64 0)] [(1, 1, (.v (.int .i64 2))), (2, 1, (.v (.int .i64 1))), (3, 1, (.v (.int .i64 1)))]), oe 5 (.alloc [(.bool false), (.int .i64 0), (.int .i64 0), (.int .i64 0), (.int .i64 0)]), oz (.store 5 (.t 5) (.t 13))]) (.seq (.ops [ oq 14 (.build [(.bool false), (.int .i64 0), (.int .i64 0), (.int .i64 0), (.int .i64 0)] [(1, 1, (.v (.int .i64 3))), (2, 1, (.v (.int .i64 0))), (3, 1, (.v (.int .i64 1))), (4, 1, (.v (.int .i64 2)))]), oe 6 (.alloc [(.bool false), (.int .i64 0), (.int .i64 0), (.int .i64 0), (.int .i64 0)]), oz (.store 5 (.t 6) (.t 14))]) (.seq (.ops [ oq 15 (.mv (.t 3)), oq 16 (.bin .eql (.t 15) (.v (.int .i64 0))), oq 17 (.mv (.t 16)), ⟨some 18, some (17, true), .q (.ld (some 5) (.t 4)), []⟩, ⟨some 19, some (17, true), .q (.ld (some 12) (.t 1)), []⟩, ⟨some 20, some (17, true), .e (.call 11 [(.t 18), (.t 19)]), []⟩, ⟨some 21, some (17, true), .e (.call 21 [(.t 20)]), []⟩, ⟨some 22, some (17, true), .q (.bin .eql (.t 21) (.v (.str [65, 49, 43, 65, 52, 43, 65, 49, 58, 65, 53]))), []⟩, oq 23 (.pick (.t 17) (.t 22) (.v (.bool false))), oq 24 (.mv (.t 23)), ⟨some 25, some (24, true), .q (.ld (some 5) (.t 5)), []⟩, ⟨some 26, some (24, true), .q (.ld (some 12) (.t 1)), []⟩, ⟨some 27, some (24, true), .e (.call 11 [(.t 25), (.t 26)]), []⟩, ⟨some 28, some (24, true), .e (.call 21 [(.t 27)]), []⟩, ⟨some 29, some (24, true), .q (.bin .eql (.t 28) (.v (.str [65, 49, 43, 35, 82, 69, 70, 33, 43, 65, 49, 58, 65, 50]))), []⟩, oq 30 (.pick (.t 24) (.t 29) (.v (.bool false))), oq 31 (.mv (.t 30)), ⟨some 32, some (31, true), .q (.ld (some 5) (.t 6)), []⟩, ⟨some 33, some (31, true), .q (.ld (some 12) (.t 1)), []⟩, ⟨some 34, some (31, true), .e (.call 11 [(.t 32), (.t 33)]), []⟩, ⟨some 35, some (31, true), .e (.call 21 [(.t 34)]), []⟩, ⟨some 36, some (31, true), .q (.bin .eql (.t 35) (.v (.str [65, 51, 43, 65, 49, 43, 65, 50, 58, 65, 51]))), []⟩, oq 37 (.pick (.t 31) (.t 36) (.v (.bool false))), oq 38 (.mv (.t 37)), ⟨some 39, some (38, true), .q (.ld (some 12) (.t 1)), []⟩, ⟨some 40, some (38, true), .e (.call 15 [(.t 39), (.v (.int .i64 1)), (.v (.int .i64 1))]), []⟩, ⟨some 41, some (38, true), .e (.call 21 [(.t 40)]), []⟩, ⟨some 42, some (38, true), .q (.bin .eql (.t 41) (.v (.str [66, 50, 43, 66, 51, 43, 66, 50, 58, 66, 52]))), []⟩, oq 43 (.pick (.t 38) (.t 42) (.v (.bool false))), oq 0 (.mv (.t 43))]) .ret)))))
@[go_sem] def c12_11_wp := wp_of c12_11.eq_1
def c12 : AFn := ⟨44, [.t 0], c12_11⟩
theorem c12_ok : compF Tryz.prog Tryz.f12 = some c12 := by kernel_rfl
theorem a12 {args : List AV} {σ : ASt} {R : AV → ASt → Prop} (hl : args.length ≤ 44) (h : c12_11.wp Tryz.prog (RetQ [.t 0] R) (init args) σ) : ACalls Tryz.prog 12 args σ R := acalls_of Tryz.func12 c12_ok hl h
end Go.A
namespace Go.A
open Go.Proofs Go.Lib
theorem LV.set {σ : ASt} {b : Nat} {r : Option Role} (h : LV σ) (hb : σ b = none) : LV (σ.set b r) := by
 unfold LV at h ⊢
 rw [ASt.set_ne]
 ·exact h
 ·intro e; rw [e, hb] at h; cases h
theorem shawake_ok {σ : ASt} (hT : Tab σ) (hM : MaxL σ) (hU : U8 σ) (hV : LV σ) : ACalls Tryz.prog 12 [] σ fun v σ' => v = .bool true ∧ σ' = σ := by
 have hP := parseR_ok hU hV [65, 49, 43, 65, 50, 43, 65, 49, 58, 65, 51] (by decide)
 obtain ⟨f0, f1⟩ := aw_0
 have f2 := aw_1
 obtain ⟨f3, f4, f5, f6⟩ := aw_2
 obtain ⟨g3, g4, g5, g6⟩ := aw_3
 unfold awT at f0 f1 f2 f3 f4 f5 f6 g3 g4 g5 g6
 obtain ⟨⟨n, k, er⟩, hR⟩ : ∃ R, parseR [65, 49, 43, 65, 50, 43, 65, 49, 58, 65, 51] = R := ⟨_, rfl⟩
 rw [hR] at hP f0 f1 f2 f3 f4 f5 f6 g3 g4 g5 g6
 dsimp only at hP f0 f1 f2 f3 f4 f5 f6 g3 g4 g5 g6
 subst f0
 have hn := okB_ok f2
 have t1 : Pure Tryz.prog 11 [.agg [.bool false, .int .i64 1, .int .i64 1, .int .i64 2, .int .i64 0], n.av] (edIn.tree n).av := shtree_ok edIn ⟨by decide, by decide, by decide, by decide, fun h => absurd rfl h⟩ n hn (by omega)
 have t2 : Pure Tryz.prog 11 [.agg [.bool false, .int .i64 2, .int .i64 1, .int .i64 1, .int .i64 0], n.av] (edOut.tree n).av := shtree_ok edOut ⟨by decide, by decide, by decide, by decide, fun _ h => absurd rfl h⟩ n hn (by omega)
 have t3 : Pure Tryz.prog 11 [.agg [.bool false, .int .i64 3, .int .i64 0, .int .i64 1, .int .i64 2], n.av] (edMove.tree n).av := shtree_ok edMove ⟨by decide, by decide, by decide, by decide, fun _ _ => by decide⟩ n hn (by omega)
 have t4 := shcopy_ok n hn (by omega) 1 1
 have p1 := fun (τ : ASt) (hT : Tab τ) (hM : MaxL τ) => print_ok hT hM (edIn.tree n) (okB_ok f3) (by rw [g3]; decide)
 have p2 := fun (τ : ASt) (hT : Tab τ) (hM : MaxL τ) => print_ok hT hM (edOut.tree n) (okB_ok f4) (by rw [g4]; decide)
 have p3 := fun (τ : ASt) (hT : Tab τ) (hM : MaxL τ) => print_ok hT hM (edMove.tree n) (okB_ok f5) (by rw [g5]; decide)
 have p4 := fun (τ : ASt) (hT : Tab τ) (hM : MaxL τ) => print_ok hT hM (n.copy 1 1) (okB_ok f6) (by rw [g6]; decide)
 simp only [g3] at p1
 simp only [g4] at p2
 simp only [g5] at p3
 simp only [g6] at p4
 clear f1 f2 f3 f4 f5 f6 g3 g4 g5 g6 hR
 generalize (edIn.tree n).av = T1 at *
 generalize (edOut.tree n).av = T2 at *
 generalize (edMove.tree n).av = T3 at *
 generalize (n.copy 1 1).av = T4 at *
 obtain ⟨op, m, s, a, b, ks⟩ := n
 have hav : (Nd.mk op m s a b ks).av = .agg [.int .i64 op, .int .i64 m, .str s, .int .i64 a.row, .int .i64 a.col, .bool a.absRow, .bool a.absCol, .int .i64 b.row, .int .i64 b.col, .bool b.absRow, .bool b.absCol, .sl .shr (ks.map Nd.av)] := Nd.av_cs ..
 rw [hav] at hP t1 t2 t3 t4
 generalize ks.map Nd.av = L at *
 refine a12 (by simp) ?_
 simp (disch := first | assumption | omega) only [go_sem]
 refine hP.mono ?_
 rintro v σ' ⟨rfl, rfl⟩
 simp (disch := first | assumption | omega) only [go_sem, Nat.reduceEqDiff, ↓reduceIte]
 refine allocC_by fun b1 h1 => ?_
 have T1' := Tab.set (r := some (.obj [.int .i64 op, .int .i64 m, .str s, .int .i64 a.row, .int .i64 a.col, .bool a.absRow, .bool a.absCol, .int .i64 b.row, .int .i64 b.col, .bool b.absRow, .bool b.absCol, .sl .shr L])) hT h1
 have M1' := MaxL.set (r := some (.obj [.int .i64 op, .int .i64 m, .str s, .int .i64 a.row, .int .i64 a.col, .bool a.absRow, .bool a.absCol, .int .i64 b.row, .int .i64 b.col, .bool b.absRow, .bool b.absCol, .sl .shr L])) hM h1
 simp (disch := first | assumption | omega) only [go_sem, Nat.reduceEqDiff, Nat.reduceAdd, Nat.reduceLeDiff, ↓reduceIte, Bool.true_and, ASt.set_set]
 refine allocC_by fun b2 h2 => ?_
 have h20 : (σ'.set b1 (some (.obj [.int .i64 op, .int .i64 m, .str s, .int .i64 a.row, .int .i64 a.col, .bool a.absRow, .bool a.absCol, .int .i64 b.row, .int .i64 b.col, .bool b.absRow, .bool b.absCol, .sl .shr L]))) b2 = none := h2
 have T2' := Tab.set (r := some (.obj [.bool false, .int .i64 1, .int .i64 1, .int .i64 2, .int .i64 0])) T1' h20
 have M2' := MaxL.set (r := some (.obj [.bool false, .int .i64 1, .int .i64 1, .int .i64 2, .int .i64 0])) M1' h20
 repeat (with_reducible replace h2 := set_none h2; obtain ⟨_, _, h2⟩ := h2)
 simp (disch := first | assumption | omega) only [go_sem, Nat.reduceEqDiff, Nat.reduceAdd, Nat.reduceLeDiff, ↓reduceIte, Bool.true_and, ASt.set_set]
 refine allocC_by fun b3 h3 => ?_
 have h30 := h3
 have T3' := Tab.set (r := some (.obj [.bool false, .int .i64 2, .int .i64 1, .int .i64 1, .int .i64 0])) T2' h30
 have M3' := MaxL.set (r := some (.obj [.bool false, .int .i64 2, .int .i64 1, .int .i64 1, .int .i64 0])) M2' h30
 repeat (with_reducible replace h3 := set_none h3; obtain ⟨_, _, h3⟩ := h3)
 simp (disch := first | assumption | omega) only [go_sem, Nat.reduceEqDiff, Nat.reduceAdd, Nat.reduceLeDiff, ↓reduceIte, Bool.true_and, ASt.set_set]
 refine allocC_by fun b4 h4 => ?_
 have h40 := h4
 have T4' := Tab.set (r := some (.obj [.bool false, .int .i64 3, .int .i64 0, .int .i64 1, .int .i64 2])) T3' h40
 have M4' := MaxL.set (r := some (.obj [.bool false, .int .i64 3, .int .i64 0, .int .i64 1, .int .i64 2])) M3' h40
 repeat (with_reducible replace h4 := set_none h4; obtain ⟨_, _, h4⟩ := h4)
 simp (disch := first | assumption | omega) only [go_sem, Nat.reduceEqDiff, Nat.reduceAdd, Nat.reduceLeDiff, ↓reduceIte, Bool.true_and, ASt.set_set, eq_self]
 refine t1.use ?_
 simp (disch := first | assumption | omega) only [go_sem, Nat.reduceEqDiff, ↓reduceIte, eq_self]
 refine (p1 _ T4' M4').mono ?_
 rintro v τ ⟨rfl, rfl⟩
 simp (disch := first | assumption | omega) only [go_sem, Nat.reduceEqDiff, Nat.reduceAdd, Nat.reduceLeDiff, ↓reduceIte, eq_self]
 refine t2.use ?_
 simp (disch := first | assumption | omega) only [go_sem, Nat.reduceEqDiff, ↓reduceIte, eq_self]
 refine (p2 _ T4' M4').mono ?_
 rintro v τ ⟨rfl, rfl⟩
 simp (disch := first | assumption | omega) only [go_sem, Nat.reduceEqDiff, Nat.reduceAdd, Nat.reduceLeDiff, ↓reduceIte, eq_self]
 refine t3.use ?_
 simp (disch := first | assumption | omega) only [go_sem, Nat.reduceEqDiff, ↓reduceIte, eq_self]
 refine (p3 _ T4' M4').mono ?_
 rintro v τ ⟨rfl, rfl⟩
 simp (disch := first | assumption | omega) only [go_sem, Nat.reduceEqDiff, Nat.reduceAdd, Nat.reduceLeDiff, ↓reduceIte, eq_self]
 refine t4.use ?_
 simp (disch := first | assumption | omega) only [go_sem, Nat.reduceEqDiff, ↓reduceIte, eq_self]
 refine (p4 _ T4' M4').mono ?_
 rintro v τ ⟨rfl, rfl⟩
 simp (disch := first | assumption | omega) only [go_sem, Nat.reduceEqDiff, ↓reduceIte, eq_self]
 exact retC_by (by repeat' (first | exact Drop.refl _ | with_reducible refine Drop.off ?_ (by assumption))) (.refl _) ⟨rfl, rfl⟩
end Go.A
namespace Go.A
open Go.Proofs Go.Lib
theorem decode_whole {r : List UInt8} {c w : Nat} (hr : r ≠ []) (hd : decodeL r = (c, w)) (hv : (c, w) ≠ (65533, 1)) (t : List UInt8) : decodeL (r.take w ++ t) = (c, w) := by
 have hpos := List.length_pos_iff.2 hr
 rw [decodeL_N] at hd ⊢
 have k0 := (r.getD 0 0).toNat_lt
 have k1 := (r.getD 1 0).toNat_lt
 rcases decodeN_shape r.length (r.getD 0 0).toNat (r.getD 1 0).toNat (r.getD 2 0).toNat (r.getD 3 0).toNat with ⟨c1, e⟩ | ⟨c1, c2, c3, cv, e⟩ | ⟨c1, c2, c3, c4, cv, cs, e⟩ | ⟨c1, c2, c3, c4, c5, cv, cw, e⟩ | e
 ·rw [e] at hd
  injection hd with h1 h2
  subst h1 h2
  rw [takeA r hpos]
  generalize r.getD 0 0 = b0 at *
  have e0 : (([b0] ++ t).getD 0 0) = b0 := rfl
  rw [e0]
  unfold decodeN
  rw [if_pos c1]
 ·rw [e] at hd
  injection hd with h1 h2
  subst h1 h2
  rw [takeB r c2]
  generalize r.getD 0 0 = b0 at *
  generalize r.getD 1 0 = b1 at *
  have e0 : (([b0, b1] ++ t).getD 0 0) = b0 := rfl
  have e1 : (([b0, b1] ++ t).getD 1 0) = b1 := rfl
  have el : 1 < ([b0, b1] ++ t).length := by simp
  rw [e0, e1]
  unfold decodeN
  rw [if_neg (by omega), if_pos ⟨c1, el, c3⟩, if_pos (by omega)]
 ·rw [e] at hd
  injection hd with h1 h2
  subst h1 h2
  rw [takeC r c2]
  generalize r.getD 0 0 = b0 at *
  generalize r.getD 1 0 = b1 at *
  generalize r.getD 2 0 = b2 at *
  have e0 : (([b0, b1, b2] ++ t).getD 0 0) = b0 := rfl
  have e1 : (([b0, b1, b2] ++ t).getD 1 0) = b1 := rfl
  have e2 : (([b0, b1, b2] ++ t).getD 2 0) = b2 := rfl
  have el : 2 < ([b0, b1, b2] ++ t).length := by simp
  rw [e0, e1, e2]
  unfold decodeN
  rw [if_neg (by omega), if_neg (by omega), if_pos ⟨c1, ⟨by omega, c3⟩, el, c4⟩, if_pos (by omega)]
 ·rw [e] at hd
  injection hd with h1 h2
  subst h1 h2
  rw [takeD r c2]
  generalize r.getD 0 0 = b0 at *
  generalize r.getD 1 0 = b1 at *
  generalize r.getD 2 0 = b2 at *
  generalize r.getD 3 0 = b3 at *
  have e0 : (([b0, b1, b2, b3] ++ t).getD 0 0) = b0 := rfl
  have e1 : (([b0, b1, b2, b3] ++ t).getD 1 0) = b1 := rfl
  have e2 : (([b0, b1, b2, b3] ++ t).getD 2 0) = b2 := rfl
  have e3 : (([b0, b1, b2, b3] ++ t).getD 3 0) = b3 := rfl
  have el : 3 < ([b0, b1, b2, b3] ++ t).length := by simp
  rw [e0, e1, e2, e3]
  unfold decodeN
  rw [if_neg (by omega), if_neg (by omega), if_neg (by omega), if_pos ⟨c1, ⟨by omega, c3⟩, ⟨by omega, c4⟩, el, c5⟩, if_pos (by omega)]
 ·rw [e] at hd
  exact absurd hd.symm hv
end Go.A
namespace Go.A
open Go.Proofs Go.Lib
theorem sgF_fuel : ∀ (k k' : Nat) (r : List UInt8), r.length < k → r.length < k' → sgF k r = sgF k' r
 | 0, _, r, h, _ => by omega
 | _ + 1, 0, r, _, h => by omega
 | k + 1, k' + 1, r, h, h' => by
   unfold sgF
   by_cases hr : r = []
   ·rw [if_pos hr, if_pos hr]
   have hpos := List.length_pos_iff.2 hr
   have hw := decodeL_width r
   rw [if_neg hr, if_neg hr, sgF_fuel k k' _ (by rw [List.length_drop]; omega) (by rw [List.length_drop]; omega)]
def sgP (r : List UInt8) : Option Nat := sgF (r.length + 1) r
theorem sgP_nil : sgP [] = some 0 := rfl
theorem sgP_step {r : List UInt8} (hr : r ≠ []) : sgP r = if decodeL r = (65533, 1) then none else (sgP (r.drop (decodeL r).2)).map (· + 1) := by
 have hpos := List.length_pos_iff.2 hr
 have hw := decodeL_width r
 conv => lhs; unfold sgP sgF
 unfold sgP
 rw [if_neg hr, sgF_fuel r.length ((r.drop (decodeL r).2).length + 1) _ (by rw [List.length_drop]; omega) (by omega)]
def cnt : Nat → List UInt8 → Nat
 | 0, _ => 0
 | k + 1, r => if r = [] then 0 else 1 + cnt k (r.drop (decodeL r).2)
theorem runeCount_cnt (l : List UInt8) : ∀ (k pos : Nat), runeCountFrom ⟨⟨l⟩⟩ k pos = cnt k (l.drop pos)
 | 0, _ => rfl
 | k + 1, pos => by
   unfold runeCountFrom cnt
   have e : (⟨⟨l⟩⟩ : ByteArray).size = l.length := rfl
   rw [e]
   by_cases h : pos < l.length
   ·have hne : l.drop pos ≠ [] := by
     intro h2
     have := congrArg List.length h2
     simp at this
     omega
    have hd := decodeL_drop ⟨⟨l⟩⟩ pos
    have hd : decodeL (l.drop pos) = Utf8.decode ⟨⟨l⟩⟩ pos := hd
    rw [if_pos h, if_neg hne, runeCount_cnt l k, hd, List.drop_drop]
   ·rw [if_neg h, if_pos (List.drop_eq_nil_of_le (by omega))]
theorem cnt_fuel : ∀ (k k' : Nat) (r : List UInt8), r.length ≤ k → r.length ≤ k' → cnt k r = cnt k' r
 | 0, k', r, h, _ => by
   have : r = [] := List.eq_nil_of_length_eq_zero (by omega)
   subst this
   cases k' <;> simp [cnt]
 | k + 1, 0, r, _, h => by
   have : r = [] := List.eq_nil_of_length_eq_zero (by omega)
   subst this
   simp [cnt]
 | k + 1, k' + 1, r, h, h' => by
   unfold cnt
   by_cases hr : r = []
   ·rw [if_pos hr, if_pos hr]
   have hpos := List.length_pos_iff.2 hr
   have hw := decodeL_width r
   rw [if_neg hr, if_neg hr, cnt_fuel k k' _ (by rw [List.length_drop]; omega) (by rw [List.length_drop]; omega)]
theorem signsN_step {r : List UInt8} (hr : r ≠ []) : signsN r = 1 + signsN (r.drop (decodeL r).2) := by
 have hpos := List.length_pos_iff.2 hr
 have hw := decodeL_width r
 unfold signsN runeCount
 rw [runeCount_cnt, runeCount_cnt, List.drop_zero, List.drop_zero]
 have e1 : (⟨⟨r⟩⟩ : ByteArray).size = r.length := rfl
 have e2 : (⟨⟨r.drop (decodeL r).2⟩⟩ : ByteArray).size = (r.drop (decodeL r).2).length := rfl
 rw [e1, e2]
 obtain ⟨k, hk⟩ : ∃ k, r.length = k + 1 := ⟨r.length - 1, by omega⟩
 rw [hk, cnt, if_neg hr]
 rw [cnt_fuel k _ _ (by rw [List.length_drop]; omega) (Nat.le_refl _)]
inductive Sg : List UInt8 → Nat → Prop
 | nil : Sg [] 0
 | cons {y z : List UInt8} {c n : Nat} : y ≠ [] → (∀ t, decodeL (y ++ t) = (c, y.length)) → (c, y.length) ≠ (65533, 1) → Sg z n → Sg (y ++ z) (n + 1)
theorem Sg.app {x : List UInt8} {n : Nat} (h : Sg x n) (t : List UInt8) : sgP (x ++ t) = (sgP t).map (· + n) ∧ signsN (x ++ t) = n + signsN t := by
 induction h with
 | nil => simp
 | cons h1 h2 h3 _ ih =>
   rename_i y z c n _
   obtain ⟨i1, i2⟩ := ih
   have hne : (y ++ z) ++ t ≠ [] := by simp [h1]
   have hd : decodeL ((y ++ z) ++ t) = (c, y.length) := by rw [List.append_assoc]; exact h2 _
   have hdr : ((y ++ z) ++ t).drop y.length = z ++ t := by rw [List.append_assoc, List.drop_left]
   rw [sgP_step hne, hd, if_neg h3, hdr, i1, signsN_step hne, hd, hdr, i2]
   refine ⟨?_, by omega⟩
   cases sgP t <;> simp [Nat.add_assoc]
theorem Sg.join {x z : List UInt8} {n m : Nat} (h : Sg x n) (k : Sg z m) : Sg (x ++ z) (n + m) := by
 induction h with
 | nil => simpa using k
 | cons h1 h2 h3 _ ih =>
   rw [List.append_assoc, Nat.add_right_comm]
   exact .cons h1 h2 h3 ih
theorem Sg.ascii : ∀ x : List UInt8, (∀ c ∈ x, c.toNat < 128) → Sg x x.length
 | [], _ => .nil
 | c :: x, h => by
   have hc := h c (by simp)
   exact .cons (y := [c]) (by simp) (fun t => dec_one c t hc) (by rw [ne_eq, Prod.mk.injEq]; omega) (Sg.ascii x fun d hd => h d (by simp [hd]))
theorem Sg.one {r : List UInt8} (hr : r ≠ []) (hv : decodeL r ≠ (65533, 1)) : Sg (r.take (decodeL r).2) 1 := by
 have hle := decodeL_le r hr
 have hw := decodeL_width r
 have hl : (r.take (decodeL r).2).length = (decodeL r).2 := List.length_take_of_le hle
 have := Sg.cons (y := r.take (decodeL r).2) (z := []) (c := (decodeL r).1) (n := 0) (by
  intro h
  rw [h] at hl
  simp at hl
  omega) (fun t => by rw [hl]; exact decode_whole hr rfl hv t) (by rw [hl]; exact hv) .nil
 simpa using this
theorem runL_all2 (p : UInt8 → Bool) : ∀ l : List UInt8, ∀ c ∈ l.take (runL p l), p c = true
 | [], c, h => by simp [runL] at h
 | x :: l, c, h => by
   unfold runL at h
   split at h
   ·rename_i hx
    rw [List.take_succ_cons, List.mem_cons] at h
    rcases h with rfl | h
    ·exact hx
    ·exact runL_all2 p l c h
   ·simp at h
end Go.A
namespace Go.A
open Go.Proofs Go.Lib
/-! Single steps. -/
/-! Words. -/
structure NameOk (w : List UInt8) : Prop where
 word : ∀ c ∈ w, wordB c = true
 name : nameB w = true
 num : numB w = false
 ref : refB w = false
 great : greatP w = w
/-! Numbers. -/
/-! References. -/
/-! Errors. -/
/-! Texts between quotes. -/
end Go.A
namespace Go.A
open Go.Proofs Go.Lib
inductive Nf : Nd → Prop
 | num {n : Int} : 0 ≤ n → n ≤ 999999999999999999 → Nf (.mk 1 n [] .zero .zero [])
 | text {s : List UInt8} : sgP s ≠ none → s.length ≤ 8100 → Nf (.mk 2 0 s .zero .zero [])
 | truth {b : Int} : b = 0 ∨ b = 1 → Nf (.mk 3 b [] .zero .zero [])
 | fail {k : Nat} : k < 7 → Nf (.mk 4 (((k : Int) + 1) * 10000) [] .zero .zero [])
 | cell {r : Ref} : r.good = true → Nf (.mk 5 0 [] r .zero [])
 | area {r q : Ref} : r.good = true → q.good = true → Nf (.mk 6 0 [] r q [])
 | sign {op : Int} {x : Nd} : op = 7 ∨ op = 8 → Nf x → x.op ≠ 23 → Nf (.mk op 0 [] .zero .zero [x])
 | hund {x : Nd} : Nf x → x.op ≠ 23 → Nf (.mk 9 0 [] .zero .zero [x])
 | bin {i : Nat} {x y : Nd} : i < 12 → Nf x → x.op ≠ 23 → Nf y → y.op ≠ 23 → Nf (.mk (10 + (i : Int)) 0 [] .zero .zero [x, y])
 | call {s : List UInt8} {ks : List Nd} : NameOk s → s.length ≤ 8100 → (∀ k ∈ ks, Nf k) → (∀ k, ks = [k] → k.op ≠ 23) → Nf (.mk 22 0 s .zero .zero ks)
 | miss : Nf (.mk 23 0 [] .zero .zero [])
def insD (least op : Int) (d : Nat) : Nat := if least ≤ levelP op then d else d + 1
def nestK (op : Int) (ks : List (Int × Nat)) : Nat :=
 if op = 7 ∨ op = 8 then 1 + insD 6 (ks.getD 0 (0, 0)).1 (ks.getD 0 (0, 0)).2
 else if op = 9 then insD 7 (ks.getD 0 (0, 0)).1 (ks.getD 0 (0, 0)).2
 else if op = 22 then 1 + (ks.map (·.2)).foldr max 0
 else if 10 ≤ op ∧ op ≤ 21 then max (insD (levelP op) (ks.getD 0 (0, 0)).1 (ks.getD 0 (0, 0)).2) (insD (levelP op + 1) (ks.getD 1 (0, 0)).1 (ks.getD 1 (0, 0)).2) else 0
mutual
def Nd.nest : Nd → Nat
 | .mk op _ _ _ _ kids => nestK op (Nd.nests kids)
def Nd.nests : List Nd → List (Int × Nat)
 | [] => []
 | x :: xs => (x.op, x.nest) :: Nd.nests xs
end
theorem Nd.nests_map : ∀ l : List Nd, Nd.nests l = l.map fun x => (x.op, x.nest)
 | [] => rfl
 | x :: xs => by rw [Nd.nests, Nd.nests_map xs]; rfl
theorem lev_bin (i : Nat) (h : i < 12) : 1 ≤ levelP (10 + (i : Int)) ∧ levelP (10 + (i : Int)) ≤ 5 := by
 unfold levelP
 rw [if_neg (by omega), if_neg (by omega), if_neg (by omega)]
 repeat' split
 all_goals decide
theorem spell_bin {i : Nat} (h : i < 12) (x y : Nd) : (Nd.mk (10 + (i : Int)) 0 [] .zero .zero [x, y]).spell = insT (levelP (10 + i)) x.op x.spell ++ signL.getD i [] ++ insT (levelP (10 + i) + 1) y.op y.spell := by
 rw [Nd.spell, Nd.spells, Nd.spells, Nd.spells, spellK]
 rw [if_neg (by omega), if_neg (by omega), if_neg (by omega), if_neg (by omega), if_neg (by omega), if_neg (by omega), if_neg (by omega), if_neg (by omega), if_neg (by omega), if_neg (by omega), show (10 + (i : Int) - 10).toNat = i by omega]
 rfl
theorem nest_bin {i : Nat} (h : i < 12) (x y : Nd) : (Nd.mk (10 + (i : Int)) 0 [] .zero .zero [x, y]).nest = max (insD (levelP (10 + i)) x.op x.nest) (insD (levelP (10 + i) + 1) y.op y.nest) := by
 rw [Nd.nest, Nd.nests, Nd.nests, Nd.nests, nestK]
 rw [if_neg (by omega), if_neg (by omega), if_neg (by omega), if_pos (by omega)]
 rfl
theorem nest_sign {op : Int} (h : op = 7 ∨ op = 8) (x : Nd) : (Nd.mk op 0 [] .zero .zero [x]).nest = 1 + insD 6 x.op x.nest := by
 rcases h with rfl | rfl <;> rfl
theorem nest_hund (x : Nd) : (Nd.mk 9 0 [] .zero .zero [x]).nest = insD 7 x.op x.nest := rfl
theorem nest_call (s : List UInt8) (ks : List Nd) : (Nd.mk 22 0 s .zero .zero ks).nest = 1 + (ks.map Nd.nest).foldr max 0 := by
 rw [Nd.nest, Nd.nests_map]
 show 1 + ((ks.map fun x => (x.op, x.nest)).map (·.2)).foldr max 0 = _
 rw [List.map_map]
 rfl
end Go.A
namespace Go.A
open Go.Proofs Go.Lib
/-! Such texts' tokens. -/
end Go.A
namespace Go.A
open Go.Proofs Go.Lib
section
variable {T : List Tok}
variable (T)
variable {T}
/-! A kid, in brackets if it binds less closely. -/
/-! Leaves. -/
/-! Nodes with kids. -/
/-! Calls. -/
end
end Go.A
namespace Go.A
open Go.Proofs Go.Lib
/-! Great letters. -/
theorem byte_all {P : UInt8 → Prop} [∀ c, Decidable (P c)] (h : (List.range 256).all (fun n => decide (P (UInt8.ofNat n))) = true) (c : UInt8) : P c := by
 have := List.all_eq_true.1 h c.toNat (List.mem_range.2 c.toNat_lt)
 simpa using this
theorem gr_letter (c : UInt8) : letterP (greatC c).toNat = letterP c.toNat := byte_all (P := fun c => letterP (greatC c).toNat = letterP c.toNat) (by decide +kernel) c
theorem gr_isL (c : UInt8) : isL (greatC c) = isL c := byte_all (P := fun c => isL (greatC c) = isL c) (by decide +kernel) c
theorem gr_isD (c : UInt8) : isD (greatC c) = isD c ∧ (isD c = true → greatC c = c) := byte_all (P := fun c => isD (greatC c) = isD c ∧ (isD c = true → greatC c = c)) (by decide +kernel) c
theorem gr_sign (c : UInt8) : ((greatC c).toNat = 48 ↔ c.toNat = 48) ∧ ((greatC c).toNat = 36 ↔ c.toNat = 36) ∧ ((greatC c).toNat = 46 ↔ c.toNat = 46) ∧ (((greatC c).toNat : Int) = 95 ↔ (c.toNat : Int) = 95) := byte_all (P := fun c => ((greatC c).toNat = 48 ↔ c.toNat = 48) ∧ ((greatC c).toNat = 36 ↔ c.toNat = 36) ∧ ((greatC c).toNat = 46 ↔ c.toNat = 46) ∧ (((greatC c).toNat : Int) = 95 ↔ (c.toNat : Int) = 95)) (by decide +kernel) c
theorem gr_word (c : UInt8) : wordB (greatC c) = wordB c ∧ digB (greatC c) = digB c ∧ greatC (greatC c) = greatC c := byte_all (P := fun c => wordB (greatC c) = wordB c ∧ digB (greatC c) = digB c ∧ greatC (greatC c) = greatC c) (by decide +kernel) c
theorem great_idem (l : List UInt8) : greatP (greatP l) = greatP l := by
 unfold greatP
 rw [List.map_map]
 exact List.map_congr_left fun c _ => (gr_word c).2.2
theorem runL_great (p : UInt8 → Bool) (hp : ∀ c, p (greatC c) = p c) : ∀ l, runL p (greatP l) = runL p l
 | [] => rfl
 | c :: l => by
   show runL p (greatC c :: greatP l) = _
   rw [runL, runL, hp, runL_great p hp l]
theorem numF_great : ∀ (l : List UInt8) (n : Int), numF n (greatP l) = numF n l
 | [], n => rfl
 | c :: l, n => by
   show numF n (greatC c :: greatP l) = _
   rw [numF, numF, (gr_isD c).1]
   by_cases h : isD c = true
   ·rw [if_pos h, if_pos h, (gr_isD c).2 h, numF_great l]
   ·rw [if_neg h, if_neg h]
theorem atP_great (l : List UInt8) (i : Nat) : (atP (greatP l) i = 48 ↔ atP l i = 48) ∧ (atP (greatP l) i = 36 ↔ atP l i = 36) ∧ (atP (greatP l) i = 95 ↔ atP l i = 95) ∧ letterP (atP (greatP l) i) = letterP (atP l i) := by
 unfold atP greatP
 rw [List.getElem?_map]
 cases l[i]? with
 | none => exact ⟨Iff.rfl, Iff.rfl, Iff.rfl, rfl⟩
 | some c =>
   obtain ⟨h1, h2, h3, h4⟩ := gr_sign c
   simp only [Option.map_some]
   exact ⟨by omega, by omega, h4, gr_letter c⟩
theorem great_drop (l : List UInt8) (i : Nat) : (greatP l).drop i = greatP (l.drop i) := by unfold greatP; rw [List.map_drop]
theorem great_take (l : List UInt8) (i : Nat) : (greatP l).take i = greatP (l.take i) := by unfold greatP; rw [List.map_take]
theorem colF_gr : ∀ (l : List UInt8) (n : Int), colF n (greatP l) = colF n l
 | [], n => rfl
 | c :: l, n => by
   show colF n (greatC c :: greatP l) = _
   rw [colF, colF, gr_letter]
   split
   ·rfl
   ·exact colF_gr l _
theorem columnP_gr (l : List UInt8) : columnP (greatP l) = columnP l := by unfold columnP; rw [colF_gr]
theorem readQ_gr (l : List UInt8) (i : Nat) (col : Int) (ar ac : Bool) : readQ (greatP l) i col ar ac = readQ l i col ar ac := by
 unfold readQ
 rw [great_drop, numF_great, runL_great isD fun c => (gr_isD c).1]
 obtain ⟨a1, _, _, _⟩ := atP_great l i
 obtain ⟨_, _, b3, b4⟩ := atP_great l (i + runL isD (l.drop i))
 rw [b4]
 simp only [a1, b3]
theorem readR_gr (l : List UInt8) (i : Nat) (ac : Bool) : readR (greatP l) i ac = readR l i ac := by
 unfold readR
 rw [great_drop, runL_great isL gr_isL, great_take, great_drop, columnP_gr, readQ_gr, readQ_gr]
 simp only [(atP_great l (i + runL isL (l.drop i))).2.1]
theorem readP_gr (l : List UInt8) : readP (greatP l) = readP l := by
 unfold readP
 rw [readR_gr, readR_gr]
 simp only [(atP_great l 0).2.1]
theorem refB_gr (l : List UInt8) : refB (greatP l) = refB l := by
 unfold refB parseP
 rw [readP_gr, greatP_len]
theorem cutDot_gr : ∀ l : List UInt8, cutDot (greatP l) = (greatP (cutDot l).1, (cutDot l).2.map greatP)
 | [] => rfl
 | c :: l => by
   show cutDot (greatC c :: greatP l) = _
   rw [cutDot, cutDot, cutDot_gr l]
   by_cases h : c.toNat = 46
   ·rw [if_pos h, if_pos ((gr_sign c).2.2.1.2 h)]; rfl
   ·rw [if_neg h, if_neg (fun e => h ((gr_sign c).2.2.1.1 e))]; rfl
theorem all_gr (l : List UInt8) : (greatP l).all digB = l.all digB := by
 unfold greatP
 rw [List.all_map]
 congr 1
 funext c
 exact (gr_word c).2.1
theorem ne_gr (l : List UInt8) : decide (greatP l ≠ []) = decide (l ≠ []) := by
 cases l <;> rfl
theorem numB_gr (l : List UInt8) : numB (greatP l) = numB l := by
 unfold numB
 rw [cutDot_gr]
 cases h : cutDot l with
 | mk w o =>
   cases o with
   | none => simp only [Option.map_none]; rw [ne_gr, all_gr]
   | some p =>
     simp only [Option.map_some]
     have e : greatP w ++ greatP p = greatP (w ++ p) := by unfold greatP; rw [List.map_append]
     rw [ne_gr, ne_gr, greatP_len, e, all_gr]
theorem nameB_gr (l : List UInt8) : nameB (greatP l) = nameB l := by
 unfold nameB
 rw [ne_gr]
 have h1 : (greatP l).all (fun c => wordB c && decide (c.toNat ≠ 36)) = l.all (fun c => wordB c && decide (c.toNat ≠ 36)) := by
  unfold greatP
  rw [List.all_map]
  congr 1
  funext c
  show (wordB (greatC c) && _) = _
  rw [(gr_word c).1]
  congr 1
  exact decide_eq_decide.2 (not_congr (gr_sign c).2.1)
 rw [h1]
 congr 2
 cases l with
 | nil => rfl
 | cons c l =>
   show (digB (greatC c) || decide ((greatC c).toNat = 46)) = (digB c || decide (c.toNat = 46))
   rw [(gr_word c).2.1]
   congr 1
   exact decide_eq_decide.2 (gr_sign c).2.2.1
/-! What tokens hold. -/
theorem quotedF_whole : ∀ (k : Nat) (r : List UInt8) (p : Nat) (acc : List UInt8) kd t n, quotedF k r p acc = .tok kd t n → (∃ c, Sg acc c) → ∃ c, Sg t c
 | 0, r, p, acc, kd, t, n, h, _ => by simp [quotedF] at h
 | k + 1, r, p, acc, kd, t, n, h, ha => by
   obtain ⟨c0, ha⟩ := ha
   by_cases hr : r = []
   ·subst hr; rw [quotedF_nil] at h; simp at h
   unfold quotedF at h
   rw [if_neg hr] at h
   split at h
   ·simp at h
   rename_i hv
   split at h
   ·have henc := encode_decode r hr (by rintro ⟨h1, h2⟩; exact hv (by rw [← h1, ← h2]))
    rw [henc] at h
    exact quotedF_whole k _ _ _ kd t n h ⟨_, ha.join (Sg.one hr hv)⟩
   split at h
   ·exact quotedF_whole k _ _ _ kd t n h ⟨_, ha.join (Sg.ascii [34] (by decide))⟩
   ·simp only [Step.tok.injEq] at h
    obtain ⟨_, rfl, _⟩ := h
    exact ⟨_, ha⟩
theorem Sg.some {t : List UInt8} {c : Nat} (h : Sg t c) : sgP t ≠ none := by
 have := (h.app []).1
 rw [List.append_nil, sgP_nil] at this
 rw [this]
 simp
structure TokNf (t : Tok) : Prop where
 text : t.kind = 2 → sgP t.text ≠ none
 name : t.kind = 3 → NameOk t.text
theorem TokNf.of {kd : Int} {t : List UInt8} {a c : Nat} (h2 : kd = 2 → sgP t ≠ none) (h3 : kd = 3 → NameOk t) : TokNf ⟨kd, t, a, c⟩ := ⟨h2, h3⟩
theorem stepP_nf (r : List UInt8) {kd : Int} {t : List UInt8} {n : Nat} (h : stepP r = .tok kd t n) (a c : Nat) : TokNf ⟨kd, t, a, c⟩ := by
 unfold stepP at h
 dsimp only at h
 split at h
 ·simp at h
 split at h
 ·simp at h
 split at h
 ·unfold wordsS at h
  dsimp only at h
  have hall := runL_all2 wordB r
  split at h
  ·simp only [Step.tok.injEq] at h
   obtain ⟨rfl, rfl, rfl⟩ := h
   exact .of (fun h => no1 h (by decide)) (fun h => no1 h (by decide))
  rename_i hnum
  split at h
  ·simp only [Step.tok.injEq] at h
   obtain ⟨rfl, rfl, rfl⟩ := h
   exact .of (fun h => no1 h (by decide)) (fun h => no1 h (by decide))
  rename_i href
  split at h
  ·rename_i hn
   simp only [Step.tok.injEq] at h
   obtain ⟨rfl, rfl, rfl⟩ := h
   refine .of (fun h => no1 h (by decide)) fun _ => ⟨?_, by rw [nameB_gr]; exact hn, by rw [numB_gr]; simpa using hnum, by rw [refB_gr]; simpa using href, great_idem _⟩
   intro c hc
   obtain ⟨d, hd, rfl⟩ := List.mem_map.1 hc
   rw [(gr_word d).1]
   exact hall d hd
  ·simp at h
 split at h
 ·obtain ⟨rfl, h2⟩ := quotedF_len _ _ _ _ _ _ _ h
  obtain ⟨c, hc⟩ := quotedF_whole _ _ _ _ _ _ _ h ⟨0, .nil⟩
  exact .of (fun _ => hc.some) (fun h => no1 h (by decide))
 split at h
 ·obtain ⟨rfl, h2⟩ := failS_gd _ _ _ _ _ h
  exact .of (fun h => no1 h (by decide)) (fun h => no1 h (by decide))
 ·have key : kd = 6 := by
   unfold opS at h
   split at h
   ·simp only [Step.tok.injEq] at h
    exact h.1.symm
   ·split at h
    ·simp only [Step.tok.injEq] at h
     exact h.1.symm
    ·split at h
     ·simp only [Step.tok.injEq] at h
      exact h.1.symm
     ·simp at h
  subst key
  exact .of (fun h => no1 h (by decide)) (fun h => no1 h (by decide))
theorem lexF_nf : ∀ (k : Nat) (r : List UInt8) (a c : Nat) (acc L : List Tok) (x : Nat), lexF k r a c acc = (L, x, 0) → (∀ t ∈ acc, TokNf t) → ∀ t ∈ L, TokNf t
 | 0, r, a, c, acc, L, x, h, hacc => by simp [lexF] at h
 | k + 1, r, a, c, acc, L, x, h, hacc => by
   rw [lexF] at h
   split at h
   ·simp only [Prod.mk.injEq] at h
    obtain ⟨rfl, _⟩ := h
    intro t ht
    rcases List.mem_append.1 ht with ht | ht
    ·exact hacc t ht
    ·simp at ht; subst ht; exact .of (fun h => no1 h (by decide)) (fun h => no1 h (by decide))
   ·split at h
    ·simp at h
    ·exact lexF_nf k _ _ _ _ _ _ h hacc
    ·rename_i kd t n hst
     exact lexF_nf k _ _ _ _ _ _ h (fun u hu => by
      rcases List.mem_append.1 hu with hu | hu
      ·exact hacc u hu
      ·simp at hu; subst hu; exact stepP_nf r hst a c)
theorem lex_nf {s : List UInt8} (h : (lexP s).2.2 = 0) (i : Nat) : TokNf ((lexP s).1.getD i endT) := by
 have hall : ∀ t ∈ (lexP s).1, TokNf t := by
  unfold lexP at h ⊢
  split
  ·intro t ht; cases ht
  ·rename_i hl
   rw [if_neg hl] at h
   obtain ⟨R, hR⟩ : ∃ R, lexF (s.length + 1) s 0 0 [] = R := ⟨_, rfl⟩
   rw [hR] at h ⊢
   obtain ⟨L, x, e⟩ := R
   dsimp only at h ⊢
   subst h
   exact lexF_nf _ _ _ _ _ _ _ hR (by simp)
 rw [List.getD_eq_getElem?_getD]
 cases hi : (lexP s).1[i]? with
 | none => exact .of (fun h => no1 h (by decide)) (fun h => no1 h (by decide))
 | some t => exact hall t (List.mem_of_getElem? hi)
theorem numB_min {s : List UInt8} (h : numB s = true) : s.head? ≠ some 45 := by
 intro e
 cases s with
 | nil => cases e
 | cons c s =>
   injection e with e
   subst e
   unfold numB at h
   rw [cutDot, if_neg (by decide)] at h
   split at h
   ·rename_i w he
    injection he with h1 h2
    subst h1
    simp only [List.all_cons, Bool.and_eq_true] at h
    exact absurd h.2.1 (by decide)
   ·rename_i w p he
    injection he with h1 h2
    subst h1
    simp only [List.cons_append, List.all_cons, Bool.and_eq_true] at h
    exact absurd h.2.1 (by decide)
theorem parseD_pos {s : List UInt8} {v : Int} (hn : numB s = true) (h : parseD s = some v) : 0 ≤ v := by
 have hm := numB_min hn
 unfold parseD at h
 dsimp only at h
 rw [if_neg hm, decide_eq_false hm] at h
 unfold parseQ at h
 split at h
 ·cases h
 ·obtain ⟨n, _, hn⟩ := Option.bind_eq_some_iff.1 h
  unfold madeP at hn
  split at hn
  ·injection hn with hn
   simp only [Bool.false_eq_true, if_false] at hn
   omega
  ·cases hn
/-! The parser's trees. -/
theorem insD_up {a b op : Int} {d : Nat} (h : a ≤ b) : insD a op d ≤ insD b op d := by
 unfold insD
 split <;> split <;> omega
theorem insD_le (a op : Int) (d : Nat) : d ≤ insD a op d ∧ insD a op d ≤ d + 1 := by
 unfold insD
 split <;> omega
theorem insD_top {a op : Int} {d : Nat} (h : a ≤ levelP op) : insD a op d = d := if_pos h
theorem sign_is {x : List UInt8} {l : Nat} (hl : l < 5) (h : x ∈ levelsL.getD l []) : levelP (10 + idxP signL x) = l + 1 := by
 have key : ∀ l < 5, ∀ y ∈ levelsL.getD l [], levelP (10 + idxP signL y) = l + 1 := by decide
 exact key l hl x h
theorem op_mk (op n : Int) (s : List UInt8) (a b : Ref) (ks : List Nd) : (Nd.mk op n s a b ks).op = op := rfl
section
variable {T : List Tok}
def Okn (d : Int) (least : Int) (n : Nd) : Prop := Nf n ∧ n.op ≠ 23 ∧ d + insD least n.op n.nest ≤ 40
structure NfF (T : List Tok) (f : Nat) : Prop where
 betw : ∀ (lvl : Nat) s r, betwP T f lvl s = some r → lvl ≤ 5 → Fit T s → r.2.err = 0 → Okn s.deep (lvl + 1) r.1
 loop : ∀ (lvl : Nat) n s r, loopP T f lvl n s = some r → lvl < 5 → Fit T s → r.2.err = 0 → Okn s.deep (lvl + 1) n → Okn s.deep (lvl + 1) r.1
 signed : ∀ s r, signedP T f s = some r → Fit T s → r.2.err = 0 → Okn s.deep 6 r.1
 hundred : ∀ s r, hundredP T f s = some r → Fit T s → r.2.err = 0 → Okn s.deep 7 r.1
 hloop : ∀ n s r, hloopP T f n s = some r → Fit T s → r.2.err = 0 → Okn s.deep 7 n → Okn s.deep 7 r.1
 prim : ∀ s r, primP T f s = some r → Fit T s → r.2.err = 0 → Okn s.deep 8 r.1
 name : ∀ s r, nameP T f s = some r → Fit T s → (curT T s).kind = 3 → r.2.err = 0 → Okn s.deep 8 r.1
 args : ∀ s r, argsP T f s = some r → Fit T s → r.2.err = 0 → (∀ x ∈ r.1, Nf x ∧ s.deep + x.nest ≤ 40) ∧ ∀ k, r.1 = [k] → k.op ≠ 23
 aloop : ∀ l s r, aloopP T f l s = some r → Fit T s → r.2.err = 0 → (∀ x ∈ l, Nf x ∧ s.deep + x.nest ≤ 40) → (l = [] → isOp T s [41] = false) → (∀ x ∈ r.1, Nf x ∧ s.deep + x.nest ≤ 40) ∧ l.length < r.1.length ∧ ∀ k, r.1 = [k] → k.op ≠ 23
theorem Okn.leaf {d : Int} {n : Nd} (h : Nf n) (h2 : levelP n.op = 8) (h3 : n.op ≠ 23) (h0 : n.nest = 0) (hd : d ≤ 40) : Okn d 8 n := ⟨h, h3, by rw [insD_top (by omega), h0]; omega⟩
theorem Okn.down {d a b : Int} {n : Nd} (h : Okn d b n) (hab : a ≤ b) : Okn d a n := ⟨h.1, h.2.1, by have := insD_up (op := n.op) (d := n.nest) hab; have := h.2.2; omega⟩
theorem idx_sig {x : List UInt8} {l : Nat} (h : x ∈ levelsL.getD l []) : ∃ i : Nat, i < 12 ∧ idxP signL x = i := by
 have := sign_rng h
 exact ⟨(idxP signL x).toNat, by omega, by omega⟩
theorem nest_max (ks : List Nd) (m : Int) (h0 : 0 ≤ m) (h : ∀ x ∈ ks, (x.nest : Int) ≤ m) : (((ks.map Nd.nest).foldr max 0 : Nat) : Int) ≤ m := by
 induction ks with
 | nil => simpa using h0
 | cons x ks ih =>
   have h1 := h x (by simp)
   have h2 := ih fun y hy => h y (by simp [hy])
   rw [List.map_cons, List.foldr_cons]
   omega
theorem nfF (hT : Ends T) (hG : ∀ i, (T.getD i endT).kind ≠ 0 → TokGd (T.getD i endT)) (hN : ∀ i, TokNf (T.getD i endT)) : ∀ f, NfF T f
 | 0 => by
   constructor
   ·intro lvl s r h; simp only [betwP, reduceCtorEq] at h
   ·intro lvl n s r h; simp only [loopP, reduceCtorEq] at h
   ·intro s r h; simp only [signedP, reduceCtorEq] at h
   ·intro s r h; simp only [hundredP, reduceCtorEq] at h
   ·intro n s r h; simp only [hloopP, reduceCtorEq] at h
   ·intro s r h; simp only [primP, reduceCtorEq] at h
   ·intro s r h; simp only [nameP, reduceCtorEq] at h
   ·intro s r h; simp only [argsP, reduceCtorEq] at h
   ·intro l s r h; simp only [aloopP, reduceCtorEq] at h
 | f + 1 => by
   have ih := nfF hT hG hN f
   have W := wentF hT f
   constructor
   ·intro lvl s r h hl hf h0
    rw [betwP] at h
    split at h
    ·rename_i h5; subst h5; exact ih.signed s r h hf h0
    ·split at h
     ·cases h
     ·rename_i h5 _ r1 h1
      have w1 := W.betw _ _ _ h1 hf
      have w2 := W.loop _ _ _ _ h w1.fit
      have g1 := ih.betw _ _ _ h1 (by omega) hf (w2.e0 h0)
      have g2 := ih.loop _ _ _ _ h (by omega) w1.fit h0 (by rw [w1.deep]; exact g1.down (by omega))
      rw [w1.deep] at g2
      exact g2
   ·intro lvl n s r h hl hf h0 hn
    rw [loopP] at h
    split at h
    ·rename_i hk
     split at h
     ·cases h
     ·rename_i r1 h1
      have w0 := Went.next hT hf (sgn_kind hk)
      have w1 := W.betw _ _ _ h1 w0.fit
      have w2 := W.loop _ _ _ _ h w1.fit
      have g1 := ih.betw _ _ _ h1 (by omega) w0.fit (w2.e0 h0)
      have hs : (curT T s).text ∈ levelsL.getD lvl [] := by
       unfold sgn at hk
       simp only [Bool.and_eq_true, decide_eq_true_eq] at hk
       exact hk.2
      have hlv := sign_is hl hs
      obtain ⟨i, hi, hix⟩ := idx_sig hs
      rw [hix] at h hlv
      have hd : r1.2.deep = s.deep := by rw [w1.deep]; rfl
      have hb : Okn s.deep (lvl + 1) (.mk (10 + (i : Int)) 0 [] .zero .zero [n, r1.1]) := by
       refine ⟨.bin hi hn.1 hn.2.1 g1.1 g1.2.1, by show 10 + (i : Int) ≠ 23; omega, ?_⟩
       rw [nest_bin hi, op_mk, insD_top (show (lvl : Int) + 1 ≤ levelP (10 + (i : Int)) by omega), hlv]
       have a1 := hn.2.2
       have a2 : s.deep + insD ((lvl + 1 : Nat) + 1) r1.1.op r1.1.nest ≤ 40 := g1.2.2
       rw [show (((lvl + 1 : Nat) : Int) + 1) = (lvl : Int) + 1 + 1 by omega] at a2
       omega
      have g2 := ih.loop _ _ _ _ h hl w1.fit h0 (by rw [hd]; exact hb)
      rw [hd] at g2
      exact g2
    ·injection h with h; subst h; exact hn
   ·intro s r h hf h0
    rw [signedP] at h
    have one : ∀ (op : Int) (r1 : Nd × PSt), op = 7 ∨ op = 8 → isOp T s [if op = 7 then 45 else 43] = true → signedP T f (stepP1 (enterP T s)) = some r1 → r1.2.err = 0 → Okn s.deep 6 (.mk op 0 [] .zero .zero [r1.1]) := by
     intro op r1 ho hk h1 he
     obtain ⟨e1, e2, e3⟩ := enter_fit hT hf (isOp_kind hk)
     have w1 := W.signed _ _ h1 e1
     have g1 := ih.signed _ _ h1 e1 he
     rw [e2] at g1
     refine ⟨.sign ho g1.1 g1.2.1, by show op ≠ 23; omega, ?_⟩
     rw [nest_sign ho, op_mk, insD_top (show (6 : Int) ≤ levelP op by rcases ho with rfl | rfl <;> decide)]
     have := g1.2.2
     omega
    split at h
    ·rename_i hk
     split at h
     ·cases h
     ·rename_i r1 h1
      injection h with h; subst h
      exact one 7 r1 (.inl rfl) hk h1 h0
    split at h
    ·rename_i hk
     split at h
     ·cases h
     ·rename_i r1 h1
      injection h with h; subst h
      exact one 8 r1 (.inr rfl) hk h1 h0
    ·exact (ih.hundred _ _ h hf h0).down (by decide)
   ·intro s r h hf h0
    rw [hundredP] at h
    split at h
    ·cases h
    ·rename_i r1 h1
     have w1 := W.prim _ _ h1 hf
     have w2 := W.hloop _ _ _ h w1.fit
     have g1 := ih.prim _ _ h1 hf (w2.e0 h0)
     have g2 := ih.hloop _ _ _ h w1.fit h0 (by rw [w1.deep]; exact g1.down (by decide))
     rw [w1.deep] at g2
     exact g2
   ·intro n s r h hf h0 hn
    rw [hloopP] at h
    split at h
    ·rename_i hk
     have w0 := Went.next hT hf (isOp_kind hk)
     have g := ih.hloop _ _ _ h w0.fit h0
     refine g ⟨.hund hn.1 hn.2.1, by show (9 : Int) ≠ 23; decide, ?_⟩
     rw [nest_hund, op_mk, insD_top (show (7 : Int) ≤ levelP 9 by decide)]
     exact hn.2.2
    ·injection h with h; subst h; exact hn
   ·intro s r h hf h0
    have hd := hf.d2
    have hgd : (curT T s).kind ≠ 0 → TokGd (curT T s) ∧ TokNf (curT T s) ∧ s.deep ≤ 40 := fun hk => by
     have he := cur_err hk
     rw [cur_at he] at hk ⊢
     exact ⟨hG _ hk, hN _, hd he⟩
    rw [primP] at h
    split at h
    ·rename_i hk
     obtain ⟨t1, t2, t3⟩ := hgd (by omega)
     split at h
     ·injection h with h; subst h; exact absurd h0 fun h => fail_err (by decide) h
     ·rename_i v hv
      injection h with h; subst h
      have := parseD_rng hv
      have := parseD_pos (t1.num hk) hv
      exact Okn.leaf (.num (by omega) (by omega)) rfl (show (1 : Int) ≠ 23 by decide) rfl t3
    split at h
    ·rename_i hk
     obtain ⟨t1, t2, t3⟩ := hgd (by omega)
     injection h with h; subst h
     exact Okn.leaf (.text (t2.text hk) t1.len) rfl (show (2 : Int) ≠ 23 by decide) rfl t3
    split at h
    ·rename_i hk
     obtain ⟨t1, t2, t3⟩ := hgd (by omega)
     injection h with h; subst h
     have hr := fault_rng (t1.err hk)
     obtain ⟨k, hk7, hke⟩ : ∃ k : Nat, k < 7 ∧ idxP errL (curT T s).text = k := ⟨(idxP errL (curT T s).text).toNat, by omega, by omega⟩
     rw [hke]
     exact Okn.leaf (.fail hk7) rfl (show (4 : Int) ≠ 23 by decide) rfl t3
    split at h
    ·rename_i hk
     obtain ⟨t1, t2, t3⟩ := hgd (by omega)
     injection h with h; subst h
     unfold areaP at h0 ⊢
     split at h0
     ·rename_i ho
      rw [if_pos ho]
      exact Okn.leaf (.cell (parseP_good _)) rfl (show (5 : Int) ≠ 23 by decide) rfl t3
     ·rename_i ho
      rw [if_neg ho]
      split at h0
      ·exact absurd h0 fun h => fail_err (by decide) h
      ·rename_i hk2
       rw [if_neg hk2]
       exact Okn.leaf (.area (parseP_good _) (parseP_good _)) rfl (show (6 : Int) ≠ 23 by decide) rfl t3
    split at h
    ·rename_i hk
     exact ih.name _ _ h hf hk h0
    split at h
    ·rename_i hk
     split at h
     ·cases h
     ·rename_i r1 h1
      injection h with h; subst h
      obtain ⟨e1, e2, e3⟩ := enter_fit hT hf (isOp_kind hk)
      obtain ⟨m1, m2⟩ := must_i (T := T) (s := r1.2) (x := [41]) h0
      have g1 := ih.betw _ _ _ h1 (by omega) e1 m1
      rw [e2] at g1
      refine ⟨g1.1, g1.2.1, ?_⟩
      have := g1.2.2
      have := (insD_le (((0 : Nat) : Int) + 1) r1.1.op r1.1.nest).1
      have := (insD_le 8 r1.1.op r1.1.nest).2
      dsimp only
      omega
    ·injection h with h; subst h; exact absurd h0 fun h => fail_err (by decide) h
   ·intro s r h hf hk3 h0
    have he0 : s.err = 0 := cur_err (T := T) (by omega)
    have hn := hf.next hT (by omega)
    have hd := hf.d2 he0
    have hnf : TokNf (curT T s) := by rw [cur_at he0]; exact hN _
    have hgd : TokGd (curT T s) := by
     have hk : (curT T s).kind ≠ 0 := by omega
     rw [cur_at he0] at hk ⊢
     exact hG _ hk
    rw [nameP] at h
    split at h
    ·rename_i hk
     split at h
     ·rename_i he
      injection h with h; subst h
      exact absurd h0 he
     ·rename_i he
      split at h
      ·cases h
      ·rename_i r1 h1
       injection h with h; subst h
       obtain ⟨g1, g2, g3, _⟩ := enter2 hT hf (by omega) (by simpa using he)
       have hl := hT.more (s.i + 1) hn.1.i (by omega)
       have g4 : Fit T (enterP T s).next.next := ⟨by show (enterP T s).i + 1 + 1 < _; omega, g1.d0, g1.d1, g1.d2⟩
       obtain ⟨k1, k2⟩ := ih.args _ _ h1 g4 h0
       have hdd : (enterP T s).next.next.deep = s.deep + 1 := by
        show (enterP T s).deep = _
        unfold enterP
        split
        ·unfold failP; split <;> rfl
        ·rfl
       rw [hdd] at k1
       have hen : s.deep + 1 ≤ 40 := by
        rcases Int.lt_or_le 40 (s.deep + 1) with h40 | h40
        ·exfalso
         apply he
         unfold enterP
         rw [if_pos h40]
         unfold failP
         simp [he0]
        ·exact h40
       refine ⟨.call (hnf.name hk3) hgd.len (fun k hk' => (k1 k hk').1) k2, by show (22 : Int) ≠ 23; decide, ?_⟩
       rw [op_mk, insD_top (show (8 : Int) ≤ levelP 22 by decide), nest_call]
       have := nest_max r1.1 (40 - (s.deep + 1)) (by omega) (fun x hx => by have := (k1 x hx).2; omega)
       omega
    split at h
    ·injection h with h; subst h
     exact Okn.leaf (.truth (.inr rfl)) rfl (show (3 : Int) ≠ 23 by decide) rfl hd
    split at h
    ·injection h with h; subst h
     exact Okn.leaf (.truth (.inl rfl)) rfl (show (3 : Int) ≠ 23 by decide) rfl hd
    ·injection h with h; subst h; exact absurd h0 fun h => fail_err (by decide) h
   ·intro s r h hf h0
    rw [argsP] at h
    split at h
    ·injection h with h; subst h
     exact ⟨fun x hx => (by cases hx), fun k hk => (by cases hk)⟩
    ·rename_i hk
     obtain ⟨k1, _, k3⟩ := ih.aloop _ _ _ h hf h0 (fun x hx => (by cases hx)) (fun _ => by simpa using hk)
     exact ⟨k1, k3⟩
   ·intro l s r h hf h0 hl hb
    rw [aloopP] at h
    split at h
    ·rename_i he
     injection h with h; subst h; exact absurd h0 he
    ·rename_i he
     have hd := hf.d2 (by simpa using he)
     split at h
     ·cases h
     ·rename_i r1 h1
      have w1 : Went T s r1.2 := by
       split at h1
       ·injection h1 with h1; subst h1; exact Went.refl hf
       ·exact W.betw _ _ _ h1 hf
      have key : r1.2.err = 0 → (Nf r1.1 ∧ s.deep + r1.1.nest ≤ 40) := fun k0 => by
       split at h1
       ·injection h1 with h1; subst h1
        exact ⟨.miss, by show s.deep + ((0 : Nat) : Int) ≤ 40; omega⟩
       ·obtain ⟨k1, k2, k3⟩ := ih.betw _ _ _ h1 (by omega) hf k0
        have := (insD_le (((0 : Nat) : Int) + 1) r1.1.op r1.1.nest).1
        exact ⟨k1, by omega⟩
      have hmem : (Nf r1.1 ∧ s.deep + r1.1.nest ≤ 40) → ∀ x ∈ l ++ [r1.1], Nf x ∧ s.deep + x.nest ≤ 40 := fun k x hx => by
       rcases List.mem_append.1 hx with hx | hx
       ·exact hl x hx
       ·simp at hx; subst hx; exact k
      split at h
      ·rename_i hk
       have w2 := Went.next hT w1.fit (isOp_kind hk)
       have w3 := W.aloop _ _ _ h w2.fit
       have k1 := key (w2.e0 (w3.e0 h0))
       have hdd : r1.2.next.deep = s.deep := w1.deep
       obtain ⟨g1, g2, g3⟩ := ih.aloop _ _ _ h w2.fit h0 (by rw [hdd]; exact hmem k1) (fun e => by simp at e)
       rw [hdd] at g1
       rw [List.length_append, List.length_singleton] at g2
       refine ⟨g1, by omega, fun k hk' => ?_⟩
       rw [hk'] at g2
       simp at g2
      ·rename_i hk
       injection h with h; subst h
       obtain ⟨m1, m2⟩ := must_i (T := T) (s := r1.2) (x := [41]) h0
       have k1 := key m1
       refine ⟨hmem k1, by dsimp only; rw [List.length_append, List.length_singleton]; omega, fun k hk' => ?_⟩
       dsimp only at hk'
       cases l with
       | cons y l =>
         have := congrArg List.length hk'
         simp at this
       | nil =>
         simp only [List.nil_append, List.cons.injEq, and_true] at hk'
         subst hk'
         split at h1
         ·rename_i hor
          injection h1 with h1; subst h1
          exfalso
          rcases hor with hor | hor
          ·exact hk hor
          ·rw [hb rfl] at hor; cases hor
         ·exact (ih.betw _ _ _ h1 (by omega) hf m1).2.1
end
theorem parseR_nf {s : List UInt8} (h : (parseR s).2.2 = 0) : Nf (parseR s).1 ∧ (parseR s).1.op ≠ 23 ∧ (parseR s).1.nest ≤ 40 := by
 unfold parseR parseT at h ⊢
 by_cases h1 : (lexP s).2.2 = 0
 ·obtain ⟨hT, hL, hG⟩ := lex_toks h1
  obtain ⟨r, hr⟩ := betw_some h1
  have hr' := hr
  unfold st0 at hr
  rw [if_neg (by simp [h1]), hr] at h ⊢
  dsimp only at h ⊢
  obtain ⟨q, hq⟩ : ∃ q, (if (curT (lexP s).1 r.2).kind ≠ 0 then failP (lexP s).1 r.2 10 else r.2) = q := ⟨_, rfl⟩
  rw [hq] at h ⊢
  by_cases he : q.err ≠ 0
  ·rw [if_pos he] at h
   exact absurd h he
  ·rw [if_neg he]
   have h0 : r.2.err = 0 := by
    split at hq
    ·subst hq
     exact absurd (by simpa using he) fun h => fail_err (T := (lexP s).1) (s := r.2) (e := 10) (by decide) h
    ·subst hq
     simpa using he
   obtain ⟨g1, g2, g3⟩ := (nfF hT.ends hG (lex_nf h1) _).betw _ _ _ hr' (by omega) (st0_fit hT.ends) h0
   have hd0 : st0.deep = 0 := rfl
   have := (insD_le (((0 : Nat) : Int) + 1) r.1.op r.1.nest).1
   exact ⟨g1, g2, by show r.1.nest ≤ 40; omega⟩
 ·rw [if_pos (by simpa using h1)] at h
  exact absurd h h1
/-! Grown trees. -/
end Go.A
namespace Go.A
open Go.Proofs Go.Lib
theorem of_in {e : Edt} {a : Ref} (h : a.good = true) : 0 ≤ e.of a ∧ e.of a < e.most := by
 simp only [Ref.good, decide_eq_true_eq] at h
 unfold Edt.of Edt.most
 split <;> omega
theorem cell_is (e : Edt) (a b : Ref) : e.node (.mk 5 0 [] a b []) = goneN ∧ ¬ (e.place (e.of a)).2 = true ∨ (e.place (e.of a)).2 = true ∧ e.node (.mk 5 0 [] a b []) = .mk 5 0 [] (e.set a (e.place (e.of a)).1) b [] := by
 have h : e.node (.mk 5 0 [] a b []) = if (e.place (e.of a)).2 = true then .mk 5 0 [] (e.set a (e.place (e.of a)).1) b [] else goneN := rfl
 rw [h]
 by_cases q : (e.place (e.of a)).2 = true
 ·exact .inr ⟨q, if_pos q⟩
 ·exact .inl ⟨if_neg q, q⟩
def Edt.ends (e : Edt) (x y : Int) : Int × Int := if y < x then ((e.span (min x y) (max x y)).2.1, (e.span (min x y) (max x y)).1) else ((e.span (min x y) (max x y)).1, (e.span (min x y) (max x y)).2.1)
def Edt.left (e : Edt) (x y : Int) : Prop := (e.span (min x y) (max x y)).2.2 = true
theorem area_is (e : Edt) (a b : Ref) : e.node (.mk 6 0 [] a b []) = goneN ∧ ¬ e.left (e.of a) (e.of b) ∨ e.left (e.of a) (e.of b) ∧ e.node (.mk 6 0 [] a b []) = .mk 6 0 [] (e.set a (e.ends (e.of a) (e.of b)).1) (e.set b (e.ends (e.of a) (e.of b)).2) [] := by
 have h : e.node (.mk 6 0 [] a b []) = e.area (.mk 6 0 [] a b []) := rfl
 rw [h, Edt.area]
 unfold Edt.left Edt.ends
 by_cases q : (e.span (min (e.of a) (e.of b)) (max (e.of a) (e.of b))).2.2 = true
 ·right
  refine ⟨q, ?_⟩
  rw [if_pos q]
  split <;> rfl
 ·exact .inl ⟨if_neg q, q⟩
end Go.A
namespace Go.A
open Go.Proofs
/-! 44: tabular/tabularref10.Moved -/
def c44_25 : ACode := .seq (.ops [ oe 3 (.box (.t 0)), oe 6 (.alloc [(.int .i64 0), (.int .i64 0), (.bool false), (.bool false)]), oq 7 (.mv (.v (.bool false)))]) (.seq (.seq (.ops [ oq 8 (.fa 2 (.t 3)), oq 9 (.ld none (.t 8)), oq 10 (.un .not (.t 9)), oq 11 (.mv (.t 10)), ⟨some 12, some (11, true), .q (.mv (.t 1)), []⟩, ⟨some 13, some (11, true), .q (.bin .gtr (.t 12) (.v (.int .i64 3000))), []⟩, ⟨some 14, some (11, true), .q (.mv (.t 13)), []⟩, ⟨some 15, some (14, false), .q (.mv (.t 1)), []⟩, ⟨some 16, some (14, false), .q (.bin .lss (.t 15) (.v (.int .i64 (-3000)))), []⟩, ⟨some 17, some (11, true), .q (.pick (.t 14) (.v (.bool true)) (.t 16)), []⟩, oq 18 (.pick (.t 11) (.t 17) (.v (.bool false))), oq 19 (.mv (.t 18)), ⟨some 20, some (19, false), .q (.fa 3 (.t 3)), []⟩, ⟨some 21, some (19, false), .q (.ld none (.t 20)), []⟩, ⟨some 22, some (19, false), .q (.un .not (.t 21)), []⟩, ⟨some 23, some (19, false), .q (.mv (.t 22)), []⟩, ⟨some 24, some (23, true), .q (.mv (.t 2)), []⟩, ⟨some 25, some (23, true), .q (.bin .gtr (.t 24) (.v (.int .i64 3000))), []⟩, ⟨some 26, some (23, true), .q (.mv (.t 25)), []⟩, ⟨some 27, some (26, false), .q (.mv (.t 2)), []⟩, ⟨some 28, some (26, false), .q (.bin .lss (.t 27) (.v (.int .i64 (-3000)))), []⟩, ⟨some 29, some (23, true), .q (.pick (.t 26) (.v (.bool true)) (.t 28)), []⟩, ⟨some 30, some (19, false), .q (.pick (.t 23) (.t 29) (.v (.bool false))), []⟩, oq 31 (.pick (.t 19) (.v (.bool true)) (.t 30))]) (.cond (.t 31) (.seq (.ops [ oq 32 (.build [(.int .i64 0), (.int .i64 0), (.bool false), (.bool false)] []), oz (.store 4 (.t 6) (.t 32)), oq 7 (.mv (.v (.bool false)))]) .ret) .skip)) (.seq (.seq (.ops [ oq 33 (.fa 2 (.t 3)), oq 34 (.ld none (.t 33)), oq 35 (.un .not (.t 34))]) (.cond (.t 35) (.ops [ oq 36 (.fa 0 (.t 3)), oq 37 (.ld none (.t 36)), oq 38 (.mv (.t 1)), oq 39 (.bin .add (.t 37) (.t 38)), oq 40 (.fa 0 (.t 3)), oz (.store 1 (.t 40) (.t 39))]) .skip)) (.seq (.seq (.ops [ oq 41 (.fa 3 (.t 3)), oq 42 (.ld none (.t 41)), oq 43 (.un .not (.t 42))]) (.cond (.t 43) (.ops [ oq 44 (.fa 1 (.t 3)), oq 45 (.ld none (.t 44)), oq 46 (.mv (.t 2)), oq 47 (.bin .add (.t 45) (.t 46)), oq 48 (.fa 1 (.t 3)), oz (.store 1 (.t 48) (.t 47))]) .skip)) (.seq (.seq (.ops [ oq 49 (.ld (some 4) (.t 3)), oe 50 (.call 75 [(.t 49)]), oq 51 (.un .not (.t 50))]) (.cond (.t 51) (.seq (.ops [ oq 52 (.build [(.int .i64 0), (.int .i64 0), (.bool false), (.bool false)] []), oz (.store 4 (.t 6) (.t 52)), oq 7 (.mv (.v (.bool false)))]) .ret) .skip)) (.seq (.ops [ oq 53 (.ld (some 4) (.t 3)), oz (.store 4 (.t 6) (.t 53)), oq 7 (.mv (.v (.bool true)))]) .ret)))))
@[go_sem] def c44_25_wp := wp_of c44_25.eq_1
def c44 : AFn := ⟨54, [.c 6 (some 4), .t 7], c44_25⟩
theorem c44_ok : compF Tryz.prog Tryz.f44 = some c44 := by kernel_rfl
theorem a44 {args : List AV} {σ : ASt} {R : AV → ASt → Prop} (hl : args.length ≤ 54) (h : c44_25.wp Tryz.prog (RetQ [.c 6 (some 4), .t 7] R) (init args) σ) : ACalls Tryz.prog 44 args σ R := acalls_of Tryz.func44 c44_ok hl h
/-! 75: tabular/tabularref10.Good -/
def c75_3 : ACode := .seq (.ops [ oe 1 (.box (.t 0)), oq 2 (.mv (.v (.bool false)))]) (.seq (.ops [ oq 3 (.fa 0 (.t 1)), oq 4 (.ld none (.t 3)), oq 5 (.bin .geq (.t 4) (.v (.int .i64 0))), oq 6 (.mv (.t 5)), ⟨some 7, some (6, true), .q (.fa 0 (.t 1)), []⟩, ⟨some 8, some (6, true), .q (.ld none (.t 7)), []⟩, ⟨some 9, some (6, true), .q (.bin .lss (.t 8) (.v (.int .i64 3000))), []⟩, oq 10 (.pick (.t 6) (.t 9) (.v (.bool false))), oq 11 (.mv (.t 10)), ⟨some 12, some (11, true), .q (.fa 1 (.t 1)), []⟩, ⟨some 13, some (11, true), .q (.ld none (.t 12)), []⟩, ⟨some 14, some (11, true), .q (.bin .geq (.t 13) (.v (.int .i64 0))), []⟩, oq 15 (.pick (.t 11) (.t 14) (.v (.bool false))), oq 16 (.mv (.t 15)), ⟨some 17, some (16, true), .q (.fa 1 (.t 1)), []⟩, ⟨some 18, some (16, true), .q (.ld none (.t 17)), []⟩, ⟨some 19, some (16, true), .q (.bin .lss (.t 18) (.v (.int .i64 700))), []⟩, oq 20 (.pick (.t 16) (.t 19) (.v (.bool false))), oq 2 (.mv (.t 20))]) .ret)
@[go_sem] def c75_3_wp := wp_of c75_3.eq_1
def c75 : AFn := ⟨21, [.t 2], c75_3⟩
theorem c75_ok : compF Tryz.prog Tryz.f75 = some c75 := by kernel_rfl
theorem a75 {args : List AV} {σ : ASt} {R : AV → ASt → Prop} (hl : args.length ≤ 21) (h : c75_3.wp Tryz.prog (RetQ [.t 2] R) (init args) σ) : ACalls Tryz.prog 75 args σ R := acalls_of Tryz.func75 c75_ok hl h
end Go.A
namespace Go.A
open Go.Proofs
theorem rgood_ok (r : Ref) : Pure Tryz.prog 75 [refAV r] (.bool r.good) := by
 intro σ
 obtain ⟨row, col, ar, ac⟩ := r
 refine a75 (by simp) ?_
 repeat' (first | (simp (disch := first | assumption | omega) only [go_sem, Nat.reduceEqDiff, ↓reduceIte, refAV]) | with_reducible refine gC_d (fun h => ?_) (fun h => ?_) | with_reducible refine gC_dn (fun h => ?_) (fun h => ?_) | with_reducible refine condC_d (fun h => ?_) (fun h => ?_) | with_reducible refine condC_n (fun h => ?_) (fun h => ?_) | with_reducible refine condC_b (fun h => ?_) (fun h => ?_) | with_reducible refine boxC_by ?_ fun b hb => ?_)
 all_goals refine retC_by (Drop.set (by assumption)) (.refl _) ⟨?_, rfl⟩
 all_goals (simp only [Ref.good, resV_one]; congr 1; rw [Bool.eq_iff_iff]; simp; try omega)
theorem rmoved_ok (r : Ref) (hg : r.good = true) (rows cols : Int) :
  Pure Tryz.prog 44 [refAV r, .int .i64 rows, .int .i64 cols] (.tuple [refAV (movedP r rows cols).1, .bool (movedP r rows cols).2]) := by
 intro σ
 obtain ⟨row, col, ar, ac⟩ := r
 simp only [Ref.good, decide_eq_true_eq] at hg
 obtain ⟨g1, g2, g3, g4⟩ := hg
 obtain ⟨q, hq⟩ : ∃ q, movedP ⟨row, col, ar, ac⟩ rows cols = q := ⟨_, rfl⟩
 rw [hq]
 refine a44 (by simp) ?_
 simp (disch := first | assumption | omega) only [go_sem, refAV]
 refine boxC_by rfl fun b hb => ?_
 simp (disch := first | assumption | omega) only [go_sem]
 refine allocC_by fun b2 hb2 => ?_
 obtain ⟨n1, n2, hb3⟩ := set_none hb2
 cases ar <;> cases ac
 repeat' (first | (simp (disch := first | assumption | omega) only [go_sem, Nat.reduceEqDiff, Nat.reduceAdd, Nat.reduceLeDiff, ↓reduceIte, Int.reduceNeg, Bool.true_and]) | refine (rgood_ok ⟨_, _, _, _⟩).use ?_ | with_reducible refine gC_d (fun h => ?_) (fun h => ?_) | with_reducible refine gC_dn (fun h => ?_) (fun h => ?_) | with_reducible refine condC_d (fun h => ?_) (fun h => ?_) | with_reducible refine condC_n (fun h => ?_) (fun h => ?_) | with_reducible refine condC_b (fun h => ?_) (fun h => ?_) | with_reducible refine boxC_by ?_ fun b hb => ?_)
 all_goals refine retC_by ?_ (.refl _) ⟨?_, rfl⟩
 all_goals first
  | (repeat' (first | exact Drop.refl _ | with_reducible refine Drop.off ?_ (by assumption))
     done)
  | skip
 all_goals try simp only [resV_two, movedP, Ref.zero, Ref.good, Bool.false_eq_true, if_true, if_false, true_and, false_and, or_false, false_or, decide_eq_true_eq, decide_eq_false_iff_not, reduceCtorEq, Bool.not_eq_true', Bool.not_eq_false'] at *
 all_goals (repeat' (split at hq)) <;> first | (subst hq; rfl) | (exfalso; omega) | skip
end Go.A
namespace Go.A
open Go.Proofs
/-! 19: tabular/tabularref14.Tree -/
def c19_77 : ACode := .seq (.ops [ oq 108 (.bin .lss (.t 107) (.t 106))]) (.seq (.cond (.t 108) .skip (.exit 0)) (.seq (.block 1 (.seq (.ops [ oq 109 (.ia 12 (.t 105) (.t 107)), oq 110 (.ld (some 12) (.t 109)), oe 16 (.alloc [(.int .i64 0), (.int .i64 0), (.str []), (.int .i64 0), (.int .i64 0), (.bool false), (.bool false), (.int .i64 0), (.int .i64 0), (.bool false), (.bool false), (.sl .full [])]), oz (.store 12 (.t 16) (.t 110))]) (.ops [ oq 111 (.mv (.t 14)), oq 112 (.ld (some 5) (.t 3)), oq 113 (.mv (.t 1)), oq 114 (.ld (some 12) (.t 16)), oe 115 (.call 19 [(.t 112), (.t 113), (.t 114)]), oq 116 (.bsl 12 [(.t 115)]), oe 117 (.app 43 12 104 [(.int .i64 0), (.int .i64 0), (.str []), (.int .i64 0), (.int .i64 0), (.bool false), (.bool false), (.int .i64 0), (.int .i64 0), (.bool false), (.bool false), (.sl .full [])] (.t 111) (.t 116)), oq 14 (.mv (.t 117))]))) (.ops [ oq 118 (.bin .add (.t 107) (.v (.int .i64 1))), oq 107 (.mv (.t 118))])))
def c19_88 : ACode := .seq (.seq (.ops [ oq 17 (.fa 0 (.t 5)), oq 18 (.ld none (.t 17)), oq 19 (.bin .eql (.t 18) (.v (.int .i64 5)))]) (.cond (.t 19) (.seq (.ops [ oq 20 (.fa 3 (.t 5)), oq 21 (.fa 0 (.t 20)), oq 22 (.ld none (.t 21)), oq 7 (.mv (.t 22))]) (.seq (.seq (.ops [ oq 23 (.fa 0 (.t 3)), oq 24 (.ld none (.t 23))]) (.cond (.t 24) (.ops [ oq 25 (.fa 3 (.t 5)), oq 26 (.fa 1 (.t 25)), oq 27 (.ld none (.t 26)), oq 7 (.mv (.t 27))]) .skip)) (.seq (.seq (.ops [ oq 28 (.mv (.t 1)), oq 29 (.mv (.t 7)), oq 30 (.ia 1 (.t 28) (.t 29)), oq 31 (.ld none (.t 30)), oq 32 (.bin .lss (.t 31) (.v (.int .i64 0)))]) (.cond (.t 32) (.seq (.ops [ oe 33 (.call 45 []), oz (.store 12 (.t 6) (.t 33))]) .ret) .skip)) (.seq (.seq (.ops [ oq 34 (.fa 0 (.t 3)), oq 35 (.ld none (.t 34))]) (.cond (.t 35) (.ops [ oq 36 (.mv (.t 1)), oq 37 (.mv (.t 7)), oq 38 (.ia 1 (.t 36) (.t 37)), oq 39 (.ld none (.t 38)), oq 40 (.fa 3 (.t 5)), oq 41 (.fa 1 (.t 40)), oz (.store 1 (.t 41) (.t 39))]) (.ops [ oq 42 (.mv (.t 1)), oq 43 (.mv (.t 7)), oq 44 (.ia 1 (.t 42) (.t 43)), oq 45 (.ld none (.t 44)), oq 46 (.fa 3 (.t 5)), oq 47 (.fa 0 (.t 46)), oz (.store 1 (.t 47) (.t 45))]))) (.seq (.ops [ oq 48 (.ld (some 12) (.t 5)), oz (.store 12 (.t 6) (.t 48))]) .ret))))) .skip)) (.seq (.seq (.ops [ oq 49 (.fa 0 (.t 5)), oq 50 (.ld none (.t 49)), oq 51 (.bin .eql (.t 50) (.v (.int .i64 6)))]) (.cond (.t 51) (.seq (.ops [ oq 52 (.fa 3 (.t 5)), oq 53 (.fa 0 (.t 52)), oq 54 (.ld none (.t 53)), oq 55 (.fa 7 (.t 5)), oq 56 (.fa 0 (.t 55)), oq 57 (.ld none (.t 56)), oq 8 (.mv (.t 54)), oq 9 (.mv (.t 57))]) (.seq (.seq (.ops [ oq 58 (.fa 0 (.t 3)), oq 59 (.ld none (.t 58))]) (.cond (.t 59) (.seq (.ops [ oq 60 (.fa 3 (.t 5)), oq 61 (.fa 1 (.t 60)), oq 62 (.ld none (.t 61)), oq 8 (.mv (.t 62))]) (.ops [ oq 63 (.fa 7 (.t 5)), oq 64 (.fa 1 (.t 63)), oq 65 (.ld none (.t 64)), oq 9 (.mv (.t 65))])) .skip)) (.seq (.ops [ oq 67 (.ld (some 5) (.t 3)), oq 68 (.mv (.t 1)), oq 69 (.mv (.t 8)), oq 70 (.mv (.t 9)), oq 71 (.mnx false (.t 69) (.t 70)), oq 72 (.mv (.t 8)), oq 73 (.mv (.t 9)), oq 74 (.mnx true (.t 72) (.t 73)), oe 75 (.call 47 [(.t 67), (.t 68), (.t 71), (.t 74)]), oq 66 (.mv (.t 75)), oq 76 (.ext 0 (.t 66)), oq 77 (.ext 1 (.t 66)), oq 78 (.ext 2 (.t 66)), oq 10 (.mv (.t 76)), oq 11 (.mv (.t 77)), oq 12 (.mv (.t 78))]) (.seq (.seq (.ops [ oq 79 (.mv (.t 12)), oq 80 (.un .not (.t 79))]) (.cond (.t 80) (.seq (.ops [ oe 81 (.call 45 []), oz (.store 12 (.t 6) (.t 81))]) .ret) .skip)) (.seq (.seq (.ops [ oq 82 (.mv (.t 8)), oq 83 (.mv (.t 9)), oq 84 (.bin .gtr (.t 82) (.t 83))]) (.cond (.t 84) (.seq (.ops [ oq 85 (.mv (.t 10)), oq 13 (.mv (.t 85))]) (.seq (.ops [ oq 86 (.mv (.t 11)), oq 10 (.mv (.t 86))]) (.ops [ oq 87 (.mv (.t 13)), oq 11 (.mv (.t 87))]))) .skip)) (.seq (.seq (.ops [ oq 88 (.fa 0 (.t 3)), oq 89 (.ld none (.t 88))]) (.cond (.t 89) (.seq (.ops [ oq 90 (.mv (.t 10)), oq 91 (.fa 3 (.t 5)), oq 92 (.fa 1 (.t 91)), oz (.store 1 (.t 92) (.t 90))]) (.ops [ oq 93 (.mv (.t 11)), oq 94 (.fa 7 (.t 5)), oq 95 (.fa 1 (.t 94)), oz (.store 1 (.t 95) (.t 93))])) (.seq (.ops [ oq 96 (.mv (.t 10)), oq 97 (.fa 3 (.t 5)), oq 98 (.fa 0 (.t 97)), oz (.store 1 (.t 98) (.t 96))]) (.ops [ oq 99 (.mv (.t 11)), oq 100 (.fa 7 (.t 5)), oq 101 (.fa 0 (.t 100)), oz (.store 1 (.t 101) (.t 99))])))) (.seq (.ops [ oq 102 (.ld (some 12) (.t 5)), oz (.store 12 (.t 6) (.t 102))]) .ret))))))) .skip)) (.seq (.ops [ oq 103 (.bsl 12 []), oq 14 (.mv (.t 103))]) (.seq (.seq (.ops [ oq 104 (.fa 11 (.t 5)), oq 105 (.ld none (.t 104)), oq 106 (.len (.t 105)), oq 107 (.mv (.v (.int .i64 0)))]) (.block 0 (.loop c19_77))) (.seq (.ops [ oq 119 (.mv (.t 14)), oq 120 (.fa 11 (.t 5)), oz (.store 1 (.t 120) (.t 119))]) (.seq (.ops [ oq 121 (.ld (some 12) (.t 5)), oz (.store 12 (.t 6) (.t 121))]) .ret)))))
def c19_89 : ACode := .seq (.ops [ oe 3 (.box (.t 0)), oe 5 (.box (.t 2)), oe 6 (.alloc [(.int .i64 0), (.int .i64 0), (.str []), (.int .i64 0), (.int .i64 0), (.bool false), (.bool false), (.int .i64 0), (.int .i64 0), (.bool false), (.bool false), (.sl .full [])])]) c19_88
@[go_sem] def c19_77_wp := wp_of c19_77.eq_1
@[go_sem] def c19_88_wp := wp_of c19_88.eq_1
@[go_sem] def c19_89_wp := wp_of c19_89.eq_1
def c19 : AFn := ⟨122, [.c 6 (some 12)], c19_89⟩
theorem c19_ok : compF Tryz.prog Tryz.f19 = some c19 := by kernel_rfl
theorem a19 {args : List AV} {σ : ASt} {R : AV → ASt → Prop} (hl : args.length ≤ 122) (h : c19_89.wp Tryz.prog (RetQ [.c 6 (some 12)] R) (init args) σ) : ACalls Tryz.prog 19 args σ R := acalls_of Tryz.func19 c19_ok hl h
/-! 45: tabular/tabularref14.gone -/
def c45_3 : ACode := .seq (.ops [ oe 0 (.alloc [(.int .i64 0), (.int .i64 0), (.str []), (.int .i64 0), (.int .i64 0), (.bool false), (.bool false), (.int .i64 0), (.int .i64 0), (.bool false), (.bool false), (.sl .full [])])]) (.seq (.ops [ oq 1 (.build [(.int .i64 0), (.int .i64 0), (.str []), (.int .i64 0), (.int .i64 0), (.bool false), (.bool false), (.int .i64 0), (.int .i64 0), (.bool false), (.bool false), (.sl .full [])] [(0, 1, (.v (.int .i64 4))), (1, 1, (.v (.int .i64 40000)))]), oz (.store 12 (.t 0) (.t 1))]) .ret)
@[go_sem] def c45_3_wp := wp_of c45_3.eq_1
def c45 : AFn := ⟨2, [.c 0 (some 12)], c45_3⟩
theorem c45_ok : compF Tryz.prog Tryz.f45 = some c45 := by kernel_rfl
theorem a45 {args : List AV} {σ : ASt} {R : AV → ASt → Prop} (hl : args.length ≤ 2) (h : c45_3.wp Tryz.prog (RetQ [.c 0 (some 12)] R) (init args) σ) : ACalls Tryz.prog 45 args σ R := acalls_of Tryz.func45 c45_ok hl h
end Go.A
namespace Go.A
open Go.Proofs Go.Lib
theorem Grown.add {τ s : ASt} {c n z : Nat} {r : Option Role} {k : SK} (h : Grown τ s k n z) (hc : s c = none) : Grown (τ.set c r) (s.set c r) k n z := by
 rcases h with ⟨h1, h2, rfl⟩ | ⟨b, T, h1, h2, rfl⟩
 ·exact .inl ⟨h1, h2, rfl⟩
 ·have hcb : c ≠ b := by rintro rfl; rw [ASt.set_same] at hc; cases hc
  exact .inr ⟨b, T, h1, by rw [ASt.set_ne (Ne.symm hcb)]; exact h2, set_swap (Ne.symm hcb)⟩
theorem Grown.low {τ s : ASt} {c n z : Nat} {k : SK} (h : Grown τ s k n z) (hc : s c = none) : τ c = none := by
 cases hr : τ c with
 | none => rfl
 | some r => rw [h.at hr] at hc; cases hc
theorem fz_node {σ σ' : ASt} {x0 x1 x2 x3 x4 x5 x6 x7 x8 x9 x10 : AV} {k : SK} {L : List AV} : Fz σ σ' (.agg [x0, x1, x2, x3, x4, x5, x6, x7, x8, x9, x10, .sl k L]) (.agg [x0, x1, x2, x3, x4, x5, x6, x7, x8, x9, x10, .sl .shr L]) :=
 Fz.agg (.cons (.refl _) (.cons (.refl _) (.cons (.refl _) (.cons (.refl _) (.cons (.refl _) (.cons (.refl _) (.cons (.refl _) (.cons (.refl _) (.cons (.refl _) (.cons (.refl _) (.cons (.refl _) (.cons (.sl _ _) .nil))))))))))))
theorem rgone_ok : Pure Tryz.prog 45 [] goneN.av := by
 intro σ
 refine a45 (by simp) ?_
 rw [gone_av]
 simp (disch := first | assumption | omega) only [go_sem]
 refine allocC_by fun b hb => ?_
 simp (disch := first | assumption | omega) only [go_sem, reduceCtorEq, Nat.reduceAdd, Nat.reduceLeDiff, ↓reduceIte, Bool.true_and, ASt.set_set]
 exact retC_by (Drop.set hb) fz_node ⟨rfl, rfl⟩
theorem Edt.lie_place {e : Edt} (h : e.good e.all = true) {i : Int} (h0 : 0 ≤ i) (h1 : i < e.most) : ((e.place i).2 = true ∧ e.lie i = (e.place i).1 ∧ 0 ≤ e.lie i) ∨ ((e.place i).2 = false ∧ e.lie i < 0) := by
 have hu : e.lie i = if (e.place i).2 = true then (e.place i).1 else -1 := rfl
 cases hp : (e.place i).2 with
 | true =>
   rw [hp, if_pos rfl] at hu
   refine .inl ⟨rfl, hu, ?_⟩
   rw [hu]
   obtain ⟨a, b, ⟨k, c⟩ | ⟨k, c⟩ | ⟨k, c⟩⟩ := Edt.all_good h
   ·rw [Edt.place_ins k]
    unfold ahead
    dsimp only
    split <;> omega
   ·rw [Edt.place_del k] at hp ⊢
    by_cases q : e.at' ≤ i ∧ i < e.at' + e.n
    ·rw [if_pos q] at hp; cases hp
    ·rw [if_neg q]
     unfold ahead
     dsimp only
     split <;> omega
   ·rw [Edt.place_mov k]
    by_cases q : e.at' ≤ i ∧ i < e.at' + e.n
    ·rw [if_pos q]
     dsimp only
     omega
    ·rw [if_neg q]
     unfold ahead
     dsimp only
     split <;> split <;> omega
 | false =>
   rw [hp, if_neg (by simp)] at hu
   exact .inr ⟨rfl, by omega⟩
theorem rtcell_ok {e : Edt} (h : e.good e.all = true) {r : Ref} (hg : r.good = true) :
  Pure Tryz.prog 19 [e.av, .sl .shr e.lieL, (Nd.mk 5 0 [] r .zero []).av] (e.tree (.mk 5 0 [] r .zero [])).av := by
 intro σ
 have ht : e.tree (.mk 5 0 [] r .zero []) = e.node (.mk 5 0 [] r .zero []) := by
  show Nd.map e.node _ = _
  rw [Nd.map, if_pos (.inl rfl)]
 have hrng := of_in (e := e) hg
 have hx := Edt.lieL_get hrng.1 hrng.2
 have hlen : e.of r < (e.lieL.length : Int) := by rw [Edt.lieL_len]; omega
 have hl := Edt.lie_place h hrng.1 hrng.2
 have hgone := rgone_ok
 rw [ht]
 have hav : ∀ a b : Ref, (Nd.mk 5 0 [] a b []).av = .agg [.int .i64 5, .int .i64 0, .str [], .int .i64 a.row, .int .i64 a.col, .bool a.absRow, .bool a.absCol, .int .i64 b.row, .int .i64 b.col, .bool b.absRow, .bool b.absCol, .sl .shr []] := fun a b => Nd.av_cs ..
 have hcell := cell_is e r .zero
 generalize e.lieL = LL at *
 rw [gone_av] at hgone
 rw [hav]
 unfold Edt.av
 cases hb : e.cols with
 | true =>
   have ho : e.of r = r.col := by unfold Edt.of; rw [if_pos hb]
   have hs : ∀ i, e.set r i = ⟨r.row, i, r.absRow, r.absCol⟩ := fun i => by unfold Edt.set; rw [if_pos hb]
   rw [ho] at hrng hx hlen hl hcell
   rcases hcell with ⟨h1, n1⟩ | ⟨n1, h1⟩
   ·rcases hl with ⟨q1, _⟩ | ⟨q1, q2⟩
    ·exact absurd q1 n1
    rw [h1, gone_av]
    refine a19 (by simp) ?_
    simp (disch := first | assumption | omega) only [go_sem]
    refine boxC_by rfl fun c1 g1 => ?_
    simp (disch := first | assumption | omega) only [go_sem, Nat.reduceEqDiff, ↓reduceIte]
    refine boxC_by rfl fun c2 g2 => ?_
    repeat (with_reducible replace g2 := set_none g2; obtain ⟨_, _, g2⟩ := g2)
    simp (disch := first | assumption | omega) only [go_sem]
    refine allocC_by fun c3 g3 => ?_
    repeat (with_reducible replace g3 := set_none g3; obtain ⟨_, _, g3⟩ := g3)
    simp (disch := first | assumption | omega) only [go_sem, Nat.reduceEqDiff, Nat.reduceAdd, ↓reduceIte, hb, hx, q2]
    refine hgone.use ?_
    simp (disch := first | assumption | omega) only [go_sem, Nat.reduceEqDiff, Nat.reduceAdd, Nat.reduceLeDiff, ↓reduceIte, Bool.true_and, ASt.set_set]
    exact retC_by (by repeat' (first | exact Drop.refl _ | with_reducible refine Drop.off ?_ (by assumption))) (.refl _) ⟨rfl, rfl⟩
   ·have hq : e.lie r.col = (e.place r.col).1 ∧ 0 ≤ e.lie r.col := by
     rcases hl with ⟨_, a, b⟩ | ⟨a, _⟩
     ·exact ⟨a, b⟩
     ·rw [a] at n1; cases n1
    obtain ⟨q2, q3⟩ := hq
    rw [h1, ← q2, hs, hav]
    have q4 : ¬ e.lie r.col < 0 := by omega
    refine a19 (by simp) ?_
    simp (disch := first | assumption | omega) only [go_sem]
    refine boxC_by rfl fun c1 g1 => ?_
    simp (disch := first | assumption | omega) only [go_sem, Nat.reduceEqDiff, ↓reduceIte]
    refine boxC_by rfl fun c2 g2 => ?_
    repeat (with_reducible replace g2 := set_none g2; obtain ⟨_, _, g2⟩ := g2)
    simp (disch := first | assumption | omega) only [go_sem]
    refine allocC_by fun c3 g3 => ?_
    repeat (with_reducible replace g3 := set_none g3; obtain ⟨_, _, g3⟩ := g3)
    have hdt : c2 ≠ c3 := by assumption
    have hsw : ∀ (ρ : ASt) (X Y Z : Option Role), ((ρ.set c2 X).set c3 Y).set c2 Z = (ρ.set c2 Z).set c3 Y := fun _ _ _ _ => set_mid hdt
    simp (disch := first | assumption | omega) only [go_sem, Nat.reduceEqDiff, Nat.reduceAdd, Nat.reduceLeDiff, ↓reduceIte, Bool.true_and, hb, hx, q4, hsw, ASt.set_set]
    exact retC_by (by repeat' (first | exact Drop.refl _ | with_reducible refine Drop.off ?_ (by assumption))) (.refl _) ⟨rfl, rfl⟩
 | false =>
   have ho : e.of r = r.row := by unfold Edt.of; rw [if_neg (by simp [hb])]
   have hs : ∀ i, e.set r i = ⟨i, r.col, r.absRow, r.absCol⟩ := fun i => by unfold Edt.set; rw [if_neg (by simp [hb])]
   rw [ho] at hrng hx hlen hl hcell
   rcases hcell with ⟨h1, n1⟩ | ⟨n1, h1⟩
   ·rcases hl with ⟨q1, _⟩ | ⟨q1, q2⟩
    ·exact absurd q1 n1
    rw [h1, gone_av]
    refine a19 (by simp) ?_
    simp (disch := first | assumption | omega) only [go_sem]
    refine boxC_by rfl fun c1 g1 => ?_
    simp (disch := first | assumption | omega) only [go_sem, Nat.reduceEqDiff, ↓reduceIte]
    refine boxC_by rfl fun c2 g2 => ?_
    repeat (with_reducible replace g2 := set_none g2; obtain ⟨_, _, g2⟩ := g2)
    simp (disch := first | assumption | omega) only [go_sem]
    refine allocC_by fun c3 g3 => ?_
    repeat (with_reducible replace g3 := set_none g3; obtain ⟨_, _, g3⟩ := g3)
    simp (disch := first | assumption | omega) only [go_sem, Nat.reduceEqDiff, ↓reduceIte, hb, hx, q2]
    refine hgone.use ?_
    simp (disch := first | assumption | omega) only [go_sem, Nat.reduceEqDiff, Nat.reduceAdd, Nat.reduceLeDiff, ↓reduceIte, Bool.true_and, ASt.set_set]
    exact retC_by (by repeat' (first | exact Drop.refl _ | with_reducible refine Drop.off ?_ (by assumption))) (.refl _) ⟨rfl, rfl⟩
   ·have hq : e.lie r.row = (e.place r.row).1 ∧ 0 ≤ e.lie r.row := by
     rcases hl with ⟨_, a, b⟩ | ⟨a, _⟩
     ·exact ⟨a, b⟩
     ·rw [a] at n1; cases n1
    obtain ⟨q2, q3⟩ := hq
    rw [h1, ← q2, hs, hav]
    have q4 : ¬ e.lie r.row < 0 := by omega
    refine a19 (by simp) ?_
    simp (disch := first | assumption | omega) only [go_sem]
    refine boxC_by rfl fun c1 g1 => ?_
    simp (disch := first | assumption | omega) only [go_sem, Nat.reduceEqDiff, ↓reduceIte]
    refine boxC_by rfl fun c2 g2 => ?_
    repeat (with_reducible replace g2 := set_none g2; obtain ⟨_, _, g2⟩ := g2)
    simp (disch := first | assumption | omega) only [go_sem]
    refine allocC_by fun c3 g3 => ?_
    repeat (with_reducible replace g3 := set_none g3; obtain ⟨_, _, g3⟩ := g3)
    have hdt : c2 ≠ c3 := by assumption
    have hsw : ∀ (ρ : ASt) (X Y Z : Option Role), ((ρ.set c2 X).set c3 Y).set c2 Z = (ρ.set c2 Z).set c3 Y := fun _ _ _ _ => set_mid hdt
    simp (disch := first | assumption | omega) only [go_sem, Nat.reduceEqDiff, Nat.reduceAdd, Nat.reduceLeDiff, ↓reduceIte, Bool.true_and, hb, hx, q4, hsw, ASt.set_set]
    exact retC_by (by repeat' (first | exact Drop.refl _ | with_reducible refine Drop.off ?_ (by assumption))) (.refl _) ⟨rfl, rfl⟩
theorem rtarea_ok {e : Edt} (h : e.good e.all = true) {a b : Ref} (ha : a.good = true) (hb' : b.good = true) :
  Pure Tryz.prog 19 [e.av, .sl .shr e.lieL, (Nd.mk 6 0 [] a b []).av] (e.tree (.mk 6 0 [] a b [])).av := by
 intro σ
 have ht : e.tree (.mk 6 0 [] a b []) = e.node (.mk 6 0 [] a b []) := by
  show Nd.map e.node _ = _
  rw [Nd.map, if_pos (.inr rfl)]
 have h1 := of_in (e := e) ha
 have h2 := of_in (e := e) hb'
 have hsp := rspan_ok h (min (e.of a) (e.of b)) (max (e.of a) (e.of b)) (by omega) (by omega) (by omega)
 have hgone := rgone_ok
 rw [ht]
 have hav : ∀ a b : Ref, (Nd.mk 6 0 [] a b []).av = .agg [.int .i64 6, .int .i64 0, .str [], .int .i64 a.row, .int .i64 a.col, .bool a.absRow, .bool a.absCol, .int .i64 b.row, .int .i64 b.col, .bool b.absRow, .bool b.absCol, .sl .shr []] := fun a b => Nd.av_cs ..
 have hnd : e.node (.mk 6 0 [] a b []) = e.area (.mk 6 0 [] a b []) := rfl
 rw [hnd, Edt.area]
 generalize e.lieL = LL at *
 rw [gone_av] at hgone
 obtain ⟨⟨i, j, ok⟩, hq⟩ : ∃ q, e.span (min (e.of a) (e.of b)) (max (e.of a) (e.of b)) = q := ⟨_, rfl⟩
 rw [hq] at hsp ⊢
 dsimp only at hsp ⊢
 rw [hav a b]
 cases hb : e.cols with
 | true =>
   have ho : ∀ r : Ref, e.of r = r.col := fun r => by unfold Edt.of; rw [if_pos hb]
   have hs : ∀ (r : Ref) i, e.set r i = ⟨r.row, i, r.absRow, r.absCol⟩ := fun r i => by unfold Edt.set; rw [if_pos hb]
   rw [ho, ho] at hsp ⊢
   unfold Edt.av at hsp ⊢
   cases ok with
   | false =>
     rw [if_neg (by simp), gone_av]
     refine a19 (by simp) ?_
     simp (disch := first | assumption | omega) only [go_sem]
     refine boxC_by rfl fun c1 g1 => ?_
     simp (disch := first | assumption | omega) only [go_sem, Nat.reduceEqDiff, ↓reduceIte]
     refine boxC_by rfl fun c2 g2 => ?_
     repeat (with_reducible replace g2 := set_none g2; obtain ⟨_, _, g2⟩ := g2)
     simp (disch := first | assumption | omega) only [go_sem]
     refine allocC_by fun c3 g3 => ?_
     repeat (with_reducible replace g3 := set_none g3; obtain ⟨_, _, g3⟩ := g3)
     simp (disch := first | assumption | omega) only [go_sem, Nat.reduceEqDiff, Nat.reduceAdd, Nat.reduceLeDiff, Int.reduceEq, ↓reduceIte, hb]
     refine hsp.use ?_
     simp (disch := first | assumption | omega) only [go_sem, Nat.reduceEqDiff, ↓reduceIte]
     refine hgone.use ?_
     simp (disch := first | assumption | omega) only [go_sem, Nat.reduceEqDiff, Nat.reduceAdd, Nat.reduceLeDiff, ↓reduceIte, Bool.true_and, ASt.set_set]
     exact retC_by (by repeat' (first | exact Drop.refl _ | with_reducible refine Drop.off ?_ (by assumption))) (.refl _) ⟨rfl, rfl⟩
   | true =>
     rw [if_pos rfl]
     by_cases hlt : b.col < a.col
     ·rw [if_pos hlt, hs, hs, hav]
      refine a19 (by simp) ?_
      simp (disch := first | assumption | omega) only [go_sem]
      refine boxC_by rfl fun c1 g1 => ?_
      simp (disch := first | assumption | omega) only [go_sem, Nat.reduceEqDiff, ↓reduceIte]
      refine boxC_by rfl fun c2 g2 => ?_
      repeat (with_reducible replace g2 := set_none g2; obtain ⟨_, _, g2⟩ := g2)
      simp (disch := first | assumption | omega) only [go_sem]
      refine allocC_by fun c3 g3 => ?_
      repeat (with_reducible replace g3 := set_none g3; obtain ⟨_, _, g3⟩ := g3)
      have hdt : c2 ≠ c3 := by assumption
      have hsw : ∀ (ρ : ASt) (X Y Z : Option Role), ((ρ.set c2 X).set c3 Y).set c2 Z = (ρ.set c2 Z).set c3 Y := fun _ _ _ _ => set_mid hdt
      simp (disch := first | assumption | omega) only [go_sem, Nat.reduceEqDiff, Nat.reduceAdd, Nat.reduceLeDiff, Int.reduceEq, ↓reduceIte, hb]
      refine hsp.use ?_
      simp (disch := first | assumption | omega) only [go_sem, Nat.reduceEqDiff, Nat.reduceAdd, Nat.reduceLeDiff, ↓reduceIte, Bool.true_and, hb, hlt, hsw, ASt.set_set]
      exact retC_by (by repeat' (first | exact Drop.refl _ | with_reducible refine Drop.off ?_ (by assumption))) (.refl _) ⟨rfl, rfl⟩
     ·rw [if_neg hlt, hs, hs, hav]
      refine a19 (by simp) ?_
      simp (disch := first | assumption | omega) only [go_sem]
      refine boxC_by rfl fun c1 g1 => ?_
      simp (disch := first | assumption | omega) only [go_sem, Nat.reduceEqDiff, ↓reduceIte]
      refine boxC_by rfl fun c2 g2 => ?_
      repeat (with_reducible replace g2 := set_none g2; obtain ⟨_, _, g2⟩ := g2)
      simp (disch := first | assumption | omega) only [go_sem]
      refine allocC_by fun c3 g3 => ?_
      repeat (with_reducible replace g3 := set_none g3; obtain ⟨_, _, g3⟩ := g3)
      have hdt : c2 ≠ c3 := by assumption
      have hsw : ∀ (ρ : ASt) (X Y Z : Option Role), ((ρ.set c2 X).set c3 Y).set c2 Z = (ρ.set c2 Z).set c3 Y := fun _ _ _ _ => set_mid hdt
      simp (disch := first | assumption | omega) only [go_sem, Nat.reduceEqDiff, Nat.reduceAdd, Nat.reduceLeDiff, Int.reduceEq, ↓reduceIte, hb]
      refine hsp.use ?_
      simp (disch := first | assumption | omega) only [go_sem, Nat.reduceEqDiff, Nat.reduceAdd, Nat.reduceLeDiff, ↓reduceIte, Bool.true_and, hb, hlt, hsw, ASt.set_set]
      exact retC_by (by repeat' (first | exact Drop.refl _ | with_reducible refine Drop.off ?_ (by assumption))) (.refl _) ⟨rfl, rfl⟩
 | false =>
   have ho : ∀ r : Ref, e.of r = r.row := fun r => by unfold Edt.of; rw [if_neg (by simp [hb])]
   have hs : ∀ (r : Ref) i, e.set r i = ⟨i, r.col, r.absRow, r.absCol⟩ := fun r i => by unfold Edt.set; rw [if_neg (by simp [hb])]
   rw [ho, ho] at hsp ⊢
   unfold Edt.av at hsp ⊢
   cases ok with
   | false =>
     rw [if_neg (by simp), gone_av]
     refine a19 (by simp) ?_
     simp (disch := first | assumption | omega) only [go_sem]
     refine boxC_by rfl fun c1 g1 => ?_
     simp (disch := first | assumption | omega) only [go_sem, Nat.reduceEqDiff, ↓reduceIte]
     refine boxC_by rfl fun c2 g2 => ?_
     repeat (with_reducible replace g2 := set_none g2; obtain ⟨_, _, g2⟩ := g2)
     simp (disch := first | assumption | omega) only [go_sem]
     refine allocC_by fun c3 g3 => ?_
     repeat (with_reducible replace g3 := set_none g3; obtain ⟨_, _, g3⟩ := g3)
     simp (disch := first | assumption | omega) only [go_sem, Nat.reduceEqDiff, Nat.reduceLeDiff, Int.reduceEq, ↓reduceIte, hb]
     refine hsp.use ?_
     simp (disch := first | assumption | omega) only [go_sem, Nat.reduceEqDiff, ↓reduceIte]
     refine hgone.use ?_
     simp (disch := first | assumption | omega) only [go_sem, Nat.reduceEqDiff, Nat.reduceAdd, Nat.reduceLeDiff, ↓reduceIte, Bool.true_and, ASt.set_set]
     exact retC_by (by repeat' (first | exact Drop.refl _ | with_reducible refine Drop.off ?_ (by assumption))) (.refl _) ⟨rfl, rfl⟩
   | true =>
     rw [if_pos rfl]
     by_cases hlt : b.row < a.row
     ·rw [if_pos hlt, hs, hs, hav]
      refine a19 (by simp) ?_
      simp (disch := first | assumption | omega) only [go_sem]
      refine boxC_by rfl fun c1 g1 => ?_
      simp (disch := first | assumption | omega) only [go_sem, Nat.reduceEqDiff, ↓reduceIte]
      refine boxC_by rfl fun c2 g2 => ?_
      repeat (with_reducible replace g2 := set_none g2; obtain ⟨_, _, g2⟩ := g2)
      simp (disch := first | assumption | omega) only [go_sem]
      refine allocC_by fun c3 g3 => ?_
      repeat (with_reducible replace g3 := set_none g3; obtain ⟨_, _, g3⟩ := g3)
      have hdt : c2 ≠ c3 := by assumption
      have hsw : ∀ (ρ : ASt) (X Y Z : Option Role), ((ρ.set c2 X).set c3 Y).set c2 Z = (ρ.set c2 Z).set c3 Y := fun _ _ _ _ => set_mid hdt
      simp (disch := first | assumption | omega) only [go_sem, Nat.reduceEqDiff, Nat.reduceLeDiff, Int.reduceEq, ↓reduceIte, hb]
      refine hsp.use ?_
      simp (disch := first | assumption | omega) only [go_sem, Nat.reduceEqDiff, Nat.reduceAdd, Nat.reduceLeDiff, ↓reduceIte, Bool.true_and, hb, hlt, hsw, ASt.set_set]
      exact retC_by (by repeat' (first | exact Drop.refl _ | with_reducible refine Drop.off ?_ (by assumption))) (.refl _) ⟨rfl, rfl⟩
     ·rw [if_neg hlt, hs, hs, hav]
      refine a19 (by simp) ?_
      simp (disch := first | assumption | omega) only [go_sem]
      refine boxC_by rfl fun c1 g1 => ?_
      simp (disch := first | assumption | omega) only [go_sem, Nat.reduceEqDiff, ↓reduceIte]
      refine boxC_by rfl fun c2 g2 => ?_
      repeat (with_reducible replace g2 := set_none g2; obtain ⟨_, _, g2⟩ := g2)
      simp (disch := first | assumption | omega) only [go_sem]
      refine allocC_by fun c3 g3 => ?_
      repeat (with_reducible replace g3 := set_none g3; obtain ⟨_, _, g3⟩ := g3)
      have hdt : c2 ≠ c3 := by assumption
      have hsw : ∀ (ρ : ASt) (X Y Z : Option Role), ((ρ.set c2 X).set c3 Y).set c2 Z = (ρ.set c2 Z).set c3 Y := fun _ _ _ _ => set_mid hdt
      simp (disch := first | assumption | omega) only [go_sem, Nat.reduceEqDiff, Nat.reduceLeDiff, Int.reduceEq, ↓reduceIte, hb]
      refine hsp.use ?_
      simp (disch := first | assumption | omega) only [go_sem, Nat.reduceEqDiff, Nat.reduceAdd, Nat.reduceLeDiff, ↓reduceIte, Bool.true_and, hb, hlt, hsw, ASt.set_set]
      exact retC_by (by repeat' (first | exact Drop.refl _ | with_reducible refine Drop.off ?_ (by assumption))) (.refl _) ⟨rfl, rfl⟩
end Go.A
namespace Go.A
open Go.Proofs
/-! 16: tabular/tabularref14.Copy -/
def c16_34 : ACode := .seq (.ops [ oq 63 (.bin .lss (.t 62) (.t 61))]) (.seq (.cond (.t 63) .skip (.exit 0)) (.seq (.block 1 (.seq (.ops [ oq 64 (.ia 12 (.t 60) (.t 62)), oq 65 (.ld (some 12) (.t 64)), oe 13 (.alloc [(.int .i64 0), (.int .i64 0), (.str []), (.int .i64 0), (.int .i64 0), (.bool false), (.bool false), (.int .i64 0), (.int .i64 0), (.bool false), (.bool false), (.sl .full [])]), oz (.store 12 (.t 13) (.t 65))]) (.ops [ oq 66 (.mv (.t 11)), oq 67 (.ld (some 12) (.t 13)), oq 68 (.mv (.t 1)), oq 69 (.mv (.t 2)), oe 70 (.call 16 [(.t 67), (.t 68), (.t 69)]), oq 71 (.bsl 12 [(.t 70)]), oe 72 (.app 43 12 104 [(.int .i64 0), (.int .i64 0), (.str []), (.int .i64 0), (.int .i64 0), (.bool false), (.bool false), (.int .i64 0), (.int .i64 0), (.bool false), (.bool false), (.sl .full [])] (.t 66) (.t 71)), oq 11 (.mv (.t 72))]))) (.ops [ oq 73 (.bin .add (.t 62) (.v (.int .i64 1))), oq 62 (.mv (.t 73))])))
def c16_45 : ACode := .seq (.ops [ oe 3 (.box (.t 0)), oe 6 (.alloc [(.int .i64 0), (.int .i64 0), (.str []), (.int .i64 0), (.int .i64 0), (.bool false), (.bool false), (.int .i64 0), (.int .i64 0), (.bool false), (.bool false), (.sl .full [])])]) (.seq (.seq (.ops [ oq 14 (.fa 0 (.t 3)), oq 15 (.ld none (.t 14)), oq 16 (.bin .eql (.t 15) (.v (.int .i64 5))), oq 17 (.mv (.t 16)), ⟨some 18, some (17, false), .q (.fa 0 (.t 3)), []⟩, ⟨some 19, some (17, false), .q (.ld none (.t 18)), []⟩, ⟨some 20, some (17, false), .q (.bin .eql (.t 19) (.v (.int .i64 6))), []⟩, oq 21 (.pick (.t 17) (.v (.bool true)) (.t 20))]) (.cond (.t 21) (.seq (.ops [ oq 23 (.fa 3 (.t 3)), oq 24 (.ld (some 4) (.t 23)), oq 25 (.mv (.t 1)), oq 26 (.mv (.t 2)), oe 27 (.call 44 [(.t 24), (.t 25), (.t 26)]), oq 22 (.mv (.t 27)), oq 28 (.ext 0 (.t 22)), oq 29 (.ext 1 (.t 22)), oe 7 (.alloc [(.int .i64 0), (.int .i64 0), (.bool false), (.bool false)]), oz (.store 4 (.t 7) (.t 28)), oq 8 (.mv (.t 29))]) (.seq (.ops [ oq 31 (.fa 7 (.t 3)), oq 32 (.ld (some 4) (.t 31)), oq 33 (.mv (.t 1)), oq 34 (.mv (.t 2)), oe 35 (.call 44 [(.t 32), (.t 33), (.t 34)]), oq 30 (.mv (.t 35)), oq 36 (.ext 0 (.t 30)), oq 37 (.ext 1 (.t 30)), oe 9 (.alloc [(.int .i64 0), (.int .i64 0), (.bool false), (.bool false)]), oz (.store 4 (.t 9) (.t 36)), oq 10 (.mv (.t 37))]) (.seq (.seq (.ops [ oq 38 (.mv (.t 8)), oq 39 (.un .not (.t 38)), oq 40 (.mv (.t 39)), ⟨some 41, some (40, false), .q (.fa 0 (.t 3)), []⟩, ⟨some 42, some (40, false), .q (.ld none (.t 41)), []⟩, ⟨some 43, some (40, false), .q (.bin .eql (.t 42) (.v (.int .i64 6))), []⟩, ⟨some 44, some (40, false), .q (.mv (.t 43)), []⟩, ⟨some 45, some (44, true), .q (.mv (.t 10)), []⟩, ⟨some 46, some (44, true), .q (.un .not (.t 45)), []⟩, ⟨some 47, some (40, false), .q (.pick (.t 44) (.t 46) (.v (.bool false))), []⟩, oq 48 (.pick (.t 40) (.v (.bool true)) (.t 47))]) (.cond (.t 48) (.seq (.ops [ oe 49 (.call 45 []), oz (.store 12 (.t 6) (.t 49))]) .ret) .skip)) (.seq (.ops [ oq 50 (.ld (some 4) (.t 7)), oq 51 (.fa 3 (.t 3)), oz (.store 4 (.t 51) (.t 50))]) (.seq (.seq (.ops [ oq 52 (.fa 0 (.t 3)), oq 53 (.ld none (.t 52)), oq 54 (.bin .eql (.t 53) (.v (.int .i64 6)))]) (.cond (.t 54) (.ops [ oq 55 (.ld (some 4) (.t 9)), oq 56 (.fa 7 (.t 3)), oz (.store 4 (.t 56) (.t 55))]) .skip)) (.seq (.ops [ oq 57 (.ld (some 12) (.t 3)), oz (.store 12 (.t 6) (.t 57))]) .ret)))))) .skip)) (.seq (.ops [ oq 58 (.bsl 12 []), oq 11 (.mv (.t 58))]) (.seq (.seq (.ops [ oq 59 (.fa 11 (.t 3)), oq 60 (.ld none (.t 59)), oq 61 (.len (.t 60)), oq 62 (.mv (.v (.int .i64 0)))]) (.block 0 (.loop c16_34))) (.seq (.ops [ oq 74 (.mv (.t 11)), oq 75 (.fa 11 (.t 3)), oz (.store 1 (.t 75) (.t 74))]) (.seq (.ops [ oq 76 (.ld (some 12) (.t 3)), oz (.store 12 (.t 6) (.t 76))]) .ret)))))
@[go_sem] def c16_34_wp := wp_of c16_34.eq_1
@[go_sem] def c16_45_wp := wp_of c16_45.eq_1
def c16 : AFn := ⟨77, [.c 6 (some 12)], c16_45⟩
theorem c16_ok : compF Tryz.prog Tryz.f16 = some c16 := by kernel_rfl
theorem a16 {args : List AV} {σ : ASt} {R : AV → ASt → Prop} (hl : args.length ≤ 77) (h : c16_45.wp Tryz.prog (RetQ [.c 6 (some 12)] R) (init args) σ) : ACalls Tryz.prog 16 args σ R := acalls_of Tryz.func16 c16_ok hl h
end Go.A
