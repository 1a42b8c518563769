/- Part 11 of what ParseTrees leans on: Qf Qd Qg CodeEl El Qh CodeQa Qa CodeQi Qi CodeQj Qj Ms Mv Mw Mx Mp. -/
import Derived.Test.YtaonfjelncbhjaaGreatDoorProg
import Derived.KernelRfl
import Derived.Test.YtaonfjelncbhjaaGreatDoorRows
import Derived.ProofKit
import Derived.LaidMore
import Derived.OpenShut
import Derived.Stop.LaidErr
import Derived.MakeChecks
import Derived.SevenTiedAt
import Derived.Lay
import Derived.ChangeArms
import Derived.Lib.LaidU8
import Derived.Lib.LaidTab
import Derived.Shelf.Vars
import Derived.HandedShaped
import Derived.Test.YtaonfjelncbhjaaGreatDoorZParseTreesj
set_option linter.defProp false
set_option linter.unusedSimpArgs false
set_option linter.unusedVariables false
set_option maxRecDepth 100000
namespace Go.A
open Go.Proofs Go.Lib
inductive Nf : Nd → Prop
 | num {n : Int} : 0 ≤ n → n ≤ 999999999999999999 → Nf (.mk 1 n [] .zero .zero [])
 | text {s : List UInt8} : sgP s ≠ none → s.length ≤ 8100 → Nf (.mk 2 0 s .zero .zero [])
 | truth {b : Int} : b = 0 ∨ b = 1 → Nf (.mk 3 b [] .zero .zero [])
 | fail {k : Nat} : k < 7 → Nf (.mk 4 (((k : Int) + 1) * 10000) [] .zero .zero [])
 | cell {r : Ref} : r.good = true → Nf (.mk 5 0 [] r .zero [])
 | area {r q : Ref} : r.good = true → q.good = true → Nf (.mk 6 0 [] r q [])
 | sign {op : Int} {x : Nd} : op = 7 ∨ op = 8 → Nf x → x.op ≠ 23 → Nf (.mk op 0 [] .zero .zero [x])
 | hund {x : Nd} : Nf x → x.op ≠ 23 → Nf (.mk 9 0 [] .zero .zero [x])
 | bin {i : Nat} {x y : Nd} : i < 12 → Nf x → x.op ≠ 23 → Nf y → y.op ≠ 23 → Nf (.mk (10 + (i : Int)) 0 [] .zero .zero [x, y])
 | call {s : List UInt8} {ks : List Nd} : NameOk s → s.length ≤ 8100 → (∀ k ∈ ks, Nf k) → (∀ k, ks = [k] → k.op ≠ 23) → Nf (.mk 22 0 s .zero .zero ks)
 | miss : Nf (.mk 23 0 [] .zero .zero [])
def insK (least op : Int) (t : List KT) : List KT := if least ≤ levelP op then t else (6, [40]) :: t ++ [(6, [41])]
def joinK : List (Int × List KT) → List KT
 | [] => []
 | p :: r => p.2 ++ r.flatMap fun q => (6, [44]) :: q.2
def toksK (op n : Int) (s : List UInt8) (a b : Ref) (ks : List (Int × List KT)) : List KT :=
 if op = 1 then [(1, textD n)] else if op = 2 then [(2, s)] else if op = 3 then [(3, truthP (!decide (n = 0)))] else if op = 4 then [(5, failT op n)] else if op = 5 then [(4, textP a)] else if op = 6 then [(4, textP a), (6, [58]), (4, textP b)]
 else if op = 7 ∨ op = 8 then (6, [if op = 7 then 45 else 43]) :: insK 6 (ks.getD 0 (0, [])).1 (ks.getD 0 (0, [])).2
 else if op = 9 then insK 7 (ks.getD 0 (0, [])).1 (ks.getD 0 (0, [])).2 ++ [(6, [37])]
 else if op = 22 then (3, s) :: (6, [40]) :: joinK ks ++ [(6, [41])]
 else if op = 23 then []
 else insK (levelP op) (ks.getD 0 (0, [])).1 (ks.getD 0 (0, [])).2 ++ [(6, signL.getD (op - 10).toNat [])] ++ insK (levelP op + 1) (ks.getD 1 (0, [])).1 (ks.getD 1 (0, [])).2
mutual
def Nd.toks : Nd → List KT
 | .mk op n s a b kids => toksK op n s a b (Nd.toksL kids)
def Nd.toksL : List Nd → List (Int × List KT)
 | [] => []
 | x :: xs => (x.op, x.toks) :: Nd.toksL xs
end
theorem Nd.toksL_map : ∀ l : List Nd, Nd.toksL l = l.map fun x => (x.op, x.toks)
 | [] => rfl
 | x :: xs => by rw [Nd.toksL, Nd.toksL_map xs]; rfl
theorem flat_snd {α : Type} (c : α) (f : Nd → List α) (l : List Nd) : (l.map fun x => (x.op, f x)).flatMap (fun q => c :: q.2) = l.flatMap fun x => c :: f x := by
 rw [List.flatMap_map]
def insD (least op : Int) (d : Nat) : Nat := if least ≤ levelP op then d else d + 1
def nestK (op : Int) (ks : List (Int × Nat)) : Nat :=
 if op = 7 ∨ op = 8 then 1 + insD 6 (ks.getD 0 (0, 0)).1 (ks.getD 0 (0, 0)).2
 else if op = 9 then insD 7 (ks.getD 0 (0, 0)).1 (ks.getD 0 (0, 0)).2
 else if op = 22 then 1 + (ks.map (·.2)).foldr max 0
 else if 10 ≤ op ∧ op ≤ 21 then max (insD (levelP op) (ks.getD 0 (0, 0)).1 (ks.getD 0 (0, 0)).2) (insD (levelP op + 1) (ks.getD 1 (0, 0)).1 (ks.getD 1 (0, 0)).2) else 0
mutual
def Nd.nest : Nd → Nat
 | .mk op _ _ _ _ kids => nestK op (Nd.nests kids)
def Nd.nests : List Nd → List (Int × Nat)
 | [] => []
 | x :: xs => (x.op, x.nest) :: Nd.nests xs
end
theorem Nd.nests_map : ∀ l : List Nd, Nd.nests l = l.map fun x => (x.op, x.nest)
 | [] => rfl
 | x :: xs => by rw [Nd.nests, Nd.nests_map xs]; rfl
theorem lev_bin (i : Nat) (h : i < 12) : 1 ≤ levelP (10 + (i : Int)) ∧ levelP (10 + (i : Int)) ≤ 5 := by
 unfold levelP
 rw [if_neg (by omega), if_neg (by omega), if_neg (by omega)]
 repeat' split
 all_goals decide
theorem spell_bin {i : Nat} (h : i < 12) (x y : Nd) : (Nd.mk (10 + (i : Int)) 0 [] .zero .zero [x, y]).spell = insT (levelP (10 + i)) x.op x.spell ++ signL.getD i [] ++ insT (levelP (10 + i) + 1) y.op y.spell := by
 rw [Nd.spell, Nd.spells, Nd.spells, Nd.spells, spellK]
 rw [if_neg (by omega), if_neg (by omega), if_neg (by omega), if_neg (by omega), if_neg (by omega), if_neg (by omega), if_neg (by omega), if_neg (by omega), if_neg (by omega), if_neg (by omega), show (10 + (i : Int) - 10).toNat = i by omega]
 rfl
theorem toks_bin {i : Nat} (h : i < 12) (x y : Nd) : (Nd.mk (10 + (i : Int)) 0 [] .zero .zero [x, y]).toks = insK (levelP (10 + i)) x.op x.toks ++ [(6, signL.getD i [])] ++ insK (levelP (10 + i) + 1) y.op y.toks := by
 rw [Nd.toks, Nd.toksL, Nd.toksL, Nd.toksL, toksK]
 rw [if_neg (by omega), if_neg (by omega), if_neg (by omega), if_neg (by omega), if_neg (by omega), if_neg (by omega), if_neg (by omega), if_neg (by omega), if_neg (by omega), if_neg (by omega), show (10 + (i : Int) - 10).toNat = i by omega]
 rfl
theorem nest_bin {i : Nat} (h : i < 12) (x y : Nd) : (Nd.mk (10 + (i : Int)) 0 [] .zero .zero [x, y]).nest = max (insD (levelP (10 + i)) x.op x.nest) (insD (levelP (10 + i) + 1) y.op y.nest) := by
 rw [Nd.nest, Nd.nests, Nd.nests, Nd.nests, nestK]
 rw [if_neg (by omega), if_neg (by omega), if_neg (by omega), if_pos (by omega)]
 rfl
theorem spell_sign {op : Int} (h : op = 7 ∨ op = 8) (x : Nd) : (Nd.mk op 0 [] .zero .zero [x]).spell = [if op = 7 then 45 else 43] ++ insT 6 x.op x.spell := by
 rcases h with rfl | rfl <;> rfl
theorem toks_sign {op : Int} (h : op = 7 ∨ op = 8) (x : Nd) : (Nd.mk op 0 [] .zero .zero [x]).toks = (6, [if op = 7 then 45 else 43]) :: insK 6 x.op x.toks := by
 rcases h with rfl | rfl <;> rfl
theorem nest_sign {op : Int} (h : op = 7 ∨ op = 8) (x : Nd) : (Nd.mk op 0 [] .zero .zero [x]).nest = 1 + insD 6 x.op x.nest := by
 rcases h with rfl | rfl <;> rfl
theorem spell_hund (x : Nd) : (Nd.mk 9 0 [] .zero .zero [x]).spell = insT 7 x.op x.spell ++ [37] := rfl
theorem toks_hund (x : Nd) : (Nd.mk 9 0 [] .zero .zero [x]).toks = insK 7 x.op x.toks ++ [(6, [37])] := rfl
theorem nest_hund (x : Nd) : (Nd.mk 9 0 [] .zero .zero [x]).nest = insD 7 x.op x.nest := rfl
def joinT (ks : List Nd) : List KT := match ks with
 | [] => []
 | x :: xs => x.toks ++ xs.flatMap fun k => (6, [44]) :: k.toks
def joinS (ks : List Nd) : List UInt8 := match ks with
 | [] => []
 | x :: xs => x.spell ++ xs.flatMap fun k => 44 :: k.spell
theorem spell_call (s : List UInt8) (ks : List Nd) : (Nd.mk 22 0 s .zero .zero ks).spell = s ++ ([40] ++ (joinS ks ++ [41])) := by
 rw [Nd.spell, Nd.spells_map]
 show s ++ 40 :: joinC _ ++ [41] = _
 cases ks with
 | nil => simp [joinC, joinS]
 | cons x xs =>
   rw [List.map_cons, joinC, flat_snd]
   simp [joinS]
theorem toks_call (s : List UInt8) (ks : List Nd) : (Nd.mk 22 0 s .zero .zero ks).toks = (3, s) :: (6, [40]) :: (joinT ks ++ [(6, [41])]) := by
 rw [Nd.toks, Nd.toksL_map]
 show (3, s) :: (6, [40]) :: joinK _ ++ [(6, [41])] = _
 cases ks with
 | nil => simp [joinK, joinT]
 | cons x xs =>
   rw [List.map_cons, joinK, flat_snd]
   simp [joinT]
theorem nest_call (s : List UInt8) (ks : List Nd) : (Nd.mk 22 0 s .zero .zero ks).nest = 1 + (ks.map Nd.nest).foldr max 0 := by
 rw [Nd.nest, Nd.nests_map]
 show 1 + ((ks.map fun x => (x.op, x.nest)).map (·.2)).foldr max 0 = _
 rw [List.map_map]
 rfl
theorem fail_text {k : Nat} (h : k < 7) : failT 4 (((k : Int) + 1) * 10000) = errL.getD k [] := by
 unfold failT
 rw [Int.mul_tdiv_cancel _ (by decide), if_neg (by omega), show ((k : Int) + 1 - 1).toNat = k by omega]
def OpB (x : List UInt8) : Prop := ∃ c t, x = c :: t ∧ c ≠ 61 ∧ c ≠ 62
theorem OpB.app {x : List UInt8} (h : OpB x) (y : List UInt8) : OpSt (x ++ y) := by
 obtain ⟨c, t, rfl, h1, h2⟩ := h
 exact ⟨c, t ++ y, rfl, h1, h2⟩
theorem OpB.word {x : List UInt8} (hn : x ≠ []) (h : ∀ c ∈ x, wordB c = true) : OpB x := by
 cases x with
 | nil => exact absurd rfl hn
 | cons c t =>
   have := h c (by simp)
   refine ⟨c, t, rfl, ?_, ?_⟩ <;> (rintro rfl; exact absurd this (by decide))
theorem insT_opb {least op : Int} {x : List UInt8} (h : OpB x) : OpB (insT least op x) := by
 unfold insT
 split
 ·exact h
 ·exact ⟨40, _, rfl, by decide, by decide⟩
theorem insT_lx {least op : Int} {x : List UInt8} {t : List KT} (h : Lx Bd x t) : Lx Bd (insT least op x) (insK least op t) := by
 unfold insT insK
 split
 ·exact h
 ·have e1 : (40 :: x ++ [41] : List UInt8) = [40] ++ (x ++ [41]) := rfl
  have e2 : ((6, [40]) :: t ++ [(6, [41])] : List KT) = [(6, [40])] ++ (t ++ [(6, [41])]) := rfl
  rw [e1, e2]
  exact (lx_sg 40 (by decide)).app (h.app ((lx_sg 41 (by decide)).weak (Q := Bd) fun _ _ => trivial) fun z _ => bd_cons (by decide) z) fun _ _ => trivial
theorem bd_flat (xs : List Nd) {z : List UInt8} (hz : Bd z) : Bd ((xs.flatMap fun k => 44 :: k.spell) ++ z) := by
 cases xs with
 | nil => exact hz
 | cons x xs => exact bd_cons (by decide) _
theorem err_opb (k : Nat) (hk : k < 7) : OpB (errL.getD k []) := by
 match k, hk with
 | 0, _ | 1, _ | 2, _ | 3, _ | 4, _ | 5, _ | 6, _ => exact ⟨35, _, rfl, by decide, by decide⟩
 | k + 7, h => omega
set_option maxHeartbeats 1000000 in
theorem nf_lex {n : Nd} (h : Nf n) : Lx Bd n.spell n.toks ∧ (n.op ≠ 23 → OpB n.spell) := by
 induction h with
 | @num n h0 h1 =>
   obtain ⟨t1, t2, t3⟩ := text_num h0
   exact ⟨(lx_num t1 t2 t3).weak fun _ h => h.nw, fun _ => OpB.word t1 t2⟩
 | @text s hs _ => exact ⟨lx_quote hs, fun _ => ⟨34, _, rfl, by decide, by decide⟩⟩
 | @truth b hb =>
   rcases hb with rfl | rfl
   ·exact ⟨(lx_name false_name).weak fun _ h => h.nw, fun _ => ⟨70, _, rfl, by decide, by decide⟩⟩
   ·exact ⟨(lx_name true_name).weak fun _ h => h.nw, fun _ => ⟨84, _, rfl, by decide, by decide⟩⟩
 | @fail k hk =>
   have e1 : (Nd.mk 4 (((k : Int) + 1) * 10000) [] .zero .zero []).spell = errL.getD k [] := fail_text hk
   have e2 : (Nd.mk 4 (((k : Int) + 1) * 10000) [] .zero .zero []).toks = [(5, errL.getD k [])] := by
    show [((5 : Int), failT 4 _)] = _
    rw [fail_text hk]
   rw [e1, e2]
   have hb : OpB (errL.getD k []) := err_opb k hk
   refine ⟨Lx.one ?_ fun y _ => step_err k hk y, fun _ => hb⟩
   obtain ⟨c, t, e, _⟩ := hb
   rw [e]; simp
 | @cell r hr =>
   obtain ⟨t1, t2, t3, t4⟩ := text_ref hr
   exact ⟨(lx_ref t1 (fun c hc => (t2 c hc).1) t3 t4 (great_same _ fun c hc => (t2 c hc).2)).weak fun _ h => h.nw, fun _ => OpB.word t1 fun c hc => (t2 c hc).1⟩
 | @area r q hr hq =>
   obtain ⟨t1, t2, t3, t4⟩ := text_ref hr
   obtain ⟨u1, u2, u3, u4⟩ := text_ref hq
   have l1 := lx_ref t1 (fun c hc => (t2 c hc).1) t3 t4 (great_same _ fun c hc => (t2 c hc).2)
   have l2 := lx_ref u1 (fun c hc => (u2 c hc).1) u3 u4 (great_same _ fun c hc => (u2 c hc).2)
   have e1 : (Nd.mk 6 0 [] r q []).spell = textP r ++ ([58] ++ textP q) := by
    show textP r ++ [58] ++ textP q = _
    rw [List.append_assoc]
   rw [e1]
   refine ⟨?_, fun _ => ?_⟩
   ·show Lx Bd _ ([(4, textP r)] ++ ([(6, [58])] ++ [(4, textP q)]))
    exact l1.app ((lx_sg 58 (by decide)).app (l2.weak (Q := Bd) fun _ h => h.nw) fun _ _ => trivial) fun z _ => (bd_cons (by decide) _).nw
   ·obtain ⟨c, t, e, h1, h2⟩ := OpB.word t1 fun c hc => (t2 c hc).1
    exact ⟨c, t ++ ([58] ++ textP q), by rw [e]; rfl, h1, h2⟩
 | @sign op x ho hx hne ih =>
   rw [spell_sign ho, toks_sign ho]
   refine ⟨?_, fun _ => ⟨_, _, rfl, ?_⟩⟩
   ·exact (lx_sg (if op = 7 then 45 else 43) (by split <;> decide)).app (insT_lx ih.1) fun _ _ => trivial
   ·split <;> exact ⟨by decide, by decide⟩
 | @hund x hx hne ih =>
   rw [spell_hund, toks_hund]
   refine ⟨(insT_lx ih.1).app ((lx_sg 37 (by decide)).weak fun _ _ => trivial) fun z _ => bd_cons (by decide) z, fun _ => ?_⟩
   obtain ⟨c, t, e, h1, h2⟩ := insT_opb (least := 7) (op := x.op) (ih.2 hne)
   exact ⟨c, t ++ [37], by rw [e]; rfl, h1, h2⟩
 | @bin i x y hi hx hnx hy hny ihx ihy =>
   rw [spell_bin hi, toks_bin hi]
   refine ⟨?_, fun _ => ?_⟩
   ·exact ((insT_lx ihx.1).app (lx_sign i hi) fun z _ => sign_bd i hi z).app (insT_lx ihy.1) fun z _ => (insT_opb (ihy.2 hny)).app z
   ·obtain ⟨c, t, e, h1, h2⟩ := insT_opb (least := levelP (10 + i)) (op := x.op) (ihx.2 hnx)
    exact ⟨c, _, by rw [e]; rfl, h1, h2⟩
 | @call s ks hs _ hk hm ih =>
   rw [spell_call, toks_call]
   refine ⟨?_, fun _ => ?_⟩
   ·have hj : Lx Bd (joinS ks) (joinT ks) := by
     cases ks with
     | nil => exact Lx.nil _
     | cons x xs =>
       have hf : ∀ l : List Nd, (∀ k ∈ l, k ∈ x :: xs) → Lx Bd (l.flatMap fun k => 44 :: k.spell) (l.flatMap fun k => (6, [44]) :: k.toks) := by
        intro l
        induction l with
        | nil => intro _; exact Lx.nil _
        | cons k l ihl =>
          intro hl
          rw [List.flatMap_cons, List.flatMap_cons]
          have e1 : (44 :: k.spell) ++ (l.flatMap fun k => 44 :: k.spell) = [44] ++ (k.spell ++ l.flatMap fun k => 44 :: k.spell) := rfl
          have e2 : (((6 : Int), [(44 : UInt8)]) :: k.toks) ++ (l.flatMap fun k => (6, [44]) :: k.toks) = [(6, [44])] ++ (k.toks ++ l.flatMap fun k => (6, [44]) :: k.toks) := rfl
          rw [e1, e2]
          exact (lx_sg 44 (by decide)).app ((ih k (hl k (by simp))).1.app (ihl fun q hq => hl q (by simp [hq])) fun z hz => bd_flat l hz) fun _ _ => trivial
       exact (ih x (by simp)).1.app (hf xs fun k hk => by simp [hk]) fun z hz => bd_flat xs hz
    show Lx Bd _ ([(3, s)] ++ ([(6, [40])] ++ (joinT ks ++ [(6, [41])])))
    exact (lx_name hs).app ((lx_sg 40 (by decide)).app (hj.app ((lx_sg 41 (by decide)).weak (Q := Bd) fun _ _ => trivial) fun z _ => bd_cons (by decide) z) fun _ _ => trivial) fun z _ => (bd_cons (by decide) _).nw
   ·obtain ⟨c, t, e, h1, h2⟩ := OpB.word (nameB_ne hs.name) hs.word
    exact ⟨c, _, by rw [e]; rfl, h1, h2⟩
 | miss => exact ⟨Lx.nil _, fun h => absurd rfl h⟩
theorem map_kt_sh (ts : List Tok) (a c : Nat) : (ts.map (Tok.sh a c)).map kt = ts.map kt := by
 rw [List.map_map]
 rfl
theorem lex_print {n : Nd} (h : Nf n) (hl : n.spell.length ≤ 2000) : (lexP n.spell).2.2 = 0 ∧ (lexP n.spell).1.map kt = n.toks ++ [(0, [])] := by
 have h1 := (nf_lex h).1 [] (.inl rfl)
 rw [List.append_nil, relP_nil] at h1
 rw [lexP_rel hl]
 generalize relP n.spell = R at *
 cases R with
 | inl j => simp [kts] at h1
 | inr x =>
   obtain ⟨ts, m⟩ := x
   simp only [kts, List.map_nil, Option.map_some, List.append_nil, Option.some.injEq] at h1
   refine ⟨rfl, ?_⟩
   show (([] : List Tok) ++ ts.map (Tok.sh 0 0) ++ [_]).map kt = _
   rw [List.nil_append, List.map_append, map_kt_sh, h1]
   rfl
end Go.A
namespace Go.A
open Go.Proofs Go.Lib
section
variable {T : List Tok}
theorem cur_bad {s : PSt} (h : s.err ≠ 0) : curT T s = endT := if_pos h
theorem isOp_bad {s : PSt} (h : s.err ≠ 0) (x : List UInt8) : isOp T s x = false := by unfold isOp; rw [cur_bad h]; simp [endT]
theorem sgn_bad {s : PSt} (h : s.err ≠ 0) (l : Nat) : sgn T s l = false := by unfold sgn; rw [cur_bad h]; simp [endT]
theorem fail_bad {s : PSt} (h : s.err ≠ 0) (e : Int) : failP T s e = s := if_neg h
theorem must_bad {s : PSt} (h : s.err ≠ 0) (x : List UInt8) : mustP T s x = s := by unfold mustP; rw [isOp_bad h, fail_bad h]; simp
structure StayF (T : List Tok) (f : Nat) : Prop where
 betw : ∀ lvl s r, betwP T f lvl s = some r → s.err ≠ 0 → r.2 = s
 loop : ∀ lvl n s r, loopP T f lvl n s = some r → s.err ≠ 0 → r.2 = s
 signed : ∀ s r, signedP T f s = some r → s.err ≠ 0 → r.2 = s
 hundred : ∀ s r, hundredP T f s = some r → s.err ≠ 0 → r.2 = s
 hloop : ∀ n s r, hloopP T f n s = some r → s.err ≠ 0 → r.2 = s
 prim : ∀ s r, primP T f s = some r → s.err ≠ 0 → r.2 = s
theorem stayF : ∀ f, StayF T f
 | 0 => by
   constructor
   all_goals intros
   all_goals (rename_i h _; simp only [betwP, loopP, signedP, hundredP, hloopP, primP, reduceCtorEq] at h)
 | f + 1 => by
   have ih := stayF f
   constructor
   ·intro lvl s r h he
    rw [betwP] at h
    split at h
    ·exact ih.signed s r h he
    ·split at h
     ·cases h
     ·rename_i r1 h1
      have e1 := ih.betw _ _ _ h1 he
      have := ih.loop _ _ _ _ h (by rw [e1]; exact he)
      rw [this, e1]
   ·intro lvl n s r h he
    rw [loopP, sgn_bad he] at h
    simp only [Bool.false_eq_true, if_false, Option.some.injEq] at h
    rw [← h]
   ·intro s r h he
    rw [signedP, isOp_bad he, isOp_bad he] at h
    simp only [Bool.false_eq_true, if_false] at h
    exact ih.hundred s r h he
   ·intro s r h he
    rw [hundredP] at h
    split at h
    ·cases h
    ·rename_i r1 h1
     have e1 := ih.prim _ _ h1 he
     have := ih.hloop _ _ _ h (by rw [e1]; exact he)
     rw [this, e1]
   ·intro n s r h he
    rw [hloopP, isOp_bad he] at h
    simp only [Bool.false_eq_true, if_false, Option.some.injEq] at h
    rw [← h]
   ·intro s r h he
    rw [primP, cur_bad he, isOp_bad he, fail_bad he] at h
    simp [endT] at h
    rw [← h]
end
/-! Such texts' tokens. -/
end Go.A
namespace Go.A
open Go.Proofs Go.Lib
def PSt.adv (s : PSt) (n : Nat) : PSt := { s with i := s.i + n }
theorem adv_adv (s : PSt) (n m : Nat) : (s.adv n).adv m = s.adv (n + m) := by simp [PSt.adv, Nat.add_assoc]
theorem adv_next (s : PSt) : s.next = s.adv 1 := rfl
def Fol (p : KT) : Prop := p ≠ (6, [40]) ∧ p ≠ (6, [58])
def NoPct (p : KT) : Prop := p ≠ (6, [37])
def StopL (l : Nat) (p : KT) : Prop := ∀ j, l ≤ j → j < 5 → ¬ (p.1 = 6 ∧ p.2 ∈ levelsL.getD j [])
structure Okk (l : Nat) (p : KT) : Prop where
 fol : Fol p
 pct : NoPct p
 stop : StopL l p
theorem Okk.up {l m : Nat} {p : KT} (h : Okk l p) (hm : l ≤ m) : Okk m p := ⟨h.fol, h.pct, fun j hj => h.stop j (Nat.le_trans hm hj)⟩
theorem okk_end : Okk 0 (0, []) := ⟨⟨by decide, by decide⟩, by unfold NoPct; decide, fun j _ _ h => absurd h.1 (by decide)⟩
theorem okk_one (c : UInt8) (h : c = 41 ∨ c = 44) : Okk 0 (6, [c]) := by
 refine ⟨?_, ?_, ?_⟩
 ·rcases h with rfl | rfl <;> exact ⟨by decide, by decide⟩
 ·rcases h with rfl | rfl <;> (unfold NoPct; decide)
 ·intro j _ hj hh
  have := hh.2
  rcases h with rfl | rfl <;> (match j, hj with | 0, _ | 1, _ | 2, _ | 3, _ | 4, _ => revert this; decide)
theorem sign_level (i : Nat) (h : i < 12) : ∃ l : Nat, l < 5 ∧ levelP (10 + (i : Int)) = l + 1 ∧ signL.getD i [] ∈ levelsL.getD l [] ∧ Okk (l + 1) (6, signL.getD i []) ∧ idxP signL (signL.getD i []) = i := by
 have key : ∀ (l : Nat), (signL.getD i [] ∈ levelsL.getD l [] ∧ l < 5 ∧ levelP (10 + (i : Int)) = l + 1 ∧ (∀ j < 5, l + 1 ≤ j → signL.getD i [] ∉ levelsL.getD j []) ∧ signL.getD i [] ≠ [40] ∧ signL.getD i [] ≠ [58] ∧ signL.getD i [] ≠ [37] ∧ idxP signL (signL.getD i []) = i) → ∃ l : Nat, l < 5 ∧ levelP (10 + (i : Int)) = l + 1 ∧ signL.getD i [] ∈ levelsL.getD l [] ∧ Okk (l + 1) (6, signL.getD i []) ∧ idxP signL (signL.getD i []) = i := fun l hl => ⟨l, hl.2.1, hl.2.2.1, hl.1, ⟨⟨fun e => hl.2.2.2.2.1 (by injection e), fun e => hl.2.2.2.2.2.1 (by injection e)⟩, fun e => hl.2.2.2.2.2.2.1 (by injection e), fun j h1 h2 h3 => hl.2.2.2.1 j h2 h1 h3.2⟩, hl.2.2.2.2.2.2.2⟩
 match i, h with
 | 0, _ | 1, _ => exact key 2 (by decide)
 | 2, _ | 3, _ => exact key 3 (by decide)
 | 4, _ => exact key 4 (by decide)
 | 5, _ => exact key 1 (by decide)
 | 6, _ | 7, _ | 8, _ | 9, _ | 10, _ | 11, _ => exact key 0 (by decide)
 | i + 12, h => omega
section
variable {T : List Tok}
theorem at_cons {i : Nat} {p : KT} {us : List KT} (h : (T.map kt).drop i = p :: us) : (T.getD i endT).kind = p.1 ∧ (T.getD i endT).text = p.2 ∧ (T.map kt).drop (i + 1) = us := by
 have hi : i < (T.map kt).length := by
  rcases Nat.lt_or_ge i (T.map kt).length with h1 | h1
  ·exact h1
  ·rw [List.drop_eq_nil_of_le h1] at h; cases h
 rw [List.drop_eq_getElem_cons hi] at h
 injection h with h1 h2
 rw [List.getElem_map] at h1
 have hT : i < T.length := by simpa using hi
 have e : T.getD i endT = T[i] := by rw [List.getD_eq_getElem?_getD, List.getElem?_eq_getElem hT]; rfl
 rw [e, ← h1]
 exact ⟨rfl, rfl, h2⟩
theorem cur_cons {s : PSt} {p : KT} {us : List KT} (h0 : s.err = 0) (h : (T.map kt).drop s.i = p :: us) : (curT T s).kind = p.1 ∧ (curT T s).text = p.2 := by
 rw [cur_at h0]
 exact ⟨(at_cons h).1, (at_cons h).2.1⟩
theorem cur_pair {s : PSt} {a : Int} {b : List UInt8} {us : List KT} (h0 : s.err = 0) (h : (T.map kt).drop s.i = (a, b) :: us) : (curT T s).kind = a ∧ (curT T s).text = b := cur_cons h0 h
theorem op_cons {s : PSt} {p : KT} {us : List KT} (h0 : s.err = 0) (h : (T.map kt).drop s.i = p :: us) (x : List UInt8) : isOp T s x = decide (p = (6, x)) := by
 obtain ⟨h1, h2⟩ := cur_cons h0 h
 unfold isOp
 rw [h1, h2]
 obtain ⟨a, b⟩ := p
 by_cases ha : a = 6 <;> by_cases hb : b = x <;> simp [ha, hb]
theorem sgn_cons {s : PSt} {p : KT} {us : List KT} (h0 : s.err = 0) (h : (T.map kt).drop s.i = p :: us) (l : Nat) : sgn T s l = decide (p.1 = 6 ∧ p.2 ∈ levelsL.getD l []) := by
 obtain ⟨h1, h2⟩ := cur_cons h0 h
 unfold sgn
 rw [h1, h2, Bool.decide_and]
theorem drop_adv {s : PSt} {ts us : List KT} (h : (T.map kt).drop s.i = ts ++ us) : (T.map kt).drop (s.adv ts.length).i = us := by
 show (T.map kt).drop (s.i + ts.length) = us
 rw [← List.drop_drop, h, List.drop_left]
def Res (n : Nd) (len d : Nat) (s : PSt) (r : Nd × PSt) : Prop := (r.1 = n ∧ r.2 = s.adv len ∧ s.deep + d ≤ 40) ∨ (r.2.err = 12 ∧ 40 < s.deep + d)
structure Here (T : List Tok) (s : PSt) (ts : List KT) (p : KT) (us : List KT) : Prop where
 err : s.err = 0
 d1 : s.deep ≤ 40
 at' : (T.map kt).drop s.i = ts ++ p :: us
theorem Here.adv {s : PSt} {ts : List KT} {p : KT} {us : List KT} (h : Here T s ts p us) : (s.adv ts.length).err = 0 ∧ (s.adv ts.length).deep = s.deep ∧ (T.map kt).drop (s.adv ts.length).i = p :: us := ⟨h.err, rfl, drop_adv h.at'⟩
variable (T)
def RP (n : Nd) (ts : List KT) (d : Nat) : Prop := ∀ f s r p us, primP T f s = some r → Here T s ts p us → Fol p → Res n ts.length d s r
def RHu (n : Nd) (ts : List KT) (d : Nat) : Prop := ∀ f s r p us, hundredP T f s = some r → Here T s ts p us → Fol p → (∃ f', hloopP T f' n (s.adv ts.length) = some r ∧ s.deep + d ≤ 40) ∨ (r.2.err = 12 ∧ 40 < s.deep + d)
def RSg (n : Nd) (ts : List KT) (d : Nat) : Prop := ∀ f s r p us, signedP T f s = some r → Here T s ts p us → Fol p → NoPct p → Res n ts.length d s r
def RLo (l : Nat) (n : Nd) (ts : List KT) (d : Nat) : Prop := ∀ f s r p us, betwP T f l s = some r → Here T s ts p us → Okk (l + 1) p → (∃ f', loopP T f' l n (s.adv ts.length) = some r ∧ s.deep + d ≤ 40) ∨ (r.2.err = 12 ∧ 40 < s.deep + d)
def RBe (l : Nat) (n : Nd) (ts : List KT) (d : Nat) : Prop := ∀ f s r p us, betwP T f l s = some r → Here T s ts p us → Okk l p → Res n ts.length d s r
def NoSg (ts : List KT) : Prop := ∃ p us, ts = p :: us ∧ p ≠ (6, [45]) ∧ p ≠ (6, [43])
variable {T}
theorem NoSg.app {ts : List KT} (h : NoSg ts) (us : List KT) : NoSg (ts ++ us) := by
 obtain ⟨p, vs, rfl, h1, h2⟩ := h
 exact ⟨p, vs ++ us, rfl, h1, h2⟩
theorem RP.hu {n : Nd} {ts : List KT} {d : Nat} (h : RP T n ts d) : RHu T n ts d := by
 intro f s r p us hr hh hp
 cases f with
 | zero => simp [hundredP] at hr
 | succ f =>
   rw [hundredP] at hr
   split at hr
   ·cases hr
   ·rename_i r1 h1
    rcases h f s r1 p us h1 hh hp with ⟨e1, e2, e3⟩ | ⟨e1, e2⟩
    ·rw [e1, e2] at hr
     exact .inl ⟨f, hr, e3⟩
    ·have := (stayF f).hloop _ _ _ hr (by rw [e1]; decide)
     exact .inr ⟨by rw [this]; exact e1, e2⟩
theorem RHu.sg {n : Nd} {ts : List KT} {d : Nat} (h : RHu T n ts d) (hs : NoSg ts) : RSg T n ts d := by
 intro f s r p us hr hh hp hn
 cases f with
 | zero => simp [signedP] at hr
 | succ f =>
   obtain ⟨q, vs, hts, q1, q2⟩ := hs
   have hat := hh.at'
   rw [hts, List.cons_append] at hat
   rw [signedP, op_cons hh.err hat, op_cons hh.err hat, decide_eq_false q1, decide_eq_false q2] at hr
   simp only [Bool.false_eq_true, if_false] at hr
   rcases h f s r p us hr hh hp with ⟨f', e1, e2⟩ | e
   ·cases f' with
    | zero => simp [hloopP] at e1
    | succ f' =>
      obtain ⟨a1, a2, a3⟩ := hh.adv
      rw [hloopP, op_cons a1 a3, decide_eq_false hn] at e1
      simp only [Bool.false_eq_true, if_false, Option.some.injEq] at e1
      rw [← e1]
      exact .inl ⟨rfl, rfl, e2⟩
   ·exact .inr e
theorem RSg.be {n : Nd} {ts : List KT} {d : Nat} (h : RSg T n ts d) : RBe T 5 n ts d := by
 intro f s r p us hr hh hp
 cases f with
 | zero => simp [betwP] at hr
 | succ f =>
   rw [betwP, if_pos rfl] at hr
   exact h f s r p us hr hh hp.fol hp.pct
theorem RBe.lo {l : Nat} {n : Nd} {ts : List KT} {d : Nat} (h : RBe T (l + 1) n ts d) (hl : l < 5) : RLo T l n ts d := by
 intro f s r p us hr hh hp
 cases f with
 | zero => simp [betwP] at hr
 | succ f =>
   rw [betwP, if_neg (by omega)] at hr
   split at hr
   ·cases hr
   ·rename_i r1 h1
    rcases h f s r1 p us h1 hh hp with ⟨e1, e2, e3⟩ | ⟨e1, e2⟩
    ·rw [e1, e2] at hr
     exact .inl ⟨f, hr, e3⟩
    ·have := (stayF f).loop _ _ _ _ hr (by rw [e1]; decide)
     exact .inr ⟨by rw [this]; exact e1, e2⟩
theorem RLo.be {l : Nat} {n : Nd} {ts : List KT} {d : Nat} (h : RLo T l n ts d) (hl : l < 5) : RBe T l n ts d := by
 intro f s r p us hr hh hp
 rcases h f s r p us hr hh (hp.up (Nat.le_succ _)) with ⟨f', e1, e2⟩ | e
 ·cases f' with
  | zero => simp [loopP] at e1
  | succ f' =>
    obtain ⟨a1, a2, a3⟩ := hh.adv
    rw [loopP, sgn_cons a1 a3, decide_eq_false (hp.stop l (Nat.le_refl _) hl)] at e1
    simp only [Bool.false_eq_true, if_false, Option.some.injEq] at e1
    rw [← e1]
    exact .inl ⟨rfl, rfl, e2⟩
 ·exact .inr e
theorem RBe.down {m : Nat} {n : Nd} {ts : List KT} {d : Nat} (h : RBe T m n ts d) (hm : m ≤ 5) : ∀ l, l ≤ m → RBe T l n ts d := by
 induction m with
 | zero =>
   intro l hl
   obtain rfl : l = 0 := by omega
   exact h
 | succ m ih =>
   intro l hl
   rcases Nat.lt_or_ge l (m + 1) with h1 | h1
   ·exact ih ((h.lo (by omega)).be (by omega)) (by omega) l (by omega)
   ·obtain rfl : l = m + 1 := by omega
    exact h
structure Top (T : List Tok) (n : Nd) : Prop where
 hu : 7 ≤ levelP n.op → RHu T n n.toks n.nest ∧ NoSg n.toks
 sg : levelP n.op = 6 → RSg T n n.toks n.nest
 lo : ∀ l : Nat, levelP n.op = l + 1 → l < 5 → RLo T l n n.toks n.nest
theorem lev_rng (op : Int) : 1 ≤ levelP op ∧ levelP op ≤ 8 := by
 unfold levelP
 repeat' split
 all_goals decide
theorem Top.be {n : Nd} (h : Top T n) {l : Nat} (hl : l ≤ 5) (hlv : (l : Int) + 1 ≤ levelP n.op) : RBe T l n n.toks n.nest := by
 have hr := lev_rng n.op
 by_cases h7 : 7 ≤ levelP n.op
 ·obtain ⟨h1, h2⟩ := h.hu h7
  exact (h1.sg h2).be.down (by omega) l hl
 by_cases h6 : levelP n.op = 6
 ·exact (h.sg h6).be.down (by omega) l hl
 ·obtain ⟨m, hm⟩ : ∃ m : Nat, levelP n.op = m + 1 := ⟨(levelP n.op - 1).toNat, by omega⟩
  exact ((h.lo m hm (by omega)).be (by omega)).down (by omega) l (by omega)
theorem fail_deep {s : PSt} (h0 : s.err = 0) (hd : 40 < s.deep + 1) : (stepP1 (enterP T s)).err = 12 := by
 unfold enterP
 rw [if_pos hd]
 unfold failP stepP1
 dsimp only
 rw [if_pos h0]
 rfl
theorem enter_ok {s : PSt} (h0 : s.err = 0) (hd : ¬ 40 < s.deep + 1) : stepP1 (enterP T s) = ⟨s.i + 1, s.deep + 1, s.err, s.bad⟩ := by
 unfold enterP
 rw [if_neg hd]
 unfold stepP1
 dsimp only
 rw [if_pos h0]
 rfl
theorem must_ok {s : PSt} {x : List UInt8} {us : List KT} (h0 : s.err = 0) (h : (T.map kt).drop s.i = (6, x) :: us) : mustP T s x = s.next := by
 unfold mustP
 rw [op_cons h0 h, decide_eq_true rfl, if_pos rfl]
theorem bracket {n : Nd} (h : RBe T 0 n n.toks n.nest) : RP T n ((6, [40]) :: n.toks ++ [(6, [41])]) (n.nest + 1) := by
 intro f s r p us hr hh hp
 cases f with
 | zero => simp [primP] at hr
 | succ f =>
   have hat := hh.at'
   rw [List.cons_append, List.cons_append] at hat
   obtain ⟨c1, c2⟩ := cur_pair hh.err hat
   have c3 := op_cons hh.err hat [40]
   rw [primP, c1, c3] at hr
   simp only [Int.reduceEq, if_false, decide_true, if_true] at hr
   split at hr
   ·cases hr
   ·rename_i r1 h1
    injection hr with hr
    rw [← hr]
    have hat2 := (at_cons hat).2.2
    rw [List.append_assoc] at hat2
    by_cases hd : 40 < s.deep + 1
    ·have he := fail_deep (T := T) hh.err hd
     have e1 := (stayF f).betw _ _ _ h1 (by rw [he]; decide)
     refine .inr ⟨?_, by omega⟩
     show (mustP T r1.2 [41]).err = 12
     rw [e1, must_bad (by rw [he]; decide)]
     exact he
    ·rw [enter_ok hh.err hd] at h1
     have h2 := h f _ r1 (6, [41]) (p :: us) h1 ⟨hh.err, by show s.deep + 1 ≤ 40; omega, hat2⟩ (okk_one 41 (.inl rfl))
     rcases h2 with ⟨e1, e2, e3⟩ | ⟨e1, e2⟩
     ·refine .inl ⟨e1, ?_, by have e3 : s.deep + 1 + (n.nest : Int) ≤ 40 := e3; omega⟩
      have a3 := drop_adv (s := ⟨s.i + 1, s.deep + 1, s.err, s.bad⟩) hat2
      show leaveP (mustP T r1.2 [41]) = _
      rw [e2, must_ok (s := (⟨s.i + 1, s.deep + 1, s.err, s.bad⟩ : PSt).adv n.toks.length) (us := p :: us) hh.err a3]
      unfold leaveP PSt.next PSt.adv
      dsimp only
      rw [List.length_append, List.length_cons, List.length_cons, List.length_nil]
      congr 1
      ·omega
      ·omega
     ·refine .inr ⟨?_, by have e2 : 40 < s.deep + 1 + (n.nest : Int) := e2; omega⟩
      show (mustP T r1.2 [41]).err = 12
      rw [must_bad (by rw [e1]; decide)]
      exact e1
theorem bracket_ns (ts : List KT) : NoSg ((6, [40]) :: ts ++ [(6, [41])]) := ⟨_, _, rfl, by decide, by decide⟩
/-! A kid, in brackets if it binds less closely. -/
theorem Top.item_be {n : Nd} (h : Top T n) {l : Nat} (hl : l ≤ 5) : RBe T l n (insK ((l : Int) + 1) n.op n.toks) (insD ((l : Int) + 1) n.op n.nest) := by
 unfold insK insD
 split
 ·rename_i hlv
  exact h.be hl hlv
 ·have h0 := h.be (l := 0) (by omega) (by have := lev_rng n.op; omega)
  exact ((bracket h0).hu.sg (bracket_ns _)).be.down (by omega) l hl
theorem Top.item_lo {n : Nd} (h : Top T n) {l : Nat} (hl : l < 5) : RLo T l n (insK ((l : Int) + 1) n.op n.toks) (insD ((l : Int) + 1) n.op n.nest) := by
 by_cases he : levelP n.op = (l : Int) + 1
 ·unfold insK insD
  rw [if_pos (by omega), if_pos (by omega)]
  exact h.lo l he hl
 ·unfold insK insD
  split
  ·rename_i hlv
   exact (h.be (l := l + 1) (by omega) (by have := lev_rng n.op; omega)).lo hl
  ·have h0 := h.be (l := 0) (by omega) (by have := lev_rng n.op; omega)
   exact (((bracket h0).hu.sg (bracket_ns _)).be.down (by omega) (l + 1) (by omega)).lo hl
theorem Top.item_sg {n : Nd} (h : Top T n) : RSg T n (insK 6 n.op n.toks) (insD 6 n.op n.nest) := by
 unfold insK insD
 split
 ·by_cases h6 : levelP n.op = 6
  ·exact h.sg h6
  ·obtain ⟨h1, h2⟩ := h.hu (by omega)
   exact h1.sg h2
 ·have h0 := h.be (l := 0) (by omega) (by have := lev_rng n.op; omega)
  exact (bracket h0).hu.sg (bracket_ns _)
theorem Top.item_hu {n : Nd} (h : Top T n) : RHu T n (insK 7 n.op n.toks) (insD 7 n.op n.nest) ∧ NoSg (insK 7 n.op n.toks) := by
 unfold insK insD
 split
 ·exact h.hu (by omega)
 ·have h0 := h.be (l := 0) (by omega) (by have := lev_rng n.op; omega)
  exact ⟨(bracket h0).hu, bracket_ns _⟩
/-! Leaves. -/
theorem leaf_top {n : Nd} (hl : levelP n.op = 8) (hn : n.nest = 0) (hs : NoSg n.toks) (h : RP T n n.toks 0) : Top T n :=
 ⟨fun _ => ⟨by rw [hn]; exact h.hu, hs⟩, fun e => by omega, fun l e hl5 => by omega⟩
theorem res_leaf {n : Nd} {s : PSt} {r : Nd × PSt} {len : Nat} (hd : s.deep ≤ 40) (h : some (n, s.adv len) = some r) : Res n len 0 s r := by
 injection h with h
 rw [← h]
 exact .inl ⟨rfl, rfl, by omega⟩
theorem par_num {n : Int} (h0 : 0 ≤ n) (h1 : n ≤ 999999999999999999) : Top T (.mk 1 n [] .zero .zero []) := by
 refine leaf_top rfl rfl ⟨_, _, rfl, by simp, by simp⟩ ?_
 intro f s r p us hr hh hp
 cases f with
 | zero => simp [primP] at hr
 | succ f =>
   obtain ⟨c1, c2⟩ := cur_pair hh.err (show (T.map kt).drop s.i = (1, textD n) :: p :: us from hh.at')
   rw [primP, c1, c2, if_pos rfl, parse_text_d (by omega)] at hr
   exact res_leaf hh.d1 hr
theorem par_text (s' : List UInt8) : Top T (.mk 2 0 s' .zero .zero []) := by
 refine leaf_top rfl rfl ⟨_, _, rfl, by simp, by simp⟩ ?_
 intro f s r p us hr hh hp
 cases f with
 | zero => simp [primP] at hr
 | succ f =>
   obtain ⟨c1, c2⟩ := cur_pair hh.err (show (T.map kt).drop s.i = (2, s') :: p :: us from hh.at')
   rw [primP, c1, c2, if_neg (by decide), if_pos rfl] at hr
   exact res_leaf hh.d1 hr
theorem err_idx : ∀ k < 7, idxP errL (errL.getD k []) = k := by decide
theorem par_fail {k : Nat} (hk : k < 7) : Top T (.mk 4 (((k : Int) + 1) * 10000) [] .zero .zero []) := by
 refine leaf_top rfl rfl ⟨_, _, rfl, by simp, by simp⟩ ?_
 intro f s r p us hr hh hp
 cases f with
 | zero => simp [primP] at hr
 | succ f =>
   obtain ⟨c1, c2⟩ := cur_pair hh.err (show (T.map kt).drop s.i = (5, failT 4 (((k : Int) + 1) * 10000)) :: p :: us from hh.at')
   have hi := err_idx k hk
   rw [primP, c1, c2, if_neg (by decide), if_neg (by decide), if_pos rfl, fail_text hk, hi] at hr
   exact res_leaf hh.d1 hr
theorem par_truth {b : Int} (hb : b = 0 ∨ b = 1) : Top T (.mk 3 b [] .zero .zero []) := by
 refine leaf_top rfl rfl ⟨_, _, rfl, by simp, by simp⟩ ?_
 intro f s r p us hr hh hp
 cases f with
 | zero => simp [primP] at hr
 | succ f =>
   have hat : (T.map kt).drop s.i = (3, truthP (!decide (b = 0))) :: p :: us := hh.at'
   obtain ⟨c1, c2⟩ := cur_pair hh.err hat
   obtain ⟨n1, n2, _⟩ := at_cons (at_cons hat).2.2
   rw [primP, c1, if_neg (by decide), if_neg (by decide), if_neg (by decide), if_neg (by decide), if_pos rfl] at hr
   cases f with
   | zero => simp [nameP] at hr
   | succ f =>
     rw [nameP, n1, n2, c2, if_neg (fun e => hp.1 (Prod.ext e.1 e.2))] at hr
     rcases hb with rfl | rfl
     ·rw [if_neg (by decide), if_pos (by decide)] at hr
      exact res_leaf hh.d1 hr
     ·rw [if_pos (by decide)] at hr
      exact res_leaf hh.d1 hr
theorem par_cell {r' : Ref} (hg : r'.good = true) : Top T (.mk 5 0 [] r' .zero []) := by
 refine leaf_top rfl rfl ⟨_, _, rfl, by simp, by simp⟩ ?_
 intro f s r p us hr hh hp
 cases f with
 | zero => simp [primP] at hr
 | succ f =>
   have hat : (T.map kt).drop s.i = (4, textP r') :: p :: us := hh.at'
   obtain ⟨c1, c2⟩ := cur_pair hh.err hat
   have hn := op_cons (s := s.next) hh.err (at_cons hat).2.2 [58]
   rw [decide_eq_false hp.2] at hn
   rw [primP, c1, if_neg (by decide), if_neg (by decide), if_neg (by decide), if_pos rfl] at hr
   unfold areaP refT at hr
   rw [if_pos hn, c2, parse_text hg] at hr
   exact res_leaf hh.d1 hr
theorem par_area {r' q' : Ref} (hg : r'.good = true) (hq : q'.good = true) : Top T (.mk 6 0 [] r' q' []) := by
 refine leaf_top rfl rfl ⟨_, _, rfl, by simp, by simp⟩ ?_
 intro f s r p us hr hh hp
 cases f with
 | zero => simp [primP] at hr
 | succ f =>
   have hat : (T.map kt).drop s.i = (4, textP r') :: (6, [58]) :: (4, textP q') :: p :: us := hh.at'
   obtain ⟨c1, c2⟩ := cur_pair hh.err hat
   have hat1 := (at_cons hat).2.2
   have hat2 := (at_cons hat1).2.2
   have hn := op_cons (s := s.next) hh.err hat1 [58]
   rw [decide_eq_true rfl] at hn
   obtain ⟨d1, d2⟩ := cur_pair (s := s.next.next) hh.err hat2
   rw [primP, c1, if_neg (by decide), if_neg (by decide), if_neg (by decide), if_pos rfl] at hr
   unfold areaP refT at hr
   rw [if_neg (by rw [hn]; decide), d1, if_neg (by decide), c2, d2, parse_text hg, parse_text hq] at hr
   exact res_leaf hh.d1 hr
/-! Nodes with kids. -/
theorem par_sign {op : Int} {x : Nd} (ho : op = 7 ∨ op = 8) (h : Top T x) : Top T (.mk op 0 [] .zero .zero [x]) := by
 have hl : levelP op = 6 := by rcases ho with rfl | rfl <;> rfl
 refine ⟨fun e => by have : 7 ≤ levelP op := e; omega, fun _ => ?_, fun l e hl5 => by have : levelP op = l + 1 := e; omega⟩
 rw [toks_sign ho, nest_sign ho]
 have hi := h.item_sg
 generalize insK 6 x.op x.toks = ts at *
 generalize insD 6 x.op x.nest = d at *
 intro f s r p us hr hh hp hn
 cases f with
 | zero => simp [signedP] at hr
 | succ f =>
   have hat := hh.at'
   rw [List.cons_append] at hat
   have hat2 := (at_cons hat).2.2
   have go : ∀ r1, signedP T f (stepP1 (enterP T s)) = some r1 → Res (.mk op 0 [] .zero .zero [x]) (ts.length + 1) (1 + d) s (.mk op 0 [] .zero .zero [r1.1], leaveP r1.2) := by
    intro r1 h1
    by_cases hd : 40 < s.deep + 1
    ·have he := fail_deep (T := T) hh.err hd
     have e1 := (stayF f).signed _ _ h1 (by rw [he]; decide)
     refine .inr ⟨?_, by omega⟩
     show r1.2.err = 12
     rw [e1]
     exact he
    ·rw [enter_ok hh.err hd] at h1
     rcases hi f _ r1 p us h1 ⟨hh.err, by show s.deep + 1 ≤ 40; omega, hat2⟩ hp hn with ⟨e1, e2, e3⟩ | ⟨e1, e2⟩
     ·refine .inl ⟨by rw [e1], ?_, by have e3 : s.deep + 1 + (d : Int) ≤ 40 := e3; omega⟩
      show leaveP r1.2 = _
      rw [e2]
      unfold leaveP PSt.adv
      dsimp only
      congr 1
      ·omega
      ·omega
     ·exact .inr ⟨e1, by have e2 : 40 < s.deep + 1 + (d : Int) := e2; omega⟩
   rw [List.length_cons]
   rw [signedP, op_cons hh.err hat, op_cons hh.err hat] at hr
   rcases ho with rfl | rfl
   ·simp only [if_true, decide_true] at hr
    split at hr
    ·cases hr
    ·rename_i r1 h1
     injection hr with hr
     rw [← hr]
     exact go r1 h1
   ·rw [if_neg (by decide)] at hr
    simp only [Int.reduceEq, if_false, decide_true, if_true] at hr
    split at hr
    ·cases hr
    ·rename_i r1 h1
     injection hr with hr
     rw [← hr]
     exact go r1 h1
theorem par_hund {x : Nd} (h : Top T x) : Top T (.mk 9 0 [] .zero .zero [x]) := by
 refine ⟨fun _ => ?_, fun e => absurd e (show levelP 9 ≠ 6 by decide), fun l e hl5 => by have : (7 : Int) = l + 1 := e; omega⟩
 obtain ⟨hi, hs⟩ := h.item_hu
 rw [toks_hund, nest_hund]
 generalize insK 7 x.op x.toks = ts at *
 generalize insD 7 x.op x.nest = d at *
 refine ⟨?_, hs.app _⟩
 intro f s r p us hr hh hp
 have hat := hh.at'
 rw [List.append_assoc] at hat
 rcases hi f s r (6, [37]) (p :: us) hr ⟨hh.err, hh.d1, hat⟩ ⟨by decide, by decide⟩ with ⟨f', e1, e2⟩ | e
 ·cases f' with
  | zero => simp [hloopP] at e1
  | succ f' =>
    have a3 := drop_adv hat
    rw [hloopP, op_cons (s := s.adv ts.length) hh.err a3, decide_eq_true rfl, if_pos rfl, adv_next, adv_adv] at e1
    exact .inl ⟨f', by rw [List.length_append]; exact e1, e2⟩
 ·exact .inr e
theorem par_bin {i : Nat} {x y : Nd} (hi : i < 12) (hx : Top T x) (hy : Top T y) : Top T (.mk (10 + (i : Int)) 0 [] .zero .zero [x, y]) := by
 obtain ⟨l, hl5, hlv, hmem, hok, hidx⟩ := sign_level i hi
 refine ⟨fun e => by have : 7 ≤ levelP (10 + (i : Int)) := e; omega, fun e => by have : levelP (10 + (i : Int)) = 6 := e; omega, fun m e hm5 => ?_⟩
 have e : levelP (10 + (i : Int)) = m + 1 := e
 obtain rfl : m = l := by omega
 have hxi := hx.item_lo hl5
 have hyi := hy.item_be (l := m + 1) (by omega)
 rw [toks_bin hi, nest_bin hi, hlv]
 rw [show ((m + 1 : Nat) : Int) + 1 = (m : Int) + 1 + 1 by omega] at hyi
 generalize insK ((m : Int) + 1) x.op x.toks = ts at *
 generalize insD ((m : Int) + 1) x.op x.nest = d at *
 generalize insK ((m : Int) + 1 + 1) y.op y.toks = us' at *
 generalize insD ((m : Int) + 1 + 1) y.op y.nest = d' at *
 generalize signL.getD i [] = sg at *
 intro f s r p us hr hh hp
 have hat := hh.at'
 rw [List.append_assoc, List.append_assoc] at hat
 rcases hxi f s r (6, sg) (us' ++ p :: us) hr ⟨hh.err, hh.d1, hat⟩ hok with ⟨f', e1, e2⟩ | ⟨e1, e2⟩
 ·cases f' with
  | zero => simp [loopP] at e1
  | succ f' =>
    have a3 := drop_adv hat
    have a4 : (T.map kt).drop (s.adv ts.length).i = (6, sg) :: (us' ++ p :: us) := a3
    obtain ⟨c1, c2⟩ := cur_pair (s := s.adv ts.length) hh.err a4
    rw [loopP, sgn_cons (s := s.adv ts.length) hh.err a4, decide_eq_true ⟨rfl, hmem⟩, if_pos rfl] at e1
    split at e1
    ·cases e1
    ·rename_i r1 h1
     have a5 := (at_cons a4).2.2
     rcases hyi f' (s.adv ts.length).next r1 p us h1 ⟨hh.err, hh.d1, a5⟩ hp with ⟨g1, g2, g3⟩ | ⟨g1, g2⟩
     ·rw [c2, hidx, g1, g2, adv_next, adv_adv, adv_adv] at e1
      refine .inl ⟨f', ?_, ?_⟩
      ·rw [List.length_append, List.length_append, List.length_singleton, Nat.add_assoc]
       exact e1
      ·have g3 : s.deep + (d' : Int) ≤ 40 := g3
       omega
     ·have := (stayF f').loop _ _ _ _ e1 (by rw [g1]; decide)
      refine .inr ⟨by rw [this]; exact g1, ?_⟩
      have g2 : 40 < s.deep + (d' : Int) := g2
      omega
 ·exact .inr ⟨e1, by omega⟩
/-! Calls. -/
theorem nf_start {n : Nd} (h : Nf n) : n.op ≠ 23 → ∃ p us, n.toks = p :: us ∧ p ≠ (6, [41]) ∧ p ≠ (6, [44]) := by
 have ins : ∀ (least : Int) (op : Int) (t : List KT), (∃ p us, t = p :: us ∧ p ≠ (6, [41]) ∧ p ≠ (6, [44])) → ∃ p us, insK least op t = p :: us ∧ p ≠ (6, [41]) ∧ p ≠ (6, [44]) := by
  intro least op t ht
  unfold insK
  split
  ·exact ht
  ·exact ⟨_, _, rfl, by decide, by decide⟩
 induction h with
 | num _ _ => exact fun _ => ⟨_, _, rfl, by simp, by simp⟩
 | text _ _ => exact fun _ => ⟨_, _, rfl, by simp, by simp⟩
 | truth _ => exact fun _ => ⟨_, _, rfl, by simp, by simp⟩
 | fail _ => exact fun _ => ⟨_, _, rfl, by simp, by simp⟩
 | cell _ => exact fun _ => ⟨_, _, rfl, by simp, by simp⟩
 | area _ _ => exact fun _ => ⟨_, _, rfl, by simp, by simp⟩
 | sign ho _ _ _ =>
   intro _
   rw [toks_sign ho]
   exact ⟨_, _, rfl, by split <;> decide, by split <;> decide⟩
 | hund _ hne ih =>
   intro _
   rw [toks_hund]
   obtain ⟨p, us, e, h1, h2⟩ := ins 7 _ _ (ih hne)
   exact ⟨p, us ++ [(6, [37])], by rw [e]; rfl, h1, h2⟩
 | @bin i x y hi _ hne _ _ ih _ =>
   intro _
   rw [toks_bin hi]
   obtain ⟨p, us, e, h1, h2⟩ := ins (levelP (10 + i)) _ _ (ih hne)
   exact ⟨p, _, by rw [e]; rfl, h1, h2⟩
 | call _ _ _ _ _ =>
   intro _
   rw [toks_call]
   exact ⟨_, _, rfl, by simp, by simp⟩
 | miss => exact fun h => absurd rfl h
def maxN (ks : List Nd) : Nat := (ks.map Nd.nest).foldr max 0
theorem args_loop (ks : List Nd) : ∀ (f : Nat) (acc : List Nd) (s : PSt) (r : List Nd × PSt) (p : KT) (us : List KT), ks ≠ [] → (∀ k ∈ ks, Nf k ∧ (k.op ≠ 23 → Top T k)) →
  aloopP T f acc s = some r → Here T s (joinT ks ++ [(6, [41])]) p us → (acc ++ ks ≠ [.mk 23 0 [] .zero .zero []]) →
  (r.1 = acc ++ ks ∧ r.2 = s.adv ((joinT ks).length + 1) ∧ s.deep + maxN ks ≤ 40) ∨ (r.2.err = 12 ∧ 40 < s.deep + maxN ks) := by
 induction ks with
 | nil => intro f acc s r p us h; exact absurd rfl h
 | cons k ks ih =>
   intro f acc s r p us _ hk hr hh hne
   cases f with
   | zero => simp [aloopP] at hr
   | succ f =>
     obtain ⟨hnf, htop⟩ := hk k (by simp)
     obtain ⟨q, vs, hq, hq41⟩ : ∃ q vs, (ks.flatMap fun k => (6, [44]) :: k.toks) ++ (6, [41]) :: p :: us = q :: vs ∧ ((ks = [] ∧ q = (6, [41]) ∧ vs = p :: us) ∨ (ks ≠ [] ∧ q = (6, [44]) ∧ vs = joinT ks ++ (6, [41]) :: p :: us)) := by
      cases ks with
      | nil => exact ⟨_, _, rfl, .inl ⟨rfl, rfl, rfl⟩⟩
      | cons k2 ks =>
        refine ⟨(6, [44]), joinT (k2 :: ks) ++ (6, [41]) :: p :: us, ?_, .inr ⟨by simp, rfl, rfl⟩⟩
        rw [List.flatMap_cons, joinT, List.cons_append, List.cons_append]
     have hat : (T.map kt).drop s.i = k.toks ++ q :: vs := by
      rw [hh.at', ← hq]
      simp [joinT]
     have hqok : Okk 0 q := by
      rcases hq41 with ⟨_, rfl, _⟩ | ⟨_, rfl, _⟩
      ·exact okk_one 41 (.inl rfl)
      ·exact okk_one 44 (.inr rfl)
     rw [aloopP, if_neg (by simp [hh.err])] at hr
     have hkid : ∀ r1, (if isOp T s [44] = true ∨ isOp T s [41] = true then some (missN, s) else betwP T f 0 s) = some r1 → Res k k.toks.length k.nest s r1 := by
      intro r1 h1
      by_cases hm : k.op = 23
      ·have ek : k = missN := by
        cases hnf with
        | miss => rfl
        | sign ho _ _ => exfalso; have hm : _ = (23 : Int) := hm; simp only [Nd.op] at hm; omega
        | bin hi _ _ _ _ => exfalso; simp only [Nd.op] at hm; omega
        | _ => exfalso; simp [Nd.op] at hm
       subst ek
       have hat0 : (T.map kt).drop s.i = q :: vs := hat
       have hop : isOp T s [44] = true ∨ isOp T s [41] = true := by
        rw [op_cons hh.err hat0, op_cons hh.err hat0]
        rcases hq41 with ⟨_, rfl, _⟩ | ⟨_, rfl, _⟩
        ·exact .inr (by decide)
        ·exact .inl (by decide)
       rw [if_pos hop] at h1
       exact res_leaf (len := 0) hh.d1 h1
      ·obtain ⟨p0, us0, e0, h41, h44⟩ := nf_start hnf hm
       have hat0 := hat
       rw [e0, List.cons_append] at hat0
       rw [op_cons hh.err hat0, op_cons hh.err hat0, decide_eq_false h41, decide_eq_false h44, if_neg (by simp)] at h1
       have hb := (htop hm).be (l := 0) (by omega) (by have := lev_rng k.op; omega)
       exact hb f s r1 q vs h1 ⟨hh.err, hh.d1, hat⟩ hqok
     split at hr
     ·cases hr
     ·rename_i r1 h1
      rcases hkid r1 h1 with ⟨g1, g2, g3⟩ | ⟨g1, g2⟩
      ·have a3 := drop_adv hat
       rw [g1, g2] at hr
       rcases hq41 with ⟨rfl, rfl, rfl⟩ | ⟨hks, rfl, rfl⟩
       ·rw [op_cons (s := s.adv k.toks.length) hh.err a3, if_neg (by decide), must_ok (s := s.adv k.toks.length) hh.err a3] at hr
        injection hr with hr
        rw [← hr]
        refine .inl ⟨rfl, ?_, ?_⟩
        ·rw [adv_next, adv_adv]
         simp [joinT]
        ·simp only [maxN, List.map_cons, List.map_nil, List.foldr_cons, List.foldr_nil]
         omega
       ·rw [op_cons (s := s.adv k.toks.length) hh.err a3, if_pos (by decide), adv_next, adv_adv] at hr
        have a4 := (at_cons a3).2.2
        have hh2 : Here T (s.adv (k.toks.length + 1)) (joinT ks ++ [(6, [41])]) p us := ⟨hh.err, hh.d1, by
         rw [List.append_assoc]
         exact a4⟩
        have := ih f (acc ++ [k]) _ r p us hks (fun k' hk' => hk k' (by simp [hk'])) hr hh2 (by rw [List.append_assoc]; exact hne)
        have hlen : (joinT (k :: ks)).length + 1 = (k.toks.length + 1) + ((joinT ks).length + 1) := by
         cases ks with
         | nil => exact absurd rfl hks
         | cons k2 ks => simp [joinT]; omega
        rcases this with ⟨b1, b2, b3⟩ | ⟨b1, b2⟩
        ·refine .inl ⟨by rw [b1, List.append_assoc]; rfl, by rw [b2, adv_adv, hlen], ?_⟩
         have b3 : s.deep + (maxN ks : Int) ≤ 40 := b3
         unfold maxN at b3 ⊢
         rw [List.map_cons, List.foldr_cons]
         omega
        ·refine .inr ⟨b1, ?_⟩
         have b2 : 40 < s.deep + (maxN ks : Int) := b2
         unfold maxN at b2 ⊢
         rw [List.map_cons, List.foldr_cons]
         omega
      ·have hb : r1.2.err ≠ 0 := by rw [g1]; decide
       rw [isOp_bad hb, if_neg (by simp), must_bad hb] at hr
       injection hr with hr
       rw [← hr]
       refine .inr ⟨g1, ?_⟩
       unfold maxN
       rw [List.map_cons, List.foldr_cons]
       omega
theorem par_call {s' : List UInt8} {ks : List Nd} (hs : NameOk s') (hk : ∀ k ∈ ks, Nf k ∧ (k.op ≠ 23 → Top T k)) (hm : ∀ k, ks = [k] → k.op ≠ 23) : Top T (.mk 22 0 s' .zero .zero ks) := by
 have hns : NoSg (Nd.mk 22 0 s' .zero .zero ks).toks := by rw [toks_call]; exact ⟨_, _, rfl, by simp, by simp⟩
 refine ⟨fun _ => ⟨RP.hu ?_, hns⟩, fun e => absurd e (show levelP 22 ≠ 6 by decide), fun l e hl5 => by have : (8 : Int) = l + 1 := e; omega⟩
 rw [toks_call, nest_call]
 intro f s r p us hr hh hp
 cases f with
 | zero => simp [primP] at hr
 | succ f =>
   have hat : (T.map kt).drop s.i = (3, s') :: (6, [40]) :: (joinT ks ++ [(6, [41])] ++ p :: us) := hh.at'
   obtain ⟨c1, c2⟩ := cur_pair hh.err hat
   have hat1 := (at_cons hat).2.2
   obtain ⟨n1, n2, hat2⟩ := at_cons hat1
   rw [primP, c1, if_neg (by decide), if_neg (by decide), if_neg (by decide), if_neg (by decide), if_pos rfl] at hr
   cases f with
   | zero => simp [nameP] at hr
   | succ f =>
     rw [nameP, n1, n2, c2, if_pos ⟨rfl, rfl⟩] at hr
     by_cases hd : 40 < s.deep + 1
     ·have he : (enterP T s).err = 12 := by
       unfold enterP
       rw [if_pos hd]
       unfold failP
       dsimp only
       rw [if_pos hh.err]
      rw [if_pos (by rw [he]; decide)] at hr
      injection hr with hr
      rw [← hr]
      exact .inr ⟨he, by omega⟩
     ·have hen : enterP T s = ⟨s.i, s.deep + 1, s.err, s.bad⟩ := by unfold enterP; rw [if_neg hd]
      rw [hen, if_neg (by simp [hh.err])] at hr
      split at hr
      ·cases hr
      ·rename_i r1 h1
       injection hr with hr
       rw [← hr]
       have hgo : (r1.1 = ks ∧ r1.2 = (⟨s.i + 2, s.deep + 1, s.err, s.bad⟩ : PSt).adv ((joinT ks).length + 1) ∧ s.deep + 1 + maxN ks ≤ 40) ∨ (r1.2.err = 12 ∧ 40 < s.deep + 1 + maxN ks) := by
        have hst : (⟨s.i, s.deep + 1, s.err, s.bad⟩ : PSt).next.next = ⟨s.i + 2, s.deep + 1, s.err, s.bad⟩ := rfl
        rw [hst] at h1
        have hat3 : (T.map kt).drop (⟨s.i + 2, s.deep + 1, s.err, s.bad⟩ : PSt).i = joinT ks ++ [(6, [41])] ++ p :: us := hat2
        cases f with
        | zero => simp [argsP] at h1
        | succ f =>
          rw [argsP] at h1
          cases ks with
          | nil =>
            rw [op_cons (s := ⟨s.i + 2, s.deep + 1, s.err, s.bad⟩) hh.err hat3, decide_eq_true rfl, if_pos rfl] at h1
            injection h1 with h1
            rw [← h1]
            exact .inl ⟨rfl, rfl, by show s.deep + 1 + ((0 : Nat) : Int) ≤ 40; omega⟩
          | cons k ks =>
            obtain ⟨q, vs, e0, hq⟩ : ∃ q vs, joinT (k :: ks) ++ [(6, [41])] ++ p :: us = q :: vs ∧ q ≠ (6, [41]) := by
             by_cases hmk : k.op = 23
             ·have ek : k.toks = [] := by
               have hnf := (hk k (by simp)).1
               cases hnf with
               | miss => rfl
               | sign ho _ _ => exfalso; simp only [Nd.op] at hmk; omega
               | bin hi _ _ _ _ => exfalso; simp only [Nd.op] at hmk; omega
               | _ => exfalso; simp [Nd.op] at hmk
              cases ks with
              | nil => exact absurd hmk (hm k rfl)
              | cons k2 ks => exact ⟨(6, [44]), _, by rw [joinT, ek]; rfl, by decide⟩
             ·obtain ⟨p0, us0, e0, h41, _⟩ := nf_start (hk k (by simp)).1 hmk
              exact ⟨p0, _, by rw [joinT, e0]; rfl, h41⟩
            rw [e0] at hat3
            rw [op_cons (s := ⟨s.i + 2, s.deep + 1, s.err, s.bad⟩) hh.err hat3, decide_eq_false hq, if_neg (by simp)] at h1
            rw [← e0] at hat3
            have := args_loop (k :: ks) f [] _ r1 p us (by simp) hk h1 ⟨hh.err, by show s.deep + 1 ≤ 40; omega, hat3⟩ (fun e => by
             rw [List.nil_append] at e
             injection e with e1 e2
             exact hm k (by rw [e2]) (by rw [e1]; rfl))
            exact this
       rcases hgo with ⟨g1, g2, g3⟩ | ⟨g1, g2⟩
       ·refine .inl ⟨by rw [g1], ?_, ?_⟩
        ·show leaveP r1.2 = _
         rw [g2]
         unfold leaveP PSt.adv
         dsimp only
         simp only [List.length_cons, List.length_append, List.length_nil]
         congr 1
         ·omega
         ·omega
        ·unfold maxN at g3
         omega
       ·refine .inr ⟨g1, ?_⟩
        unfold maxN at g2
        omega
theorem nf_top {n : Nd} (h : Nf n) : n.op ≠ 23 → Top T n := by
 induction h with
 | num h0 h1 => exact fun _ => par_num h0 h1
 | text _ _ => exact fun _ => par_text _
 | truth hb => exact fun _ => par_truth hb
 | fail hk => exact fun _ => par_fail hk
 | cell hr => exact fun _ => par_cell hr
 | area hr hq => exact fun _ => par_area hr hq
 | sign ho _ hne ih => exact fun _ => par_sign ho (ih hne)
 | hund _ hne ih => exact fun _ => par_hund (ih hne)
 | bin hi _ hnx _ hny ihx ihy => exact fun _ => par_bin hi (ihx hnx) (ihy hny)
 | call hs _ hk hm ih => exact fun _ => par_call hs (fun k hk' => ⟨hk k hk', ih k hk'⟩) hm
 | miss => exact fun h => absurd rfl h
end
theorem parse_print {n : Nd} (h : Nf n) (hne : n.op ≠ 23) (hl : n.spell.length ≤ 2000) : (parseR n.spell = (n, 0, 0) ∧ n.nest ≤ 40) ∨ ((parseR n.spell).2.2 = 12 ∧ 40 < n.nest) := by
 obtain ⟨h0, hT⟩ := lex_print h hl
 obtain ⟨r, hr⟩ := betw_some h0
 have hat : ((lexP n.spell).1.map kt).drop st0.i = n.toks ++ (0, []) :: [] := by
  show ((lexP n.spell).1.map kt).drop 0 = _
  rw [List.drop_zero, hT]
 have hb := (nf_top (T := (lexP n.spell).1) h hne).be (l := 0) (by omega) (by have := lev_rng n.op; omega)
 have hres := hb _ _ r (0, []) [] hr ⟨rfl, by decide, hat⟩ okk_end
 have hr' : betwP (lexP n.spell).1 (30 * (lexP n.spell).1.length + 30) 0 ⟨0, 0, 0, 0⟩ = some r := hr
 have hd0 : st0.deep = 0 := rfl
 unfold parseR parseT
 rw [if_neg (by simp [h0]), hr']
 dsimp only
 rcases hres with ⟨e1, e2, e3⟩ | ⟨e1, e2⟩
 ·have a3 := drop_adv hat
  rw [e2]
  have hc := (cur_pair (T := (lexP n.spell).1) (s := st0.adv n.toks.length) rfl a3).1
  have hk' : (if (curT (lexP n.spell).1 (st0.adv n.toks.length)).kind ≠ 0 then failP (lexP n.spell).1 (st0.adv n.toks.length) 10 else st0.adv n.toks.length) = st0.adv n.toks.length := if_neg (by rw [hc]; decide)
  rw [hk', if_neg (show ¬ (st0.adv n.toks.length).err ≠ 0 from fun h => h rfl), e1]
  exact .inl ⟨rfl, by rw [hd0] at e3; omega⟩
 ·have hne0 : r.2.err ≠ 0 := by rw [e1]; decide
  have hk : (if (curT (lexP n.spell).1 r.2).kind ≠ 0 then failP (lexP n.spell).1 r.2 10 else r.2) = r.2 := by rw [cur_bad hne0]; exact if_neg (by simp [endT])
  rw [hk, if_pos hne0]
  exact .inr ⟨e1, by rw [hd0] at e2; omega⟩
theorem parse_big {s : List UInt8} (h : 2000 < s.length) : (parseR s).2.2 = 11 := by
 unfold parseR parseT lexP
 rw [if_pos h]
 rfl
end Go.A
namespace Go.A
open Go.Proofs
/-! 10: tabular/tabularlaw12.Grow -/
def c10_0 : ACode := .ops [
 ⟨some 2, none, .e (.alloc [(.int .i64 0), (.int .i64 0), (.str []), (.int .i64 0), (.int .i64 0), (.bool false), (.bool false), (.int .i64 0), (.int .i64 0), (.bool false), (.bool false), (.sl .full [])]), []⟩]
def c10_1 : ACode := .ops [
 ⟨some 5, none, .q (.mv (.t 0)), []⟩,
 ⟨some 6, none, .q (.len (.t 5)), []⟩,
 ⟨some 7, none, .q (.bin .gtr (.t 6) (.v (.int .i64 40))), []⟩]
def c10_2 : ACode := .ops [
 ⟨some 8, none, .q (.mv (.t 0)), []⟩,
 ⟨some 9, none, .q (.slto (false, 11) (.t 8) (.v (.int .i64 40))), []⟩,
 ⟨some 0, none, .q (.mv (.t 9)), []⟩]
def c10_3 : ACode := .cond (.t 7) c10_2 .skip
def c10_4 : ACode := .seq c10_1 c10_3
def c10_5 : ACode := .ops [
 ⟨some 11, none, .q (.mv (.t 0)), []⟩,
 ⟨some 12, none, .e (.call 19 [(.t 11), (.v (.int .i64 0))]), []⟩,
 ⟨some 10, none, .q (.mv (.t 12)), []⟩,
 ⟨some 13, none, .q (.ext 0 (.t 10)), []⟩,
 ⟨some 14, none, .q (.ext 1 (.t 10)), []⟩,
 ⟨some 3, none, .e (.alloc [(.int .i64 0), (.int .i64 0), (.str []), (.int .i64 0), (.int .i64 0), (.bool false), (.bool false), (.int .i64 0), (.int .i64 0), (.bool false), (.bool false), (.sl .full [])]), []⟩,
 ⟨none, none, .e (.store 12 (.t 3) (.t 13)), []⟩,
 ⟨some 4, none, .q (.mv (.t 14)), []⟩]
def c10_6 : ACode := .ops [
 ⟨some 15, none, .q (.ld (some 12) (.t 3)), []⟩,
 ⟨none, none, .e (.store 12 (.t 2) (.t 15)), []⟩]
def c10_7 : ACode := .seq c10_6 .ret
def c10_8 : ACode := .seq c10_5 c10_7
def c10_9 : ACode := .seq c10_4 c10_8
def c10_10 : ACode := .seq c10_0 c10_9
@[go_sem] def c10_0_wp := wp_of c10_0.eq_1
@[go_sem] def c10_1_wp := wp_of c10_1.eq_1
@[go_sem] def c10_2_wp := wp_of c10_2.eq_1
@[go_sem] def c10_3_wp := wp_of c10_3.eq_1
@[go_sem] def c10_4_wp := wp_of c10_4.eq_1
@[go_sem] def c10_5_wp := wp_of c10_5.eq_1
@[go_sem] def c10_6_wp := wp_of c10_6.eq_1
@[go_sem] def c10_7_wp := wp_of c10_7.eq_1
@[go_sem] def c10_8_wp := wp_of c10_8.eq_1
@[go_sem] def c10_9_wp := wp_of c10_9.eq_1
@[go_sem] def c10_10_wp := wp_of c10_10.eq_1
def c10 : AFn := ⟨16, [.c 2 (some 12)], c10_10⟩
theorem c10_ok : compF Tryz.prog Tryz.f10 = some c10 := by kernel_rfl
theorem a10 {args : List AV} {σ : ASt} {R : AV → ASt → Prop} (hl : args.length ≤ 16) (h : c10_10.wp Tryz.prog (RetQ [.c 2 (some 12)] R) (init args) σ) : ACalls Tryz.prog 10 args σ R := acalls_of Tryz.func10 c10_ok hl h
end Go.A
namespace Go.A
open Go.Proofs Go.Lib
mutual
def Nd.rl : Nd → Prop
 | .mk op _ _ _ _ ks => ((op = 5 ∨ op = 6) → ks = []) ∧ Nd.rls ks
def Nd.rls : List Nd → Prop
 | [] => True
 | x :: xs => x.rl ∧ Nd.rls xs
end
theorem rls_mem : ∀ {l : List Nd}, Nd.rls l ↔ ∀ x ∈ l, x.rl
 | [] => by simp [Nd.rls]
 | x :: xs => by rw [Nd.rls, rls_mem (l := xs)]; simp
theorem nodeG_facts (p : Pt) (ks : List Nd) (hl : ks.length = cntG (opG p.op) (kkG p.n)) : ∃ o m s a b, nodeG p ks = .mk o m s a b ks ∧ nodeOk o m s a b ks.length ∧ ((o = 5 ∨ o = 6) → ks = []) := by
 have hop := opG_rng p.op
 have hkk := kkG_rng p.n
 have h3 := cntG_le (opG p.op) (kkG p.n) hkk.1
 have f1 : (opG p.op = 7 ∨ opG p.op = 8 ∨ opG p.op = 9) → ks.length = 1 := fun h => by rw [hl]; unfold cntG; rw [if_pos h]
 have f2 : (10 ≤ opG p.op ∧ opG p.op ≤ 21) → ks.length = 2 := fun h => by rw [hl]; unfold cntG; rw [if_neg (by omega), if_neg (by omega), if_pos h]
 have f3 : (opG p.op = 5 ∨ opG p.op = 6) → ks = [] := fun h => by
  have : ks.length = 0 := by rw [hl]; unfold cntG; rw [if_neg (by omega), if_neg (by omega), if_neg (by omega)]
  exact List.eq_nil_of_length_eq_zero this
 have h7 : 0 ≤ (kkG p.n).tmod 7 ∧ (kkG p.n).tmod 7 < 7 := ⟨Int.tmod_nonneg _ hkk.1, Int.tmod_lt_of_pos _ (by decide)⟩
 have hq : ((1 + (kkG p.n).tmod 7) * 10000).tdiv 10000 = 1 + (kkG p.n).tmod 7 := Int.mul_tdiv_cancel _ (by decide)
 have pa := placeR_good p.a
 have pb := placeR_good p.b
 rw [hl] at f1 f2
 have hk : ks.length ≤ 3 := by omega
 unfold nodeG nodeOk
 rw [hl]
 split
 ·refine ⟨_, _, _, _, _, rfl, ⟨by omega, fun _ => by omega, fun h => by omega, fun h => by omega, fun h => by omega, fun h => by omega, fun h => by omega, fun h => by omega, fun h => by omega, by omega⟩, fun h => by omega⟩
 split
 ·refine ⟨_, _, _, _, _, rfl, ⟨by omega, fun h => by omega, fun h => by omega, fun h => by omega, fun h => by omega, fun h => by omega, fun h => by omega, fun h => by omega, fun h => by omega, by omega⟩, fun h => by omega⟩
 split
 ·refine ⟨_, _, _, _, _, rfl, ⟨by omega, fun h => by omega, fun h => by omega, fun h => by rw [hq]; omega, fun h => by omega, fun h => by omega, fun h => by omega, fun h => by omega, fun h => by omega, by omega⟩, fun h => by omega⟩
 split
 ·refine ⟨_, _, _, _, _, rfl, ⟨by omega, fun h => by omega, fun h => ?_, fun h => by omega, fun h => by omega, fun h => by omega, fun h => by omega, fun h => by omega, fun h => by omega, by omega⟩, fun h => by omega⟩
  split
  ·rw [List.length_take]; omega
  ·simp
 split
 ·refine ⟨_, _, _, _, _, rfl, ⟨by omega, fun h => by omega, fun h => by omega, fun h => by omega, fun h => by omega, fun h => pa, fun h => by omega, fun h => by omega, fun h => by omega, by omega⟩, fun h => f3 (by omega)⟩
 split
 ·refine ⟨_, _, _, _, _, rfl, ⟨by omega, fun h => by omega, fun h => by omega, fun h => by omega, fun h => by omega, fun h => pa, fun h => pb, fun h => by omega, fun h => by omega, by omega⟩, fun h => f3 (by omega)⟩
 split
 ·refine ⟨_, _, _, _, _, rfl, ⟨by omega, fun h => by omega, fun h => by omega, fun h => by omega, fun h => by omega, fun h => by omega, fun h => by omega, fun h => by omega, fun h => by omega, by omega⟩, fun h => by omega⟩
 split
 ·refine ⟨_, _, _, _, _, rfl, ⟨by omega, fun h => by omega, fun h => by omega, fun h => by omega, fun h => ?_, fun h => by omega, fun h => by omega, fun h => by omega, fun h => by omega, by omega⟩, fun h => by omega⟩
  have hr : (kkG p.n).tmod 4 = 0 ∨ (kkG p.n).tmod 4 = 1 ∨ (kkG p.n).tmod 4 = 2 ∨ (kkG p.n).tmod 4 = 3 := by
   have := Int.tmod_nonneg 4 hkk.1
   have := Int.tmod_lt_of_pos (kkG p.n) (show (0 : Int) < 4 by decide)
   omega
  rcases hr with hr | hr | hr | hr <;> rw [hr] <;> decide
 ·refine ⟨_, _, _, _, _, rfl, ⟨by omega, fun h => by omega, fun h => by omega, fun h => by omega, fun h => by omega, fun h => by omega, fun h => by omega, fun h => by omega, fun h => by omega, by omega⟩, fun h => by omega⟩
def goodG (x : Nd) : Prop := x.ok ∧ x.rl
theorem good_leaf : goodG (.mk 1 0 [] .zero .zero []) := by
 refine ⟨?_, ?_⟩
 ·rw [Nd.ok, Nd.oks]
  refine ⟨?_, trivial⟩
  unfold nodeOk
  simp
 ·rw [Nd.rl, Nd.rls]
  exact ⟨fun _ => rfl, trivial⟩
theorem good_miss : goodG missN := by
 unfold missN
 refine ⟨?_, ?_⟩
 ·rw [Nd.ok, Nd.oks]
  refine ⟨?_, trivial⟩
  unfold nodeOk
  simp
 ·rw [Nd.rl, Nd.rls]
  exact ⟨fun _ => rfl, trivial⟩
theorem good_node (p : Pt) (ks : List Nd) (hl : ks.length = cntG (opG p.op) (kkG p.n)) (hg : ∀ x ∈ ks, goodG x) : goodG (nodeG p ks) ∧ (nodeG p ks).size = 1 + Nd.sizes ks := by
 obtain ⟨o, m, s, a, b, he, h1, h2⟩ := nodeG_facts p ks hl
 rw [he]
 refine ⟨⟨?_, ?_⟩, ?_⟩
 ·rw [Nd.ok]; exact ⟨h1, Nd.oks_mem.2 fun x hx => (hg x hx).1⟩
 ·rw [Nd.rl]; exact ⟨h2, rls_mem.2 fun x hx => (hg x hx).2⟩
 ·rw [Nd.size]
theorem miss_sizes (op kk : Int) (ks : List Nd) : Nd.sizes (missG op kk ks) ≤ Nd.sizes ks := by
 unfold missG
 split
 ·rename_i h
  cases ks with
  | nil => simp at h
  | cons x xs =>
    rw [List.tail_cons, Nd.sizes, Nd.sizes]
    have := x.size_pos
    have e : missN.size = 1 := rfl
    omega
 ·exact Nat.le_refl _
theorem miss_good (op kk : Int) (ks : List Nd) (hg : ∀ x ∈ ks, goodG x) : ∀ x ∈ missG op kk ks, goodG x := by
 unfold missG
 split
 ·intro x hx
  rcases List.mem_cons.1 hx with rfl | hx
  ·exact good_miss
  ·exact hg x (List.mem_of_mem_tail hx)
 ·exact hg
theorem growN_facts (g : Nat → Nd × Nat) (hg : ∀ i, goodG (g i).1 ∧ i ≤ (g i).2 ∧ (g i).1.size ≤ 4 * ((g i).2 - i) + 1) : ∀ c i, (∀ x ∈ (growN g c i).1, goodG x) ∧ i ≤ (growN g c i).2 ∧ Nd.sizes (growN g c i).1 ≤ 4 * ((growN g c i).2 - i) + c
 | 0, i => by rw [growN]; exact ⟨fun x hx => by simp at hx, Nat.le_refl _, by rw [Nd.sizes]; omega⟩
 | c + 1, i => by
   obtain ⟨h1, h2, h3⟩ := hg i
   obtain ⟨i1, i2, i3⟩ := growN_facts g hg c (g i).2
   rw [growN]
   refine ⟨fun x hx => ?_, by dsimp only; omega, ?_⟩
   ·rcases List.mem_cons.1 hx with rfl | hx
    ·exact h1
    ·exact i1 x hx
   ·dsimp only
    rw [Nd.sizes]
    omega
theorem growK_facts (L : List Pt) : ∀ k i, goodG (growK L k i).1 ∧ i ≤ (growK L k i).2 ∧ (growK L k i).1.size ≤ 4 * ((growK L k i).2 - i) + 1
 | 0, i => ⟨good_leaf, Nat.le_refl _, by show (1 : Nat) ≤ _; omega⟩
 | k + 1, i => by
   rw [growK]
   split
   ·exact ⟨good_leaf, Nat.le_refl _, by show (1 : Nat) ≤ _; omega⟩
   ·rename_i p hp
    obtain ⟨h1, h2, h3⟩ := growN_facts (growK L k) (growK_facts L k) (cntG (opG p.op) (kkG p.n)) (i + 1)
    have hc := cntG_le (opG p.op) (kkG p.n) (kkG_rng p.n).1
    have hl := growN_len (growK L k) (cntG (opG p.op) (kkG p.n)) (i + 1)
    generalize growN (growK L k) (cntG (opG p.op) (kkG p.n)) (i + 1) = R at *
    obtain ⟨KS, J⟩ := R
    dsimp only at *
    obtain ⟨g1, g2⟩ := good_node p (missG (opG p.op) (kkG p.n) KS) (by rw [missG_len]; exact hl) (miss_good _ _ _ h1)
    have hs := miss_sizes (opG p.op) (kkG p.n) KS
    exact ⟨g1, by omega, by rw [g2]; omega⟩
theorem growP_facts (L : List Pt) : (growP L).ok ∧ (growP L).rl ∧ (growP L).size ≤ 1000 := by
 have h := growK_facts (L.take 40) 41 0
 have h2 := growK_le (L.take 40) 40 (by rw [List.length_take]; omega) 41 0 (by omega)
 unfold growP
 exact ⟨h.1.1, h.1.2, by omega⟩
end Go.A
namespace Go.A
open Go.Proofs Go.Lib
theorem Grow_ok (L : List Pt) : Pure Tryz.prog 10 [.sl .shr (L.map Pt.av)] (growP L).av := by
 intro σ
 have hG := grow_le (L.take 40) (by rw [List.length_take]; omega) 41 0 (by rw [List.length_take]; omega) (by omega)
 have hP : (growK (L.take 40) 41 0).1 = growP L := rfl
 rw [hP] at hG
 have hmt : (L.take 40).map Pt.av = (L.map Pt.av).take 40 := List.map_take
 have hml : (L.map Pt.av).length = L.length := by simp
 rw [hmt] at hG
 generalize growP L = n at *
 obtain ⟨op, m, s, a, b, ks⟩ := n
 rw [Nd.av_cs] at hG ⊢
 generalize ks.map Nd.av = KS at *
 generalize (growK (L.take 40) 41 0).2 = J at *
 generalize hXL : L.map Pt.av = XL at *
 have e0 : ((0 : Nat) : Int) = 0 := rfl
 rw [e0] at hG
 refine a10 (by simp) ?_
 simp (disch := first | assumption | omega) only [go_sem]
 refine allocC_by fun b2 h2 => ?_
 by_cases h40 : 40 < XL.length
 ·have h40' : (40 : Int) < XL.length := by omega
  have h40t : 40 ≤ XL.length := by omega
  simp (disch := first | assumption | omega) only [go_sem, reduceCtorEq, ↓reduceIte, Int.reduceToNat, h40']
  refine hG.use ?_
  simp (disch := first | assumption | omega) only [go_sem, Nat.reduceEqDiff, ↓reduceIte]
  refine allocC_by fun b3 h3 => ?_
  repeat (with_reducible replace h3 := set_none h3; obtain ⟨_, _, h3⟩ := h3)
  simp (disch := first | assumption | omega) only [go_sem, reduceCtorEq, Nat.reduceEqDiff, Nat.reduceAdd, Nat.reduceLeDiff, ↓reduceIte, ASt.set_set]
  exact retC_by (((Drop.set h2).off (by assumption)).off h2) (.refl _) ⟨rfl, rfl⟩
 ·have h40' : ¬ (40 : Int) < XL.length := by omega
  rw [List.take_of_length_le (by omega)] at hG
  simp (disch := first | assumption | omega) only [go_sem, reduceCtorEq, ↓reduceIte, h40']
  refine hG.use ?_
  simp (disch := first | assumption | omega) only [go_sem, Nat.reduceEqDiff, ↓reduceIte]
  refine allocC_by fun b3 h3 => ?_
  repeat (with_reducible replace h3 := set_none h3; obtain ⟨_, _, h3⟩ := h3)
  simp (disch := first | assumption | omega) only [go_sem, Nat.reduceEqDiff, Nat.reduceAdd, Nat.reduceLeDiff, ↓reduceIte, ASt.set_set]
  exact retC_by (((Drop.set h2).off (by assumption)).off h2) (.refl _) ⟨rfl, rfl⟩
end Go.A
namespace Go.A
open Go.Proofs Go.Lib
/-! Great letters. -/
/-! What tokens hold. -/
structure TokNf (t : Tok) : Prop where
 text : t.kind = 2 → sgP t.text ≠ none
 name : t.kind = 3 → NameOk t.text
/-! The parser's trees. -/
section
variable {T : List Tok}
def Okn (d : Int) (least : Int) (n : Nd) : Prop := Nf n ∧ n.op ≠ 23 ∧ d + insD least n.op n.nest ≤ 40
structure NfF (T : List Tok) (f : Nat) : Prop where
 betw : ∀ (lvl : Nat) s r, betwP T f lvl s = some r → lvl ≤ 5 → Fit T s → r.2.err = 0 → Okn s.deep (lvl + 1) r.1
 loop : ∀ (lvl : Nat) n s r, loopP T f lvl n s = some r → lvl < 5 → Fit T s → r.2.err = 0 → Okn s.deep (lvl + 1) n → Okn s.deep (lvl + 1) r.1
 signed : ∀ s r, signedP T f s = some r → Fit T s → r.2.err = 0 → Okn s.deep 6 r.1
 hundred : ∀ s r, hundredP T f s = some r → Fit T s → r.2.err = 0 → Okn s.deep 7 r.1
 hloop : ∀ n s r, hloopP T f n s = some r → Fit T s → r.2.err = 0 → Okn s.deep 7 n → Okn s.deep 7 r.1
 prim : ∀ s r, primP T f s = some r → Fit T s → r.2.err = 0 → Okn s.deep 8 r.1
 name : ∀ s r, nameP T f s = some r → Fit T s → (curT T s).kind = 3 → r.2.err = 0 → Okn s.deep 8 r.1
 args : ∀ s r, argsP T f s = some r → Fit T s → r.2.err = 0 → (∀ x ∈ r.1, Nf x ∧ s.deep + x.nest ≤ 40) ∧ ∀ k, r.1 = [k] → k.op ≠ 23
 aloop : ∀ l s r, aloopP T f l s = some r → Fit T s → r.2.err = 0 → (∀ x ∈ l, Nf x ∧ s.deep + x.nest ≤ 40) → (l = [] → isOp T s [41] = false) → (∀ x ∈ r.1, Nf x ∧ s.deep + x.nest ≤ 40) ∧ l.length < r.1.length ∧ ∀ k, r.1 = [k] → k.op ≠ 23
end
/-! Grown trees. -/
theorem sig_text {s : List UInt8} (h : (sgT s).isSome = true) : sgP s ≠ none := fun e => by
 have : sgT s = none := e
 rw [this] at h
 cases h
theorem node_nf (p : Pt) (ks : List Nd) (hl : ks.length = cntG (opG p.op) (kkG p.n)) (h : ∀ k ∈ ks, Nf k ∧ k.op ≠ 23) : Nf (nodeG p (missG (opG p.op) (kkG p.n) ks)) ∧ (nodeG p (missG (opG p.op) (kkG p.n) ks)).op ≠ 23 := by
 have ho := opG_rng p.op
 have hk := kkG_rng p.n
 have hno : opG p.op ≠ 22 → missG (opG p.op) (kkG p.n) ks = ks := fun h => by unfold missG; rw [if_neg (by omega)]
 have hnil : cntG (opG p.op) (kkG p.n) = 0 → ks = [] := fun h => List.eq_nil_of_length_eq_zero (by omega)
 unfold nodeG
 split
 ·rename_i e
  rw [hno (by omega), hnil (by rw [e]; rfl)]
  exact ⟨.num (by omega) (by omega), show (1 : Int) ≠ 23 by decide⟩
 split
 ·rename_i e
  rw [hno (by omega), hnil (by rw [e]; rfl)]
  have h1 := Int.tmod_lt_of_pos (kkG p.n) (show (0 : Int) < 2 by decide)
  have h2 := Int.tmod_nonneg (a := kkG p.n) 2 (by omega)
  exact ⟨.truth (by omega), show (3 : Int) ≠ 23 by decide⟩
 split
 ·rename_i e
  rw [hno (by omega), hnil (by rw [e]; rfl)]
  have h1 := Int.tmod_lt_of_pos (kkG p.n) (show (0 : Int) < 7 by decide)
  have h2 := Int.tmod_nonneg (a := kkG p.n) 7 (by omega)
  obtain ⟨k, hk7, hke⟩ : ∃ k : Nat, k < 7 ∧ (kkG p.n).tmod 7 = k := ⟨((kkG p.n).tmod 7).toNat, by omega, by omega⟩
  rw [hke, Int.add_comm]
  exact ⟨.fail hk7, show (4 : Int) ≠ 23 by decide⟩
 split
 ·rename_i e
  rw [hno (by omega), hnil (by rw [e]; rfl)]
  refine ⟨.text ?_ ?_, show (2 : Int) ≠ 23 by decide⟩
  ·split
   ·rename_i hs; exact sig_text hs
   ·decide
  ·split
   ·rw [List.length_take]; omega
   ·decide
 split
 ·rename_i e
  rw [hno (by omega), hnil (by rw [e]; rfl)]
  exact ⟨.cell (placeR_good _), show (5 : Int) ≠ 23 by decide⟩
 split
 ·rename_i e
  rw [hno (by omega), hnil (by rw [e]; rfl)]
  exact ⟨.area (placeR_good _) (placeR_good _), show (6 : Int) ≠ 23 by decide⟩
 split
 ·rename_i e
  rw [hno (by omega), hnil (by rw [e]; rfl)]
  exact ⟨.truth (.inl rfl), show (3 : Int) ≠ 23 by decide⟩
 split
 ·rename_i e
  have h4 := Int.tmod_lt_of_pos (kkG p.n) (show (0 : Int) < 4 by decide)
  have h0 := Int.tmod_nonneg (a := kkG p.n) 4 (by omega)
  have hm : ∀ k ∈ missG (opG p.op) (kkG p.n) ks, Nf k := by
   unfold missG
   split
   ·intro k hk
    rcases List.mem_cons.1 hk with rfl | hk
    ·exact .miss
    ·exact (h k (List.mem_of_mem_tail hk)).1
   ·exact fun k hk => (h k hk).1
  have h1 : ∀ k, missG (opG p.op) (kkG p.n) ks = [k] → k.op ≠ 23 := by
   unfold missG
   split
   ·rename_i hc
    intro k hk
    have := congrArg List.length hk
    simp only [List.length_cons, List.length_tail, List.length_nil] at this
    omega
   ·intro k hk
    exact (h k (by rw [hk]; simp)).2
  obtain ⟨j, hj, hje⟩ : ∃ j : Nat, j < 4 ∧ ((kkG p.n).tmod 4).toNat = j := ⟨_, by omega, rfl⟩
  rw [hje]
  refine ⟨.call ?_ ?_ hm h1, show (22 : Int) ≠ 23 by decide⟩
  ·match j, hj with
   | 0, _ => exact sum_name
   | 1, _ => exact if_name
   | 2, _ => exact xy_name
   | 3, _ => exact a_name
  ·match j, hj with
   | 0, _ | 1, _ | 2, _ | 3, _ => decide
 ·rename_i e1 e2 e3 e4 e5 e6 e7 e8
  rw [hno (by omega)]
  by_cases h3 : opG p.op = 7 ∨ opG p.op = 8 ∨ opG p.op = 9
  ·have hc : ks.length = 1 := by rw [hl]; unfold cntG; rw [if_pos h3]
   obtain ⟨x, rfl⟩ : ∃ x, ks = [x] := List.length_eq_one_iff.1 hc
   obtain ⟨x1, x2⟩ := h x (by simp)
   refine ⟨?_, by show opG p.op ≠ 23; omega⟩
   rcases h3 with h3 | h3 | h3
   ·rw [h3]; exact .sign (.inl rfl) x1 x2
   ·rw [h3]; exact .sign (.inr rfl) x1 x2
   ·rw [h3]; exact .hund x1 x2
  ·have hc : ks.length = 2 := by rw [hl]; unfold cntG; rw [if_neg h3, if_neg (by omega), if_pos (by omega)]
   obtain ⟨x, y, rfl⟩ : ∃ x y, ks = [x, y] := by
    match ks, hc with
    | [x, y], _ => exact ⟨x, y, rfl⟩
   obtain ⟨x1, x2⟩ := h x (by simp)
   obtain ⟨y1, y2⟩ := h y (by simp)
   obtain ⟨i, hi, hie⟩ : ∃ i : Nat, i < 12 ∧ opG p.op = 10 + i := ⟨(opG p.op - 10).toNat, by omega, by omega⟩
   rw [hie]
   exact ⟨.bin hi x1 x2 y1 y2, by show 10 + (i : Int) ≠ 23; omega⟩
theorem growN_nf (g : Nat → Nd × Nat) (hg : ∀ i, Nf (g i).1 ∧ (g i).1.op ≠ 23) : ∀ c i, ∀ k ∈ (growN g c i).1, Nf k ∧ k.op ≠ 23
 | 0, i, k, hk => by rw [growN] at hk; simp at hk
 | c + 1, i, k, hk => by
   rw [growN] at hk
   rcases List.mem_cons.1 hk with rfl | hk
   ·exact hg i
   ·exact growN_nf g hg c _ k hk
theorem growK_nf (L : List Pt) : ∀ k i, Nf (growK L k i).1 ∧ (growK L k i).1.op ≠ 23
 | 0, i => ⟨.num (by decide) (by decide), show (1 : Int) ≠ 23 by decide⟩
 | k + 1, i => by
   rw [growK]
   split
   ·exact ⟨.num (by decide) (by decide), show (1 : Int) ≠ 23 by decide⟩
   ·rename_i p hp
    exact node_nf p _ (growN_len _ _ _) (growN_nf _ (growK_nf L k) _ _)
theorem trees_law (L : List Pt) : parseR (growP L).spell = (growP L, 0, 0) ∨ (parseR (growP L).spell).2.2 = 11 ∨ (parseR (growP L).spell).2.2 = 12 := by
 obtain ⟨h1, h2⟩ := growK_nf (L.take 40) 41 0
 have hg : (growK (L.take 40) 41 0).1 = growP L := rfl
 rw [hg] at h1 h2
 rcases Nat.lt_or_ge 2000 (growP L).spell.length with hl | hl
 ·exact .inr (.inl (parse_big hl))
 ·rcases parse_print h1 h2 hl with ⟨h, _⟩ | ⟨h, _⟩
  ·exact .inl h
  ·exact .inr (.inr h)
end Go.A
namespace Go.A
open Go.Proofs
/-! 7: tabular/tabularlaw13.awake -/
def c7_0 : ACode := .ops [
 ⟨some 0, none, .q (.mv (.v (.bool false))), []⟩]
def c7_1 : ACode := .ops [
 ⟨some 11, none, .e (.call 5 [(.v (.str [45, 50, 94, 50]))]), []⟩,
 ⟨some 10, none, .q (.mv (.t 11)), []⟩,
 ⟨some 12, none, .q (.ext 0 (.t 10)), []⟩,
 ⟨some 13, none, .q (.ext 1 (.t 10)), []⟩,
 ⟨some 14, none, .q (.ext 2 (.t 10)), []⟩,
 ⟨some 1, none, .e (.alloc [(.int .i64 0), (.int .i64 0), (.str []), (.int .i64 0), (.int .i64 0), (.bool false), (.bool false), (.int .i64 0), (.int .i64 0), (.bool false), (.bool false), (.sl .full [])]), []⟩,
 ⟨none, none, .e (.store 12 (.t 1) (.t 12)), []⟩,
 ⟨some 2, none, .q (.mv (.t 13)), []⟩,
 ⟨some 3, none, .q (.mv (.t 14)), []⟩]
def c7_2 : ACode := .ops [
 ⟨some 16, none, .e (.call 5 [(.v (.str [49, 43]))]), []⟩,
 ⟨some 15, none, .q (.mv (.t 16)), []⟩,
 ⟨some 17, none, .q (.ext 0 (.t 15)), []⟩,
 ⟨some 18, none, .q (.ext 1 (.t 15)), []⟩,
 ⟨some 19, none, .q (.ext 2 (.t 15)), []⟩,
 ⟨some 4, none, .e (.alloc [(.int .i64 0), (.int .i64 0), (.str []), (.int .i64 0), (.int .i64 0), (.bool false), (.bool false), (.int .i64 0), (.int .i64 0), (.bool false), (.bool false), (.sl .full [])]), []⟩,
 ⟨none, none, .e (.store 12 (.t 4) (.t 17)), []⟩,
 ⟨some 5, none, .q (.mv (.t 18)), []⟩,
 ⟨some 6, none, .q (.mv (.t 19)), []⟩]
def c7_3 : ACode := .ops [
 ⟨some 21, none, .e (.call 15 [(.v (.str [40, 32, 49, 45, 40, 50, 32, 41, 32, 41, 45, 51]))]), []⟩,
 ⟨some 20, none, .q (.mv (.t 21)), []⟩,
 ⟨some 22, none, .q (.ext 0 (.t 20)), []⟩,
 ⟨some 23, none, .q (.ext 1 (.t 20)), []⟩,
 ⟨some 24, none, .q (.ext 2 (.t 20)), []⟩,
 ⟨some 7, none, .q (.mv (.t 22)), []⟩,
 ⟨some 8, none, .q (.mv (.t 23)), []⟩,
 ⟨some 9, none, .q (.mv (.t 24)), []⟩]
def c7_4 : ACode := .ops [
 ⟨some 25, none, .q (.mv (.t 3)), []⟩,
 ⟨some 26, none, .q (.bin .eql (.t 25) (.v (.int .i64 0))), []⟩,
 ⟨some 27, none, .q (.mv (.t 26)), []⟩,
 ⟨some 28, some (27, true), .q (.fa 0 (.t 1)), []⟩,
 ⟨some 29, some (27, true), .q (.ld none (.t 28)), []⟩,
 ⟨some 30, some (27, true), .q (.bin .eql (.t 29) (.v (.int .i64 14))), []⟩,
 ⟨some 31, none, .q (.pick (.t 27) (.t 30) (.v (.bool false))), []⟩,
 ⟨some 32, none, .q (.mv (.t 31)), []⟩,
 ⟨some 33, some (32, true), .q (.fa 11 (.t 1)), []⟩,
 ⟨some 34, some (32, true), .q (.ld none (.t 33)), []⟩,
 ⟨some 35, some (32, true), .q (.len (.t 34)), []⟩,
 ⟨some 36, some (32, true), .q (.bin .eql (.t 35) (.v (.int .i64 2))), []⟩,
 ⟨some 37, none, .q (.pick (.t 32) (.t 36) (.v (.bool false))), []⟩,
 ⟨some 38, none, .q (.mv (.t 37)), []⟩,
 ⟨some 39, some (38, true), .q (.fa 11 (.t 1)), []⟩,
 ⟨some 40, some (38, true), .q (.ld none (.t 39)), []⟩,
 ⟨some 41, some (38, true), .q (.ia 12 (.t 40) (.v (.int .i64 0))), []⟩,
 ⟨some 42, some (38, true), .q (.fa 0 (.t 41)), []⟩,
 ⟨some 43, some (38, true), .q (.ld none (.t 42)), []⟩,
 ⟨some 44, some (38, true), .q (.bin .eql (.t 43) (.v (.int .i64 7))), []⟩,
 ⟨some 45, none, .q (.pick (.t 38) (.t 44) (.v (.bool false))), []⟩,
 ⟨some 46, none, .q (.mv (.t 45)), []⟩,
 ⟨some 47, some (46, true), .q (.mv (.t 6)), []⟩,
 ⟨some 48, some (46, true), .q (.bin .eql (.t 47) (.v (.int .i64 10))), []⟩,
 ⟨some 49, none, .q (.pick (.t 46) (.t 48) (.v (.bool false))), []⟩,
 ⟨some 50, none, .q (.mv (.t 49)), []⟩,
 ⟨some 51, some (50, true), .q (.mv (.t 5)), []⟩,
 ⟨some 52, some (50, true), .q (.bin .eql (.t 51) (.v (.int .i64 2))), []⟩,
 ⟨some 53, none, .q (.pick (.t 50) (.t 52) (.v (.bool false))), []⟩,
 ⟨some 54, none, .q (.mv (.t 53)), []⟩,
 ⟨some 55, some (54, true), .q (.mv (.t 9)), []⟩,
 ⟨some 56, some (54, true), .q (.bin .eql (.t 55) (.v (.int .i64 0))), []⟩,
 ⟨some 57, none, .q (.pick (.t 54) (.t 56) (.v (.bool false))), []⟩,
 ⟨some 58, none, .q (.mv (.t 57)), []⟩,
 ⟨some 59, some (58, true), .q (.mv (.t 7)), []⟩,
 ⟨some 60, some (58, true), .q (.bin .eql (.t 59) (.v (.str [49, 45, 50, 45, 51]))), []⟩,
 ⟨some 61, none, .q (.pick (.t 58) (.t 60) (.v (.bool false))), []⟩,
 ⟨some 0, none, .q (.mv (.t 61)), []⟩]
def c7_5 : ACode := .seq c7_4 .ret
def c7_6 : ACode := .seq c7_3 c7_5
def c7_7 : ACode := .seq c7_2 c7_6
def c7_8 : ACode := .seq c7_1 c7_7
def c7_9 : ACode := .seq c7_0 c7_8
@[go_sem] def c7_0_wp := wp_of c7_0.eq_1
@[go_sem] def c7_1_wp := wp_of c7_1.eq_1
@[go_sem] def c7_2_wp := wp_of c7_2.eq_1
@[go_sem] def c7_3_wp := wp_of c7_3.eq_1
@[go_sem] def c7_4_wp := wp_of c7_4.eq_1
@[go_sem] def c7_5_wp := wp_of c7_5.eq_1
@[go_sem] def c7_6_wp := wp_of c7_6.eq_1
@[go_sem] def c7_7_wp := wp_of c7_7.eq_1
@[go_sem] def c7_8_wp := wp_of c7_8.eq_1
@[go_sem] def c7_9_wp := wp_of c7_9.eq_1
def c7 : AFn := ⟨62, [.t 0], c7_9⟩
theorem c7_ok : compF Tryz.prog Tryz.f7 = some c7 := by kernel_rfl
theorem a7 {args : List AV} {σ : ASt} {R : AV → ASt → Prop} (hl : args.length ≤ 62) (h : c7_9.wp Tryz.prog (RetQ [.t 0] R) (init args) σ) : ACalls Tryz.prog 7 args σ R := acalls_of Tryz.func7 c7_ok hl h
/-! 15: tabular/parse.Clean -/
def c15_0 : ACode := .ops [
 ⟨some 2, none, .q (.mv (.v (.str []))), []⟩,
 ⟨some 3, none, .q (.mv (.v (.int .i64 0))), []⟩,
 ⟨some 4, none, .q (.mv (.v (.int .i64 0))), []⟩]
def c15_1 : ACode := .ops [
 ⟨some 9, none, .q (.mv (.t 0)), []⟩,
 ⟨some 10, none, .e (.call 5 [(.t 9)]), []⟩,
 ⟨some 8, none, .q (.mv (.t 10)), []⟩,
 ⟨some 11, none, .q (.ext 0 (.t 8)), []⟩,
 ⟨some 12, none, .q (.ext 1 (.t 8)), []⟩,
 ⟨some 13, none, .q (.ext 2 (.t 8)), []⟩,
 ⟨some 5, none, .e (.alloc [(.int .i64 0), (.int .i64 0), (.str []), (.int .i64 0), (.int .i64 0), (.bool false), (.bool false), (.int .i64 0), (.int .i64 0), (.bool false), (.bool false), (.sl .full [])]), []⟩,
 ⟨none, none, .e (.store 12 (.t 5) (.t 11)), []⟩,
 ⟨some 6, none, .q (.mv (.t 12)), []⟩,
 ⟨some 7, none, .q (.mv (.t 13)), []⟩]
def c15_2 : ACode := .ops [
 ⟨some 14, none, .q (.mv (.t 7)), []⟩,
 ⟨some 15, none, .q (.bin .neq (.t 14) (.v (.int .i64 0))), []⟩]
def c15_3 : ACode := .ops [
 ⟨some 16, none, .q (.mv (.t 6)), []⟩,
 ⟨some 17, none, .q (.mv (.t 7)), []⟩,
 ⟨some 2, none, .q (.mv (.v (.str []))), []⟩,
 ⟨some 3, none, .q (.mv (.t 16)), []⟩,
 ⟨some 4, none, .q (.mv (.t 17)), []⟩]
def c15_4 : ACode := .seq c15_3 .ret
def c15_5 : ACode := .cond (.t 15) c15_4 .skip
def c15_6 : ACode := .seq c15_2 c15_5
def c15_7 : ACode := .ops [
 ⟨some 18, none, .q (.ld (some 12) (.t 5)), []⟩,
 ⟨some 19, none, .e (.call 8 [(.t 18)]), []⟩,
 ⟨some 2, none, .q (.mv (.t 19)), []⟩,
 ⟨some 3, none, .q (.mv (.v (.int .i64 0))), []⟩,
 ⟨some 4, none, .q (.mv (.v (.int .i64 0))), []⟩]
def c15_8 : ACode := .seq c15_7 .ret
def c15_9 : ACode := .seq c15_6 c15_8
def c15_10 : ACode := .seq c15_1 c15_9
def c15_11 : ACode := .seq c15_0 c15_10
@[go_sem] def c15_0_wp := wp_of c15_0.eq_1
@[go_sem] def c15_1_wp := wp_of c15_1.eq_1
@[go_sem] def c15_2_wp := wp_of c15_2.eq_1
@[go_sem] def c15_5_wp := wp_of c15_5.eq_1
@[go_sem] def c15_6_wp := wp_of c15_6.eq_1
@[go_sem] def c15_7_wp := wp_of c15_7.eq_1
@[go_sem] def c15_8_wp := wp_of c15_8.eq_1
@[go_sem] def c15_9_wp := wp_of c15_9.eq_1
@[go_sem] def c15_10_wp := wp_of c15_10.eq_1
@[go_sem] def c15_11_wp := wp_of c15_11.eq_1
def c15 : AFn := ⟨20, [.t 2, .t 3, .t 4], c15_11⟩
theorem c15_ok : compF Tryz.prog Tryz.f15 = some c15 := by kernel_rfl
theorem a15 {args : List AV} {σ : ASt} {R : AV → ASt → Prop} (hl : args.length ≤ 20) (h : c15_11.wp Tryz.prog (RetQ [.t 2, .t 3, .t 4] R) (init args) σ) : ACalls Tryz.prog 15 args σ R := acalls_of Tryz.func15 c15_ok hl h
end Go.A
namespace Go.A
open Go.Proofs Go.Lib
theorem lv_set {σ : ASt} {b : Nat} {r : Option Role} (h : LV σ) (hb : σ b = none) : LV (σ.set b r) := by
 unfold LV at h ⊢
 rw [ASt.set_ne]
 ·exact h
 ·intro e; rw [e, hb] at h; cases h
def awA : List UInt8 := [45, 50, 94, 50]
def awB : List UInt8 := [49, 43]
def awC : List UInt8 := [40, 32, 49, 45, 40, 50, 32, 41, 32, 41, 45, 51]
theorem pw_a : (parseR awA) = (.mk 14 0 [] .zero .zero [.mk 7 0 [] .zero .zero [.mk 1 20000 [] .zero .zero []], .mk 1 20000 [] .zero .zero []], 0, 0) := by kernel_rfl
theorem pw_b : (parseR awB) = (zN, 2, 10) := by kernel_rfl
theorem pw_c : (parseR awC).2.2 = 0 ∧ (parseR awC).1.spell = [49, 45, 50, 45, 51] := by decide +kernel
theorem clean_ok {σ : ASt} (hT : Tab σ) (hM : MaxL σ) (hU : U8 σ) (hV : LV σ) (s : List UInt8) (hs : s.length ≤ 100000) (h0 : (parseR s).2.2 = 0) (hl : (parseR s).1.spell.length ≤ 900000000) :
  ACalls Tryz.prog 15 [.str s] σ fun v σ' => v = .tuple [.str (parseR s).1.spell, .int .i64 0, .int .i64 0] ∧ σ' = σ := by
 have hP := parseR_ok hU hV s (by omega)
 obtain ⟨⟨hok, _⟩, hsz⟩ := parseR_gd h0
 obtain ⟨⟨n, k, er⟩, hR⟩ : ∃ R, parseR s = R := ⟨_, rfl⟩
 rw [hR] at hP hok h0 hl ⊢
 dsimp only at hP hok h0 hl ⊢
 subst h0
 have hp := fun (τ : ASt) (hT : Tab τ) (hM : MaxL τ) => print_ok hT hM n hok hl
 generalize n.spell = W at *
 obtain ⟨op, m, x, a, b, ks⟩ := n
 have hav : (Nd.mk op m x a b ks).av = .agg [.int .i64 op, .int .i64 m, .str x, .int .i64 a.row, .int .i64 a.col, .bool a.absRow, .bool a.absCol, .int .i64 b.row, .int .i64 b.col, .bool b.absRow, .bool b.absCol, .sl .shr (ks.map Nd.av)] := Nd.av_cs ..
 rw [hav] at hP hp
 generalize ks.map Nd.av = L at *
 refine a15 (by simp) ?_
 simp (disch := first | assumption | omega) only [go_sem, reduceCtorEq, ↓reduceIte]
 refine hP.mono ?_
 rintro v σ' ⟨rfl, rfl⟩
 simp (disch := first | assumption | omega) only [go_sem, Nat.reduceEqDiff, ↓reduceIte]
 refine allocC_by fun d hd => ?_
 have T1 := Tab.set (r := some (.obj [.int .i64 op, .int .i64 m, .str x, .int .i64 a.row, .int .i64 a.col, .bool a.absRow, .bool a.absCol, .int .i64 b.row, .int .i64 b.col, .bool b.absRow, .bool b.absCol, .sl .shr L])) hT hd
 have M1 := MaxL.set (r := some (.obj [.int .i64 op, .int .i64 m, .str x, .int .i64 a.row, .int .i64 a.col, .bool a.absRow, .bool a.absCol, .int .i64 b.row, .int .i64 b.col, .bool b.absRow, .bool b.absCol, .sl .shr L])) hM hd
 simp (disch := first | assumption | omega) only [go_sem, Nat.reduceEqDiff, Nat.reduceAdd, Nat.reduceLeDiff, ↓reduceIte, Bool.true_and, ASt.set_set]
 refine (hp _ T1 M1).mono ?_
 rintro v τ ⟨rfl, rfl⟩
 simp (disch := first | assumption | omega) only [go_sem, Nat.reduceEqDiff, ↓reduceIte]
 exact retC_by (by repeat' (first | exact Drop.refl _ | with_reducible refine Drop.off ?_ (by assumption))) (.refl _) ⟨rfl, rfl⟩
theorem pawake_ok {σ : ASt} (hT : Tab σ) (hM : MaxL σ) (hU : U8 σ) (hV : LV σ) : ACalls Tryz.prog 7 [] σ fun v σ' => v = .bool true ∧ σ' = σ := by
 have hA := fun (τ : ASt) (hU : U8 τ) (hV : LV τ) => parseR_ok hU hV awA (by decide)
 have hB := fun (τ : ASt) (hU : U8 τ) (hV : LV τ) => parseR_ok hU hV awB (by decide)
 have hC := fun (τ : ASt) (hT : Tab τ) (hM : MaxL τ) (hU : U8 τ) (hV : LV τ) => clean_ok hT hM hU hV awC (by decide) pw_c.1 (by rw [pw_c.2]; decide)
 simp only [pw_a] at hA
 simp only [pw_b, zN_av] at hB
 simp only [pw_c.2] at hC
 obtain ⟨Y, hY⟩ : ∃ Y, (Nd.mk 1 20000 [] .zero .zero []).av = Y := ⟨_, rfl⟩
 have hav : (Nd.mk 14 0 [] .zero .zero [.mk 7 0 [] .zero .zero [.mk 1 20000 [] .zero .zero []], .mk 1 20000 [] .zero .zero []]).av = .agg [.int .i64 14, .int .i64 0, .str [], .int .i64 0, .int .i64 0, .bool false, .bool false, .int .i64 0, .int .i64 0, .bool false, .bool false, .sl .shr [.agg [.int .i64 7, .int .i64 0, .str [], .int .i64 0, .int .i64 0, .bool false, .bool false, .int .i64 0, .int .i64 0, .bool false, .bool false, .sl .shr [Y]], Y]] := by
  rw [Nd.av_cs]; simp only [List.map_cons, List.map_nil, Nd.av_cs, hY]; rfl
 simp only [hav] at hA
 unfold Nd.cs at hB
 simp only [awA, awB, awC] at hA hB hC
 refine a7 (by simp) ?_
 simp (disch := first | assumption | omega) only [go_sem]
 refine (hA _ hU hV).mono ?_
 rintro v σ' ⟨rfl, rfl⟩
 simp (disch := first | assumption | omega) only [go_sem, Nat.reduceEqDiff, ↓reduceIte]
 refine allocC_by fun b1 h1 => ?_
 have U1 := U8.set (r := some (.obj [.int .i64 14, .int .i64 0, .str [], .int .i64 0, .int .i64 0, .bool false, .bool false, .int .i64 0, .int .i64 0, .bool false, .bool false, .sl .shr [.agg [.int .i64 7, .int .i64 0, .str [], .int .i64 0, .int .i64 0, .bool false, .bool false, .int .i64 0, .int .i64 0, .bool false, .bool false, .sl .shr [Y]], Y]])) hU h1
 have V1 := lv_set (r := some (.obj [.int .i64 14, .int .i64 0, .str [], .int .i64 0, .int .i64 0, .bool false, .bool false, .int .i64 0, .int .i64 0, .bool false, .bool false, .sl .shr [.agg [.int .i64 7, .int .i64 0, .str [], .int .i64 0, .int .i64 0, .bool false, .bool false, .int .i64 0, .int .i64 0, .bool false, .bool false, .sl .shr [Y]], Y]])) hV h1
 have T1 := Tab.set (r := some (.obj [.int .i64 14, .int .i64 0, .str [], .int .i64 0, .int .i64 0, .bool false, .bool false, .int .i64 0, .int .i64 0, .bool false, .bool false, .sl .shr [.agg [.int .i64 7, .int .i64 0, .str [], .int .i64 0, .int .i64 0, .bool false, .bool false, .int .i64 0, .int .i64 0, .bool false, .bool false, .sl .shr [Y]], Y]])) hT h1
 have M1 := MaxL.set (r := some (.obj [.int .i64 14, .int .i64 0, .str [], .int .i64 0, .int .i64 0, .bool false, .bool false, .int .i64 0, .int .i64 0, .bool false, .bool false, .sl .shr [.agg [.int .i64 7, .int .i64 0, .str [], .int .i64 0, .int .i64 0, .bool false, .bool false, .int .i64 0, .int .i64 0, .bool false, .bool false, .sl .shr [Y]], Y]])) hM h1
 simp (disch := first | assumption | omega) only [go_sem, Nat.reduceEqDiff, Nat.reduceAdd, Nat.reduceLeDiff, ↓reduceIte, Bool.true_and, ASt.set_set]
 refine (hB _ U1 V1).mono ?_
 rintro v τ ⟨rfl, rfl⟩
 simp (disch := first | assumption | omega) only [go_sem, Nat.reduceEqDiff, ↓reduceIte]
 refine allocC_by fun b2 h2 => ?_
 have h20 := h2
 repeat (with_reducible replace h2 := set_none h2; obtain ⟨_, _, h2⟩ := h2)
 obtain ⟨Z, hZ⟩ : ∃ Z : Option Role, Z = some (.obj [.int .i64 0, .int .i64 0, .str [], .int .i64 0, .int .i64 0, .bool false, .bool false, .int .i64 0, .int .i64 0, .bool false, .bool false, .sl .shr []]) := ⟨_, rfl⟩
 have U2 := U8.set (r := Z) U1 h20
 have V2 := lv_set (r := Z) V1 h20
 have T2 := Tab.set (r := Z) T1 h20
 have M2 := MaxL.set (r := Z) M1 h20
 rw [hZ] at U2 V2 T2 M2
 simp (disch := first | assumption | omega) only [go_sem, Nat.reduceEqDiff, Nat.reduceAdd, Nat.reduceLeDiff, ↓reduceIte, Bool.true_and, ASt.set_set]
 refine (hC _ T2 M2 U2 V2).mono ?_
 rintro v τ ⟨rfl, rfl⟩
 simp (disch := first | assumption | omega) only [go_sem, Nat.reduceEqDiff, Nat.reduceAdd, ↓reduceIte, eq_self]
 exact retC_by (by repeat' (first | exact Drop.refl _ | with_reducible refine Drop.off ?_ (by assumption))) (.refl _) ⟨rfl, rfl⟩
end Go.A
namespace Go.A
open Go.Proofs
/-! 3: tabular/tabularlaw13.ParseBack -/
end Go.A
namespace Go.A
open Go.Proofs Go.Lib
theorem dbl_le2 (s : List UInt8) : (dbl s).length ≤ 2 * s.length := by
 unfold dbl
 induction s with
 | nil => simp
 | cons c s ih =>
   rw [List.flatMap_cons, List.length_append, List.length_cons]
   split <;> simp only [List.length_cons, List.length_nil] <;> omega
theorem quotT_len (s : List UInt8) : (quotT s).length ≤ 2 * s.length + 2 := by
 have h : (quotT s).length = (dbl s).length + 2 := by unfold quotT dbl; simp
 have := dbl_le2 s
 omega
theorem insT_len (least op : Int) (x : List UInt8) : (insT least op x).length ≤ x.length + 2 := by
 unfold insT
 split
 ·omega
 ·simp
theorem signs_le2 : ∀ i < 12, (signL.getD i []).length ≤ 2 := by decide
theorem errL_len : ∀ k < 7, (errL.getD k []).length ≤ 7 := by decide
theorem joinS_len (ks : List Nd) (h : ∀ k ∈ ks, k.spell.length + 1 ≤ 16300 * k.size) : (joinS ks).length ≤ 16300 * Nd.sizes ks := by
 have flat : ∀ l : List Nd, (∀ k ∈ l, k.spell.length + 1 ≤ 16300 * k.size) → (l.flatMap fun k => 44 :: k.spell).length ≤ 16300 * Nd.sizes l := by
  intro l
  induction l with
  | nil => intro _; simp
  | cons x l ih =>
    intro hl
    have h1 := hl x (by simp)
    have h2 := ih fun k hk => hl k (by simp [hk])
    rw [List.flatMap_cons, List.length_append, List.length_cons, Nd.sizes]
    omega
 cases ks with
 | nil => simp [joinS]
 | cons x l =>
   have h1 := h x (by simp)
   have h2 := flat l fun k hk => h k (by simp [hk])
   rw [joinS, List.length_append, Nd.sizes]
   omega
theorem nf_spell {n : Nd} (h : Nf n) : n.spell.length + 1 ≤ 16300 * n.size := by
 induction h with
 | @num n h0 h1 =>
   have e : (Nd.mk 1 n [] .zero .zero []).spell = textD n := rfl
   have := textD_len (a := n) (by omega)
   rw [leaf_size, e]
   omega
 | @text s _ hs =>
   have e : (Nd.mk 2 0 s .zero .zero []).spell = quotT s := rfl
   have := quotT_len s
   rw [leaf_size, e]
   omega
 | @truth b hb =>
   rcases hb with rfl | rfl
   ·exact (by decide : 6 ≤ 16300 * 1)
   ·exact (by decide : 5 ≤ 16300 * 1)
 | @fail k hk =>
   have e : (Nd.mk 4 (((k : Int) + 1) * 10000) [] .zero .zero []).spell = errL.getD k [] := fail_text hk
   have := errL_len k hk
   rw [leaf_size, e]
   omega
 | @cell r hr =>
   have e : (Nd.mk 5 0 [] r .zero []).spell = textP r := rfl
   have := text_len hr
   rw [leaf_size, e]
   omega
 | @area r q hr hq =>
   have e : (Nd.mk 6 0 [] r q []).spell = textP r ++ [58] ++ textP q := rfl
   have := text_len hr
   have := text_len hq
   rw [leaf_size, e, List.length_append, List.length_append, List.length_singleton]
   omega
 | @sign op x ho hx hne ih =>
   have := insT_len 6 x.op x.spell
   rw [one_size, spell_sign ho, List.length_append, List.length_singleton]
   omega
 | @hund x hx hne ih =>
   have := insT_len 7 x.op x.spell
   rw [one_size, spell_hund, List.length_append, List.length_singleton]
   omega
 | @bin i x y hi hx hnx hy hny ihx ihy =>
   have h1 := insT_len (levelP (10 + i)) x.op x.spell
   have h2 := insT_len (levelP (10 + i) + 1) y.op y.spell
   have h3 := signs_le2 i hi
   rw [two_size, spell_bin hi, List.length_append, List.length_append]
   omega
 | @call s ks hs hl hk hm ih =>
   have h1 := joinS_len ks ih
   rw [Nd.size, spell_call, List.length_append, List.length_append, List.length_append, List.length_singleton, List.length_singleton]
   omega
 | miss => exact (by decide : 1 ≤ 16300 * 1)
theorem same_tr (n : Nd) : Nd.same n n = true := Nd.same_refl n
end Go.A
namespace Go.A
open Go.Proofs
/-! 4: tabular/tabularlaw13.ParseTrees -/
def c4_0 : ACode := .ops [
 ⟨some 2, none, .q (.mv (.v (.bool false))), []⟩]
def c4_1 : ACode := .ops [
 ⟨some 8, none, .q (.mv (.t 0)), []⟩,
 ⟨some 9, none, .e (.call 10 [(.t 8)]), []⟩,
 ⟨some 3, none, .e (.alloc [(.int .i64 0), (.int .i64 0), (.str []), (.int .i64 0), (.int .i64 0), (.bool false), (.bool false), (.int .i64 0), (.int .i64 0), (.bool false), (.bool false), (.sl .full [])]), []⟩,
 ⟨none, none, .e (.store 12 (.t 3) (.t 9)), []⟩]
def c4_2 : ACode := .ops [
 ⟨some 10, none, .q (.ld (some 12) (.t 3)), []⟩,
 ⟨some 11, none, .e (.call 8 [(.t 10)]), []⟩,
 ⟨some 4, none, .q (.mv (.t 11)), []⟩]
def c4_3 : ACode := .ops [
 ⟨some 13, none, .q (.mv (.t 4)), []⟩,
 ⟨some 14, none, .e (.call 5 [(.t 13)]), []⟩,
 ⟨some 12, none, .q (.mv (.t 14)), []⟩,
 ⟨some 15, none, .q (.ext 0 (.t 12)), []⟩,
 ⟨some 16, none, .q (.ext 1 (.t 12)), []⟩,
 ⟨some 17, none, .q (.ext 2 (.t 12)), []⟩,
 ⟨some 5, none, .e (.alloc [(.int .i64 0), (.int .i64 0), (.str []), (.int .i64 0), (.int .i64 0), (.bool false), (.bool false), (.int .i64 0), (.int .i64 0), (.bool false), (.bool false), (.sl .full [])]), []⟩,
 ⟨none, none, .e (.store 12 (.t 5) (.t 15)), []⟩,
 ⟨some 6, none, .q (.mv (.t 16)), []⟩,
 ⟨some 7, none, .q (.mv (.t 17)), []⟩]
def c4_4 : ACode := .ops [
 ⟨some 18, none, .q (.mv (.t 7)), []⟩,
 ⟨some 19, none, .q (.bin .neq (.t 18) (.v (.int .i64 0))), []⟩]
def c4_5 : ACode := .ops [
 ⟨some 20, none, .e (.call 7 []), []⟩,
 ⟨some 21, none, .q (.mv (.t 20)), []⟩,
 ⟨some 22, some (21, true), .q (.mv (.t 7)), []⟩,
 ⟨some 23, some (21, true), .q (.bin .eql (.t 22) (.v (.int .i64 12))), []⟩,
 ⟨some 24, some (21, true), .q (.mv (.t 23)), []⟩,
 ⟨some 25, some (24, false), .q (.mv (.t 7)), []⟩,
 ⟨some 26, some (24, false), .q (.bin .eql (.t 25) (.v (.int .i64 11))), []⟩,
 ⟨some 27, some (21, true), .q (.pick (.t 24) (.v (.bool true)) (.t 26)), []⟩,
 ⟨some 28, none, .q (.pick (.t 21) (.t 27) (.v (.bool false))), []⟩,
 ⟨some 2, none, .q (.mv (.t 28)), []⟩]
def c4_6 : ACode := .seq c4_5 .ret
def c4_7 : ACode := .cond (.t 19) c4_6 .skip
def c4_8 : ACode := .seq c4_4 c4_7
def c4_9 : ACode := .ops [
 ⟨some 29, none, .e (.call 7 []), []⟩,
 ⟨some 30, none, .q (.mv (.t 29)), []⟩,
 ⟨some 31, some (30, true), .q (.ld (some 12) (.t 5)), []⟩,
 ⟨some 32, some (30, true), .e (.call 8 [(.t 31)]), []⟩,
 ⟨some 33, some (30, true), .q (.mv (.t 4)), []⟩,
 ⟨some 34, some (30, true), .q (.bin .eql (.t 32) (.t 33)), []⟩,
 ⟨some 35, none, .q (.pick (.t 30) (.t 34) (.v (.bool false))), []⟩,
 ⟨some 36, none, .q (.mv (.t 35)), []⟩,
 ⟨some 37, some (36, true), .q (.ld (some 12) (.t 5)), []⟩,
 ⟨some 38, some (36, true), .q (.ld (some 12) (.t 3)), []⟩,
 ⟨some 39, some (36, true), .e (.call 9 [(.t 37), (.t 38)]), []⟩,
 ⟨some 40, none, .q (.pick (.t 36) (.t 39) (.v (.bool false))), []⟩,
 ⟨some 2, none, .q (.mv (.t 40)), []⟩]
def c4_10 : ACode := .seq c4_9 .ret
def c4_11 : ACode := .seq c4_8 c4_10
def c4_12 : ACode := .seq c4_3 c4_11
def c4_13 : ACode := .seq c4_2 c4_12
def c4_14 : ACode := .seq c4_1 c4_13
def c4_15 : ACode := .seq c4_0 c4_14
@[go_sem] def c4_0_wp := wp_of c4_0.eq_1
@[go_sem] def c4_1_wp := wp_of c4_1.eq_1
@[go_sem] def c4_2_wp := wp_of c4_2.eq_1
@[go_sem] def c4_3_wp := wp_of c4_3.eq_1
@[go_sem] def c4_4_wp := wp_of c4_4.eq_1
@[go_sem] def c4_5_wp := wp_of c4_5.eq_1
@[go_sem] def c4_6_wp := wp_of c4_6.eq_1
@[go_sem] def c4_7_wp := wp_of c4_7.eq_1
@[go_sem] def c4_8_wp := wp_of c4_8.eq_1
@[go_sem] def c4_9_wp := wp_of c4_9.eq_1
@[go_sem] def c4_10_wp := wp_of c4_10.eq_1
@[go_sem] def c4_11_wp := wp_of c4_11.eq_1
@[go_sem] def c4_12_wp := wp_of c4_12.eq_1
@[go_sem] def c4_13_wp := wp_of c4_13.eq_1
@[go_sem] def c4_14_wp := wp_of c4_14.eq_1
@[go_sem] def c4_15_wp := wp_of c4_15.eq_1
def c4 : AFn := ⟨41, [.t 2], c4_15⟩
theorem c4_ok : compF Tryz.prog Tryz.f4 = some c4 := by kernel_rfl
theorem a4 {args : List AV} {σ : ASt} {R : AV → ASt → Prop} (hl : args.length ≤ 41) (h : c4_15.wp Tryz.prog (RetQ [.t 2] R) (init args) σ) : ACalls Tryz.prog 4 args σ R := acalls_of Tryz.func4 c4_ok hl h
end Go.A
namespace Go.A
open Go.Proofs Go.Lib
theorem ParseTrees_any {σ : ASt} (hT : Tab σ) (hM : MaxL σ) (hU : U8 σ) (hV : LV σ) (l : List Pt) :
  ACalls Tryz.prog 4 [.sl .shr (l.map Pt.av)] σ fun v σ' => v = .bool true ∧ σ' = σ := by
 have hA : ∀ τ, Tab τ → MaxL τ → U8 τ → LV τ → ACalls Tryz.prog 7 [] τ fun v σ' => v = .bool true ∧ σ' = τ := fun τ h1 h2 h3 h4 => pawake_ok h1 h2 h3 h4
 have hG := Grow_ok l
 have hlaw := trees_law l
 obtain ⟨hok, _, hsz⟩ := growP_facts l
 obtain ⟨hn, _⟩ := growK_nf (l.take 40) 41 0
 have hg : (growK (l.take 40) 41 0).1 = growP l := rfl
 rw [hg] at hn
 clear hg
 generalize growP l = n at *
 have hsp := nf_spell hn
 have hp := fun (τ : ASt) (hT : Tab τ) (hM : MaxL τ) => print_ok hT hM n hok (by omega)
 have hP2 := fun (τ : ASt) (h1 : U8 τ) (h2 : LV τ) => parseR_ok h1 h2 n.spell (by omega)
 have hS := esame_ok n n (by omega) (by omega)
 rw [same_tr] at hS
 generalize n.spell = w at *
 clear hok hsz hn hsp
 obtain ⟨op, m, x, a, b, ks⟩ := n
 have hav : (Nd.mk op m x a b ks).av = .agg [.int .i64 op, .int .i64 m, .str x, .int .i64 a.row, .int .i64 a.col, .bool a.absRow, .bool a.absCol, .int .i64 b.row, .int .i64 b.col, .bool b.absRow, .bool b.absCol, .sl .shr (ks.map Nd.av)] := Nd.av_cs ..
 rw [hav] at hG hp hS
 rcases hlaw with hb | hb
 ·rw [hb] at hP2
  dsimp only at hP2
  rw [hav] at hP2
  generalize ks.map Nd.av = L at *
  refine a4 (by simp) ?_
  simp (disch := first | assumption | omega) only [go_sem, reduceCtorEq, ↓reduceIte]
  refine hG.use ?_
  simp (disch := first | assumption | omega) only [go_sem]
  refine allocC_by fun c1 h1 => ?_
  have T1 := fun r => Tab.set (r := r) hT h1
  have M1 := fun r => MaxL.set (r := r) hM h1
  have U1 := fun r => U8.set (r := r) hU h1
  have V1 := fun r => lv_set (r := r) hV h1
  simp (disch := first | assumption | omega) only [go_sem, Nat.reduceEqDiff, Nat.reduceAdd, Nat.reduceLeDiff, ↓reduceIte, Bool.true_and, ASt.set_set]
  refine (hp _ (T1 _) (M1 _)).mono ?_
  rintro v σ' ⟨rfl, rfl⟩
  simp (disch := first | assumption | omega) only [go_sem, ↓reduceIte]
  refine (hP2 _ (U1 _) (V1 _)).mono ?_
  rintro v σ' ⟨rfl, rfl⟩
  simp (disch := first | assumption | omega) only [go_sem, Nat.reduceEqDiff, ↓reduceIte]
  refine allocC_by fun c2 h2 => ?_
  have T2 := fun r => Tab.set (r := r) (T1 _) h2
  have M2 := fun r => MaxL.set (r := r) (M1 _) h2
  have U2 := fun r => U8.set (r := r) (U1 _) h2
  have V2 := fun r => lv_set (r := r) (V1 _) h2
  have hcc : c1 ≠ c2 := by rintro rfl; rw [ASt.set_same] at h2; cases h2
  have hcc' : c2 ≠ c1 := Ne.symm hcc
  simp (disch := first | assumption | omega) only [go_sem, Nat.reduceEqDiff, Nat.reduceAdd, Nat.reduceLeDiff, ↓reduceIte, Bool.true_and, ASt.set_set]
  refine (hA _ (T2 _) (M2 _) (U2 _) (V2 _)).mono ?_
  rintro v σ' ⟨rfl, rfl⟩
  simp (disch := first | assumption | omega) only [go_sem, Nat.reduceEqDiff, Nat.reduceAdd, Nat.reduceLeDiff, ↓reduceIte]
  refine (hp _ (T2 _) (M2 _)).mono ?_
  rintro v σ' ⟨rfl, rfl⟩
  simp (disch := first | assumption | omega) only [go_sem, Nat.reduceEqDiff, Nat.reduceAdd, Nat.reduceLeDiff, ↓reduceIte]
  refine hS.use ?_
  simp (disch := first | assumption | omega) only [go_sem, Nat.reduceEqDiff, ↓reduceIte]
  exact retC_by ((Drop.set h2).trans (Drop.set h1)) (.refl _) ⟨rfl, rfl⟩
 ·obtain ⟨⟨⟨op2, m2, x2, a2, b2, ks2⟩, k2, e2⟩, hR2⟩ : ∃ R, parseR w = R := ⟨_, rfl⟩
  rw [hR2] at hb hP2
  dsimp only at hb hP2
  have hav2 : (Nd.mk op2 m2 x2 a2 b2 ks2).av = .agg [.int .i64 op2, .int .i64 m2, .str x2, .int .i64 a2.row, .int .i64 a2.col, .bool a2.absRow, .bool a2.absCol, .int .i64 b2.row, .int .i64 b2.col, .bool b2.absRow, .bool b2.absCol, .sl .shr (ks2.map Nd.av)] := Nd.av_cs ..
  rw [hav2] at hP2
  generalize ks.map Nd.av = L at *
  generalize ks2.map Nd.av = L2 at *
  clear hR2
  rcases hb with rfl | rfl
  ·refine a4 (by simp) ?_
   simp (disch := first | assumption | omega) only [go_sem, reduceCtorEq, ↓reduceIte]
   refine hG.use ?_
   simp (disch := first | assumption | omega) only [go_sem]
   refine allocC_by fun c1 h1 => ?_
   have T1 := fun r => Tab.set (r := r) hT h1
   have M1 := fun r => MaxL.set (r := r) hM h1
   have U1 := fun r => U8.set (r := r) hU h1
   have V1 := fun r => lv_set (r := r) hV h1
   simp (disch := first | assumption | omega) only [go_sem, Nat.reduceEqDiff, Nat.reduceAdd, Nat.reduceLeDiff, ↓reduceIte, Bool.true_and, ASt.set_set]
   refine (hp _ (T1 _) (M1 _)).mono ?_
   rintro v σ' ⟨rfl, rfl⟩
   simp (disch := first | assumption | omega) only [go_sem, ↓reduceIte]
   refine (hP2 _ (U1 _) (V1 _)).mono ?_
   rintro v σ' ⟨rfl, rfl⟩
   simp (disch := first | assumption | omega) only [go_sem, Nat.reduceEqDiff, ↓reduceIte]
   refine allocC_by fun c2 h2 => ?_
   have T2 := fun r => Tab.set (r := r) (T1 _) h2
   have M2 := fun r => MaxL.set (r := r) (M1 _) h2
   have U2 := fun r => U8.set (r := r) (U1 _) h2
   have V2 := fun r => lv_set (r := r) (V1 _) h2
   have hcc : c1 ≠ c2 := by rintro rfl; rw [ASt.set_same] at h2; cases h2
   have hcc' : c2 ≠ c1 := Ne.symm hcc
   simp (disch := first | assumption | omega) only [go_sem, Nat.reduceEqDiff, Nat.reduceAdd, Nat.reduceLeDiff, Int.reduceEq, ↓reduceIte, Bool.true_and, ASt.set_set]
   refine (hA _ (T2 _) (M2 _) (U2 _) (V2 _)).mono ?_
   rintro v σ' ⟨rfl, rfl⟩
   simp (disch := first | assumption | omega) only [go_sem, Nat.reduceEqDiff, Int.reduceEq, ↓reduceIte]
   exact retC_by ((Drop.set h2).trans (Drop.set h1)) (.refl _) ⟨rfl, rfl⟩
  ·refine a4 (by simp) ?_
   simp (disch := first | assumption | omega) only [go_sem, reduceCtorEq, ↓reduceIte]
   refine hG.use ?_
   simp (disch := first | assumption | omega) only [go_sem]
   refine allocC_by fun c1 h1 => ?_
   have T1 := fun r => Tab.set (r := r) hT h1
   have M1 := fun r => MaxL.set (r := r) hM h1
   have U1 := fun r => U8.set (r := r) hU h1
   have V1 := fun r => lv_set (r := r) hV h1
   simp (disch := first | assumption | omega) only [go_sem, Nat.reduceEqDiff, Nat.reduceAdd, Nat.reduceLeDiff, ↓reduceIte, Bool.true_and, ASt.set_set]
   refine (hp _ (T1 _) (M1 _)).mono ?_
   rintro v σ' ⟨rfl, rfl⟩
   simp (disch := first | assumption | omega) only [go_sem, ↓reduceIte]
   refine (hP2 _ (U1 _) (V1 _)).mono ?_
   rintro v σ' ⟨rfl, rfl⟩
   simp (disch := first | assumption | omega) only [go_sem, Nat.reduceEqDiff, ↓reduceIte]
   refine allocC_by fun c2 h2 => ?_
   have T2 := fun r => Tab.set (r := r) (T1 _) h2
   have M2 := fun r => MaxL.set (r := r) (M1 _) h2
   have U2 := fun r => U8.set (r := r) (U1 _) h2
   have V2 := fun r => lv_set (r := r) (V1 _) h2
   have hcc : c1 ≠ c2 := by rintro rfl; rw [ASt.set_same] at h2; cases h2
   have hcc' : c2 ≠ c1 := Ne.symm hcc
   simp (disch := first | assumption | omega) only [go_sem, Nat.reduceEqDiff, Nat.reduceAdd, Nat.reduceLeDiff, Int.reduceEq, ↓reduceIte, Bool.true_and, ASt.set_set]
   refine (hA _ (T2 _) (M2 _) (U2 _) (V2 _)).mono ?_
   rintro v σ' ⟨rfl, rfl⟩
   simp (disch := first | assumption | omega) only [go_sem, Nat.reduceEqDiff, ↓reduceIte]
   exact retC_by ((Drop.set h2).trans (Drop.set h1)) (.refl _) ⟨rfl, rfl⟩
end Go.A
namespace Go.Proofs.YtaonfjelncbhjaaGreatDoor
open Go Go.ChangeShapes Go.WideShapes Go.ChangeAt Go.RowKit Go.A Go.Lib Go.Shelf
theorem row_own : ownKnob Tryz.prog.godebug = none := by kernel_rfl
theorem row_laid : laidOutB Tryz.prog = true := by kernel_rfl
theorem first_eq : Rows.laid_unicode_utf8_first = firstData := by kernel_rfl
theorem acc_eq : (Rows.laid_unicode_utf8_acceptRanges : DataW Unit) = acceptData := by kernel_rfl
theorem u8_extra : U8Extra Tryz.prog Tryz.lays260_ren := ⟨by kernel_rfl, by kernel_rfl, by kernel_rfl, by kernel_rfl, by kernel_rfl, by kernel_rfl, by kernel_rfl⟩
theorem var_size {P : Program} {w : World} {n : String} {d : DataW Unit} (h : VarReads P w n d) {g : Nat} (hg : P.globalNamed n = some g) {t e : TypeId} {k : Nat} (hty : (P.globals[g]?).map (·.type) = some t) (ht : P.underlying t = some (.array k e)) :
  ∃ cs T fr, w.heap[g]? = some (.cells cs T fr) ∧ cs.size = P.cellsOf t := by
 obtain ⟨g', t', cs, fuel, p, hg', hty', hvar, hd⟩ := h
 obtain rfl := Option.some.inj (hg.symm.trans hg')
 obtain rfl := Option.some.inj (hty.symm.trans hty')
 have hlen : cs.toList.length = P.cellsOf t := by
  cases fuel with
  | zero => simp [DataW.trod] at hd
  | succ fuel =>
    simp only [DataW.trod, ht] at hd
    split at hd
    ·assumption
    ·cases hd
 unfold World.var? at hvar
 rw [hg, Option.bind_some] at hvar
 split at hvar
 ·rename_i cs' T fr hheap
  injection hvar with hvar
  subst hvar
  exact ⟨_, _, _, hheap, by simpa using hlen⟩
 ·cases hvar
theorem ints_reps {σ : ASt} {w : World} {k : IntKind} : ∀ zs : List Int, Reps σ w (zs.map (AV.int k)) (zs.map (Value.int k))
 | [] => .nil
 | z :: zs => .cons (.int k z) (ints_reps zs)
theorem fix_ok {σ : ASt} {W : World} {b : Nat} {zs : List Int} (hs : σ b = some (.fix (zs.map (AV.int .u8)))) {cs : Array Value} {T : TypeId} {fr : Nat × Nat} (hh : W.heap[b]? = some (.cells cs T fr)) (hsz : cs.size = zs.length)
  (hc : ∀ j z, zs[j]? = some z → W.cell? ⟨b, j, none⟩ = some (.int .u8 z)) : RoleOk σ W b (.fix (zs.map (AV.int .u8))) := by
 have hlt : b < W.heap.size := (Array.getElem?_eq_some_iff.1 hh).1
 refine ⟨At.mk' (ints_reps _) (fun j _ => ⟨hlt, .inr (.inl ⟨_, hs⟩)⟩) (fun j v hj => ?_), cs, T, fr, hh, by simpa using hsz⟩
 rw [List.getElem?_map] at hj
 obtain ⟨z, hz, rfl⟩ := Option.map_eq_some_iff.1 hj
 rw [Nat.zero_add]
 exact hc j z hz
def stOf : List (Nat × List AV) → ASt
 | [], _ => none
 | p :: ps, b => if b = p.1 then some (.fix p.2) else stOf ps b
theorem stOf_fix : ∀ {ps : List (Nat × List AV)} {b : Nat} {r : Role}, stOf ps b = some r → ∃ l, r = .fix l
 | [], _, _, h => by cases h
 | p :: ps, b, r, h => by
   simp only [stOf] at h
   split at h
   ·injection h with h; exact ⟨_, h.symm⟩
   ·exact stOf_fix h
theorem stOf_mem : ∀ {ps : List (Nat × List AV)} {b : Nat} {r : Role}, stOf ps b = some r → ∃ l, (b, l) ∈ ps ∧ r = .fix l
 | [], _, _, h => by cases h
 | p :: ps, b, r, h => by
   simp only [stOf] at h
   split at h
   ·rename_i hb
    injection h with h
    subst hb
    exact ⟨p.2, List.mem_cons_self, h.symm⟩
   ·obtain ⟨l, hl, he⟩ := stOf_mem h
    exact ⟨l, List.mem_cons_of_mem _ hl, he⟩
theorem still_fix {σ : ASt} (hfx : ∀ b r, σ b = some r → ∃ l, r = .fix l) {w : World} {b o : Nat} (h : b < w.heap.size) : Still σ w b o := by
 refine ⟨h, ?_⟩
 cases hb : σ b with
 | none => exact .inl rfl
 | some r => obtain ⟨l, rfl⟩ := hfx b r hb; exact .inr (.inl ⟨_, rfl⟩)
end Go.Proofs.YtaonfjelncbhjaaGreatDoor
namespace Go.A
section
variable {σ : ASt} {w : World}
theorem Still.fixed (hfx : ∀ b r, σ b = some r → ∃ l, r = .fix l) {b o : Nat} (h : Still noRole w b o) : Still σ w b o := by
 refine ⟨h.1, ?_⟩
 cases hb : σ b with
 | none => exact .inl rfl
 | some r => obtain ⟨l, rfl⟩ := hfx b r hb; exact .inr (.inl ⟨_, rfl⟩)
theorem Stands.fixed (hfx : ∀ b r, σ b = some r → ∃ l, r = .fix l) (b : Nat) : Stands σ b := by
 refine ⟨fun cs h => ?_, fun l p h => ?_, fun T cs h => ?_⟩ <;> (obtain ⟨l, hl⟩ := hfx b _ h; cases hl)
theorem SK.ok_fixed (hfx : ∀ b r, σ b = some r → ∃ l, r = .fix l) {k : SK} {b o n c sz : Nat} (h : k.ok noRole w b o n c sz) : k.ok σ w b o n c sz := by
 cases k with
 | shr => trivial
 | full => exact h
 | tok t s T => exact ⟨h.1, h.2.1, h.2.2.1, h.2.2.2.1, Stands.fixed hfx b⟩
mutual
theorem Rep.fixed (hfx : ∀ b r, σ b = some r → ∃ l, r = .fix l) : ∀ {a : AV} {v : Value}, Rep noRole w a v → Rep σ w a v
 | _, _, .any v => .any v
 | _, _, .bool b => .bool b
 | _, _, .int k n => .int k n
 | _, _, .str l => .str l
 | _, _, .ptr b o => .ptr b o
 | _, _, .imm h1 => .imm (h1.fixed hfx)
 | _, _, .nilp => .nilp
 | _, _, .slE A c => .slE A c
 | _, _, .slN => .slN
 | _, _, .sl h1 h2 h3 h4 h5 => .sl (h1.fixed hfx) h2 h3 (SK.ok_fixed hfx h4) h5
 | _, _, .msl b o n c => .msl b o n c
 | _, _, .agg h1 => .agg (h1.fixed hfx)
 | _, _, .tuple h1 => .tuple (h1.fixed hfx)
 | _, _, .iface h1 => .iface (h1.fixed hfx)
 | _, _, .nili => .nili
 | _, _, .func h1 h2 => .func (h1.fixed hfx) (h2.fixed hfx)
 | _, _, .nilf => .nilf
theorem Reps.fixed (hfx : ∀ b r, σ b = some r → ∃ l, r = .fix l) : ∀ {avs : List AV} {vs : List Value}, Reps noRole w avs vs → Reps σ w avs vs
 | _, _, .nil => .nil
 | _, _, .cons h1 h2 => .cons (h1.fixed hfx) (h2.fixed hfx)
theorem At.fixed (hfx : ∀ b r, σ b = some r → ∃ l, r = .fix l) : ∀ {b o : Nat} {avs : List AV}, At noRole w b o avs → At σ w b o avs
 | _, _, _, .nil b o => .nil b o
 | _, _, _, .cons h1 h2 h3 h4 => .cons (h1.fixed hfx) h2 (h3.fixed hfx) (h4.fixed hfx)
theorem Row.fixed (hfx : ∀ b r, σ b = some r → ∃ l, r = .fix l) : ∀ {b o sz : Nat} {avs : List AV}, Row noRole w b o sz avs → Row σ w b o sz avs
 | _, _, _, _, .nil b o sz => .nil b o sz
 | _, _, _, _, .cons h1 h2 h3 => .cons h1 (h2.fixed hfx) (h3.fixed hfx)
end
end
end Go.A
namespace Go.Proofs.YtaonfjelncbhjaaGreatDoor
open Go Go.ChangeShapes Go.WideShapes Go.ChangeAt Go.RowKit Go.A Go.Lib Go.Shelf
theorem u8_roles {σ : ASt} {W : World} (h3 : VarReads Tryz.prog W "unicode/utf8.first" firstData) (h4 : VarReads Tryz.prog W "unicode/utf8.acceptRanges" acceptData) :
  (σ 1 = some (.fix (firstTab.map (AV.int .u8))) → RoleOk σ W 1 (.fix (firstTab.map (AV.int .u8)))) ∧ (σ 2 = some (.fix (accTab.map (AV.int .u8))) → RoleOk σ W 2 (.fix (accTab.map (AV.int .u8)))) := by
 have hT := utf8Tabs_of_reads (ρ := Tryz.lays260_ren) Tryz.lays260 u8_extra h3 h4
 obtain ⟨hT1, hT2⟩ := hT
 have hT1 : ∀ c, c < 256 → W.cell? ⟨1, c, none⟩ = some (.int .u8 (firstT c)) := hT1
 have hT2 : ∀ i, i < 16 → W.cell? ⟨2, 2 * i, none⟩ = some (.int .u8 (accLo i)) ∧ W.cell? ⟨2, 2 * i + 1, none⟩ = some (.int .u8 (accHi i)) := hT2
 constructor
 ·intro hs
  obtain ⟨cs, T, fr, hh, hsz⟩ := var_size h3 (g := 1) (by kernel_rfl) u8_extra.y3 (Tryz.lays260.t119)
  refine fix_ok hs hh (hsz.trans (by kernel_rfl)) fun j z hj => ?_
  have hl := (List.getElem?_eq_some_iff.1 hj).1
  simp only [firstTab, List.length_map, List.length_range] at hl
  simp only [firstTab, List.getElem?_map, List.getElem?_range hl, Option.map_some, Option.some.injEq] at hj
  subst hj
  exact hT1 j hl
 ·intro hs
  obtain ⟨cs, T, fr, hh, hsz⟩ := var_size h4 (g := 2) (by kernel_rfl) u8_extra.y4 (Tryz.lays260.t139)
  refine fix_ok hs hh (hsz.trans (by kernel_rfl)) fun j z hj => ?_
  have hl := (List.getElem?_eq_some_iff.1 hj).1
  have key : ∀ j, j < 32 → accTab[j]? = some (if j % 2 = 0 then (accLo (j / 2) : Int) else accHi (j / 2)) := by decide
  have hl : j < 32 := hl
  rw [key j hl] at hj
  injection hj with hj
  subst hj
  obtain ⟨g1, g2⟩ := hT2 (j / 2) (by omega)
  split
  ·rw [show 2 * (j / 2) = j by omega] at g1; exact g1
  ·rw [show 2 * (j / 2) + 1 = j by omega] at g2; exact g2
theorem pow_role {σ : ASt} {W : World} (hfx : ∀ b r, σ b = some r → ∃ l, r = .fix l) (h3 : VarReads Tryz.prog W "internal/strconv.uint64pow10" (Lib.tabData .u64 Lib.pow10Tab)) :
  RoleOk σ W 3 (.fix (Lib.pow10Tab.map (AV.int .u64))) := by
 obtain ⟨g', t', cs, fuel, p, hg', ht', hvar, hd⟩ := h3
 obtain rfl := Option.some.inj ((show Tryz.prog.globalNamed "internal/strconv.uint64pow10" = some 3 by kernel_rfl).symm.trans hg')
 obtain rfl := Option.some.inj ((show (Tryz.prog.globals[3]?).map (·.type) = some 151 by kernel_rfl).symm.trans ht')
 have hcs := cells_of_tab (n := 20) (e := 95) (k := .u64) (by kernel_rfl) (by kernel_rfl) (by kernel_rfl) (by kernel_rfl) hd
 unfold World.var? at hvar
 rw [show Tryz.prog.globalNamed "internal/strconv.uint64pow10" = some 3 by kernel_rfl, Option.bind_some] at hvar
 split at hvar
 ·rename_i cs' T fr hheap
  injection hvar with hvar
  have hlt : 3 < W.heap.size := (Array.getElem?_eq_some_iff.1 hheap).1
  have he : cs' = (Lib.pow10Tab.map fun z => Value.int .u64 z).toArray := by rw [hvar]; exact Array.ext' (by simpa using hcs)
  refine ⟨At.mk' (ints_reps _) (fun j _ => still_fix hfx hlt) (fun j v hj => ?_), cs', T, fr, hheap, by rw [he]; simp⟩
  simp only [World.cell?, hheap, Nat.zero_add, he]
  simpa using hj
 ·cases hvar
end Go.Proofs.YtaonfjelncbhjaaGreatDoor
namespace Go.Proofs.YtaonfjelncbhjaaGreatDoor
open Go Go.ChangeShapes Go.WideShapes Go.ChangeAt Go.RowKit Go.A Go.Lib Go.Shelf
def vPs : List (Nat × List AV) := [(1, firstTab.map (AV.int .u8)), (2, accTab.map (AV.int .u8)), (3, Lib.pow10Tab.map (AV.int .u64))]
def vSt : ASt := stOf vPs
end Go.Proofs.YtaonfjelncbhjaaGreatDoor
namespace Go
variable {H : Type} {enc : TypeId × Value → H}
theorem A.returnsInHanded_and_shaped {a : Assume} {C : Checked} {os : Os} {f : FuncId} {fn : Func} {s : ChangeSpec} {conds : List PathCond} {apart fresh handsOn again : Bool} {X : World → Array Value → Prop}
  (hX : ∀ (w w' : World) (args : Array Value), w.heap = w'.heap → X w args → X w' args)
  (own : ownKnob C.prog.godebug = none) (started : os.Started) (noInit : C.prog.inits.idxOf? f = none) (hfn : C.prog.funcs[f]? = some fn)
  (witness : ∃ (w : World) (tape : Tape) (i : Input), w.os = os ∧ (w.forCall tape i).Shaped C.prog ∧ i.vars = [] ∧ Input.okWide C.prog (w.forCall tape i) .any w.heap.size f i ∧
   ((s.pre enc C.prog fn conds apart (w.forCall tape i).memory i.args ∧ X (w.forCall tape i).memory i.args) ∧ sizedMet enc C.prog fn (OpenSpec.ofChange s) apart (w.forCall tape i).memory i.args) ∧ a.holds C.prog (lone (Frame.enter C.prog f i.args .normal) [] (w.forCall tape i)))
  (contract : ∀ (W : World) (base : Nat) (args : Array Value) (ds gs : List (DataW H)) (before : List MemPlace),
   (∀ (j : Nat) t v, fn.params[j]? = some t → args[j]? = some v → Value.okWide C.prog W .any base t v) →
   DataW.Whole enc C.prog fn.params.toList s.vars apart W args.toList ds gs before →
   W.ShapedOpen C.prog → X W args →
   Calls C.prog f args W fun e W' => ∃ v, e = .returned v ∧ s.post enc C.prog fn apart fresh handsOn again W args v W') :
  ReturnsInHanded a C os f .any (fun w args => (s.pre enc C.prog fn conds apart w args ∧ X w args) ∧ sizedMet enc C.prog fn (OpenSpec.ofChange s) apart w args) (s.post enc C.prog fn apart fresh handsOn again) := by
 refine returnsInHanded_of_calls own started noInit witness ?_
 intro w tape i _ hsh _ hok hpre hholds
 obtain ⟨_, _, _, fn', hfn', _, _, _, _, hval⟩ := hok
 have e : fn' = fn := Option.some.inj (hfn'.symm.trans hfn)
 subst e
 obtain ⟨⟨⟨ds, gs, before, hw, hc⟩, hx⟩, hz⟩ := hpre
 have hw' := DataW.Whole.of_heap (w' := w.forCall tape i) (by rfl) hw
 refine (contract (w.forCall tape i) w.heap.size i.args ds gs before hval hw' hsh (hX _ _ _ (by rfl) hx)).mono fun e W' ⟨v, he, hp⟩ => ?_
 subst he
 exact ChangeSpec.post_blind hp
end Go
namespace Go.Proofs.YtaonfjelncbhjaaGreatDoor
open Go Go.ChangeShapes Go.WideShapes Go.ChangeAt Go.RowKit Go.A Go.Lib Go.Shelf
def wSt (m : Int) : ASt := fun b => if b = 4 then some (.fix ([m].map (AV.int .i64))) else vSt b
theorem wSt_fix {m : Int} {b : Nat} {r : Role} (h : wSt m b = some r) : ∃ l, r = .fix l := by
 unfold wSt at h
 split at h
 ·injection h with h; exact ⟨_, h.symm⟩
 ·exact stOf_fix h
end Go.Proofs.YtaonfjelncbhjaaGreatDoor
namespace Go.Proofs.YtaonfjelncbhjaaGreatDoor
open Go Go.ChangeShapes Go.WideShapes Go.ChangeAt Go.RowKit Go.A Go.Lib Go.Shelf
theorem strs_trod {H : Type} {enc : TypeId × Value → H} {P : Program} {w : World} {base : Nat} {spare : Nat → Bool} {held : Bool} {fuel : Nat} {t e : TypeId} {cs : List Value} {l : List (List UInt8)} {m : List MemPlace}
  (ht : P.underlying t = some (.slice e)) (he : P.underlying e = some .string) (hc : P.cellsOf e = 1) (hl : 0 < l.length)
  (hd : DataW.trod enc P w base spare held fuel t cs = some (.slice (l.map fun s => .lit (.string s)) [], m)) :
  ∃ R o cap, cs = [.slice (some ⟨R, o, none⟩) l.length cap] ∧ l.length ≤ cap ∧ ∀ j s, l[j]? = some s → w.cell? ⟨R, o + j, none⟩ = some (.string ⟨⟨s⟩⟩) := by
 rcases DataW.trod_slice ht hd with ⟨_, hx⟩ | ⟨a, len, cap, el, rs, k, rfl, hcs, hx, _, hlc, _, hel, helem, hsp, _⟩
 ·cases hx
 have e0 := congrArg Prod.fst hx
 simp only [DataW.slice.injEq] at e0
 obtain ⟨eE, eR⟩ := e0
 have hlen : len = l.length := by
  have := congrArg List.length eE
  simp at this
  omega
 have hcell : ∀ i z, l[i]? = some z → w.cell? (a.add i) = some (.string ⟨⟨z⟩⟩) := by
  intro i z hiz
  have hi : i < l.length := (List.getElem?_eq_some_iff.1 hiz).1
  have h1 := helem i (by omega)
  rw [hc] at h1
  obtain ⟨b, hb⟩ : ∃ b, el[i]? = some b := ⟨el[i]'(by omega), List.getElem?_eq_getElem (by omega)⟩
  rw [hb] at h1
  obtain ⟨ce, hce, hte⟩ := Option.bind_eq_some_iff.1 h1
  obtain ⟨z', hz, hbz, _⟩ := DataW.trod_string he hte
  have hb1 : b.1 = .lit (.string z) := by
   have := congrArg (·[i]?) eE
   simp only [List.getElem?_map, hiz, hb, Option.map_some, Option.some.injEq] at this
   exact this.symm
  rw [hbz] at hb1
  simp only [DataW.lit.injEq, Lit.string.injEq] at hb1
  obtain ⟨_, _, hcc⟩ := World.cells?_some hce
  have := hcc 0 (by omega)
  rw [hz] at this
  simp only [Nat.mul_one] at this
  have e1 : (a.add i).add 0 = a.add i := by simp [Addr.add]
  rw [e1] at this
  rw [this, ← hb1]
  rfl
 obtain ⟨z0, hz0⟩ : ∃ z, l[0]? = some z := ⟨l[0], List.getElem?_eq_getElem hl⟩
 obtain ⟨R, o, sR⟩ := a
 obtain rfl : sR = none := by
  have h00 := hcell 0 z0 hz0
  have : (Addr.add ⟨R, o, sR⟩ 0) = ⟨R, o, sR⟩ := by simp [Addr.add]
  rw [this] at h00
  exact Go.Proofs.cell_spot h00
 exact ⟨R, o, cap, by rw [hcs, hlen], by omega, fun j s hj => by have := hcell j s hj; rwa [Addr.add_lit] at this⟩
theorem block_lt {w : World} {R o : Nat} {s : Option Nat} {v : Value} (h : w.cell? ⟨R, o, none⟩ = some v) : R < w.heap.size := by
 refine Nat.lt_of_not_le fun hge => ?_
 simp [World.cell?, Array.getElem?_eq_none hge] at h
theorem strs_row {σ : ASt} {w : World} {b : Nat} (hst : ∀ o, Still σ w b o) : ∀ (zs : List (List UInt8)) (o : Nat), (∀ j z, zs[j]? = some z → w.cell? ⟨b, o + j, none⟩ = some (.string ⟨⟨z⟩⟩)) → Row σ w b o 1 (zs.map AV.str)
 | [], o, _ => .nil _ _ _
 | z :: zs, o, h => .cons rfl (.cons (hst o) (h 0 z rfl) (.str z) (.nil _ _)) (strs_row hst zs (o + 1) fun j z' hj => by
   have := h (j + 1) z' (by simpa using hj)
   rwa [show o + (j + 1) = o + 1 + j by omega] at this)
theorem strss_row {σ : ASt} {w : World} {b : Nat} (hst : ∀ o, Still σ w b o) : ∀ (zs : List (List (List UInt8))) (o : Nat),
  (∀ j z, zs[j]? = some z → ∃ v, w.cell? ⟨b, o + j, none⟩ = some v ∧ Rep σ w (.sl .shr (z.map AV.str)) v) → Row σ w b o 1 (zs.map fun l => AV.sl .shr (l.map AV.str))
 | [], o, _ => .nil _ _ _
 | z :: zs, o, h => by
   obtain ⟨v, hv, hr⟩ := h 0 z rfl
   exact .cons rfl (.cons (hst o) hv hr (.nil _ _)) (strss_row hst zs (o + 1) fun j z' hj => by
    have := h (j + 1) z' (by simpa using hj)
    rwa [show o + (j + 1) = o + 1 + j by omega] at this)
theorem levels_role {σ : ASt} {W : World} (hfx : ∀ b r, σ b = some r → ∃ l, r = .fix l) (h : VarReads Tryz.prog W "tabular/parse.levels" (.slice (levelsL.map fun l => .slice (l.map fun s => .lit (.string s)) []) [])) :
  RoleOk σ W 0 (.fix [lvAV]) := by
 obtain ⟨g', t', cs, fuel, p, hg, hty, hvar, hd⟩ := h
 obtain rfl := Option.some.inj ((show Tryz.prog.globalNamed "tabular/parse.levels" = some 0 by kernel_rfl).symm.trans hg)
 obtain rfl := Option.some.inj ((show (Tryz.prog.globals[0]?).map (·.type) = some 66 by kernel_rfl).symm.trans hty)
 have ht : Tryz.prog.underlying 66 = some (.slice 69) := by kernel_rfl
 have ht2 : Tryz.prog.underlying 69 = some (.slice 9) := by kernel_rfl
 have he : Tryz.prog.underlying 9 = some .string := by kernel_rfl
 have hc : Tryz.prog.cellsOf 69 = 1 := by kernel_rfl
 have hc2 : Tryz.prog.cellsOf 9 = 1 := by kernel_rfl
 have hpos : ∀ (j : Nat) (z : List (List UInt8)), levelsL[j]? = some z → 0 < z.length := by
  intro j z hj
  match j, hj with
  | 0, hj | 1, hj | 2, hj | 3, hj | 4, hj => injection hj with hj; subst hj; decide
 rcases DataW.trod_slice ht hd with ⟨_, hx⟩ | ⟨a, len, cap, el, rs, k, rfl, hcs, hx, _, hlc, _, hel, helem, hsp, _⟩
 ·cases hx
 have e0 := congrArg Prod.fst hx
 simp only [DataW.slice.injEq] at e0
 obtain ⟨eE, eR⟩ := e0
 have hlen : len = levelsL.length := by
  have := congrArg List.length eE
  simp at this
  omega
 have hcell : ∀ i z, levelsL[i]? = some z → ∃ v, W.cell? (a.add i) = some v ∧ Rep σ W (.sl .shr (z.map AV.str)) v := by
  intro i z hiz
  have hi : i < levelsL.length := (List.getElem?_eq_some_iff.1 hiz).1
  have h1 := helem i (by omega)
  rw [hc] at h1
  obtain ⟨b, hb⟩ : ∃ b, el[i]? = some b := ⟨el[i]'(by omega), List.getElem?_eq_getElem (by omega)⟩
  rw [hb] at h1
  obtain ⟨ce, hce, hte⟩ := Option.bind_eq_some_iff.1 h1
  have hb1 : b.1 = .slice (z.map fun s => .lit (.string s)) [] := by
   have := congrArg (·[i]?) eE
   simp only [List.getElem?_map, hiz, hb, Option.map_some, Option.some.injEq] at this
   exact this.symm
  obtain ⟨b1, b2⟩ := b
  dsimp only at hb1
  subst hb1
  obtain ⟨R, o, cap', rfl, hle, hcells⟩ := strs_trod ht2 he hc2 (hpos i z hiz) hte
  obtain ⟨_, _, hcc⟩ := World.cells?_some hce
  have := hcc 0 (by omega)
  simp only [Nat.mul_one] at this
  have e1 : (a.add i).add 0 = a.add i := by simp [Addr.add]
  rw [e1] at this
  obtain ⟨z0, hz0⟩ : ∃ z0, z[0]? = some z0 := ⟨z[0]'(hpos i z hiz), List.getElem?_eq_getElem (hpos i z hiz)⟩
  have hR := block_lt (s := none) (hcells 0 z0 hz0)
  exact ⟨_, this, .sl (sz := 1) (strs_row (fun o => still_fix hfx hR) z o hcells) (by simp) hle trivial hR⟩
 obtain ⟨R, o, sR⟩ := a
 obtain ⟨v0, h00, _⟩ := hcell 0 [[61], [60, 62], [60], [60, 61], [62], [62, 61]] rfl
 obtain rfl : sR = none := by
  have : (Addr.add ⟨R, o, sR⟩ 0) = ⟨R, o, sR⟩ := by simp [Addr.add]
  rw [this] at h00
  exact Go.Proofs.cell_spot h00
 have hR : R < W.heap.size := by
  have : (Addr.add ⟨R, o, none⟩ 0) = ⟨R, o, none⟩ := by simp [Addr.add]
  rw [this] at h00
  exact block_lt (s := none) h00
 have hrow := strss_row (fun o => still_fix hfx hR) levelsL o fun j z hj => by
  obtain ⟨v, hv, hr⟩ := hcell j z hj
  rw [Addr.add_lit] at hv
  exact ⟨v, hv, hr⟩
 unfold World.var? at hvar
 rw [hg, Option.bind_some] at hvar
 split at hvar
 ·rename_i cs' T fr hheap
  injection hvar with hvar
  subst hvar
  have hcs2 : cs' = #[.slice (some ⟨R, o, none⟩) levelsL.length cap] := by
   rw [← hlen]
   exact Array.ext' (by simpa using hcs)
  subst hcs2
  have hlt : 0 < W.heap.size := (Array.getElem?_eq_some_iff.1 hheap).1
  have hce : W.cell? ⟨0, 0, none⟩ = some (.slice (some ⟨R, o, none⟩) levelsL.length cap) := by simp [World.cell?, hheap]
  have hrep : Rep σ W lvAV (.slice (some ⟨R, o, none⟩) levelsL.length cap) := .sl (sz := 1) hrow (by simp) (by omega) trivial hR
  exact ⟨.cons (still_fix hfx hlt) hce hrep (.nil _ _), _, T, fr, hheap, rfl⟩
 ·cases hvar
def laidX : List (String × DataW Unit) := [("math/bits.deBruijn32tab", Rows.laid_math_bits_deBruijn32tab), ("math/bits.deBruijn64tab", Rows.laid_math_bits_deBruijn64tab), ("internal/strconv.uint64pow10", Rows.laid_internal_strconv_uint64pow10), ("unicode/utf8.acceptRanges", Rows.laid_unicode_utf8_acceptRanges), ("tabular/parse.levels", Rows.laid_tabular_parse_levels), ("unicode/utf8.first", Rows.laid_unicode_utf8_first)]
def xSt (m : Int) : ASt := fun b => if b = 0 then some (.fix [lvAV]) else wSt m b
theorem xSt_u8 (m : Int) : U8 (xSt m) := ⟨by simp [xSt, wSt, vSt, vPs, stOf], by simp [xSt, wSt, vSt, vPs, stOf]⟩
theorem xSt_tab (m : Int) : Tab (xSt m) := by simp [Tab, xSt, wSt, vSt, vPs, stOf]
theorem xSt_max (m : Int) : MaxL (xSt m) := ⟨m, by simp [xSt, wSt]⟩
theorem xSt_lv (m : Int) : LV (xSt m) := by simp [LV, xSt]
theorem xSt_fix {m : Int} {b : Nat} {r : Role} (h : xSt m b = some r) : ∃ l, r = .fix l := by
 unfold xSt at h
 split at h
 ·injection h with h; exact ⟨_, h.symm⟩
 ·exact wSt_fix h
theorem x_sim {W : World} (hsh : W.ShapedOpen Tryz.prog) (h : laidMetH Tryz.prog laidX W) : ∃ m, Sim (xSt m) W := by
 rw [MakeChecks.laidMetH_plain _ _ _ (by kernel_rfl)] at h
 have hp : VarReads Tryz.prog W "internal/strconv.uint64pow10" (Lib.tabData .u64 Lib.pow10Tab) := Lib.laidMet.reads h (.tail _ (.tail _ (.head _)))
 have h4 : VarReads Tryz.prog W "unicode/utf8.acceptRanges" acceptData := acc_eq ▸ Lib.laidMet.reads h (.tail _ (.tail _ (.tail _ (.head _))))
 have h5 : VarReads Tryz.prog W "tabular/parse.levels" (.slice (levelsL.map fun l => .slice (l.map fun s => .lit (.string s)) []) []) := Lib.laidMet.reads h (.tail _ (.tail _ (.tail _ (.tail _ (.head _)))))
 have h3 : VarReads Tryz.prog W "unicode/utf8.first" firstData := first_eq ▸ Lib.laidMet.reads h (.tail _ (.tail _ (.tail _ (.tail _ (.tail _ (.head _))))))
 obtain ⟨m, hm⟩ := Tryz.laysM155.s1_3 W hsh
 have hm : W.cell? ⟨4, 0, none⟩ = some (.int .i64 m) := hm
 obtain ⟨cs, hh, hsz, _⟩ := hsh.1 4 #[.int .i64 0] 3 (of_decide_eq_true (by kernel_rfl)) (by kernel_rfl)
 obtain ⟨r1, r2⟩ := u8_roles (σ := xSt m) h3 h4
 refine ⟨m, fun b r hb => ?_⟩
 have hb0 := hb
 unfold xSt at hb
 split at hb
 ·rename_i hbb
  subst hbb
  injection hb with hb
  subst hb
  exact levels_role (fun _ _ => xSt_fix) h5
 unfold wSt at hb
 split at hb
 ·rename_i hbb
  subst hbb
  injection hb with hb
  subst hb
  have hlt : 4 < W.heap.size := (Array.getElem?_eq_some_iff.1 hh).1
  refine ⟨At.mk' (ints_reps _) (fun j _ => ⟨hlt, .inr (.inl ⟨_, hb0⟩)⟩) (fun j v hj => ?_), cs, _, _, hh, hsz⟩
  match j, hj with
  | 0, hj => injection hj with hj; subst hj; exact hm
 ·obtain ⟨l, hl, rfl⟩ := stOf_mem hb
  simp only [vPs, List.mem_cons, List.not_mem_nil, or_false, Prod.mk.injEq] at hl
  rcases hl with ⟨rfl, rfl⟩ | ⟨rfl, rfl⟩ | ⟨rfl, rfl⟩
  ·exact r1 (xSt_u8 m).1
  ·exact r2 (xSt_u8 m).2
  ·exact pow_role (fun _ _ => xSt_fix) hp
theorem calls_x {m : Int} {f : FuncId} {args : List AV} {vs : List Value} {w : World} (h : ACalls Tryz.prog f args (xSt m) fun r σ' => r = .bool true ∧ σ' = xSt m) (hs : Sim (xSt m) w) (hr : Reps (xSt m) w args vs) :
  Calls Tryz.prog f ⟨vs⟩ w fun e w' => e = .returned (.bool true) ∧ Ext w w' :=
 (h w vs hs hr).mono fun e w' ⟨u, r, σ', he, ⟨hrt, hst⟩, hle, _, hrep⟩ => by
  subst hrt hst
  cases hrep
  refine ⟨he, Ext.of_below ⟨hle.os, hle.tape, hle.output, hle.size, fun k hk => ?_⟩⟩
  cases hn : xSt m k with
  | none => exact (hle.keep k hk hn).2
  | some r =>
    obtain ⟨l, rfl⟩ := xSt_fix hn
    exact (hle.fix k _ hk hn).2
end Go.Proofs.YtaonfjelncbhjaaGreatDoor
namespace Go.Proofs.YtaonfjelncbhjaaGreatDoor
open Go Go.ChangeShapes Go.WideShapes Go.ChangeAt Go.RowKit Go.A
def refTy : Ty := .pair (.int .i64) (.pair (.int .i64) (.pair .bool (.pair .bool .unit)))
def partTy : Ty := .pair (.int .i64) (.pair (.int .i64) (.pair .str (.pair refTy (.pair refTy .unit))))
theorem parts_of : ∀ xs : List (List AV), (∀ x ∈ xs, partTy.ok x) → ∃ L : List Pt, xs.map partTy.mk = L.map Pt.av
 | [], _ => ⟨[], rfl⟩
 | x :: xs, h => by
   obtain ⟨L, hL⟩ := parts_of xs fun y hy => h y (List.mem_cons_of_mem _ hy)
   obtain ⟨_, _, rfl, ⟨o, rfl, _⟩, _, _, rfl, ⟨n, rfl, _⟩, _, _, rfl, ⟨s, rfl, _⟩, _, _, rfl, ⟨_, _, rfl, ⟨r1, rfl, _⟩, _, _, rfl, ⟨c1, rfl, _⟩, _, _, rfl, ⟨p1, rfl⟩, _, _, rfl, ⟨q1, rfl⟩, rfl⟩, _, _, rfl, ⟨_, _, rfl, ⟨r2, rfl, _⟩, _, _, rfl, ⟨c2, rfl, _⟩, _, _, rfl, ⟨p2, rfl⟩, _, _, rfl, ⟨q2, rfl⟩, rfl⟩, rfl⟩ := h x List.mem_cons_self
   exact ⟨⟨o, n, s, ⟨r1, c1, p1, q1⟩, ⟨r2, c2, p2, q2⟩⟩ :: L, by rw [List.map_cons, hL]; rfl⟩
end Go.Proofs.YtaonfjelncbhjaaGreatDoor
