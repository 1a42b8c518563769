/- Formulas' trees: as plain data, as abstract values; what they are printed as. -/
import Derived.Test.YtkfcfpnkgljdmaaDoorHb
import Derived.Test.YtkfcfpnkgljdmaaDoorWc
import Derived.Test.YtkfcfpnkgljdmaaDoorZa
namespace Go.A
set_option linter.unusedSimpArgs false
set_option linter.unusedVariables false

/-- A formula's tree. -/
inductive Nd where
  | mk (op n : Int) (s : List UInt8) (a b : Ref) (kids : List Nd)
instance : Inhabited Nd := ⟨.mk 0 0 [] .zero .zero []⟩
def Nd.op : Nd → Int | .mk op _ _ _ _ _ => op
def Nd.kids : Nd → List Nd | .mk _ _ _ _ _ k => k
mutual
def Nd.av : Nd → AV
  | .mk op n s a b kids => .agg [.int .i64 op, .int .i64 n, .str s, .int .i64 a.row, .int .i64 a.col, .bool a.absRow, .bool a.absCol, .int .i64 b.row, .int .i64 b.col, .bool b.absRow, .bool b.absCol, .sl .shr (Nd.avs kids)]
def Nd.avs : List Nd → List AV
  | [] => []
  | x :: xs => x.av :: Nd.avs xs
end
theorem Nd.avs_map : ∀ l : List Nd, Nd.avs l = l.map Nd.av
  | [] => rfl
  | x :: xs => by rw [Nd.avs, Nd.avs_map xs]; rfl
theorem Nd.av_eq (op n : Int) (s : List UInt8) (a b : Ref) (kids : List Nd) : (Nd.mk op n s a b kids).av = .agg [.int .i64 op, .int .i64 n, .str s, .int .i64 a.row, .int .i64 a.col, .bool a.absRow, .bool a.absCol, .int .i64 b.row, .int .i64 b.col, .bool b.absRow, .bool b.absCol, .sl .shr (kids.map Nd.av)] := by
  rw [Nd.av, Nd.avs_map]
/-- A node's cells. -/
def Nd.cs (op n : Int) (s : List UInt8) (a b : Ref) (L : List AV) : List AV := [.int .i64 op, .int .i64 n, .str s, .int .i64 a.row, .int .i64 a.col, .bool a.absRow, .bool a.absCol, .int .i64 b.row, .int .i64 b.col, .bool b.absRow, .bool b.absCol, .sl .shr L]
theorem Nd.av_cs (op n : Int) (s : List UInt8) (a b : Ref) (kids : List Nd) : (Nd.mk op n s a b kids).av = .agg (Nd.cs op n s a b (kids.map Nd.av)) := Nd.av_eq ..
section
variable {op n : Int} {s : List UInt8} {a b : Ref} {L : List AV}
@[go_sem] theorem cs_0 : (Nd.cs op n s a b L)[0]? = some (.int .i64 op) := id rfl
@[go_sem] theorem cs_1 : (Nd.cs op n s a b L)[1]? = some (.int .i64 n) := id rfl
@[go_sem] theorem cs_2 : (Nd.cs op n s a b L)[2]? = some (.str s) := id rfl
@[go_sem] theorem cs_11 : (Nd.cs op n s a b L)[11]? = some (.sl .shr L) := id rfl
@[go_sem] theorem cs_len : (Nd.cs op n s a b L).length = 12 := id rfl
@[go_sem] theorem cs_all : fieldVal 0 (some 12) (Nd.cs op n s a b L) = some (.agg (Nd.cs op n s a b L)) := id rfl
@[go_sem] theorem cs_a : fieldVal 3 (some 4) (Nd.cs op n s a b L) = some (refAV a) := id rfl
@[go_sem] theorem cs_b : fieldVal 7 (some 4) (Nd.cs op n s a b L) = some (refAV b) := id rfl
@[go_sem] theorem cs_leaves : leaves (Nd.cs op n s a b L) = true := id rfl
@[go_sem] theorem cs_d0 : (Nd.cs op n s a b L).drop 0 = Nd.cs op n s a b L := id rfl
@[go_sem] theorem cs_deep : Go.A.deeps (Nd.cs op n s a b L) = Nd.cs op n s a b (Go.A.deeps L) := id rfl
@[go_sem] theorem cs_take : (Nd.cs op n s a b L).take 12 = Nd.cs op n s a b L := id rfl
@[go_sem] theorem cs_ta : ((Nd.cs op n s a b L).drop 3).take 4 = [.int .i64 a.row, .int .i64 a.col, .bool a.absRow, .bool a.absCol] := id rfl
@[go_sem] theorem cs_tb : ((Nd.cs op n s a b L).drop 7).take 4 = [.int .i64 b.row, .int .i64 b.col, .bool b.absRow, .bool b.absCol] := id rfl
@[go_sem] theorem cs_drop : (Nd.cs op n s a b L).drop 12 = [] := id rfl
end
@[go_sem] theorem refAV_any (r : Ref) : (refAV r).isAny = false := id rfl
@[go_sem] theorem refAV_cells (r : Ref) : (refAV r).cells = [.int .i64 r.row, .int .i64 r.col, .bool r.absRow, .bool r.absCol] := id rfl
theorem Nd.av_any (n : Nd) : n.av.isAny = false := by cases n; rfl
theorem Nd.av_len (n : Nd) : n.av.cells.length = 12 := by cases n; rfl
theorem Nd.av_leaves (n : Nd) : leaves n.av.cells = true := by cases n; rfl
theorem Nd.well (l : List Nd) : wellSz 12 (l.map Nd.av) = true := wellSz_map (fun x => ⟨x.av_any, x.av_len⟩) l
theorem Nd.leafs (l : List Nd) : leaves ((l.map Nd.av).flatMap AV.cells) = true := leaves_map (fun x => x.av_leaves) l
theorem Nd.get {l : List Nd} {i : Nat} {x : Nd} (h : l[i]? = some x) : (l.map Nd.av)[i]? = some x.av := by rw [List.getElem?_map, h]; rfl
mutual
theorem Nd.deep : ∀ n : Nd, Go.A.deep n.av = n.av
  | .mk op n s a b kids => by
    rw [Nd.av, Go.A.deep]
    simp only [Go.A.deeps, Go.A.deep, Nd.deeps kids]
theorem Nd.deeps : ∀ l : List Nd, Go.A.deeps (Nd.avs l) = Nd.avs l
  | [] => rfl
  | x :: xs => by rw [Nd.avs, Go.A.deeps, Nd.deep x, Nd.deeps xs]
end
mutual
def Nd.size : Nd → Nat
  | .mk _ _ _ _ _ kids => 1 + Nd.sizes kids
def Nd.sizes : List Nd → Nat
  | [] => 0
  | x :: xs => x.size + Nd.sizes xs
end
theorem Nd.size_kid : ∀ {l : List Nd} {x : Nd}, x ∈ l → x.size ≤ Nd.sizes l
  | [], _, h => by cases h
  | y :: l, x, h => by
    rw [Nd.sizes]
    rcases List.mem_cons.1 h with rfl | h
    · omega
    · have := Nd.size_kid h; omega
theorem Nd.size_pos (n : Nd) : 0 < n.size := by cases n; rw [Nd.size]; omega
mutual
def Nd.depth : Nd → Nat
  | .mk _ _ _ _ _ kids => Nd.depths kids + 1
def Nd.depths : List Nd → Nat
  | [] => 0
  | x :: xs => max x.depth (Nd.depths xs)
end
theorem Nd.depth_le_size : ∀ n : Nd, n.depth ≤ n.size := by
  intro n
  induction h : n.size using Nat.strongRecOn generalizing n with
  | _ k ih =>
    obtain ⟨op, m, s, a, b, kids⟩ := n
    subst h
    rw [Nd.size] at ih ⊢
    rw [Nd.depth]
    have key : ∀ l : List Nd, (∀ x ∈ l, x.depth ≤ x.size) → Nd.depths l ≤ Nd.sizes l := by
      intro l
      induction l with
      | nil => intro _; exact Nat.le_refl _
      | cons x l ihl =>
        intro hx
        rw [Nd.depths, Nd.sizes]
        have h1 := hx x (by simp)
        have h2 := ihl fun y hy => hx y (by simp [hy])
        omega
    have := key kids fun x hx => ih _ (by have := Nd.size_kid hx; omega) x rfl
    omega

/-- How closely a node binds. -/
def levelP (op : Int) : Int :=
  if op = 7 ∨ op = 8 then 6 else if op = 9 then 7 else if op < 10 ∨ 22 ≤ op then 8
  else if op ≤ 11 then 3 else if op ≤ 13 then 4 else if op = 14 then 5 else if op = 15 then 2 else 1
/-- The signs that stand between two. -/
def signL : List (List UInt8) := [[43], [45], [42], [47], [94], [38], [61], [60, 62], [60], [60, 61], [62], [62, 61]]
def errL : List (List UInt8) := [[35, 68, 73, 86, 47, 48, 33], [35, 78, 85, 77, 33], [35, 86, 65, 76, 85, 69, 33], [35, 82, 69, 70, 33], [35, 78, 47, 65], [35, 78, 65, 77, 69, 63], [35, 67, 89, 67, 76, 69, 33]]
/-- An error's name. -/
def failT (op n : Int) : List UInt8 := if op ≠ 4 ∨ n.tdiv 10000 < 1 ∨ 7 < n.tdiv 10000 then [] else errL.getD (n.tdiv 10000 - 1).toNat []
def truthP (b : Bool) : List UInt8 := if b = true then [84, 82, 85, 69] else [70, 65, 76, 83, 69]
def quotT (s : List UInt8) : List UInt8 := 34 :: (s.flatMap fun c => if c = 34 then [34, 34] else [c]) ++ [34]
/-- A kid that must bind at least so closely. -/
def insT (least : Int) (op : Int) (t : List UInt8) : List UInt8 := if least ≤ levelP op then t else 40 :: t ++ [41]
def joinC : List (Int × List UInt8) → List UInt8
  | [] => []
  | p :: r => p.2 ++ r.flatMap fun q => 44 :: q.2
/-- What a node is printed as, of what its kids are. -/
def spellK (op n : Int) (s : List UInt8) (a b : Ref) (ks : List (Int × List UInt8)) : List UInt8 :=
  if op = 1 then textD n else if op = 2 then quotT s else if op = 3 then truthP (!decide (n = 0)) else if op = 4 then failT op n else if op = 5 then textP a else if op = 6 then textP a ++ [58] ++ textP b
  else if op = 7 ∨ op = 8 then (if op = 7 then 45 else 43) :: insT 6 (ks.getD 0 (0, [])).1 (ks.getD 0 (0, [])).2
  else if op = 9 then insT 7 (ks.getD 0 (0, [])).1 (ks.getD 0 (0, [])).2 ++ [37]
  else if op = 22 then s ++ 40 :: joinC ks ++ [41]
  else if op = 23 then []
  else insT (levelP op) (ks.getD 0 (0, [])).1 (ks.getD 0 (0, [])).2 ++ signL.getD (op - 10).toNat [] ++ insT (levelP op + 1) (ks.getD 1 (0, [])).1 (ks.getD 1 (0, [])).2
mutual
def Nd.spell : Nd → List UInt8
  | .mk op n s a b kids => spellK op n s a b (Nd.spells kids)
def Nd.spells : List Nd → List (Int × List UInt8)
  | [] => []
  | x :: xs => (x.op, x.spell) :: Nd.spells xs
end
theorem Nd.spells_map : ∀ l : List Nd, Nd.spells l = l.map fun x => (x.op, x.spell)
  | [] => rfl
  | x :: xs => by rw [Nd.spells, Nd.spells_map xs]; rfl
/-- A node as there may be one. -/
def nodeOk (op n : Int) (s : List UInt8) (a b : Ref) (k : Nat) : Prop :=
  (1 ≤ op ∧ op ≤ 23) ∧ (op = 1 → n.natAbs ≤ 999999999999999999) ∧ (op = 2 → s.length ≤ 100000) ∧ (op = 4 → 1 ≤ n.tdiv 10000 ∧ n.tdiv 10000 ≤ 7) ∧ (op = 22 → s ≠ []) ∧ (op = 5 ∨ op = 6 → a.good = true) ∧ (op = 6 → b.good = true) ∧ (op = 7 ∨ op = 8 ∨ op = 9 → 1 ≤ k) ∧ (10 ≤ op ∧ op ≤ 21 → 2 ≤ k) ∧ k ≤ 1000000
mutual
def Nd.ok : Nd → Prop
  | .mk op n s a b kids => nodeOk op n s a b kids.length ∧ Nd.oks kids
def Nd.oks : List Nd → Prop
  | [] => True
  | x :: xs => x.ok ∧ Nd.oks xs
end
theorem Nd.oks_mem : ∀ {l : List Nd}, Nd.oks l ↔ ∀ x ∈ l, x.ok
  | [] => by simp [Nd.oks]
  | y :: l => by rw [Nd.oks, Nd.oks_mem (l := l)]; simp
end Go.A
