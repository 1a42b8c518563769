/- Part 6 of what ShiftBack leans on: Za Zu Gp Wc Ea Zd CodeEq Eq CodeWb Wb Hc Hd Hf CodeZe Ze CodeZg Zg CodeZw. -/
import Derived.Lib.MapLaws
import Derived.Lib.RuneCount
import Derived.Lib.LaidU8
import Derived.Lib.ItoaNum
import Derived.Test.YtelbefdoehlmhaaGreatDoorProg
import Derived.KernelRfl
import Derived.Lib.Replace
import Derived.Lib.ItoaMem
import Derived.Lib.AppendIntMem
import Derived.BigCall
import Derived.BigGuard
import Derived.Test.YtelbefdoehlmhaaGreatDoorZShiftBacke
set_option linter.defProp false
set_option linter.unusedSimpArgs false
set_option linter.unusedVariables false
set_option maxRecDepth 100000
namespace Go.A
open Go.Proofs Go.Lib
def signsN (l : List UInt8) : Nat := runeCount ⟨⟨l⟩⟩
theorem signsN_le (l : List UInt8) : signsN l ≤ l.length := runeCount_le ⟨⟨l⟩⟩
def wordB (c : UInt8) : Bool := decide ((48 ≤ c.toNat ∧ c.toNat ≤ 57) ∨ (97 ≤ c.toNat ∧ c.toNat ≤ 122) ∨ (65 ≤ c.toNat ∧ c.toNat ≤ 90) ∨ c.toNat = 95 ∨ c.toNat = 36 ∨ c.toNat = 46)
def digB (c : UInt8) : Bool := decide (48 ≤ c.toNat ∧ c.toNat ≤ 57)
def nameB (s : List UInt8) : Bool := decide (s ≠ []) && s.all (fun c => wordB c && decide (c.toNat ≠ 36)) && !((s.head?.map fun c => digB c || decide (c.toNat = 46)).getD false)
def cutDot : List UInt8 → List UInt8 × Option (List UInt8)
 | [] => ([], none)
 | c :: r => if c.toNat = 46 then ([], some r) else (c :: (cutDot r).1, (cutDot r).2)
def numB (s : List UInt8) : Bool :=
 match cutDot s with
 | (w, none) => decide (w ≠ []) && w.all digB
 | (w, some p) => decide (w ≠ []) && decide (p ≠ []) && decide (p.length ≤ 4) && (w ++ p).all digB
def refB (s : List UInt8) : Bool := (parseP s).2
inductive Step where
 | bad (k : Nat)
 | blank
 | tok (kind : Int) (text : List UInt8) (n : Nat)
 deriving DecidableEq
def wordsS (r : List UInt8) : Step :=
 let n := runL wordB r
 let w := r.take n
 if numB w then .tok 1 w n else if refB w then .tok 4 (greatP w) n else if nameB w then .tok 3 (greatP w) n else .bad 0
def quotedF : Nat → List UInt8 → Nat → List UInt8 → Step
 | 0, _, _, _ => .bad 0
 | k + 1, r, p, acc =>
   if r = [] then .bad 0
   else if decodeL r = (65533, 1) then .bad (1 + p)
   else if (decodeL r).1 ≠ 34 then quotedF k (r.drop (decodeL r).2) (p + (decodeL r).2) (acc ++ encodeRune ((decodeL r).1 : Int))
   else if r[1]? = some 34 then quotedF k (r.drop 2) (p + 2) (acc ++ [34])
   else .tok 2 acc (p + 2)
def errTexts : List (List UInt8) := [[35, 68, 73, 86, 47, 48, 33], [35, 78, 85, 77, 33], [35, 86, 65, 76, 85, 69, 33], [35, 82, 69, 70, 33], [35, 78, 47, 65], [35, 78, 65, 77, 69, 63], [35, 67, 89, 67, 76, 69, 33]]
def failS (r : List UInt8) : List (List UInt8) → Step
 | [] => .bad 0
 | e :: es => if e.length ≤ r.length ∧ greatP (r.take e.length) = e then .tok 5 e e.length else failS r es
def alikeP (c : Int) : List UInt8 :=
 if c = 8804 then [60, 61] else if c = 8805 then [62, 61] else if c = 8800 then [60, 62] else if c = 215 then [42] else if c = 247 then [47] else if c = 8722 then [45] else []
def twos : List (List UInt8) := [[60, 61], [62, 61], [60, 62]]
def twoS (r : List UInt8) : List (List UInt8) → Option (List UInt8)
 | [] => none
 | e :: es => if e.isPrefixOf r then some e else twoS r es
def opChars : List UInt8 := [43, 45, 42, 47, 94, 38, 61, 60, 62, 37, 40, 41, 58, 44]
def opS (c : Int) (n : Nat) (r : List UInt8) : Step :=
 if alikeP c ≠ [] then .tok 6 (alikeP c) n
 else match twoS r twos with
  | some e => .tok 6 e 2
  | none => if (r.headD 0) ∈ opChars then .tok 6 (r.take 1) 1 else .bad 0
def stepP (r : List UInt8) : Step :=
 let c := (decodeL r).1
 if decodeL r = (65533, 1) then .bad 0
 else if c = 32 ∨ c = 9 ∨ c = 10 then .blank
 else if c < 128 ∧ wordB (UInt8.ofNat c) = true then wordsS r
 else if c = 34 then quotedF (r.length) (r.drop 1) 0 []
 else if c = 35 then failS r errTexts
 else opS c (decodeL r).2 r
structure Tok where
 kind : Int
 text : List UInt8
 at' : Nat
 col : Nat
 deriving DecidableEq
def lexF : Nat → List UInt8 → Nat → Nat → List Tok → List Tok × Nat × Int
 | 0, _, a, _, acc => ([], a, 10)
 | k + 1, r, a, c, acc =>
   if r = [] then (acc ++ [⟨0, [], a, c⟩], 0, 0)
   else match stepP r with
    | .bad j => ([], a + j, 10)
    | .blank => lexF k (r.drop 1) (a + 1) (c + 1) acc
    | .tok kind t n => lexF k (r.drop n) (a + n) (c + signsN (r.take n)) (acc ++ [⟨kind, t, a, c⟩])
def lexP (s : List UInt8) : List Tok × Nat × Int := if 2000 < s.length then ([], 0, 11) else lexF (s.length + 1) s 0 0 []
def tokAV (t : Tok) : AV := .agg [.int .i64 t.kind, .str t.text, .int .i64 t.at', .int .i64 t.col]
end Go.A
namespace Go.A
open Go.Proofs Go.Lib
def accTab : List Int := (List.range 16).flatMap fun i => [(accLo i : Int), (accHi i : Int)]
def U8 (σ : ASt) : Prop := σ 1 = some (.fix (firstTab.map (AV.int .u8))) ∧ σ 2 = some (.fix (accTab.map (AV.int .u8)))
theorem U8.of_eq {σ σ' : ASt} (h : U8 σ) (h1 : σ' 1 = σ 1) (h2 : σ' 2 = σ 2) : U8 σ' := ⟨h1.trans h.1, h2.trans h.2⟩
theorem U8.set {σ : ASt} {b : Nat} {r : Option Role} (h : U8 σ) (hb : σ b = none) : U8 (σ.set b r) := by
 refine h.of_eq (ASt.set_ne ?_) (ASt.set_ne ?_) <;> rintro rfl
 ·rw [h.1] at hb; cases hb
 ·rw [h.2] at hb; cases hb
theorem fix_ints {σ : ASt} {w : World} (hs : Sim σ w) {b : Nat} {k : IntKind} {zs : List Int} (h : σ b = some (.fix (zs.map (AV.int k)))) : ∀ j z, zs[j]? = some z → w.cell? ⟨b, j, none⟩ = some (.int k z) := by
 intro j z hj
 obtain ⟨vs, h4, h5⟩ := (hs b _ h).1.vals
 have h6 := reps_ints h4
 subst h6
 have := h5 j (Value.int k z) (by simp [hj])
 simpa using this
theorem u8_tabs {σ : ASt} {w : World} (hs : Sim σ w) (h : U8 σ) : Utf8Tabs 1 2 w := by
 refine ⟨fun c hc => fix_ints hs h.1 c _ (by simp [firstTab, hc]), fun i hi => ?_⟩
 have key : ∀ i, i < 16 → accTab[2 * i]? = some (accLo i : Int) ∧ accTab[2 * i + 1]? = some (accHi i : Int) := by decide
 exact ⟨fix_ints hs h.2 _ _ (key i hi).1, fix_ints hs h.2 _ _ (key i hi).2⟩
theorem ACalls.of_below {P : Program} {σ : ASt} {f : FuncId} {args : List AV} {r : AV} {u : Value} (h : ∀ w vs, Sim σ w → Reps σ w args vs → Calls P f ⟨vs⟩ w fun e w' => e = .returned u ∧ RowKit.Below w.heap.size w w') (hr : ∀ w, Rep σ w r u) : ACalls P f args σ fun v σ' => v = r ∧ σ' = σ :=
 ACalls.of_ext (fun w vs hs ha => (h w vs hs ha).mono fun e w' ⟨he, hb⟩ => ⟨he, Ext.of_below hb⟩) hr
theorem dec_ok {σ : ASt} (h : U8 σ) {l : List UInt8} (h0 : l ≠ []) : ACalls Tryz.prog 84 [.str l] σ fun v σ' => v = .tuple [.int .i32 (decodeL l).1, .int .i64 (decodeL l).2] ∧ σ' = σ := by
 refine ACalls.of_below (u := .tuple #[.int .i32 (decodeL l).1, .int .i64 (decodeL l).2]) (fun w vs hs ha => ?_) fun w => .tuple (.cons (.int _ _) (.cons (.int _ _) .nil))
 cases ha with
 | cons h1 h2 =>
 cases h1; cases h2
 have := Tryz.utf8_DecodeRuneInString ⟨⟨l⟩⟩ w (u8_tabs hs h)
 have e : decodeGo ⟨⟨l⟩⟩ = decodeL l := by
  unfold decodeGo decodeL
  rw [if_neg (by cases l; exact absurd rfl h0; simp [ByteArray.size])]
 rw [e] at this
 exact this
theorem count_ok (l : List UInt8) (hl : l.length < 9223372036854775807) : Pure Tryz.prog 67 [.str l] (.int .i64 (signsN l)) := by
 intro σ
 refine ACalls.of_ext (u := .int .i64 (signsN l)) (fun w vs hs ha => ?_) fun w => .int _ _
 cases ha with
 | cons h1 h2 =>
 cases h1; cases h2
 refine (Tryz.utf8_RuneCountInString ⟨⟨l⟩⟩ w (by simpa [ByteArray.size] using hl)).mono ?_
 rintro e w' ⟨rfl, pos, rfl⟩
 exact ⟨rfl, Ext.alloc (Ext.refl w) _⟩
theorem runeLen_ok (r : Int) : Pure Tryz.prog 90 [.int .i32 r] (.int .i64 (runeLen r)) := by
 intro σ
 refine ACalls.of_ext (u := .int .i64 (runeLen r)) (fun w vs hs ha => ?_) fun w => .int _ _
 cases ha with
 | cons h1 h2 =>
 cases h1; cases h2
 exact (Tryz.utf8_RuneLen r w).mono fun e w' ⟨he, hw⟩ => ⟨he, Ext.of_eq hw⟩
theorem prefix_ok (s p : List UInt8) (hs : s.length ≤ 1000000000) (hp : p.length ≤ 1000000000) : Pure Tryz.prog 93 [.str s, .str p] (.bool (p.isPrefixOf s)) := by
 intro σ
 refine ACalls.of_ext (u := .bool (p.isPrefixOf s)) (fun w vs hs ha => ?_) fun w => .bool _
 cases ha with
 | cons h1 h2 =>
 cases h2 with
 | cons h2 h3 =>
 cases h1; cases h2; cases h3
 refine (Tryz.strings_HasPrefix ⟨⟨s⟩⟩ ⟨⟨p⟩⟩ w).mono fun e w' ⟨he, hw⟩ => ⟨?_, Ext.of_eq hw⟩
 rw [he]
 rfl
theorem contains_ok (s : List UInt8) (c : UInt8) : Pure Tryz.prog 94 [.str s, .str [c]] (.bool (decide (0 ≤ indexByte s c))) := by
 intro σ
 refine ACalls.of_ext (u := .bool (decide (0 ≤ indexByte s c))) (fun w vs hs ha => ?_) fun w => .bool _
 cases ha with
 | cons h1 h2 =>
 cases h2 with
 | cons h2 h3 =>
 cases h1; cases h2; cases h3
 exact (Tryz.strings_Contains_one ⟨⟨s⟩⟩ c w).mono fun e w' ⟨he, hw⟩ => ⟨he, Ext.of_eq hw⟩
theorem index_ok (s : List UInt8) (c : UInt8) : Pure Tryz.prog 128 [.str s, .str [c]] (.int .i64 (indexByte s c)) := by
 intro σ
 refine ACalls.of_ext (u := .int .i64 (indexByte s c)) (fun w vs hs ha => ?_) fun w => .int _ _
 cases ha with
 | cons h1 h2 =>
 cases h2 with
 | cons h2 h3 =>
 cases h1; cases h2; cases h3
 exact (Tryz.stringslite_Index_one ⟨⟨s⟩⟩ c w).mono fun e w' ⟨he, hw⟩ => ⟨he, Ext.of_eq hw⟩
end Go.A
namespace Go.A
open Go.Proofs
theorem lettersF_len : ∀ k n, (lettersF k n).length ≤ k
 | 0, n => Nat.le_refl _
 | k + 1, n => by
   unfold lettersF
   split
   ·exact Nat.zero_le _
   ·have := lettersF_len k ((n - 1) / 26)
    simp; omega
theorem letters_len (c : Int) : (lettersP c).length ≤ 4 := by
 unfold lettersP
 split
 ·exact Nat.zero_le _
 ·exact lettersF_len _ _
end Go.A
namespace Go.A
open Go.Proofs
def digF : Nat → Nat → List UInt8
 | 0, _ => []
 | k + 1, n => if n < 10 then [UInt8.ofNat (48 + n)] else digF k (n / 10) ++ [UInt8.ofNat (48 + n % 10)]
theorem digF_eq : ∀ (k n : Nat), n < 10 ^ (k + 1) → Lib.decDigits n = digF (k + 1) n
 | 0, n, h => by
   rw [Lib.decDigits, dif_pos (by omega)]
   unfold digF
   rw [if_pos (by omega)]
 | k + 1, n, h => by
   rw [Lib.decDigits]
   unfold digF
   by_cases h1 : n < 10
   ·rw [dif_pos h1, if_pos h1]
   ·rw [dif_neg h1, if_neg h1, digF_eq k (n / 10) (by rw [Nat.pow_succ] at h; omega)]
def numT (row : Int) : List UInt8 := digF 4 (row + 1).toNat
theorem itoa_num {row : Int} (h0 : 0 ≤ row) (h1 : row < 3000) : Lib.itoa (row + 1) = numT row := by
 unfold Lib.itoa numT
 rw [if_neg (by omega), digF_eq 3 _ (by omega)]
theorem num_all : (List.range 3000).all (fun i => decide (numF 0 (numT i) = (i : Int) + 1) && (numT i).all isD && decide (1 ≤ (numT i).length) && decide ((numT i).length ≤ 4) && decide (atP (numT i) 0 ≠ 48)) = true := by decide +kernel
theorem num_facts {row : Int} (h0 : 0 ≤ row) (h1 : row < 3000) : numF 0 (numT row) = row + 1 ∧ (∀ c ∈ numT row, isD c = true) ∧ 1 ≤ (numT row).length ∧ (numT row).length ≤ 4 ∧ atP (numT row) 0 ≠ 48 := by
 obtain ⟨i, rfl⟩ : ∃ i : Nat, row = i := ⟨row.toNat, by omega⟩
 have := List.all_eq_true.1 num_all i (List.mem_range.2 (by omega))
 simpa [and_assoc] using this
theorem let_all : (List.range 700).all (fun i => (lettersP i).all isL && decide (1 ≤ (lettersP i).length)) = true := by decide +kernel
theorem let_facts {col : Int} (h0 : 0 ≤ col) (h1 : col < 700) : (∀ c ∈ lettersP col, isL c = true) ∧ 1 ≤ (lettersP col).length := by
 obtain ⟨i, rfl⟩ : ∃ i : Nat, col = i := ⟨col.toNat, by omega⟩
 have := List.all_eq_true.1 let_all i (List.mem_range.2 (by omega))
 simpa using this
def dolP (b : Bool) : List UInt8 := if b then [36] else []
def textP (r : Ref) : List UInt8 := dolP r.absCol ++ lettersP r.col ++ dolP r.absRow ++ numT r.row
theorem text_len {r : Ref} (hg : r.good = true) : 2 ≤ (textP r).length ∧ (textP r).length ≤ 10 := by
 simp only [Ref.good, decide_eq_true_eq] at hg
 obtain ⟨g1, g2, g3, g4⟩ := hg
 obtain ⟨l1, l2⟩ := let_facts g3 g4
 obtain ⟨n1, n2, n3, n4, n5⟩ := num_facts g1 g2
 have := letters_len r.col
 unfold textP dolP
 simp only [List.length_append]
 constructor
 ·omega
 ·split <;> split <;> simp <;> omega
end Go.A
namespace Go.A
inductive Nd where
 | mk (op n : Int) (s : List UInt8) (a b : Ref) (kids : List Nd)
instance : Inhabited Nd := ⟨.mk 0 0 [] .zero .zero []⟩
def Nd.op : Nd → Int | .mk op _ _ _ _ _ => op
mutual
def Nd.av : Nd → AV
 | .mk op n s a b kids => .agg [.int .i64 op, .int .i64 n, .str s, .int .i64 a.row, .int .i64 a.col, .bool a.absRow, .bool a.absCol, .int .i64 b.row, .int .i64 b.col, .bool b.absRow, .bool b.absCol, .sl .shr (Nd.avs kids)]
def Nd.avs : List Nd → List AV
 | [] => []
 | x :: xs => x.av :: Nd.avs xs
end
theorem Nd.avs_map : ∀ l : List Nd, Nd.avs l = l.map Nd.av
 | [] => rfl
 | x :: xs => by rw [Nd.avs, Nd.avs_map xs]; rfl
theorem Nd.av_eq (op n : Int) (s : List UInt8) (a b : Ref) (kids : List Nd) : (Nd.mk op n s a b kids).av = .agg [.int .i64 op, .int .i64 n, .str s, .int .i64 a.row, .int .i64 a.col, .bool a.absRow, .bool a.absCol, .int .i64 b.row, .int .i64 b.col, .bool b.absRow, .bool b.absCol, .sl .shr (kids.map Nd.av)] := by
 rw [Nd.av, Nd.avs_map]
def Nd.cs (op n : Int) (s : List UInt8) (a b : Ref) (L : List AV) : List AV := [.int .i64 op, .int .i64 n, .str s, .int .i64 a.row, .int .i64 a.col, .bool a.absRow, .bool a.absCol, .int .i64 b.row, .int .i64 b.col, .bool b.absRow, .bool b.absCol, .sl .shr L]
theorem Nd.av_cs (op n : Int) (s : List UInt8) (a b : Ref) (kids : List Nd) : (Nd.mk op n s a b kids).av = .agg (Nd.cs op n s a b (kids.map Nd.av)) := Nd.av_eq ..
section
variable {op n : Int} {s : List UInt8} {a b : Ref} {L : List AV}
@[go_sem] theorem cs_0 : (Nd.cs op n s a b L)[0]? = some (.int .i64 op) := id rfl
@[go_sem] theorem cs_1 : (Nd.cs op n s a b L)[1]? = some (.int .i64 n) := id rfl
@[go_sem] theorem cs_2 : (Nd.cs op n s a b L)[2]? = some (.str s) := id rfl
@[go_sem] theorem cs_11 : (Nd.cs op n s a b L)[11]? = some (.sl .shr L) := id rfl
@[go_sem] theorem cs_len : (Nd.cs op n s a b L).length = 12 := id rfl
@[go_sem] theorem cs_leaves : leaves (Nd.cs op n s a b L) = true := id rfl
@[go_sem] theorem cs_take : (Nd.cs op n s a b L).take 12 = Nd.cs op n s a b L := id rfl
@[go_sem] theorem cs_ta : ((Nd.cs op n s a b L).drop 3).take 4 = [.int .i64 a.row, .int .i64 a.col, .bool a.absRow, .bool a.absCol] := id rfl
@[go_sem] theorem cs_tb : ((Nd.cs op n s a b L).drop 7).take 4 = [.int .i64 b.row, .int .i64 b.col, .bool b.absRow, .bool b.absCol] := id rfl
end
theorem Nd.av_len (n : Nd) : n.av.cells.length = 12 := by cases n; rfl
theorem Nd.av_leaves (n : Nd) : leaves n.av.cells = true := by cases n; rfl
theorem Nd.get {l : List Nd} {i : Nat} {x : Nd} (h : l[i]? = some x) : (l.map Nd.av)[i]? = some x.av := by rw [List.getElem?_map, h]; rfl
mutual
theorem Nd.deep : ∀ n : Nd, Go.A.deep n.av = n.av
 | .mk op n s a b kids => by
   rw [Nd.av, Go.A.deep]
   simp only [Go.A.deeps, Go.A.deep, Nd.deeps kids]
theorem Nd.deeps : ∀ l : List Nd, Go.A.deeps (Nd.avs l) = Nd.avs l
 | [] => rfl
 | x :: xs => by rw [Nd.avs, Go.A.deeps, Nd.deep x, Nd.deeps xs]
end
mutual
def Nd.size : Nd → Nat
 | .mk _ _ _ _ _ kids => 1 + Nd.sizes kids
def Nd.sizes : List Nd → Nat
 | [] => 0
 | x :: xs => x.size + Nd.sizes xs
end
theorem Nd.size_kid : ∀ {l : List Nd} {x : Nd}, x ∈ l → x.size ≤ Nd.sizes l
 | [], _, h => by cases h
 | y :: l, x, h => by
   rw [Nd.sizes]
   rcases List.mem_cons.1 h with rfl | h
   ·omega
   ·have := Nd.size_kid h; omega
theorem Nd.size_pos (n : Nd) : 0 < n.size := by cases n; rw [Nd.size]; omega
def levelP (op : Int) : Int :=
 if op = 7 ∨ op = 8 then 6 else if op = 9 then 7 else if op < 10 ∨ 22 ≤ op then 8
 else if op ≤ 11 then 3 else if op ≤ 13 then 4 else if op = 14 then 5 else if op = 15 then 2 else 1
def signL : List (List UInt8) := [[43], [45], [42], [47], [94], [38], [61], [60, 62], [60], [60, 61], [62], [62, 61]]
def errL : List (List UInt8) := [[35, 68, 73, 86, 47, 48, 33], [35, 78, 85, 77, 33], [35, 86, 65, 76, 85, 69, 33], [35, 82, 69, 70, 33], [35, 78, 47, 65], [35, 78, 65, 77, 69, 63], [35, 67, 89, 67, 76, 69, 33]]
def failT (op n : Int) : List UInt8 := if op ≠ 4 ∨ n.tdiv 10000 < 1 ∨ 7 < n.tdiv 10000 then [] else errL.getD (n.tdiv 10000 - 1).toNat []
def truthP (b : Bool) : List UInt8 := if b = true then [84, 82, 85, 69] else [70, 65, 76, 83, 69]
def quotT (s : List UInt8) : List UInt8 := 34 :: (s.flatMap fun c => if c = 34 then [34, 34] else [c]) ++ [34]
def insT (least : Int) (op : Int) (t : List UInt8) : List UInt8 := if least ≤ levelP op then t else 40 :: t ++ [41]
def joinC : List (Int × List UInt8) → List UInt8
 | [] => []
 | p :: r => p.2 ++ r.flatMap fun q => 44 :: q.2
def spellK (op n : Int) (s : List UInt8) (a b : Ref) (ks : List (Int × List UInt8)) : List UInt8 :=
 if op = 1 then textD n else if op = 2 then quotT s else if op = 3 then truthP (!decide (n = 0)) else if op = 4 then failT op n else if op = 5 then textP a else if op = 6 then textP a ++ [58] ++ textP b
 else if op = 7 ∨ op = 8 then (if op = 7 then 45 else 43) :: insT 6 (ks.getD 0 (0, [])).1 (ks.getD 0 (0, [])).2
 else if op = 9 then insT 7 (ks.getD 0 (0, [])).1 (ks.getD 0 (0, [])).2 ++ [37]
 else if op = 22 then s ++ 40 :: joinC ks ++ [41]
 else if op = 23 then []
 else insT (levelP op) (ks.getD 0 (0, [])).1 (ks.getD 0 (0, [])).2 ++ signL.getD (op - 10).toNat [] ++ insT (levelP op + 1) (ks.getD 1 (0, [])).1 (ks.getD 1 (0, [])).2
mutual
def Nd.spell : Nd → List UInt8
 | .mk op n s a b kids => spellK op n s a b (Nd.spells kids)
def Nd.spells : List Nd → List (Int × List UInt8)
 | [] => []
 | x :: xs => (x.op, x.spell) :: Nd.spells xs
end
theorem Nd.spells_map : ∀ l : List Nd, Nd.spells l = l.map fun x => (x.op, x.spell)
 | [] => rfl
 | x :: xs => by rw [Nd.spells, Nd.spells_map xs]; rfl
def nodeOk (op n : Int) (s : List UInt8) (a b : Ref) (k : Nat) : Prop :=
 (1 ≤ op ∧ op ≤ 23) ∧ (op = 1 → n.natAbs ≤ 999999999999999999) ∧ (op = 2 → s.length ≤ 100000) ∧ (op = 4 → 1 ≤ n.tdiv 10000 ∧ n.tdiv 10000 ≤ 7) ∧ (op = 22 → s ≠ []) ∧ (op = 5 ∨ op = 6 → a.good = true) ∧ (op = 6 → b.good = true) ∧ (op = 7 ∨ op = 8 ∨ op = 9 → 1 ≤ k) ∧ (10 ≤ op ∧ op ≤ 21 → 2 ≤ k) ∧ k ≤ 1000000
mutual
def Nd.ok : Nd → Prop
 | .mk op n s a b kids => nodeOk op n s a b kids.length ∧ Nd.oks kids
def Nd.oks : List Nd → Prop
 | [] => True
 | x :: xs => x.ok ∧ Nd.oks xs
end
theorem Nd.oks_mem : ∀ {l : List Nd}, Nd.oks l ↔ ∀ x ∈ l, x.ok
 | [] => by simp [Nd.oks]
 | y :: l => by rw [Nd.oks, Nd.oks_mem (l := l)]; simp
end Go.A
namespace Go.A
open Go.Proofs Go.Shelf Go.RowKit
section
variable {P : Program} {ρ : Ren}
set_option maxHeartbeats 2000000 in
theorem bstr_used (L : Lays.n169 P ρ) (X : Builder.Extra P ρ) (b g cap size : Nat) (l : List UInt8) (w : World) (h0 : l ≠ []) (hc1 : w.cell? ⟨b, 1, none⟩ = some (.slice (some ⟨g, 0, none⟩) l.length cap)) (hcap : cap ≠ 0)
  (hsh : w.shape? g = some (ρ.t 5, size)) (hle : l.length ≤ size) (h63 : l.length ≤ 9223372036854775807) (hcell : ∀ j x, l[j]? = some x → w.cell? ⟨g, j, none⟩ = some (.int .u8 x.toNat)) :
  Calls P (ρ.f 169) #[.pointer (some ⟨b, 0, none⟩)] w fun e w' => e = .returned (.string ⟨l.toArray⟩) ∧ w' = w.drew.freeze ⟨g, 0, none⟩ l.length := by
 have c1 : w.drew.cell? ⟨b, 1, none⟩ = some (.slice (some ⟨g, 0, none⟩) l.length cap) := hc1
 have hSD : (Builtin.unsafeSliceData_ #[(ρ.t 37)] (ρ.t 127) #[.slice (some ⟨g, 0, none⟩) l.length cap]).run P w.drew = .ok (.pointer (some ⟨g, 0, none⟩)) w.drew :=
  Lib.run_unsafeSliceData_row _ _ _ _ _ _ hcap
 have hUS : (Builtin.unsafeString_ #[(ρ.t 127), (ρ.t 3)] (ρ.t 9) #[.pointer (some ⟨g, 0, none⟩), .int .i64 l.length]).run P w.drew = .ok (.string ⟨l.toArray⟩) (w.drew.freeze ⟨g, 0, none⟩ l.length) := by
  refine Lib.run_unsafeString_row w.drew (ρ.t 127) (ρ.t 3) (ρ.t 9) (ρ.t 5) L.t127 X.cellsByte g size hsh l h0 hle h63 ?_
  intro j x hx
  rw [addr_add', Nat.zero_add]
  exact hcell j x hx
 have mixed := L.mixed
 have t72 := L.t72; have a72 := L.a72; have z72 := L.z72; have v72 := L.v72; have u72 := run_underlying L.t72
 have t70 := L.t70; have a70 := L.a70; have z70 := L.z70; have v70 := L.v70; have u70 := run_underlying L.t70
 have t37 := L.t37; have a37 := L.a37; have z37 := L.z37; have v37 := L.v37; have u37 := run_underlying L.t37
 have t127 := L.t127; have a127 := L.a127; have z127 := L.z127; have v127 := L.v127; have u127 := run_underlying L.t127
 have t3 := L.t3; have a3 := L.a3; have z3 := L.z3; have v3 := L.v3; have u3 := run_underlying L.t3
 have t9 := L.t9; have a9 := L.a9; have z9 := L.z9; have v9 := L.v9; have u9 := run_underlying L.t9
 have t5 := X.t5; have a5 := X.a5; have z5 := X.z5; have v5 := X.v5; have u5 := run_underlying X.t5
 go_enter L.f169, Body.n169_ntmps ρ
 go_wp2
 go_region_o
 all_goals (go_wp2; go_ret; exact ⟨rfl, rfl⟩)
set_option maxHeartbeats 2000000 in
theorem bstr_nil (L : Lays.n169 P ρ) (X : Builder.Extra P ρ) (b : Nat) (w : World) (hc1 : w.cell? ⟨b, 1, none⟩ = some (.slice none 0 0)) :
  Calls P (ρ.f 169) #[.pointer (some ⟨b, 0, none⟩)] w fun e w' => e = .returned (.string ⟨#[]⟩) ∧ w' = w.drew := by
 have hUS := Any.unsafeString_none L X
 have c1 : w.drew.cell? ⟨b, 1, none⟩ = some (.slice none 0 0) := hc1
 have hSD : (Builtin.unsafeSliceData_ #[(ρ.t 37)] (ρ.t 127) #[.slice none 0 0]).run P w.drew = .ok (.pointer none) w.drew := rfl
 have mixed := L.mixed
 have t72 := L.t72; have a72 := L.a72; have z72 := L.z72; have v72 := L.v72; have u72 := run_underlying L.t72
 have t70 := L.t70; have a70 := L.a70; have z70 := L.z70; have v70 := L.v70; have u70 := run_underlying L.t70
 have t37 := L.t37; have a37 := L.a37; have z37 := L.z37; have v37 := L.v37; have u37 := run_underlying L.t37
 have t127 := L.t127; have a127 := L.a127; have z127 := L.z127; have v127 := L.v127; have u127 := run_underlying L.t127
 have t3 := L.t3; have a3 := L.a3; have z3 := L.z3; have v3 := L.v3; have u3 := run_underlying L.t3
 have t9 := L.t9; have a9 := L.a9; have z9 := L.z9; have v9 := L.v9; have u9 := run_underlying L.t9
 have t5 := X.t5; have a5 := X.a5; have z5 := X.z5; have v5 := X.v5; have u5 := run_underlying X.t5
 go_enter L.f169, Body.n169_ntmps ρ
 go_wp2
 go_region_o
 all_goals (go_wp2; go_ret; exact ⟨rfl, rfl⟩)
end
theorem size_bld : (Tryz.prog.info? 106).map (·.size) = some 2 := by kernel_rfl
theorem lies_bld : liesAt Tryz.prog Tryz.prog.depth 106 (2 / Tryz.prog.cellsOf 106) 0 106 1 = true := by kernel_rfl
set_option maxHeartbeats 1000000 in
set_option maxRecDepth 1000000 in
theorem cc_used (b : Nat) (w : World) (h0 : w.cell? ⟨b, 0, none⟩ = some (.pointer (some ⟨b, 0, none⟩))) :
  Calls Tryz.prog 97 #[.pointer (some ⟨b, 0, none⟩)] w fun e w' => e = .returned (.tuple #[]) ∧ w' = w := by
 obtain ⟨j, hj, _⟩ := Option.map_eq_some_iff.1 size_bld
 go_enter Tryz.func97, Tryz.ntmps97
 go_wp2
 rw [Lib.run_neq_ptr_same w _ Tryz.underlying103 hj]
 go_wp2
 go_end0
 exact ⟨rfl, rfl⟩
set_option maxHeartbeats 1000000 in
set_option maxRecDepth 1000000 in
theorem cc_fresh (b : Nat) (w : World) (h0 : w.cell? ⟨b, 0, none⟩ = some (.pointer none)) (hsh : w.shape? b = some (106, 2)) (hfz : w.frozen? ⟨b, 0, none⟩ = false) :
  Calls Tryz.prog 97 #[.pointer (some ⟨b, 0, none⟩)] w fun e w' => e = .returned (.tuple #[]) ∧ w' = w.setCell ⟨b, 0, none⟩ (.pointer (some ⟨b, 0, none⟩)) := by
 obtain ⟨j, hj, hjs⟩ := Option.map_eq_some_iff.1 size_bld
 go_enter Tryz.func97, Tryz.ntmps97
 go_wp2
 rw [Lib.run_to_unsafe w ⟨b, 0, none⟩ Tryz.underlying103 Tryz.underlying155 hj (by rw [hjs]; decide) hsh (Nat.zero_lt_succ 1)]
 simp only [Result.andThen]
 rw [Oper.upon_value]
 go_wp2
 rw [run_callFunc_extern Tryz.func117 (by kernel_rfl) (by kernel_rfl) (by kernel_rfl) (e := Extern.AbiNoEscape.same) (by kernel_rfl)]
 rw [Lib.run_noEscape]
 simp only [Result.andThen]
 rw [Oper.upon_value]
 go_wp2
 rw [Lib.run_from_unsafe w ⟨b, 0, none⟩ Tryz.underlying155 Tryz.underlying103 hj hsh lies_bld]
 simp only [Result.andThen]
 rw [Oper.upon_value]
 go_wp2
 go_end0
 exact ⟨rfl, rfl⟩
end Go.A
namespace Go.A
open Go.Proofs
theorem copyCheck_typ {σ : ASt} {b : Nat} (h : σ b = some (.typ 106 [.pointer none, .slice none 0 0])) :
  ACalls Tryz.prog 97 [.ptr b 0] σ fun v σ' => v = .tuple [] ∧ σ' = σ.set b (some (.obj [.ptr b 0, .sl .full []])) := by
 intro w vs hs ha
 cases ha with
 | cons h1 h2 =>
 cases h1; cases h2
 have hb : w.heap[b]? = some (.cells ⟨[.pointer none, .slice none 0 0]⟩ 106 (0, 0)) := hs b _ h
 refine (cc_fresh b w (by simp [World.cell?, hb]) (by simp [World.shape?, hb]) (by simp [World.frozen?, hb])).mono ?_
 rintro e w' ⟨rfl, rfl⟩
 have hw := Wrote.setCell (o := 0) hb (.pointer (some ⟨b, 0, none⟩))
 have hle : Le σ w (σ.set b (some (.obj [.ptr b 0, .sl .full []]))) (w.setCell ⟨b, 0, none⟩ (.pointer (some ⟨b, 0, none⟩))) := by
  refine ⟨hw.os, hw.tape, hw.output, by rw [hw.size]; exact Nat.le_refl _, fun x hx hn => ?_, fun x cs hx hn => ?_, fun x f hx hn => ?_⟩
  all_goals have hne : x ≠ b := by rintro rfl; rw [h] at hn; cases hn
  ·rw [ASt.set_ne hne]; exact ⟨hn, hw.other x hne⟩
  ·rw [ASt.set_ne hne]; exact ⟨.inr hn, hw.other x hne⟩
  ·rw [ASt.set_ne hne]; exact ⟨.inr ⟨f, Nat.le_refl _, hn⟩, shape_of_heap_eq (hw.other x hne), fun o _ => cell_of_heap_eq (hw.other x hne) o⟩
 have hro : RoleOk (σ.set b (some (.obj [.ptr b 0, .sl .full []]))) (w.setCell ⟨b, 0, none⟩ (.pointer (some ⟨b, 0, none⟩))) b (.obj [.ptr b 0, .sl .full []]) := by
  refine ⟨_, _, _, hw.new, ?_, fun o ho => ?_⟩
  ·exact .cons (.ptr _ _) (.cons .slN .nil)
  ·rw [hw.frozen]
   simp only [World.frozen?, hb]
   simp
 exact ⟨_, _, _, rfl, ⟨rfl, rfl⟩, hle, hw.sim hs hle hro, .tuple .nil⟩
theorem copyCheck_used {σ : ASt} {b : Nat} {x : AV} (h : σ b = some (.obj [.ptr b 0, x])) : ACalls Tryz.prog 97 [.ptr b 0] σ fun v σ' => v = .tuple [] ∧ σ' = σ := by
 intro w vs hs ha
 cases ha with
 | cons h1 h2 =>
 cases h1; cases h2
 obtain ⟨us, h3, h4, _⟩ := hs.objCell h
 cases h3 with
 | cons h5 h6 =>
 cases h5
 refine (cc_used b w (h4 0 _ rfl)).mono ?_
 rintro e w' ⟨rfl, rfl⟩
 exact ⟨_, _, _, rfl, ⟨rfl, rfl⟩, Le.refl _ _, hs, .tuple .nil⟩
theorem bstring_typ {σ : ASt} {b : Nat} (h : σ b = some (.typ 106 [.pointer none, .slice none 0 0])) : ACalls Tryz.prog 53 [.ptr b 0] σ fun v σ' => v = .str [] ∧ σ' = σ := by
 intro w vs hs ha
 cases ha with
 | cons h1 h2 =>
 cases h1; cases h2
 have hb : w.heap[b]? = some (.cells ⟨[.pointer none, .slice none 0 0]⟩ 106 (0, 0)) := hs b _ h
 refine (bstr_nil Tryz.lays169 Tryz.Builder_Extra_169 b w (by simp [World.cell?, hb])).mono ?_
 rintro e w' ⟨rfl, rfl⟩
 have hx : Ext w w.drew := Ext.drew (Ext.refl w)
 exact ⟨_, _, _, rfl, ⟨rfl, rfl⟩, ext_le hx, hs.ext hx, .str []⟩
theorem row_bytes {σ : ASt} {w : World} {b : Nat} : ∀ {l : List UInt8} {o : Nat}, Row σ w b o 1 (bytesAV l) → ∀ j x, l[j]? = some x → w.cell? ⟨b, o + j, none⟩ = some (.int .u8 x.toNat)
 | [], o, h, j, x, hj => by simp at hj
 | c :: l, o, h, j, x, hj => by
   cases h with
   | cons h1 h2 h3 =>
   cases j with
   | zero =>
     simp only [List.getElem?_cons_zero, Option.some.injEq] at hj
     subst hj
     cases h2 with
     | cons g1 g2 g3 g4 =>
     cases g3
     exact g2
   | succ j =>
     have := row_bytes (l := l) h3 j x (by simpa using hj)
     rw [show o + (j + 1) = o + 1 + j by omega]
     exact this
theorem bstring_used {σ : ASt} {b g : Nat} {p : AV} {l : List UInt8} (h0 : l ≠ []) (hl : l.length ≤ 9223372036854775807) (h : σ b = some (.obj [p, .sl (.tok g 1 5) (bytesAV l)])) (hg : σ g = some (.tok l.length)) :
  ACalls Tryz.prog 53 [.ptr b 0] σ fun v σ' => v = .str l ∧ σ' = σ := by
 intro w vs hs ha
 cases ha with
 | cons h1 h2 =>
 cases h1; cases h2
 obtain ⟨us, h3, h4, h9⟩ := hs.objCell h
 cases h3 with
 | cons h5 h6 =>
 cases h6 with
 | cons h7 h8 =>
 cases h8
 obtain ⟨c, T, fr, k1, k2, k3⟩ := hs g _ hg
 have hlen : (bytesAV l).length = l.length := by simp [bytesAV]
 generalize hbl : bytesAV l = bl at h7
 cases h7 with
 | sl r1 r2 r3 r4 r5 =>
 subst hbl
 obtain ⟨rfl, rfl, rfl, r6, r7⟩ := r4
 have hpos : 0 < l.length := List.length_pos_iff.2 h0
 subst r2
 rw [hlen] at r3
 have hc1 := h4 1 _ rfl
 rw [hlen] at hc1
 refine (bstr_used Tryz.lays169 Tryz.Builder_Extra_169 b g _ _ l w h0 hc1 (by omega) r6 (by omega) hl ?_).mono ?_
 ·intro j x hj
  have := row_bytes r1 j x hj
  simpa using this
 rintro e w' ⟨rfl, rfl⟩
 have hother : ∀ x, x ≠ g → (w.drew.freeze ⟨g, 0, none⟩ l.length).heap[x]? = w.heap[x]? := by
  intro x hx
  simp only [World.freeze]
  rw [if_neg (by omega)]
  simp only [Array.getElem?_modify]
  rw [if_neg (Ne.symm hx)]
  rfl
 obtain ⟨lo, hi⟩ := fr
 have hk1 : w.drew.heap[g]? = some (.cells c T (lo, hi)) := k1
 obtain ⟨fr', hfr, hnew⟩ : ∃ fr' : Nat × Nat, fr'.2 ≤ l.length ∧ (w.drew.freeze ⟨g, 0, none⟩ l.length).heap[g]? = some (.cells c T fr') := by
  refine ⟨if lo == hi then (0, 0 + l.length) else (min lo 0, max hi (0 + l.length)), ?_, ?_⟩
  ·dsimp only at k3
   split <;> dsimp only <;> omega
  ·simp only [World.freeze]
   rw [if_neg (by omega)]
   simp only [Array.getElem?_modify, if_true, hk1, Option.map_some]
 have hshape : (w.drew.freeze ⟨g, 0, none⟩ l.length).shape? g = w.shape? g := by simp only [World.shape?, hnew, k1]
 have hcells : ∀ o, (w.drew.freeze ⟨g, 0, none⟩ l.length).cell? ⟨g, o, none⟩ = w.cell? ⟨g, o, none⟩ := fun o => by simp only [World.cell?, hnew, k1]
 have hle : Le σ w σ (w.drew.freeze ⟨g, 0, none⟩ l.length) := by
  refine ⟨?_, ?_, ?_, ?_, fun x hx hn => ?_, fun x cs hx hn => ?_, fun x f hx hn => ?_⟩
  ·simp only [World.freeze]; split <;> rfl
  ·simp only [World.freeze]; split <;> rfl
  ·simp only [World.freeze]; split <;> rfl
  ·simp only [World.freeze]; split
   ·exact Nat.le_refl _
   ·rw [Array.size_modify]; exact Nat.le_refl _
  ·have hne : x ≠ g := by rintro rfl; rw [hg] at hn; cases hn
   exact ⟨hn, hother x hne⟩
  ·have hne : x ≠ g := by rintro rfl; rw [hg] at hn; cases hn
   exact ⟨.inr hn, hother x hne⟩
  ·by_cases hne : x = g
   ·subst hne
    exact ⟨.inr ⟨f, Nat.le_refl _, hn⟩, hshape, fun o _ => hcells o⟩
   ·exact ⟨.inr ⟨f, Nat.le_refl _, hn⟩, shape_of_heap_eq (hother x hne), fun o _ => cell_of_heap_eq (hother x hne) o⟩
 have hsim : Sim σ (w.drew.freeze ⟨g, 0, none⟩ l.length) := by
  intro x q hx
  by_cases hne : x = g
  ·subst hne
   rw [hg] at hx
   injection hx with hx
   subst hx
   exact ⟨c, T, fr', hnew, k2, hfr⟩
  ·exact (hs x q hx).keep hle (hother x hne)
 exact ⟨_, _, _, rfl, ⟨rfl, rfl⟩, hle, hsim, .str l⟩
end Go.A
namespace Go.A
open Go.Proofs
/-! 74: tabular/token.Quote -/
def c74_0 : ACode := .ops [
 ⟨some 2, none, .q (.mv (.v (.str []))), []⟩]
def c74_1 : ACode := .ops [
 ⟨some 3, none, .q (.mv (.t 0)), []⟩,
 ⟨some 4, none, .e (.call 101 [(.t 3), (.v (.str [34])), (.v (.str [34, 34]))]), []⟩,
 ⟨some 5, none, .q (.bin .add (.v (.str [34])) (.t 4)), []⟩,
 ⟨some 6, none, .q (.bin .add (.t 5) (.v (.str [34]))), []⟩,
 ⟨some 2, none, .q (.mv (.t 6)), []⟩]
def c74_2 : ACode := .seq c74_1 .ret
def c74_3 : ACode := .seq c74_0 c74_2
@[go_sem] def c74_0_wp := wp_of c74_0.eq_1
@[go_sem] def c74_1_wp := wp_of c74_1.eq_1
@[go_sem] def c74_2_wp := wp_of c74_2.eq_1
@[go_sem] def c74_3_wp := wp_of c74_3.eq_1
def c74 : AFn := ⟨7, [.t 2], c74_3⟩
theorem c74_ok : compF Tryz.prog Tryz.f74 = some c74 := by kernel_rfl
theorem a74 {args : List AV} {σ : ASt} {R : AV → ASt → Prop} (hl : args.length ≤ 7) (h : c74_3.wp Tryz.prog (RetQ [.t 2] R) (init args) σ) : ACalls Tryz.prog 74 args σ R := acalls_of Tryz.func74 c74_ok hl h
end Go.A
namespace Go.A
open Go.Proofs Go.Lib
def dbl (s : List UInt8) : List UInt8 := s.flatMap fun c => if c = 34 then [34, 34] else [c]
theorem dbl_q (s : List UInt8) : dbl (34 :: s) = 34 :: 34 :: dbl s := by simp [dbl]
theorem dbl_o {c : UInt8} (h : c ≠ 34) (s : List UInt8) : dbl (c :: s) = c :: dbl s := by simp [dbl, h]
theorem rep_ne {c : UInt8} (hc : c ≠ 34) (new : List UInt8) : ∀ (k : Nat) (s : List UInt8), replaceK [34] new k (c :: s) = c :: replaceK [34] new k s
 | 0, s => rfl
 | k + 1, s => by
   have hp : ([34] : List UInt8).isPrefixOf (c :: s) = false := by
    simp [List.isPrefixOf]
    exact fun h => hc h.symm
   have hi : index (c :: s) [34] = if index s [34] == -1 then -1 else index s [34] + 1 := by
    rw [index, hp]
    simp
   unfold replaceK
   rw [hi]
   have hge := index_ge s [34]
   by_cases h : index s [34] = -1
   ·have hb : (index s [34] == -1) = true := by rw [h]; rfl
    rw [if_pos hb, if_pos (by rfl), if_pos hb]
   ·have hb : ¬ (index s [34] == -1) = true := by rw [beq_iff_eq]; exact h
    rw [if_neg hb, if_neg (by rw [beq_iff_eq]; omega), if_neg hb]
    have e : (index s [34] + 1).toNat = (index s [34]).toNat + 1 := by omega
    rw [e, List.take_succ_cons]
    simp only [List.length_cons, List.length_nil, List.cons_append]
    rw [show (index s [34]).toNat + 1 + (0 + 1) = ((index s [34]).toNat + (0 + 1)) + 1 by omega, List.drop_succ_cons]
theorem rep_eq (new : List UInt8) (k : Nat) (s : List UInt8) : replaceK [34] new (k + 1) (34 :: s) = new ++ replaceK [34] new k s := by
 have hi : index (34 :: s) [34] = 0 := by
  rw [index]
  simp [List.isPrefixOf]
 rw [replaceK, hi]
 simp
theorem rep_dbl : ∀ s : List UInt8, replaceK [34] [34, 34] (s.count 34) s = dbl s
 | [] => rfl
 | c :: s => by
   by_cases hc : c = 34
   ·subst hc
    rw [List.count_cons_self, rep_eq, rep_dbl s, dbl_q]
    rfl
   ·rw [List.count_cons_of_ne (by simpa using hc), rep_ne hc, rep_dbl s, dbl_o hc]
theorem replace_dbl (s : List UInt8) : replaceAll s [34] [34, 34] = dbl s := by
 unfold replaceAll replace replaceNum
 rw [if_neg (by decide), if_pos (.inl (by omega)), count_one, rep_dbl]
theorem dbl_len (s : List UInt8) : (dbl s).length ≤ 2 * s.length := by
 induction s with
 | nil => simp [dbl]
 | cons c s ih =>
   by_cases hc : c = 34
   ·subst hc; rw [dbl_q]; simp; omega
   ·rw [dbl_o hc]; simp; omega
def MaxL (σ : ASt) : Prop := ∃ m : Int, σ 3 = some (.fix ([m].map (AV.int .i64)))
theorem replace_ok {σ : ASt} (hM : MaxL σ) (s : List UInt8) (hs : s.length ≤ 100000) : ACalls Tryz.prog 101 [.str s, .str [34], .str [34, 34]] σ fun v σ' => v = .str (dbl s) ∧ σ' = σ := by
 obtain ⟨m, hm⟩ := hM
 refine ACalls.of_below (u := .string ⟨⟨dbl s⟩⟩) (fun w vs hsim ha => ?_) fun w => .str _
 cases ha with
 | cons h1 h2 =>
 cases h2 with
 | cons h2 h3 =>
 cases h3 with
 | cons h3 h4 =>
 cases h1; cases h2; cases h3; cases h4
 have hcell := fix_ints hsim hm 0 m rfl
 have e1 : (⟨⟨s⟩⟩ : ByteArray).size = s.length := rfl
 have e2 : (⟨⟨[34, 34]⟩⟩ : ByteArray).size = 2 := rfl
 have hcb : countB ⟨⟨s⟩⟩ ⟨⟨[34]⟩⟩ ≤ s.length := by
  show count s [34] ≤ s.length
  rw [count_one]
  exact List.count_le_length
 refine (Tryz.strings_ReplaceAll ⟨⟨s⟩⟩ ⟨⟨[34]⟩⟩ ⟨⟨[34, 34]⟩⟩ m w (by rw [e1]; omega) hcell (by decide) (by rw [e1, e2]; omega)).mono ?_
 rintro e w' ⟨rfl, hb⟩
 refine ⟨?_, hb⟩
 show _ = Ending.returned (.string ⟨⟨dbl s⟩⟩)
 rw [← replace_dbl]
theorem tquote_ok {σ : ASt} (hM : MaxL σ) (s : List UInt8) (hs : s.length ≤ 100000) : ACalls Tryz.prog 74 [.str s] σ fun v σ' => v = .str (34 :: dbl s ++ [34]) ∧ σ' = σ := by
 have hl := dbl_len s
 refine a74 (by simp) ?_
 simp (disch := first | assumption | omega) only [go_sem, reduceCtorEq, ↓reduceIte]
 refine (replace_ok hM s hs).mono ?_
 rintro v σ' ⟨rfl, rfl⟩
 have e1 : binS .add [34] (dbl s) = some (.str (34 :: dbl s)) := binS_add (by simp; omega)
 have e2 : binS .add (34 :: dbl s) [34] = some (.str (34 :: dbl s ++ [34])) := binS_add (by simp; omega)
 simp (disch := first | assumption | omega) only [go_sem, ↓reduceIte, e1, e2]
 exact retC_by (Drop.refl _) (.refl _) ⟨rfl, rfl⟩
end Go.A
namespace Go.A
open Go.Proofs
/-! 77: (tabular/addr.Ref).Text -/
def c77_0 : ACode := .ops [
 ⟨some 1, none, .e (.box (.t 0)), []⟩,
 ⟨some 2, none, .q (.mv (.v (.str []))), []⟩]
def c77_1 : ACode := .ops [
 ⟨some 3, none, .q (.fa 3 (.t 1)), []⟩,
 ⟨some 4, none, .q (.ld none (.t 3)), []⟩,
 ⟨some 6, none, .q (.fa 1 (.t 1)), []⟩,
 ⟨some 7, none, .q (.ld none (.t 6)), []⟩,
 ⟨some 10, none, .q (.fa 2 (.t 1)), []⟩,
 ⟨some 11, none, .q (.ld none (.t 10)), []⟩,
 ⟨some 14, none, .q (.fa 0 (.t 1)), []⟩,
 ⟨some 15, none, .q (.ld none (.t 14)), []⟩,
 ⟨some 16, none, .q (.bin .add (.t 15) (.v (.int .i64 1))), []⟩,
 ⟨some 5, none, .e (.call 103 [(.t 4)]), [⟨none, .ld none (.t 6), 7⟩, ⟨none, .ld none (.t 10), 11⟩, ⟨none, .ld none (.t 14), 15⟩]⟩,
 ⟨some 8, none, .e (.call 104 [(.t 7)]), [⟨none, .ld none (.t 10), 11⟩, ⟨none, .ld none (.t 14), 15⟩]⟩,
 ⟨some 9, none, .q (.bin .add (.t 5) (.t 8)), []⟩,
 ⟨some 12, none, .e (.call 103 [(.t 11)]), [⟨none, .ld none (.t 14), 15⟩]⟩,
 ⟨some 13, none, .q (.bin .add (.t 9) (.t 12)), []⟩,
 ⟨some 17, none, .e (.call 105 [(.t 16)]), []⟩,
 ⟨some 18, none, .q (.bin .add (.t 13) (.t 17)), []⟩,
 ⟨some 2, none, .q (.mv (.t 18)), []⟩]
def c77_2 : ACode := .seq c77_1 .ret
def c77_3 : ACode := .seq c77_0 c77_2
@[go_sem] def c77_0_wp := wp_of c77_0.eq_1
@[go_sem] def c77_1_wp := wp_of c77_1.eq_1
@[go_sem] def c77_2_wp := wp_of c77_2.eq_1
@[go_sem] def c77_3_wp := wp_of c77_3.eq_1
def c77 : AFn := ⟨19, [.t 2], c77_3⟩
theorem c77_ok : compF Tryz.prog Tryz.f77 = some c77 := by kernel_rfl
theorem a77 {args : List AV} {σ : ASt} {R : AV → ASt → Prop} (hl : args.length ≤ 19) (h : c77_3.wp Tryz.prog (RetQ [.t 2] R) (init args) σ) : ACalls Tryz.prog 77 args σ R := acalls_of Tryz.func77 c77_ok hl h
/-! 78: (tabular/addr.Area).Text -/
def c78_0 : ACode := .ops [
 ⟨some 1, none, .e (.box (.t 0)), []⟩,
 ⟨some 2, none, .q (.mv (.v (.str []))), []⟩]
def c78_1 : ACode := .ops [
 ⟨some 3, none, .q (.fa 0 (.t 1)), []⟩,
 ⟨some 4, none, .q (.ld (some 4) (.t 3)), []⟩,
 ⟨some 7, none, .q (.fa 4 (.t 1)), []⟩,
 ⟨some 8, none, .q (.ld (some 4) (.t 7)), []⟩,
 ⟨some 5, none, .e (.call 77 [(.t 4)]), [⟨none, .ld (some 4) (.t 7), 8⟩]⟩,
 ⟨some 6, none, .q (.bin .add (.t 5) (.v (.str [58]))), []⟩,
 ⟨some 9, none, .e (.call 77 [(.t 8)]), []⟩,
 ⟨some 10, none, .q (.bin .add (.t 6) (.t 9)), []⟩,
 ⟨some 2, none, .q (.mv (.t 10)), []⟩]
def c78_2 : ACode := .seq c78_1 .ret
def c78_3 : ACode := .seq c78_0 c78_2
@[go_sem] def c78_0_wp := wp_of c78_0.eq_1
@[go_sem] def c78_1_wp := wp_of c78_1.eq_1
@[go_sem] def c78_2_wp := wp_of c78_2.eq_1
@[go_sem] def c78_3_wp := wp_of c78_3.eq_1
def c78 : AFn := ⟨11, [.t 2], c78_3⟩
theorem c78_ok : compF Tryz.prog Tryz.f78 = some c78 := by kernel_rfl
theorem a78 {args : List AV} {σ : ASt} {R : AV → ASt → Prop} (hl : args.length ≤ 11) (h : c78_3.wp Tryz.prog (RetQ [.t 2] R) (init args) σ) : ACalls Tryz.prog 78 args σ R := acalls_of Tryz.func78 c78_ok hl h
/-! 103: tabular/addr.dollar -/
def c103_0 : ACode := .ops [
 ⟨some 2, none, .q (.mv (.v (.str []))), []⟩]
def c103_1 : ACode := .ops [
 ⟨some 3, none, .q (.mv (.t 0)), []⟩]
def c103_2 : ACode := .ops [
 ⟨some 2, none, .q (.mv (.v (.str [36]))), []⟩]
def c103_3 : ACode := .seq c103_2 .ret
def c103_4 : ACode := .cond (.t 3) c103_3 .skip
def c103_5 : ACode := .seq c103_1 c103_4
def c103_6 : ACode := .ops [
 ⟨some 2, none, .q (.mv (.v (.str []))), []⟩]
def c103_7 : ACode := .seq c103_6 .ret
def c103_8 : ACode := .seq c103_5 c103_7
def c103_9 : ACode := .seq c103_0 c103_8
@[go_sem] def c103_0_wp := wp_of c103_0.eq_1
@[go_sem] def c103_1_wp := wp_of c103_1.eq_1
@[go_sem] def c103_2_wp := wp_of c103_2.eq_1
@[go_sem] def c103_3_wp := wp_of c103_3.eq_1
@[go_sem] def c103_4_wp := wp_of c103_4.eq_1
@[go_sem] def c103_5_wp := wp_of c103_5.eq_1
@[go_sem] def c103_6_wp := wp_of c103_6.eq_1
@[go_sem] def c103_7_wp := wp_of c103_7.eq_1
@[go_sem] def c103_8_wp := wp_of c103_8.eq_1
@[go_sem] def c103_9_wp := wp_of c103_9.eq_1
def c103 : AFn := ⟨4, [.t 2], c103_9⟩
theorem c103_ok : compF Tryz.prog Tryz.f103 = some c103 := by kernel_rfl
theorem a103 {args : List AV} {σ : ASt} {R : AV → ASt → Prop} (hl : args.length ≤ 4) (h : c103_9.wp Tryz.prog (RetQ [.t 2] R) (init args) σ) : ACalls Tryz.prog 103 args σ R := acalls_of Tryz.func103 c103_ok hl h
end Go.A
namespace Go.A
open Go.Proofs
theorem dollar_ok (b : Bool) : Pure Tryz.prog 103 [.bool b] (.str (dolP b)) := by
 intro σ
 refine a103 (by simp) ?_
 cases b
 ·simp (disch := first | assumption | omega) only [go_sem, reduceCtorEq, ↓reduceIte]
  exact retC_by (Drop.refl _) (.refl _) ⟨rfl, rfl⟩
 ·simp (disch := first | assumption | omega) only [go_sem, reduceCtorEq, ↓reduceIte]
  exact retC_by (Drop.refl _) (.refl _) ⟨rfl, rfl⟩
theorem text_ok {σ : ASt} (ht : Tab σ) {r : Ref} (hg : r.good = true) : ACalls Tryz.prog 77 [refAV r] σ fun v σ' => v = .str (textP r) ∧ σ' = σ := by
 have hg' := hg
 simp only [Ref.good, decide_eq_true_eq] at hg'
 obtain ⟨g1, g2, g3, g4⟩ := hg'
 have hi := itoa_num g1 g2
 have hl := letters_len r.col
 have hn := (num_facts g1 g2).2.2.2.1
 have hd1 : (dolP r.absCol).length ≤ 1 := by unfold dolP; split <;> simp
 have hd2 : (dolP r.absRow).length ≤ 1 := by unfold dolP; split <;> simp
 obtain ⟨l, hlq⟩ : ∃ l, textP r = l := ⟨_, rfl⟩
 rw [hlq]
 unfold textP at hlq
 refine a77 (by simp) ?_
 simp (disch := first | assumption | omega | (simp only [List.length_append, List.length_cons, List.length_nil]; omega)) only [go_sem, refAV]
 refine boxC_by rfl fun b hb => ?_
 simp (disch := first | assumption | omega | (simp only [List.length_append, List.length_cons, List.length_nil]; omega)) only [go_sem, Nat.reduceEqDiff, ↓reduceIte]
 refine (dollar_ok _).use ?_
 simp (disch := first | assumption | omega | (simp only [List.length_append, List.length_cons, List.length_nil]; omega)) only [go_sem, Nat.reduceEqDiff, ↓reduceIte]
 refine (letters_ok _).use ?_
 simp (disch := first | assumption | omega | (simp only [List.length_append, List.length_cons, List.length_nil]; omega)) only [go_sem, Nat.reduceEqDiff, ↓reduceIte]
 refine (dollar_ok _).use ?_
 simp (disch := first | assumption | omega | (simp only [List.length_append, List.length_cons, List.length_nil]; omega)) only [go_sem, Nat.reduceEqDiff, ↓reduceIte]
 refine (itoa_ok (ht.set hb) (by omega) (by omega)).mono ?_
 rintro v σ' ⟨rfl, rfl⟩
 rw [hi]
 simp (disch := first | assumption | omega | (simp only [List.length_append, List.length_cons, List.length_nil]; omega)) only [go_sem, Nat.reduceEqDiff, ↓reduceIte, hlq]
 exact retC_by (by repeat' (first | exact Drop.refl _ | with_reducible refine Drop.off ?_ (by assumption))) (.refl _) ⟨rfl, rfl⟩
theorem atext_ok {σ : ASt} (ht : Tab σ) {a b : Ref} (ha : a.good = true) (hb : b.good = true) : ACalls Tryz.prog 78 [areaAV a b] σ fun v σ' => v = .str (textP a ++ [58] ++ textP b) ∧ σ' = σ := by
 have l1 := text_len ha
 have l2 := text_len hb
 refine a78 (by simp) ?_
 simp (disch := first | assumption | omega) only [go_sem, areaAV]
 refine boxC_by rfl fun b0 hb0 => ?_
 simp (disch := first | assumption | omega) only [go_sem, Nat.reduceEqDiff, Nat.reduceAdd, Nat.reduceLeDiff, ↓reduceIte]
 refine (text_ok (ht.set hb0) ha).mono ?_
 rintro v σ' ⟨rfl, rfl⟩
 have e1 : binS .add (textP a) [58] = some (.str (textP a ++ [58])) := binS_add (by simp only [List.length_cons, List.length_nil]; omega)
 have e2 : binS .add (textP a ++ [58]) (textP b) = some (.str (textP a ++ [58] ++ textP b)) := binS_add (by simp only [List.length_append, List.length_cons, List.length_nil]; omega)
 simp (disch := first | assumption | omega) only [go_sem, Nat.reduceEqDiff, Nat.reduceAdd, Nat.reduceLeDiff, ↓reduceIte, e1]
 refine (text_ok (ht.set hb0) hb).mono ?_
 rintro v σ' ⟨rfl, rfl⟩
 simp (disch := first | assumption | omega) only [go_sem, Nat.reduceEqDiff, ↓reduceIte, e2]
 exact retC_by (by repeat' (first | exact Drop.refl _ | with_reducible refine Drop.off ?_ (by assumption))) (.refl _) ⟨rfl, rfl⟩
end Go.A
namespace Go.A
open Go.Proofs Go.Shelf Go.RowKit Go.Sort
set_option maxHeartbeats 4000000 in
theorem fmtU_small (u : Nat) (hu : u < 100) (w : World) : Calls Tryz.prog 118 #[.int .u64 u, .int .i64 10] w fun e w' => e = .returned (.string ⟨(Lib.decDigits u).toArray⟩) ∧ Ext w w' := by
 have iu : (u : Int) < 100 := by omega
 go_enter Tryz.func118, Tryz.ntmps118
 go_wp2_with (go_at_call 133; refine (Tryz.internal_strconv_small u hu _).mono ?_; rintro e w' ⟨rfl, rfl⟩)
 go_ret
 exact ⟨rfl, Ext.refl _⟩
set_option maxHeartbeats 12800000 in
theorem fmtU_big (u : Nat) (hu : 100 ≤ u) (hu64 : u < 18446744073709551616) (w : World) (htab : Lib.TabIs Tryz.prog w "internal/strconv.uint64pow10" .u64 Lib.pow10Tab) :
  Calls Tryz.prog 118 #[.int .u64 u, .int .i64 10] w fun e w' => e = .returned (.string ⟨(Lib.decDigits u).toArray⟩) ∧ Ext w w' := by
 have hu1 : 1 ≤ u := by omega
 have hnd20 : Lib.nDigits u ≤ 20 := by have := Lib.numDigits_eq u hu1 hu64; split at this <;> omega
 have hal : Tryz.prog.arrayLen 178 = 24 := by kernel_rfl
 have hsl : ∀ W, (Instr.sliceAt 178 (.pointer (some ⟨w.heap.size, 0, none⟩)) none (some (.int .i64 (Lib.nDigits u : Int))) none).run Tryz.prog W = .ok (.slice (some ⟨w.heap.size, 0, none⟩) (Lib.nDigits u) 24) W := fun W => by
  rw [run_sliceAt_array_h W 178 ⟨w.heap.size, 0, none⟩ (by kernel_rfl) .i64 (Lib.nDigits u : Int) (by omega) (by rw [hal]; omega)]
  rw [hal]
  rfl
 have hH0 := Lib.holds_zero0 w 178 (Lib.nDigits u) (by omega)
 have hfmt := Tryz.internal_strconv_formatBase10 w.heap.size 0 24 u (Array.replicate (Lib.nDigits u) 0) (w.alloc (.cells Lib.zeros24 178)) hH0 (by rw [Array.size_replicate]; exact Lib.lt_pow_nDigits u) hu64 (by rw [Array.size_replicate]; omega)
 rw [Array.size_replicate] at hfmt
 have HH0 := Lib.hid hH0
 have iu : (100 : Int) ≤ (u : Int) := by omega
 clear hH0 hal
 go_enter Tryz.func118, Tryz.ntmps118
 go_wp2_with (first
  | (go_at_call 134; refine (Tryz.internal_strconv_numDigits u hu1 hu64 _ (Lib.tabIs_alloc htab _)).mono ?_; rintro e w' ⟨rfl, rfl⟩))
 go_at_call 135
 refine hfmt.mono ?_
 rintro e w' ⟨rfl, k, v', dk, rfl, hF⟩
 have hcv : (convert 104 9 (.slice (some ⟨w.heap.size, 0, none⟩) (Lib.nDigits u) 24)).run Tryz.prog ((putRow (fun (b : UInt8) => Value.int .u8 (b.toNat : Int)) (w.alloc (.cells Lib.zeros24 178)) w.heap.size 0 dk).drewN k) = .ok (.string ⟨(Lib.decDigits u).toArray⟩) ((putRow (fun (b : UInt8) => Value.int .u8 (b.toNat : Int)) (w.alloc (.cells Lib.zeros24 178)) w.heap.size 0 dk).drewN k) := by
  have h := run_convert_bytes_back (P := Tryz.prog) ((putRow (fun (b : UInt8) => Value.int .u8 (b.toNat : Int)) (w.alloc (.cells Lib.zeros24 178)) w.heap.size 0 dk).drewN k) 104 9 5 ⟨w.heap.size, 0, none⟩ 24 (Lib.decDigits u) Tryz.underlying104 Tryz.underlying5 Tryz.underlying9 (fun j hj => by
   rw [Lib.row_is_numeral hF j hj, Lib.add_plain, World.cell?_drewN]
   exact cell?_putRow (fun (b : UInt8) => Value.int .u8 (b.toNat : Int)) _ w.heap.size 0 _ dk HH0.out (by rw [hF.size, Array.size_replicate]) j (by rw [hF.size]; rw [Lib.decDigits_length] at hj; exact hj))
  rw [Lib.decDigits_length] at h
  exact h
 go_wp2
 go_ret
 obtain ⟨os, eo⟩ := Lib.fin_at w (.cells Lib.zeros24 178) dk k 0
 refine ⟨rfl, ?_⟩
 rw [eo]
 exact ext_grow w k os
theorem ifmt_ok {σ : ASt} (h : Tab σ) {u : Nat} (hu : u < 18446744073709551616) : ACalls Tryz.prog 118 [.int .u64 u, .int .i64 10] σ fun v σ' => v = .str (Lib.decDigits u) ∧ σ' = σ := by
 refine ACalls.of_ext (u := .string ⟨(Lib.decDigits u).toArray⟩) (fun w vs hs ha => ?_) fun w => .str _
 cases ha with
 | cons h1 h2 =>
 cases h2 with
 | cons h2 h3 =>
 cases h1; cases h2; cases h3
 by_cases hs2 : u < 100
 ·exact fmtU_small u hs2 w
 ·exact fmtU_big u (by omega) hu w (tabIs_of hs (by kernel_rfl) h)
theorem fmt_ok {σ : ASt} (h : Tab σ) {u : Nat} (hu : u < 18446744073709551616) : ACalls Tryz.prog 99 [.int .u64 u, .int .i64 10] σ fun v σ' => v = .str (Lib.decDigits u) ∧ σ' = σ := by
 refine a99 (by simp) ?_
 simp (disch := first | assumption | omega) only [go_sem, reduceCtorEq, Nat.reduceEqDiff, ↓reduceIte]
 refine (ifmt_ok h hu).mono ?_
 rintro v σ' ⟨rfl, rfl⟩
 simp (disch := first | assumption | omega) only [go_sem, ↓reduceIte]
 exact retC_by (Drop.refl _) (.refl _) ⟨rfl, rfl⟩
theorem cutPrefix_ok (s p : List UInt8) : Pure Tryz.prog 129 [.str s, .str p] (.tuple [.str (Lib.trimPrefix s p), .bool (Lib.hasPrefix s p)]) := by
 intro σ
 refine ACalls.of_ext (u := .tuple #[.string ⟨(Lib.trimPrefix s p).toArray⟩, .bool (Lib.hasPrefix s p)]) (fun w vs hs ha => ?_) fun w => .tuple (.cons (.str _) (.cons (.bool _) .nil))
 cases ha with
 | cons h1 h2 =>
 cases h2 with
 | cons h2 h3 =>
 cases h1; cases h2; cases h3
 exact (Tryz.strings_CutPrefix ⟨⟨s⟩⟩ ⟨⟨p⟩⟩ w).mono fun e w' ⟨he, hw⟩ => ⟨he, Ext.of_eq hw⟩
theorem trimRight_ok (s : List UInt8) (c : UInt8) (hc : c.toNat < 128) (hsl : s.length ≤ 9223372036854775807) : Pure Tryz.prog 100 [.str s, .str [c]] (.str (Lib.trimRightB s c)) := by
 intro σ
 refine ACalls.of_ext (u := .string ⟨(Lib.trimRightB s c).toArray⟩) (fun w vs hs ha => ?_) fun w => .str _
 cases ha with
 | cons h1 h2 =>
 cases h2 with
 | cons h2 h3 =>
 cases h1; cases h2; cases h3
 exact (Tryz.strings_TrimRight_one ⟨⟨s⟩⟩ c hc w (by simpa [ByteArray.size] using hsl)).mono fun e w' ⟨he, hw⟩ => ⟨he, Ext.of_eq hw⟩
theorem sindex_ok (s : List UInt8) (c : UInt8) : Pure Tryz.prog 128 [.str s, .str [c]] (.int .i64 (Lib.indexByte s c)) := by
 intro σ
 refine ACalls.of_ext (u := .int .i64 (Lib.indexByte s c)) (fun w vs hs ha => ?_) fun w => .int _ _
 cases ha with
 | cons h1 h2 =>
 cases h2 with
 | cons h2 h3 =>
 cases h1; cases h2; cases h3
 exact (Tryz.stringslite_Index_one ⟨⟨s⟩⟩ c w).mono fun e w' ⟨he, hw⟩ => ⟨he, Ext.of_eq hw⟩
theorem cutc_ok (l : List UInt8) (c : UInt8) (hl : l.length ≤ 1000000000) : Pure Tryz.prog 107 [.str l, .str [c]] (.tuple [.str (Lib.cut l [c]).1, .str (Lib.cut l [c]).2.1, .bool (Lib.cut l [c]).2.2]) := by
 have h1 : Pure Tryz.prog 125 [.str l, .str [c]] (.tuple [.str (Lib.cut l [c]).1, .str (Lib.cut l [c]).2.1, .bool (Lib.cut l [c]).2.2]) := by
  intro σ
  have hi := sindex_ok l c
  have hr := Lib.index_room l [c]
  unfold Lib.cut
  rw [Lib.index_one] at hr ⊢
  have hg := Lib.indexByte_ge l c
  refine a125 (by simp) ?_
  by_cases h0 : 0 ≤ Lib.indexByte l c
  ·obtain ⟨i, e⟩ : ∃ i : Nat, Lib.indexByte l c = i := ⟨(Lib.indexByte l c).toNat, by omega⟩
   rw [e] at hi hr ⊢
   have hr := hr (by omega)
   simp only [List.length_cons, List.length_nil] at hr
   rw [if_pos (by omega)]
   have e1 : (0 : Int) ≤ i := by omega
   have e2 : ((i : Int) + 1).toNat = i + 1 := by omega
   have e3 : (i : Int) ≤ l.length := by omega
   have e4 : (i : Int) + 1 ≤ l.length := by omega
   simp (disch := first | assumption | omega) only [go_sem, reduceCtorEq, Nat.reduceEqDiff, ↓reduceIte]
   refine hi.use ?_
   simp (disch := first | assumption | omega) only [go_sem, reduceCtorEq, Nat.reduceEqDiff, ↓reduceIte, e1, e2, List.take_length]
   exact retC_by (by repeat' (first | exact Drop.refl _ | with_reducible refine Drop.off ?_ (by assumption))) (.refl _) ⟨rfl, rfl⟩
  ·have e : Lib.indexByte l c = -1 := by omega
   rw [e] at hi ⊢
   rw [if_neg (by omega)]
   simp (disch := first | assumption | omega) only [go_sem, reduceCtorEq, Nat.reduceEqDiff, ↓reduceIte]
   refine hi.use ?_
   simp (disch := first | assumption | omega) only [go_sem, reduceCtorEq, Nat.reduceEqDiff, Int.reduceLE, ↓reduceIte, Int.reduceNeg]
   exact retC_by (by repeat' (first | exact Drop.refl _ | with_reducible refine Drop.off ?_ (by assumption))) (.refl _) ⟨rfl, rfl⟩
 intro σ
 refine a107 (by simp) ?_
 simp (disch := first | assumption | omega) only [go_sem, reduceCtorEq, Nat.reduceEqDiff, ↓reduceIte]
 refine h1.use ?_
 simp (disch := first | assumption | omega) only [go_sem, Nat.reduceEqDiff, ↓reduceIte]
 exact retC_by (by repeat' (first | exact Drop.refl _ | with_reducible refine Drop.off ?_ (by assumption))) (.refl _) ⟨rfl, rfl⟩
end Go.A
namespace Go.A
open Go.Proofs
def resAV (o : Option Int) : AV := .tuple [.int .i64 (o.getD 0), .bool o.isSome]
theorem size_ok (a : Int) (h0 : -9223372036854775808 ≤ a) (h1 : a ≤ 9223372036854775807) : Pure Tryz.prog 98 [.int .i64 a] (.int .u64 (a.natAbs : Nat)) := by
 intro σ
 refine a98 (by simp) ?_
 by_cases h : a < 0
 ·have e : IntKind.u64.wrap (IntKind.i64.wrap (0 - a)) = ((a.natAbs : Nat) : Int) := by rw [IntKind.wrap_u64, IntKind.wrap_i64]; omega
  simp (disch := first | assumption | omega) only [go_sem, reduceCtorEq, ↓reduceIte, h, e]
  exact retC_by (by repeat' (first | exact Drop.refl _ | with_reducible refine Drop.off ?_ (by assumption))) (.refl _) ⟨rfl, rfl⟩
 ·have e : IntKind.u64.wrap a = ((a.natAbs : Nat) : Int) := by rw [IntKind.wrap_u64]; omega
  simp (disch := first | assumption | omega) only [go_sem, reduceCtorEq, ↓reduceIte, h, e]
  exact retC_by (by repeat' (first | exact Drop.refl _ | with_reducible refine Drop.off ?_ (by assumption))) (.refl _) ⟨rfl, rfl⟩
theorem made_ok (m : Bool) (lo : Nat) (h : lo < 18446744073709551616) : Pure Tryz.prog 130 [.bool m, .int .u64 0, .int .u64 lo] (resAV (madeP m lo)) := by
 intro σ
 refine a130 (by simp) ?_
 unfold madeP
 by_cases hm : lo ≤ 999999999999999999
 ·have g1 : ¬ (999999999999999999 : Int) < lo := by omega
  have e1 : IntKind.i64.wrap (lo : Int) = lo := by rw [IntKind.wrap_i64]; omega
  have e2 : IntKind.i64.wrap (-(lo : Int)) = -lo := by rw [IntKind.wrap_i64]; omega
  rw [if_pos hm]
  cases m
  ·simp (disch := first | assumption | omega) only [go_sem, reduceCtorEq, Nat.reduceEqDiff, Int.reduceLT, ↓reduceIte, g1, e1]
   exact retC_by (by repeat' (first | exact Drop.refl _ | with_reducible refine Drop.off ?_ (by assumption))) (.refl _) ⟨rfl, rfl⟩
  ·simp (disch := first | assumption | omega) only [go_sem, reduceCtorEq, Nat.reduceEqDiff, Int.reduceLT, ↓reduceIte, g1, e1]
   refine retC_by (by repeat' (first | exact Drop.refl _ | with_reducible refine Drop.off ?_ (by assumption))) (.refl _) ⟨?_, rfl⟩
   rw [show (0 : Int) - lo = -lo by omega]
   rfl
 ·have g1 : (999999999999999999 : Int) < lo := by omega
  rw [if_neg hm]
  simp (disch := first | assumption | omega) only [go_sem, Nat.reduceEqDiff, Int.reduceLT, ↓reduceIte, g1]
  exact retC_by (by repeat' (first | exact Drop.refl _ | with_reducible refine Drop.off ?_ (by assumption))) (.refl _) ⟨rfl, rfl⟩
end Go.A
namespace Go.A
open Go.Proofs
theorem dtext_ok {σ : ASt} (h : Tab σ) {a : Int} (ha : a.natAbs ≤ 999999999999999999) : ACalls Tryz.prog 73 [.int .i64 a] σ fun v σ' => v = .str (textD a) ∧ σ' = σ := by
 have hS := size_ok a (by omega) (by omega)
 obtain ⟨T, hT⟩ : ∃ T, textD a = T := ⟨_, rfl⟩
 rw [hT]
 unfold textD placesP at hT
 obtain ⟨s, hs⟩ : ∃ s, a.natAbs = s := ⟨_, rfl⟩
 rw [hs] at hS hT ha
 have hd : (s : Int).tdiv 10000 = ((s / 10000 : Nat) : Int) := by rw [Int.tdiv_eq_ediv_of_nonneg (by omega)]; rfl
 have hm : (s : Int).tmod 10000 = ((s % 10000 : Nat) : Int) := by rw [Int.tmod_eq_emod_of_nonneg (by omega)]; rfl
 have hp : s % 10000 < 10000 := Nat.mod_lt _ (by omega)
 have hw : s / 10000 ≤ 99999999999999 := by omega
 obtain ⟨p, hpp⟩ : ∃ p, s % 10000 = p := ⟨_, rfl⟩
 obtain ⟨q, hqq⟩ : ∃ q, s / 10000 = q := ⟨_, rfl⟩
 rw [hpp] at hp hm hT
 rw [hqq] at hd hw hT
 have hqw : IntKind.u64.wrap (q : Int) = q := by rw [IntKind.wrap_u64]; omega
 refine a73 (by simp) ?_
 simp (disch := first | assumption | omega) only [go_sem, reduceCtorEq, ↓reduceIte]
 refine hS.use ?_
 simp (disch := first | assumption | omega) only [go_sem, ↓reduceIte, hd, hqw]
 refine (fmt_ok h (u := q) (by omega)).mono ?_
 rintro v σ' ⟨rfl, rfl⟩
 simp (disch := first | assumption | omega) only [go_sem, Nat.reduceEqDiff, ↓reduceIte, hm]
 have hql : (Lib.decDigits q).length ≤ 15 := dd_len 14 q (by omega)
 by_cases h0 : p = 0
 ·subst h0
  rw [if_pos rfl, List.append_nil] at hT
  have g0 : ¬ (0 : Int) < ((0 : Nat) : Int) := by omega
  simp (disch := first | assumption | omega) only [go_sem, reduceCtorEq, Int.reduceLT, ↓reduceIte]
  by_cases hn : a < 0
  ·have e1 : binS .add [45] (Lib.decDigits q) = some (.str T) := by rw [binS_add (by simp; omega), ← hT, if_pos hn]
   simp (disch := first | assumption | omega) only [go_sem, Nat.reduceEqDiff, ↓reduceIte, hn, e1]
   exact retC_by (by repeat' (first | exact Drop.refl _ | with_reducible refine Drop.off ?_ (by assumption))) (.refl _) ⟨rfl, rfl⟩
  ·rw [if_neg hn, List.nil_append] at hT
   subst hT
   simp (disch := first | assumption | omega) only [go_sem, Nat.reduceEqDiff, ↓reduceIte, hn]
   exact retC_by (by repeat' (first | exact Drop.refl _ | with_reducible refine Drop.off ?_ (by assumption))) (.refl _) ⟨rfl, rfl⟩
 ·rw [if_neg h0] at hT
  have g0 : (0 : Int) < (p : Int) := by omega
  have hDl : (Lib.decDigits (10000 + p)).length ≤ 5 := dd_len 4 _ (by omega)
  have hD1 : 1 ≤ (Lib.decDigits (10000 + p)).length := List.length_pos_iff.2 (dd_len_pos _)
  have hF := fmt_ok h (u := 10000 + p) (by omega)
  rw [show (((10000 + p : Nat) : Int)) = (10000 : Int) + p by omega] at hF
  have htl : (Lib.decDigits (10000 + p)).tail.length ≤ 4 := by rw [List.length_tail]; omega
  rw [← List.drop_one] at hT htl
  generalize Lib.decDigits (10000 + p) = D at *
  have hR := trimRight_ok (D.drop 1) 48 (by decide) (by omega)
  have hRl : (Lib.trimRightB (D.drop 1) 48).length ≤ 4 := by
   have := congrArg List.length (trim_back 48 (D.drop 1))
   rw [List.length_append] at this
   omega
  generalize Lib.trimRightB (D.drop 1) 48 = X at *
  have e1 : binS .add [46] X = some (.str (46 :: X)) := binS_add (by simp; omega)
  have e2 : binS .add (Lib.decDigits q) (46 :: X) = some (.str (Lib.decDigits q ++ 46 :: X)) := binS_add (by simp; omega)
  have g5 : (1 : Int) ≤ D.length := by omega
  simp (disch := first | assumption | omega) only [go_sem, Nat.reduceEqDiff, ↓reduceIte, g0]
  refine hF.mono ?_
  rintro v σ' ⟨rfl, rfl⟩
  simp (disch := first | assumption | omega) only [go_sem, ↓reduceIte, Int.reduceToNat, List.take_length]
  refine hR.use ?_
  simp (disch := first | assumption | omega) only [go_sem, reduceCtorEq, Nat.reduceEqDiff, ↓reduceIte, e1, e2]
  by_cases hn : a < 0
  ·have e3 : binS .add [45] (Lib.decDigits q ++ 46 :: X) = some (.str T) := by rw [binS_add (by simp; omega), ← hT, if_pos hn]
   simp (disch := first | assumption | omega) only [go_sem, Nat.reduceEqDiff, ↓reduceIte, hn, e3]
   exact retC_by (by repeat' (first | exact Drop.refl _ | with_reducible refine Drop.off ?_ (by assumption))) (.refl _) ⟨rfl, rfl⟩
  ·rw [if_neg hn, List.nil_append] at hT
   subst hT
   simp (disch := first | assumption | omega) only [go_sem, Nat.reduceEqDiff, ↓reduceIte, hn]
   exact retC_by (by repeat' (first | exact Drop.refl _ | with_reducible refine Drop.off ?_ (by assumption))) (.refl _) ⟨rfl, rfl⟩
end Go.A
namespace Go.A
open Go.Proofs
theorem prefix_minus (s : List UInt8) : Lib.hasPrefix s [45] = decide (s.head? = some 45) := by
 unfold Lib.hasPrefix
 cases s with
 | nil => rfl
 | cons c l =>
   simp only [List.isPrefixOf, Bool.and_true, List.head?_cons, Option.some.injEq]
   by_cases h : c = 45
   ·subst h; rfl
   ·have h1 : (45 == c) = false := by simpa using fun e => h e.symm
    rw [h1]; simp [h]
theorem trim_minus (s : List UInt8) : Lib.trimPrefix s [45] = if s.head? = some 45 then s.drop 1 else s := by
 unfold Lib.trimPrefix
 rw [prefix_minus]
 by_cases h : s.head? = some 45
 ·simp [h]
 ·simp [h]
theorem cut_len (l : List UInt8) (c : UInt8) : (Lib.cut l [c]).1.length + (Lib.cut l [c]).2.1.length ≤ l.length := by
 unfold Lib.cut
 split
 ·have := Lib.index_room l [c] (by assumption)
  simp at this ⊢
  omega
 ·simp
set_option maxHeartbeats 1000000 in
theorem dparse_ok (s : List UInt8) (hs : s.length ≤ 100000) : Pure Tryz.prog 113 [.str s] (resAV (parseD s)) := by
 intro σ
 have hP := cutPrefix_ok s [45]
 rw [prefix_minus, trim_minus] at hP
 obtain ⟨R, hR⟩ : ∃ R, parseD s = R := ⟨_, rfl⟩
 rw [hR]
 unfold parseD at hR
 dsimp only at hR
 generalize hm : decide (s.head? = some 45) = minus at *
 have hbl : (if s.head? = some 45 then s.drop 1 else s).length ≤ 100000 := by
  split
  ·rw [List.length_drop]; omega
  ·exact hs
 generalize (if s.head? = some 45 then s.drop 1 else s) = body at *
 have hC := cutc_ok body 46 (by omega)
 have hCl := cut_len body 46
 have hnf : (Lib.cut body [46]).2.2 = false → (Lib.cut body [46]).2.1 = [] := by
  unfold Lib.cut
  split <;> simp
 generalize (Lib.cut body [46]).1 = whole at *
 generalize (Lib.cut body [46]).2.1 = part at *
 generalize (Lib.cut body [46]).2.2 = dot at *
 unfold parseQ at hR
 obtain ⟨F, hF⟩ : ∃ F, F = ACode.wp Tryz.prog c113_32 := ⟨_, rfl⟩
 have fin : ∀ (a : AFr), part.length ≤ 4 → (accP 0 (whole ++ part ++ List.replicate (4 - part.length) 48)).bind (madeP minus) = R → (a 5 = .bool minus ∧ a 6 = .str whole ∧ a 7 = .str part) → F (RetQ [.t 2, .t 3] fun v σ' => v = resAV R ∧ σ' = σ) a σ := by
  intro a hp4 hacc hf
  rw [hF]
  have hl2 : whole.length + part.length ≤ 9223372036854775807 := by omega
  have g4 : (part.length : Int) ≤ 4 := by omega
  have e0 : ([48, 48, 48, 48] : List UInt8).drop part.length = List.replicate (4 - part.length) 48 := by
   have : part.length = 0 ∨ part.length = 1 ∨ part.length = 2 ∨ part.length = 3 ∨ part.length = 4 := by omega
   rcases this with h | h | h | h | h <;> rw [h] <;> rfl
  have e1 : binS .add (whole ++ part) (List.replicate (4 - part.length) 48) = some (.str (whole ++ part ++ List.replicate (4 - part.length) 48)) := binS_add (by simp; omega)
  obtain ⟨M, hM⟩ : ∃ M, whole ++ part ++ List.replicate (4 - part.length) 48 = M := ⟨_, rfl⟩
  rw [hM] at hacc e1
  have hMl : M.length ≤ 1000000 := by rw [← hM]; simp; omega
  simp (disch := first | assumption | omega | (simp only [List.length_append, List.length_cons, List.length_nil]; omega)) only [go_sem, Nat.reduceEqDiff, Nat.reduceAdd, ↓reduceIte, Int.reduceToNat, hf, e0, e1]
  refine s2b_shr ?_
  simp (disch := first | assumption | omega | (simp only [List.length_append, List.length_cons, List.length_nil]; omega)) only [go_sem, ↓reduceIte]
  refine wp_loop_on (fun (i : Nat) a σ' => i ≤ M.length ∧ (∃ n : Nat, n ≤ 999999999999999999 ∧ accP 0 M = accP n (M.drop i) ∧ a 9 = .int .u64 n) ∧ (a 5 = .bool minus ∧ a 44 = .sl .shr (bytesAV M) ∧ a 45 = .int .i64 M.length ∧ a 46 = .int .i64 i) ∧ σ' = σ) (fun i => M.length - i) 0 ⟨Nat.zero_le _, ⟨0, by omega, rfl, ?_⟩, ?_, rfl⟩ ?_
  ·simp (disch := first | assumption | omega | (simp only [List.length_append, List.length_cons, List.length_nil]; omega)) only [go_sem, Nat.reduceEqDiff, ↓reduceIte]
  ·simp (disch := first | assumption | omega | (simp only [List.length_append, List.length_cons, List.length_nil]; omega)) only [go_sem, Nat.reduceEqDiff, ↓reduceIte, hf]
  rintro i a σ1 ⟨hi, ⟨n, hn, hac, hf9⟩, hf, rfl⟩
  rw [hac] at hacc
  by_cases hlt : i < M.length
  ·have hidx : M[i]? = some (M[i]'hlt) := List.getElem?_eq_getElem hlt
   rw [List.drop_eq_getElem_cons hlt] at hac hacc
   obtain ⟨c, hc⟩ : ∃ c, M[i]'hlt = c := ⟨_, rfl⟩
   rw [hc] at hidx hac hacc
   have hlt' : (i : Int) < M.length := by omega
   have hcb : c.toNat < 256 := c.toNat_lt
   rw [accP] at hac hacc
   by_cases h1 : c.toNat < 48
   ·have h1' : (c.toNat : Int) < 48 := by omega
    rw [if_pos (by omega)] at hacc
    subst hacc
    simp (disch := first | assumption | omega | (simp only [List.length_append, List.length_cons, List.length_nil]; omega)) only [go_sem, Nat.reduceEqDiff, ↓reduceIte, hf, hlt', hidx, h1']
    exact retC_by (by repeat' (first | exact Drop.refl _ | with_reducible refine Drop.off ?_ (by assumption))) (.refl _) ⟨rfl, rfl⟩
   have h1' : ¬ (c.toNat : Int) < 48 := by omega
   by_cases h2 : 57 < c.toNat
   ·have h2' : (57 : Int) < c.toNat := by omega
    rw [if_pos (by omega)] at hacc
    subst hacc
    simp (disch := first | assumption | omega | (simp only [List.length_append, List.length_cons, List.length_nil]; omega)) only [go_sem, Nat.reduceEqDiff, ↓reduceIte, hf, hlt', hidx, h1', h2']
    exact retC_by (by repeat' (first | exact Drop.refl _ | with_reducible refine Drop.off ?_ (by assumption))) (.refl _) ⟨rfl, rfl⟩
   have h2' : ¬ (57 : Int) < c.toNat := by omega
   by_cases h3 : 99999999999999999 < n
   ·have h3' : (99999999999999999 : Int) < n := by omega
    rw [if_pos (by omega)] at hacc
    subst hacc
    simp (disch := first | assumption | omega | (simp only [List.length_append, List.length_cons, List.length_nil]; omega)) only [go_sem, Nat.reduceEqDiff, ↓reduceIte, hf, hf9, hlt', hidx, h1', h2', h3']
    exact retC_by (by repeat' (first | exact Drop.refl _ | with_reducible refine Drop.off ?_ (by assumption))) (.refl _) ⟨rfl, rfl⟩
   have h3' : ¬ (99999999999999999 : Int) < n := by omega
   rw [if_neg (by omega)] at hac hacc
   obtain ⟨n2, hn2⟩ : ∃ n2 : Nat, 10 * n + (c.toNat - 48) = n2 := ⟨_, rfl⟩
   rw [hn2] at hac hacc
   have e2 : 10 * (n : Int) + ((c.toNat : Int) - 48) = n2 := by omega
   simp (disch := first | assumption | omega | (simp only [List.length_append, List.length_cons, List.length_nil]; omega)) only [go_sem, Nat.reduceEqDiff, ↓reduceIte, hf, hf9, hlt', hidx, h1', h2', h3', e2]
   exact ⟨i + 1, by omega, by omega, ⟨n2, by omega, hac, rfl⟩, rfl⟩
  ·have hlt' : ¬ (i : Int) < M.length := by omega
   rw [List.drop_eq_nil_of_le (by omega), accP, Option.bind_some] at hacc
   subst hacc
   have hMd := made_ok minus n (by omega)
   simp (disch := first | assumption | omega | (simp only [List.length_append, List.length_cons, List.length_nil]; omega)) only [go_sem, Nat.reduceEqDiff, ↓reduceIte, hf, hf9, hlt']
   refine hMd.use ?_
   simp only [resAV]
   simp (disch := first | assumption | omega | (simp only [List.length_append, List.length_cons, List.length_nil]; omega)) only [go_sem, Nat.reduceEqDiff, ↓reduceIte]
   exact retC_by (by repeat' (first | exact Drop.refl _ | with_reducible refine Drop.off ?_ (by assumption))) (.refl _) ⟨rfl, rfl⟩
 refine a113 (by simp) ?_
 simp (disch := first | assumption | omega | (simp only [List.length_append, List.length_cons, List.length_nil]; omega)) only [go_sem, reduceCtorEq, ↓reduceIte]
 refine hP.use ?_
 simp (disch := first | assumption | omega | (simp only [List.length_append, List.length_cons, List.length_nil]; omega)) only [go_sem, Nat.reduceEqDiff, ↓reduceIte]
 refine hC.use ?_
 by_cases hw : whole = []
 ·subst hw
  rw [if_pos (.inl rfl)] at hR
  subst hR
  simp (disch := first | assumption | omega | (simp only [List.length_append, List.length_cons, List.length_nil]; omega)) only [go_sem, Nat.reduceEqDiff, ↓reduceIte, ←hF]
  exact retC_by (by repeat' (first | exact Drop.refl _ | with_reducible refine Drop.off ?_ (by assumption))) (.refl _) ⟨rfl, rfl⟩
 cases dot with
 | false =>
   have hp := hnf rfl
   subst hp
   rw [if_neg (by rintro (h | ⟨h, _⟩) <;> contradiction)] at hR
   simp (disch := first | assumption | omega | (simp only [List.length_append, List.length_cons, List.length_nil]; omega)) only [go_sem, Nat.reduceEqDiff, ↓reduceIte, hw, ←hF]
   refine fin _ (by simp) hR ?_
   simp (disch := first | assumption | omega | (simp only [List.length_append, List.length_cons, List.length_nil]; omega)) only [go_sem, Nat.reduceEqDiff, ↓reduceIte]
 | true =>
   by_cases hp : part = []
   ·subst hp
    rw [if_pos (.inr ⟨rfl, .inl rfl⟩)] at hR
    subst hR
    simp (disch := first | assumption | omega | (simp only [List.length_append, List.length_cons, List.length_nil]; omega)) only [go_sem, Nat.reduceEqDiff, ↓reduceIte, hw, ←hF]
    exact retC_by (by repeat' (first | exact Drop.refl _ | with_reducible refine Drop.off ?_ (by assumption))) (.refl _) ⟨rfl, rfl⟩
   by_cases h4 : 4 < part.length
   ·have h4' : (4 : Int) < part.length := by omega
    rw [if_pos (.inr ⟨rfl, .inr h4⟩)] at hR
    subst hR
    simp (disch := first | assumption | omega | (simp only [List.length_append, List.length_cons, List.length_nil]; omega)) only [go_sem, Nat.reduceEqDiff, ↓reduceIte, hw, hp, h4', ←hF]
    exact retC_by (by repeat' (first | exact Drop.refl _ | with_reducible refine Drop.off ?_ (by assumption))) (.refl _) ⟨rfl, rfl⟩
   ·have h4' : ¬ (4 : Int) < part.length := by omega
    rw [if_neg (by rintro (h | ⟨_, h | h⟩) <;> contradiction)] at hR
    simp (disch := first | assumption | omega | (simp only [List.length_append, List.length_cons, List.length_nil]; omega)) only [go_sem, Nat.reduceEqDiff, ↓reduceIte, hw, hp, h4', ←hF]
    refine fin _ (by omega) hR ?_
    simp (disch := first | assumption | omega | (simp only [List.length_append, List.length_cons, List.length_nil]; omega)) only [go_sem, Nat.reduceEqDiff, ↓reduceIte]
theorem whole_ok {a : Int} (ha : a.natAbs ≤ 999999999999999999) : Pure Tryz.prog 102 [.int .i64 a] (.int .i64 (a.tdiv 10000)) := by
 intro σ
 have hqb : (a.tdiv 10000).natAbs ≤ a.natAbs := by rw [Int.natAbs_tdiv]; exact Nat.div_le_self _ _
 have e : IntKind.i64.wrap (a.tdiv 10000) = a.tdiv 10000 := by rw [IntKind.wrap_i64]; omega
 refine a102 (by simp) ?_
 simp (disch := first | assumption | omega) only [go_sem, reduceCtorEq, ↓reduceIte, e]
 exact retC_by (by repeat' (first | exact Drop.refl _ | with_reducible refine Drop.off ?_ (by assumption))) (.refl _) ⟨rfl, rfl⟩
end Go.A
namespace Go.A
open Go.Proofs
/-! 62: tabular/token.word -/
def c62_0 : ACode := .ops [
 ⟨some 2, none, .q (.mv (.v (.bool false))), []⟩]
def c62_1 : ACode := .ops [
 ⟨some 3, none, .q (.mv (.t 0)), []⟩,
 ⟨some 4, none, .q (.bin .geq (.t 3) (.v (.int .u8 48))), []⟩,
 ⟨some 5, none, .q (.mv (.t 4)), []⟩,
 ⟨some 6, some (5, true), .q (.mv (.t 0)), []⟩,
 ⟨some 7, some (5, true), .q (.bin .leq (.t 6) (.v (.int .u8 57))), []⟩,
 ⟨some 8, none, .q (.pick (.t 5) (.t 7) (.v (.bool false))), []⟩,
 ⟨some 9, none, .q (.mv (.t 8)), []⟩,
 ⟨some 10, some (9, false), .q (.mv (.t 0)), []⟩,
 ⟨some 11, some (9, false), .q (.bin .geq (.t 10) (.v (.int .u8 97))), []⟩,
 ⟨some 12, some (9, false), .q (.mv (.t 11)), []⟩,
 ⟨some 13, some (12, true), .q (.mv (.t 0)), []⟩,
 ⟨some 14, some (12, true), .q (.bin .leq (.t 13) (.v (.int .u8 122))), []⟩,
 ⟨some 15, some (9, false), .q (.pick (.t 12) (.t 14) (.v (.bool false))), []⟩,
 ⟨some 16, none, .q (.pick (.t 9) (.v (.bool true)) (.t 15)), []⟩,
 ⟨some 17, none, .q (.mv (.t 16)), []⟩,
 ⟨some 18, some (17, false), .q (.mv (.t 0)), []⟩,
 ⟨some 19, some (17, false), .q (.bin .geq (.t 18) (.v (.int .u8 65))), []⟩,
 ⟨some 20, some (17, false), .q (.mv (.t 19)), []⟩,
 ⟨some 21, some (20, true), .q (.mv (.t 0)), []⟩,
 ⟨some 22, some (20, true), .q (.bin .leq (.t 21) (.v (.int .u8 90))), []⟩,
 ⟨some 23, some (17, false), .q (.pick (.t 20) (.t 22) (.v (.bool false))), []⟩,
 ⟨some 24, none, .q (.pick (.t 17) (.v (.bool true)) (.t 23)), []⟩,
 ⟨some 25, none, .q (.mv (.t 24)), []⟩,
 ⟨some 26, some (25, false), .q (.mv (.t 0)), []⟩,
 ⟨some 27, some (25, false), .q (.bin .eql (.t 26) (.v (.int .u8 95))), []⟩,
 ⟨some 28, none, .q (.pick (.t 25) (.v (.bool true)) (.t 27)), []⟩,
 ⟨some 29, none, .q (.mv (.t 28)), []⟩,
 ⟨some 30, some (29, false), .q (.mv (.t 0)), []⟩,
 ⟨some 31, some (29, false), .q (.bin .eql (.t 30) (.v (.int .u8 36))), []⟩,
 ⟨some 32, none, .q (.pick (.t 29) (.v (.bool true)) (.t 31)), []⟩,
 ⟨some 33, none, .q (.mv (.t 32)), []⟩,
 ⟨some 34, some (33, false), .q (.mv (.t 0)), []⟩,
 ⟨some 35, some (33, false), .q (.bin .eql (.t 34) (.v (.int .u8 46))), []⟩,
 ⟨some 36, none, .q (.pick (.t 33) (.v (.bool true)) (.t 35)), []⟩,
 ⟨some 2, none, .q (.mv (.t 36)), []⟩]
def c62_2 : ACode := .seq c62_1 .ret
def c62_3 : ACode := .seq c62_0 c62_2
@[go_sem] def c62_0_wp := wp_of c62_0.eq_1
@[go_sem] def c62_1_wp := wp_of c62_1.eq_1
@[go_sem] def c62_2_wp := wp_of c62_2.eq_1
@[go_sem] def c62_3_wp := wp_of c62_3.eq_1
def c62 : AFn := ⟨37, [.t 2], c62_3⟩
theorem c62_ok : compF Tryz.prog Tryz.f62 = some c62 := by kernel_rfl
theorem a62 {args : List AV} {σ : ASt} {R : AV → ASt → Prop} (hl : args.length ≤ 37) (h : c62_3.wp Tryz.prog (RetQ [.t 2] R) (init args) σ) : ACalls Tryz.prog 62 args σ R := acalls_of Tryz.func62 c62_ok hl h
/-! 85: tabular/token.isNum -/
def c85_0 : ACode := .ops [
 ⟨some 2, none, .q (.mv (.v (.bool false))), []⟩]
def c85_1 : ACode := .ops [
 ⟨some 9, none, .q (.mv (.t 0)), []⟩,
 ⟨some 10, none, .e (.call 107 [(.t 9), (.v (.str [46]))]), []⟩,
 ⟨some 8, none, .q (.mv (.t 10)), []⟩,
 ⟨some 11, none, .q (.ext 0 (.t 8)), []⟩,
 ⟨some 12, none, .q (.ext 1 (.t 8)), []⟩,
 ⟨some 13, none, .q (.ext 2 (.t 8)), []⟩,
 ⟨some 3, none, .q (.mv (.t 11)), []⟩,
 ⟨some 4, none, .q (.mv (.t 12)), []⟩,
 ⟨some 5, none, .q (.mv (.t 13)), []⟩]
def c85_2 : ACode := .ops [
 ⟨some 14, none, .q (.mv (.t 3)), []⟩,
 ⟨some 15, none, .q (.bin .eql (.t 14) (.v (.str []))), []⟩,
 ⟨some 16, none, .q (.mv (.t 15)), []⟩,
 ⟨some 17, some (16, false), .q (.mv (.t 5)), []⟩,
 ⟨some 18, some (16, false), .q (.mv (.t 17)), []⟩,
 ⟨some 19, some (18, true), .q (.mv (.t 4)), []⟩,
 ⟨some 20, some (18, true), .q (.bin .eql (.t 19) (.v (.str []))), []⟩,
 ⟨some 21, some (18, true), .q (.mv (.t 20)), []⟩,
 ⟨some 22, some (21, false), .q (.mv (.t 4)), []⟩,
 ⟨some 23, some (21, false), .q (.lenS (.t 22)), []⟩,
 ⟨some 24, some (21, false), .q (.bin .gtr (.t 23) (.v (.int .i64 4))), []⟩,
 ⟨some 25, some (18, true), .q (.pick (.t 21) (.v (.bool true)) (.t 24)), []⟩,
 ⟨some 26, some (16, false), .q (.pick (.t 18) (.t 25) (.v (.bool false))), []⟩,
 ⟨some 27, none, .q (.pick (.t 16) (.v (.bool true)) (.t 26)), []⟩]
def c85_3 : ACode := .ops [
 ⟨some 2, none, .q (.mv (.v (.bool false))), []⟩]
def c85_4 : ACode := .seq c85_3 .ret
def c85_5 : ACode := .cond (.t 27) c85_4 .skip
def c85_6 : ACode := .seq c85_2 c85_5
def c85_7 : ACode := .ops [
 ⟨some 28, none, .q (.mv (.t 3)), []⟩,
 ⟨some 29, none, .q (.mv (.t 4)), []⟩,
 ⟨some 30, none, .q (.bin .add (.t 28) (.t 29)), []⟩,
 ⟨some 31, none, .e (.s2b (.t 30)), []⟩,
 ⟨some 32, none, .q (.len (.t 31)), []⟩,
 ⟨some 33, none, .q (.mv (.v (.int .i64 0))), []⟩]
def c85_8 : ACode := .ops [
 ⟨some 34, none, .q (.bin .lss (.t 33) (.t 32)), []⟩]
def c85_9 : ACode := .cond (.t 34) .skip (.exit 0)
def c85_10 : ACode := .ops [
 ⟨some 35, none, .q (.ia 1 (.t 31) (.t 33)), []⟩,
 ⟨some 36, none, .q (.ld none (.t 35)), []⟩,
 ⟨some 7, none, .q (.mv (.t 36)), []⟩]
def c85_11 : ACode := .ops [
 ⟨some 37, none, .q (.mv (.t 7)), []⟩,
 ⟨some 38, none, .e (.call 108 [(.t 37)]), []⟩,
 ⟨some 39, none, .q (.un .not (.t 38)), []⟩]
def c85_12 : ACode := .ops [
 ⟨some 2, none, .q (.mv (.v (.bool false))), []⟩]
def c85_13 : ACode := .seq c85_12 .ret
def c85_14 : ACode := .cond (.t 39) c85_13 .skip
def c85_15 : ACode := .seq c85_11 c85_14
def c85_16 : ACode := .seq c85_10 c85_15
def c85_17 : ACode := .block 1 c85_16
def c85_18 : ACode := .ops [
 ⟨some 40, none, .q (.bin .add (.t 33) (.v (.int .i64 1))), []⟩,
 ⟨some 33, none, .q (.mv (.t 40)), []⟩]
def c85_19 : ACode := .seq c85_17 c85_18
def c85_20 : ACode := .seq c85_9 c85_19
def c85_21 : ACode := .seq c85_8 c85_20
def c85_22 : ACode := .loop c85_21
def c85_23 : ACode := .block 0 c85_22
def c85_24 : ACode := .seq c85_7 c85_23
def c85_25 : ACode := .ops [
 ⟨some 2, none, .q (.mv (.v (.bool true))), []⟩]
def c85_26 : ACode := .seq c85_25 .ret
def c85_27 : ACode := .seq c85_24 c85_26
def c85_28 : ACode := .seq c85_6 c85_27
def c85_29 : ACode := .seq c85_1 c85_28
def c85_30 : ACode := .seq c85_0 c85_29
@[go_sem] def c85_0_wp := wp_of c85_0.eq_1
@[go_sem] def c85_1_wp := wp_of c85_1.eq_1
@[go_sem] def c85_2_wp := wp_of c85_2.eq_1
@[go_sem] def c85_3_wp := wp_of c85_3.eq_1
@[go_sem] def c85_4_wp := wp_of c85_4.eq_1
@[go_sem] def c85_5_wp := wp_of c85_5.eq_1
@[go_sem] def c85_6_wp := wp_of c85_6.eq_1
@[go_sem] def c85_7_wp := wp_of c85_7.eq_1
@[go_sem] def c85_8_wp := wp_of c85_8.eq_1
@[go_sem] def c85_9_wp := wp_of c85_9.eq_1
@[go_sem] def c85_10_wp := wp_of c85_10.eq_1
@[go_sem] def c85_11_wp := wp_of c85_11.eq_1
@[go_sem] def c85_12_wp := wp_of c85_12.eq_1
@[go_sem] def c85_13_wp := wp_of c85_13.eq_1
@[go_sem] def c85_14_wp := wp_of c85_14.eq_1
@[go_sem] def c85_15_wp := wp_of c85_15.eq_1
@[go_sem] def c85_16_wp := wp_of c85_16.eq_1
@[go_sem] def c85_17_wp := wp_of c85_17.eq_1
@[go_sem] def c85_18_wp := wp_of c85_18.eq_1
@[go_sem] def c85_19_wp := wp_of c85_19.eq_1
@[go_sem] def c85_20_wp := wp_of c85_20.eq_1
@[go_sem] def c85_21_wp := wp_of c85_21.eq_1
@[go_sem] def c85_22_wp := wp_of c85_22.eq_1
@[go_sem] def c85_23_wp := wp_of c85_23.eq_1
@[go_sem] def c85_24_wp := wp_of c85_24.eq_1
@[go_sem] def c85_25_wp := wp_of c85_25.eq_1
@[go_sem] def c85_26_wp := wp_of c85_26.eq_1
@[go_sem] def c85_27_wp := wp_of c85_27.eq_1
@[go_sem] def c85_28_wp := wp_of c85_28.eq_1
@[go_sem] def c85_29_wp := wp_of c85_29.eq_1
@[go_sem] def c85_30_wp := wp_of c85_30.eq_1
def c85 : AFn := ⟨41, [.t 2], c85_30⟩
theorem c85_ok : compF Tryz.prog Tryz.f85 = some c85 := by kernel_rfl
theorem a85 {args : List AV} {σ : ASt} {R : AV → ASt → Prop} (hl : args.length ≤ 41) (h : c85_30.wp Tryz.prog (RetQ [.t 2] R) (init args) σ) : ACalls Tryz.prog 85 args σ R := acalls_of Tryz.func85 c85_ok hl h
/-! 86: tabular/token.isRef -/
def c86_0 : ACode := .ops [
 ⟨some 2, none, .q (.mv (.v (.bool false))), []⟩]
def c86_1 : ACode := .ops [
 ⟨some 6, none, .q (.mv (.t 0)), []⟩,
 ⟨some 7, none, .e (.call 109 [(.t 6)]), []⟩,
 ⟨some 5, none, .q (.mv (.t 7)), []⟩,
 ⟨some 8, none, .q (.ext 0 (.t 5)), []⟩,
 ⟨some 9, none, .q (.ext 1 (.t 5)), []⟩,
 ⟨some 3, none, .e (.alloc [(.int .i64 0), (.int .i64 0), (.bool false), (.bool false)]), []⟩,
 ⟨none, none, .e (.store 4 (.t 3) (.t 8)), []⟩,
 ⟨some 4, none, .q (.mv (.t 9)), []⟩]
def c86_2 : ACode := .ops [
 ⟨some 10, none, .q (.mv (.t 4)), []⟩,
 ⟨some 2, none, .q (.mv (.t 10)), []⟩]
def c86_3 : ACode := .seq c86_2 .ret
def c86_4 : ACode := .seq c86_1 c86_3
def c86_5 : ACode := .seq c86_0 c86_4
@[go_sem] def c86_0_wp := wp_of c86_0.eq_1
@[go_sem] def c86_1_wp := wp_of c86_1.eq_1
@[go_sem] def c86_2_wp := wp_of c86_2.eq_1
@[go_sem] def c86_3_wp := wp_of c86_3.eq_1
@[go_sem] def c86_4_wp := wp_of c86_4.eq_1
@[go_sem] def c86_5_wp := wp_of c86_5.eq_1
def c86 : AFn := ⟨11, [.t 2], c86_5⟩
theorem c86_ok : compF Tryz.prog Tryz.f86 = some c86 := by kernel_rfl
theorem a86 {args : List AV} {σ : ASt} {R : AV → ASt → Prop} (hl : args.length ≤ 11) (h : c86_5.wp Tryz.prog (RetQ [.t 2] R) (init args) σ) : ACalls Tryz.prog 86 args σ R := acalls_of Tryz.func86 c86_ok hl h
/-! 87: tabular/token.great -/
def c87_0 : ACode := .ops [
 ⟨some 2, none, .q (.mv (.v (.str []))), []⟩]
def c87_1 : ACode := .ops [
 ⟨some 6, none, .q (.mv (.t 0)), []⟩,
 ⟨some 7, none, .e (.s2b (.t 6)), []⟩,
 ⟨some 3, none, .q (.mv (.t 7)), []⟩]
def c87_2 : ACode := .ops [
 ⟨some 8, none, .q (.mv (.t 3)), []⟩,
 ⟨some 9, none, .q (.len (.t 8)), []⟩,
 ⟨some 10, none, .q (.mv (.v (.int .i64 0))), []⟩]
def c87_3 : ACode := .ops [
 ⟨some 11, none, .q (.bin .lss (.t 10) (.t 9)), []⟩]
def c87_4 : ACode := .cond (.t 11) .skip (.exit 0)
def c87_5 : ACode := .ops [
 ⟨some 12, none, .q (.mv (.t 10)), []⟩,
 ⟨some 13, none, .q (.ia 1 (.t 8) (.t 10)), []⟩,
 ⟨some 14, none, .q (.ld none (.t 13)), []⟩,
 ⟨some 4, none, .q (.mv (.t 12)), []⟩,
 ⟨some 5, none, .q (.mv (.t 14)), []⟩]
def c87_6 : ACode := .ops [
 ⟨some 15, none, .q (.mv (.t 5)), []⟩,
 ⟨some 16, none, .q (.bin .geq (.t 15) (.v (.int .u8 97))), []⟩,
 ⟨some 17, none, .q (.mv (.t 16)), []⟩,
 ⟨some 18, some (17, true), .q (.mv (.t 5)), []⟩,
 ⟨some 19, some (17, true), .q (.bin .leq (.t 18) (.v (.int .u8 122))), []⟩,
 ⟨some 20, none, .q (.pick (.t 17) (.t 19) (.v (.bool false))), []⟩]
def c87_7 : ACode := .ops [
 ⟨some 21, none, .q (.mv (.t 3)), []⟩,
 ⟨some 22, none, .q (.mv (.t 4)), []⟩,
 ⟨some 23, none, .q (.mv (.t 5)), []⟩,
 ⟨some 24, none, .q (.bin .sub (.t 23) (.v (.int .u8 32))), []⟩,
 ⟨some 25, none, .q (.ia 1 (.t 21) (.t 22)), []⟩,
 ⟨none, none, .e (.store 1 (.t 25) (.t 24)), []⟩]
def c87_8 : ACode := .cond (.t 20) c87_7 .skip
def c87_9 : ACode := .seq c87_6 c87_8
def c87_10 : ACode := .seq c87_5 c87_9
def c87_11 : ACode := .block 1 c87_10
def c87_12 : ACode := .ops [
 ⟨some 26, none, .q (.bin .add (.t 10) (.v (.int .i64 1))), []⟩,
 ⟨some 10, none, .q (.mv (.t 26)), []⟩]
def c87_13 : ACode := .seq c87_11 c87_12
def c87_14 : ACode := .seq c87_4 c87_13
def c87_15 : ACode := .seq c87_3 c87_14
def c87_16 : ACode := .loop c87_15
def c87_17 : ACode := .block 0 c87_16
def c87_18 : ACode := .seq c87_2 c87_17
def c87_19 : ACode := .ops [
 ⟨some 27, none, .q (.mv (.t 3)), []⟩,
 ⟨some 28, none, .q (.b2s (.t 27)), []⟩,
 ⟨some 2, none, .q (.mv (.t 28)), []⟩]
def c87_20 : ACode := .seq c87_19 .ret
def c87_21 : ACode := .seq c87_18 c87_20
def c87_22 : ACode := .seq c87_1 c87_21
def c87_23 : ACode := .seq c87_0 c87_22
@[go_sem] def c87_0_wp := wp_of c87_0.eq_1
@[go_sem] def c87_1_wp := wp_of c87_1.eq_1
@[go_sem] def c87_2_wp := wp_of c87_2.eq_1
@[go_sem] def c87_3_wp := wp_of c87_3.eq_1
@[go_sem] def c87_4_wp := wp_of c87_4.eq_1
@[go_sem] def c87_5_wp := wp_of c87_5.eq_1
@[go_sem] def c87_6_wp := wp_of c87_6.eq_1
@[go_sem] def c87_7_wp := wp_of c87_7.eq_1
@[go_sem] def c87_8_wp := wp_of c87_8.eq_1
@[go_sem] def c87_9_wp := wp_of c87_9.eq_1
@[go_sem] def c87_10_wp := wp_of c87_10.eq_1
@[go_sem] def c87_11_wp := wp_of c87_11.eq_1
@[go_sem] def c87_12_wp := wp_of c87_12.eq_1
@[go_sem] def c87_13_wp := wp_of c87_13.eq_1
@[go_sem] def c87_14_wp := wp_of c87_14.eq_1
@[go_sem] def c87_15_wp := wp_of c87_15.eq_1
@[go_sem] def c87_16_wp := wp_of c87_16.eq_1
@[go_sem] def c87_17_wp := wp_of c87_17.eq_1
@[go_sem] def c87_18_wp := wp_of c87_18.eq_1
@[go_sem] def c87_19_wp := wp_of c87_19.eq_1
@[go_sem] def c87_20_wp := wp_of c87_20.eq_1
@[go_sem] def c87_21_wp := wp_of c87_21.eq_1
@[go_sem] def c87_22_wp := wp_of c87_22.eq_1
@[go_sem] def c87_23_wp := wp_of c87_23.eq_1
def c87 : AFn := ⟨29, [.t 2], c87_23⟩
theorem c87_ok : compF Tryz.prog Tryz.f87 = some c87 := by kernel_rfl
theorem a87 {args : List AV} {σ : ASt} {R : AV → ASt → Prop} (hl : args.length ≤ 29) (h : c87_23.wp Tryz.prog (RetQ [.t 2] R) (init args) σ) : ACalls Tryz.prog 87 args σ R := acalls_of Tryz.func87 c87_ok hl h
/-! 88: tabular/token.isName -/
def c88_0 : ACode := .ops [
 ⟨some 2, none, .q (.mv (.v (.bool false))), []⟩]
def c88_1 : ACode := .ops [
 ⟨some 4, none, .q (.mv (.t 0)), []⟩,
 ⟨some 5, none, .q (.lenS (.t 4)), []⟩,
 ⟨some 6, none, .q (.mv (.v (.int .i64 0))), []⟩]
def c88_2 : ACode := .ops [
 ⟨some 7, none, .q (.bin .lss (.t 6) (.t 5)), []⟩]
def c88_3 : ACode := .cond (.t 7) .skip (.exit 0)
def c88_4 : ACode := .ops [
 ⟨some 8, none, .q (.mv (.t 6)), []⟩,
 ⟨some 3, none, .q (.mv (.t 8)), []⟩]
def c88_5 : ACode := .ops [
 ⟨some 9, none, .q (.mv (.t 0)), []⟩,
 ⟨some 10, none, .q (.mv (.t 3)), []⟩,
 ⟨some 11, none, .q (.idx (.t 9) (.t 10)), []⟩,
 ⟨some 12, none, .e (.call 62 [(.t 11)]), []⟩,
 ⟨some 13, none, .q (.un .not (.t 12)), []⟩,
 ⟨some 14, none, .q (.mv (.t 13)), []⟩,
 ⟨some 15, some (14, false), .q (.mv (.t 0)), []⟩,
 ⟨some 16, some (14, false), .q (.mv (.t 3)), []⟩,
 ⟨some 17, some (14, false), .q (.idx (.t 15) (.t 16)), []⟩,
 ⟨some 18, some (14, false), .q (.bin .eql (.t 17) (.v (.int .u8 36))), []⟩,
 ⟨some 19, none, .q (.pick (.t 14) (.v (.bool true)) (.t 18)), []⟩,
 ⟨some 20, none, .q (.mv (.t 19)), []⟩,
 ⟨some 21, some (20, false), .q (.mv (.t 3)), []⟩,
 ⟨some 22, some (20, false), .q (.bin .eql (.t 21) (.v (.int .i64 0))), []⟩,
 ⟨some 23, some (20, false), .q (.mv (.t 22)), []⟩,
 ⟨some 24, some (23, true), .q (.mv (.t 0)), []⟩,
 ⟨some 25, some (23, true), .q (.mv (.t 3)), []⟩,
 ⟨some 26, some (23, true), .q (.idx (.t 24) (.t 25)), []⟩,
 ⟨some 27, some (23, true), .e (.call 108 [(.t 26)]), []⟩,
 ⟨some 28, some (23, true), .q (.mv (.t 27)), []⟩,
 ⟨some 29, some (28, false), .q (.mv (.t 0)), []⟩,
 ⟨some 30, some (28, false), .q (.mv (.t 3)), []⟩,
 ⟨some 31, some (28, false), .q (.idx (.t 29) (.t 30)), []⟩,
 ⟨some 32, some (28, false), .q (.bin .eql (.t 31) (.v (.int .u8 46))), []⟩,
 ⟨some 33, some (23, true), .q (.pick (.t 28) (.v (.bool true)) (.t 32)), []⟩,
 ⟨some 34, some (20, false), .q (.pick (.t 23) (.t 33) (.v (.bool false))), []⟩,
 ⟨some 35, none, .q (.pick (.t 20) (.v (.bool true)) (.t 34)), []⟩]
def c88_6 : ACode := .ops [
 ⟨some 2, none, .q (.mv (.v (.bool false))), []⟩]
def c88_7 : ACode := .seq c88_6 .ret
def c88_8 : ACode := .cond (.t 35) c88_7 .skip
def c88_9 : ACode := .seq c88_5 c88_8
def c88_10 : ACode := .seq c88_4 c88_9
def c88_11 : ACode := .block 1 c88_10
def c88_12 : ACode := .ops [
 ⟨some 36, none, .q (.bin .add (.t 6) (.v (.int .i64 1))), []⟩,
 ⟨some 6, none, .q (.mv (.t 36)), []⟩]
def c88_13 : ACode := .seq c88_11 c88_12
def c88_14 : ACode := .seq c88_3 c88_13
def c88_15 : ACode := .seq c88_2 c88_14
def c88_16 : ACode := .loop c88_15
def c88_17 : ACode := .block 0 c88_16
def c88_18 : ACode := .seq c88_1 c88_17
def c88_19 : ACode := .ops [
 ⟨some 37, none, .q (.mv (.t 0)), []⟩,
 ⟨some 38, none, .q (.bin .neq (.t 37) (.v (.str []))), []⟩,
 ⟨some 2, none, .q (.mv (.t 38)), []⟩]
def c88_20 : ACode := .seq c88_19 .ret
def c88_21 : ACode := .seq c88_18 c88_20
def c88_22 : ACode := .seq c88_0 c88_21
@[go_sem] def c88_0_wp := wp_of c88_0.eq_1
@[go_sem] def c88_1_wp := wp_of c88_1.eq_1
@[go_sem] def c88_2_wp := wp_of c88_2.eq_1
@[go_sem] def c88_3_wp := wp_of c88_3.eq_1
@[go_sem] def c88_4_wp := wp_of c88_4.eq_1
@[go_sem] def c88_5_wp := wp_of c88_5.eq_1
@[go_sem] def c88_6_wp := wp_of c88_6.eq_1
@[go_sem] def c88_7_wp := wp_of c88_7.eq_1
@[go_sem] def c88_8_wp := wp_of c88_8.eq_1
@[go_sem] def c88_9_wp := wp_of c88_9.eq_1
@[go_sem] def c88_10_wp := wp_of c88_10.eq_1
@[go_sem] def c88_11_wp := wp_of c88_11.eq_1
@[go_sem] def c88_12_wp := wp_of c88_12.eq_1
@[go_sem] def c88_13_wp := wp_of c88_13.eq_1
@[go_sem] def c88_14_wp := wp_of c88_14.eq_1
@[go_sem] def c88_15_wp := wp_of c88_15.eq_1
@[go_sem] def c88_16_wp := wp_of c88_16.eq_1
@[go_sem] def c88_17_wp := wp_of c88_17.eq_1
@[go_sem] def c88_18_wp := wp_of c88_18.eq_1
@[go_sem] def c88_19_wp := wp_of c88_19.eq_1
@[go_sem] def c88_20_wp := wp_of c88_20.eq_1
@[go_sem] def c88_21_wp := wp_of c88_21.eq_1
@[go_sem] def c88_22_wp := wp_of c88_22.eq_1
def c88 : AFn := ⟨39, [.t 2], c88_22⟩
theorem c88_ok : compF Tryz.prog Tryz.f88 = some c88 := by kernel_rfl
theorem a88 {args : List AV} {σ : ASt} {R : AV → ASt → Prop} (hl : args.length ≤ 39) (h : c88_22.wp Tryz.prog (RetQ [.t 2] R) (init args) σ) : ACalls Tryz.prog 88 args σ R := acalls_of Tryz.func88 c88_ok hl h
/-! 91: tabular/token.Errors -/
def c91_0 : ACode := .ops [
 ⟨some 0, none, .q (.mv (.v (.sl .full []))), []⟩]
def c91_1 : ACode := .ops [
 ⟨some 1, none, .q (.bsl 1 [(.v (.str [35, 68, 73, 86, 47, 48, 33])), (.v (.str [35, 78, 85, 77, 33])), (.v (.str [35, 86, 65, 76, 85, 69, 33])), (.v (.str [35, 82, 69, 70, 33])), (.v (.str [35, 78, 47, 65])), (.v (.str [35, 78, 65, 77, 69, 63])), (.v (.str [35, 67, 89, 67, 76, 69, 33]))]), []⟩,
 ⟨some 0, none, .q (.mv (.t 1)), []⟩]
def c91_2 : ACode := .seq c91_1 .ret
def c91_3 : ACode := .seq c91_0 c91_2
@[go_sem] def c91_0_wp := wp_of c91_0.eq_1
@[go_sem] def c91_1_wp := wp_of c91_1.eq_1
@[go_sem] def c91_2_wp := wp_of c91_2.eq_1
@[go_sem] def c91_3_wp := wp_of c91_3.eq_1
def c91 : AFn := ⟨2, [.t 0], c91_3⟩
theorem c91_ok : compF Tryz.prog Tryz.f91 = some c91 := by kernel_rfl
theorem a91 {args : List AV} {σ : ASt} {R : AV → ASt → Prop} (hl : args.length ≤ 2) (h : c91_3.wp Tryz.prog (RetQ [.t 0] R) (init args) σ) : ACalls Tryz.prog 91 args σ R := acalls_of Tryz.func91 c91_ok hl h
/-! 92: tabular/token.alike -/
def c92_0 : ACode := .ops [
 ⟨some 2, none, .q (.mv (.v (.str []))), []⟩]
def c92_1 : ACode := .ops [
 ⟨some 3, none, .q (.mv (.t 0)), []⟩]
def c92_2 : ACode := .ops [
 ⟨some 5, none, .q (.bin .eql (.t 3) (.v (.int .i32 8804))), []⟩,
 ⟨some 4, none, .q (.mv (.t 5)), []⟩]
def c92_3 : ACode := .ops [
 ⟨some 2, none, .q (.mv (.v (.str [60, 61]))), []⟩]
def c92_4 : ACode := .seq c92_3 .ret
def c92_5 : ACode := .ops [
 ⟨some 7, none, .q (.bin .eql (.t 3) (.v (.int .i32 8805))), []⟩,
 ⟨some 6, none, .q (.mv (.t 7)), []⟩]
def c92_6 : ACode := .ops [
 ⟨some 2, none, .q (.mv (.v (.str [62, 61]))), []⟩]
def c92_7 : ACode := .seq c92_6 .ret
def c92_8 : ACode := .ops [
 ⟨some 9, none, .q (.bin .eql (.t 3) (.v (.int .i32 8800))), []⟩,
 ⟨some 8, none, .q (.mv (.t 9)), []⟩]
def c92_9 : ACode := .ops [
 ⟨some 2, none, .q (.mv (.v (.str [60, 62]))), []⟩]
def c92_10 : ACode := .seq c92_9 .ret
def c92_11 : ACode := .ops [
 ⟨some 11, none, .q (.bin .eql (.t 3) (.v (.int .i32 215))), []⟩,
 ⟨some 10, none, .q (.mv (.t 11)), []⟩]
def c92_12 : ACode := .ops [
 ⟨some 2, none, .q (.mv (.v (.str [42]))), []⟩]
def c92_13 : ACode := .seq c92_12 .ret
def c92_14 : ACode := .ops [
 ⟨some 13, none, .q (.bin .eql (.t 3) (.v (.int .i32 247))), []⟩,
 ⟨some 12, none, .q (.mv (.t 13)), []⟩]
def c92_15 : ACode := .ops [
 ⟨some 2, none, .q (.mv (.v (.str [47]))), []⟩]
def c92_16 : ACode := .seq c92_15 .ret
def c92_17 : ACode := .ops [
 ⟨some 15, none, .q (.bin .eql (.t 3) (.v (.int .i32 8722))), []⟩,
 ⟨some 14, none, .q (.mv (.t 15)), []⟩]
def c92_18 : ACode := .ops [
 ⟨some 2, none, .q (.mv (.v (.str [45]))), []⟩]
def c92_19 : ACode := .seq c92_18 .ret
def c92_20 : ACode := .cond (.t 14) c92_19 .skip
def c92_21 : ACode := .seq c92_17 c92_20
def c92_22 : ACode := .cond (.t 12) c92_16 c92_21
def c92_23 : ACode := .seq c92_14 c92_22
def c92_24 : ACode := .cond (.t 10) c92_13 c92_23
def c92_25 : ACode := .seq c92_11 c92_24
def c92_26 : ACode := .cond (.t 8) c92_10 c92_25
def c92_27 : ACode := .seq c92_8 c92_26
def c92_28 : ACode := .cond (.t 6) c92_7 c92_27
def c92_29 : ACode := .seq c92_5 c92_28
def c92_30 : ACode := .cond (.t 4) c92_4 c92_29
def c92_31 : ACode := .seq c92_2 c92_30
def c92_32 : ACode := .block 0 c92_31
def c92_33 : ACode := .seq c92_1 c92_32
def c92_34 : ACode := .ops [
 ⟨some 2, none, .q (.mv (.v (.str []))), []⟩]
def c92_35 : ACode := .seq c92_34 .ret
def c92_36 : ACode := .seq c92_33 c92_35
def c92_37 : ACode := .seq c92_0 c92_36
@[go_sem] def c92_0_wp := wp_of c92_0.eq_1
@[go_sem] def c92_1_wp := wp_of c92_1.eq_1
@[go_sem] def c92_2_wp := wp_of c92_2.eq_1
@[go_sem] def c92_3_wp := wp_of c92_3.eq_1
@[go_sem] def c92_4_wp := wp_of c92_4.eq_1
@[go_sem] def c92_5_wp := wp_of c92_5.eq_1
@[go_sem] def c92_6_wp := wp_of c92_6.eq_1
@[go_sem] def c92_7_wp := wp_of c92_7.eq_1
@[go_sem] def c92_8_wp := wp_of c92_8.eq_1
@[go_sem] def c92_9_wp := wp_of c92_9.eq_1
@[go_sem] def c92_10_wp := wp_of c92_10.eq_1
@[go_sem] def c92_11_wp := wp_of c92_11.eq_1
@[go_sem] def c92_12_wp := wp_of c92_12.eq_1
@[go_sem] def c92_13_wp := wp_of c92_13.eq_1
@[go_sem] def c92_14_wp := wp_of c92_14.eq_1
@[go_sem] def c92_15_wp := wp_of c92_15.eq_1
@[go_sem] def c92_16_wp := wp_of c92_16.eq_1
@[go_sem] def c92_17_wp := wp_of c92_17.eq_1
@[go_sem] def c92_18_wp := wp_of c92_18.eq_1
@[go_sem] def c92_19_wp := wp_of c92_19.eq_1
@[go_sem] def c92_20_wp := wp_of c92_20.eq_1
@[go_sem] def c92_21_wp := wp_of c92_21.eq_1
@[go_sem] def c92_22_wp := wp_of c92_22.eq_1
@[go_sem] def c92_23_wp := wp_of c92_23.eq_1
@[go_sem] def c92_24_wp := wp_of c92_24.eq_1
@[go_sem] def c92_25_wp := wp_of c92_25.eq_1
@[go_sem] def c92_26_wp := wp_of c92_26.eq_1
@[go_sem] def c92_27_wp := wp_of c92_27.eq_1
@[go_sem] def c92_28_wp := wp_of c92_28.eq_1
@[go_sem] def c92_29_wp := wp_of c92_29.eq_1
@[go_sem] def c92_30_wp := wp_of c92_30.eq_1
@[go_sem] def c92_31_wp := wp_of c92_31.eq_1
@[go_sem] def c92_32_wp := wp_of c92_32.eq_1
@[go_sem] def c92_33_wp := wp_of c92_33.eq_1
@[go_sem] def c92_34_wp := wp_of c92_34.eq_1
@[go_sem] def c92_35_wp := wp_of c92_35.eq_1
@[go_sem] def c92_36_wp := wp_of c92_36.eq_1
@[go_sem] def c92_37_wp := wp_of c92_37.eq_1
def c92 : AFn := ⟨16, [.t 2], c92_37⟩
theorem c92_ok : compF Tryz.prog Tryz.f92 = some c92 := by kernel_rfl
theorem a92 {args : List AV} {σ : ASt} {R : AV → ASt → Prop} (hl : args.length ≤ 16) (h : c92_37.wp Tryz.prog (RetQ [.t 2] R) (init args) σ) : ACalls Tryz.prog 92 args σ R := acalls_of Tryz.func92 c92_ok hl h
/-! 108: tabular/token.digit -/
def c108_0 : ACode := .ops [
 ⟨some 2, none, .q (.mv (.v (.bool false))), []⟩]
def c108_1 : ACode := .ops [
 ⟨some 3, none, .q (.mv (.t 0)), []⟩,
 ⟨some 4, none, .q (.bin .geq (.t 3) (.v (.int .u8 48))), []⟩,
 ⟨some 5, none, .q (.mv (.t 4)), []⟩,
 ⟨some 6, some (5, true), .q (.mv (.t 0)), []⟩,
 ⟨some 7, some (5, true), .q (.bin .leq (.t 6) (.v (.int .u8 57))), []⟩,
 ⟨some 8, none, .q (.pick (.t 5) (.t 7) (.v (.bool false))), []⟩,
 ⟨some 2, none, .q (.mv (.t 8)), []⟩]
def c108_2 : ACode := .seq c108_1 .ret
def c108_3 : ACode := .seq c108_0 c108_2
@[go_sem] def c108_0_wp := wp_of c108_0.eq_1
@[go_sem] def c108_1_wp := wp_of c108_1.eq_1
@[go_sem] def c108_2_wp := wp_of c108_2.eq_1
@[go_sem] def c108_3_wp := wp_of c108_3.eq_1
def c108 : AFn := ⟨9, [.t 2], c108_3⟩
theorem c108_ok : compF Tryz.prog Tryz.f108 = some c108 := by kernel_rfl
theorem a108 {args : List AV} {σ : ASt} {R : AV → ASt → Prop} (hl : args.length ≤ 9) (h : c108_3.wp Tryz.prog (RetQ [.t 2] R) (init args) σ) : ACalls Tryz.prog 108 args σ R := acalls_of Tryz.func108 c108_ok hl h
end Go.A
namespace Go.A
open Go.Proofs Go.Lib
theorem word_ok (c : UInt8) : Pure Tryz.prog 62 [.int .u8 c.toNat] (.bool (wordB c)) := by
 intro σ
 refine a62 (by simp) ?_
 have hc := c.toNat_lt
 unfold wordB
 repeat' (first | (simp (disch := first | assumption | omega) only [go_sem, reduceCtorEq, Nat.reduceEqDiff, ↓reduceIte]) | with_reducible refine gC_d (fun h => ?_) (fun h => ?_) | with_reducible refine gC_dn (fun h => ?_) (fun h => ?_) | with_reducible refine condC_d (fun h => ?_) (fun h => ?_) | with_reducible refine condC_n (fun h => ?_) (fun h => ?_) | with_reducible refine condC_b (fun h => ?_) (fun h => ?_) | with_reducible refine boxC_by ?_ fun b hb => ?_)
 all_goals refine retC_by (Drop.refl _) (.refl _) ⟨?_, rfl⟩
 all_goals (simp only [resV_one]) <;> (congr 1) <;> (rw [Bool.eq_iff_iff]; simp only [decide_eq_true_eq]; omega)
theorem digit_ok (c : UInt8) : Pure Tryz.prog 108 [.int .u8 c.toNat] (.bool (digB c)) := by
 intro σ
 refine a108 (by simp) ?_
 have hc := c.toNat_lt
 unfold digB
 repeat' (first | (simp (disch := first | assumption | omega) only [go_sem, reduceCtorEq, Nat.reduceEqDiff, ↓reduceIte]) | with_reducible refine gC_d (fun h => ?_) (fun h => ?_) | with_reducible refine gC_dn (fun h => ?_) (fun h => ?_) | with_reducible refine condC_d (fun h => ?_) (fun h => ?_) | with_reducible refine condC_n (fun h => ?_) (fun h => ?_) | with_reducible refine condC_b (fun h => ?_) (fun h => ?_) | with_reducible refine boxC_by ?_ fun b hb => ?_)
 all_goals refine retC_by (Drop.refl _) (.refl _) ⟨?_, rfl⟩
 all_goals (simp only [resV_one]) <;> (congr 1) <;> (rw [Bool.eq_iff_iff]; simp only [decide_eq_true_eq]; omega)
theorem alike_ok (c : Int) : Pure Tryz.prog 92 [.int .i32 c] (.str (alikeP c)) := by
 intro σ
 refine a92 (by simp) ?_
 unfold alikeP
 by_cases h1 : c = 8804
 ·simp (disch := first | assumption | omega) only [go_sem, reduceCtorEq, ↓reduceIte, h1]; exact retC_by (Drop.refl _) (.refl _) ⟨by simp [resV_one], rfl⟩
 by_cases h2 : c = 8805
 ·simp (disch := first | assumption | omega) only [go_sem, reduceCtorEq, Nat.reduceEqDiff, Int.reduceEq, ↓reduceIte, h2]; exact retC_by (Drop.refl _) (.refl _) ⟨by simp [resV_one], rfl⟩
 by_cases h3 : c = 8800
 ·simp (disch := first | assumption | omega) only [go_sem, reduceCtorEq, Nat.reduceEqDiff, Int.reduceEq, ↓reduceIte, h3]; exact retC_by (Drop.refl _) (.refl _) ⟨by simp [resV_one], rfl⟩
 by_cases h4 : c = 215
 ·simp (disch := first | assumption | omega) only [go_sem, reduceCtorEq, Nat.reduceEqDiff, Int.reduceEq, ↓reduceIte, h4]; exact retC_by (Drop.refl _) (.refl _) ⟨by simp [resV_one], rfl⟩
 by_cases h5 : c = 247
 ·simp (disch := first | assumption | omega) only [go_sem, reduceCtorEq, Nat.reduceEqDiff, Int.reduceEq, ↓reduceIte, h5]; exact retC_by (Drop.refl _) (.refl _) ⟨by simp [resV_one], rfl⟩
 by_cases h6 : c = 8722
 ·simp (disch := first | assumption | omega) only [go_sem, reduceCtorEq, Nat.reduceEqDiff, Int.reduceEq, ↓reduceIte, h6]; exact retC_by (Drop.refl _) (.refl _) ⟨by simp [resV_one], rfl⟩
 simp (disch := first | assumption | omega) only [go_sem, reduceCtorEq, Nat.reduceEqDiff, ↓reduceIte, h1, h2, h3, h4, h5, h6]
 exact retC_by (Drop.refl _) (.refl _) ⟨by simp [resV_one], rfl⟩
theorem isRef_ok (l : List UInt8) (hl : l.length ≤ 9223372036854775000) : Pure Tryz.prog 86 [.str l] (.bool (refB l)) := by
 intro σ
 refine a86 (by simp) ?_
 simp (disch := first | assumption | omega) only [go_sem, reduceCtorEq, ↓reduceIte]
 refine (parse_ok l hl).use ?_
 unfold refB
 obtain ⟨⟨⟨row, col, ar, ac⟩, ok⟩, hq⟩ : ∃ q, parseP l = q := ⟨_, rfl⟩
 rw [hq]
 simp (disch := first | assumption | omega) only [go_sem, Nat.reduceEqDiff, ↓reduceIte, refAV]
 refine allocC_by fun b hb => ?_
 simp (disch := first | assumption | omega) only [go_sem, Nat.reduceEqDiff, Nat.reduceAdd, Nat.reduceLeDiff, ↓reduceIte, Bool.true_and]
 exact retC_by (by repeat' (first | exact Drop.refl _ | with_reducible refine Drop.off ?_ (by assumption))) (.refl _) ⟨rfl, rfl⟩
theorem tgreat_ok (l : List UInt8) (hl : l.length < 4611686018427387904) : Pure Tryz.prog 87 [.str l] (.str (greatP l)) := by
 intro σ
 refine a87 (by simp) ?_
 simp (disch := first | assumption | omega) only [go_sem, reduceCtorEq, ↓reduceIte]
 refine s2b_own fun b cp hb hcp => ?_
 simp (disch := first | assumption | omega) only [go_sem, ↓reduceIte]
 refine wp_loop_on (fun (i : Nat) a σ' => i ≤ l.length ∧ (a 3 = .msl b 0 l.length cp ∧ a 8 = .msl b 0 l.length cp ∧ a 9 = .int .i64 l.length ∧ a 10 = .int .i64 i) ∧ σ' = σ.set b (some (.obj (bytesAV (greatP (l.take i) ++ l.drop i)))))
  (fun i => l.length - i) 0 ⟨Nat.zero_le _, ?_, by simp [greatP]⟩ ?_
 ·simp (disch := first | assumption | omega) only [go_sem, Nat.reduceEqDiff, ↓reduceIte]
 rintro i a σ1 ⟨hi, hf, rfl⟩
 obtain ⟨m, hm⟩ : ∃ m, greatP (l.take i) ++ l.drop i = m := ⟨_, rfl⟩
 have hml : m.length = l.length := by rw [← hm]; simp [greatP]; omega
 have hgl : (greatP (l.take i)).length = i := by simp [greatP]; omega
 rw [hm]
 by_cases hlt : i < l.length
 ·have hidx : m[i]? = some (l[i]'hlt) := by rw [← hm, List.getElem?_append_right (by omega), hgl]; simp
  obtain ⟨c, hc⟩ : ∃ c, l[i]'hlt = c := ⟨_, rfl⟩
  rw [hc] at hidx
  have hcb := u8_lt c
  have hi2 : (i : Int) < l.length := by omega
  have hle : i + 1 ≤ m.length := by omega
  have hnext : greatP (l.take (i + 1)) ++ l.drop (i + 1) = m.set i (greatC c) := by
   rw [← hm, List.take_succ_eq_append_getElem hlt, hc, List.set_append_right _ _ (by omega), hgl, Nat.sub_self]
   simp only [greatP, List.map_append, List.map_cons, List.map_nil, List.append_assoc, List.singleton_append]
   rw [List.drop_eq_getElem_cons hlt]
   rfl
  by_cases hg : 97 ≤ c.toNat ∧ c.toNat ≤ 122
  ·have g1 : (97 : Int) ≤ c.toNat := by omega
   have g2 : (c.toNat : Int) ≤ 122 := by omega
   have hgc : greatC c = UInt8.ofNat (c.toNat - 32) := by unfold greatC; rw [if_pos hg]
   have hw := set_bytes (l := m) (i := i) (m := (c.toNat : Int) - 32) (by omega)
   have hw0 : (c.toNat : Int) - 32 = ((UInt8.ofNat (c.toNat - 32)).toNat : Int) := by rw [u8_nat (by omega)]; omega
   rw [hw0, bytes_set] at hw
   simp (disch := first | assumption | omega) only [go_sem, Nat.reduceEqDiff, ↓reduceIte, Nat.mul_one, Bool.true_and, hf, hi2, hidx, g1, g2, hle, hw0, hw]
   refine ⟨i + 1, by omega, by omega, ?_, by rw [hnext, hgc]⟩
   simp (disch := first | assumption | omega) only [go_sem]
  ·have hgc : greatC c = c := by unfold greatC; rw [if_neg hg]
   have hms : m.set i c = m := by
    apply List.ext_getElem?
    intro j
    rw [List.getElem?_set]
    split
    ·rename_i h; subst h; rw [hidx]; split <;> first | rfl | omega
    ·rfl
   by_cases g1 : (97 : Int) ≤ c.toNat
   ·have g2 : ¬ (c.toNat : Int) ≤ 122 := by omega
    simp (disch := first | assumption | omega) only [go_sem, Nat.reduceEqDiff, ↓reduceIte, Nat.mul_one, hf, hi2, hidx, g1, g2]
    refine ⟨i + 1, by omega, by omega, ?_, by rw [hnext, hgc, hms]⟩
    simp (disch := first | assumption | omega) only [go_sem]
   ·simp (disch := first | assumption | omega) only [go_sem, Nat.reduceEqDiff, ↓reduceIte, Nat.mul_one, hf, hi2, hidx, g1]
    refine ⟨i + 1, by omega, by omega, ?_, by rw [hnext, hgc, hms]⟩
    simp (disch := first | assumption | omega) only [go_sem]
 ·have hi2 : ¬ (i : Int) < l.length := by omega
  have hle2 : l.length ≤ m.length := by omega
  have htk := bytes_all hml
  simp (disch := first | assumption | omega) only [go_sem, Nat.reduceEqDiff, ↓reduceIte, hf, hi2, hle2, htk]
  refine retC_by (by repeat' (first | exact Drop.refl _ | with_reducible refine Drop.off ?_ (by assumption))) (.refl _) ⟨?_, rfl⟩
  rw [← hm, List.take_of_length_le (by omega), List.drop_eq_nil_of_le (by omega), List.append_nil]
  rfl
theorem errs_ok : Pure Tryz.prog 91 [] (.sl .full (errTexts.map AV.str)) := by
 intro σ
 refine a91 (by simp) ?_
 simp (disch := first | assumption | omega) only [go_sem, ↓reduceIte, Bool.true_and]
 exact retC_by (by repeat' (first | exact Drop.refl _ | with_reducible refine Drop.off ?_ (by assumption))) (.refl _) ⟨rfl, rfl⟩
theorem index_dot : ∀ l : List UInt8, (cutDot l).2 = none ∧ indexByte l 46 = -1 ∧ (cutDot l).1 = l ∨ ∃ (i : Nat) (p : List UInt8), indexByte l 46 = i ∧ i < l.length ∧ cutDot l = (l.take i, some p) ∧ p = l.drop (i + 1)
 | [] => .inl ⟨rfl, rfl, rfl⟩
 | c :: l => by
   unfold indexByte cutDot
   by_cases hc : c.toNat = 46
   ·have : c = 46 := by apply UInt8.toNat_inj.1; simpa using hc
    subst this
    exact .inr ⟨0, l, by simp, by simp, by simp, by simp⟩
   ·have hne : ¬ (c == 46) = true := by
     intro h
     rw [beq_iff_eq] at h
     subst h
     exact hc rfl
    rw [if_neg hc, if_neg hne]
    rcases index_dot l with ⟨h1, h2, h3⟩ | ⟨i, p, h1, h2, h3, h4⟩
    ·exact .inl ⟨h1, by rw [h2]; rfl, by rw [h3]⟩
    ·refine .inr ⟨i + 1, p, ?_, by simpa using h2, ?_, by simpa using h4⟩
     ·rw [h1, if_neg (by rw [beq_iff_eq]; omega)]; rfl
     ·rw [h3]; rfl
theorem cutdot_ok (l : List UInt8) (hl : l.length ≤ 1000000000) : Pure Tryz.prog 107 [.str l, .str [46]] (.tuple [.str (cutDot l).1, .str ((cutDot l).2.getD []), .bool (cutDot l).2.isSome]) := by
 have h1 : Pure Tryz.prog 125 [.str l, .str [46]] (.tuple [.str (cutDot l).1, .str ((cutDot l).2.getD []), .bool (cutDot l).2.isSome]) := by
  intro σ
  refine a125 (by simp) ?_
  rcases index_dot l with ⟨h1, h2, h3⟩ | ⟨i, p, h1, h2, h3, h4⟩
  ·rw [h1, h3]
   simp (disch := first | assumption | omega) only [go_sem, reduceCtorEq, Nat.reduceEqDiff, ↓reduceIte]
   refine (index_ok l 46).use ?_
   rw [h2]
   simp (disch := first | assumption | omega) only [go_sem, reduceCtorEq, Nat.reduceEqDiff, Int.reduceLE, ↓reduceIte, Int.reduceNeg]
   exact retC_by (by repeat' (first | exact Drop.refl _ | with_reducible refine Drop.off ?_ (by assumption))) (.refl _) ⟨rfl, rfl⟩
  ·rw [h3]
   subst h4
   have e1 : (0 : Int) ≤ i := by omega
   have e2 : ((i : Int) + 1).toNat = i + 1 := by omega
   simp (disch := first | assumption | omega) only [go_sem, reduceCtorEq, Nat.reduceEqDiff, ↓reduceIte]
   refine (index_ok l 46).use ?_
   rw [h1]
   simp (disch := first | assumption | omega) only [go_sem, reduceCtorEq, Nat.reduceEqDiff, ↓reduceIte, e1, e2, List.take_length]
   exact retC_by (by repeat' (first | exact Drop.refl _ | with_reducible refine Drop.off ?_ (by assumption))) (.refl _) ⟨rfl, rfl⟩
 intro σ
 refine a107 (by simp) ?_
 simp (disch := first | assumption | omega) only [go_sem, reduceCtorEq, Nat.reduceEqDiff, ↓reduceIte]
 refine h1.use ?_
 simp (disch := first | assumption | omega) only [go_sem, Nat.reduceEqDiff, ↓reduceIte]
 exact retC_by (by repeat' (first | exact Drop.refl _ | with_reducible refine Drop.off ?_ (by assumption))) (.refl _) ⟨rfl, rfl⟩
theorem cutDot_len (l : List UInt8) : (cutDot l).1.length + ((cutDot l).2.getD []).length ≤ l.length := by
 rcases index_dot l with ⟨h1, h2, h3⟩ | ⟨i, p, h1, h2, h3, h4⟩
 ·rw [h1, h3]; simp
 ·rw [h3, h4]; simp; omega
theorem isNum_ok (l : List UInt8) (hl : l.length ≤ 1000000000) : Pure Tryz.prog 85 [.str l] (.bool (numB l)) := by
 intro σ
 have hcd := cutdot_ok l hl
 have hlen := cutDot_len l
 obtain ⟨R, hR⟩ : ∃ R, numB l = R := ⟨_, rfl⟩
 rw [hR]
 refine a85 (by simp) ?_
 unfold numB at hR
 obtain ⟨⟨w, q⟩, hC⟩ : ∃ C, cutDot l = C := ⟨_, rfl⟩
 rw [hC] at hcd hlen hR
 dsimp only at hcd hlen
 obtain ⟨F, hF⟩ : ∃ F, F = ACode.wp Tryz.prog c85_27 := ⟨_, rfl⟩
 have fin : ∀ (p : List UInt8) (a : AFr), w.length + p.length ≤ l.length → (w ++ p).all digB = R → (a 3 = .str w ∧ a 4 = .str p) → F (RetQ [.t 2] fun v σ' => v = .bool R ∧ σ' = σ) a σ := by
  intro p a hlp hwp hf
  rw [hF]
  have hl2 : w.length + p.length ≤ 9223372036854775807 := by omega
  simp (disch := first | assumption | omega) only [go_sem, Nat.reduceEqDiff, ↓reduceIte, hf]
  refine s2b_shr ?_
  obtain ⟨m, hm⟩ : ∃ m, w ++ p = m := ⟨_, rfl⟩
  rw [hm] at hwp ⊢
  have hml : m.length ≤ 1000000000 := by rw [← hm]; simp; omega
  simp (disch := first | assumption | omega) only [go_sem, ↓reduceIte]
  refine wp_loop_on (fun (i : Nat) a σ' => i ≤ m.length ∧ (m.take i).all digB = true ∧ (a 31 = .sl .shr (bytesAV m) ∧ a 32 = .int .i64 m.length ∧ a 33 = .int .i64 i) ∧ σ' = σ) (fun i => m.length - i) 0 ⟨Nat.zero_le _, rfl, ?_, rfl⟩ ?_
  ·simp (disch := first | assumption | omega) only [go_sem, Nat.reduceEqDiff, ↓reduceIte]
  rintro i a σ1 ⟨hi, hall, hf, rfl⟩
  by_cases hlt : i < m.length
  ·have hidx : m[i]? = some (m[i]'hlt) := List.getElem?_eq_getElem hlt
   obtain ⟨c, hc⟩ : ∃ c, m[i]'hlt = c := ⟨_, rfl⟩
   rw [hc] at hidx
   have hlt' : (i : Int) < m.length := by omega
   simp (disch := first | assumption | omega) only [go_sem, Nat.reduceEqDiff, ↓reduceIte, hf, hlt', hidx]
   refine (digit_ok c).use ?_
   obtain ⟨d, hd⟩ : ∃ d, digB c = d := ⟨_, rfl⟩
   rw [hd]
   have hnx : (m.take (i + 1)).all digB = d := by
    rw [List.take_succ_eq_append_getElem hlt, hc, List.all_append, hall]
    simp [hd]
   cases d
   ·simp (disch := first | assumption | omega) only [go_sem, ↓reduceIte]
    have : m.all digB = false := by
     have h1 := congrArg (fun x => x && (m.drop (i + 1)).all digB) hnx
     simp only [← List.all_append, List.take_append_drop, Bool.false_and] at h1
     exact h1
    rw [this] at hwp
    subst hwp
    exact retC_by (by repeat' (first | exact Drop.refl _ | with_reducible refine Drop.off ?_ (by assumption))) (.refl _) ⟨rfl, rfl⟩
   ·simp (disch := first | assumption | omega) only [go_sem, Nat.reduceEqDiff, ↓reduceIte, hf]
    exact ⟨i + 1, by omega, by omega, hnx, rfl⟩
  ·have hlt' : ¬ (i : Int) < m.length := by omega
   rw [List.take_of_length_le (by omega), hwp] at hall
   subst hall
   simp (disch := first | assumption | omega) only [go_sem, ↓reduceIte, hf, hlt']
   exact retC_by (by repeat' (first | exact Drop.refl _ | with_reducible refine Drop.off ?_ (by assumption))) (.refl _) ⟨rfl, rfl⟩
 simp (disch := first | assumption | omega) only [go_sem, reduceCtorEq, ↓reduceIte]
 refine hcd.use ?_
 by_cases hw : w = []
 ·have : R = false := by
   rw [← hR]
   cases q <;> simp [hw]
  subst hw this
  simp (disch := first | assumption | omega) only [go_sem, Nat.reduceEqDiff, ↓reduceIte, ←hF]
  exact retC_by (by repeat' (first | exact Drop.refl _ | with_reducible refine Drop.off ?_ (by assumption))) (.refl _) ⟨rfl, rfl⟩
 cases q with
 | none =>
   simp (disch := first | assumption | omega) only [go_sem, Nat.reduceEqDiff, ↓reduceIte, hw, Option.isSome_none, Option.getD_none, ←hF]
   refine fin [] _ (by simpa using hlen) (by rw [← hR]; simp [hw]) ?_
   simp (disch := first | assumption | omega) only [go_sem, Nat.reduceEqDiff, ↓reduceIte]
 | some p =>
   dsimp only [Option.getD_some] at hlen
   by_cases hp : p = []
   ·have : R = false := by rw [← hR]; simp [hp]
    subst hp this
    simp (disch := first | assumption | omega) only [go_sem, Nat.reduceEqDiff, ↓reduceIte, hw, Option.getD_some, Option.isSome_some, ←hF]
    exact retC_by (by repeat' (first | exact Drop.refl _ | with_reducible refine Drop.off ?_ (by assumption))) (.refl _) ⟨rfl, rfl⟩
   by_cases h4 : 4 < p.length
   ·have : R = false := by rw [← hR]; simp [hp, show ¬ p.length ≤ 4 by omega]
    subst this
    have h4' : (4 : Int) < p.length := by omega
    simp (disch := first | assumption | omega) only [go_sem, Nat.reduceEqDiff, ↓reduceIte, hw, hp, h4', Option.getD_some, Option.isSome_some, ←hF]
    exact retC_by (by repeat' (first | exact Drop.refl _ | with_reducible refine Drop.off ?_ (by assumption))) (.refl _) ⟨rfl, rfl⟩
   ·have h4' : ¬ (4 : Int) < p.length := by omega
    simp (disch := first | assumption | omega) only [go_sem, Nat.reduceEqDiff, ↓reduceIte, hw, hp, h4', Option.getD_some, Option.isSome_some, ←hF]
    refine fin p _ hlen (by rw [← hR]; simp [hw, hp, show p.length ≤ 4 by omega]) ?_
    simp (disch := first | assumption | omega) only [go_sem, Nat.reduceEqDiff, ↓reduceIte]
theorem isName_ok (l : List UInt8) (hl : l.length ≤ 1000000000) : Pure Tryz.prog 88 [.str l] (.bool (nameB l)) := by
 intro σ
 refine a88 (by simp) ?_
 obtain ⟨R, hR⟩ : ∃ R, nameB l = R := ⟨_, rfl⟩
 rw [hR]
 unfold nameB at hR
 simp (disch := first | assumption | omega) only [go_sem, reduceCtorEq, ↓reduceIte]
 refine wp_loop_on (fun (i : Nat) a σ' => i ≤ l.length ∧ (l.take i).all (fun c => wordB c && decide (c.toNat ≠ 36)) = true ∧ (0 < i → ((l.head?.map fun c => digB c || decide (c.toNat = 46)).getD false) = false) ∧ (a 0 = .str l ∧ a 5 = .int .i64 l.length ∧ a 6 = .int .i64 i) ∧ σ' = σ) (fun i => l.length - i) 0 ⟨Nat.zero_le _, rfl, by omega, ?_, rfl⟩ ?_
 ·simp (disch := first | assumption | omega) only [go_sem, reduceCtorEq, Nat.reduceEqDiff, ↓reduceIte]
 rintro i a σ1 ⟨hi, hall, hfst, hf, rfl⟩
 by_cases hlt : i < l.length
 ·have hidx : l[i]? = some (l[i]'hlt) := List.getElem?_eq_getElem hlt
  obtain ⟨c, hc⟩ : ∃ c, l[i]'hlt = c := ⟨_, rfl⟩
  rw [hc] at hidx
  have hlt' : (i : Int) < l.length := by omega
  have hstep : (l.take (i + 1)).all (fun c => wordB c && decide (c.toNat ≠ 36)) = (wordB c && decide (c.toNat ≠ 36)) := by
   rw [List.take_succ_eq_append_getElem hlt, hc, List.all_append, hall]
   simp
  have hno : (wordB c && decide (c.toNat ≠ 36)) = false → R = false := by
   intro h
   rw [h] at hstep
   have h1 := congrArg (fun x => x && (l.drop (i + 1)).all (fun c => wordB c && decide (c.toNat ≠ 36))) hstep
   simp only [← List.all_append, List.take_append_drop, Bool.false_and] at h1
   rw [← hR, h1]
   simp
  simp (disch := first | assumption | omega) only [go_sem, reduceCtorEq, Nat.reduceEqDiff, ↓reduceIte, hf, hlt', hidx]
  refine (word_ok c).use ?_
  cases hwd : wordB c with
  | false =>
    obtain rfl := hno (by rw [hwd]; rfl)
    simp (disch := first | assumption | omega) only [go_sem, Nat.reduceEqDiff, ↓reduceIte]
    exact retC_by (by repeat' (first | exact Drop.refl _ | with_reducible refine Drop.off ?_ (by assumption))) (.refl _) ⟨rfl, rfl⟩
  | true =>
  by_cases h36 : (c.toNat : Int) = 36
  ·obtain rfl := hno (by rw [hwd]; simp; omega)
   simp (disch := first | assumption | omega) only [go_sem, reduceCtorEq, Nat.reduceEqDiff, ↓reduceIte, hf, hidx, h36]
   exact retC_by (by repeat' (first | exact Drop.refl _ | with_reducible refine Drop.off ?_ (by assumption))) (.refl _) ⟨rfl, rfl⟩
  have hok : (l.take (i + 1)).all (fun c => wordB c && decide (c.toNat ≠ 36)) = true := by rw [hstep, hwd]; simp; omega
  by_cases h0 : i = 0
  ·subst h0
   have hhd : l.head? = some c := by
    rw [List.head?_eq_getElem?]; exact hidx
   simp (disch := first | assumption | omega) only [go_sem, reduceCtorEq, Nat.reduceEqDiff, ↓reduceIte, hf, hidx, h36]
   refine (digit_ok c).use ?_
   cases hdg : digB c with
   | true =>
     have : R = false := by rw [← hR, hhd]; simp [hdg]
     subst this
     simp (disch := first | assumption | omega) only [go_sem, Nat.reduceEqDiff, ↓reduceIte]
     exact retC_by (by repeat' (first | exact Drop.refl _ | with_reducible refine Drop.off ?_ (by assumption))) (.refl _) ⟨rfl, rfl⟩
   | false =>
     by_cases h46 : (c.toNat : Int) = 46
     ·have : R = false := by rw [← hR, hhd]; simp; intro _ _ _; omega
      subst this
      simp (disch := first | assumption | omega) only [go_sem, reduceCtorEq, Nat.reduceEqDiff, ↓reduceIte, hf, hidx, h46]
      exact retC_by (by repeat' (first | exact Drop.refl _ | with_reducible refine Drop.off ?_ (by assumption))) (.refl _) ⟨rfl, rfl⟩
     ·simp (disch := first | assumption | omega) only [go_sem, reduceCtorEq, Nat.reduceEqDiff, ↓reduceIte, Int.reduceAdd, hf, hidx, h46]
      refine ⟨0 + 1, by omega, by omega, hok, ?_, rfl⟩
      intro _
      rw [hhd]
      simp [hdg]
      omega
  ·have h0' : ¬ (i : Int) = 0 := by omega
   simp (disch := first | assumption | omega) only [go_sem, reduceCtorEq, Nat.reduceEqDiff, ↓reduceIte, hf, hidx, h36, h0']
   exact ⟨i + 1, by omega, by omega, hok, fun _ => hfst (by omega), rfl⟩
 ·have hlt' : ¬ (i : Int) < l.length := by omega
  rw [List.take_of_length_le (by omega)] at hall
  have : R = decide (l ≠ []) := by
   rw [← hR, hall]
   by_cases hne : l = []
   ·subst hne; rfl
   ·have hpos := List.length_pos_iff.2 hne
    rw [hfst (by omega)]
    simp
  subst this
  simp (disch := first | assumption | omega) only [go_sem, reduceCtorEq, ↓reduceIte, hf, hlt']
  exact retC_by (by repeat' (first | exact Drop.refl _ | with_reducible refine Drop.off ?_ (by assumption))) (.refl _) ⟨by simp [resV_one], rfl⟩
end Go.A
namespace Go.A
open Go.Proofs
/-! 79: (*strings.Builder).WriteByte -/
def c79_0 : ACode := .ops [
 ⟨some 4, none, .q (.mv (.v .nili)), []⟩]
def c79_1 : ACode := .ops [
 ⟨some 5, none, .q (.mv (.t 0)), []⟩,
 ⟨some 6, none, .e (.call 97 [(.t 5)]), []⟩]
def c79_2 : ACode := .ops [
 ⟨some 7, none, .q (.mv (.t 0)), []⟩,
 ⟨some 8, none, .q (.mv (.t 0)), []⟩,
 ⟨some 9, none, .q (.nc (.t 8)), []⟩,
 ⟨some 10, none, .q (.fa 1 (.t 9)), []⟩,
 ⟨some 11, none, .q (.ld none (.t 10)), []⟩,
 ⟨some 12, none, .q (.mv (.t 1)), []⟩,
 ⟨some 13, none, .q (.bsl 1 [(.t 12)]), []⟩,
 ⟨some 14, none, .e (.app 5 1 1 [(.int .u8 0)] (.t 11) (.t 13)), []⟩,
 ⟨some 15, none, .q (.nc (.t 7)), []⟩,
 ⟨some 16, none, .q (.fa 1 (.t 15)), []⟩,
 ⟨none, none, .e (.store 1 (.t 16) (.t 14)), []⟩]
def c79_3 : ACode := .ops [
 ⟨some 4, none, .q (.mv (.v .nili)), []⟩]
def c79_4 : ACode := .seq c79_3 .ret
def c79_5 : ACode := .seq c79_2 c79_4
def c79_6 : ACode := .seq c79_1 c79_5
def c79_7 : ACode := .seq c79_0 c79_6
@[go_sem] def c79_0_wp := wp_of c79_0.eq_1
@[go_sem] def c79_1_wp := wp_of c79_1.eq_1
@[go_sem] def c79_2_wp := wp_of c79_2.eq_1
@[go_sem] def c79_3_wp := wp_of c79_3.eq_1
@[go_sem] def c79_4_wp := wp_of c79_4.eq_1
@[go_sem] def c79_5_wp := wp_of c79_5.eq_1
@[go_sem] def c79_6_wp := wp_of c79_6.eq_1
@[go_sem] def c79_7_wp := wp_of c79_7.eq_1
def c79 : AFn := ⟨17, [.t 4], c79_7⟩
theorem c79_ok : compF Tryz.prog Tryz.f79 = some c79 := by kernel_rfl
theorem a79 {args : List AV} {σ : ASt} {R : AV → ASt → Prop} (hl : args.length ≤ 17) (h : c79_7.wp Tryz.prog (RetQ [.t 4] R) (init args) σ) : ACalls Tryz.prog 79 args σ R := acalls_of Tryz.func79 c79_ok hl h
/-! 89: (*strings.Builder).WriteRune -/
def c89_0 : ACode := .ops [
 ⟨some 4, none, .q (.mv (.v (.int .i64 0))), []⟩,
 ⟨some 5, none, .q (.mv (.v .nili)), []⟩]
def c89_1 : ACode := .ops [
 ⟨some 7, none, .q (.mv (.t 0)), []⟩,
 ⟨some 8, none, .e (.call 97 [(.t 7)]), []⟩]
def c89_2 : ACode := .ops [
 ⟨some 9, none, .q (.mv (.t 0)), []⟩,
 ⟨some 10, none, .q (.nc (.t 9)), []⟩,
 ⟨some 11, none, .q (.fa 1 (.t 10)), []⟩,
 ⟨some 12, none, .q (.ld none (.t 11)), []⟩,
 ⟨some 13, none, .q (.len (.t 12)), []⟩,
 ⟨some 6, none, .q (.mv (.t 13)), []⟩]
def c89_3 : ACode := .ops [
 ⟨some 14, none, .q (.mv (.t 0)), []⟩,
 ⟨some 15, none, .q (.mv (.t 0)), []⟩,
 ⟨some 16, none, .q (.nc (.t 15)), []⟩,
 ⟨some 17, none, .q (.fa 1 (.t 16)), []⟩,
 ⟨some 18, none, .q (.ld none (.t 17)), []⟩,
 ⟨some 19, none, .q (.mv (.t 1)), []⟩,
 ⟨some 20, none, .e (.call 110 [(.t 18), (.t 19)]), []⟩,
 ⟨some 21, none, .q (.nc (.t 14)), []⟩,
 ⟨some 22, none, .q (.fa 1 (.t 21)), []⟩,
 ⟨none, none, .e (.store 1 (.t 22) (.t 20)), []⟩]
def c89_4 : ACode := .ops [
 ⟨some 23, none, .q (.mv (.t 0)), []⟩,
 ⟨some 24, none, .q (.nc (.t 23)), []⟩,
 ⟨some 25, none, .q (.fa 1 (.t 24)), []⟩,
 ⟨some 26, none, .q (.ld none (.t 25)), []⟩,
 ⟨some 27, none, .q (.len (.t 26)), []⟩,
 ⟨some 28, none, .q (.mv (.t 6)), []⟩,
 ⟨some 29, none, .q (.bin .sub (.t 27) (.t 28)), []⟩,
 ⟨some 4, none, .q (.mv (.t 29)), []⟩,
 ⟨some 5, none, .q (.mv (.v .nili)), []⟩]
def c89_5 : ACode := .seq c89_4 .ret
def c89_6 : ACode := .seq c89_3 c89_5
def c89_7 : ACode := .seq c89_2 c89_6
def c89_8 : ACode := .seq c89_1 c89_7
def c89_9 : ACode := .seq c89_0 c89_8
@[go_sem] def c89_0_wp := wp_of c89_0.eq_1
@[go_sem] def c89_1_wp := wp_of c89_1.eq_1
@[go_sem] def c89_2_wp := wp_of c89_2.eq_1
@[go_sem] def c89_3_wp := wp_of c89_3.eq_1
@[go_sem] def c89_4_wp := wp_of c89_4.eq_1
@[go_sem] def c89_5_wp := wp_of c89_5.eq_1
@[go_sem] def c89_6_wp := wp_of c89_6.eq_1
@[go_sem] def c89_7_wp := wp_of c89_7.eq_1
@[go_sem] def c89_8_wp := wp_of c89_8.eq_1
@[go_sem] def c89_9_wp := wp_of c89_9.eq_1
def c89 : AFn := ⟨30, [.t 4, .t 5], c89_9⟩
theorem c89_ok : compF Tryz.prog Tryz.f89 = some c89 := by kernel_rfl
theorem a89 {args : List AV} {σ : ASt} {R : AV → ASt → Prop} (hl : args.length ≤ 30) (h : c89_9.wp Tryz.prog (RetQ [.t 4, .t 5] R) (init args) σ) : ACalls Tryz.prog 89 args σ R := acalls_of Tryz.func89 c89_ok hl h
/-! 110: unicode/utf8.AppendRune -/
def c110_0 : ACode := .ops [
 ⟨some 4, none, .q (.mv (.v (.sl .full []))), []⟩]
def c110_1 : ACode := .ops [
 ⟨some 5, none, .q (.mv (.t 1)), []⟩,
 ⟨some 6, none, .q (.conv .u32 (.t 5)), []⟩,
 ⟨some 7, none, .q (.bin .leq (.t 6) (.v (.int .u32 127))), []⟩]
def c110_2 : ACode := .ops [
 ⟨some 8, none, .q (.mv (.t 0)), []⟩,
 ⟨some 9, none, .q (.mv (.t 1)), []⟩,
 ⟨some 10, none, .q (.conv .u8 (.t 9)), []⟩,
 ⟨some 11, none, .q (.bsl 1 [(.t 10)]), []⟩,
 ⟨some 12, none, .e (.app 5 1 1 [(.int .u8 0)] (.t 8) (.t 11)), []⟩,
 ⟨some 4, none, .q (.mv (.t 12)), []⟩]
def c110_3 : ACode := .seq c110_2 .ret
def c110_4 : ACode := .cond (.t 7) c110_3 .skip
def c110_5 : ACode := .seq c110_1 c110_4
def c110_6 : ACode := .ops [
 ⟨some 13, none, .q (.mv (.t 0)), []⟩,
 ⟨some 14, none, .q (.mv (.t 1)), []⟩,
 ⟨some 15, none, .e (.call 127 [(.t 13), (.t 14)]), []⟩,
 ⟨some 4, none, .q (.mv (.t 15)), []⟩]
def c110_7 : ACode := .seq c110_6 .ret
def c110_8 : ACode := .seq c110_5 c110_7
def c110_9 : ACode := .seq c110_0 c110_8
@[go_sem] def c110_0_wp := wp_of c110_0.eq_1
@[go_sem] def c110_1_wp := wp_of c110_1.eq_1
@[go_sem] def c110_2_wp := wp_of c110_2.eq_1
@[go_sem] def c110_3_wp := wp_of c110_3.eq_1
@[go_sem] def c110_4_wp := wp_of c110_4.eq_1
@[go_sem] def c110_5_wp := wp_of c110_5.eq_1
@[go_sem] def c110_6_wp := wp_of c110_6.eq_1
@[go_sem] def c110_7_wp := wp_of c110_7.eq_1
@[go_sem] def c110_8_wp := wp_of c110_8.eq_1
@[go_sem] def c110_9_wp := wp_of c110_9.eq_1
def c110 : AFn := ⟨16, [.t 4], c110_9⟩
theorem c110_ok : compF Tryz.prog Tryz.f110 = some c110 := by kernel_rfl
theorem a110 {args : List AV} {σ : ASt} {R : AV → ASt → Prop} (hl : args.length ≤ 16) (h : c110_9.wp Tryz.prog (RetQ [.t 4] R) (init args) σ) : ACalls Tryz.prog 110 args σ R := acalls_of Tryz.func110 c110_ok hl h
/-! 127: unicode/utf8.appendRuneNonASCII -/
def c127_0 : ACode := .ops [
 ⟨some 4, none, .q (.mv (.v (.sl .full []))), []⟩]
def c127_1 : ACode := .ops [
 ⟨some 6, none, .q (.mv (.t 1)), []⟩,
 ⟨some 7, none, .q (.conv .u32 (.t 6)), []⟩,
 ⟨some 5, none, .q (.mv (.t 7)), []⟩]
def c127_2 : ACode := .ops [
 ⟨some 12, none, .q (.mv (.t 5)), []⟩,
 ⟨some 13, none, .q (.bin .leq (.t 12) (.v (.int .u32 2047))), []⟩,
 ⟨some 11, none, .q (.mv (.t 13)), []⟩]
def c127_3 : ACode := .ops [
 ⟨some 14, none, .q (.mv (.t 0)), []⟩,
 ⟨some 15, none, .q (.mv (.t 1)), []⟩,
 ⟨some 16, none, .q (.bin .shr (.t 15) (.v (.int .u64 6))), []⟩,
 ⟨some 17, none, .q (.conv .u8 (.t 16)), []⟩,
 ⟨some 18, none, .q (.bin .or (.v (.int .u8 192)) (.t 17)), []⟩,
 ⟨some 19, none, .q (.mv (.t 1)), []⟩,
 ⟨some 20, none, .q (.conv .u8 (.t 19)), []⟩,
 ⟨some 21, none, .q (.bin .and (.t 20) (.v (.int .u8 63))), []⟩,
 ⟨some 22, none, .q (.bin .or (.v (.int .u8 128)) (.t 21)), []⟩,
 ⟨some 23, none, .q (.bsl 1 [(.t 18), (.t 22)]), []⟩,
 ⟨some 24, none, .e (.app 5 1 1 [(.int .u8 0)] (.t 14) (.t 23)), []⟩,
 ⟨some 4, none, .q (.mv (.t 24)), []⟩]
def c127_4 : ACode := .seq c127_3 .ret
def c127_5 : ACode := .ops [
 ⟨some 26, none, .q (.mv (.t 5)), []⟩,
 ⟨some 27, none, .q (.bin .lss (.t 26) (.v (.int .u32 55296))), []⟩,
 ⟨some 25, none, .q (.mv (.t 27)), []⟩]
def c127_6 : ACode := .ops [
 ⟨some 28, none, .q (.mv (.t 5)), []⟩,
 ⟨some 29, none, .q (.bin .lss (.v (.int .u32 57343)) (.t 28)), []⟩,
 ⟨some 30, none, .q (.mv (.t 29)), []⟩,
 ⟨some 31, some (30, true), .q (.mv (.t 5)), []⟩,
 ⟨some 32, some (30, true), .q (.bin .leq (.t 31) (.v (.int .u32 65535))), []⟩,
 ⟨some 33, none, .q (.pick (.t 30) (.t 32) (.v (.bool false))), []⟩,
 ⟨some 25, none, .q (.mv (.t 33)), []⟩]
def c127_7 : ACode := .cond (.t 25) .skip c127_6
def c127_8 : ACode := .seq c127_5 c127_7
def c127_9 : ACode := .ops [
 ⟨some 34, none, .q (.mv (.t 0)), []⟩,
 ⟨some 35, none, .q (.mv (.t 1)), []⟩,
 ⟨some 36, none, .q (.bin .shr (.t 35) (.v (.int .u64 12))), []⟩,
 ⟨some 37, none, .q (.conv .u8 (.t 36)), []⟩,
 ⟨some 38, none, .q (.bin .or (.v (.int .u8 224)) (.t 37)), []⟩,
 ⟨some 39, none, .q (.mv (.t 1)), []⟩,
 ⟨some 40, none, .q (.bin .shr (.t 39) (.v (.int .u64 6))), []⟩,
 ⟨some 41, none, .q (.conv .u8 (.t 40)), []⟩,
 ⟨some 42, none, .q (.bin .and (.t 41) (.v (.int .u8 63))), []⟩,
 ⟨some 43, none, .q (.bin .or (.v (.int .u8 128)) (.t 42)), []⟩,
 ⟨some 44, none, .q (.mv (.t 1)), []⟩,
 ⟨some 45, none, .q (.conv .u8 (.t 44)), []⟩,
 ⟨some 46, none, .q (.bin .and (.t 45) (.v (.int .u8 63))), []⟩,
 ⟨some 47, none, .q (.bin .or (.v (.int .u8 128)) (.t 46)), []⟩,
 ⟨some 48, none, .q (.bsl 1 [(.t 38), (.t 43), (.t 47)]), []⟩,
 ⟨some 49, none, .e (.app 5 1 1 [(.int .u8 0)] (.t 34) (.t 48)), []⟩,
 ⟨some 4, none, .q (.mv (.t 49)), []⟩]
def c127_10 : ACode := .seq c127_9 .ret
def c127_11 : ACode := .ops [
 ⟨some 51, none, .q (.mv (.t 5)), []⟩,
 ⟨some 52, none, .q (.bin .gtr (.t 51) (.v (.int .u32 65535))), []⟩,
 ⟨some 53, none, .q (.mv (.t 52)), []⟩,
 ⟨some 54, some (53, true), .q (.mv (.t 5)), []⟩,
 ⟨some 55, some (53, true), .q (.bin .leq (.t 54) (.v (.int .u32 1114111))), []⟩,
 ⟨some 56, none, .q (.pick (.t 53) (.t 55) (.v (.bool false))), []⟩,
 ⟨some 50, none, .q (.mv (.t 56)), []⟩]
def c127_12 : ACode := .ops [
 ⟨some 57, none, .q (.mv (.t 0)), []⟩,
 ⟨some 58, none, .q (.mv (.t 1)), []⟩,
 ⟨some 59, none, .q (.bin .shr (.t 58) (.v (.int .u64 18))), []⟩,
 ⟨some 60, none, .q (.conv .u8 (.t 59)), []⟩,
 ⟨some 61, none, .q (.bin .or (.v (.int .u8 240)) (.t 60)), []⟩,
 ⟨some 62, none, .q (.mv (.t 1)), []⟩,
 ⟨some 63, none, .q (.bin .shr (.t 62) (.v (.int .u64 12))), []⟩,
 ⟨some 64, none, .q (.conv .u8 (.t 63)), []⟩,
 ⟨some 65, none, .q (.bin .and (.t 64) (.v (.int .u8 63))), []⟩,
 ⟨some 66, none, .q (.bin .or (.v (.int .u8 128)) (.t 65)), []⟩,
 ⟨some 67, none, .q (.mv (.t 1)), []⟩,
 ⟨some 68, none, .q (.bin .shr (.t 67) (.v (.int .u64 6))), []⟩,
 ⟨some 69, none, .q (.conv .u8 (.t 68)), []⟩,
 ⟨some 70, none, .q (.bin .and (.t 69) (.v (.int .u8 63))), []⟩,
 ⟨some 71, none, .q (.bin .or (.v (.int .u8 128)) (.t 70)), []⟩,
 ⟨some 72, none, .q (.mv (.t 1)), []⟩,
 ⟨some 73, none, .q (.conv .u8 (.t 72)), []⟩,
 ⟨some 74, none, .q (.bin .and (.t 73) (.v (.int .u8 63))), []⟩,
 ⟨some 75, none, .q (.bin .or (.v (.int .u8 128)) (.t 74)), []⟩,
 ⟨some 76, none, .q (.bsl 1 [(.t 61), (.t 66), (.t 71), (.t 75)]), []⟩,
 ⟨some 77, none, .e (.app 5 1 1 [(.int .u8 0)] (.t 57) (.t 76)), []⟩,
 ⟨some 4, none, .q (.mv (.t 77)), []⟩]
def c127_13 : ACode := .seq c127_12 .ret
def c127_14 : ACode := .ops [
 ⟨some 8, none, .q (.mv (.t 0)), []⟩,
 ⟨some 9, none, .q (.bsl 1 [(.v (.int .u8 239)), (.v (.int .u8 191)), (.v (.int .u8 189))]), []⟩,
 ⟨some 10, none, .e (.app 5 1 1 [(.int .u8 0)] (.t 8) (.t 9)), []⟩,
 ⟨some 4, none, .q (.mv (.t 10)), []⟩]
def c127_15 : ACode := .seq c127_14 .ret
def c127_16 : ACode := .cond (.t 50) c127_13 c127_15
def c127_17 : ACode := .seq c127_11 c127_16
def c127_18 : ACode := .cond (.t 25) c127_10 c127_17
def c127_19 : ACode := .seq c127_8 c127_18
def c127_20 : ACode := .cond (.t 11) c127_4 c127_19
def c127_21 : ACode := .seq c127_2 c127_20
def c127_22 : ACode := .block 0 c127_21
def c127_23 : ACode := .seq c127_1 c127_22
def c127_24 : ACode := .seq c127_0 c127_23
@[go_sem] def c127_0_wp := wp_of c127_0.eq_1
@[go_sem] def c127_1_wp := wp_of c127_1.eq_1
@[go_sem] def c127_2_wp := wp_of c127_2.eq_1
@[go_sem] def c127_3_wp := wp_of c127_3.eq_1
@[go_sem] def c127_4_wp := wp_of c127_4.eq_1
@[go_sem] def c127_5_wp := wp_of c127_5.eq_1
@[go_sem] def c127_6_wp := wp_of c127_6.eq_1
@[go_sem] def c127_7_wp := wp_of c127_7.eq_1
@[go_sem] def c127_8_wp := wp_of c127_8.eq_1
@[go_sem] def c127_9_wp := wp_of c127_9.eq_1
@[go_sem] def c127_10_wp := wp_of c127_10.eq_1
@[go_sem] def c127_11_wp := wp_of c127_11.eq_1
@[go_sem] def c127_12_wp := wp_of c127_12.eq_1
@[go_sem] def c127_13_wp := wp_of c127_13.eq_1
@[go_sem] def c127_16_wp := wp_of c127_16.eq_1
@[go_sem] def c127_17_wp := wp_of c127_17.eq_1
@[go_sem] def c127_18_wp := wp_of c127_18.eq_1
@[go_sem] def c127_19_wp := wp_of c127_19.eq_1
@[go_sem] def c127_20_wp := wp_of c127_20.eq_1
@[go_sem] def c127_21_wp := wp_of c127_21.eq_1
@[go_sem] def c127_22_wp := wp_of c127_22.eq_1
@[go_sem] def c127_23_wp := wp_of c127_23.eq_1
@[go_sem] def c127_24_wp := wp_of c127_24.eq_1
def c127 : AFn := ⟨78, [.t 4], c127_24⟩
theorem c127_ok : compF Tryz.prog Tryz.f127 = some c127 := by kernel_rfl
theorem a127 {args : List AV} {σ : ASt} {R : AV → ASt → Prop} (hl : args.length ≤ 78) (h : c127_24.wp Tryz.prog (RetQ [.t 4] R) (init args) σ) : ACalls Tryz.prog 127 args σ R := acalls_of Tryz.func127 c127_ok hl h
end Go.A
namespace Go.A
theorem ne_of_role {σ : ASt} {b c : Nat} {r : Role} (h : σ b = some r) (k : σ c = none) : b ≠ c ∧ c ≠ b := by
 constructor <;> rintro rfl <;> rw [h] at k <;> cases k
def GO (σ0 : ASt) (b : Nat) (cs : SK → List AV) (n s : Nat) (σ : ASt) : Prop := ∃ k, Grown (σ0.set b (some (.obj (cs k)))) σ k n s
theorem GO.cell {σ0 σ : ASt} {b n s : Nat} {k : SK} {cs : SK → List AV} (h : Grown (σ0.set b (some (.obj (cs k)))) σ k n s) : σ b = some (.obj (cs k)) := h.at (ASt.set_same _ _ _)
theorem GO.add {σ0 σ : ASt} {b c n s : Nat} {cs : SK → List AV} {r : Role} (h : GO σ0 b cs n s σ) (hc : σ c = none) : GO (σ0.set c (some r)) b cs n s (σ.set c (some r)) ∧ c ≠ b ∧ σ0 c = none := by
 obtain ⟨k, hg⟩ := h
 have hb := GO.cell hg
 have hcb : c ≠ b := by rintro rfl; rw [hb] at hc; cases hc
 have h0 : σ0 c = none := by
  rcases hg with ⟨_, _, rfl⟩ | ⟨t, T, _, _, rfl⟩
  ·rwa [ASt.set_ne hcb] at hc
  ·obtain ⟨_, _, hc⟩ := set_none hc
   rwa [ASt.set_ne hcb] at hc
 refine ⟨⟨k, ?_⟩, hcb, h0⟩
 rcases hg with ⟨h1, h2, rfl⟩ | ⟨t, T, h1, h2, rfl⟩
 ·exact .inl ⟨h1, h2, set_swap (Ne.symm hcb)⟩
 ·obtain ⟨h3, h4, _⟩ := set_none hc
  obtain ⟨h5, h6, h7⟩ := set_none h2
  refine .inr ⟨t, T, h1, ?_, ?_⟩
  ·rw [ASt.set_ne h5, ASt.set_ne (Ne.symm h3)]; exact h7
  ·rw [set_swap h4, set_swap (Ne.symm hcb)]
theorem GO.off {σ0 σ : ASt} {b c n s : Nat} {cs : SK → List AV} {r : Role} (h : GO (σ0.set c (some r)) b cs n s σ) (hcb : c ≠ b) (hc : σ0 c = none) : ∃ σ', Drop σ σ' ∧ GO σ0 b cs n s σ' := by
 obtain ⟨k, hg⟩ := h
 rcases hg with ⟨h1, h2, rfl⟩ | ⟨t, T, h1, h2, rfl⟩
 ·refine ⟨σ0.set b (some (.obj (cs k))), ?_, ⟨k, .inl ⟨h1, h2, rfl⟩⟩⟩
  rw [set_swap hcb]
  exact Drop.set (by rw [ASt.set_ne hcb]; exact hc)
 ·obtain ⟨h3, h4, h5⟩ := set_none h2
  obtain ⟨h6, h7, h8⟩ := set_none h5
  have e : ((σ0.set c (some r)).set b (some (.obj (cs k)))).set t (some (.tok (n * s))) = ((σ0.set b (some (.obj (cs k)))).set t (some (.tok (n * s)))).set c (some r) := by
   rw [set_swap hcb, set_swap h7]
  refine ⟨(σ0.set b (some (.obj (cs k)))).set t (some (.tok (n * s))), ?_, ⟨k, .inr ⟨t, T, h1, ?_, rfl⟩⟩⟩
  ·rw [e]
   exact Drop.set (by rw [ASt.set_ne h7, ASt.set_ne hcb]; exact hc)
  ·rw [ASt.set_ne h3]; exact h8
theorem GO.at {σ0 σ : ASt} {b n s x : Nat} {cs : SK → List AV} {r : Role} (h : GO σ0 b cs n s σ) (hx : x ≠ b) (h0 : σ0 x = some r) : σ x = some r := by
 obtain ⟨k, hg⟩ := h
 exact hg.at (by rw [ASt.set_ne hx]; exact h0)
inductive Over (τ : ASt) : ASt → Prop
 | refl : Over τ τ
 | set {σ : ASt} (c : Nat) (r : Role) : Over τ σ → σ c = none → Over τ (σ.set c (some r))
theorem Over.at {τ σ : ASt} (h : Over τ σ) {x : Nat} {r : Role} (hx : τ x = some r) : σ x = some r := by
 induction h with
 | refl => exact hx
 | set c q h hc ih =>
   have : x ≠ c := by rintro rfl; rw [ih] at hc; cases hc
   rw [ASt.set_ne this]; exact ih
theorem Over.drop {τ σ : ASt} (h : Over τ σ) : Drop σ τ := by
 induction h with
 | refl => exact Drop.refl _
 | set c q h hc ih =>
   intro x
   by_cases hx : x = c
   ·subst hx
    rcases ih x with h1 | h1
    ·exact .inr (h1.trans hc)
    ·exact .inr h1
   ·rcases ih x with h1 | h1
    ·exact .inl (by rw [ASt.set_ne hx]; exact h1)
    ·exact .inr h1
theorem Over.trans {τ σ ρ : ASt} (h : Over τ σ) (k : Over σ ρ) : Over τ ρ := by
 induction k with
 | refl => exact h
 | set c r _ hc ih => exact .set c r ih hc
theorem GO.over {σ0 τ σ : ASt} {b n s : Nat} {cs : SK → List AV} (h : GO σ0 b cs n s τ) (ho : Over τ σ) :
  ∃ σ0', GO σ0' b cs n s σ ∧ Over σ0 σ0' ∧ ∀ cs' n' σ', GO σ0' b cs' n' s σ' → ∃ σ'', Drop σ' σ'' ∧ GO σ0 b cs' n' s σ'' := by
 induction ho with
 | refl => exact ⟨σ0, h, .refl, fun cs' n' σ' h' => ⟨σ', Drop.refl _, h'⟩⟩
 | set c r ho hc ih =>
   obtain ⟨σ0', h1, h2, h3⟩ := ih
   obtain ⟨h4, h5, h6⟩ := h1.add (r := r) hc
   refine ⟨σ0'.set c (some r), h4, .set c r h2 h6, fun cs' n' σ' h' => ?_⟩
   obtain ⟨σ1, h7, h8⟩ := h'.off h5 h6
   obtain ⟨σ2, h9, h10⟩ := h3 _ _ _ h8
   exact ⟨σ2, h7.trans h9, h10⟩
def BW (T U : TypeId) (σ0 : ASt) (b : Nat) (l : List UInt8) (σ : ASt) : Prop :=
 (l = [] ∧ σ = σ0.set b (some (.typ T [.pointer none, .slice none 0 0]))) ∨ (l ≠ [] ∧ ∃ k, GrownT U (σ0.set b (some (.obj [.ptr b 0, .sl k (bytesAV l)]))) σ k l.length 1)
theorem BW.over {T U : TypeId} {σ0 σ : ASt} {b : Nat} {l : List UInt8} (h : BW T U σ0 b l σ) (hb : σ0 b = none) : Over σ0 σ := by
 rcases h with ⟨_, rfl⟩ | ⟨_, k, h1 | ⟨g, _, hg, rfl⟩⟩
 ·exact .set b _ .refl hb
 ·obtain ⟨_, _, rfl⟩ := h1
  exact .set b _ .refl hb
 ·exact .set g _ (.set b _ .refl hb) hg
theorem BW.iter {T U : TypeId} {σ0 σ : ASt} {b it : Nat} {l : List UInt8} {r r' : Role} (h : BW T U (σ0.set it (some r)) b l σ) (hb : it ≠ b) : BW T U (σ0.set it (some r')) b l (σ.set it (some r')) ∧ σ it = some r := by
 rcases h with ⟨h0, rfl⟩ | ⟨h0, k, h1 | ⟨g, h1, hg, rfl⟩⟩
 ·refine ⟨.inl ⟨h0, ?_⟩, by rw [ASt.set_ne hb, ASt.set_same]⟩
  rw [← set_swap hb, ASt.set_set]
 ·obtain ⟨h1, h2, rfl⟩ := h1
  refine ⟨.inr ⟨h0, k, .inl ⟨h1, h2, ?_⟩⟩, by rw [ASt.set_ne hb, ASt.set_same]⟩
  rw [← set_swap hb, ASt.set_set]
 ·obtain ⟨h3, h4, h5⟩ := set_none hg
  obtain ⟨h6, h7, h8⟩ := set_none h5
  refine ⟨.inr ⟨h0, k, .inr ⟨g, h1, ?_, ?_⟩⟩, by rw [ASt.set_ne h7, ASt.set_ne hb, ASt.set_same]⟩
  ·rw [ASt.set_ne h3, ASt.set_ne h6]; exact h8
  ·rw [← set_swap h7, ← set_swap hb, ASt.set_set]
end Go.A
namespace Go.A
open Go.Proofs Go.Lib
abbrev BD := BW 106 5
abbrev GT := GrownT 5
theorem cc_ok {σ0 σ : ASt} {b : Nat} {l : List UInt8} (h : BD σ0 b l σ) : ACalls Tryz.prog 97 [.ptr b 0] σ fun v σ' => v = .tuple [] ∧ ∃ k, GT (σ0.set b (some (.obj [.ptr b 0, .sl k (bytesAV l)]))) σ' k l.length 1 := by
 rcases h with ⟨rfl, rfl⟩ | ⟨h0, k, hg⟩
 ·refine (copyCheck_typ (ASt.set_same _ _ _)).mono ?_
  rintro v σ' ⟨rfl, rfl⟩
  exact ⟨rfl, .full, .inl ⟨rfl, rfl, by rw [ASt.set_set]; rfl⟩⟩
 ·refine (copyCheck_used (hg.at (ASt.set_same _ _ _))).mono ?_
  rintro v σ' ⟨rfl, rfl⟩
  exact ⟨rfl, k, hg⟩
theorem bytesAV_app (l m : List UInt8) : bytesAV l ++ bytesAV m = bytesAV (l ++ m) := by simp [bytesAV]
theorem bytesAV_len (l : List UInt8) : (bytesAV l).length = l.length := by simp [bytesAV]
theorem bytes_leaves (l : List UInt8) : leaves ((bytesAV l).flatMap AV.cells) = true := by unfold bytesAV; exact leaves_map (fun _ => rfl) l
theorem bytes_well (l : List UInt8) : wellSz 1 (bytesAV l) = true := by unfold bytesAV; exact wellSz_map (f := fun c : UInt8 => AV.int .u8 c.toNat) (fun _ => ⟨rfl, rfl⟩) l
theorem appB_by {σ σ0 : ASt} {k k2 : SK} {l m : List UInt8} {ys z : List AV} {K : AV → ASt → Prop} (h : GT σ0 σ k l.length 1) (hy : ys = bytesAV m) (hl : l.length + m.length ≤ 4611686018427)
  (hK : ∀ k' σ', GT σ0 σ' k' (l ++ m).length 1 → K (.sl k' (bytesAV (l ++ m))) σ') : appC 5 1 1 z (.sl k (bytesAV l)) (.sl k2 ys) σ K := by
 subst hy
 refine appCT_by (by rw [bytesAV_len]; exact h) (bytes_well m) (bytes_leaves m) (by simp only [bytesAV_len]; omega) (by simp only [bytesAV_len]; omega) fun k' σ' hg => ?_
 rw [bytesAV_app] at hg ⊢
 rw [bytesAV_len] at hg
 exact hK k' σ' hg
theorem writeByte_ok {σ0 σ : ASt} {b : Nat} {l : List UInt8} (h : BD σ0 b l σ) (c : UInt8) (hl : l.length ≤ 1000000000) :
  ACalls Tryz.prog 79 [.ptr b 0, .int .u8 c.toNat] σ fun v σ' => v = .nili ∧ BD σ0 b (l ++ [c]) σ' := by
 refine a79 (by simp) ?_
 simp (disch := first | assumption | omega) only [go_sem, reduceCtorEq, ↓reduceIte]
 refine (cc_ok h).mono ?_
 rintro v σ1 ⟨rfl, k, hg⟩
 have hb := hg.at (ASt.set_same _ _ _)
 simp (disch := first | assumption | omega) only [go_sem, reduceCtorEq, Nat.reduceEqDiff, ↓reduceIte, Bool.true_and, hb]
 refine appB_by (m := [c]) hg rfl (by simp; omega) fun k' σ' hg' => ?_
 have hb' := hg'.at (ASt.set_same _ _ _)
 simp (disch := first | assumption | omega) only [go_sem, Nat.reduceEqDiff, Nat.reduceAdd, Nat.reduceLeDiff, ↓reduceIte, Bool.true_and, hb']
 exact retC_by (Drop.refl _) (.refl _) ⟨rfl, .inr ⟨by simp, k', hg'.obj⟩⟩
theorem or_a : ∀ y : Int, 0 ≤ y → y < 64 → ((BitVec.ofInt 8 128 ||| BitVec.ofInt 8 y).toNat : Int) = 128 + y := by
 have key : ∀ n : Fin 64, ((BitVec.ofInt 8 128 ||| BitVec.ofInt 8 ((n.val : Nat) : Int)).toNat : Int) = 128 + ((n.val : Nat) : Int) := by decide
 intro y h0 h1
 have := key ⟨y.toNat, by omega⟩
 rwa [Int.toNat_of_nonneg h0] at this
theorem or_b : ∀ y : Int, 0 ≤ y → y < 32 → ((BitVec.ofInt 8 192 ||| BitVec.ofInt 8 y).toNat : Int) = 192 + y := by
 have key : ∀ n : Fin 32, ((BitVec.ofInt 8 192 ||| BitVec.ofInt 8 ((n.val : Nat) : Int)).toNat : Int) = 192 + ((n.val : Nat) : Int) := by decide
 intro y h0 h1
 have := key ⟨y.toNat, by omega⟩
 rwa [Int.toNat_of_nonneg h0] at this
theorem or_c : ∀ y : Int, 0 ≤ y → y < 16 → ((BitVec.ofInt 8 224 ||| BitVec.ofInt 8 y).toNat : Int) = 224 + y := by
 have key : ∀ n : Fin 16, ((BitVec.ofInt 8 224 ||| BitVec.ofInt 8 ((n.val : Nat) : Int)).toNat : Int) = 224 + ((n.val : Nat) : Int) := by decide
 intro y h0 h1
 have := key ⟨y.toNat, by omega⟩
 rwa [Int.toNat_of_nonneg h0] at this
theorem or_d : ∀ y : Int, 0 ≤ y → y < 8 → ((BitVec.ofInt 8 240 ||| BitVec.ofInt 8 y).toNat : Int) = 240 + y := by
 have key : ∀ n : Fin 8, ((BitVec.ofInt 8 240 ||| BitVec.ofInt 8 ((n.val : Nat) : Int)).toNat : Int) = 240 + ((n.val : Nat) : Int) := by decide
 intro y h0 h1
 have := key ⟨y.toNat, by omega⟩
 rwa [Int.toNat_of_nonneg h0] at this
theorem and_63 (y : Int) : ((BitVec.ofInt 8 (y % 256) &&& BitVec.ofInt 8 63).toNat : Int) = y % 64 := by
 have key : ∀ n : Fin 256, ((BitVec.ofInt 8 ((n.val : Nat) : Int) &&& BitVec.ofInt 8 63).toNat : Int) = ((n.val : Nat) : Int) % 64 := by decide
 have := key ⟨(y % 256).toNat, by omega⟩
 rw [Int.toNat_of_nonneg (by omega)] at this
 rw [this]
 omega
theorem wrap_8 (y : Int) : IntKind.wrap .u8 y = y % 256 := IntKind.wrap_u8 y
theorem encAV (r : Int) : (encodeRuneZ r).map (AV.int .u8) = bytesAV (encodeRune r) := by
 unfold bytesAV encodeRune
 rw [List.map_map]
 apply List.map_congr_left
 intro x hx
 obtain ⟨h0, h1⟩ := encodeRuneZ_byte r x hx
 simp [Function.comp]
 omega
theorem enc_len (r : Int) : (encodeRune r).length ≤ 4 := by
 have := encodeRuneZ_length r
 simp [encodeRune]
 omega
def RuneOk (r : Int) : Prop := 0 ≤ r ∧ r ≤ 1114111 ∧ ¬ (55296 ≤ r ∧ r ≤ 57343)
set_option maxHeartbeats 1000000 in
theorem appendRuneN_ok {σ0 σ : ASt} {k : SK} {l : List UInt8} (h : GT σ0 σ k l.length 1) {r : Int} (hr : RuneOk r) (h128 : 127 < r) (hl : l.length ≤ 1000000000) :
  ACalls Tryz.prog 127 [.sl k (bytesAV l), .int .i32 r] σ fun v σ' => ∃ k', v = .sl k' (bytesAV (l ++ encodeRune r)) ∧ GT σ0 σ' k' (l ++ encodeRune r).length 1 := by
 obtain ⟨r0, r1, r2⟩ := hr
 have hel := enc_len r
 have hea := encAV r
 have w1 := wrap_8 r
 have w2 := wrap_8 (r / 64)
 have w3 := wrap_8 (r / 4096)
 have a1 := and_63 r
 have a2 := and_63 (r / 64)
 have a3 := and_63 (r / 4096)
 have o1 := or_a (r % 64) (by omega) (by omega)
 have o2 := or_a (r / 64 % 64) (by omega) (by omega)
 have o3 := or_a (r / 4096 % 64) (by omega) (by omega)
 refine a127 (by simp) ?_
 by_cases c1 : r ≤ 2047
 ·have o4 := or_b (r / 64) (by omega) (by omega)
  have e : [AV.int .u8 ((BitVec.ofInt 8 192 ||| BitVec.ofInt 8 (r / 64)).toNat : Int), AV.int .u8 ((BitVec.ofInt 8 128 ||| BitVec.ofInt 8 ((BitVec.ofInt 8 (r % 256) &&& BitVec.ofInt 8 63).toNat : Int)).toNat : Int)] = [192 + r / 64, 128 + r % 64].map (AV.int .u8) := by
   rw [a1, o1, o4]; rfl
  rw [encodeRuneZ_two (by omega) c1] at hea
  simp (disch := first | assumption | omega) only [go_sem, reduceCtorEq, Nat.reduceEqDiff, ↓reduceIte, Int.reduceToNat, Int.reducePow, Bool.true_and, c1, w1]
  refine appB_by (m := encodeRune r) h (e.trans hea) (by omega) fun k' σ' hg' => ?_
  rw [List.length_append] at hg'
  simp (disch := first | assumption | omega) only [go_sem, ↓reduceIte]
  exact retC_by (Drop.refl _) (.refl _) ⟨k', rfl, hg'⟩
 by_cases c2 : r < 55296
 ·have o4 := or_c (r / 4096) (by omega) (by omega)
  have e : [AV.int .u8 ((BitVec.ofInt 8 224 ||| BitVec.ofInt 8 (r / 4096)).toNat : Int), AV.int .u8 ((BitVec.ofInt 8 128 ||| BitVec.ofInt 8 ((BitVec.ofInt 8 (r / 64 % 256) &&& BitVec.ofInt 8 63).toNat : Int)).toNat : Int),
   AV.int .u8 ((BitVec.ofInt 8 128 ||| BitVec.ofInt 8 ((BitVec.ofInt 8 (r % 256) &&& BitVec.ofInt 8 63).toNat : Int)).toNat : Int)] = [224 + r / 4096, 128 + r / 64 % 64, 128 + r % 64].map (AV.int .u8) := by
   rw [a1, a2, o1, o2, o4]; rfl
  rw [encodeRuneZ_three (by omega)] at hea
  simp (disch := first | assumption | omega) only [go_sem, reduceCtorEq, Nat.reduceEqDiff, ↓reduceIte, Int.reduceToNat, Int.reducePow, Bool.true_and, c1, c2, w1, w2]
  refine appB_by (m := encodeRune r) h (e.trans hea) (by omega) fun k' σ' hg' => ?_
  rw [List.length_append] at hg'
  simp (disch := first | assumption | omega) only [go_sem, ↓reduceIte]
  exact retC_by (Drop.refl _) (.refl _) ⟨k', rfl, hg'⟩
 have c3 : 57343 < r := by omega
 by_cases c4 : r ≤ 65535
 ·have o4 := or_c (r / 4096) (by omega) (by omega)
  have e : [AV.int .u8 ((BitVec.ofInt 8 224 ||| BitVec.ofInt 8 (r / 4096)).toNat : Int), AV.int .u8 ((BitVec.ofInt 8 128 ||| BitVec.ofInt 8 ((BitVec.ofInt 8 (r / 64 % 256) &&& BitVec.ofInt 8 63).toNat : Int)).toNat : Int),
   AV.int .u8 ((BitVec.ofInt 8 128 ||| BitVec.ofInt 8 ((BitVec.ofInt 8 (r % 256) &&& BitVec.ofInt 8 63).toNat : Int)).toNat : Int)] = [224 + r / 4096, 128 + r / 64 % 64, 128 + r % 64].map (AV.int .u8) := by
   rw [a1, a2, o1, o2, o4]; rfl
  rw [encodeRuneZ_three (by omega)] at hea
  simp (disch := first | assumption | omega) only [go_sem, reduceCtorEq, Nat.reduceEqDiff, ↓reduceIte, Int.reduceToNat, Int.reducePow, Bool.true_and, c1, c2, c3, c4, w1, w2]
  refine appB_by (m := encodeRune r) h (e.trans hea) (by omega) fun k' σ' hg' => ?_
  rw [List.length_append] at hg'
  simp (disch := first | assumption | omega) only [go_sem, ↓reduceIte]
  exact retC_by (Drop.refl _) (.refl _) ⟨k', rfl, hg'⟩
 ·have c5 : 65535 < r := by omega
  have o4 := or_d (r / 262144) (by omega) (by omega)
  have e : [AV.int .u8 ((BitVec.ofInt 8 240 ||| BitVec.ofInt 8 (r / 262144)).toNat : Int), AV.int .u8 ((BitVec.ofInt 8 128 ||| BitVec.ofInt 8 ((BitVec.ofInt 8 (r / 4096 % 256) &&& BitVec.ofInt 8 63).toNat : Int)).toNat : Int),
   AV.int .u8 ((BitVec.ofInt 8 128 ||| BitVec.ofInt 8 ((BitVec.ofInt 8 (r / 64 % 256) &&& BitVec.ofInt 8 63).toNat : Int)).toNat : Int), AV.int .u8 ((BitVec.ofInt 8 128 ||| BitVec.ofInt 8 ((BitVec.ofInt 8 (r % 256) &&& BitVec.ofInt 8 63).toNat : Int)).toNat : Int)] = [240 + r / 262144, 128 + r / 4096 % 64, 128 + r / 64 % 64, 128 + r % 64].map (AV.int .u8) := by
   rw [a1, a2, a3, o1, o2, o3, o4]; rfl
  rw [encodeRuneZ_four (by omega) (by omega)] at hea
  simp (disch := first | assumption | omega) only [go_sem, reduceCtorEq, Nat.reduceEqDiff, ↓reduceIte, Int.reduceToNat, Int.reducePow, Bool.true_and, c1, c2, c3, c4, c5, w1, w2, w3]
  refine appB_by (m := encodeRune r) h (e.trans hea) (by omega) fun k' σ' hg' => ?_
  rw [List.length_append] at hg'
  simp (disch := first | assumption | omega) only [go_sem, ↓reduceIte]
  exact retC_by (Drop.refl _) (.refl _) ⟨k', rfl, hg'⟩
theorem appendRune_ok {σ0 σ : ASt} {k : SK} {l : List UInt8} (h : GT σ0 σ k l.length 1) {r : Int} (hr : RuneOk r) (hl : l.length ≤ 1000000000) :
  ACalls Tryz.prog 110 [.sl k (bytesAV l), .int .i32 r] σ fun v σ' => ∃ k', v = .sl k' (bytesAV (l ++ encodeRune r)) ∧ GT σ0 σ' k' (l ++ encodeRune r).length 1 := by
 obtain ⟨r0, r1, r2⟩ := hr
 have hel := enc_len r
 have hea := encAV r
 refine a110 (by simp) ?_
 by_cases c1 : r ≤ 127
 ·rw [encodeRuneZ_one r0 c1] at hea
  simp (disch := first | assumption | omega) only [go_sem, reduceCtorEq, Nat.reduceEqDiff, ↓reduceIte, Bool.true_and, c1]
  refine appB_by (m := encodeRune r) h hea (by omega) fun k' σ' hg' => ?_
  rw [List.length_append] at hg'
  simp (disch := first | assumption | omega) only [go_sem, ↓reduceIte]
  exact retC_by (Drop.refl _) (.refl _) ⟨k', rfl, hg'⟩
 ·simp (disch := first | assumption | omega) only [go_sem, reduceCtorEq, Nat.reduceEqDiff, ↓reduceIte, c1]
  refine (appendRuneN_ok h ⟨r0, r1, r2⟩ (by omega) hl).mono ?_
  rintro v σ' ⟨k', rfl, hg'⟩
  rw [List.length_append] at hg'
  simp (disch := first | assumption | omega) only [go_sem, ↓reduceIte]
  exact retC_by (Drop.refl _) (.refl _) ⟨k', rfl, hg'⟩
theorem writeRune_ok {σ0 σ : ASt} {b : Nat} {l : List UInt8} (h : BD σ0 b l σ) {r : Int} (hr : RuneOk r) (hl : l.length ≤ 1000000000) :
  ACalls Tryz.prog 89 [.ptr b 0, .int .i32 r] σ fun v σ' => BD σ0 b (l ++ encodeRune r) σ' := by
 refine a89 (by simp) ?_
 have hel := enc_len r
 have hne : encodeRune r ≠ [] := by
  intro h
  have := encodeRuneZ_length r
  have h2 := congrArg List.length h
  simp [encodeRune] at h2
  rw [h2] at this
  simp at this
 simp (disch := first | assumption | omega) only [go_sem, reduceCtorEq, ↓reduceIte]
 refine (cc_ok h).mono ?_
 rintro v σ1 ⟨rfl, k, hg⟩
 have hb := hg.at (ASt.set_same _ _ _)
 have hbl := bytesAV_len l
 simp (disch := first | assumption | omega) only [go_sem, reduceCtorEq, Nat.reduceEqDiff, ↓reduceIte, hb, hbl]
 refine (appendRune_ok hg hr hl).mono ?_
 rintro v σ' ⟨k', rfl, hg'⟩
 have hb' := hg'.at (ASt.set_same _ _ _)
 have hbl' := bytesAV_len (l ++ encodeRune r)
 have hll : (l ++ encodeRune r).length ≤ 1000000004 := by simp; omega
 simp (disch := first | assumption | omega) only [go_sem, reduceCtorEq, Nat.reduceEqDiff, Nat.reduceAdd, Nat.reduceLeDiff, ↓reduceIte, Bool.true_and, hb', hbl']
 exact retC_by (Drop.refl _) (.refl _) (.inr ⟨by simp [hne], k', hg'.obj⟩)
theorem bstring_ok {σ0 σ : ASt} {b : Nat} {l : List UInt8} (h : BD σ0 b l σ) (hl : l.length ≤ 1000000000) : ACalls Tryz.prog 53 [.ptr b 0] σ fun v σ' => v = .str l ∧ σ' = σ := by
 rcases h with ⟨rfl, rfl⟩ | ⟨h0, k, hg⟩
 ·exact bstring_typ (ASt.set_same _ _ _)
 ·have hb := hg.at (ASt.set_same _ _ _)
  rcases hg with ⟨_, h1, _⟩ | ⟨g, rfl, hg, rfl⟩
  ·exact absurd (List.eq_nil_of_length_eq_zero h1) h0
  ·refine bstring_used h0 (by omega) hb (by rw [ASt.set_same, Nat.mul_one])
end Go.A
namespace Go.A
open Go.Proofs
/-! 72: (*strings.Builder).WriteString -/
def c72_0 : ACode := .ops [
 ⟨some 4, none, .q (.mv (.v (.int .i64 0))), []⟩,
 ⟨some 5, none, .q (.mv (.v .nili)), []⟩]
def c72_1 : ACode := .ops [
 ⟨some 6, none, .q (.mv (.t 0)), []⟩,
 ⟨some 7, none, .e (.call 97 [(.t 6)]), []⟩]
def c72_2 : ACode := .ops [
 ⟨some 8, none, .q (.mv (.t 0)), []⟩,
 ⟨some 9, none, .q (.mv (.t 0)), []⟩,
 ⟨some 10, none, .q (.nc (.t 9)), []⟩,
 ⟨some 11, none, .q (.fa 1 (.t 10)), []⟩,
 ⟨some 12, none, .q (.ld none (.t 11)), []⟩,
 ⟨some 13, none, .q (.mv (.t 1)), []⟩,
 ⟨some 14, none, .e (.apps 5 (.t 12) (.t 13)), []⟩,
 ⟨some 15, none, .q (.nc (.t 8)), []⟩,
 ⟨some 16, none, .q (.fa 1 (.t 15)), []⟩,
 ⟨none, none, .e (.store 1 (.t 16) (.t 14)), []⟩]
def c72_3 : ACode := .ops [
 ⟨some 17, none, .q (.mv (.t 1)), []⟩,
 ⟨some 18, none, .q (.lenS (.t 17)), []⟩,
 ⟨some 4, none, .q (.mv (.t 18)), []⟩,
 ⟨some 5, none, .q (.mv (.v .nili)), []⟩]
def c72_4 : ACode := .seq c72_3 .ret
def c72_5 : ACode := .seq c72_2 c72_4
def c72_6 : ACode := .seq c72_1 c72_5
def c72_7 : ACode := .seq c72_0 c72_6
@[go_sem] def c72_0_wp := wp_of c72_0.eq_1
@[go_sem] def c72_1_wp := wp_of c72_1.eq_1
@[go_sem] def c72_2_wp := wp_of c72_2.eq_1
@[go_sem] def c72_3_wp := wp_of c72_3.eq_1
@[go_sem] def c72_4_wp := wp_of c72_4.eq_1
@[go_sem] def c72_5_wp := wp_of c72_5.eq_1
@[go_sem] def c72_6_wp := wp_of c72_6.eq_1
@[go_sem] def c72_7_wp := wp_of c72_7.eq_1
def c72 : AFn := ⟨19, [.t 4, .t 5], c72_7⟩
theorem c72_ok : compF Tryz.prog Tryz.f72 = some c72 := by kernel_rfl
theorem a72 {args : List AV} {σ : ASt} {R : AV → ASt → Prop} (hl : args.length ≤ 19) (h : c72_7.wp Tryz.prog (RetQ [.t 4, .t 5] R) (init args) σ) : ACalls Tryz.prog 72 args σ R := acalls_of Tryz.func72 c72_ok hl h
end Go.A
