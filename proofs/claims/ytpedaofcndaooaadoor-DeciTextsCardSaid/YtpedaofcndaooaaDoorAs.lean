/- The operations that only look, compiled: what each comes to; that it does. -/
import Derived.Test.YtpedaofcndaooaaDoorAr
namespace Go.A
set_option linter.unusedSimpArgs false
set_option linter.unusedVariables false

inductive QOp where
  | mv (x : Opd)
  | pick (c x y : Opd)
  | bin (op : BinOp) (x y : Opd)
  | eq (k : EqK) (neg : Bool) (x y : Opd)
  | eqs (neg : Bool) (l : List (Nat × Nat)) (x y : Opd)
  | un (op : UnOp) (x : Opd)
  | conv (k : IntKind) (x : Opd)
  | s2s (x : Opd)
  | s2b (x : Opd)
  | b2s (x : Opd)
  | fld (o : Nat) (n : Option Nat) (x : Opd)
  | fa (o : Nat) (x : Opd)
  | ia (s : Nat) (x i : Opd)
  | iaa (len s : Nat) (x i : Opd)
  | idx (x i : Opd)
  | ld (n : Option Nat) (p : Opd)
  | nc (x : Opd)
  | len (x : Opd)
  | lenS (x : Opd)
  | ext (i : Nat) (x : Opd)
  | mki (t : TypeId) (x : Opd)
  | build (z : List AV) (ps : List (Nat × Nat × Opd))
  | bsl (s : Nat) (xs : List Opd)
  | sls (s : Bool × Nat) (x lo hi : Opd)
  | slfrom (s : Bool × Nat) (x lo : Opd)
  | slto (s : Bool × Nat) (x hi : Opd)
  | slall (s : Bool × Nat) (x : Opd)
  | mnx (mx : Bool) (x y : Opd)
  | mkf (fn : Fn) (first cap : List Opd)
  | ta (t : TypeId) (z : AV) (ok : Bool) (x : Opd)
  | box (x : Opd)
  deriving Inhabited

def AV.isAny : AV → Bool
  | .any => true
  | _ => false
def fieldVal (o : Nat) (n : Option Nat) (cs : List AV) : Option AV :=
  match n with
  | some n => if o + n ≤ cs.length then some (.agg ((cs.drop o).take n)) else none
  | none => cs[o]?
def fillC (cells : List AV) : List (Nat × Nat × AV) → Option (List AV)
  | [] => some cells
  | (off, size, v) :: rest =>
    if v.isAny = false ∧ v.cells.length = size ∧ off + size ≤ cells.length then fillC (cells.take off ++ v.cells ++ cells.drop (off + size)) rest else none
/-- Elements of so many cells, each known. -/
def wellSz (s : Nat) : List AV → Bool
  | [] => true
  | x :: xs => !x.isAny && x.cells.length == s && wellSz s xs
def allSz (s : Nat) (xs : List AV) : Bool := xs.all fun x => x.cells.length == s
/-- A part of a slice or of a text. -/
def slV (s : Bool × Nat) (x : AV) (lo hi : Int) : Option AV :=
  if lo < 0 ∨ hi < lo then none else
  match s.1, x with
  | true, .str l => if hi ≤ l.length then some (.str ((l.take hi.toNat).drop lo.toNat)) else none
  | false, .sl _ xs => if hi ≤ xs.length then if lo = 0 then some (.sl .shr (xs.take hi.toNat)) else if allSz s.2 xs then some (.sl .shr ((xs.take hi.toNat).drop lo.toNat)) else none else none
  | false, .msl b o _ c => if hi ≤ c then some (.msl b (if lo = c then o else o + lo.toNat * s.2) (hi.toNat - lo.toNat) (c - lo.toNat)) else none
  | _, _ => none
def bytesOf : List AV → Option (List UInt8)
  | [] => some []
  | .int .u8 n :: xs => match bytesOf xs with
    | some l => some (UInt8.ofNat n.toNat :: l)
    | none => none
  | _ => none
def lenV : AV → Option Nat
  | .str l => some l.length
  | .sl _ xs => some xs.length
  | .msl _ _ n _ => some n
  | _ => none
def intV : AV → Option Int
  | .int _ n => some n
  | _ => none

/-- Two leaves of one kind (0 numbers, 1 bools, 2 texts) held against one another; the leaves of two structs. -/
def leafEq : Nat → AV → AV → Option Bool
  | 0, .int k x, .int k' y => if k = k' then some (decide (x = y)) else none
  | 1, .bool x, .bool y => some (decide (x = y))
  | 2, .str x, .str y => some (decide (x = y))
  | _, _, _ => none
def eqCs : List (Nat × Nat) → List AV → List AV → Option Bool
  | [], _, _ => some true
  | (o, k) :: os, cs, ds => match cs[o]?, ds[o]? with
    | some x, some y => match leafEq k x y, eqCs os cs ds with
      | some r, some q => some (r && q)
      | _, _ => none
    | _, _ => none

def QOp.ev (q : QOp) (a : AFr) (σ : ASt) : Option AV :=
  match q with
  | .mv x => some (x.ev a)
  | .pick c x y => match c.ev a with
    | .bool b => some (if b then x.ev a else y.ev a)
    | _ => none
  | .bin op x y => binV op (x.ev a) (y.ev a)
  | .eq k neg x y => match eqV k (x.ev a) (y.ev a) with
    | some b => some (.bool (if neg then !b else b))
    | none => none
  | .eqs neg l x y => match x.ev a, y.ev a with
    | .agg cs, .agg ds => match eqCs l cs ds with
      | some b => some (.bool (if neg then !b else b))
      | none => none
    | _, _ => none
  | .un op x => match op, x.ev a with
    | .neg, .int k n => some (.int k (k.wrap (0 - n)))
    | .not, .bool b => some (.bool (!b))
    | .xor, .int k n => binI .xor k (if k.signed then -1 else k.max) n
    | _, _ => none
  | .conv k x => match x.ev a with
    | .int _ n => some (.int k (k.wrap n))
    | _ => none
  | .s2s x => match x.ev a with
    | .str l => some (.str l)
    | _ => none
  | .s2b x => match x.ev a with
    | .str l => some (.sl .shr (l.map fun c => .int .u8 c.toNat))
    | _ => none
  | .b2s x => match x.ev a with
    | .sl _ xs => match bytesOf xs with
      | some l => some (.str l)
      | none => none
    | .msl b o n _ => match known σ b with
      | some cs => if o + n ≤ cs.length then match bytesOf ((cs.drop o).take n) with
          | some l => some (.str l)
          | none => none
        else none
      | none => none
    | _ => none
  | .fld o n x => match x.ev a with
    | .agg cs => fieldVal o n cs
    | _ => none
  | .fa o x => match x.ev a with
    | .ptr b p => some (.ptr b (p + o))
    | .imm cs => some (.imm (cs.drop o))
    | _ => none
  | .ia s x i => match x.ev a, intV (i.ev a) with
    | .sl _ xs, some i => if i < 0 then none else match xs[i.toNat]? with
      | some y => if y.cells.length = s then some (.imm y.cells) else none
      | none => none
    | .msl b o n _, some i => if i < 0 then none else if i < n then some (.ptr b (o + i.toNat * s)) else none
    | _, _ => none
  | .iaa m s x i => match x.ev a, intV (i.ev a) with
    | .ptr b o, some i => if i < 0 then none else if i < m then some (.ptr b (o + i.toNat * s)) else none
    | .imm cs, some i => if i < 0 then none else if i < m then some (.imm (cs.drop (i.toNat * s))) else none
    | _, _ => none
  | .idx x i => match x.ev a, intV (i.ev a) with
    | .str l, some i => if i < 0 then none else match l[i.toNat]? with
      | some c => some (.int .u8 c.toNat)
      | none => none
    | _, _ => none
  | .ld n p => match p.ev a with
    | .ptr b o => match known σ b with
      | some cs => fieldVal o n cs
      | none => none
    | .imm cs => fieldVal 0 n cs
    | _ => none
  | .nc x => match x.ev a with
    | .ptr b o => some (.ptr b o)
    | .imm cs => some (.imm cs)
    | _ => none
  | .len x => match x.ev a with
    | .sl _ xs => some (.int .i64 xs.length)
    | .msl _ _ n _ => some (.int .i64 n)
    | _ => none
  | .lenS x => match x.ev a with
    | .str l => some (.int .i64 l.length)
    | _ => none
  | .ext i x => match x.ev a with
    | .tuple vs => vs[i]?
    | _ => none
  | .mki t x => some (.iface t (x.ev a))
  | .build z ps => (fillC z (ps.map fun (o, n, x) => (o, n, x.ev a))).map .agg
  | .bsl s xs => if wellSz s (xs.map (·.ev a)) then some (.sl .full (xs.map (·.ev a))) else none
  | .sls s x lo hi => match intV (lo.ev a), intV (hi.ev a) with
    | some lo, some hi => slV s (x.ev a) lo hi
    | _, _ => none
  | .slfrom s x lo => match intV (lo.ev a), lenV (x.ev a) with
    | some lo, some n => slV s (x.ev a) lo n
    | _, _ => none
  | .slto s x hi => match intV (hi.ev a) with
    | some hi => slV s (x.ev a) 0 hi
    | _ => none
  | .slall s x => match lenV (x.ev a) with
    | some n => slV s (x.ev a) 0 n
    | _ => none
  | .mnx mx x y => match x.ev a, y.ev a with
    | .int k m, .int _ n => some (.int k (if mx then (if n > m then n else m) else (if n < m then n else m)))
    | _, _ => none
  | .mkf fn first cap => some (.func fn (first.map (·.ev a)) (cap.map (·.ev a)))
  | .ta t z ok x => match x.ev a with
    | .iface s v => if s = t then some (if ok then .tuple [v, .bool true] else v) else if ok then some (.tuple [z, .bool false]) else none
    | .nili => if ok then some (.tuple [z, .bool false]) else none
    | _ => none
  | .box x => if (x.ev a).isAny then none else some (.imm (x.ev a).cells)

/-- The size of a variable that is read whole; 'none': one cell. -/
def aggOf (P : Program) (t : TypeId) : Option (Option Nat) :=
  match P.underlying t, P.info? t with
  | some (.struct _), some i => some (some i.size)
  | some (.array _ _), some i => some (some i.size)
  | some _, some _ => some none
  | _, _ => none
def fieldOf (P : Program) (t : TypeId) (f : Nat) : Option (Nat × TypeId) :=
  match P.underlying t with
  | some (.struct fs) => match fs[f]? with
    | some fd => some (fd.offset, fd.type)
    | none => none
  | _ => none
def sizeT (P : Program) (t : TypeId) : Option Nat := (P.info? t).map (·.size)
def zeroT (P : Program) (t : TypeId) : Option AV :=
  match P.info? t with
  | some i => match i.zero with
    | some v => ofVal v
    | none => none
  | none => none
def partsOf (P : Program) (t : TypeId) : List (Nat × Operand) → Option (List (Nat × Nat × Opd))
  | [] => some []
  | (i, x) :: ps => match fieldOf P t i, opd x, partsOf P t ps with
    | some (o, ft), some x', some ps' => match sizeT P ft with
      | some n => some ((o, n, x') :: ps')
      | none => none
    | _, _, _ => none
/-- All fields have sizes. -/
def fieldsOk (P : Program) (t : TypeId) : Bool :=
  match P.underlying t with
  | some (.struct fs) => fs.toList.all fun f => (P.info? f.type).isSome
  | _ => false
def elemsOf (k : Nat) : List (Nat × Operand) → Option (List Opd)
  | [] => some []
  | (i, x) :: ps => if i = k then match opd x, elemsOf (k + 1) ps with
      | some x', some ps' => some (x' :: ps')
      | _, _ => none
    else none

def sliceSz (P : Program) (T : TypeId) : Option (Bool × Nat) :=
  match P.underlying T with
  | some .string => some (true, 0)
  | some (.slice e) => (sizeT P e).map fun n => (false, n)
  | _ => none
/-- The leaves of a struct, where they lie. -/
def leafK (P : Program) (t : TypeId) : Option Nat :=
  match P.underlying t with
  | some (.int _) => some 0
  | some .bool => some 1
  | some .string => some 2
  | _ => none
def eqFs (P : Program) (sub : List Field → Option (List (Nat × Nat))) : List Field → Option (List (Nat × Nat))
  | [] => some []
  | f :: fs => if f.name = "_" then none else match aggOf P f.type, eqFs P sub fs with
    | some none, some r => match leafK P f.type with
      | some k => some ((f.offset, k) :: r)
      | none => none
    | some (some m), some r => match P.underlying f.type with
      | some (.struct gs) => if P.stoodInHeld f.type then none else match sub gs.toList with
        | some l => if l.all fun p => p.1 < m then some (l.map (fun p => (f.offset + p.1, p.2)) ++ r) else none
        | none => none
      | _ => none
    | _, _ => none
def eqOffs (P : Program) : Nat → List Field → Option (List (Nat × Nat))
  | 0 => eqFs P fun _ => none
  | n + 1 => eqFs P (eqOffs P n)
def eqsOf (P : Program) (T : TypeId) : Option (List (Nat × Nat)) :=
  match P.underlying T with
  | some (.struct fs) => if P.stoodInHeld T || P.eqGuardType P.depth T then none else eqOffs P 6 fs.toList
  | _ => none
def isEq : BinOp → Bool
  | .eql | .neq => true
  | _ => false
def compQ (P : Program) (o : Oper) : Option QOp :=
  match o.op with
  | .move x => (opd x).map .mv
  | .assign x => (opd x).map .mv
  | .pick c x y => match opd c, opd x, opd y with
    | some c, some x, some y => some (.pick c x y)
    | _, _, _ => none
  | .binOp op T x y _ => match opd x, opd y with
    | some x, some y => if isEq op then match eqK P T with
        | some k => some (.eq k (op == .neq) x y)
        | none => match eqsOf P T with
          | some l => some (.eqs (op == .neq) l x y)
          | none => some (.bin op x y)
      else some (.bin op x y)
    | _, _ => none
  | .unOp op _ x => (opd x).map (.un op)
  | .convert s d x => match opd x, P.underlying s, P.underlying d with
    | some x, some (.int _), some (.int k) => some (.conv k x)
    | some x, some .string, some .string => some (.s2s x)
    | some x, some (.slice e), some .string => match P.underlying e with
      | some (.int .u8) => some (.b2s x)
      | _ => none
    | _, _, _ => none
  | .field T x f => match opd x, fieldOf P T f with
    | some x, some (o, ft) => (aggOf P ft).map fun n => .fld o n x
    | _, _ => none
  | .fieldAddr T x f => match opd x, fieldOf P T f with
    | some x, some (o, ft) => match sizeT P ft with
      | some (_ + 1) => some (.fa o x)
      | _ => none
    | _, _ => none
  | .indexAddr T x i => match opd x, opd i, P.underlying T with
    | some x, some i, some (.slice e) => (sizeT P e).map fun s => .ia s x i
    | some x, some i, some (.array n e) => (sizeT P e).map fun s => .iaa n s x i
    | _, _, _ => none
  | .index T x i => match opd x, opd i, P.underlying T with
    | some x, some i, some .string => some (.idx x i)
    | _, _, _ => none
  | .load T p => match opd p, aggOf P T with
    | some p, some n => some (.ld n p)
    | _, _ => none
  | .nilCheck x => (opd x).map .nc
  | .extract x i => (opd x).map (.ext i)
  | .makeInterface T x => match opd x, P.underlying T with
    | some _, some (.interface _) => none
    | some x, some _ => some (.mki T x)
    | _, _ => none
  | .build T ps => match zeroT P T, partsOf P T ps.toList with
    | some (.agg z), some ps => if fieldsOk P T then some (.build z ps) else none
    | _, _ => none
  | .buildSlice T n ps => match P.underlying T with
    | some (.slice e) => match P.info? e, elemsOf 0 ps.toList with
      | some i, some xs => if xs.length = n ∧ n * i.size ≤ 16777216 ∧ i.zero.isSome then some (.bsl i.size xs) else none
      | _, _ => none
    | _ => none
  | .slice T x lo hi none => match opd x, sliceSz P T with
    | some x, some s => match lo, hi with
      | some lo, some hi => match opd lo, opd hi with
        | some lo, some hi => some (.sls s x lo hi)
        | _, _ => none
      | some lo, none => (opd lo).map (.slfrom s x)
      | none, some hi => (opd hi).map (.slto s x)
      | none, none => some (.slall s x)
    | _, _ => none
  | .makeFunc fn first cap => match opds first.toList, opds cap.toList with
    | some f, some c => some (.mkf fn f c)
    | _, _ => none
  | .typeAssert x _ t ok => match opd x, P.underlying t, zeroT P t with
    | some _, some (.interface _), _ => none
    | some x, some _, some z => some (.ta t z ok x)
    | _, _, _ => none
  | .call { callee := .builtin .len, args := ⟨[x]⟩, argTypes := ⟨[t]⟩ } => match opd x, P.underlying t with
    | some x, some .string => some (.lenS x)
    | some x, some (.slice _) => some (.len x)
    | _, _ => none
  | .call { callee := .builtin .min, args := ⟨[x, y]⟩, argTypes := _ } => match opd x, opd y with
    | some x, some y => some (.mnx false x y)
    | _, _ => none
  | .call { callee := .builtin .max, args := ⟨[x, y]⟩, argTypes := _ } => match opd x, opd y with
    | some x, some y => some (.mnx true x y)
    | _, _ => none
  | _ => none

/-- Only these look at what may be written. -/
def QOp.reads : QOp → Bool
  | .ld _ _ => true
  | .b2s _ => true
  | _ => false
theorem QOp.ev_still {q : QOp} (h : q.reads = false) (a : AFr) (σ σ' : ASt) : q.ev a σ = q.ev a σ' := by
  cases q <;> first | rfl | cases h
end Go.A
