/- Operations that only look: what they come to, abstractly. -/
import Derived.Test.YtpedaofcndaooaaDoorAv
namespace Go.A
set_option linter.unusedSimpArgs false
set_option linter.unusedVariables false

/-- An operand. -/
inductive Opd where
  | t (t : Nat)
  | v (a : AV)
  deriving Inhabited
def Opd.ev (a : AFr) : Opd → AV
  | .t s => a s
  | .v x => x

def ofLeaf : Value → Option AV
  | .bool b => some (.bool b)
  | .int k n => some (.int k n)
  | .string s => some (.str s.data.toList)
  | .pointer none => some .nilp
  | .slice none 0 0 => some (.sl .full [])
  | .nilIface => some .nili
  | .nilFunc => some .nilf
  | .func (.func f) ⟨[]⟩ ⟨[]⟩ => some (.func (.func f) [] [])
  | _ => none
def ofLeaves : List Value → Option (List AV)
  | [] => some []
  | v :: vs => match ofLeaf v, ofLeaves vs with
    | some a, some as => some (a :: as)
    | _, _ => none
def ofVal : Value → Option AV
  | .agg cs => (ofLeaves cs.toList).map .agg
  | v => ofLeaf v
def opd : Operand → Option Opd
  | .tmp t => some (.t t)
  | .const v => (ofVal v).map .v
  | .global g => some (.v (.ptr g 0))
  | .func f => some (.v (.func (.func f) [] []))
def opds : List Operand → Option (List Opd)
  | [] => some []
  | x :: xs => match opd x, opds xs with
    | some a, some as => some (a :: as)
    | _, _ => none

section
variable {σ : ASt} {w : World}
theorem ofLeaf_rep {v : Value} {a : AV} (h : ofLeaf v = some a) : Rep σ w a v := by
  unfold ofLeaf at h
  split at h <;> (try injection h with h) <;> (try subst h)
  · exact .bool _
  · exact .int _ _
  · exact .str _
  · exact .nilp
  · exact .slN
  · exact .nili
  · exact .nilf
  · exact .func .nil .nil
  · cases h
theorem ofLeaves_rep : ∀ {vs : List Value} {as : List AV}, ofLeaves vs = some as → Reps σ w as vs
  | [], as, h => by injection h with h; subst h; exact .nil
  | v :: vs, as, h => by
    unfold ofLeaves at h
    split at h
    · rename_i a as' h1 h2
      injection h with h
      subst h
      exact .cons (ofLeaf_rep h1) (ofLeaves_rep h2)
    · cases h
theorem ofVal_rep {v : Value} {a : AV} (h : ofVal v = some a) : Rep σ w a v := by
  unfold ofVal at h
  split at h
  · rename_i cs
    cases h1 : ofLeaves cs.toList with
    | none => simp [h1] at h
    | some as =>
      simp only [h1, Option.map_some, Option.some.injEq] at h
      subst h
      exact .agg (vs := cs.toList) (ofLeaves_rep h1)
  · exact ofLeaf_rep h

/-- The temporaries that an operand looks at. -/
def looksO : Operand → List Nat
  | .tmp t => [t]
  | _ => []
theorem opd_rep {a : AFr} {act : Act} {x : Operand} {y : Opd} (h : opd x = some y) (hr : ∀ t, x = .tmp t → Rep σ w (a t) (act.tmps.getD t undef)) : Rep σ w (y.ev a) (act.eval x) := by
  cases x with
  | tmp t => injection h with h; subst h; exact hr _ rfl
  | const v =>
    simp only [opd] at h
    cases h1 : ofVal v with
    | none => simp [h1] at h
    | some as =>
      simp only [h1, Option.map_some, Option.some.injEq] at h
      subst h
      exact ofVal_rep h1
  | global g => injection h with h; subst h; exact .ptr _ _
  | func f => injection h with h; subst h; exact .func .nil .nil
theorem opds_rep {a : AFr} {act : Act} : ∀ {xs : List Operand} {ys : List Opd}, opds xs = some ys → (∀ t, Operand.tmp t ∈ xs → Rep σ w (a t) (act.tmps.getD t undef)) →
    Reps σ w (ys.map (·.ev a)) (xs.map act.eval)
  | [], ys, h, _ => by injection h with h; subst h; exact .nil
  | x :: xs, ys, h, hr => by
    unfold opds at h
    split at h
    · rename_i y ys' h1 h2
      injection h with h
      subst h
      exact .cons (opd_rep h1 fun t ht => hr t (by simp [ht])) (opds_rep h2 fun t ht => hr t (by simp [ht]))
    · cases h
end

/-- What an operation that only looks comes to: it runs, and leaves the roles. -/
def OkQ (P : Program) (o : Oper) (σ : ASt) (w : World) (act : Act) (v : AV) : Prop :=
  ∃ u w', (execOp act.eval o).run P w = .ok (.value u) w' ∧ Le σ w σ w' ∧ Sim σ w' ∧ Rep σ w' v u
theorem OkQ.same {P : Program} {o : Oper} {σ : ASt} {w : World} {act : Act} {v : AV} {u : Value} (hs : Sim σ w) (h : (execOp act.eval o).run P w = .ok (.value u) w) (hr : Rep σ w v u) : OkQ P o σ w act v :=
  ⟨u, w, h, Le.refl _ _, hs, hr⟩

/-- Two integers. -/
def binI (op : BinOp) (k : IntKind) (x y : Int) : Option AV :=
  match op with
  | .add => some (.int k (k.wrap (x + y)))
  | .sub => some (.int k (k.wrap (x - y)))
  | .mul => some (.int k (k.wrap (x * y)))
  | .quo => if y = 0 then none else some (.int k (k.wrap (x.tdiv y)))
  | .rem => if y = 0 then none else some (.int k (x.tmod y))
  | .and => some (.int k (k.wrap (BitVec.ofInt k.bits x &&& BitVec.ofInt k.bits y).toNat))
  | .or => some (.int k (k.wrap (BitVec.ofInt k.bits x ||| BitVec.ofInt k.bits y).toNat))
  | .xor => some (.int k (k.wrap (BitVec.ofInt k.bits x ^^^ BitVec.ofInt k.bits y).toNat))
  | .andNot => some (.int k (k.wrap (BitVec.ofInt k.bits x &&& ~~~BitVec.ofInt k.bits y).toNat))
  | .eql => some (.bool (decide (x = y)))
  | .neq => some (.bool (!decide (x = y)))
  | .lss => some (.bool (decide (x < y)))
  | .leq => some (.bool (decide (x ≤ y)))
  | .gtr => some (.bool (decide (y < x)))
  | .geq => some (.bool (decide (y ≤ x)))
  | _ => none
def shI (op : BinOp) (k : IntKind) (x y : Int) : Option AV :=
  if y < 0 then none else
  match op with
  | .shl => some (.int k (k.wrap (x * 2 ^ min y.toNat k.bits)))
  | .shr => some (.int k (x / 2 ^ min y.toNat k.bits))
  | _ => none
def binS (op : BinOp) (x y : List UInt8) : Option AV :=
  match op with
  | .add => if x.length + y.length ≤ 9223372036854775807 then some (.str (x ++ y)) else none
  | .eql => some (.bool (decide (x = y)))
  | .neq => some (.bool (!decide (x = y)))
  | .lss => some (.bool (Op.bytesLess x y))
  | .leq => some (.bool (Op.bytesLess x y || decide (x = y)))
  | .gtr => some (.bool (!(Op.bytesLess x y || decide (x = y))))
  | .geq => some (.bool (!Op.bytesLess x y))
  | _ => none
/-- What is held against nil; two bools. -/
inductive EqK where
  | p | i | f | b
  deriving DecidableEq, Inhabited
def eqV : EqK → AV → AV → Option Bool
  | .p, .nilp, .nilp => some true
  | .p, .nilp, .ptr _ _ => some false
  | .p, .ptr _ _, .nilp => some false
  | .p, .nilp, .imm _ => some false
  | .p, .imm _, .nilp => some false
  | .i, .nili, .iface _ _ => some false
  | .i, .iface _ _, .nili => some false
  | .f, .nilf, .nilf => some true
  | .f, .nilf, .func _ _ _ => some false
  | .f, .func _ _ _, .nilf => some false
  | .b, .bool a, .bool b => some (a == b)
  | _, _, _ => none
def eqK (P : Program) (T : TypeId) : Option EqK :=
  match P.underlying T with
  | some (.pointer _) => some .p
  | some (.interface _) => some .i
  | some (.func _ _ _) => some .f
  | some .bool => some .b
  | _ => none
def isSh : BinOp → Bool
  | .shl | .shr => true
  | _ => false
def binV (op : BinOp) (x y : AV) : Option AV :=
  match x, y with
  | .int k m, .int k' n => if isSh op then shI op k m n else if k = k' then binI op k m n else none
  | .str a, .str b => binS op a b
  | _, _ => none

section
variable {P : Program} {σ : ASt} {w : World}
theorem run_binI {op : BinOp} {T : TypeId} {k : IntKind} {x y : Int} {v : AV} (hs : isSh op = false) (h : binI op k x y = some v) : ∃ u, (Go.binOp op T (.int k x) (.int k y)).run P w = .ok u w ∧ Rep σ w v u := by
  cases op <;> simp only [isSh, Bool.true_eq_false, reduceCtorEq] at hs <;> simp only [binI, Option.some.injEq, reduceCtorEq] at h
  case quo =>
    split at h
    · cases h
    · rename_i hy
      injection h with h; subst h
      refine ⟨_, ?_, .int _ _⟩
      simp [Go.binOp, Op.intDiv, hy, Sem.run, pure]
  case rem =>
    split at h
    · cases h
    · rename_i hy
      injection h with h; subst h
      refine ⟨_, ?_, .int _ _⟩
      simp [Go.binOp, Op.intDiv, hy, Sem.run, pure]
  all_goals
    subst h
    refine ⟨_, by simp only [Go.binOp, ne_eq, not_true_eq_false, if_false]; rfl, ?_⟩
    first
      | exact .int _ _
      | exact .bool _

theorem run_shI {op : BinOp} {T : TypeId} {k k' : IntKind} {x y : Int} {v : AV} (hs : isSh op = true) (h : shI op k x y = some v) : ∃ u, (Go.binOp op T (.int k x) (.int k' y)).run P w = .ok u w ∧ Rep σ w v u := by
  unfold shI at h
  split at h
  · cases h
  · rename_i hy
    cases op <;> simp only [isSh, reduceCtorEq] at hs <;> simp only [Option.some.injEq] at h <;> subst h
    · exact ⟨_, by simp only [Go.binOp, Op.shift]; rw [if_neg hy]; rfl, .int _ _⟩
    · refine ⟨_, by simp only [Go.binOp, Op.shift]; rw [if_neg hy]; rfl, ?_⟩
      rw [Int.fdiv_eq_ediv_of_nonneg _ (Int.pow_nonneg (by decide))]
      exact .int _ _

theorem beqL (x y : List UInt8) : (x == y) = decide (x = y) := by
  by_cases h : x = y <;> simp [h]
theorem toList_mk (l : List UInt8) : (⟨⟨l⟩⟩ : ByteArray).toList = l := by
  rw [ByteArray.toList_eq]
theorem run_binS {op : BinOp} {T : TypeId} {x y : List UInt8} {v : AV} (h : binS op x y = some v) : ∃ u, (Go.binOp op T (.string ⟨⟨x⟩⟩) (.string ⟨⟨y⟩⟩)).run P w = .ok u w ∧ Rep σ w v u := by
  cases op <;> simp only [binS, Option.some.injEq, reduceCtorEq] at h
  case add =>
    split at h
    · rename_i hy
      injection h with h; subst h
      refine ⟨.string ⟨⟨x ++ y⟩⟩, ?_, .str _⟩
      have : ¬ (((⟨⟨x⟩⟩ : ByteArray).size + (⟨⟨y⟩⟩ : ByteArray).size : Nat) : Int) > IntKind.i64.max := by
        simp only [ByteArray.size, List.size_toArray, IntKind.max, IntKind.signed, IntKind.bits]; simp; omega
      simp only [Go.binOp, Op.stringOp]
      rw [if_neg this]
      simp only [pure, Sem.run]
      rfl
    · cases h
  all_goals
    subst h
    exact ⟨_, by simp only [Go.binOp, Op.stringOp, toList_mk, beqL] <;> rfl, .bool _⟩

theorem run_eqV {T : TypeId} {k : EqK} {x y : AV} {u v : Value} {b : Bool} (hk : eqK P T = some k) (hx : Rep σ w x u) (hy : Rep σ w y v) (h : eqV k x y = some b) :
    (Op.equal T u v).run P w = .ok b w := by
  have key : ∀ d, (Op.equalIn (d + 1) T u v).run P w = .ok b w := by
    intro d
    unfold eqK at hk
    split at hk <;> (try cases hk) <;> rename_i hT <;> (try injection hk with hk; subst hk)
    all_goals
      cases hx <;> cases hy <;> simp only [eqV, Option.some.injEq, reduceCtorEq] at h <;> subst h <;>
      (unfold Op.equalIn; simp [underlying, program, hT, Sem.run, bind, Sem.bind, pure])
  exact key 9999
theorem run_eqGuard_eqV {T : TypeId} {k : EqK} {X Y : Operand} {op : BinOp} {x y : AV} {u v : Value} {b : Bool} (hx : Rep σ w x u) (hy : Rep σ w y v) (h : eqV k x y = some b) :
    (eqGuard op T X Y u v).run P w = .ok () w := by
  unfold eqGuard
  cases k <;> cases hx <;> cases hy <;> simp only [eqV, reduceCtorEq] at h <;> (split <;> rfl)
theorem run_eqGuard_plain {T : TypeId} {X Y : Operand} {op : BinOp} {x y : AV} {u v : Value} {r : AV} (hx : Rep σ w x u) (hy : Rep σ w y v) (h : binV op x y = some r) :
    (eqGuard op T X Y u v).run P w = .ok () w := by
  unfold eqGuard
  cases hx <;> cases hy <;> simp only [binV, reduceCtorEq] at h <;> (split <;> rfl)
theorem run_binV {T : TypeId} {op : BinOp} {x y : AV} {u v : Value} {r : AV} (hx : Rep σ w x u) (hy : Rep σ w y v) (h : binV op x y = some r) :
    ∃ z, (Go.binOp op T u v).run P w = .ok z w ∧ Rep σ w r z := by
  cases hx <;> cases hy <;> simp only [binV, reduceCtorEq] at h
  · rename_i k m k' n
    split at h
    · rename_i hs
      exact run_shI hs h
    · rename_i hs
      split at h
      · rename_i hk; subst hk; exact run_binI (by simpa using hs) h
      · cases h
  · exact run_binS h
end
end Go.A
