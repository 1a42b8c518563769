/- Rules of the abstract walk: each takes one step; none looks into code that has not come up. -/
import Derived.Test.YtpedaofcndaooaaDoorBk
namespace Go.A
set_option linter.unusedSimpArgs false
set_option linter.unusedVariables false
section
variable {P : Program} {Q : APost} {a : AFr} {σ : ASt} {K : AFr → ASt → Prop} {F : APost → AFr → ASt → Prop}

@[go_sem] theorem wp_skip' : ACode.wp P .skip Q a σ = Q .normal a σ := id rfl
@[go_sem] theorem wp_ret' : ACode.wp P .ret Q a σ = Q .ret a σ := id rfl
@[go_sem] theorem wp_exit' {i : Nat} : ACode.wp P (.exit i) Q a σ = Q (.exit i) a σ := id rfl
@[go_sem] theorem wp_ops' {l : List AItem} : ACode.wp P (.ops l) Q a σ = runI P l (Q .normal) a σ := id rfl
@[go_sem] theorem wp_seq' {x y : ACode} : ACode.wp P (.seq x y) Q a σ = x.wp P (SeqQ (y.wp P) Q) a σ := id rfl
@[go_sem] theorem wp_block' {i : Nat} {x : ACode} : ACode.wp P (.block i x) Q a σ = x.wp P (BlockQ i Q) a σ := id rfl
def condC (P : Program) (v : AV) (x y : ACode) (Q : APost) (a : AFr) (σ : ASt) : Prop := condWp v (x.wp P Q a σ) (y.wp P Q a σ)
@[go_sem] theorem wp_cond' {c : Opd} {x y : ACode} : ACode.wp P (.cond c x y) Q a σ = condC P (c.ev a) x y Q a σ := id rfl
@[go_sem] theorem condC_t {x y : ACode} : condC P (.bool true) x y Q a σ = x.wp P Q a σ := by simp [condC, condWp]
@[go_sem] theorem condC_f {x y : ACode} : condC P (.bool false) x y Q a σ = y.wp P Q a σ := by simp [condC, condWp]
theorem condC_b {b : Bool} {x y : ACode} (h1 : b = true → x.wp P Q a σ) (h2 : b = false → y.wp P Q a σ) : condC P (.bool b) x y Q a σ := by
  cases b
  · rw [condC_f]; exact h2 rfl
  · rw [condC_t]; exact h1 rfl
theorem condC_d {p : Prop} [Decidable p] {x y : ACode} (h1 : p → x.wp P Q a σ) (h2 : ¬ p → y.wp P Q a σ) : condC P (.bool (decide p)) x y Q a σ :=
  condC_b (fun h => h1 (of_decide_eq_true h)) (fun h => h2 (of_decide_eq_false h))
theorem condC_n {p : Prop} [Decidable p] {x y : ACode} (h1 : ¬ p → x.wp P Q a σ) (h2 : p → y.wp P Q a σ) : condC P (.bool (!decide p)) x y Q a σ :=
  condC_b (fun h => h1 (by simpa using h)) (fun h => h2 (by simpa using h))

@[go_sem] theorem SeqQ_n : SeqQ F Q .normal a σ = F Q a σ := id rfl
@[go_sem] theorem SeqQ_e {i : Nat} : SeqQ F Q (.exit i) a σ = Q (.exit i) a σ := id rfl
@[go_sem] theorem SeqQ_r : SeqQ F Q .ret a σ = Q .ret a σ := id rfl
@[go_sem] theorem BlockQ_n {i : Nat} : BlockQ i Q .normal a σ = Q .normal a σ := id rfl
@[go_sem] theorem BlockQ_e {i j : Nat} : BlockQ i Q (.exit j) a σ = if j = i then Q .normal a σ else Q (.exit j) a σ := id rfl
@[go_sem] theorem BlockQ_r {i : Nat} : BlockQ i Q .ret a σ = Q .ret a σ := id rfl

def qC (P : Program) (v : Option AV) (d : Option Nat) (r : List AItem) (K : AFr → ASt → Prop) (a : AFr) (σ : ASt) : Prop :=
  match v with
  | some v => runI P r K (a.put d v) σ
  | none => False
def eK (P : Program) (d : Option Nat) (ws : List Watch) (r : List AItem) (K : AFr → ASt → Prop) (a : AFr) : AV → ASt → Prop := fun v σ' => watchOk (a.put d v) σ' ws ∧ runI P r K (a.put d v) σ'
def gC (P : Program) (v : AV) (want : Bool) (it : AItem) (r : List AItem) (K : AFr → ASt → Prop) (a : AFr) (σ : ASt) : Prop :=
  match v.word with
  | some x => if x = some want then runI P (it :: r) K a σ else runI P r K (a.put it.dst (.tuple [])) σ
  | none => False
@[go_sem] theorem run_nil : runI P [] K a σ = K a σ := id rfl
@[go_sem] theorem run_q {d : Option Nat} {q : QOp} {r : List AItem} : runI P (⟨d, none, .q q, []⟩ :: r) K a σ = qC P (q.ev a σ) d r K a σ := by
  simp only [runI, AItem.step, AOp.step, qC, watchOk, true_and]
  cases q.ev a σ <;> rfl
@[go_sem] theorem run_e {d : Option Nat} {e : EOp} {ws : List Watch} {r : List AItem} : runI P (⟨d, none, .e e, ws⟩ :: r) K a σ = e.step P a σ (eK P d ws r K a) := id rfl
@[go_sem] theorem run_g {d : Option Nat} {t : Nat} {want : Bool} {op : AOp} {ws : List Watch} {r : List AItem} : runI P (⟨d, some (t, want), op, ws⟩ :: r) K a σ = gC P (a t) want ⟨d, none, op, ws⟩ r K a σ := by
  simp only [runI, gC]
  cases (a t).word <;> rfl
@[go_sem] theorem qC_some {v : AV} {d : Nat} {r : List AItem} : qC P (some v) (some d) r K a σ = runI P r K (a.upd d v) σ := id rfl
@[go_sem] theorem qC_some' {v : AV} {r : List AItem} : qC P (some v) none r K a σ = runI P r K a σ := id rfl
@[go_sem] theorem eK_app {d : Nat} {ws : List Watch} {r : List AItem} {v : AV} : eK P (some d) ws r K a v σ = (watchOk (a.upd d v) σ ws ∧ runI P r K (a.upd d v) σ) := id rfl
@[go_sem] theorem eK_app' {ws : List Watch} {r : List AItem} {v : AV} : eK P none ws r K a v σ = (watchOk a σ ws ∧ runI P r K a σ) := id rfl
@[go_sem] theorem watch_nil : watchOk a σ [] = True := id rfl
@[go_sem] theorem watch_n {q : QOp} {d : Nat} {ws : List Watch} : watchOk a σ (⟨none, q, d⟩ :: ws) = (q.ev a σ = some (a d) ∧ watchOk a σ ws) := id rfl
@[go_sem] theorem watch_s {t d : Nat} {want : Bool} {q : QOp} {ws : List Watch} : watchOk a σ (⟨some (t, want), q, d⟩ :: ws) = ((a t = .bool want → q.ev a σ = some (a d)) ∧ watchOk a σ ws) := id rfl
@[go_sem] theorem gC_tt {it : AItem} {r : List AItem} : gC P (.bool true) true it r K a σ = runI P (it :: r) K a σ := id rfl
@[go_sem] theorem gC_ff {it : AItem} {r : List AItem} : gC P (.bool false) false it r K a σ = runI P (it :: r) K a σ := id rfl
@[go_sem] theorem gC_tf {d : Nat} {op : AOp} {g : Option (Nat × Bool)} {ws : List Watch} {r : List AItem} : gC P (.bool true) false ⟨some d, g, op, ws⟩ r K a σ = runI P r K (a.upd d (.tuple [])) σ := id rfl
@[go_sem] theorem gC_ft {d : Nat} {op : AOp} {g : Option (Nat × Bool)} {ws : List Watch} {r : List AItem} : gC P (.bool false) true ⟨some d, g, op, ws⟩ r K a σ = runI P r K (a.upd d (.tuple [])) σ := id rfl
@[go_sem] theorem gC_u {want : Bool} {d : Nat} {op : AOp} {g : Option (Nat × Bool)} {ws : List Watch} {r : List AItem} : gC P (.tuple []) want ⟨some d, g, op, ws⟩ r K a σ = runI P r K (a.upd d (.tuple [])) σ := id rfl
@[go_sem] theorem gC_tf' {op : AOp} {g : Option (Nat × Bool)} {ws : List Watch} {r : List AItem} : gC P (.bool true) false ⟨none, g, op, ws⟩ r K a σ = runI P r K a σ := id rfl
@[go_sem] theorem gC_ft' {op : AOp} {g : Option (Nat × Bool)} {ws : List Watch} {r : List AItem} : gC P (.bool false) true ⟨none, g, op, ws⟩ r K a σ = runI P r K a σ := id rfl
@[go_sem] theorem gC_u' {want : Bool} {op : AOp} {g : Option (Nat × Bool)} {ws : List Watch} {r : List AItem} : gC P (.tuple []) want ⟨none, g, op, ws⟩ r K a σ = runI P r K a σ := id rfl
/-- A guard that is not known: both ways. -/
theorem gC_b {b want : Bool} {it : AItem} {r : List AItem} (h1 : b = want → runI P (it :: r) K a σ) (h2 : b ≠ want → runI P r K (a.put it.dst (.tuple [])) σ) : gC P (.bool b) want it r K a σ := by
  unfold gC
  simp only [AV.word, Option.some.injEq]
  split
  · exact h1 (by assumption)
  · exact h2 (by assumption)
theorem gC_d {p : Prop} [Decidable p] {it : AItem} {r : List AItem} (h1 : p → runI P (it :: r) K a σ) (h2 : ¬ p → runI P r K (a.put it.dst (.tuple [])) σ) : gC P (.bool (decide p)) true it r K a σ :=
  gC_b (fun h => h1 (of_decide_eq_true h)) (fun h => h2 (by simpa using h))
theorem gC_dn {p : Prop} [Decidable p] {it : AItem} {r : List AItem} (h1 : ¬ p → runI P (it :: r) K a σ) (h2 : p → runI P r K (a.put it.dst (.tuple [])) σ) : gC P (.bool (decide p)) false it r K a σ :=
  gC_b (fun h => h1 (of_decide_eq_false h)) (fun h => h2 (by simpa using h))

@[go_sem] theorem put_s {d : Nat} {v : AV} : a.put (some d) v = a.upd d v := id rfl
theorem put_n {v : AV} : a.put none v = a := rfl
@[go_sem] theorem upd_app {t s : Nat} {v : AV} : (a.upd t v) s = if s = t then v else a s := id rfl
@[go_sem] theorem init_app {args : List AV} {t : Nat} : init args t = args.getD t .any := id rfl
theorem set_app {b x : Nat} {r : Option Role} : (σ.set b r) x = if x = b then r else σ x := id rfl
attribute [go_sem high] ASt.set_same
attribute [go_sem] ASt.set_ne
theorem known_app {b : Nat} : known σ b = (match σ b with | some (.obj cs) => some cs | some (.fix cs) => some cs | _ => none) := rfl
def kn : Option Role → Option (List AV)
  | some (.obj cs) => some cs
  | some (.fix cs) => some cs
  | _ => none
theorem known_kn {b : Nat} : known σ b = kn (σ b) := by unfold known kn; rfl
@[go_sem] theorem kn_obj {cs : List AV} : kn (some (.obj cs)) = some cs := id rfl
@[go_sem] theorem kn_fix {cs : List AV} : kn (some (.fix cs)) = some cs := id rfl
theorem set_none {b x : Nat} {r : Role} (h : (σ.set b (some r)) x = none) : x ≠ b ∧ b ≠ x ∧ σ x = none := by
  by_cases hx : x = b
  · subst hx; rw [ASt.set_same] at h; cases h
  · rw [ASt.set_ne hx] at h; exact ⟨hx, Ne.symm hx, h⟩

def ldC (n : Option Nat) (σ : ASt) : AV → Option AV
  | .ptr b o => match known σ b with
    | some cs => fieldVal o n cs
    | none => none
  | .imm cs => fieldVal 0 n cs
  | _ => none
@[go_sem] theorem opd_t {s : Nat} : Opd.ev a (.t s) = a s := id rfl
@[go_sem] theorem opd_v {v : AV} : Opd.ev a (.v v) = v := id rfl
@[go_sem] theorem cells_bool (b : Bool) : AV.cells (.bool b) = [(.bool b)] := id rfl
@[go_sem] theorem isAny_bool (b : Bool) : AV.isAny (.bool b) = false := id rfl
@[go_sem] theorem leaf_bool (b : Bool) : AV.leaf (.bool b) = true := id rfl
@[go_sem] theorem cells_int (k : IntKind) (n : Int) : AV.cells (.int k n) = [(.int k n)] := id rfl
@[go_sem] theorem isAny_int (k : IntKind) (n : Int) : AV.isAny (.int k n) = false := id rfl
@[go_sem] theorem leaf_int (k : IntKind) (n : Int) : AV.leaf (.int k n) = true := id rfl
@[go_sem] theorem cells_str (l : List UInt8) : AV.cells (.str l) = [(.str l)] := id rfl
@[go_sem] theorem isAny_str (l : List UInt8) : AV.isAny (.str l) = false := id rfl
@[go_sem] theorem leaf_str (l : List UInt8) : AV.leaf (.str l) = true := id rfl
@[go_sem] theorem cells_ptr (b o : Nat) : AV.cells (.ptr b o) = [(.ptr b o)] := id rfl
@[go_sem] theorem isAny_ptr (b o : Nat) : AV.isAny (.ptr b o) = false := id rfl
@[go_sem] theorem leaf_ptr (b o : Nat) : AV.leaf (.ptr b o) = true := id rfl
@[go_sem] theorem cells_imm (cs : List AV) : AV.cells (.imm cs) = [(.imm cs)] := id rfl
@[go_sem] theorem isAny_imm (cs : List AV) : AV.isAny (.imm cs) = false := id rfl
@[go_sem] theorem leaf_imm (cs : List AV) : AV.leaf (.imm cs) = true := id rfl
@[go_sem] theorem cells_nilp  : AV.cells .nilp = [.nilp] := id rfl
@[go_sem] theorem isAny_nilp  : AV.isAny .nilp = false := id rfl
@[go_sem] theorem leaf_nilp  : AV.leaf .nilp = true := id rfl
@[go_sem] theorem cells_sl (k : SK) (xs : List AV) : AV.cells (.sl k xs) = [(.sl k xs)] := id rfl
@[go_sem] theorem isAny_sl (k : SK) (xs : List AV) : AV.isAny (.sl k xs) = false := id rfl
@[go_sem] theorem leaf_sl (k : SK) (xs : List AV) : AV.leaf (.sl k xs) = true := id rfl
@[go_sem] theorem cells_msl (b o n c : Nat) : AV.cells (.msl b o n c) = [(.msl b o n c)] := id rfl
@[go_sem] theorem isAny_msl (b o n c : Nat) : AV.isAny (.msl b o n c) = false := id rfl
@[go_sem] theorem leaf_msl (b o n c : Nat) : AV.leaf (.msl b o n c) = true := id rfl
@[go_sem] theorem cells_tuple (vs : List AV) : AV.cells (.tuple vs) = [(.tuple vs)] := id rfl
@[go_sem] theorem isAny_tuple (vs : List AV) : AV.isAny (.tuple vs) = false := id rfl
@[go_sem] theorem leaf_tuple (vs : List AV) : AV.leaf (.tuple vs) = false := id rfl
@[go_sem] theorem cells_iface (t : TypeId) (v : AV) : AV.cells (.iface t v) = [(.iface t v)] := id rfl
@[go_sem] theorem isAny_iface (t : TypeId) (v : AV) : AV.isAny (.iface t v) = false := id rfl
@[go_sem] theorem leaf_iface (t : TypeId) (v : AV) : AV.leaf (.iface t v) = true := id rfl
@[go_sem] theorem cells_nili  : AV.cells .nili = [.nili] := id rfl
@[go_sem] theorem isAny_nili  : AV.isAny .nili = false := id rfl
@[go_sem] theorem leaf_nili  : AV.leaf .nili = true := id rfl
@[go_sem] theorem cells_func (fn : Fn) (f c : List AV) : AV.cells (.func fn f c) = [(.func fn f c)] := id rfl
@[go_sem] theorem isAny_func (fn : Fn) (f c : List AV) : AV.isAny (.func fn f c) = false := id rfl
@[go_sem] theorem leaf_func (fn : Fn) (f c : List AV) : AV.leaf (.func fn f c) = true := id rfl
@[go_sem] theorem cells_nilf  : AV.cells .nilf = [.nilf] := id rfl
@[go_sem] theorem isAny_nilf  : AV.isAny .nilf = false := id rfl
@[go_sem] theorem leaf_nilf  : AV.leaf .nilf = true := id rfl
@[go_sem] theorem cells_agg (cs : List AV) : AV.cells (.agg cs) = cs := id rfl
@[go_sem] theorem isAny_agg (cs : List AV) : AV.isAny (.agg cs) = false := id rfl
@[go_sem] theorem isAny_any : AV.isAny .any = true := id rfl
@[go_sem] theorem leaf_agg (cs : List AV) : AV.leaf (.agg cs) = false := id rfl
@[go_sem] theorem isSh_add : isSh .add = false := id rfl
@[go_sem] theorem isSh_sub : isSh .sub = false := id rfl
@[go_sem] theorem isSh_mul : isSh .mul = false := id rfl
@[go_sem] theorem isSh_quo : isSh .quo = false := id rfl
@[go_sem] theorem isSh_rem : isSh .rem = false := id rfl
@[go_sem] theorem isSh_and : isSh .and = false := id rfl
@[go_sem] theorem isSh_or : isSh .or = false := id rfl
@[go_sem] theorem isSh_xor : isSh .xor = false := id rfl
@[go_sem] theorem isSh_andNot : isSh .andNot = false := id rfl
@[go_sem] theorem isSh_eql : isSh .eql = false := id rfl
@[go_sem] theorem isSh_neq : isSh .neq = false := id rfl
@[go_sem] theorem isSh_lss : isSh .lss = false := id rfl
@[go_sem] theorem isSh_leq : isSh .leq = false := id rfl
@[go_sem] theorem isSh_gtr : isSh .gtr = false := id rfl
@[go_sem] theorem isSh_geq : isSh .geq = false := id rfl
@[go_sem] theorem isSh_shl : isSh .shl = true := id rfl
@[go_sem] theorem isSh_shr : isSh .shr = true := id rfl
@[go_sem] theorem leaves_nil : leaves [] = true := id rfl
@[go_sem] theorem leaves_cons {x : AV} {xs : List AV} : leaves (x :: xs) = (x.leaf && leaves xs) := id rfl
@[go_sem] theorem wellSz_nil {s : Nat} : wellSz s [] = true := id rfl
@[go_sem] theorem wellSz_cons {s : Nat} {x : AV} {xs : List AV} : wellSz s (x :: xs) = (!x.isAny && x.cells.length == s && wellSz s xs) := id rfl
@[go_sem] theorem splice_app {cs vs : List AV} {o n : Nat} : splice cs o n vs = cs.take o ++ vs ++ cs.drop (o + n) := id rfl
@[go_sem] theorem resV_one {x : AV} : resV [x] = x := id rfl
@[go_sem] theorem resV_two {x y : AV} {r : List AV} : resV (x :: y :: r) = .tuple (x :: y :: r) := id rfl
@[go_sem] theorem resV_nil : resV [] = .tuple [] := id rfl
def rvC (v : Option AV) (r : Option (List AV)) : Option (List AV) :=
  match v, r with
  | some v, some vs => some (v :: vs)
  | _, _ => none
@[go_sem] theorem rvs_nil : RV.evs a σ [] = some [] := id rfl
@[go_sem] theorem rvs_cons {r : RV} {rs : List RV} : RV.evs a σ (r :: rs) = rvC (r.ev a σ) (RV.evs a σ rs) := id rfl
@[go_sem] theorem rvC_some {v : AV} {vs : List AV} : rvC (some v) (some vs) = some (v :: vs) := id rfl
@[go_sem] theorem rv_t {s : Nat} : RV.ev a σ (.t s) = some (a s) := id rfl
@[go_sem] theorem rv_c {s : Nat} {n : Option Nat} : RV.ev a σ (.c s n) = ldC n σ (a s) := by
  simp only [RV.ev, ldC]
  cases a s <;> rfl
def evs (a : AFr) : List Opd → List AV
  | [] => []
  | x :: xs => x.ev a :: evs a xs
theorem evs_map {xs : List Opd} : xs.map (fun x => x.ev a) = evs a xs := by
  induction xs with
  | nil => rfl
  | cons x xs ih => simp only [List.map_cons, evs, ih]
@[go_sem] theorem evs_nil : evs a [] = [] := id rfl
@[go_sem] theorem evs_cons {x : Opd} {xs : List Opd} : evs a (x :: xs) = x.ev a :: evs a xs := id rfl
def evp (a : AFr) : List (Nat × Nat × Opd) → List (Nat × Nat × AV)
  | [] => []
  | (o, n, x) :: xs => (o, n, x.ev a) :: evp a xs
theorem evp_map {xs : List (Nat × Nat × Opd)} : (xs.map fun (o, n, x) => (o, n, x.ev a)) = evp a xs := by
  induction xs with
  | nil => rfl
  | cons x xs ih => obtain ⟨o, n, x⟩ := x; simp only [List.map_cons, evp, ih]
@[go_sem] theorem evp_nil : evp a [] = [] := id rfl
@[go_sem] theorem evp_cons {o n : Nat} {x : Opd} {xs : List (Nat × Nat × Opd)} : evp a ((o, n, x) :: xs) = (o, n, x.ev a) :: evp a xs := id rfl
-- operations
@[go_sem] theorem ev_mv {x : Opd} : QOp.ev (.mv x) a σ = some (x.ev a) := id rfl
@[go_sem] theorem ev_bin {op : BinOp} {x y : Opd} : QOp.ev (.bin op x y) a σ = binV op (x.ev a) (y.ev a) := id rfl
def pickC (c x y : AV) : Option AV :=
  match c with
  | .bool b => some (if b = true then x else y)
  | _ => none
@[go_sem] theorem ev_pick {c x y : Opd} : QOp.ev (.pick c x y) a σ = pickC (c.ev a) (x.ev a) (y.ev a) := by
  simp only [QOp.ev, pickC]
  cases c.ev a <;> simp
@[go_sem] theorem pickC_t {x y : AV} : pickC (.bool true) x y = some x := id rfl
@[go_sem] theorem pickC_f {x y : AV} : pickC (.bool false) x y = some y := id rfl
@[go_sem] theorem pickC_bb {b x y : Bool} : pickC (.bool b) (.bool x) (.bool y) = some (.bool (if b = true then x else y)) := by cases b <;> rfl
@[go_sem] theorem ev_ld {n : Option Nat} {p : Opd} : QOp.ev (.ld n p) a σ = ldC n σ (p.ev a) := by
  simp only [QOp.ev, ldC]
  cases p.ev a <;> rfl
def objC (o : Nat) (n : Option Nat) : Option (List AV) → Option AV
  | some cs => fieldVal o n cs
  | none => none
@[go_sem] theorem ldC_ptr {n : Option Nat} {b o : Nat} : ldC n σ (.ptr b o) = objC o n (kn (σ b)) := by
  rw [← known_kn]
  simp only [ldC]
  cases known σ b <;> rfl
@[go_sem] theorem ldC_imm {n : Option Nat} {cs : List AV} : ldC n σ (.imm cs) = fieldVal 0 n cs := id rfl
@[go_sem] theorem objC_some {o : Nat} {n : Option Nat} {cs : List AV} : objC o n (some cs) = fieldVal o n cs := id rfl
@[go_sem] theorem fieldVal_n {o : Nat} {cs : List AV} : fieldVal o none cs = cs[o]? := id rfl
@[go_sem] theorem fieldVal_s {o n : Nat} {cs : List AV} : fieldVal o (some n) cs = if o + n ≤ cs.length then some (.agg ((cs.drop o).take n)) else none := id rfl
def faC (o : Nat) : AV → Option AV
  | .ptr b p => some (.ptr b (p + o))
  | .imm cs => some (.imm (cs.drop o))
  | _ => none
@[go_sem] theorem ev_fa {o : Nat} {x : Opd} : QOp.ev (.fa o x) a σ = faC o (x.ev a) := by
  simp only [QOp.ev, faC]
  cases x.ev a <;> rfl
@[go_sem] theorem faC_ptr {o b p : Nat} : faC o (.ptr b p) = some (.ptr b (p + o)) := id rfl
@[go_sem] theorem faC_imm {o : Nat} {cs : List AV} : faC o (.imm cs) = some (.imm (cs.drop o)) := id rfl
def ncC : AV → Option AV
  | .ptr b o => some (.ptr b o)
  | .imm cs => some (.imm cs)
  | _ => none
@[go_sem] theorem ev_nc {x : Opd} : QOp.ev (.nc x) a σ = ncC (x.ev a) := by
  simp only [QOp.ev, ncC]
  cases x.ev a <;> rfl
@[go_sem] theorem ncC_ptr {b o : Nat} : ncC (.ptr b o) = some (.ptr b o) := id rfl
@[go_sem] theorem ncC_imm {cs : List AV} : ncC (.imm cs) = some (.imm cs) := id rfl
def fldC (o : Nat) (n : Option Nat) : AV → Option AV
  | .agg cs => fieldVal o n cs
  | _ => none
@[go_sem] theorem ev_fld {o : Nat} {n : Option Nat} {x : Opd} : QOp.ev (.fld o n x) a σ = fldC o n (x.ev a) := by
  simp only [QOp.ev, fldC]
  cases x.ev a <;> rfl
@[go_sem] theorem fldC_agg {o : Nat} {n : Option Nat} {cs : List AV} : fldC o n (.agg cs) = fieldVal o n cs := id rfl
def elC (s : Nat) : Option AV → Option AV
  | some y => if y.cells.length = s then some (.imm y.cells) else none
  | none => none
def iaC (s : Nat) : AV → AV → Option AV
  | .sl _ xs, .int _ i => if i < 0 then none else elC s xs[i.toNat]?
  | .msl b o n _, .int _ i => if i < 0 then none else if i < n then some (.ptr b (o + i.toNat * s)) else none
  | _, _ => none
@[go_sem] theorem ev_ia {s : Nat} {x i : Opd} : QOp.ev (.ia s x i) a σ = iaC s (x.ev a) (i.ev a) := by
  simp only [QOp.ev, iaC]
  generalize x.ev a = u
  generalize i.ev a = v
  cases u <;> cases v <;> simp only [intV]
  rename_i k xs kk i
  split
  · rfl
  · cases xs[i.toNat]? <;> rfl
@[go_sem] theorem iaC_sl {s : Nat} {k : SK} {xs : List AV} {kk : IntKind} {i : Int} (h : 0 ≤ i) : iaC s (.sl k xs) (.int kk i) = elC s xs[i.toNat]? := by
  simp only [iaC]; rw [if_neg (by omega)]
@[go_sem] theorem iaC_msl {s b o n c : Nat} {kk : IntKind} {i : Int} (h : 0 ≤ i) (h1 : i < n) : iaC s (.msl b o n c) (.int kk i) = some (.ptr b (o + i.toNat * s)) := by
  simp only [iaC]; rw [if_neg (by omega), if_pos h1]
@[go_sem] theorem elC_some {s : Nat} {y : AV} : elC s (some y) = if y.cells.length = s then some (.imm y.cells) else none := id rfl
def iaaC (m s : Nat) : AV → AV → Option AV
  | .ptr b o, .int _ i => if i < 0 then none else if i < m then some (.ptr b (o + i.toNat * s)) else none
  | .imm cs, .int _ i => if i < 0 then none else if i < m then some (.imm (cs.drop (i.toNat * s))) else none
  | _, _ => none
@[go_sem] theorem ev_iaa {m s : Nat} {x i : Opd} : QOp.ev (.iaa m s x i) a σ = iaaC m s (x.ev a) (i.ev a) := by
  simp only [QOp.ev, iaaC]
  generalize x.ev a = u
  generalize i.ev a = v
  cases u <;> cases v <;> simp only [intV] <;> rfl
@[go_sem] theorem iaaC_ptr {m s b o : Nat} {kk : IntKind} {i : Int} (h : 0 ≤ i) (h1 : i < m) : iaaC m s (.ptr b o) (.int kk i) = some (.ptr b (o + i.toNat * s)) := by
  simp only [iaaC]; rw [if_neg (by omega), if_pos h1]
@[go_sem] theorem iaaC_imm {m s : Nat} {cs : List AV} {kk : IntKind} {i : Int} (h : 0 ≤ i) (h1 : i < m) : iaaC m s (.imm cs) (.int kk i) = some (.imm (cs.drop (i.toNat * s))) := by
  simp only [iaaC]; rw [if_neg (by omega), if_pos h1]
def byC : Option UInt8 → Option AV
  | some c => some (.int .u8 c.toNat)
  | none => none
def idxC : AV → AV → Option AV
  | .str l, .int _ i => if i < 0 then none else byC l[i.toNat]?
  | _, _ => none
@[go_sem] theorem ev_idx {x i : Opd} : QOp.ev (.idx x i) a σ = idxC (x.ev a) (i.ev a) := by
  simp only [QOp.ev, idxC]
  generalize x.ev a = u
  generalize i.ev a = v
  cases u <;> cases v <;> simp only [intV]
  rename_i l kk i
  split
  · rfl
  · cases l[i.toNat]? <;> rfl
@[go_sem] theorem idxC_str {l : List UInt8} {kk : IntKind} {i : Int} (h : 0 ≤ i) : idxC (.str l) (.int kk i) = byC l[i.toNat]? := by
  simp only [idxC]; rw [if_neg (by omega)]
@[go_sem] theorem byC_some {c : UInt8} : byC (some c) = some (.int .u8 c.toNat) := id rfl
def lenC : AV → Option AV
  | .sl _ xs => some (.int .i64 xs.length)
  | .msl _ _ n _ => some (.int .i64 n)
  | _ => none
@[go_sem] theorem ev_len {x : Opd} : QOp.ev (.len x) a σ = lenC (x.ev a) := by
  simp only [QOp.ev, lenC]
  cases x.ev a <;> rfl
@[go_sem] theorem lenC_sl {k : SK} {xs : List AV} : lenC (.sl k xs) = some (.int .i64 xs.length) := id rfl
@[go_sem] theorem lenC_msl {b o n c : Nat} : lenC (.msl b o n c) = some (.int .i64 n) := id rfl
def lenSC : AV → Option AV
  | .str l => some (.int .i64 l.length)
  | _ => none
@[go_sem] theorem ev_lenS {x : Opd} : QOp.ev (.lenS x) a σ = lenSC (x.ev a) := by
  simp only [QOp.ev, lenSC]
  cases x.ev a <;> rfl
@[go_sem] theorem lenSC_str {l : List UInt8} : lenSC (.str l) = some (.int .i64 l.length) := id rfl
def convC (k : IntKind) : AV → Option AV
  | .int _ n => some (.int k (k.wrap n))
  | _ => none
@[go_sem] theorem ev_conv {k : IntKind} {x : Opd} : QOp.ev (.conv k x) a σ = convC k (x.ev a) := by
  simp only [QOp.ev, convC]
  cases x.ev a <;> rfl
@[go_sem] theorem convC_int {k kk : IntKind} {n : Int} : convC k (.int kk n) = some (.int k (k.wrap n)) := id rfl
def unC (op : UnOp) (v : AV) : Option AV :=
  match op, v with
  | .neg, .int k n => some (.int k (k.wrap (0 - n)))
  | .not, .bool b => some (.bool (!b))
  | .xor, .int k n => binI .xor k (if k.signed then -1 else k.max) n
  | _, _ => none
@[go_sem] theorem ev_un {op : UnOp} {x : Opd} : QOp.ev (.un op x) a σ = unC op (x.ev a) := by
  simp only [QOp.ev, unC]
  cases op <;> cases x.ev a <;> rfl
@[go_sem] theorem unC_neg {k : IntKind} {n : Int} : unC .neg (.int k n) = some (.int k (k.wrap (0 - n))) := id rfl
@[go_sem] theorem unC_not {b : Bool} : unC .not (.bool b) = some (.bool (!b)) := id rfl
@[go_sem] theorem unC_xor {k : IntKind} {n : Int} : unC .xor (.int k n) = binI .xor k (if k.signed then -1 else k.max) n := id rfl
def extC (i : Nat) : AV → Option AV
  | .tuple vs => vs[i]?
  | _ => none
@[go_sem] theorem ev_ext {i : Nat} {x : Opd} : QOp.ev (.ext i x) a σ = extC i (x.ev a) := by
  simp only [QOp.ev, extC]
  cases x.ev a <;> rfl
@[go_sem] theorem extC_t {i : Nat} {vs : List AV} : extC i (.tuple vs) = vs[i]? := id rfl
@[go_sem] theorem ev_mki {t : TypeId} {x : Opd} : QOp.ev (.mki t x) a σ = some (.iface t (x.ev a)) := id rfl
@[go_sem] theorem ev_build {z : List AV} {ps : List (Nat × Nat × Opd)} : QOp.ev (.build z ps) a σ = (fillC z (evp a ps)).map .agg := by rw [← evp_map]; rfl
@[go_sem] theorem fillC_nil {cs : List AV} : fillC cs [] = some cs := id rfl
@[go_sem] theorem fillC_cons {cs : List AV} {o n : Nat} {v : AV} {r : List (Nat × Nat × AV)} : fillC cs ((o, n, v) :: r) = if v.isAny = false ∧ v.cells.length = n ∧ o + n ≤ cs.length then fillC (cs.take o ++ v.cells ++ cs.drop (o + n)) r else none := id rfl
@[go_sem] theorem ev_bsl {s : Nat} {xs : List Opd} : QOp.ev (.bsl s xs) a σ = if wellSz s (evs a xs) = true then some (.sl .full (evs a xs)) else none := by rw [← evs_map]; rfl
@[go_sem] theorem ev_box {x : Opd} : QOp.ev (.box x) a σ = if (x.ev a).isAny = true then none else some (.imm (x.ev a).cells) := id rfl
def mnxC (mx : Bool) (x y : AV) : Option AV :=
  match x, y with
  | .int k m, .int _ n => some (.int k (if mx then max m n else min m n))
  | _, _ => none
@[go_sem] theorem ev_mnx {mx : Bool} {x y : Opd} : QOp.ev (.mnx mx x y) a σ = mnxC mx (x.ev a) (y.ev a) := by
  simp only [QOp.ev, mnxC]
  generalize x.ev a = u
  generalize y.ev a = v
  cases u <;> cases v <;> simp only []
  cases mx <;> simp <;> omega
@[go_sem] theorem mnxC_mx {k kk : IntKind} {m n : Int} : mnxC true (.int k m) (.int kk n) = some (.int k (max m n)) := id rfl
@[go_sem] theorem mnxC_mn {k kk : IntKind} {m n : Int} : mnxC false (.int k m) (.int kk n) = some (.int k (min m n)) := id rfl
@[go_sem] theorem ev_mkf {fn : Fn} {f c : List Opd} : QOp.ev (.mkf fn f c) a σ = some (.func fn (evs a f) (evs a c)) := by rw [← evs_map, ← evs_map]; rfl
def s2sC : AV → Option AV
  | .str l => some (.str l)
  | _ => none
@[go_sem] theorem ev_s2s {x : Opd} : QOp.ev (.s2s x) a σ = s2sC (x.ev a) := by
  simp only [QOp.ev, s2sC]
  cases x.ev a <;> rfl
@[go_sem] theorem s2sC_str {l : List UInt8} : s2sC (.str l) = some (.str l) := id rfl
def bytesAV (l : List UInt8) : List AV := l.map fun c => .int .u8 c.toNat
def strC : Option (List UInt8) → Option AV
  | some l => some (.str l)
  | none => none
def b2mC (o n : Nat) : Option (List AV) → Option AV
  | some cs => if o + n ≤ cs.length then strC (bytesOf ((cs.drop o).take n)) else none
  | none => none
def b2sC (σ : ASt) : AV → Option AV
  | .sl _ xs => strC (bytesOf xs)
  | .msl b o n _ => b2mC o n (kn (σ b))
  | _ => none
@[go_sem] theorem ev_b2s {x : Opd} : QOp.ev (.b2s x) a σ = b2sC σ (x.ev a) := by
  simp only [QOp.ev, b2sC]
  cases x.ev a <;> (try rfl)
@[go_sem] theorem b2sC_sl {k : SK} {xs : List AV} : b2sC σ (.sl k xs) = strC (bytesOf xs) := id rfl
@[go_sem] theorem b2sC_msl {b o n c : Nat} : b2sC σ (.msl b o n c) = b2mC o n (kn (σ b)) := id rfl
@[go_sem] theorem b2mC_some {o n : Nat} {cs : List AV} : b2mC o n (some cs) = if o + n ≤ cs.length then strC (bytesOf ((cs.drop o).take n)) else none := id rfl
@[go_sem] theorem strC_some {l : List UInt8} : strC (some l) = some (.str l) := id rfl
theorem bytesOf_bytesAV (l : List UInt8) : bytesOf (bytesAV l) = some l := by
  induction l with
  | nil => rfl
  | cons c l ih =>
    have : bytesAV (c :: l) = .int .u8 c.toNat :: bytesAV l := rfl
    rw [this]
    simp only [bytesOf, ih]
    simp
def slC (s : Bool × Nat) (x lo hi : AV) : Option AV :=
  match lo, hi with
  | .int _ lo, .int _ hi => slV s x lo hi
  | _, _ => none
@[go_sem] theorem ev_sls {s : Bool × Nat} {x lo hi : Opd} : QOp.ev (.sls s x lo hi) a σ = slC s (x.ev a) (lo.ev a) (hi.ev a) := by
  simp only [QOp.ev, slC]
  generalize lo.ev a = u
  generalize hi.ev a = v
  cases u <;> cases v <;> simp only [intV]
def slfC (s : Bool × Nat) (x lo : AV) : Option AV :=
  match lo, lenV x with
  | .int _ lo, some n => slV s x lo n
  | _, _ => none
@[go_sem] theorem ev_slfrom {s : Bool × Nat} {x lo : Opd} : QOp.ev (.slfrom s x lo) a σ = slfC s (x.ev a) (lo.ev a) := by
  simp only [QOp.ev, slfC]
  generalize lo.ev a = u
  generalize x.ev a = v
  cases u <;> cases v <;> simp only [intV, lenV]
@[go_sem] theorem slfC_str {k : IntKind} {s : Bool × Nat} {l : List UInt8} {lo : Int} : slfC s (.str l) (.int k lo) = slV s (.str l) lo l.length := id rfl
@[go_sem] theorem slfC_sl {k : IntKind} {s : Bool × Nat} {sk : SK} {xs : List AV} {lo : Int} : slfC s (.sl sk xs) (.int k lo) = slV s (.sl sk xs) lo xs.length := id rfl
@[go_sem] theorem slfC_msl {k : IntKind} {s : Bool × Nat} {b o n c : Nat} {lo : Int} : slfC s (.msl b o n c) (.int k lo) = slV s (.msl b o n c) lo n := id rfl
def sltC (s : Bool × Nat) (x hi : AV) : Option AV :=
  match hi with
  | .int _ hi => slV s x 0 hi
  | _ => none
@[go_sem] theorem ev_slto {s : Bool × Nat} {x hi : Opd} : QOp.ev (.slto s x hi) a σ = sltC s (x.ev a) (hi.ev a) := by
  simp only [QOp.ev, sltC]
  generalize hi.ev a = u
  cases u <;> simp only [intV]
@[go_sem] theorem sltC_int {k : IntKind} {s : Bool × Nat} {x : AV} {hi : Int} : sltC s x (.int k hi) = slV s x 0 hi := id rfl
@[go_sem] theorem slC_int {k k' : IntKind} {s : Bool × Nat} {x : AV} {lo hi : Int} : slC s x (.int k lo) (.int k' hi) = slV s x lo hi := id rfl
@[go_sem] theorem slV_str {s : Nat} {l : List UInt8} {lo hi : Int} (h0 : 0 ≤ lo) (h1 : lo ≤ hi) (h2 : hi ≤ l.length) : slV (true, s) (.str l) lo hi = some (.str ((l.take hi.toNat).drop lo.toNat)) := by
  unfold slV
  rw [if_neg (by omega)]
  simp [h2]
@[go_sem] theorem slV_sl0 {s : Nat} {k : SK} {xs : List AV} {hi : Int} (h1 : 0 ≤ hi) (h2 : hi ≤ xs.length) : slV (false, s) (.sl k xs) 0 hi = some (.sl .shr (xs.take hi.toNat)) := by
  unfold slV
  rw [if_neg (by omega)]
  simp [h2]
@[go_sem] theorem slV_sl {s : Nat} {k : SK} {xs : List AV} {lo hi : Int} (h0 : 0 ≤ lo) (h1 : lo ≤ hi) (h2 : hi ≤ xs.length) (hz : allSz s xs = true) : slV (false, s) (.sl k xs) lo hi = some (.sl .shr ((xs.take hi.toNat).drop lo.toNat)) := by
  unfold slV
  rw [if_neg (by omega)]
  simp only [h2, if_true, hz]
  split
  · rename_i h; subst h; simp
  · rfl
@[go_sem] theorem slV_msl {s b o n c : Nat} {lo hi : Int} (h0 : 0 ≤ lo) (h1 : lo ≤ hi) (h2 : hi ≤ c) (h3 : lo < c) : slV (false, s) (.msl b o n c) lo hi = some (.msl b (o + lo.toNat * s) (hi.toNat - lo.toNat) (c - lo.toNat)) := by
  unfold slV
  rw [if_neg (by omega)]
  simp only [h2, if_true]
  rw [if_neg (by omega)]
def eqC (k : EqK) (neg : Bool) (x y : AV) : Option AV :=
  match eqV k x y with
  | some b => some (.bool (if neg then !b else b))
  | none => none
@[go_sem] theorem ev_eq {k : EqK} {neg : Bool} {x y : Opd} : QOp.ev (.eq k neg x y) a σ = eqC k neg (x.ev a) (y.ev a) := id rfl
def eqsC (neg : Bool) (l : List (Nat × Nat)) (x y : AV) : Option AV :=
  match x, y with
  | .agg cs, .agg ds => match eqCs l cs ds with
    | some b => some (.bool (if neg then !b else b))
    | none => none
  | _, _ => none
@[go_sem] theorem ev_eqs {neg : Bool} {l : List (Nat × Nat)} {x y : Opd} : QOp.ev (.eqs neg l x y) a σ = eqsC neg l (x.ev a) (y.ev a) := by
  simp only [QOp.ev, eqsC]
  cases x.ev a <;> cases y.ev a <;> rfl
def eqsD (neg : Bool) : Option Bool → Option AV
  | some b => some (.bool (if neg = true then !b else b))
  | none => none
@[go_sem] theorem eqsC_agg {neg : Bool} {l : List (Nat × Nat)} {cs ds : List AV} : eqsC neg l (.agg cs) (.agg ds) = eqsD neg (eqCs l cs ds) := id rfl
@[go_sem] theorem eqsD_n {b : Bool} : eqsD true (some b) = some (.bool (!b)) := id rfl
@[go_sem] theorem eqsD_p {b : Bool} : eqsD false (some b) = some (.bool b) := id rfl
def eqsE (r q : Option Bool) : Option Bool :=
  match r, q with
  | some r, some q => some (r && q)
  | _, _ => none
def eqsF (k : Nat) (x y : Option AV) : Option Bool :=
  match x, y with
  | some x, some y => leafEq k x y
  | _, _ => none
@[go_sem] theorem eqCs_nil {cs ds : List AV} : eqCs [] cs ds = some true := id rfl
@[go_sem] theorem eqCs_cons {o k : Nat} {l : List (Nat × Nat)} {cs ds : List AV} : eqCs ((o, k) :: l) cs ds = eqsE (eqsF k cs[o]? ds[o]?) (eqCs l cs ds) := by
  simp only [eqCs, eqsE, eqsF]
  cases cs[o]? <;> cases ds[o]? <;> rfl
@[go_sem] theorem eqsF_i {k : IntKind} {x y : Int} : eqsF 0 (some (.int k x)) (some (.int k y)) = some (decide (x = y)) := by simp [eqsF, leafEq]
@[go_sem] theorem eqsF_b {x y : Bool} : eqsF 1 (some (.bool x)) (some (.bool y)) = some (decide (x = y)) := id rfl
@[go_sem] theorem eqsF_s {x y : List UInt8} : eqsF 2 (some (.str x)) (some (.str y)) = some (decide (x = y)) := id rfl
@[go_sem] theorem eqsE_some {r q : Bool} : eqsE (some r) (some q) = some (r && q) := id rfl
def taC (t : TypeId) (z : AV) (ok : Bool) : AV → Option AV
  | .iface s v => if s = t then some (if ok then .tuple [v, .bool true] else v) else if ok then some (.tuple [z, .bool false]) else none
  | .nili => if ok then some (.tuple [z, .bool false]) else none
  | _ => none
@[go_sem] theorem ev_ta {t : TypeId} {z : AV} {ok : Bool} {x : Opd} : QOp.ev (.ta t z ok x) a σ = taC t z ok (x.ev a) := by
  simp only [QOp.ev, taC]
  cases x.ev a <;> rfl
@[go_sem] theorem taC_iface {t s : TypeId} {z v : AV} {ok : Bool} : taC t z ok (.iface s v) = if s = t then some (if ok then .tuple [v, .bool true] else v) else if ok then some (.tuple [z, .bool false]) else none := id rfl
@[go_sem] theorem taC_nili {t : TypeId} {z : AV} {ok : Bool} : taC t z ok .nili = if ok then some (.tuple [z, .bool false]) else none := id rfl

@[go_sem] theorem binV_int {op : BinOp} {k k' : IntKind} {m n : Int} : binV op (.int k m) (.int k' n) = if isSh op then shI op k m n else if k = k' then binI op k m n else none := id rfl
@[go_sem] theorem binV_str {op : BinOp} {x y : List UInt8} : binV op (.str x) (.str y) = binS op x y := id rfl
@[go_sem] theorem binS_add {x y : List UInt8} (h : x.length + y.length ≤ 9223372036854775807) : binS .add x y = some (.str (x ++ y)) := by simp [binS, h]
@[go_sem] theorem binS_eql {x y : List UInt8} : binS .eql x y = some (.bool (decide (x = y))) := id rfl
@[go_sem] theorem binS_neq {x y : List UInt8} : binS .neq x y = some (.bool (!decide (x = y))) := id rfl
@[go_sem] theorem binS_lss {x y : List UInt8} : binS .lss x y = some (.bool (Op.bytesLess x y)) := id rfl
@[go_sem] theorem binI_add {k : IntKind} {x y : Int} : binI .add k x y = some (.int k (k.wrap (x + y))) := id rfl
@[go_sem] theorem binI_sub {k : IntKind} {x y : Int} : binI .sub k x y = some (.int k (k.wrap (x - y))) := id rfl
@[go_sem] theorem binI_mul {k : IntKind} {x y : Int} : binI .mul k x y = some (.int k (k.wrap (x * y))) := id rfl
@[go_sem] theorem binI_quo {k : IntKind} {x y : Int} (h : y ≠ 0) : binI .quo k x y = some (.int k (k.wrap (x.tdiv y))) := by simp [binI, h]
@[go_sem] theorem binI_rem {k : IntKind} {x y : Int} (h : y ≠ 0) : binI .rem k x y = some (.int k (x.tmod y)) := by simp [binI, h]
@[go_sem] theorem binI_and {k : IntKind} {x y : Int} : binI .and k x y = some (.int k (k.wrap (BitVec.ofInt k.bits x &&& BitVec.ofInt k.bits y).toNat)) := id rfl
@[go_sem] theorem binI_or {k : IntKind} {x y : Int} : binI .or k x y = some (.int k (k.wrap (BitVec.ofInt k.bits x ||| BitVec.ofInt k.bits y).toNat)) := id rfl
@[go_sem] theorem binI_xor {k : IntKind} {x y : Int} : binI .xor k x y = some (.int k (k.wrap (BitVec.ofInt k.bits x ^^^ BitVec.ofInt k.bits y).toNat)) := id rfl
@[go_sem] theorem binI_eql {k : IntKind} {x y : Int} : binI .eql k x y = some (.bool (decide (x = y))) := id rfl
@[go_sem] theorem binI_neq {k : IntKind} {x y : Int} : binI .neq k x y = some (.bool (!decide (x = y))) := id rfl
@[go_sem] theorem binI_lss {k : IntKind} {x y : Int} : binI .lss k x y = some (.bool (decide (x < y))) := id rfl
@[go_sem] theorem binI_leq {k : IntKind} {x y : Int} : binI .leq k x y = some (.bool (decide (x ≤ y))) := id rfl
@[go_sem] theorem binI_gtr {k : IntKind} {x y : Int} : binI .gtr k x y = some (.bool (decide (y < x))) := id rfl
@[go_sem] theorem binI_geq {k : IntKind} {x y : Int} : binI .geq k x y = some (.bool (decide (y ≤ x))) := id rfl
/-- How far is shifted: no farther than there are bits. -/
def mnb (a b : Nat) : Nat := min a b
@[go_sem] theorem mnb_le {a b : Nat} (h : a ≤ b) : mnb a b = a := Nat.min_eq_left h
@[go_sem] theorem shI_shl {k : IntKind} {x y : Int} (h : 0 ≤ y) : shI .shl k x y = some (.int k (k.wrap (x * 2 ^ mnb y.toNat k.bits))) := by
  unfold shI mnb; rw [if_neg (by omega)]
@[go_sem] theorem shI_shr {k : IntKind} {x y : Int} (h : 0 ≤ y) : shI .shr k x y = some (.int k (x / 2 ^ mnb y.toNat k.bits)) := by
  unfold shI mnb; rw [if_neg (by omega)]

@[go_sem] theorem wrap_i64 {n : Int} (h1 : -9223372036854775808 ≤ n) (h2 : n ≤ 9223372036854775807) : IntKind.wrap .i64 n = n := by
  have e : IntKind.wrap .i64 n = if 9223372036854775808 ≤ n % 18446744073709551616 then n % 18446744073709551616 - 18446744073709551616 else n % 18446744073709551616 := by simp [IntKind.wrap, IntKind.bits, IntKind.signed]
  rw [e]
  split <;> omega
@[go_sem] theorem wrap_u64 {n : Int} (h1 : 0 ≤ n) (h2 : n ≤ 18446744073709551615) : IntKind.wrap .u64 n = n := by
  have e : IntKind.wrap .u64 n = n % 18446744073709551616 := by simp [IntKind.wrap, IntKind.bits, IntKind.signed]
  rw [e]
  omega
theorem wrap_u64' {n : Int} : IntKind.wrap .u64 n = n % 18446744073709551616 := by
  simp [IntKind.wrap, IntKind.bits, IntKind.signed]
@[go_sem] theorem wrap_u32 {n : Int} (h1 : 0 ≤ n) (h2 : n ≤ 4294967295) : IntKind.wrap .u32 n = n := by
  have e : IntKind.wrap .u32 n = n % 4294967296 := by simp [IntKind.wrap, IntKind.bits, IntKind.signed]
  rw [e]
  omega
theorem wrap_u32' {n : Int} : IntKind.wrap .u32 n = n % 4294967296 := by
  simp [IntKind.wrap, IntKind.bits, IntKind.signed]
@[go_sem] theorem wrap_u8 {n : Int} (h1 : 0 ≤ n) (h2 : n ≤ 255) : IntKind.wrap .u8 n = n := by
  have e : IntKind.wrap .u8 n = n % 256 := by simp [IntKind.wrap, IntKind.bits, IntKind.signed]
  rw [e]
  omega
theorem wrap_u8' {n : Int} : IntKind.wrap .u8 n = n % 256 := by
  simp [IntKind.wrap, IntKind.bits, IntKind.signed]
@[go_sem] theorem wrap_i32 {n : Int} (h1 : -2147483648 ≤ n) (h2 : n ≤ 2147483647) : IntKind.wrap .i32 n = n := by
  have e : IntKind.wrap .i32 n = if 2147483648 ≤ n % 4294967296 then n % 4294967296 - 4294967296 else n % 4294967296 := by simp [IntKind.wrap, IntKind.bits, IntKind.signed]
  rw [e]
  split <;> omega
@[go_sem] theorem dec_t {p : Prop} [Decidable p] (h : p) : decide p = true := decide_eq_true h
@[go_sem] theorem dec_f {p : Prop} [Decidable p] (h : ¬ p) : decide p = false := decide_eq_false h

-- what acts
def storeD (n b o : Nat) (v : AV) (σ : ASt) (K : AV → ASt → Prop) : Option Role → Prop
  | some (.obj cs) => leaves v.cells = true ∧ v.cells.length = n ∧ o + n ≤ cs.length ∧ K .any (σ.set b (some (.obj (splice cs o n v.cells))))
  | _ => False
def storeC (n : Nat) (p v : AV) (σ : ASt) (K : AV → ASt → Prop) : Prop :=
  match p with
  | .ptr b o => storeD n b o v σ K (σ b)
  | _ => False
variable {KK : AV → ASt → Prop}
@[go_sem] theorem st_store {n : Nat} {p x : Opd} : EOp.step P (.store n p x) a σ KK = storeC n (p.ev a) (x.ev a) σ KK := by
  simp only [EOp.step, storeC]
  cases p.ev a <;> rfl
@[go_sem] theorem storeC_ptr {n b o : Nat} {v : AV} : storeC n (.ptr b o) v σ KK = storeD n b o v σ KK (σ b) := id rfl
@[go_sem] theorem storeD_obj {n b o : Nat} {v : AV} {cs : List AV} : storeD n b o v σ KK (some (.obj cs)) = (leaves v.cells = true ∧ v.cells.length = n ∧ o + n ≤ cs.length ∧ KK .any (σ.set b (some (.obj (splice cs o n v.cells))))) := id rfl
def boxC (v : AV) (σ : ASt) (K : AV → ASt → Prop) : Prop := v.isAny = false ∧ ∀ b, σ b = none → K (.ptr b 0) (σ.set b (some (.obj v.cells)))
@[go_sem] theorem st_box {x : Opd} : EOp.step P (.box x) a σ KK = boxC (x.ev a) σ KK := id rfl
def allocC (z : List AV) (σ : ASt) (K : AV → ASt → Prop) : Prop := ∀ b, σ b = none → K (.ptr b 0) (σ.set b (some (.obj z)))
@[go_sem] theorem st_alloc {z : List AV} : EOp.step P (.alloc z) a σ KK = allocC z σ KK := id rfl
def allocTC (T : TypeId) (σ : ASt) (K : AV → ASt → Prop) : Prop := ∀ b, σ b = none → K (.ptr b 0) (σ.set b (some (.typ T [.pointer none, .slice none 0 0])))
@[go_sem] theorem st_allocT {T : TypeId} : EOp.step P (.allocT T) a σ KK = allocTC T σ KK := id rfl
theorem allocTC_by {T : TypeId} (h : ∀ b, σ b = none → KK (.ptr b 0) (σ.set b (some (.typ T [.pointer none, .slice none 0 0])))) : allocTC T σ KK := h
@[go_sem] theorem st_call {f : FuncId} {args : List Opd} : EOp.step P (.call f args) a σ KK = ACalls P f (evs a args) σ KK := by rw [← evs_map]; rfl
def callvC (P : Program) (x : AV) (args : List AV) (σ : ASt) (K : AV → ASt → Prop) : Prop :=
  match x with
  | .func (.func f) first cap => okFn P f = true ∧ ACalls P f (first ++ args ++ cap) σ K
  | _ => False
@[go_sem] theorem st_callv {x : Opd} {args : List Opd} : EOp.step P (.callv x args) a σ KK = callvC P (x.ev a) (evs a args) σ KK := by
  rw [← evs_map]
  simp only [EOp.step, callvC]
  cases x.ev a <;> rfl
@[go_sem] theorem callvC_f {f : FuncId} {first cap args : List AV} : callvC P (.func (.func f) first cap) args σ KK = (okFn P f = true ∧ ACalls P f (first ++ args ++ cap) σ KK) := id rfl
def appM (s bytes : Nat) (z : List AV) (b o n c : Nat) (ys : List AV) (σ : ASt) (K : AV → ASt → Prop) (r : Option Role) : Prop :=
  match r with
  | some (.obj cs) => wellSz s ys = true ∧ leaves (ys.flatMap AV.cells) = true ∧ (n + ys.length) * bytes ≤ 140737488355328 ∧ n + ys.length ≤ 4611686018427387904 ∧ o + n * s ≤ cs.length ∧
      (n + ys.length ≤ c → o + (n + ys.length) * s ≤ cs.length ∧ K (.msl b o (n + ys.length) c) (σ.set b (some (.obj (splice cs (o + n * s) (ys.length * s) (ys.flatMap AV.cells)))))) ∧
      (c < n + ys.length → ∀ b' c', σ b' = none → n + ys.length ≤ c' → K (.msl b' 0 (n + ys.length) c') (σ.set b' (some (.obj (ownRow s z ((cs.drop o).take (n * s) ++ ys.flatMap AV.cells) (n + ys.length) c')))))
  | _ => False
def appC (e : TypeId) (s bytes : Nat) (z : List AV) (x y : AV) (σ : ASt) (K : AV → ASt → Prop) : Prop :=
  match x, y with
  | .sl k xs, .sl _ ys => canApp σ k xs s ∧ wellSz s ys = true ∧ leaves (ys.flatMap AV.cells) = true ∧ (xs.length + ys.length) * bytes ≤ 140737488355328 ∧ xs.length + ys.length ≤ 4611686018427387904 ∧
        ((∀ k' σ', App e σ k s xs.length ys.length k' σ' → K (.sl k' (xs ++ ys)) σ') ∨
          (k = .full ∧ 0 < ys.length ∧ ∀ b c, σ b = none → xs.length + ys.length ≤ c → K (.msl b 0 (xs.length + ys.length) c) (σ.set b (some (.obj (ownRow s z (xs.flatMap AV.cells ++ ys.flatMap AV.cells) (xs.length + ys.length) c))))))
  | .msl b o n c, .sl _ ys => appM s bytes z b o n c ys σ K (σ b)
  | _, _ => False
@[go_sem] theorem st_app {e : TypeId} {s bytes : Nat} {z : List AV} {x y : Opd} : EOp.step P (.app e s bytes z x y) a σ KK = appC e s bytes z (x.ev a) (y.ev a) σ KK := by
  simp only [EOp.step, appC]
  cases x.ev a <;> cases y.ev a <;> rfl
@[go_sem] theorem appC_msl {e : TypeId} {s bytes : Nat} {z : List AV} {b o n c : Nat} {k : SK} {ys : List AV} : appC e s bytes z (.msl b o n c) (.sl k ys) σ KK = appM s bytes z b o n c ys σ KK (σ b) := id rfl
/-- append to memory of one's own: both ways. -/
theorem appM_by {s bytes : Nat} {z : List AV} {b o n c : Nat} {ys cs : List AV} (h2 : wellSz s ys = true) (h3 : leaves (ys.flatMap AV.cells) = true) (h4 : (n + ys.length) * bytes ≤ 140737488355328) (h5 : n + ys.length ≤ 4611686018427387904) (h0 : o + n * s ≤ cs.length)
    (hK1 : n + ys.length ≤ c → o + (n + ys.length) * s ≤ cs.length ∧ KK (.msl b o (n + ys.length) c) (σ.set b (some (.obj (splice cs (o + n * s) (ys.length * s) (ys.flatMap AV.cells))))))
    (hK2 : c < n + ys.length → ∀ b' c', σ b' = none → n + ys.length ≤ c' → KK (.msl b' 0 (n + ys.length) c') (σ.set b' (some (.obj (ownRow s z ((cs.drop o).take (n * s) ++ ys.flatMap AV.cells) (n + ys.length) c'))))) :
    appM s bytes z b o n c ys σ KK (some (.obj cs)) := ⟨h2, h3, h4, h5, h0, hK1, hK2⟩
/-- append that makes memory of one's own. -/
theorem appO_by {e : TypeId} {s bytes : Nat} {z : List AV} {k : SK} {xs ys : List AV} (hx : wellSz s xs = true) (h2 : wellSz s ys = true) (h3 : leaves (ys.flatMap AV.cells) = true) (h4 : (xs.length + ys.length) * bytes ≤ 140737488355328) (h5 : xs.length + ys.length ≤ 4611686018427387904) (h6 : 0 < ys.length)
    (hK : ∀ b c, σ b = none → xs.length + ys.length ≤ c → KK (.msl b 0 (xs.length + ys.length) c) (σ.set b (some (.obj (ownRow s z (xs.flatMap AV.cells ++ ys.flatMap AV.cells) (xs.length + ys.length) c))))) : appC e s bytes z (.sl .full xs) (.sl k ys) σ KK :=
  ⟨hx, h2, h3, h4, h5, .inr ⟨rfl, h6, hK⟩⟩
def appsC (e : TypeId) (x y : AV) (σ : ASt) (K : AV → ASt → Prop) : Prop :=
  match x, y with
  | .sl k xs, .str l => canApp σ k xs 1 ∧ xs.length + l.length ≤ 140737488355328 ∧ ∀ k' σ', App e σ k 1 xs.length l.length k' σ' → K (.sl k' (xs ++ bytesAV l)) σ'
  | _, _ => False
@[go_sem] theorem st_apps {e : TypeId} {x y : Opd} : EOp.step P (.apps e x y) a σ KK = appsC e (x.ev a) (y.ev a) σ KK := by
  simp only [EOp.step, appsC, bytesAV]
  cases x.ev a <;> cases y.ev a <;> rfl
def s2bC (x : AV) (σ : ASt) (K : AV → ASt → Prop) : Prop :=
  match x with
  | .str l => K (.sl .shr (bytesAV l)) σ ∨ ∀ b c, σ b = none → l.length ≤ c → K (.msl b 0 l.length c) (σ.set b (some (.obj (bytesAV l))))
  | _ => False
@[go_sem] theorem st_s2b {x : Opd} : EOp.step P (.s2b x) a σ KK = s2bC (x.ev a) σ KK := by
  simp only [EOp.step, s2bC, bytesAV]
  cases x.ev a <;> rfl
/-- A text's bytes, only read. -/
theorem s2b_shr {l : List UInt8} (h : KK (.sl .shr (bytesAV l)) σ) : s2bC (.str l) σ KK := .inl h
/-- A text's bytes, one's own. -/
theorem s2b_own {l : List UInt8} (h : ∀ b c, σ b = none → l.length ≤ c → KK (.msl b 0 l.length c) (σ.set b (some (.obj (bytesAV l))))) : s2bC (.str l) σ KK := .inr h
def mksC (e : TypeId) (bytes : Nat) (z n m : AV) (σ : ASt) (K : AV → ASt → Prop) : Prop :=
  match n, m with
  | .int _ n, .int _ m => 0 ≤ n ∧ n ≤ m ∧ m ≤ 4611686018427387904 ∧ (bytes : Int) * m ≤ 281474976710656 ∧
      ((∀ b, σ b = none → K (.msl b 0 n.toNat m.toNat) (σ.set b (some (.obj (List.replicate m.toNat z))))) ∨ (n = 0 ∧ ∀ b, σ b = none → K (.sl (.tok b 1 e) []) (σ.set b (some (.tok 0)))))
  | _, _ => False
@[go_sem] theorem st_mks {e : TypeId} {bytes : Nat} {z : AV} {n m : Opd} : EOp.step P (.mks e bytes z n m) a σ KK = mksC e bytes z (n.ev a) (m.ev a) σ KK := by
  simp only [EOp.step, mksC]
  cases n.ev a <;> cases m.ev a <;> rfl
theorem mks_own {e : TypeId} {bytes : Nat} {z : AV} {k k' : IntKind} {n m : Int} (h0 : 0 ≤ n) (h1 : n ≤ m) (h2 : m ≤ 4611686018427387904) (h3 : (bytes : Int) * m ≤ 281474976710656)
    (h : ∀ b, σ b = none → KK (.msl b 0 n.toNat m.toNat) (σ.set b (some (.obj (List.replicate m.toNat z))))) : mksC e bytes z (.int k n) (.int k' m) σ KK := ⟨h0, h1, h2, h3, .inl h⟩
theorem mks_tok {e : TypeId} {bytes : Nat} {z : AV} {k k' : IntKind} {m : Int} (h1 : 0 ≤ m) (h2 : m ≤ 4611686018427387904) (h3 : (bytes : Int) * m ≤ 281474976710656)
    (h : ∀ b, σ b = none → KK (.sl (.tok b 1 e) []) (σ.set b (some (.tok 0)))) : mksC e bytes z (.int k 0) (.int k' m) σ KK := ⟨Int.le_refl _, h1, h2, h3, .inr ⟨rfl, h⟩⟩
def rngC (x : AV) (σ : ASt) (K : AV → ASt → Prop) : Prop :=
  match x with
  | .str l => ∀ b, σ b = none → K (.ptr b 0) (σ.set b (some (.iter l 0)))
  | _ => False
@[go_sem] theorem st_rng {x : Opd} : EOp.step P (.rng x) a σ KK = rngC (x.ev a) σ KK := by
  simp only [EOp.step, rngC]
  cases x.ev a <;> rfl
theorem rngC_by {l : List UInt8} (h : ∀ b, σ b = none → KK (.ptr b 0) (σ.set b (some (.iter l 0)))) : rngC (.str l) σ KK := h
def nxtD (b : Nat) (r : Option Role) (σ : ASt) (K : AV → ASt → Prop) : Prop :=
  match r with
  | some (.iter l p) => if p < l.length then K (.tuple [.bool true, .int .i64 p, .int .i32 (Utf8.decode ⟨⟨l⟩⟩ p).1]) (σ.set b (some (.iter l (p + (Utf8.decode ⟨⟨l⟩⟩ p).2))))
      else K (.tuple [.bool false]) σ
  | _ => False
def nxtC (x : AV) (σ : ASt) (K : AV → ASt → Prop) : Prop :=
  match x with
  | .ptr b 0 => nxtD b (σ b) σ K
  | _ => False
@[go_sem] theorem st_nxt {x : Opd} : EOp.step P (.nxt x) a σ KK = nxtC (x.ev a) σ KK := by
  simp only [EOp.step, nxtC]
  split
  · rename_i b h
    rw [h]
    simp only [nxtD]
    cases σ b with
    | none => rfl
    | some r => cases r <;> rfl
  · rename_i h
    split
    · rename_i b h2
      exact absurd h2 (h b)
    · rfl
@[go_sem] theorem nxtC_ptr {b : Nat} : nxtC (.ptr b 0) σ KK = nxtD b (σ b) σ KK := id rfl
theorem nxt_more {b p : Nat} {l : List UInt8} (hp : p < l.length) (h : KK (.tuple [.bool true, .int .i64 p, .int .i32 (Utf8.decode ⟨⟨l⟩⟩ p).1]) (σ.set b (some (.iter l (p + (Utf8.decode ⟨⟨l⟩⟩ p).2))))) : nxtD b (some (.iter l p)) σ KK := by
  simp only [nxtD]; rw [if_pos hp]; exact h
theorem nxt_over {b p : Nat} {l : List UInt8} (hp : l.length ≤ p) (h : KK (.tuple [.bool false]) σ) : nxtD b (some (.iter l p)) σ KK := by
  simp only [nxtD]; rw [if_neg (by omega)]; exact h
@[go_sem] theorem st_dead : EOp.step P .dead a σ KK = False := id rfl
end
attribute [go_sem] List.getD_cons_zero List.getD_cons_succ List.getD_nil List.map_cons List.map_nil List.length_cons List.length_nil List.take_succ_cons List.take_zero List.drop_succ_cons List.drop_zero List.cons_append List.nil_append List.append_nil List.getElem?_cons_zero List.getElem?_cons_succ Option.map_some decide_true decide_false Bool.not_true Bool.not_false if_true if_false Nat.zero_add and_true true_and Bool.false_eq_true Int.toNat_natCast Int.toNat_zero Bool.and_true Bool.and_self beq_self_eq_true Bool.and_eq_true Nat.add_zero decide_eq_true_eq ne_eq not_false_eq_true not_true_eq_false List.getD_eq_getElem?_getD Option.getD_some Option.getD_none List.getElem?_nil List.length_map List.length_append Nat.lt_irrefl Int.natCast_add Int.cast_ofNat_Int
end Go.A
