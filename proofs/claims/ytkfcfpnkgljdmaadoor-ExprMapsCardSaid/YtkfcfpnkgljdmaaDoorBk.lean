/- Code, abstractly; **what is shown of the compiled code holds of the machine's.** · Functions, abstractly. -/
import Derived.Test.YtkfcfpnkgljdmaaDoorBi
import Derived.Defers
namespace Go.A
set_option linter.unusedSimpArgs false
set_option linter.unusedVariables false

inductive AExit where
  | normal
  | exit (id : Nat)
  | ret
def AExit.toExit : AExit → Exit
  | .normal => .normal
  | .exit id => .exit id
  | .ret => .ret
abbrev APost := AExit → AFr → ASt → Prop

inductive ACode where
  | skip
  | ret
  | exit (id : Nat)
  | ops (l : List AItem)
  | seq (x y : ACode)
  | cond (c : Opd) (x y : ACode)
  | block (id : Nat) (x : ACode)
  | loop (x : ACode)
  | dfr (f : FuncId) (x : Opd) (d : Nat) (y : ACode)
  deriving Inhabited

/- What is known less well: that slices have no spare places, all the way down. -/
mutual
def deep : AV → AV
  | .sl _ xs => .sl .shr (deeps xs)
  | .agg xs => .agg (deeps xs)
  | .tuple xs => .tuple (deeps xs)
  | .iface t v => .iface t (deep v)
  | .any => .any
  | .bool b => .bool b
  | .int k n => .int k n
  | .str l => .str l
  | .ptr b o => .ptr b o
  | .imm cs => .imm cs
  | .nilp => .nilp
  | .msl b o n c => .msl b o n c
  | .nili => .nili
  | .func fn f c => .func fn f c
  | .nilf => .nilf
def deeps : List AV → List AV
  | [] => []
  | x :: xs => deep x :: deeps xs
end
theorem deeps_len : ∀ xs : List AV, (deeps xs).length = xs.length
  | [] => rfl
  | _ :: xs => by simp [deeps, deeps_len xs]
theorem deep_cells (x : AV) : (deep x).cells = deeps x.cells := by
  cases x <;> simp [deep, deeps, AV.cells]
section
variable {σ : ASt} {w : World}
mutual
theorem Rep.deep : ∀ {a : AV} {v : Value}, Rep σ w a v → Rep σ w (Go.A.deep a) v
  | _, _, .any v => by rw [Go.A.deep]; exact .any v
  | _, _, .bool b => by rw [Go.A.deep]; exact .bool b
  | _, _, .int k n => by rw [Go.A.deep]; exact .int k n
  | _, _, .str l => by rw [Go.A.deep]; exact .str l
  | _, _, .ptr b o => by rw [Go.A.deep]; exact .ptr b o
  | _, _, .imm h => by rw [Go.A.deep]; exact .imm h
  | _, _, .nilp => by rw [Go.A.deep]; exact .nilp
  | _, _, .slE A c => by rw [Go.A.deep, Go.A.deeps]; exact .slE A c
  | _, _, .slN => by rw [Go.A.deep, Go.A.deeps]; exact .slE none 0
  | _, _, .sl h1 h2 h3 h4 h5 => by rw [Go.A.deep]; exact .sl (Row.deep h1) (by rw [deeps_len]; exact h2) h3 trivial h5
  | _, _, .msl b o n c => by rw [Go.A.deep]; exact .msl b o n c
  | _, _, .agg h => by rw [Go.A.deep]; exact .agg (Reps.deep h)
  | _, _, .tuple h => by rw [Go.A.deep]; exact .tuple (Reps.deep h)
  | _, _, .iface h => by rw [Go.A.deep]; exact .iface (Rep.deep h)
  | _, _, .nili => by rw [Go.A.deep]; exact .nili
  | _, _, .func h1 h2 => by rw [Go.A.deep]; exact .func h1 h2
  | _, _, .nilf => by rw [Go.A.deep]; exact .nilf
theorem Reps.deep : ∀ {as : List AV} {vs : List Value}, Reps σ w as vs → Reps σ w (Go.A.deeps as) vs
  | _, _, .nil => .nil
  | _, _, .cons h1 h2 => .cons (Rep.deep h1) (Reps.deep h2)
theorem At.deep : ∀ {b o : Nat} {as : List AV}, At σ w b o as → At σ w b o (Go.A.deeps as)
  | _, _, _, .nil b o => .nil b o
  | _, _, _, .cons h1 h2 h3 h4 => .cons h1 h2 (Rep.deep h3) (At.deep h4)
theorem Row.deep : ∀ {b o sz : Nat} {as : List AV}, Row σ w b o sz as → Row σ w b o sz (Go.A.deeps as)
  | _, _, _, _, .nil b o sz => .nil b o sz
  | _, _, _, _, .cons (x := x) h1 h2 h3 => .cons (by rw [deep_cells, deeps_len]; exact h1) (by rw [deep_cells]; exact At.deep h2) (Row.deep h3)
end
end
/-- Roles are laid down. -/
def Drop (σ σ' : ASt) : Prop := ∀ b, σ' b = σ b ∨ σ' b = none
theorem Drop.refl (σ : ASt) : Drop σ σ := fun _ => .inl rfl
/-- Roles are laid down, or known less well. -/
def SDrop (σ σ' : ASt) : Prop := ∀ b, σ' b = σ b ∨ σ' b = none ∨ ∃ cs, σ b = some (.obj cs) ∧ σ' b = some (.obj (deeps cs))
theorem Drop.s {σ σ' : ASt} (h : Drop σ σ') : SDrop σ σ' := fun b => (h b).imp id .inl
theorem SDrop.refl (σ : ASt) : SDrop σ σ := (Drop.refl σ).s
theorem SDrop.soft {σ : ASt} {b : Nat} {cs : List AV} (hb : σ b = some (.obj cs)) : SDrop σ (σ.set b (some (.obj (deeps cs)))) := fun x => by
  by_cases hx : x = b
  · subst hx; exact .inr (.inr ⟨cs, hb, by rw [ASt.set_same]⟩)
  · exact .inl (ASt.set_ne hx)
mutual
/-- Values behind roles that were laid down. -/
inductive Fz (σ σ' : ASt) : AV → AV → Prop
  | refl (a : AV) : Fz σ σ' a a
  | any (a : AV) : Fz σ σ' a .any
  | deep (a : AV) : Fz σ σ' a (Go.A.deep a)
  | sl (k : SK) (xs : List AV) : Fz σ σ' (.sl k xs) (.sl .shr xs)
  | ptr {b : Nat} (o : Nat) {cs : List AV} : σ b = some (.obj cs) → σ' b = none → Fz σ σ' (.ptr b o) (.imm (cs.drop o))
  | msl {b : Nat} (o n c s : Nat) {cs : List AV} (xs : List AV) : σ b = some (.obj cs) → σ' b = none → n = xs.length → n ≤ c → (∀ x ∈ xs, x.cells.length = s) → xs.flatMap AV.cells = (cs.drop o).take (n * s) → Fz σ σ' (.msl b o n c) (.sl .shr xs)
  | agg {xs ys : List AV} : Fzs σ σ' xs ys → Fz σ σ' (.agg xs) (.agg ys)
  | tuple {xs ys : List AV} : Fzs σ σ' xs ys → Fz σ σ' (.tuple xs) (.tuple ys)
inductive Fzs (σ σ' : ASt) : List AV → List AV → Prop
  | nil : Fzs σ σ' [] []
  | cons {x y : AV} {xs ys : List AV} : Fz σ σ' x y → Fzs σ σ' xs ys → Fzs σ σ' (x :: xs) (y :: ys)
end
structure DropTo (a : AFr) (σ : ASt) (a' : AFr) (σ' : ASt) : Prop where
  roles : SDrop σ σ'
  vals : ∀ t, Fz σ σ' (a t) (a' t)
theorem DropTo.refl (a : AFr) (σ : ASt) : DropTo a σ a σ := ⟨SDrop.refl σ, fun _ => .refl _⟩
def Dr (F : AFr → ASt → Prop) (a : AFr) (σ : ASt) : Prop := ∃ a' σ', DropTo a σ a' σ' ∧ F a' σ'
theorem Dr.now {F : AFr → ASt → Prop} {a : AFr} {σ : ASt} (h : F a σ) : Dr F a σ := ⟨a, σ, .refl a σ, h⟩

section
variable {σ σ' : ASt} {w : World}
theorem Drop.le (h : Drop σ σ') (w : World) : Le σ w σ' w := by
  refine ⟨rfl, rfl, rfl, Nat.le_refl _, fun b _ hb => ⟨?_, rfl⟩, fun b cs _ hb => ⟨?_, rfl⟩, fun b f _ hb => ⟨?_, rfl, fun _ _ => rfl⟩⟩
  · rcases h b with h1 | h1
    · rw [h1, hb]
    · exact h1
  · rcases h b with h1 | h1
    · exact .inr (by rw [h1, hb])
    · exact .inl h1
  · rcases h b with h1 | h1
    · exact .inr ⟨f, Nat.le_refl _, by rw [h1, hb]⟩
    · exact .inl h1
theorem Drop.sim (h : Drop σ σ') (hs : Sim σ w) : Sim σ' w := by
  intro b r hb
  have : σ b = some r := by
    rcases h b with h1 | h1
    · rw [← h1, hb]
    · rw [h1] at hb; cases hb
  exact (hs b r this).keep (h.le w) rfl
theorem SDrop.le (h : SDrop σ σ') (w : World) : Le σ w σ' w := by
  refine ⟨rfl, rfl, rfl, Nat.le_refl _, fun b _ hb => ⟨?_, rfl⟩, fun b cs _ hb => ⟨?_, rfl⟩, fun b f _ hb => ⟨?_, rfl, fun _ _ => rfl⟩⟩
  · rcases h b with h1 | h1 | ⟨cs, h1, h2⟩
    · rw [h1, hb]
    · exact h1
    · rw [hb] at h1; cases h1
  · rcases h b with h1 | h1 | ⟨cs', h1, h2⟩
    · exact .inr (by rw [h1, hb])
    · exact .inl h1
    · rw [hb] at h1; cases h1
  · rcases h b with h1 | h1 | ⟨cs', h1, h2⟩
    · exact .inr ⟨f, Nat.le_refl _, by rw [h1, hb]⟩
    · exact .inl h1
    · rw [hb] at h1; cases h1
theorem SDrop.sim (h : SDrop σ σ') (hs : Sim σ w) : Sim σ' w := by
  intro b r hb
  rcases h b with h1 | h1 | ⟨cs, h1, h2⟩
  · rw [hb] at h1
    exact (hs b r h1.symm).keep (h.le w) rfl
  · rw [h1] at hb; cases hb
  · rw [h2] at hb
    injection hb with hb
    subst hb
    obtain ⟨c, T, fr, h3, h4, h5⟩ := (hs b _ h1).keep (h.le w) rfl
    exact ⟨c, T, fr, h3, by rw [deeps_len]; exact h4.deep, h5⟩
mutual
theorem Fz.rep (hd : SDrop σ σ') (hs : Sim σ w) : ∀ {a a' : AV} {v : Value}, Fz σ σ' a a' → Rep σ w a v → Rep σ' w a' v
  | _, _, _, .refl a, h => h.mono (hd.le w)
  | _, _, _, .any a, h => .any _
  | _, _, _, .deep a, h => (h.mono (hd.le w)).deep
  | _, _, _, .sl k xs, h => by
    have h := h.mono (hd.le w)
    cases h with
    | slE A c => exact .slE A c
    | slN => exact .slE none 0
    | sl h1 h2 h3 h4 h5 => exact .sl h1 h2 h3 trivial h5
  | _, _, _, .ptr o hb hn, h => by
    cases h
    obtain ⟨vs, h1, h2, _⟩ := hs.objCell hb
    refine .imm (At.mk' ((h1.mono (hd.le w)).drop o) (fun j hj => ⟨hs.lt hb, .inl hn⟩) (fun j v hj => h2 (o + j) v (by simpa using hj)))
  | _, _, _, .msl o n c s xs hb hn hl hc hz hf, h => by
    cases h
    obtain ⟨vs, h1, h2, _⟩ := hs.objCell hb
    refine .sl (sz := s) (Row.unflat hz ?_) hl hc trivial (hs.lt hb)
    rw [hf]
    refine (At.mk' ((h1.mono (hd.le w)).drop o) (fun j hj => ⟨hs.lt hb, .inl hn⟩) (fun j v hj => h2 (o + j) v (by simpa using hj))).take _
  | _, _, _, .agg hx, h => by
    cases h with
    | agg h => exact .agg (Fzs.rep hd hs hx h)
  | _, _, _, .tuple hx, h => by
    cases h with
    | tuple h => exact .tuple (Fzs.rep hd hs hx h)
theorem Fzs.rep (hd : SDrop σ σ') (hs : Sim σ w) : ∀ {as bs : List AV} {vs : List Value}, Fzs σ σ' as bs → Reps σ w as vs → Reps σ' w bs vs
  | _, _, _, .nil, .nil => .nil
  | _, _, _, .cons h1 h2, .cons h3 h4 => .cons (h1.rep hd hs h3) (h2.rep hd hs h4)
end
theorem DropTo.fr {n : Nat} {D : List Deferred} {a a' : AFr} {act : Act} (h : DropTo a σ a' σ') (hs : Sim σ w) (hf : FRel n D σ w a act) : FRel n D σ' w a' act :=
  ⟨hf.size, hf.defers, fun t ht => (h.vals t).rep h.roles hs (hf.rep t ht)⟩
end

def loopWp (F : APost → AFr → ASt → Prop) (Q : APost) (a : AFr) (σ : ASt) : Prop :=
  ∃ I : Nat → AFr → ASt → Prop, (∃ k, Dr (I k) a σ) ∧ ∀ k a σ, I k a σ → F (fun e a' σ' => match e with
    | .normal => ∃ m, m < k ∧ Dr (I m) a' σ'
    | e => Q e a' σ') a σ
def SeqQ (F : APost → AFr → ASt → Prop) (Q : APost) : APost := fun e a σ => match e with
  | .normal => F Q a σ
  | e => Q e a σ
def BlockQ (id : Nat) (Q : APost) : APost := fun e a σ => match e with
  | .exit j => if j = id then Q .normal a σ else Q (.exit j) a σ
  | e => Q e a σ
def condWp (v : AV) (p q : Prop) : Prop :=
  match v with
  | .bool b => if b = true then p else q
  | _ => False
/-- A deferred call, abstractly. -/
def ADefer (P : Program) (f : FuncId) (args : List AV) (σ : ASt) (R : AV → ASt → Prop) : Prop :=
  ∀ (w : World) (vs : List Value), Sim σ w → Reps σ w args vs → CallsD P f ⟨vs⟩ .returning w fun e u' w' => u' = .returning ∧ ∃ u r σ', e = .returned u ∧ R r σ' ∧ Le σ w σ' w' ∧ Sim σ' w' ∧ Rep σ' w' r u
theorem ADefer.mono {P : Program} {f : FuncId} {args : List AV} {σ : ASt} {R R' : AV → ASt → Prop} (h : ADefer P f args σ R) (hr : ∀ r σ', R r σ' → R' r σ') : ADefer P f args σ R' :=
  fun w vs hs ha => (h w vs hs ha).mono fun _ _ _ ⟨h0, u, r, σ', he, h1, h2⟩ => ⟨h0, u, r, σ', he, hr _ _ h1, h2⟩
/-- Behind code that has deferred a call. -/
def DfrQ (P : Program) (f : FuncId) (v : AV) (Q : APost) : APost := fun e a σ => match e with
  | .ret => ADefer P f [v] σ fun _ σ' => Q .ret a σ'
  | _ => False
def ACode.wp (P : Program) : ACode → APost → AFr → ASt → Prop
  | .skip, Q, a, σ => Q .normal a σ
  | .ret, Q, a, σ => Q .ret a σ
  | .exit id, Q, a, σ => Q (.exit id) a σ
  | .ops l, Q, a, σ => runI P l (Q .normal) a σ
  | .seq x y, Q, a, σ => x.wp P (SeqQ (y.wp P) Q) a σ
  | .cond c x y, Q, a, σ => condWp (c.ev a) (x.wp P Q a σ) (y.wp P Q a σ)
  | .block id x, Q, a, σ => x.wp P (BlockQ id Q) a σ
  | .loop x, Q, a, σ => loopWp (x.wp P) Q a σ
  | .dfr f x d y, Q, a, σ => y.wp P (DfrQ P f (x.ev a) Q) (a.upd d (x.ev a)) σ

/-- A region that moves something, and defers a call of it. -/
def dferOf (P : Program) (n : Nat) : Code → Option (FuncId × Opd × Nat)
  | .region _ ops false => match ops.toList with
    | [o1, o2] => match compI P n [o1, o2] o1, o2.op, o2.dst, o2.guard with
      | some ⟨some d, none, .q (.mv x), []⟩, .defer { callee := .value (.func f), args := ⟨[.tmp d']⟩, argTypes := _ }, none, none => if d = d' ∧ d < n ∧ okFn P f = true then some (f, x, d) else none
      | _, _, _, _ => none
    | _ => none
  | _ => none
def compC (P : Program) (n : Nat) : Code → Option ACode
  | .skip => some .skip
  | .ret => some .ret
  | .exit id => some (.exit id)
  | .region _ ops draw => if draw then (if P.follows .mixedOrders then (compR P n ops.toList).map .ops else none) else (compL P n ops.toList ops.toList).map .ops
  | .seq x y => match dferOf P n x with
    | some (f, v, d) => (compC P n y).map (.dfr f v d)
    | none => match compC P n x, compC P n y with
      | some x, some y => some (.seq x y)
      | _, _ => none
  | .cond c x y => match opd c, compC P n x, compC P n y with
    | some c', some x, some y => if tmpOk n c then some (.cond c' x y) else none
    | _, _, _ => none
  | .block id x => (compC P n x).map (.block id)
  | .loop x => (compC P n x).map .loop
  | _ => none

/-- The deferred calls, one behind the other. -/
def Chain (P : Program) : List Deferred → ASt → World → (ASt → Prop) → Prop
  | [], σ, _, K => K σ
  | d :: ds, σ, w, K => ∃ f v u, d = ⟨.fn (.func f) #[], #[u]⟩ ∧ okFn P f = true ∧ Rep σ w v u ∧ ADefer P f [v] σ fun _ σ' => ∀ w', Le σ w σ' w' → Sim σ' w' → Chain P ds σ' w' K
theorem Chain.snoc {P : Program} {f : FuncId} {v : AV} {u : Value} (hf : okFn P f = true) {K : ASt → Prop} : ∀ {ds : List Deferred} {σ : ASt} {w : World}, Rep σ w v u → Chain P ds σ w (fun σ' => ADefer P f [v] σ' fun _ σ'' => K σ'') →
    Chain P (ds ++ [⟨.fn (.func f) #[], #[u]⟩]) σ w K
  | [], σ, w, hr, h => ⟨f, v, u, rfl, hf, hr, h.mono fun _ _ hk _ _ _ => hk⟩
  | d :: ds, σ, w, hr, h => by
    obtain ⟨g, v', u', h1, h2, h3, h4⟩ := h
    exact ⟨g, v', u', h1, h2, h3, h4.mono fun _ σ' hk w' hl hs => Chain.snoc hf (hr.mono hl) (hk w' hl hs)⟩
/-- What is asked behind code. -/
def QP (P : Program) (n : Nat) (D : List Deferred) (σ0 : ASt) (w0 : World) (Q : APost) : Exit → Act → World → Prop := fun e act w =>
  ∃ x a σ ds, e = x.toExit ∧ (ds ≠ [] → x = .ret) ∧ Chain P ds σ w (fun σ' => Q x a σ') ∧ Le σ0 w0 σ w ∧ Sim σ w ∧ FRel n (ds ++ D) σ w a act

section
variable {P : Program} {n : Nat} {D : List Deferred}

theorem least_ex {p : Nat → Prop} (h : ∃ k, p k) : ∃ k, p k ∧ ∀ m, p m → k ≤ m := by
  obtain ⟨k, hk⟩ := h
  induction k using Nat.strongRecOn with
  | _ k ih =>
    by_cases hex : ∃ m, m < k ∧ p m
    · obtain ⟨m, hm, hp⟩ := hex
      exact ih m hm hp
    · exact ⟨k, hk, fun m hm => Nat.le_of_not_lt fun hlt => hex ⟨m, hlt, hm⟩⟩
noncomputable def least {p : Nat → Prop} (h : ∃ k, p k) : Nat := Classical.choose (least_ex h)
theorem least_spec {p : Nat → Prop} (h : ∃ k, p k) : p (least h) := (Classical.choose_spec (least_ex h)).1
theorem least_min {p : Nat → Prop} (h : ∃ k, p k) {m : Nat} (hm : p m) : least h ≤ m := (Classical.choose_spec (least_ex h)).2 m hm

theorem dferOf_spec {x : Code} {f : FuncId} {v : Opd} {d : Nat} (h : dferOf P n x = some (f, v, d)) : ∃ id ops o1 o2 tys, x = .region id ops false ∧ ops.toList = [o1, o2] ∧ compI P n [o1, o2] o1 = some ⟨some d, none, .q (.mv v), []⟩ ∧
    o2.op = .defer { callee := .value (.func f), args := ⟨[.tmp d]⟩, argTypes := tys } ∧ o2.dst = none ∧ o2.guard = none ∧ d < n ∧ okFn P f = true := by
  unfold dferOf at h
  split at h
  · rename_i id ops
    split at h
    · rename_i o1 o2 hops
      split at h
      · rename_i d1 v1 f1 d2 tys h1 h2 h3 h4
        split at h
        · rename_i hc
          simp only [Option.some.injEq, Prod.mk.injEq] at h
          obtain ⟨rfl, rfl, rfl⟩ := h
          obtain ⟨rfl, h5, h6⟩ := hc
          exact ⟨id, ops, o1, o2, tys, rfl, hops, h1, h2, h3, h4, h5, h6⟩
        · cases h
      · cases h
    · cases h
  · cases h
theorem compC_sound : ∀ (c : Code) (ac : ACode), compC P n c = some ac → ∀ (D : List Deferred) (Q : APost) (a : AFr) (σ : ASt) (act : Act) (w : World), ac.wp P Q a σ → Sim σ w → FRel n D σ w a act → ∀ (σ0 : ASt) (w0 : World), Le σ0 w0 σ w → c.wp P (QP P n D σ0 w0 Q) act w
  | .skip, ac, hc, D, Q, a, σ, act, w, h, hs, hf, σ0, w0, hl => by
    injection hc with hc; subst hc
    exact wp_skip ⟨.normal, a, σ, [], rfl, fun h => absurd rfl h, h, hl, hs, hf⟩
  | .ret, ac, hc, D, Q, a, σ, act, w, h, hs, hf, σ0, w0, hl => by
    injection hc with hc; subst hc
    exact wp_ret ⟨.ret, a, σ, [], rfl, fun h => absurd rfl h, h, hl, hs, hf⟩
  | .exit id, ac, hc, D, Q, a, σ, act, w, h, hs, hf, σ0, w0, hl => by
    injection hc with hc; subst hc
    exact wp_exit ⟨.exit id, a, σ, [], rfl, fun h => absurd rfl h, h, hl, hs, hf⟩
  | .region id ops draw, ac, hc, D, Q, a, σ, act, w, h, hs, hf, σ0, w0, hl => by
    have hQ : ∀ a σ act w, Q .normal a σ → Le σ0 w0 σ w → Sim σ w → FRel n D σ w a act → QP P n D σ0 w0 Q .normal act w := fun a σ act w h1 h2 h3 h4 => ⟨.normal, a, σ, [], rfl, fun h => absurd rfl h, h1, h2, h3, h4⟩
    simp only [compC] at hc
    cases draw with
    | false =>
      simp only [Bool.false_eq_true, if_false] at hc
      cases hL : compL P n ops.toList ops.toList with
      | none => rw [hL] at hc; cases hc
      | some its =>
        rw [hL] at hc
        simp only [Option.map_some, Option.some.injEq] at hc
        subst hc
        have := run_plain hQ ops.toList 0 its rfl hL a σ act w h hl hs hf
        refine wp_region ?_
        rw [List.range_eq_range']
        simpa using this
    | true =>
      simp only [if_true] at hc
      split at hc
      · rename_i hm
        cases hL : compR P n ops.toList with
        | none => rw [hL] at hc; cases hc
        | some its =>
          rw [hL] at hc
          simp only [Option.map_some, Option.some.injEq] at hc
          subst hc
          obtain ⟨π, eff, looks, bit, al, item, hP, hI, rfl⟩ := compR_sound hL
          have := run_drawn (P := P) (K := Q .normal) (id := id) hm hP hI hQ h hl hs hf
          simpa using this
      · cases hc
  | .seq x y, ac, hc, D, Q, a, σ, act, w, h, hs, hf, σ0, w0, hl => by
    simp only [compC] at hc
    split at hc
    · rename_i f v d hd
      cases hy : compC P n y with
      | none => rw [hy] at hc; cases hc
      | some y' =>
        rw [hy] at hc
        simp only [Option.map_some, Option.some.injEq] at hc
        subst hc
        obtain ⟨id, ops, o1, o2, tys, rfl, hops, hI, hop, hdst, hg, hdn, hok⟩ := dferOf_spec hd
        refine wp_seq (wp_region ?_)
        obtain ⟨hd1, hg1, ho1, hw1, hdn1, hln1, hgn1⟩ := compI_spec hI
        dsimp only at hd1 hg1 ho1 hln1
        have hsz : ops.size = 2 := by rw [← Array.length_toList, hops]; rfl
        have e0 : ops[0]? = some o1 := by rw [← Array.getElem?_toList, hops]; rfl
        have e1 : ops[1]? = some o2 := by rw [← Array.getElem?_toList, hops]; rfl
        rw [hsz]
        show wpOps P ops _ [0, 1] act w
        have hw2 : ∀ act' : Act, Region.wanted o2 (yielded ops act'.tmps) = true := fun act' => by simp [Region.wanted, hg]
        simp only [wpOps, e0, e1]
        rw [if_pos (by have := guard_none hg1 act.tmps; rwa [← hops] at this)]
        refine .inl (compO_wp (n := n) (K := fun u σ' => u = v.ev a ∧ σ' = σ) ho1 hs (fun t ht => hf.rep t (hln1 t ht)) ?_ ?_)
        · simp only [AOp.step, QOp.ev]
          exact ⟨trivial, trivial⟩
        · rintro u σ' uv w' ⟨rfl, rfl⟩ hl' hs' hr'
          rw [if_pos (hw2 _)]
          have hput := (hf.mono hl').put o1.dst (fun d' hd' => hdn1 d' hd') hr'
          rw [← hd1] at hput ⊢
          refine .inl ?_
          have hev : (act.put (some d) uv).eval (.tmp d) = uv := by
            have h1 : (act.put (some d) uv).tmps.getD d undef = uv := by
              have hlt : d < act.tmps.size := by rw [hf.size]; exact hdn
              simp [Act.put, Array.getD_eq_getD_getElem?, hlt]
            exact h1
          have hrun : (execOp (act.put (some d) uv).eval o2).run P w' = .ok (.defer ⟨.fn (.func f) #[], #[uv]⟩) w' := by
            simp only [execOp, hop, resolve, Sem.run_bind]
            have : (Array.map (act.put (some d) uv).eval ⟨[Operand.tmp d]⟩) = #[uv] := by
              apply Array.ext'
              simp [hev]
            rw [this]
            rfl
          unfold Oper.wp
          rw [hrun, Oper.upon_defer, hdst]
          have hf2 : FRel n (⟨.fn (.func f) #[], #[uv]⟩ :: D) σ' w' (a.put (some d) (v.ev a)) ({ act.put (some d) uv with defers := ⟨.fn (.func f) #[], #[uv]⟩ :: (act.put (some d) uv).defers } : Act) :=
            ⟨hput.size, congrArg (_ :: ·) hput.defers, hput.rep⟩
          refine wp_mono (compC_sound y y' hy _ (DfrQ P f (v.ev a) Q) _ σ' _ w' h hs' hf2 σ' w' (Le.refl _ _)) ?_
          rintro e act' w'' ⟨ex, a', σ'', ds, rfl, h0, h1, h2, h3, h4⟩
          have hex : ex = .ret := by
            cases ds with
            | nil =>
              cases ex with
              | ret => rfl
              | normal => exact h1.elim
              | exit j => exact h1.elim
            | cons d ds => exact h0 (by simp)
          subst hex
          refine ⟨.ret, a', σ'', ds ++ [⟨.fn (.func f) #[], #[uv]⟩], rfl, fun _ => rfl, Chain.snoc hok (hr'.mono h2) h1, (hl.trans hl').trans h2, h3, ?_⟩
          rw [List.append_assoc]
          exact h4
    · split at hc
      · rename_i x' y' hx hy
        injection hc with hc; subst hc
        refine wp_seq (wp_mono (compC_sound x x' hx D _ a σ act w h hs hf σ0 w0 hl) ?_)
        rintro e act' w' ⟨ex, a', σ', ds, rfl, h0, h1, h2, h3, h4⟩
        cases ex with
        | normal =>
          obtain rfl : ds = [] := Classical.byContradiction fun hn => by cases h0 hn
          exact compC_sound y y' hy D Q a' σ' act' w' h1 h3 h4 σ0 w0 h2
        | exit id =>
          obtain rfl : ds = [] := Classical.byContradiction fun hn => by cases h0 hn
          exact ⟨.exit id, a', σ', [], rfl, fun h => absurd rfl h, h1, h2, h3, h4⟩
        | ret => exact ⟨.ret, a', σ', ds, rfl, fun _ => rfl, h1, h2, h3, h4⟩
      · cases hc
  | .cond c x y, ac, hc, D, Q, a, σ, act, w, h, hs, hf, σ0, w0, hl => by
    simp only [compC] at hc
    split at hc
    · rename_i c' x' y' hcv hx hy
      split at hc
      · rename_i ht
        injection hc with hc; subst hc
        have hr := opd_rep (σ := σ) (w := w) (act := act) (a := a) hcv (fun t htt => hf.rep t (by subst htt; simpa [tmpOk] using ht))
        simp only [ACode.wp] at h
        generalize hcx : c'.ev a = cv at h hr
        cases cv <;> simp only [condWp] at h
        rename_i b
        generalize hu : act.eval c = u at hr
        cases hr
        cases b
        · exact wp_cond_false hu (compC_sound y y' hy D Q a σ act w (by simpa using h) hs hf σ0 w0 hl)
        · exact wp_cond_true hu (compC_sound x x' hx D Q a σ act w (by simpa using h) hs hf σ0 w0 hl)
      · cases hc
    · cases hc
  | .block id x, ac, hc, D, Q, a, σ, act, w, h, hs, hf, σ0, w0, hl => by
    simp only [compC] at hc
    cases hx : compC P n x with
    | none => rw [hx] at hc; cases hc
    | some x' =>
      rw [hx] at hc
      simp only [Option.map_some, Option.some.injEq] at hc
      subst hc
      refine wp_block (wp_mono (compC_sound x x' hx D _ a σ act w h hs hf σ0 w0 hl) ?_)
      rintro e act' w' ⟨ex, a', σ', ds, rfl, h0, h1, h2, h3, h4⟩
      cases ex with
      | normal =>
        obtain rfl : ds = [] := Classical.byContradiction fun hn => by cases h0 hn
        exact ⟨.normal, a', σ', [], rfl, fun h => absurd rfl h, h1, h2, h3, h4⟩
      | exit j =>
        obtain rfl : ds = [] := Classical.byContradiction fun hn => by cases h0 hn
        simp only [AExit.toExit, Exit.inBlock]
        simp only [Chain, BlockQ] at h1
        split
        · rename_i hj
          rw [if_pos hj] at h1
          exact ⟨.normal, a', σ', [], rfl, fun h => absurd rfl h, h1, h2, h3, h4⟩
        · rename_i hj
          rw [if_neg hj] at h1
          exact ⟨.exit j, a', σ', [], rfl, fun h => absurd rfl h, h1, h2, h3, h4⟩
      | ret => exact ⟨.ret, a', σ', ds, rfl, fun _ => rfl, h1, h2, h3, h4⟩
  | .loop x, ac, hc, D, Q, a, σ, act, w, h, hs, hf, σ0, w0, hl => by
    simp only [compC] at hc
    cases hx : compC P n x with
    | none => rw [hx] at hc; cases hc
    | some x' =>
      rw [hx] at hc
      simp only [Option.map_some, Option.some.injEq] at hc
      subst hc
      obtain ⟨I, ⟨k0, a1, σ1, hd, hI⟩, hround⟩ := h
      classical
      let J : Nat → Act → World → Prop := fun k act w => ∃ a σ, I k a σ ∧ Le σ0 w0 σ w ∧ Sim σ w ∧ FRel n D σ w a act
      let μ : Act → World → Nat := fun act w => if h : ∃ k, J k act w then least h else 0
      refine wp_loop (fun act w => ∃ k, J k act w) μ ⟨k0, a1, σ1, hI, hl.trans (hd.roles.le w), hd.roles.sim hs, hd.fr hs hf⟩ ?_
      intro act1 w1 hJ
      have hμ : μ act1 w1 = least hJ := by simp only [μ]; rw [dif_pos hJ]
      obtain ⟨a2, σ2, h1, h2, h3, h4⟩ := least_spec hJ
      refine wp_mono (compC_sound x x' hx D _ a2 σ2 act1 w1 (hround _ a2 σ2 h1) h3 h4 σ0 w0 h2) ?_
      rintro e act' w' ⟨ex, a', σ', ds, rfl, h0, h5, h6, h7, h8⟩
      cases ex with
      | normal =>
        obtain rfl : ds = [] := Classical.byContradiction fun hn => by cases h0 hn
        obtain ⟨m, hm, a3, σ3, hd3, hI3⟩ := h5
        have hJ' : J m act' w' := ⟨a3, σ3, hI3, h6.trans (hd3.roles.le w'), hd3.roles.sim h7, hd3.fr h7 h8⟩
        refine ⟨⟨m, hJ'⟩, ?_⟩
        have hex : ∃ k, J k act' w' := ⟨m, hJ'⟩
        have hμ' : μ act' w' = least hex := by simp only [μ]; rw [dif_pos hex]
        rw [hμ, hμ']
        exact Nat.lt_of_le_of_lt (least_min hex hJ') hm
      | exit id =>
        obtain rfl : ds = [] := Classical.byContradiction fun hn => by cases h0 hn
        exact ⟨.exit id, a', σ', [], rfl, fun h => absurd rfl h, h5, h6, h7, h8⟩
      | ret => exact ⟨.ret, a', σ', ds, rfl, fun _ => rfl, h5, h6, h7, h8⟩
end
end Go.A
namespace Go.A
set_option linter.unusedSimpArgs false
set_option linter.unusedVariables false

inductive RV where
  | t (t : Nat)
  | c (t : Nat) (n : Option Nat)
  deriving Inhabited
def RV.ev (a : AFr) (σ : ASt) : RV → Option AV
  | .t s => some (a s)
  | .c s n => match a s with
    | .ptr b o => match known σ b with
      | some cs => fieldVal o n cs
      | none => none
    | .imm cs => fieldVal 0 n cs
    | _ => none
def RV.evs (a : AFr) (σ : ASt) : List RV → Option (List AV)
  | [] => some []
  | r :: rs => match r.ev a σ, RV.evs a σ rs with
    | some v, some vs => some (v :: vs)
    | _, _ => none
def resV : List AV → AV
  | [x] => x
  | xs => .tuple xs
def compRV (P : Program) (n : Nat) : List ResultVar → Option (List RV)
  | [] => some []
  | .tmp t :: rs => match compRV P n rs with
    | some rs => if t < n then some (.t t :: rs) else none
    | none => none
  | .cell t T :: rs => match compRV P n rs, aggOf P T with
    | some rs, some k => if t < n then some (.c t k :: rs) else none
    | _, _ => none

/-- A function, compiled. -/
structure AFn where
  n : Nat
  rs : List RV
  body : ACode
  deriving Inhabited
def compF (P : Program) (fn : Func) : Option AFn :=
  match fn.body with
  | some c => match compC P fn.ntmps c, compRV P fn.ntmps fn.results.toList with
    | some ac, some rs => some { n := fn.ntmps, rs := rs, body := ac }
    | _, _ => none
  | none => none

def init (args : List AV) : AFr := fun t => args.getD t .any
/-- What is asked where a function returns: roles may be laid down. -/
def RetQ (rs : List RV) (R : AV → ASt → Prop) : APost := fun e a σ => match e with
  | .exit _ => False
  | _ => ∃ vs, RV.evs a σ rs = some vs ∧ ∃ r σ', SDrop σ σ' ∧ Fz σ σ' (resV vs) r ∧ R r σ'

section
variable {P : Program} {n : Nat} {D : List Deferred} {σ : ASt} {w : World}

theorem Reps.getD : ∀ {as : List AV} {vs : List Value}, Reps σ w as vs → ∀ (t : Nat), Rep σ w (as.getD t .any) (vs.getD t undef)
  | _, _, .nil, t => by simpa using .any _
  | _, _, .cons h1 h2, 0 => by simpa using h1
  | _, _, .cons h1 h2, t + 1 => by simpa using h2.getD t

theorem run_results {act : Act} {a : AFr} (hf : FRel n D σ w a act) (hs : Sim σ w) : ∀ {rvs : List ResultVar} {rs : List RV} {vs : List AV}, compRV P n rvs = some rs → RV.evs a σ rs = some vs →
    ∃ us, (rvs.mapM (fun | .tmp t => pure (act.tmps.getD t undef) | .cell x t => do loadVar t (← asAddr (act.tmps.getD x undef)) : ResultVar → Sem Value)).run P w = .ok us w ∧ Reps σ w vs us
  | [], rs, vs, hc, hv => by
    injection hc with hc; subst hc
    injection hv with hv; subst hv
    exact ⟨[], by simp, .nil⟩
  | .tmp t :: rvs, rs, vs, hc, hv => by
    simp only [compRV] at hc
    split at hc
    · rename_i rs' hrs
      split at hc
      · rename_i ht
        injection hc with hc; subst hc
        simp only [RV.evs, RV.ev] at hv
        split at hv
        · rename_i v vs' h1 h2
          injection hv with hv; subst hv
          injection h1 with h1; subst h1
          obtain ⟨us, h3, h4⟩ := run_results hf hs hrs h2
          exact ⟨_ :: us, by rw [List.mapM_cons]; simp only [Sem.run_bind, Sem.run_pure, Result.andThen, h3], .cons (hf.rep t ht) h4⟩
        · cases hv
      · cases hc
    · cases hc
  | .cell x T :: rvs, rs, vs, hc, hv => by
    simp only [compRV] at hc
    split at hc
    · rename_i rs' k hrs hk
      split at hc
      · rename_i ht
        injection hc with hc; subst hc
        simp only [RV.evs] at hv
        split at hv
        · rename_i v vs' h1 h2
          injection hv with hv; subst hv
          obtain ⟨us, h3, h4⟩ := run_results hf hs hrs h2
          have hr := hf.rep x ht
          have : ∃ u, (do loadVar T (← asAddr (act.tmps.getD x undef)) : Sem Value).run P w = .ok u w ∧ Rep σ w v u := by
            simp only [RV.ev] at h1
            split at h1
            · rename_i b o hp
              rw [hp] at hr
              split at h1
              · rename_i cs hkn
                obtain ⟨ws, h5, h6⟩ := hs.known hkn
                have hv' : fieldVal 0 k (cs.drop o) = some v := by
                  cases k with
                  | none => simpa [fieldVal] using h1
                  | some m =>
                    simp only [fieldVal] at h1 ⊢
                    split at h1
                    · rename_i hle
                      rw [if_pos (by simp; omega)]
                      simpa using h1
                    · cases h1
                obtain ⟨u, h7, h8⟩ := run_loadVar (P := P) (b := b) (o := o) hk (h5.drop o) (fun j v hj => h6 (o + j) v (by simpa using hj)) hv'
                generalize act.tmps.getD x undef = y at hr
                cases hr
                exact ⟨u, by rw [Sem.run_bind]; exact h7, h8⟩
              · cases h1
            · rename_i cs hp
              rw [hp] at hr
              generalize act.tmps.getD x undef = y at hr
              cases hr with
              | imm hA =>
                obtain ⟨ws, h5, h6⟩ := hA.vals
                obtain ⟨u, h7, h8⟩ := run_loadVar (P := P) hk h5 h6 h1
                exact ⟨u, by rw [Sem.run_bind]; exact h7, h8⟩
            · cases h1
          obtain ⟨u, h5, h6⟩ := this
          exact ⟨u :: us, by rw [List.mapM_cons, Sem.run_bind, h5]; simp only [Sem.run_bind, Sem.run_pure, Result.andThen, h3], .cons h6 h4⟩
        · cases hv
      · cases hc
    · cases hc

/-- **A call, by its body.** -/
theorem acalls_of {f : FuncId} {fn : Func} {af : AFn} (hf : P.funcs[f]? = some fn) (hc : compF P fn = some af) {args : List AV} {R : AV → ASt → Prop} (hl : args.length ≤ af.n) (h : af.body.wp P (RetQ af.rs R) (init args) σ) : ACalls P f args σ R := by
  intro w vs hs hr
  unfold compF at hc
  split at hc
  · rename_i c hb
    split at hc
    · rename_i ac rs hac hrs
      injection hc with hc; subst hc
      simp only at hl h
      refine calls_of_wp_defers hf hb ?_
      have hvl : vs.length ≤ fn.ntmps := by rw [← hr.length]; exact hl
      have hfr : FRel fn.ntmps [] σ w (init args) { tmps := (⟨vs⟩ : Array Value) ++ Array.replicate (fn.ntmps - (⟨vs⟩ : Array Value).size) undef, defers := [] } := by
        refine ⟨by simp; omega, rfl, fun t ht => ?_⟩
        have h1 := hr.getD t
        have h2 : ((⟨vs⟩ : Array Value) ++ Array.replicate (fn.ntmps - (⟨vs⟩ : Array Value).size) undef).getD t undef = vs.getD t undef := by
          rw [Array.getD_eq_getD_getElem?, List.getD_eq_getElem?_getD, Array.getElem?_append]
          split
          · simp
          · rename_i hge
            rw [List.getElem?_eq_none (by simpa using hge)]
            simp only [Array.getElem?_replicate]
            split <;> rfl
        rw [h2]
        exact h1
      refine wp_mono (compC_sound c ac hac [] _ _ σ _ w h hs hfr σ w (Le.refl _ _)) ?_
      rintro e act' w' ⟨ex, a', σ', ds, rfl, h0, h1, h2, h3, h4⟩
      have fin : ∀ (ex : AExit), (∀ i, ex ≠ .exit i) → ∀ (ds : List Deferred) (σ' : ASt) (w' : World), Chain P ds σ' w' (fun σ'' => RetQ rs R ex a' σ'') → Le σ w σ' w' → Sim σ' w' → (∀ t, t < fn.ntmps → Rep σ' w' (a' t) (act'.tmps.getD t undef)) →
          Leaves P fn act'.tmps (fun e w' => ∃ u r σ'', e = .returned u ∧ R r σ'' ∧ Le σ w σ'' w' ∧ Sim σ'' w' ∧ Rep σ'' w' r u) ds .returning w' := by
        intro ex hex ds
        induction ds with
        | nil =>
          intro σ' w' h1 h2 h3 h5
          have h4 : FRel fn.ntmps act'.defers σ' w' a' act' := ⟨h4.size, rfl, h5⟩
          obtain ⟨xs, hx, r, σ'', hd, hz, hR⟩ : ∃ vs, RV.evs a' σ' rs = some vs ∧ ∃ r σ'', SDrop σ' σ'' ∧ Fz σ' σ'' (resV vs) r ∧ R r σ'' := by
            cases ex with
            | normal => exact h1
            | exit i => exact absurd rfl (hex i)
            | ret => exact h1
          obtain ⟨us, h5, h6⟩ := run_results h4 h3 hrs hx
          have hres : (results fn act'.tmps).run P w' = .ok (if h : us.toArray.size = 1 then us.toArray[0] else .tuple us.toArray) w' := by
            unfold results
            rw [Array.mapM_eq_mapM_toList]
            rw [Sem.run_bind]
            simp only [Functor.map]
            rw [Sem.run_bind']
            exact congrArg (fun r : Result (List Value) => (r.andThen fun a w' => Sem.run P ((Sem.pure ∘ List.toArray) a) w').andThen fun a w' => Sem.run P (pure (if h : a.size = 1 then a[0] else Value.tuple a)) w') h5
          have hrep : Rep σ' w' (resV xs) (if h : us.toArray.size = 1 then us.toArray[0] else .tuple us.toArray) := by
            cases h6 with
            | nil => exact .tuple .nil
            | cons h7 h8 =>
              cases h8 with
              | nil => simpa [resV] using h7
              | cons h9 h10 =>
                rw [dif_neg (by simp)]
                exact .tuple (.cons h7 (.cons h9 h10))
          exact ⟨_, hres, _, r, σ'', rfl, hR, h2.trans (hd.le w'), hd.sim h3, hz.rep hd h3 hrep⟩
        | cons d ds ih =>
          intro σ' w' h1 h2 h3 h5
          obtain ⟨g, v, u, rfl, hok, hr, hD⟩ := h1
          refine ⟨by simp, .func g, #[], g, #[u], rfl, ?_, ?_⟩
          · show (callFunc g (#[u] ++ #[])).run P w' = _
            rw [run_callFunc hok]
            rfl
          · refine (hD w' [u] h3 (.cons hr .nil)).mono ?_
            rintro e u' w'' ⟨rfl, u1, r, σ'', rfl, hk, hl', hs', _⟩
            exact ih σ'' w'' (hk w'' hl' hs') (h2.trans hl') hs' fun t ht => (h5 t ht).mono hl'
      have hdf : act'.defers = ds := by rw [h4.defers, List.append_nil]
      cases ex with
      | normal =>
        show Leaves P fn act'.tmps _ act'.defers .returning w'
        rw [hdf]
        exact fin .normal (fun i h => by cases h) ds σ' w' h1 h2 h3 h4.rep
      | exit id =>
        obtain rfl : ds = [] := Classical.byContradiction fun hn => by cases h0 hn
        exact h1.elim
      | ret =>
        show Leaves P fn act'.tmps _ act'.defers .returning w'
        rw [hdf]
        exact fin .ret (fun i h => by cases h) ds σ' w' h1 h2 h3 h4.rep
    · cases hc
  · cases hc

def plainReg : Option Code → Bool
  | some (.region _ _ false) => true
  | _ => false
/-- **A deferred call, by its body**: one region, no results. -/
theorem adefer_of {f : FuncId} {fn : Func} {af : AFn} {its : List AItem} (hf : P.funcs[f]? = some fn) (hc : compF P fn = some af) (hp : plainReg fn.body = true) (hbi : af.body = .ops its) (hrs0 : af.rs = []) {args : List AV} {R : AV → ASt → Prop} (hl : args.length ≤ af.n)
    (h : runI P its (fun _ σ' => R (.tuple []) σ') (init args) σ) : ADefer P f args σ R := by
  intro w vs hs hr
  unfold compF at hc
  split at hc
  · rename_i c hb
    split at hc
    · rename_i ac rs hac hrs
      injection hc with hc; subst hc
      simp only at hl hbi hrs0
      subst hbi hrs0
      rw [hb] at hp
      cases c <;> simp only [plainReg] at hp <;> (try cases hp)
      rename_i id ops draw
      cases draw with
      | true => cases hp
      | false =>
      have hL : compL P fn.ntmps ops.toList ops.toList = some its := by
        simp only [compC, Bool.false_eq_true, if_false] at hac
        cases hL : compL P fn.ntmps ops.toList ops.toList with
        | none => rw [hL] at hac; cases hac
        | some its' =>
          rw [hL] at hac
          simp only [Option.map_some, Option.some.injEq, ACode.ops.injEq] at hac
          rw [hac]
      refine (callsD_of_wp (u := .returning) (R := fun e w' => ∃ u r σ', e = .returned u ∧ R r σ' ∧ Le σ w σ' w' ∧ Sim σ' w' ∧ Rep σ' w' r u) hf hb ?_).mono fun e u' w' ⟨h1, h2⟩ => ⟨h1, h2⟩
      have hvl : vs.length ≤ fn.ntmps := by rw [← hr.length]; exact hl
      have hfr : FRel fn.ntmps [] σ w (init args) { tmps := (⟨vs⟩ : Array Value) ++ Array.replicate (fn.ntmps - (⟨vs⟩ : Array Value).size) undef, defers := [] } := by
        refine ⟨by simp; omega, rfl, fun t ht => ?_⟩
        have h1 := hr.getD t
        have h2 : ((⟨vs⟩ : Array Value) ++ Array.replicate (fn.ntmps - (⟨vs⟩ : Array Value).size) undef).getD t undef = vs.getD t undef := by
          rw [Array.getD_eq_getD_getElem?, List.getD_eq_getElem?_getD, Array.getElem?_append]
          split
          · simp
          · rename_i hge
            rw [List.getElem?_eq_none (by simpa using hge)]
            simp only [Array.getElem?_replicate]
            split <;> rfl
        rw [h2]
        exact h1
      refine wp_region ?_
      rw [List.range_eq_range']
      have key := run_plain (P := P) (n := fn.ntmps) (D := []) (l := ops.toList) (K := fun _ σ' => R (.tuple []) σ') (σ0 := σ) (w0 := w)
        (Q := bodyPost P fn fun e w' => ∃ u r σ', e = .returned u ∧ R r σ' ∧ Le σ w σ' w' ∧ Sim σ' w' ∧ Rep σ' w' r u) (fun a σ' act w' hk hl' hs' hf' => by
          have hrv : fn.results.toList = [] ∨ True := .inr trivial
          obtain ⟨us, h5, h6⟩ := run_results hf' hs' hrs (show RV.evs a σ' [] = some [] from rfl)
          cases h6
          have hres : (results fn act.tmps).run P w' = .ok (.tuple #[]) w' := by
            unfold results
            rw [Array.mapM_eq_mapM_toList]
            rw [Sem.run_bind]
            simp only [Functor.map]
            rw [Sem.run_bind']
            exact congrArg (fun r : Result (List Value) => (r.andThen fun a w' => Sem.run P ((Sem.pure ∘ List.toArray) a) w').andThen fun a w' => Sem.run P (pure (if h : a.size = 1 then a[0] else Value.tuple a)) w') h5
          exact ⟨hf'.defers, _, hres, _, _, σ', rfl, hk, hl', hs', .tuple .nil⟩)
        ops.toList 0 its rfl hL (init args) σ _ w h (Le.refl _ _) hs hfr
      simpa using key
    · cases hc
  · cases hc
end
/-- A piece of code, and what it is. -/
theorem wp_of {c d : ACode} (h : c = d) (P : Program) (Q : APost) (a : AFr) (σ : ASt) : ACode.wp P c Q a σ = ACode.wp P d Q a σ := by rw [h]
end Go.A
