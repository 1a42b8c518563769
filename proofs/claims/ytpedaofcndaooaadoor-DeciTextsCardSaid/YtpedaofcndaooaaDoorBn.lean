/- From the abstract walk to the given rows: arguments opened by their types; a call that makes memory alone. No program in sight. -/
import Derived.Test.YtpedaofcndaooaaDoorBm
import Derived.Test.YtpedaofcndaooaaDoorMore
import Derived.Deep.Slices
import Derived.ProofKit
namespace Go.A
set_option linter.unusedSimpArgs false
set_option linter.unusedVariables false
open Go Go.RowKit Go.BigFrame Go.Deep Go.ChangeShapes Go.WideShapes

def noRole : ASt := fun _ => none
theorem sim_no (w : World) : Sim noRole w := fun b r h => by cases h

section
variable {P : Program} {w w' : World} {σ σ' : ASt}

theorem Le.ext (h : Le noRole w σ' w') : Ext w w' := Ext.of_below ⟨h.os, h.tape, h.output, h.size, fun k hk => (h.keep k hk rfl).2⟩
theorem ext_le (h : Ext w w') : Le σ w σ w' := by
  have hb := h.below
  exact ⟨hb.os, hb.tape, hb.output, hb.size, fun b hlt hn => ⟨hn, hb.block b hlt⟩, fun b cs hlt hn => ⟨.inr hn, hb.block b hlt⟩,
    fun b f hlt hn => ⟨.inr ⟨f, Nat.le_refl _, hn⟩, shape_of_heap_eq (hb.block b hlt), fun o _ => cell_of_heap_eq (hb.block b hlt) o⟩⟩
theorem Sim.ext (hs : Sim σ w) (h : Ext w w') : Sim σ w' := by
  intro b r hb
  have hlt := hs.lt hb
  have he := h.below.block b hlt
  have hr := hs b r hb
  cases r with
  | obj cs =>
    obtain ⟨c, T, fr, h1, h2, h3⟩ := hr
    exact ⟨c, T, fr, he.trans h1, h2.mono (ext_le h), fun o ho => (h.below.frozen hlt).trans (h3 o ho)⟩
  | tok f =>
    obtain ⟨c, T, fr, h1, h2, h3⟩ := hr
    exact ⟨c, T, fr, he.trans h1, h2, h3⟩
  | fix cs =>
    obtain ⟨h0, c, T, fr, h1, h2⟩ := hr
    exact ⟨h0.mono (ext_le h), c, T, fr, he.trans h1, h2⟩
  | iter l p => exact he.trans hr
  | typ T vs => exact he.trans hr

/-- What a row wants of a statement. -/
theorem calls_true {f : FuncId} {args : List AV} {vs : List Value} (h : ACalls P f args noRole fun r _ => r = .bool true) (hr : Reps noRole w args vs) : Calls P f ⟨vs⟩ w fun e w' => e = .returned (.bool true) ∧ Ext w w' :=
  (h w vs (sim_no w) hr).mono fun e w' ⟨u, r, σ', he, hrt, hle, _, hrep⟩ => by
    subst hrt
    cases hrep
    exact ⟨he, hle.ext⟩
/-- A contract of the other road: no arguments, a bool. -/
theorem pure_bool {f : FuncId} {b : Bool} (h : ∀ w : World, Calls P f #[] w fun e w' => e = .returned (.bool b) ∧ Ext w w') : Pure P f [] (.bool b) := by
  intro σ w vs hs hr
  cases hr
  exact (h w).mono fun e w' ⟨he, hx⟩ => ⟨_, _, σ, he, ⟨rfl, rfl⟩, ext_le hx, hs.ext hx, .bool _⟩
end

theorem Drop.off {σ σ' : ASt} {b : Nat} {r : Option Role} (h : Drop σ' σ) (hb : σ b = none) : Drop (σ'.set b r) σ := by
  intro x
  by_cases hx : x = b
  · subst hx; exact .inr hb
  · rw [ASt.set_ne hx]; exact h x
theorem boxC_by {v : AV} {σ : ASt} {K : AV → ASt → Prop} (h1 : v.isAny = false) (h2 : ∀ b, σ b = none → K (.ptr b 0) (σ.set b (some (.obj v.cells)))) : boxC v σ K := ⟨h1, h2⟩
theorem allocC_by {z : List AV} {σ : ASt} {K : AV → ASt → Prop} (h : ∀ b, σ b = none → K (.ptr b 0) (σ.set b (some (.obj z)))) : allocC z σ K := h
def consB (x : UInt8) : Option (List UInt8) → Option (List UInt8)
  | some l => some (x :: l)
  | none => none
@[go_sem] theorem bytesOf_nil : bytesOf [] = some [] := id rfl
@[go_sem] theorem bytesOf_cons {n : Int} {xs : List AV} : bytesOf (.int .u8 n :: xs) = consB (UInt8.ofNat n.toNat) (bytesOf xs) := by
  simp only [bytesOf, consB]
  cases bytesOf xs <;> rfl
@[go_sem] theorem consB_some {x : UInt8} {l : List UInt8} : consB x (some l) = some (x :: l) := id rfl
@[go_sem] theorem bytesAV_length {l : List UInt8} : (bytesAV l).length = l.length := by simp [bytesAV]
@[go_sem] theorem bytesAV_get {l : List UInt8} {i : Nat} : (bytesAV l)[i]? = (l[i]?).map fun c => .int .u8 c.toNat := by simp [bytesAV]
@[go_sem] theorem eqC_bp {x y : Bool} : eqC .b false (.bool x) (.bool y) = some (.bool (x == y)) := id rfl
@[go_sem] theorem eqC_bn {x y : Bool} : eqC .b true (.bool x) (.bool y) = some (.bool (!(x == y))) := id rfl
@[go_sem] theorem beq_tf : (true == false) = false := id rfl
@[go_sem] theorem beq_ft : (false == true) = false := id rfl
attribute [go_sem] ASt.set_set
/-- What is only read again. -/
def shrV : AV → AV
  | .sl _ xs => .sl .shr xs
  | a => a
@[go_sem] theorem shrV_sl {k : SK} {xs : List AV} : shrV (.sl k xs) = .sl .shr xs := id rfl
@[go_sem] theorem shrV_int {k : IntKind} {n : Int} : shrV (.int k n) = .int k n := id rfl
@[go_sem] theorem shrV_bool {b : Bool} : shrV (.bool b) = .bool b := id rfl
@[go_sem] theorem shrV_str {l : List UInt8} : shrV (.str l) = .str l := id rfl
@[go_sem] theorem shrV_ptr {b o : Nat} : shrV (.ptr b o) = .ptr b o := id rfl
@[go_sem] theorem shrV_agg {cs : List AV} : shrV (.agg cs) = .agg cs := id rfl
@[go_sem] theorem shrV_imm {cs : List AV} : shrV (.imm cs) = .imm cs := id rfl
@[go_sem] theorem shrV_nilp : shrV .nilp = .nilp := id rfl
@[go_sem] theorem shrV_msl {b o n c : Nat} : shrV (.msl b o n c) = .msl b o n c := id rfl
theorem shrV_fz {σ σ' : ASt} (a : AV) : Fz σ σ' a (shrV a) := by
  cases a <;> first | exact .sl _ _ | exact .refl _
def AFr.weak (a : AFr) : AFr := fun t => shrV (a t)
@[go_sem] theorem weak_app {a : AFr} {t : Nat} : a.weak t = shrV (a t) := id rfl
theorem Dr.weak {F : AFr → ASt → Prop} {a : AFr} {σ : ASt} (h : F a.weak σ) : Dr F a σ := ⟨a.weak, σ, ⟨Drop.refl σ, fun _ => shrV_fz _⟩, h⟩
theorem Fzs.shrV {σ : ASt} : ∀ {as : List AV}, Fzs σ σ as (as.map Go.A.shrV)
  | [] => .nil
  | _ :: _ => .cons (shrV_fz _) Fzs.shrV
theorem Pure.useS {P : Program} {f : FuncId} {args args' : List AV} {σ : ASt} {r : AV} {K : AV → ASt → Prop} (h : Pure P f args' r) (ha : args.map Go.A.shrV = args') (hK : K r σ) : ACalls P f args σ K := by
  subst ha
  intro w vs hs hr
  exact Pure.use h hK w vs hs (Fzs.shrV.rep (Drop.refl σ) hs hr)

/-- How a type lies in cells. -/
inductive Ty where
  | int (k : IntKind)
  | bool
  | str
  | sl (e : Ty)
  | unit
  | pair (a b : Ty)
  deriving Inhabited
def Ty.size : Ty → Nat
  | .unit => 0
  | .pair a b => a.size + b.size
  | _ => 1
def Ty.mk : Ty → List AV → AV
  | .unit, cs => .agg cs
  | .pair _ _, cs => .agg cs
  | _, cs => cs.headD .any
def Ty.ok : Ty → List AV → Prop
  | .int k, cs => ∃ n, cs = [.int k n] ∧ (Lit.int k n).wf = true
  | .bool, cs => ∃ b, cs = [.bool b]
  | .str, cs => ∃ l : List UInt8, cs = [.str l] ∧ l.length ≤ maxLen
  | .sl e, cs => ∃ xs : List (List AV), cs = [.sl .shr (xs.map e.mk)] ∧ xs.length ≤ maxLen ∧ ∀ x ∈ xs, e.ok x
  | .unit, cs => cs = []
  | .pair a b, cs => ∃ x y, cs = x ++ y ∧ a.ok x ∧ b.ok y
theorem Ty.ok_len : ∀ {τ : Ty} {cs : List AV}, τ.ok cs → cs.length = τ.size
  | .int k, cs, ⟨n, h, _⟩ => by subst h; rfl
  | .bool, cs, ⟨n, h⟩ => by subst h; rfl
  | .str, cs, ⟨n, h, _⟩ => by subst h; rfl
  | .sl e, cs, ⟨n, h, _⟩ => by subst h; rfl
  | .unit, cs, h => by cases h; rfl
  | .pair a b, cs, ⟨x, y, h, h1, h2⟩ => by subst h; rw [List.length_append, Ty.ok_len h1, Ty.ok_len h2]; rfl
theorem Ty.mk_cells {τ : Ty} {cs : List AV} (h : τ.ok cs) : (τ.mk cs).cells = cs := by
  cases τ with
  | int k => obtain ⟨n, rfl, _⟩ := h; rfl
  | bool => obtain ⟨n, rfl⟩ := h; rfl
  | str => obtain ⟨n, rfl, _⟩ := h; rfl
  | sl e => obtain ⟨n, rfl, _⟩ := h; rfl
  | unit => rfl
  | pair a b => rfl

def tyFs (P : Program) (sub : TypeId → Option Ty) : Nat → List Field → Option Ty
  | _, [] => some .unit
  | off, f :: fs => if f.offset = off then match sub f.type with
      | some a => if P.cellsOf f.type = a.size then match tyFs P sub (off + a.size) fs with
          | some b => some (.pair a b)
          | none => none
        else none
      | none => none
    else none
def tyOf (P : Program) : Nat → TypeId → Option Ty
  | 0, _ => none
  | n + 1, t => match P.underlying t with
    | some (.int k) => some (.int k)
    | some .bool => some .bool
    | some .string => some .str
    | some (.slice e) => match tyOf P n e with
      | some a => if P.cellsOf e = a.size ∧ 0 < a.size then some (.sl a) else none
      | none => none
    | some (.struct fs) => match tyFs P (tyOf P n) 0 fs.toList with
      | some a => if P.cellsOf t = a.size then some a else none
      | none => none
    | _ => none

section
variable {H : Type} {enc : TypeId × Value → H} {P : Program} {w : World} {base : Nat} {spare : Nat → Bool} {held : Bool}

theorem cell_addr' {w : World} {a : Addr} {v : Value} (h : w.cell? a = some v) : ∃ b off, a = ⟨b, off, none⟩ ∧ b < w.heap.size := by
  obtain ⟨b, off, sp⟩ := a
  have hsp : sp = none := by
    cases sp with
    | none => rfl
    | some s =>
      unfold World.cell? at h
      split at h <;> simp at h
  subst hsp
  refine ⟨b, off, rfl, ?_⟩
  rcases Nat.lt_or_ge b w.heap.size with hb | hb
  · exact hb
  · have : w.heap[b]? = none := by simp; omega
    simp [World.cell?, this] at h
theorem addr_zero' {a : Addr} {b off : Nat} (h : a.add 0 = ⟨b, off, none⟩) : a = ⟨b, off, none⟩ := by
  simpa [Addr.add] using h

theorem row_mk {τ : Ty} {b : Nat} (hb : b < w.heap.size) : ∀ {xs : List (List AV)} {off : Nat}, (∀ x ∈ xs, τ.ok x) →
    (∀ i x, xs[i]? = some x → ∃ vs, Reps noRole w x vs ∧ ∀ j v, vs[j]? = some v → w.cell? ⟨b, off + i * τ.size + j, none⟩ = some v) → Row noRole w b off τ.size (xs.map τ.mk)
  | [], off, _, _ => .nil _ _ _
  | x :: xs, off, hok, h => by
    obtain ⟨vs, h1, h2⟩ := h 0 x rfl
    have hx := hok x (by simp)
    have hc := Ty.mk_cells hx
    refine .cons (by rw [hc]; exact Ty.ok_len hx) ?_ (row_mk hb (fun y hy => hok y (by simp [hy])) fun i y hy => ?_)
    · rw [hc]
      exact At.mk' h1 (fun j _ => ⟨hb, .inl rfl⟩) (fun j v hj => by simpa using h2 j v hj)
    · obtain ⟨us, h3, h4⟩ := h (i + 1) y hy
      refine ⟨us, h3, fun j v hj => ?_⟩
      have := h4 j v hj
      rwa [show off + (i + 1) * τ.size + j = off + τ.size + i * τ.size + j by rw [Nat.add_mul]; omega] at this

theorem tyFs_open {sub : TypeId → Option Ty} {cs : List Value} (hsub : ∀ t τ, sub t = some τ → ∀ fuel cs x, DataW.trod enc P w base spare held fuel t cs = some x → ∃ as, Reps noRole w as cs ∧ τ.ok as) :
    ∀ {fs : List Field} {off : Nat} {τ : Ty}, tyFs P sub off fs = some τ → (∀ f ∈ fs, ∃ fuel x, DataW.trod enc P w base spare held fuel f.type ((cs.drop f.offset).take (P.cellsOf f.type)) = some x) →
      ∃ as, Reps noRole w as ((cs.drop off).take τ.size) ∧ τ.ok as
  | [], off, τ, h, _ => by
    injection h with h; subst h
    exact ⟨[], by simpa [Ty.size] using .nil, rfl⟩
  | f :: fs, off, τ, h, hf => by
    unfold tyFs at h
    split at h
    · rename_i hoff
      split at h
      · rename_i a ha
        split at h
        · rename_i hsz
          split at h
          · rename_i b hb
            injection h with h; subst h
            obtain ⟨fuel, x, h1⟩ := hf f (by simp)
            rw [hoff, hsz] at h1
            obtain ⟨as, h2, h3⟩ := hsub _ _ ha _ _ _ h1
            obtain ⟨bs, h4, h5⟩ := tyFs_open hsub hb fun g hg => hf g (by simp [hg])
            refine ⟨as ++ bs, ?_, as, bs, rfl, h3, h5⟩
            rw [show (Ty.pair a b).size = a.size + b.size from rfl, List.take_add, List.drop_drop]
            exact h2.append h4
          · cases h
        · cases h
      · cases h
    · cases h

theorem open_ty : ∀ (n : Nat) (t : TypeId) (τ : Ty), tyOf P n t = some τ → ∀ (fuel : Nat) (cs : List Value) (x : DataW H × List MemPlace), DataW.trod enc P w base spare held fuel t cs = some x → ∃ as, Reps noRole w as cs ∧ τ.ok as
  | 0, t, τ, h, _, _, _, _ => by cases h
  | n + 1, t, τ, h, fuel, cs, x, hx => by
    unfold tyOf at h
    split at h
    · rename_i k hT
      injection h with h; subst h
      obtain ⟨m, rfl, _, hw⟩ := DataW.trod_int hT hx
      exact ⟨_, .cons (.int _ _) .nil, m, rfl, hw⟩
    · rename_i hT
      injection h with h; subst h
      obtain ⟨b, rfl, _⟩ := DataW.trod_bool hT hx
      exact ⟨_, .cons (.bool _) .nil, b, rfl⟩
    · rename_i hT
      injection h with h; subst h
      obtain ⟨s, rfl, _, hl⟩ := DataW.trod_string hT hx
      exact ⟨[.str s.data.toList], .cons (.str _) .nil, _, rfl, by simpa using hl⟩
    · rename_i e hT
      split at h
      · rename_i a ha
        split at h
        · rename_i hsz
          injection h with h; subst h
          rcases open_slice hT hx with ⟨hcs, _⟩ | ⟨A, len, cap, m, n', D, Pl, hcs, hb, hl, hm, hmm, _, hel⟩
          · subst hcs
            exact ⟨[.sl .shr []], .cons (.slE _ _) .nil, [], rfl, by simp, by simp⟩
          · subst hcs
            rw [hsz.1] at hel
            have hle : len ≤ m := by rw [hmm]; split <;> omega
            obtain ⟨N, hN⟩ := choose_lt (α := List AV) (n := len) (p := fun i as => a.ok as ∧ ∃ vs, Reps noRole w as vs ∧ ∀ j v, vs[j]? = some v → w.cell? ((A.add (i * a.size)).add j) = some v) (fun i hi => by
              obtain ⟨cs', h1, h2⟩ := hel i (by omega)
              obtain ⟨as, h3, h4⟩ := open_ty n e a ha _ _ _ h2
              obtain ⟨_, hlen, hc⟩ := World.cells?_some h1
              refine ⟨as, h4, cs', h3, fun j v hj => ?_⟩
              have hjl : j < a.size := by rw [← hlen]; exact (List.getElem?_eq_some_iff.1 hj).1
              rw [← hj]
              exact hc j hjl)
            refine ⟨[.sl .shr (((List.range len).map N).map a.mk)], .cons ?_ .nil, _, rfl, ?_, ?_⟩
            · by_cases h0 : len = 0
              · subst h0; exact .slE _ _
              · obtain ⟨hok0, vs, h1, h2⟩ := hN 0 (by omega)
                have hlen := h1.length
                rw [Ty.ok_len hok0] at hlen
                obtain ⟨v0, hv0⟩ : ∃ v, vs[0]? = some v := ⟨_, List.getElem?_eq_getElem (by omega)⟩
                obtain ⟨b, off, hA, hlt⟩ := cell_addr' (h2 0 v0 hv0)
                rw [Nat.zero_mul] at hA
                have hA := addr_zero' (addr_zero' hA)
                subst hA
                refine .sl (sz := a.size) (row_mk hlt ?_ ?_) (by simp) hl trivial hlt
                · intro y hy
                  simp only [List.mem_map, List.mem_range] at hy
                  obtain ⟨i, hi, rfl⟩ := hy
                  exact (hN i hi).1
                · intro i y hy
                  obtain ⟨hj, hy⟩ := List.getElem?_eq_some_iff.1 hy
                  simp only [List.length_map, List.length_range] at hj
                  simp at hy
                  subst hy
                  obtain ⟨_, us, h3, h4⟩ := hN i hj
                  refine ⟨us, h3, fun j v hj => ?_⟩
                  have := h4 j v hj
                  rwa [addr_add, addr_add] at this
            · simp only [List.length_map, List.length_range]; omega
            · intro y hy
              simp only [List.mem_map, List.mem_range] at hy
              obtain ⟨i, hi, rfl⟩ := hy
              exact (hN i hi).1
        · cases h
      · cases h
    · rename_i fs hT
      split at h
      · rename_i a ha
        split at h
        · rename_i hsz
          injection h with h; subst h
          obtain ⟨xs, n', _, _, hlen, hxl, hfd⟩ := DataW.trod_struct hT hx
          obtain ⟨as, h1, h2⟩ := tyFs_open (cs := cs) (fun t τ ht fuel cs x => open_ty n t τ ht fuel cs x) ha fun f hf => by
            obtain ⟨i, hi, rfl⟩ := List.mem_iff_getElem.1 hf
            have := hfd i fs.toList[i] (by simp at hi; simp [hi])
            have hix : i < xs.length := by rw [hxl]; simpa using hi
            rw [List.getElem?_eq_getElem hix] at this
            exact ⟨_, _, this⟩
          refine ⟨as, ?_, h2⟩
          rw [List.drop_zero, List.take_of_length_le (by omega)] at h1
          exact h1
        · cases h
      · cases h
    · cases h

theorem open_arg {n : Nat} {t : TypeId} {τ : Ty} {r : Reach} {base' : Nat} {v : Value} {d : DataW H} {ps : List MemPlace} (h : tyOf P n t = some τ) (hv : Value.okWide P w r base' t v) (hx : DataW.Trod enc P w base spare held t v d ps) : ∃ cs, Rep noRole w (τ.mk cs) v ∧ τ.ok cs := by
  obtain ⟨fuel, hf⟩ := hx
  obtain ⟨as, h1, h2⟩ := open_ty n t τ h fuel _ _ hf
  refine ⟨as, ?_, h2⟩
  have leaf : v.cells.toList = [v] → (∀ cs, τ.mk cs = cs.headD .any) → Rep noRole w (τ.mk as) v := fun e hm => by
    rw [e] at h1
    cases h1 with
    | cons h3 h4 => cases h4; rw [hm]; exact h3
  cases n with
  | zero => cases h
  | succ n =>
    unfold tyOf at h
    split at h
    · rename_i k hT
      injection h with h; subst h
      obtain ⟨m, rfl⟩ := okWide_int hT hv
      exact leaf rfl fun _ => rfl
    · rename_i hT
      injection h with h; subst h
      obtain ⟨m, rfl⟩ := okWide_bool hT hv
      exact leaf rfl fun _ => rfl
    · rename_i hT
      injection h with h; subst h
      obtain ⟨m, rfl⟩ := okWide_string hT hv
      exact leaf rfl fun _ => rfl
    · rename_i e hT
      split at h
      · split at h
        · injection h with h; subst h
          obtain ⟨a, l, c, rfl⟩ := okWide_slice hT hv
          exact leaf rfl fun _ => rfl
        · cases h
      · cases h
    · rename_i fs hT
      split at h
      · rename_i a ha
        split at h
        · injection h with h; subst h
          obtain ⟨cs, rfl, _⟩ := okWide_struct hT hv
          have e : a.mk as = .agg as := by
            cases a with
            | unit => rfl
            | pair _ _ => rfl
            | _ => exact absurd ha (tyFs_agg (by simp) (by simp))
          rw [e]
          exact .agg (vs := cs.toList) h1
        · cases h
      · cases h
    · cases h
where
  tyFs_agg {sub : TypeId → Option Ty} {off : Nat} {fs : List Field} {τ : Ty} (h1 : τ ≠ .unit) (h2 : ∀ a b, τ ≠ .pair a b) : tyFs P sub off fs ≠ some τ := by
    cases fs with
    | nil => intro h; injection h with h; exact h1 h.symm
    | cons f fs =>
      intro h
      unfold tyFs at h
      split at h
      · split at h
        · split at h
          · split at h
            · injection h with h; exact h2 _ _ h.symm
            · cases h
          · cases h
        · cases h
      · cases h

theorem trod_len : ∀ {ts : List TypeId} {vs : List Value} {ds : List (DataW H)} {ps : List MemPlace}, DataW.TrodAll enc P w base spare held ts vs ds ps → ds.length = ts.length
  | [], vs, ds, ps, h => by obtain ⟨_, rfl, _⟩ := trodAll_nil h; rfl
  | t :: ts, vs, ds, ps, h => by
    obtain ⟨v, vs', d, ds', p, q, _, rfl, _, _, h4⟩ := trodAll_cons h
    rw [List.length_cons, trod_len h4, List.length_cons]
def tysOf (P : Program) : List TypeId → Option (List Ty)
  | [] => some []
  | t :: ts => match tyOf P 8 t, tysOf P ts with
    | some τ, some τs => some (τ :: τs)
    | _, _ => none
/-- Arguments of these types. -/
def ArgsOk : List Ty → List AV → Prop
  | [], as => as = []
  | τ :: τs, as => ∃ cs r, as = τ.mk cs :: r ∧ τ.ok cs ∧ ArgsOk τs r
theorem open_args {r : Reach} {base' : Nat} : ∀ {ts : List TypeId} {τs : List Ty} {vs : List Value} {ds : List (DataW H)} {ps : List MemPlace}, tysOf P ts = some τs → DataW.TrodAll enc P w base spare held ts vs ds ps →
    (∀ (j : Nat) t v, ts[j]? = some t → vs[j]? = some v → Value.okWide P w r base' t v) → ∃ as, Reps noRole w as vs ∧ ArgsOk τs as
  | [], τs, vs, ds, ps, h, ht, _ => by
    injection h with h; subst h
    obtain ⟨rfl, _, _⟩ := trodAll_nil ht
    exact ⟨[], .nil, rfl⟩
  | t :: ts, τs, vs, ds, ps, h, ht, hv => by
    unfold tysOf at h
    split at h
    · rename_i τ τs' h1 h2
      injection h with h; subst h
      obtain ⟨v, vs', d, ds', p, q, rfl, rfl, rfl, h3, h4⟩ := trodAll_cons ht
      obtain ⟨cs, h5, h6⟩ := open_arg h1 (hv 0 t v rfl rfl) h3
      obtain ⟨as, h7, h8⟩ := open_args h2 h4 fun j t v hj hj' => hv (j + 1) t v hj hj'
      exact ⟨_, .cons h5 h7, cs, as, rfl, h6, h8⟩
    · cases h
theorem below_all {W W' : World} (hl : laidOutB P = true) : ∀ {ts : List TypeId} {vs : List Value} {ds : List (DataW H)} {ps : List MemPlace}, (ts.all fun t => P.readableRec t && decide (t < P.types.size)) = true →
    DataW.TrodAll enc P W 0 (fun _ => true) true ts vs ds ps → Below W.heap.size W W' → (∀ x ∈ ps, x.block < W.heap.size) → DataW.TrodAll enc P W' 0 (fun b => decide (b < W.heap.size)) true ts vs ds ps
  | [], vs, ds, ps, _, h, _, _ => by
    obtain ⟨rfl, rfl, rfl⟩ := trodAll_nil h
    exact trodAll_mk0
  | t :: ts, vs, ds, ps, hr, h, hb, hlt => by
    obtain ⟨v, vs', d, ds', p, q, rfl, rfl, rfl, h3, h4⟩ := trodAll_cons h
    simp only [List.all_cons, Bool.and_eq_true, decide_eq_true_eq] at hr
    exact ⟨p, q, Below.trod hl hr.1.1 hr.1.2 h3 hb fun x hx => hlt x (by simp [hx]), below_all hl hr.2 h4 hb fun x hx => hlt x (by simp [hx]), rfl⟩
end
end Go.A
