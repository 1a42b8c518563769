/- Tables that stay; how contracts of the library are lifted to the abstract walk. -/
import Derived.Test.YtkfcfpnkgljdmaaDoorBp
import Derived.Test.YtkfcfpnkgljdmaaDoorShelf
import Derived.Lib.ItoaMem
namespace Go.A
open Go.Proofs
set_option linter.unusedSimpArgs false
set_option linter.unusedVariables false
section
variable {P : Program} {σ : ASt} {w : World}
theorem reps_ints {k : IntKind} : ∀ {zs : List Int} {vs : List Value}, Reps σ w (zs.map (AV.int k)) vs → vs = zs.map (Value.int k)
  | [], vs, h => by cases h; rfl
  | z :: zs, vs, h => by
    cases h with
    | cons h1 h2 =>
      cases h1
      rw [reps_ints h2]
      rfl
/-- A variable that stays as it was laid. -/
theorem tabIs_of (hs : Sim σ w) {name : String} {b : Nat} {k : IntKind} {zs : List Int} (hg : P.globalNamed name = some b) (hb : σ b = some (.fix (zs.map (AV.int k)))) : Lib.TabIs P w name k zs := by
  obtain ⟨h1, c, T, fr, h2, h3⟩ := hs b _ hb
  obtain ⟨vs, h4, h5⟩ := h1.vals
  have h6 := reps_ints h4
  subst h6
  unfold Lib.TabIs World.var?
  rw [hg, Option.bind_some]
  simp only [h2]
  congr 1
  apply Array.ext
  · simp [h3]
  · intro j hj hj'
    have h7 := h5 j (Value.int k (zs[j]'(by simpa using hj'))) (by simp)
    simp only [World.cell?, h2, Nat.zero_add] at h7
    simp at h7 ⊢
    obtain ⟨_, h7⟩ := Array.getElem?_eq_some_iff.1 h7
    exact h7
theorem ACalls.of_ext {f : FuncId} {args : List AV} {r : AV} {u : Value} (h : ∀ w vs, Sim σ w → Reps σ w args vs → Calls P f ⟨vs⟩ w fun e w' => e = .returned u ∧ Ext w w') (hr : ∀ w, Rep σ w r u) : ACalls P f args σ fun v σ' => v = r ∧ σ' = σ :=
  fun w vs hs ha => (h w vs hs ha).mono fun e w' ⟨he, hx⟩ => ⟨u, r, σ, he, ⟨rfl, rfl⟩, ext_le hx, hs.ext hx, hr w'⟩
theorem ext_grow (w : World) (k : Nat) (os : Array Obj) : Ext w (Go.Sort.grow (w.drewN k) os) := ⟨⟨os, w.drawn + k⟩, rfl⟩
end

theorem Ext.of_eq {w w' : World} (h : w' = w) : Ext w w' := h ▸ Ext.refl w
/-- The table of the powers of ten lies where it lies. -/
def Tab (σ : ASt) : Prop := σ 0 = some (.fix (Lib.pow10Tab.map (AV.int .u64)))
theorem Tab.set {σ : ASt} {b : Nat} {r : Option Role} (h : Tab σ) (hb : σ b = none) : Tab (σ.set b r) := by
  unfold Tab at *
  rw [ASt.set_ne]
  · exact h
  · intro e; rw [← e, h] at hb; cases hb
end Go.A
