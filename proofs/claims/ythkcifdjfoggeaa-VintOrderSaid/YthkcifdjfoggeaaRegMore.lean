/- Regions that draw, where the calls make memory. No program in sight. -/
import Derived.Test.YthkcifdjfoggeaaReg
import Derived.Test.YthkcifdjfoggeaaMore
namespace Go
theorem World.drew_more (w : World) : w.drew = w.more ⟨#[], w.drawn + 1⟩ := by
  have h : w.heap ++ (#[] : Array Obj) = w.heap := Array.append_empty
  simp only [World.more, h]; rfl
theorem World.drewN_more (w : World) (n : Nat) : w.drewN n = w.more ⟨#[], w.drawn + n⟩ := by
  have h : w.heap ++ (#[] : Array Obj) = w.heap := Array.append_empty
  simp only [World.more, h]; rfl
/-- All operations are quiet but for new blocks; in any order. -/
theorem wp_region_more {P : Program} {Q : Exit → Act → World → Prop} (σ : List Nat) {id : Nat} {l : List Oper} {a : Act} {w : World} (hm : P.follows .mixedOrders = true) (hB : regB l σ [] = true)
    (h : wpQuiet P l.toArray (fun w' => ∃ x, w' = w.more x) (fun a' => ∀ x, Q .normal a' (w.more x)) (regPick l σ) a) : (Code.region id l.toArray true).wp P Q a w := by
  refine wp_region_gate (fun w' => ∃ x, w' = w.more x) σ [] hm hB ⟨_, World.drew_more w⟩ ?_
  have mono : ∀ (C : World → Prop) (K K' : Act → Prop) (_ : ∀ a, K a → K' a) (is : List Oper) (a : Act), wpQuiet P l.toArray C K is a → wpQuiet P l.toArray C K' is a := by
    intro C K K' hK is
    induction is with
    | nil => exact fun a h => hK a h
    | cons o is ih =>
      intro a h
      unfold wpQuiet at h ⊢
      split
      · rename_i hw; rw [if_pos hw] at h; exact Oper.quiet_mono ih h
      · rename_i hw; rw [if_neg hw] at h; exact ih _ h
  exact mono _ _ _ (fun a' h' w' hw' => by obtain ⟨x, rfl⟩ := hw'; exact h' x) _ _ h
/-- A contract that makes memory, met in a world that has grown. -/
theorem Calls.quiet_more {P : Program} {f : FuncId} {args : Array Value} {w : World} {x : Extra} {v : Value}
    (h : Calls P f args (w.more x) fun e w' => e = .returned v ∧ Ext (w.more x) w') : Calls P f args (w.more x) fun e w'' => e = .returned v ∧ ∃ y, w'' = w.more y :=
  h.mono fun _ _ ⟨he, y, hy⟩ => ⟨he, x.cat y, by rw [hy, World.more_more]⟩
end Go
