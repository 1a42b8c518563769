/- The operations that only look do come to what is said. -/
import Derived.Test.YtpedaofcndaooaaDoorAs
namespace Go.A
set_option linter.unusedSimpArgs false
set_option linter.unusedVariables false
section
variable {P : Program} {σ : ASt} {w : World}

theorem run_und {t : TypeId} {d : TypeDesc} (h : P.underlying t = some d) : (underlying t).run P w = .ok d w := by
  simp [underlying, program, h, Sem.run, bind, Sem.bind, pure]
theorem run_ti {t : TypeId} {i : TypeInfo} (h : P.info? t = some i) : (typeInfo t).run P w = .ok i w := by
  simp [typeInfo, program, h, Sem.run, bind, Sem.bind, pure]
theorem run_so {t : TypeId} {i : TypeInfo} (h : P.info? t = some i) : (sizeOf t).run P w = .ok i.size w := by
  unfold sizeOf; rw [Sem.run_bind, run_ti h]; rfl
theorem run_zv {t : TypeId} {i : TypeInfo} {v : Value} (h : P.info? t = some i) (hz : i.zero = some v) : (zeroValue t).run P w = .ok v w := by
  unfold zeroValue; rw [Sem.run_bind, run_ti h]; simp only [Result.andThen, hz]; rfl

theorem aggOf_spec {t : TypeId} {n : Option Nat} (h : aggOf P t = some n) : ∃ i, P.info? t = some i ∧ (isAgg t).run P w = .ok n.isSome w ∧ ∀ m, n = some m → m = i.size := by
  unfold aggOf at h
  split at h
  · rename_i h1 h2
    injection h with h; subst h
    exact ⟨_, h2, by unfold isAgg; rw [Sem.run_bind, run_und h1]; rfl, fun m hm => by injection hm with hm; exact hm.symm⟩
  · rename_i h1 h2
    injection h with h; subst h
    exact ⟨_, h2, by unfold isAgg; rw [Sem.run_bind, run_und h1]; rfl, fun m hm => by injection hm with hm; exact hm.symm⟩
  · rename_i d i h1 h2 h3 h4
    injection h with h; subst h
    refine ⟨i, h4, ?_, fun m hm => by cases hm⟩
    unfold isAgg; rw [Sem.run_bind, run_und h3]
    simp only [Result.andThen]
    cases d <;> first | rfl | (exfalso; first | exact h1 _ _ h3 h4 | exact h2 _ _ _ h3 h4)
  · cases h

/-- A variable is read. -/
theorem run_loadVar {t : TypeId} {n : Option Nat} (hn : aggOf P t = some n) {b o : Nat} {cs : List AV} {vs : List Value} (hr : Reps σ w cs vs)
    (hc : ∀ j v, vs[j]? = some v → w.cell? ⟨b, o + j, none⟩ = some v) {r : AV} (h : fieldVal 0 n cs = some r) : ∃ u, (loadVar t ⟨b, o, none⟩).run P w = .ok u w ∧ Rep σ w r u := by
  obtain ⟨i, hi, ha, hm⟩ := aggOf_spec (w := w) hn
  cases n with
  | none =>
    simp only [fieldVal] at h
    obtain ⟨v, h1, h2⟩ := hr.get h
    refine ⟨v, ?_, h2⟩
    unfold loadVar
    rw [Sem.run_bind, ha]
    simp only [Result.andThen, Option.isSome, Bool.false_eq_true, if_false]
    have := hc 0 v h1
    rw [Nat.add_zero] at this
    simp [load, Sem.run, this]
  | some m =>
    obtain rfl := hm m rfl
    simp only [fieldVal] at h
    split at h
    · rename_i hle
      injection h with h; subst h
      refine ⟨.agg (vs.take i.size).toArray, ?_, ?_⟩
      · unfold loadVar
        rw [Sem.run_bind, ha]
        simp only [Result.andThen, Option.isSome, if_true]
        rw [Sem.run_bind, run_so hi]
        simp only [Result.andThen]
        rw [Sem.run_bind, run_cells hc (by rw [← hr.length]; omega)]
        rfl
      · have := hr.take i.size
        simp only [List.drop_zero]
        exact .agg (vs := vs.take i.size) this
    · cases h

theorem run_part {t : TypeId} {n : Option Nat} (hn : aggOf P t = some n) {o : Nat} {cs : List AV} {vs : List Value} (hr : Reps σ w cs vs) {r : AV} (h : fieldVal o n cs = some r) :
    ∃ u, (part t ⟨vs⟩ o).run P w = .ok u w ∧ Rep σ w r u := by
  obtain ⟨i, hi, ha, hm⟩ := aggOf_spec (w := w) hn
  cases n with
  | none =>
    simp only [fieldVal] at h
    obtain ⟨v, h1, h2⟩ := hr.get h
    refine ⟨v, ?_, h2⟩
    unfold part
    rw [Sem.run_bind, ha]
    simp only [Result.andThen, Option.isSome, Bool.false_eq_true, if_false]
    have : (⟨vs⟩ : Array Value)[o]? = some v := by simpa using h1
    rw [this]
    rfl
  | some m =>
    obtain rfl := hm m rfl
    simp only [fieldVal] at h
    split at h
    · rename_i hle
      injection h with h; subst h
      refine ⟨_, ?_, .agg ((hr.drop o).take i.size)⟩
      unfold part
      rw [Sem.run_bind, ha]
      simp only [Result.andThen, Option.isSome, if_true]
      rw [Sem.run_bind, run_so hi]
      simp only [Result.andThen]
      have : (⟨vs⟩ : Array Value).extract o (o + i.size) = ⟨(vs.drop o).take i.size⟩ := by
        apply Array.ext'
        simp
      rw [this]
      rfl
    · cases h

theorem run_sureAddr {b o : Nat} : (Instr.sureAddr (.pointer (some ⟨b, o, none⟩))).run P w = .ok ⟨b, o, none⟩ w := rfl

theorem intV_rep {x : AV} {u : Value} {n : Int} (hx : Rep σ w x u) (h : intV x = some n) : ∃ k, u = .int k n ∧ x = .int k n := by
  cases hx <;> simp only [intV, Option.some.injEq, reduceCtorEq] at h
  subst h
  exact ⟨_, rfl, rfl⟩

theorem Rep.cells {x : AV} {u : Value} (h : Rep σ w x u) (ha : x ≠ .any) : Reps σ w x.cells u.cells.toList := by
  cases h with
  | any v => exact absurd rfl ha
  | agg h => exact h
  | bool b => exact .cons (.bool b) .nil
  | int k n => exact .cons (.int k n) .nil
  | str l => exact .cons (.str l) .nil
  | ptr b o => exact .cons (.ptr b o) .nil
  | imm h => exact .cons (.imm h) .nil
  | nilp => exact .cons .nilp .nil
  | slE A c => exact .cons (.slE A c) .nil
  | slN => exact .cons .slN .nil
  | sl h1 h2 h3 h4 h5 => exact .cons (.sl h1 h2 h3 h4 h5) .nil
  | msl b o n c => exact .cons (.msl b o n c) .nil
  | tuple h => exact .cons (.tuple h) .nil
  | iface h => exact .cons (.iface h) .nil
  | nili => exact .cons .nili .nil
  | func h1 h2 => exact .cons (.func h1 h2) .nil
  | nilf => exact .cons .nilf .nil
end
end Go.A
