/- Texts among the arguments are no longer than a machine holds. -/
import Derived.Test.YtmefepbdognkdaaDoorMs
import Derived.Test.YtmefepbdognkdaaDoorJg
namespace Go.Proofs.YtmefepbdognkdaaDoor
open Go Go.ChangeShapes Go.WideShapes Go.ChangeAt Go.RowKit Go.A Go.Lib Go.Shelf
set_option maxRecDepth 100000
set_option linter.unusedVariables false

section
variable {H : Type} {enc : TypeId × Value → H} {P : Program} {w : World} {base : Nat} {spare : Nat → Bool} {held : Bool}
theorem mem_weightsEach : ∀ {ts : List TypeId} {ds : List (DataW H)} {i : Nat} {t : TypeId} {d : DataW H} {x : Nat}, ts[i]? = some t → ds[i]? = some d → x ∈ d.weights P t → x ∈ DataW.weightsEach P ts ds
  | [], _, _, _, _, _, h, _, _ => by simp at h
  | _ :: _, [], _, _, _, _, _, h, _ => by simp at h
  | t :: ts, d :: ds, 0, _, _, x, h1, h2, hx => by
    simp only [List.getElem?_cons_zero, Option.some.injEq] at h1 h2
    subst h1 h2
    rw [DataW.weightsEach]
    exact List.mem_append_left _ hx
  | t :: ts, d :: ds, i + 1, _, _, x, h1, h2, hx => by
    simp only [List.getElem?_cons_succ] at h1 h2
    rw [DataW.weightsEach]
    exact List.mem_append_right _ (mem_weightsEach h1 h2 hx)
end
/-- Is the third field of plain data a text? -/
def plainLooks (P : Program) (t : TypeId) : Bool :=
  match P.underlying t with
  | some (.struct fs) => match fs[2]? with
    | some f => f.offset == 2 && P.cellsOf f.type == 1 && (match P.underlying f.type with | some .string => true | _ => false)
    | none => false
  | _ => false
theorem plain_looks : plainLooks Tryd.prog 52 = true := by kernel_rfl
theorem plain_weight {H : Type} {enc : TypeId × Value → H} {w : World} {base : Nat} {spare : Nat → Bool} {held : Bool} {q : Pl} {v : Value} {d : DataW H} {ps : List MemPlace} (hr : Rep noRole w (plAV q) v)
    (h : DataW.Trod enc Tryd.prog w base spare held 52 v d ps) : q.s.length ∈ d.weights Tryd.prog 52 := by
  obtain ⟨k, n, s⟩ := q
  unfold plAV at hr
  dsimp only at hr
  cases hr with
  | agg hr =>
  cases hr with
  | cons h1 hr =>
  cases hr with
  | cons h2 hr =>
  cases hr with
  | cons h3 hr =>
  cases hr
  cases h1; cases h2; cases h3
  obtain ⟨fuel, hf⟩ := h
  have hl := plain_looks
  unfold plainLooks at hl
  split at hl
  · rename_i fs ht
    split at hl
    · rename_i f hf2
      simp only [Bool.and_eq_true, beq_iff_eq] at hl
      obtain ⟨⟨ho, hc⟩, hu⟩ := hl
      split at hu
      · rename_i hus
        obtain ⟨xs, m, _, hxe, _, hxl, hx⟩ := DataW.trod_struct ht hf
        have e0 := congrArg Prod.fst hxe
        dsimp only at e0
        subst e0
        have h2 := hx 2 f hf2
        rw [ho, hc] at h2
        have hlt : 2 < xs.length := by
          rw [hxl]
          exact (Array.getElem?_eq_some_iff.1 hf2).1
        obtain ⟨y, hy⟩ : ∃ y, xs[2]? = some y := ⟨xs[2]'hlt, List.getElem?_eq_getElem hlt⟩
        rw [hy] at h2
        obtain ⟨b, hb, hye, _⟩ := DataW.trod_string hus h2
        have hbs : b = ⟨⟨s⟩⟩ := by
          have : ([Value.string ⟨⟨s⟩⟩] : List Value) = [.string b] := hb
          injection this with this _
          injection this with this
          exact this.symm
        subst hbs
        unfold DataW.weights
        rw [ht]
        dsimp only
        refine mem_weightsEach (i := 2) (t := f.type) (d := y.1) ?_ ?_ ?_
        · rw [List.getElem?_map, Array.getElem?_toList, hf2]; rfl
        · rw [List.getElem?_map, hy]; rfl
        · rw [hye]
          simp [DataW.weights]
      · cases hu
    · cases hl
  · cases hl
/-- Three of them. -/
theorem plains_bound {H : Type} {enc : TypeId × Value → H} {w : World} {base : Nat} {spare : Nat → Bool} {held : Bool} {q1 q2 q3 : Pl} {vs : List Value} {d0 d1 d2 : DataW H} {gs : List (DataW H)} {vt : List TypeId} {ps : List MemPlace}
    (hA : DataW.TrodAll enc Tryd.prog w base spare held [52, 52, 52] vs [d0, d1, d2] ps) (hr : Reps noRole w [plAV q1, plAV q2, plAV q3] vs)
    (hw : (DataW.weightsEach Tryd.prog ([52, 52, 52] ++ vt) ([d0, d1, d2] ++ gs)).all (· ≤ reachBytes) = true) : q1.s.length ≤ reachBytes ∧ q2.s.length ≤ reachBytes ∧ q3.s.length ≤ reachBytes := by
  obtain ⟨v0, vs1, d0', ds1, p0, q0, rfl, e1, _, t0, hA⟩ := trodAll_cons hA
  obtain ⟨v1, vs2, d1', ds2, p1, q1', rfl, e2, _, t1, hA⟩ := trodAll_cons hA
  obtain ⟨v2, vs3, d2', ds3, p2, q2', rfl, e3, _, t2, hA⟩ := trodAll_cons hA
  rw [e3] at e2
  rw [e2] at e1
  injection e1 with e1a e1
  injection e1 with e1b e1
  injection e1 with e1c _
  subst e1a e1b e1c
  cases hr with
  | cons r0 hr =>
  cases hr with
  | cons r1 hr =>
  cases hr with
  | cons r2 hr =>
  have hall := List.all_eq_true.1 hw
  refine ⟨?_, ?_, ?_⟩
  · exact of_decide_eq_true (hall _ (mem_weightsEach (i := 0) rfl rfl (plain_weight r0 t0)))
  · exact of_decide_eq_true (hall _ (mem_weightsEach (i := 1) rfl rfl (plain_weight r1 t1)))
  · exact of_decide_eq_true (hall _ (mem_weightsEach (i := 2) rfl rfl (plain_weight r2 t2)))
end Go.Proofs.YtmefepbdognkdaaDoor
