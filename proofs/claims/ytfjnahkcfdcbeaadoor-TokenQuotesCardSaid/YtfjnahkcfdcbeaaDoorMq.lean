/- The store that knows utf8's two tables and bytealg.MaxLen, for TokenQuotes' row; the plain wrap with the world's shape kept AND a condition on the world. -/
import Derived.Test.YtfjnahkcfdcbeaaDoorMz
import Derived.Test.YtfjnahkcfdcbeaaDoorMd
import Derived.Test.YtfjnahkcfdcbeaaDoorShelf
import Derived.Shelf.Vars
import Derived.HandedShaped
namespace Go
variable {H : Type} {enc : TypeId × Value → H}
/-- The plain wrap: a condition on the world, and the world's shape handed to the contract. -/
theorem A.returnsInHanded_and_shaped {a : Assume} {C : Checked} {os : Os} {f : FuncId} {fn : Func} {s : ChangeSpec} {conds : List PathCond} {apart fresh handsOn again : Bool} {X : World → Array Value → Prop}
    (hX : ∀ (w w' : World) (args : Array Value), w.heap = w'.heap → X w args → X w' args)
    (own : ownKnob C.prog.godebug = none) (started : os.Started) (noInit : C.prog.inits.idxOf? f = none) (hfn : C.prog.funcs[f]? = some fn)
    (witness : ∃ (w : World) (tape : Tape) (i : Input), w.os = os ∧ (w.forCall tape i).Shaped C.prog ∧ i.vars = [] ∧ Input.okWide C.prog (w.forCall tape i) .any w.heap.size f i ∧
      ((s.pre enc C.prog fn conds apart (w.forCall tape i).memory i.args ∧ X (w.forCall tape i).memory i.args) ∧ sizedMet enc C.prog fn (OpenSpec.ofChange s) apart (w.forCall tape i).memory i.args) ∧ a.holds C.prog (lone (Frame.enter C.prog f i.args .normal) [] (w.forCall tape i)))
    (contract : ∀ (W : World) (base : Nat) (args : Array Value) (ds gs : List (DataW H)) (before : List MemPlace),
      (∀ (j : Nat) t v, fn.params[j]? = some t → args[j]? = some v → Value.okWide C.prog W .any base t v) →
      DataW.Whole enc C.prog fn.params.toList s.vars apart W args.toList ds gs before →
      W.ShapedOpen C.prog → X W args →
      Calls C.prog f args W fun e W' => ∃ v, e = .returned v ∧ s.post enc C.prog fn apart fresh handsOn again W args v W') :
    ReturnsInHanded a C os f .any (fun w args => (s.pre enc C.prog fn conds apart w args ∧ X w args) ∧ sizedMet enc C.prog fn (OpenSpec.ofChange s) apart w args) (s.post enc C.prog fn apart fresh handsOn again) := by
  refine returnsInHanded_of_calls own started noInit witness ?_
  intro w tape i _ hsh _ hok hpre hholds
  obtain ⟨_, _, _, fn', hfn', _, _, _, _, hval⟩ := hok
  have e : fn' = fn := Option.some.inj (hfn'.symm.trans hfn)
  subst e
  obtain ⟨⟨⟨ds, gs, before, hw, hc⟩, hx⟩, hz⟩ := hpre
  have hw' := DataW.Whole.of_heap (w' := w.forCall tape i) (by rfl) hw
  refine (contract (w.forCall tape i) w.heap.size i.args ds gs before hval hw' hsh (hX _ _ _ (by rfl) hx)).mono fun e W' ⟨v, he, hp⟩ => ?_
  subst he
  exact ChangeSpec.post_blind hp
end Go
namespace Go.Proofs.YtfjnahkcfdcbeaaDoor
open Go Go.ChangeShapes Go.WideShapes Go.ChangeAt Go.RowKit Go.A Go.Lib Go.Shelf
set_option maxRecDepth 100000
set_option linter.unusedSimpArgs false
set_option linter.unusedVariables false
/-- The store that knows the two tables and one number m of bytealg.MaxLen. -/
def qSt (m : Int) : ASt := fun b => if b = 3 then some (.fix ([m].map (AV.int .i64))) else u8St b
theorem qSt_u8 (m : Int) : U8 (qSt m) := ⟨by simp [qSt, u8St], by simp [qSt, u8St]⟩
theorem qSt_max (m : Int) : MaxL (qSt m) := ⟨m, by simp [qSt]⟩
theorem u8St_fix {b : Nat} {r : Role} (h : u8St b = some r) : ∃ zs : List Int, r = .fix (zs.map (AV.int .u8)) := by
  unfold u8St at h
  split at h
  · injection h with h; exact ⟨_, h.symm⟩
  · split at h
    · injection h with h; exact ⟨_, h.symm⟩
    · cases h
theorem qSt_fix {m : Int} {b : Nat} {r : Role} (h : qSt m b = some r) : ∃ l, r = .fix l := by
  unfold qSt at h
  split at h
  · injection h with h; exact ⟨_, h.symm⟩
  · obtain ⟨zs, h⟩ := u8St_fix h; exact ⟨_, h⟩
theorem q_sim {W : World} (hsh : W.ShapedOpen Tryd.prog) (h : laidMetH Tryd.prog laid2 W) : ∃ m, Sim (qSt m) W := by
  obtain ⟨m, hm⟩ := Tryd.laysM155.s1_3 W hsh
  have hm : W.cell? ⟨3, 0, none⟩ = some (.int .i64 m) := hm
  obtain ⟨cs, hh, hsz, _⟩ := hsh.1 3 #[.int .i64 0] 3 (of_decide_eq_true (by kernel_rfl)) (by kernel_rfl)
  refine ⟨m, fun b r hb => ?_⟩
  have hb0 := hb
  unfold qSt at hb
  split at hb
  · rename_i hbb
    subst hbb
    injection hb with hb
    subst hb
    have hlt : 3 < W.heap.size := (Array.getElem?_eq_some_iff.1 hh).1
    refine ⟨At.mk' (ints_reps _) (fun j _ => ⟨hlt, .inr (.inl ⟨_, hb0⟩)⟩) (fun j v hj => ?_), cs, _, _, hh, hsz⟩
    match j, hj with
    | 0, hj => injection hj with hj; subst hj; exact hm
  · obtain ⟨zs, rfl⟩ := u8St_fix hb
    obtain ⟨hat, cs, T, fr, hh2, hsz2⟩ := u8_sim h b _ hb
    exact fix_ok hb0 hh2 (by simpa using hsz2) fun j z hj => fix_ints (u8_sim h) hb j z hj
theorem calls_q {m : Int} {f : FuncId} {args : List AV} {vs : List Value} {w : World} (h : ACalls Tryd.prog f args (qSt m) fun r σ' => r = .bool true ∧ σ' = qSt m) (hs : Sim (qSt m) w) (hr : Reps (qSt m) w args vs) :
    Calls Tryd.prog f ⟨vs⟩ w fun e w' => e = .returned (.bool true) ∧ Ext w w' :=
  (h w vs hs hr).mono fun e w' ⟨u, r, σ', he, ⟨hrt, hst⟩, hle, _, hrep⟩ => by
    subst hrt hst
    cases hrep
    refine ⟨he, Ext.of_below ⟨hle.os, hle.tape, hle.output, hle.size, fun k hk => ?_⟩⟩
    cases hn : qSt m k with
    | none => exact (hle.keep k hk hn).2
    | some r =>
      obtain ⟨l, rfl⟩ := qSt_fix hn
      exact (hle.fix k _ hk hn).2
end Go.Proofs.YtfjnahkcfdcbeaaDoor
