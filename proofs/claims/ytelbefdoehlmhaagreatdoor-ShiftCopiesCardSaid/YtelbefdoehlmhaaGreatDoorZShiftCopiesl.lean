/- Part 12 of what ShiftCopies leans on: Mw Mx. -/
import Derived.Shelf.Vars
import Derived.HandedShaped
import Derived.Test.YtelbefdoehlmhaaGreatDoorZShiftCopiesk
set_option linter.defProp false
set_option linter.unusedSimpArgs false
set_option linter.unusedVariables false
set_option maxRecDepth 100000
namespace Go
variable {H : Type} {enc : TypeId × Value → H}
theorem A.returnsInHanded_and_shaped {a : Assume} {C : Checked} {os : Os} {f : FuncId} {fn : Func} {s : ChangeSpec} {conds : List PathCond} {apart fresh handsOn again : Bool} {X : World → Array Value → Prop}
    (hX : ∀ (w w' : World) (args : Array Value), w.heap = w'.heap → X w args → X w' args)
    (own : ownKnob C.prog.godebug = none) (started : os.Started) (noInit : C.prog.inits.idxOf? f = none) (hfn : C.prog.funcs[f]? = some fn)
    (witness : ∃ (w : World) (tape : Tape) (i : Input), w.os = os ∧ (w.forCall tape i).Shaped C.prog ∧ i.vars = [] ∧ Input.okWide C.prog (w.forCall tape i) .any w.heap.size f i ∧
      ((s.pre enc C.prog fn conds apart (w.forCall tape i).memory i.args ∧ X (w.forCall tape i).memory i.args) ∧ sizedMet enc C.prog fn (OpenSpec.ofChange s) apart (w.forCall tape i).memory i.args) ∧ a.holds C.prog (lone (Frame.enter C.prog f i.args .normal) [] (w.forCall tape i)))
    (contract : ∀ (W : World) (base : Nat) (args : Array Value) (ds gs : List (DataW H)) (before : List MemPlace),
      (∀ (j : Nat) t v, fn.params[j]? = some t → args[j]? = some v → Value.okWide C.prog W .any base t v) →
      DataW.Whole enc C.prog fn.params.toList s.vars apart W args.toList ds gs before →
      W.ShapedOpen C.prog → X W args →
      Calls C.prog f args W fun e W' => ∃ v, e = .returned v ∧ s.post enc C.prog fn apart fresh handsOn again W args v W') :
    ReturnsInHanded a C os f .any (fun w args => (s.pre enc C.prog fn conds apart w args ∧ X w args) ∧ sizedMet enc C.prog fn (OpenSpec.ofChange s) apart w args) (s.post enc C.prog fn apart fresh handsOn again) := by
  refine returnsInHanded_of_calls own started noInit witness ?_
  intro w tape i _ hsh _ hok hpre hholds
  obtain ⟨_, _, _, fn', hfn', _, _, _, _, hval⟩ := hok
  have e : fn' = fn := Option.some.inj (hfn'.symm.trans hfn)
  subst e
  obtain ⟨⟨⟨ds, gs, before, hw, hc⟩, hx⟩, hz⟩ := hpre
  have hw' := DataW.Whole.of_heap (w' := w.forCall tape i) (by rfl) hw
  refine (contract (w.forCall tape i) w.heap.size i.args ds gs before hval hw' hsh (hX _ _ _ (by rfl) hx)).mono fun e W' ⟨v, he, hp⟩ => ?_
  subst he
  exact ChangeSpec.post_blind hp
end Go
namespace Go.Proofs.YtelbefdoehlmhaaGreatDoor
open Go Go.ChangeShapes Go.WideShapes Go.ChangeAt Go.RowKit Go.A Go.Lib Go.Shelf
def wSt (m : Int) : ASt := fun b => if b = 3 then some (.fix ([m].map (AV.int .i64))) else vSt b
theorem wSt_fix {m : Int} {b : Nat} {r : Role} (h : wSt m b = some r) : ∃ l, r = .fix l := by
  unfold wSt at h
  split at h
  · injection h with h; exact ⟨_, h.symm⟩
  · exact stOf_fix h
end Go.Proofs.YtelbefdoehlmhaaGreatDoor
namespace Go.Proofs.YtelbefdoehlmhaaGreatDoor
open Go Go.ChangeShapes Go.WideShapes Go.ChangeAt Go.RowKit Go.A Go.Lib Go.Shelf
theorem strs_trod {H : Type} {enc : TypeId × Value → H} {P : Program} {w : World} {base : Nat} {spare : Nat → Bool} {held : Bool} {fuel : Nat} {t e : TypeId} {cs : List Value} {l : List (List UInt8)} {m : List MemPlace}
    (ht : P.underlying t = some (.slice e)) (he : P.underlying e = some .string) (hc : P.cellsOf e = 1) (hl : 0 < l.length)
    (hd : DataW.trod enc P w base spare held fuel t cs = some (.slice (l.map fun s => .lit (.string s)) [], m)) :
    ∃ R o cap, cs = [.slice (some ⟨R, o, none⟩) l.length cap] ∧ l.length ≤ cap ∧ ∀ j s, l[j]? = some s → w.cell? ⟨R, o + j, none⟩ = some (.string ⟨⟨s⟩⟩) := by
  rcases DataW.trod_slice ht hd with ⟨_, hx⟩ | ⟨a, len, cap, el, rs, k, rfl, hcs, hx, _, hlc, _, hel, helem, hsp, _⟩
  · cases hx
  have e0 := congrArg Prod.fst hx
  simp only [DataW.slice.injEq] at e0
  obtain ⟨eE, eR⟩ := e0
  have hlen : len = l.length := by
    have := congrArg List.length eE
    simp at this
    omega
  have hcell : ∀ i z, l[i]? = some z → w.cell? (a.add i) = some (.string ⟨⟨z⟩⟩) := by
    intro i z hiz
    have hi : i < l.length := (List.getElem?_eq_some_iff.1 hiz).1
    have h1 := helem i (by omega)
    rw [hc] at h1
    obtain ⟨b, hb⟩ : ∃ b, el[i]? = some b := ⟨el[i]'(by omega), List.getElem?_eq_getElem (by omega)⟩
    rw [hb] at h1
    obtain ⟨ce, hce, hte⟩ := Option.bind_eq_some_iff.1 h1
    obtain ⟨z', hz, hbz, _⟩ := DataW.trod_string he hte
    have hb1 : b.1 = .lit (.string z) := by
      have := congrArg (·[i]?) eE
      simp only [List.getElem?_map, hiz, hb, Option.map_some, Option.some.injEq] at this
      exact this.symm
    rw [hbz] at hb1
    simp only [DataW.lit.injEq, Lit.string.injEq] at hb1
    obtain ⟨_, _, hcc⟩ := World.cells?_some hce
    have := hcc 0 (by omega)
    rw [hz] at this
    simp only [Nat.mul_one] at this
    have e1 : (a.add i).add 0 = a.add i := by simp [Addr.add]
    rw [e1] at this
    rw [this, ← hb1]
    rfl
  obtain ⟨z0, hz0⟩ : ∃ z, l[0]? = some z := ⟨l[0], List.getElem?_eq_getElem hl⟩
  obtain ⟨R, o, sR⟩ := a
  obtain rfl : sR = none := by
    have h00 := hcell 0 z0 hz0
    have : (Addr.add ⟨R, o, sR⟩ 0) = ⟨R, o, sR⟩ := by simp [Addr.add]
    rw [this] at h00
    exact Go.Proofs.cell_spot h00
  exact ⟨R, o, cap, by rw [hcs, hlen], by omega, fun j s hj => by have := hcell j s hj; rwa [Addr.add_lit] at this⟩
theorem block_lt {w : World} {R o : Nat} {s : Option Nat} {v : Value} (h : w.cell? ⟨R, o, none⟩ = some v) : R < w.heap.size := by
  refine Nat.lt_of_not_le fun hge => ?_
  simp [World.cell?, Array.getElem?_eq_none hge] at h
theorem strs_row {σ : ASt} {w : World} {b : Nat} (hst : ∀ o, Still σ w b o) : ∀ (zs : List (List UInt8)) (o : Nat), (∀ j z, zs[j]? = some z → w.cell? ⟨b, o + j, none⟩ = some (.string ⟨⟨z⟩⟩)) → Row σ w b o 1 (zs.map AV.str)
  | [], o, _ => .nil _ _ _
  | z :: zs, o, h => .cons rfl (.cons (hst o) (h 0 z rfl) (.str z) (.nil _ _)) (strs_row hst zs (o + 1) fun j z' hj => by
      have := h (j + 1) z' (by simpa using hj)
      rwa [show o + (j + 1) = o + 1 + j by omega] at this)
theorem strss_row {σ : ASt} {w : World} {b : Nat} (hst : ∀ o, Still σ w b o) : ∀ (zs : List (List (List UInt8))) (o : Nat),
    (∀ j z, zs[j]? = some z → ∃ v, w.cell? ⟨b, o + j, none⟩ = some v ∧ Rep σ w (.sl .shr (z.map AV.str)) v) → Row σ w b o 1 (zs.map fun l => AV.sl .shr (l.map AV.str))
  | [], o, _ => .nil _ _ _
  | z :: zs, o, h => by
    obtain ⟨v, hv, hr⟩ := h 0 z rfl
    exact .cons rfl (.cons (hst o) hv hr (.nil _ _)) (strss_row hst zs (o + 1) fun j z' hj => by
      have := h (j + 1) z' (by simpa using hj)
      rwa [show o + (j + 1) = o + 1 + j by omega] at this)
theorem levels_role {σ : ASt} {W : World} (hfx : ∀ b r, σ b = some r → ∃ l, r = .fix l) (h : VarReads Tryz.prog W "tabular/parse.levels" (.slice (levelsL.map fun l => .slice (l.map fun s => .lit (.string s)) []) [])) :
    RoleOk σ W 0 (.fix [lvAV]) := by
  obtain ⟨g', t', cs, fuel, p, hg, hty, hvar, hd⟩ := h
  obtain rfl := Option.some.inj ((show Tryz.prog.globalNamed "tabular/parse.levels" = some 0 by kernel_rfl).symm.trans hg)
  obtain rfl := Option.some.inj ((show (Tryz.prog.globals[0]?).map (·.type) = some 98 by kernel_rfl).symm.trans hty)
  have ht : Tryz.prog.underlying 98 = some (.slice 100) := by kernel_rfl
  have ht2 : Tryz.prog.underlying 100 = some (.slice 9) := by kernel_rfl
  have he : Tryz.prog.underlying 9 = some .string := by kernel_rfl
  have hc : Tryz.prog.cellsOf 100 = 1 := by kernel_rfl
  have hc2 : Tryz.prog.cellsOf 9 = 1 := by kernel_rfl
  have hpos : ∀ (j : Nat) (z : List (List UInt8)), levelsL[j]? = some z → 0 < z.length := by
    intro j z hj
    match j, hj with
    | 0, hj | 1, hj | 2, hj | 3, hj | 4, hj => injection hj with hj; subst hj; decide
  rcases DataW.trod_slice ht hd with ⟨_, hx⟩ | ⟨a, len, cap, el, rs, k, rfl, hcs, hx, _, hlc, _, hel, helem, hsp, _⟩
  · cases hx
  have e0 := congrArg Prod.fst hx
  simp only [DataW.slice.injEq] at e0
  obtain ⟨eE, eR⟩ := e0
  have hlen : len = levelsL.length := by
    have := congrArg List.length eE
    simp at this
    omega
  have hcell : ∀ i z, levelsL[i]? = some z → ∃ v, W.cell? (a.add i) = some v ∧ Rep σ W (.sl .shr (z.map AV.str)) v := by
    intro i z hiz
    have hi : i < levelsL.length := (List.getElem?_eq_some_iff.1 hiz).1
    have h1 := helem i (by omega)
    rw [hc] at h1
    obtain ⟨b, hb⟩ : ∃ b, el[i]? = some b := ⟨el[i]'(by omega), List.getElem?_eq_getElem (by omega)⟩
    rw [hb] at h1
    obtain ⟨ce, hce, hte⟩ := Option.bind_eq_some_iff.1 h1
    have hb1 : b.1 = .slice (z.map fun s => .lit (.string s)) [] := by
      have := congrArg (·[i]?) eE
      simp only [List.getElem?_map, hiz, hb, Option.map_some, Option.some.injEq] at this
      exact this.symm
    obtain ⟨b1, b2⟩ := b
    dsimp only at hb1
    subst hb1
    obtain ⟨R, o, cap', rfl, hle, hcells⟩ := strs_trod ht2 he hc2 (hpos i z hiz) hte
    obtain ⟨_, _, hcc⟩ := World.cells?_some hce
    have := hcc 0 (by omega)
    simp only [Nat.mul_one] at this
    have e1 : (a.add i).add 0 = a.add i := by simp [Addr.add]
    rw [e1] at this
    obtain ⟨z0, hz0⟩ : ∃ z0, z[0]? = some z0 := ⟨z[0]'(hpos i z hiz), List.getElem?_eq_getElem (hpos i z hiz)⟩
    have hR := block_lt (s := none) (hcells 0 z0 hz0)
    exact ⟨_, this, .sl (sz := 1) (strs_row (fun o => still_fix hfx hR) z o hcells) (by simp) hle trivial hR⟩
  obtain ⟨R, o, sR⟩ := a
  obtain ⟨v0, h00, _⟩ := hcell 0 [[61], [60, 62], [60], [60, 61], [62], [62, 61]] rfl
  obtain rfl : sR = none := by
    have : (Addr.add ⟨R, o, sR⟩ 0) = ⟨R, o, sR⟩ := by simp [Addr.add]
    rw [this] at h00
    exact Go.Proofs.cell_spot h00
  have hR : R < W.heap.size := by
    have : (Addr.add ⟨R, o, none⟩ 0) = ⟨R, o, none⟩ := by simp [Addr.add]
    rw [this] at h00
    exact block_lt (s := none) h00
  have hrow := strss_row (fun o => still_fix hfx hR) levelsL o fun j z hj => by
    obtain ⟨v, hv, hr⟩ := hcell j z hj
    rw [Addr.add_lit] at hv
    exact ⟨v, hv, hr⟩
  unfold World.var? at hvar
  rw [hg, Option.bind_some] at hvar
  split at hvar
  · rename_i cs' T fr hheap
    injection hvar with hvar
    subst hvar
    have hcs2 : cs' = #[.slice (some ⟨R, o, none⟩) levelsL.length cap] := by
      rw [← hlen]
      exact Array.ext' (by simpa using hcs)
    subst hcs2
    have hlt : 0 < W.heap.size := (Array.getElem?_eq_some_iff.1 hheap).1
    have hce : W.cell? ⟨0, 0, none⟩ = some (.slice (some ⟨R, o, none⟩) levelsL.length cap) := by simp [World.cell?, hheap]
    have hrep : Rep σ W lvAV (.slice (some ⟨R, o, none⟩) levelsL.length cap) := .sl (sz := 1) hrow (by simp) (by omega) trivial hR
    exact ⟨.cons (still_fix hfx hlt) hce hrep (.nil _ _), _, T, fr, hheap, rfl⟩
  · cases hvar
def laidX : List (String × DataW Unit) := [("math/bits.deBruijn32tab", Rows.laid_math_bits_deBruijn32tab), ("math/bits.deBruijn64tab", Rows.laid_math_bits_deBruijn64tab), ("internal/strconv.uint64pow10", Rows.laid_internal_strconv_uint64pow10), ("unicode/utf8.acceptRanges", Rows.laid_unicode_utf8_acceptRanges), ("tabular/parse.levels", Rows.laid_tabular_parse_levels), ("unicode/utf8.first", Rows.laid_unicode_utf8_first)]
def xSt (m : Int) : ASt := fun b => if b = 0 then some (.fix [lvAV]) else wSt m b
theorem xSt_u8 (m : Int) : U8 (xSt m) := ⟨by simp [xSt, wSt, vSt, vPs, stOf], by simp [xSt, wSt, vSt, vPs, stOf]⟩
theorem xSt_tab (m : Int) : Tab (xSt m) := by simp [Tab, xSt, wSt, vSt, vPs, stOf]
theorem xSt_max (m : Int) : MaxL (xSt m) := ⟨m, by simp [xSt, wSt]⟩
theorem xSt_lv (m : Int) : LV (xSt m) := by simp [LV, xSt]
theorem xSt_fix {m : Int} {b : Nat} {r : Role} (h : xSt m b = some r) : ∃ l, r = .fix l := by
  unfold xSt at h
  split at h
  · injection h with h; exact ⟨_, h.symm⟩
  · exact wSt_fix h
theorem x_sim {W : World} (hsh : W.ShapedOpen Tryz.prog) (h : laidMetH Tryz.prog laidX W) : ∃ m, Sim (xSt m) W := by
  rw [MakeChecks.laidMetH_plain _ _ _ (by kernel_rfl)] at h
  have hp : VarReads Tryz.prog W "internal/strconv.uint64pow10" (Lib.tabData .u64 Lib.pow10Tab) := Lib.laidMet.reads h (.tail _ (.tail _ (.head _)))
  have h4 : VarReads Tryz.prog W "unicode/utf8.acceptRanges" acceptData := acc_eq ▸ Lib.laidMet.reads h (.tail _ (.tail _ (.tail _ (.head _))))
  have h5 : VarReads Tryz.prog W "tabular/parse.levels" (.slice (levelsL.map fun l => .slice (l.map fun s => .lit (.string s)) []) []) := Lib.laidMet.reads h (.tail _ (.tail _ (.tail _ (.tail _ (.head _)))))
  have h3 : VarReads Tryz.prog W "unicode/utf8.first" firstData := first_eq ▸ Lib.laidMet.reads h (.tail _ (.tail _ (.tail _ (.tail _ (.tail _ (.head _))))))
  obtain ⟨m, hm⟩ := Tryz.laysM155.s1_3 W hsh
  have hm : W.cell? ⟨3, 0, none⟩ = some (.int .i64 m) := hm
  obtain ⟨cs, hh, hsz, _⟩ := hsh.1 3 #[.int .i64 0] 3 (of_decide_eq_true (by kernel_rfl)) (by kernel_rfl)
  obtain ⟨r1, r2⟩ := u8_roles (σ := xSt m) h3 h4
  refine ⟨m, fun b r hb => ?_⟩
  have hb0 := hb
  unfold xSt at hb
  split at hb
  · rename_i hbb
    subst hbb
    injection hb with hb
    subst hb
    exact levels_role (fun _ _ => xSt_fix) h5
  unfold wSt at hb
  split at hb
  · rename_i hbb
    subst hbb
    injection hb with hb
    subst hb
    have hlt : 3 < W.heap.size := (Array.getElem?_eq_some_iff.1 hh).1
    refine ⟨At.mk' (ints_reps _) (fun j _ => ⟨hlt, .inr (.inl ⟨_, hb0⟩)⟩) (fun j v hj => ?_), cs, _, _, hh, hsz⟩
    match j, hj with
    | 0, hj => injection hj with hj; subst hj; exact hm
  · obtain ⟨l, hl, rfl⟩ := stOf_mem hb
    simp only [vPs, List.mem_cons, List.not_mem_nil, or_false, Prod.mk.injEq] at hl
    rcases hl with ⟨rfl, rfl⟩ | ⟨rfl, rfl⟩ | ⟨rfl, rfl⟩
    · exact r1 (xSt_u8 m).1
    · exact r2 (xSt_u8 m).2
    · exact pow_role (fun _ _ => xSt_fix) hp
theorem calls_x {m : Int} {f : FuncId} {args : List AV} {vs : List Value} {w : World} (h : ACalls Tryz.prog f args (xSt m) fun r σ' => r = .bool true ∧ σ' = xSt m) (hs : Sim (xSt m) w) (hr : Reps (xSt m) w args vs) :
    Calls Tryz.prog f ⟨vs⟩ w fun e w' => e = .returned (.bool true) ∧ Ext w w' :=
  (h w vs hs hr).mono fun e w' ⟨u, r, σ', he, ⟨hrt, hst⟩, hle, _, hrep⟩ => by
    subst hrt hst
    cases hrep
    refine ⟨he, Ext.of_below ⟨hle.os, hle.tape, hle.output, hle.size, fun k hk => ?_⟩⟩
    cases hn : xSt m k with
    | none => exact (hle.keep k hk hn).2
    | some r =>
      obtain ⟨l, rfl⟩ := xSt_fix hn
      exact (hle.fix k _ hk hn).2
end Go.Proofs.YtelbefdoehlmhaaGreatDoor
