/- The store that knows the powers of ten (the library's and the program's), for the rows of decimals. -/
import Derived.Test.YtpedaofcndaooaaDoorHd
import Derived.Test.YtpedaofcndaooaaDoorRows
import Derived.ProofKit
import Derived.LaidMore
import Derived.OpenShut
import Derived.Stop.LaidErr
import Derived.MakeChecks
import Derived.SevenTiedAt
import Derived.Lay
import Derived.ChangeArms
import Derived.Lib.LaidU8
import Derived.Lib.LaidTab
namespace Go.Proofs.YtpedaofcndaooaaDoor
open Go Go.ChangeShapes Go.WideShapes Go.ChangeAt Go.RowKit Go.A Go.Lib Go.Shelf
set_option maxRecDepth 100000
set_option linter.unusedSimpArgs false
set_option linter.unusedVariables false

theorem row_own : ownKnob Tryd.prog.godebug = none := by kernel_rfl
theorem row_laid : laidOutB Tryd.prog = true := by kernel_rfl
def laid6 : List (String × DataW Unit) := [("math/bits.deBruijn32tab", Rows.laid_math_bits_deBruijn32tab), ("math/bits.deBruijn64tab", Rows.laid_math_bits_deBruijn64tab), ("internal/strconv.uint64pow10", Rows.laid_internal_strconv_uint64pow10), ("unicode/utf8.acceptRanges", Rows.laid_unicode_utf8_acceptRanges), ("tabular/deci.tens", Rows.laid_tabular_deci_tens), ("unicode/utf8.first", Rows.laid_unicode_utf8_first)]
theorem ints_reps {σ : ASt} {w : World} {k : IntKind} : ∀ zs : List Int, Reps σ w (zs.map (AV.int k)) (zs.map (Value.int k))
  | [] => .nil
  | z :: zs => .cons (.int k z) (ints_reps zs)
theorem reps_one {σ : ASt} {w : World} {a : AV} {vs : List Value} (h : Reps σ w [a] vs) : ∃ v, vs = [v] ∧ Rep σ w a v := by
  cases h with
  | cons h1 h2 => cases h2; exact ⟨_, rfl, h1⟩
theorem reps_two {σ : ASt} {w : World} {a b : AV} {vs : List Value} (h : Reps σ w [a, b] vs) : ∃ u v, vs = [u, v] ∧ Rep σ w a u ∧ Rep σ w b v := by
  cases h with
  | cons h1 h2 =>
    cases h2 with
    | cons h2 h3 => cases h3; exact ⟨_, _, rfl, h1, h2⟩
theorem reps_three {σ : ASt} {w : World} {a b c : AV} {vs : List Value} (h : Reps σ w [a, b, c] vs) : ∃ u v x, vs = [u, v, x] ∧ Rep σ w a u ∧ Rep σ w b v ∧ Rep σ w c x := by
  cases h with
  | cons h1 h2 =>
    obtain ⟨_, _, rfl, h2, h3⟩ := reps_two h2
    exact ⟨_, _, _, rfl, h1, h2, h3⟩
theorem reps_four {σ : ASt} {w : World} {a b c d : AV} {vs : List Value} (h : Reps σ w [a, b, c, d] vs) : ∃ u v x y, vs = [u, v, x, y] ∧ Rep σ w a u ∧ Rep σ w b v ∧ Rep σ w c x ∧ Rep σ w d y := by
  cases h with
  | cons h1 h2 =>
    obtain ⟨_, _, _, rfl, h2, h3, h4⟩ := reps_three h2
    exact ⟨_, _, _, _, rfl, h1, h2, h3, h4⟩
/-- A variable that is a slice of integers. -/
theorem slice_reads {P : Program} {w : World} {name : String} {g : Nat} {t e : TypeId} {k : IntKind} {l : List Int} (hn : P.globalNamed name = some g) (hy : (P.globals[g]?).map (·.type) = some t)
    (ht : P.underlying t = some (.slice e)) (he : P.underlying e = some (.int k)) (hc : P.cellsOf e = 1) (hl : 0 < l.length) (h : VarReads P w name (.slice (l.map fun x => .lit (.int k x)) [])) :
    ∃ R o cap T fr, w.heap[g]? = some (.cells #[.slice (some ⟨R, o, none⟩) l.length cap] T fr) ∧ l.length ≤ cap ∧ ∀ j z, l[j]? = some z → w.cell? ⟨R, o + j, none⟩ = some (.int k z) := by
  obtain ⟨g', t', cs, fuel, p, hg, hty, hvar, hd⟩ := h
  obtain rfl := Option.some.inj (hn.symm.trans hg)
  obtain rfl := Option.some.inj (hy.symm.trans hty)
  rcases DataW.trod_slice ht hd with ⟨_, hx⟩ | ⟨a, len, cap, el, rs, m, rfl, hcs, hx, _, hlc, _, hel, helem, hsp, _⟩
  · cases hx
  have e0 := congrArg Prod.fst hx
  simp only [DataW.slice.injEq] at e0
  obtain ⟨eE, eR⟩ := e0
  have hlen : len = l.length := by
    have := congrArg List.length eE
    simp at this
    omega
  have hcell : ∀ i z, l[i]? = some z → w.cell? (a.add i) = some (.int k z) := by
    intro i z hiz
    have hi : i < l.length := (List.getElem?_eq_some_iff.1 hiz).1
    have h1 := helem i (by omega)
    rw [hc] at h1
    obtain ⟨b, hb⟩ : ∃ b, el[i]? = some b := ⟨el[i]'(by omega), List.getElem?_eq_getElem (by omega)⟩
    rw [hb] at h1
    obtain ⟨ce, hce, hte⟩ := Option.bind_eq_some_iff.1 h1
    obtain ⟨z', hz, hbz, _⟩ := DataW.trod_int he hte
    have hb1 : b.1 = .lit (.int k z) := by
      have := congrArg (·[i]?) eE
      simp only [List.getElem?_map, hiz, hb, Option.map_some, Option.some.injEq] at this
      exact this.symm
    rw [hbz] at hb1
    simp only [DataW.lit.injEq, Lit.int.injEq, true_and] at hb1
    obtain ⟨_, _, hcc⟩ := World.cells?_some hce
    have := hcc 0 (by omega)
    rw [hz] at this
    simp only [Nat.mul_one] at this
    have e1 : (a.add i).add 0 = a.add i := by simp [Addr.add]
    rw [e1] at this
    rw [this, ← hb1]
    rfl
  obtain ⟨z0, hz0⟩ : ∃ z, l[0]? = some z := ⟨l[0], List.getElem?_eq_getElem hl⟩
  obtain ⟨R, o, sR⟩ := a
  obtain rfl : sR = none := by
    have h00 := hcell 0 z0 hz0
    have : (Addr.add ⟨R, o, sR⟩ 0) = ⟨R, o, sR⟩ := by simp [Addr.add]
    rw [this] at h00
    exact Go.Proofs.cell_spot h00
  unfold World.var? at hvar
  rw [hn, Option.bind_some] at hvar
  split at hvar
  · rename_i cs' T fr hheap
    injection hvar with hvar
    subst hvar
    have hcs2 : cs' = #[.slice (some ⟨R, o, none⟩) l.length cap] := by
      rw [← hlen]
      exact Array.ext' (by simpa using hcs)
    subst hcs2
    exact ⟨R, o, cap, T, fr, hheap, by omega, fun j z hj => by have := hcell j z hj; rwa [Addr.add_lit] at this⟩
  · cases hvar
/-- The store that knows the two tables. -/
def dSt : ASt := fun b => if b = 4 then some (.fix (Lib.pow10Tab.map (AV.int .u64))) else if b = 0 then some (.fix [.sl .shr (tensL.map (AV.int .u64))]) else none
theorem dSt_tab : Tab dSt := by simp [Tab, dSt]
theorem dSt_tens : Tens dSt := by simp [Tens, dSt]
theorem dSt_fix {b : Nat} {r : Role} (h : dSt b = some r) : ∃ l, r = .fix l := by
  unfold dSt at h
  split at h
  · injection h with h; exact ⟨_, h.symm⟩
  · split at h
    · injection h with h; exact ⟨_, h.symm⟩
    · cases h
theorem dSt_still {w : World} {b o : Nat} (h : b < w.heap.size) : Still dSt w b o := by
  refine ⟨h, ?_⟩
  cases hb : dSt b with
  | none => exact .inl rfl
  | some r => obtain ⟨l, rfl⟩ := dSt_fix hb; exact .inr (.inl ⟨_, rfl⟩)
theorem row_of {σ : ASt} {w : World} {b : Nat} {k : IntKind} (hst : ∀ o, Still σ w b o) : ∀ (zs : List Int) (o : Nat), (∀ j z, zs[j]? = some z → w.cell? ⟨b, o + j, none⟩ = some (.int k z)) → Row σ w b o 1 (zs.map (AV.int k))
  | [], o, _ => .nil _ _ _
  | z :: zs, o, h => .cons rfl (.cons (hst o) (h 0 z rfl) (.int k z) (.nil _ _)) (row_of hst zs (o + 1) fun j z' hj => by
      have := h (j + 1) z' (by simpa using hj)
      rwa [show o + (j + 1) = o + 1 + j by omega] at this)
theorem d_sim {W : World} (h : laidMetH Tryd.prog laid6 W) : Sim dSt W := by
  rw [MakeChecks.laidMetH_plain _ _ _ (by kernel_rfl)] at h
  have h3 : VarReads Tryd.prog W "internal/strconv.uint64pow10" (Lib.tabData .u64 Lib.pow10Tab) := Lib.laidMet.reads h (.tail _ (.tail _ (.head _)))
  have h5 : VarReads Tryd.prog W "tabular/deci.tens" (.slice (tensL.map fun x => .lit (.int .u64 x)) []) := Lib.laidMet.reads h (.tail _ (.tail _ (.tail _ (.tail _ (.head _)))))
  intro b r hb
  unfold dSt at hb
  split at hb
  · rename_i hbb
    subst hbb
    injection hb with hb
    subst hb
    obtain ⟨g', t', cs, fuel, p, hg', ht', hvar, hd⟩ := h3
    obtain rfl := Option.some.inj ((show Tryd.prog.globalNamed "internal/strconv.uint64pow10" = some 4 by kernel_rfl).symm.trans hg')
    obtain rfl := Option.some.inj ((show (Tryd.prog.globals[4]?).map (·.type) = some 98 by kernel_rfl).symm.trans ht')
    have hcs := cells_of_tab (n := 20) (e := 47) (k := .u64) (by kernel_rfl) (by kernel_rfl) (by kernel_rfl) (by kernel_rfl) hd
    unfold World.var? at hvar
    rw [show Tryd.prog.globalNamed "internal/strconv.uint64pow10" = some 4 by kernel_rfl, Option.bind_some] at hvar
    split at hvar
    · rename_i cs' T fr hheap
      injection hvar with hvar
      have hlt : 4 < W.heap.size := (Array.getElem?_eq_some_iff.1 hheap).1
      have he : cs' = (Lib.pow10Tab.map fun z => Value.int .u64 z).toArray := by rw [hvar]; exact Array.ext' (by simpa using hcs)
      refine ⟨At.mk' (ints_reps _) (fun j _ => dSt_still hlt) (fun j v hj => ?_), cs', T, fr, hheap, by rw [he]; simp⟩
      simp only [World.cell?, hheap, Nat.zero_add, he]
      simpa using hj
    · cases hvar
  · split at hb
    · rename_i hbb
      subst hbb
      injection hb with hb
      subst hb
      obtain ⟨R, o, cap, T, fr, hheap, hle, hcells⟩ := slice_reads (g := 0) (t := 79) (e := 47) (by kernel_rfl) (by kernel_rfl) (by kernel_rfl) (by kernel_rfl) (by kernel_rfl) (by decide) h5
      have hlt : 0 < W.heap.size := (Array.getElem?_eq_some_iff.1 hheap).1
      have hR : R < W.heap.size := by
        have := hcells 0 1 rfl
        refine Nat.lt_of_not_le fun hge => ?_
        simp [World.cell?, Array.getElem?_eq_none hge] at this
      refine ⟨.cons (dSt_still hlt) (by simp [World.cell?, hheap]) (.sl (sz := 1) (row_of (fun o => dSt_still hR) tensL o hcells) (by simp) hle trivial hR) (.nil _ _), _, T, fr, hheap, rfl⟩
    · cases hb
theorem calls_d {f : FuncId} {args : List AV} {vs : List Value} {w : World} (h : ACalls Tryd.prog f args dSt fun r σ' => r = .bool true ∧ σ' = dSt) (hs : Sim dSt w) (hr : Reps dSt w args vs) :
    Calls Tryd.prog f ⟨vs⟩ w fun e w' => e = .returned (.bool true) ∧ Ext w w' :=
  (h w vs hs hr).mono fun e w' ⟨u, r, σ', he, ⟨hrt, hst⟩, hle, _, hrep⟩ => by
    subst hrt hst
    cases hrep
    refine ⟨he, Ext.of_below ⟨hle.os, hle.tape, hle.output, hle.size, fun k hk => ?_⟩⟩
    cases hn : dSt k with
    | none => exact (hle.keep k hk hn).2
    | some r =>
      obtain ⟨l, rfl⟩ := dSt_fix hn
      exact (hle.fix k _ hk hn).2
end Go.Proofs.YtpedaofcndaooaaDoor
