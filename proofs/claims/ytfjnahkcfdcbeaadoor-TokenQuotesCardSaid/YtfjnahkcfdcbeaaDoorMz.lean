/- utf8's two tables, as the text lays them, for the rows of tokens. -/
import Derived.Test.YtfjnahkcfdcbeaaDoorZd
import Derived.Test.YtfjnahkcfdcbeaaDoorRows
import Derived.ProofKit
import Derived.LaidMore
import Derived.OpenShut
import Derived.Stop.LaidErr
import Derived.MakeChecks
import Derived.SevenTiedAt
import Derived.Lay
namespace Go.Proofs.YtfjnahkcfdcbeaaDoor
open Go Go.ChangeShapes Go.WideShapes Go.ChangeAt Go.RowKit Go.A Go.Lib Go.Shelf
set_option maxRecDepth 100000
set_option linter.unusedSimpArgs false
set_option linter.unusedVariables false

theorem row_own : ownKnob Tryd.prog.godebug = none := by kernel_rfl
theorem row_laid : laidOutB Tryd.prog = true := by kernel_rfl
def laid2 : List (String × DataW Unit) := [("unicode/utf8.acceptRanges", Rows.laid_unicode_utf8_acceptRanges), ("unicode/utf8.first", Rows.laid_unicode_utf8_first)]
theorem first_eq : Rows.laid_unicode_utf8_first = firstData := by kernel_rfl
theorem acc_eq : (Rows.laid_unicode_utf8_acceptRanges : DataW Unit) = acceptData := by kernel_rfl
theorem u8_extra : U8Extra Tryd.prog Tryd.lays260_ren := ⟨by kernel_rfl, by kernel_rfl, by kernel_rfl, by kernel_rfl, by kernel_rfl, by kernel_rfl, by kernel_rfl⟩
theorem var_size {P : Program} {w : World} {n : String} {d : DataW Unit} (h : VarReads P w n d) {g : Nat} (hg : P.globalNamed n = some g) {t e : TypeId} {k : Nat} (hty : (P.globals[g]?).map (·.type) = some t) (ht : P.underlying t = some (.array k e)) :
    ∃ cs T fr, w.heap[g]? = some (.cells cs T fr) ∧ cs.size = P.cellsOf t := by
  obtain ⟨g', t', cs, fuel, p, hg', hty', hvar, hd⟩ := h
  obtain rfl := Option.some.inj (hg.symm.trans hg')
  obtain rfl := Option.some.inj (hty.symm.trans hty')
  have hlen : cs.toList.length = P.cellsOf t := by
    cases fuel with
    | zero => simp [DataW.trod] at hd
    | succ fuel =>
      simp only [DataW.trod, ht] at hd
      split at hd
      · assumption
      · cases hd
  unfold World.var? at hvar
  rw [hg, Option.bind_some] at hvar
  split at hvar
  · rename_i cs' T fr hheap
    injection hvar with hvar
    subst hvar
    exact ⟨_, _, _, hheap, by simpa using hlen⟩
  · cases hvar
/-- The store that knows the two tables. -/
def u8St : ASt := fun b => if b = 0 then some (.fix (firstTab.map (AV.int .u8))) else if b = 1 then some (.fix (accTab.map (AV.int .u8))) else none
theorem u8_u8 : U8 u8St := ⟨by simp [u8St], by simp [u8St]⟩
theorem ints_reps {σ : ASt} {w : World} {k : IntKind} : ∀ zs : List Int, Reps σ w (zs.map (AV.int k)) (zs.map (Value.int k))
  | [] => .nil
  | z :: zs => .cons (.int k z) (ints_reps zs)
theorem fix_ok {σ : ASt} {W : World} {b : Nat} {zs : List Int} (hs : σ b = some (.fix (zs.map (AV.int .u8)))) {cs : Array Value} {T : TypeId} {fr : Nat × Nat} (hh : W.heap[b]? = some (.cells cs T fr)) (hsz : cs.size = zs.length)
    (hc : ∀ j z, zs[j]? = some z → W.cell? ⟨b, j, none⟩ = some (.int .u8 z)) : RoleOk σ W b (.fix (zs.map (AV.int .u8))) := by
  have hlt : b < W.heap.size := (Array.getElem?_eq_some_iff.1 hh).1
  refine ⟨At.mk' (ints_reps _) (fun j _ => ⟨hlt, .inr (.inl ⟨_, hs⟩)⟩) (fun j v hj => ?_), cs, T, fr, hh, by simpa using hsz⟩
  rw [List.getElem?_map] at hj
  obtain ⟨z, hz, rfl⟩ := Option.map_eq_some_iff.1 hj
  rw [Nat.zero_add]
  exact hc j z hz
theorem u8_sim {W : World} (h : laidMetH Tryd.prog laid2 W) : Sim u8St W := by
  rw [MakeChecks.laidMetH_plain _ _ _ (by kernel_rfl)] at h
  have h4 : VarReads Tryd.prog W "unicode/utf8.acceptRanges" acceptData := acc_eq ▸ Lib.laidMet.reads h (.head _)
  have h3 : VarReads Tryd.prog W "unicode/utf8.first" firstData := first_eq ▸ Lib.laidMet.reads h (.tail _ (.head _))
  have hT := utf8Tabs_of_reads (ρ := Tryd.lays260_ren) Tryd.lays260 u8_extra h3 h4
  obtain ⟨hT1, hT2⟩ := hT
  have hT1 : ∀ c, c < 256 → W.cell? ⟨0, c, none⟩ = some (.int .u8 (firstT c)) := hT1
  have hT2 : ∀ i, i < 16 → W.cell? ⟨1, 2 * i, none⟩ = some (.int .u8 (accLo i)) ∧ W.cell? ⟨1, 2 * i + 1, none⟩ = some (.int .u8 (accHi i)) := hT2
  intro b r hb
  unfold u8St at hb
  split at hb
  · rename_i hbb
    subst hbb
    injection hb with hb
    subst hb
    obtain ⟨cs, T, fr, hh, hsz⟩ := var_size h3 (g := 0) (by kernel_rfl) u8_extra.y3 (Tryd.lays260.t119)
    refine fix_ok (by simp [u8St]) hh (hsz.trans (by kernel_rfl)) fun j z hj => ?_
    have hl := (List.getElem?_eq_some_iff.1 hj).1
    simp only [firstTab, List.length_map, List.length_range] at hl
    simp only [firstTab, List.getElem?_map, List.getElem?_range hl, Option.map_some, Option.some.injEq] at hj
    subst hj
    exact hT1 j hl
  · split at hb
    · rename_i hbb
      subst hbb
      injection hb with hb
      subst hb
      obtain ⟨cs, T, fr, hh, hsz⟩ := var_size h4 (g := 1) (by kernel_rfl) u8_extra.y4 (Tryd.lays260.t139)
      refine fix_ok (by simp [u8St]) hh (hsz.trans (by kernel_rfl)) fun j z hj => ?_
      have hl := (List.getElem?_eq_some_iff.1 hj).1
      have key : ∀ j, j < 32 → accTab[j]? = some (if j % 2 = 0 then (accLo (j / 2) : Int) else accHi (j / 2)) := by decide
      have hl : j < 32 := hl
      rw [key j hl] at hj
      injection hj with hj
      subst hj
      obtain ⟨g1, g2⟩ := hT2 (j / 2) (by omega)
      split
      · rw [show 2 * (j / 2) = j by omega] at g1; exact g1
      · rw [show 2 * (j / 2) + 1 = j by omega] at g2; exact g2
    · cases hb
theorem reps_one {σ : ASt} {w : World} {a : AV} {vs : List Value} (h : Reps σ w [a] vs) : ∃ v, vs = [v] ∧ Rep σ w a v := by
  cases h with
  | cons h1 h2 => cases h2; exact ⟨_, rfl, h1⟩
theorem reps_two {σ : ASt} {w : World} {a b : AV} {vs : List Value} (h : Reps σ w [a, b] vs) : ∃ u v, vs = [u, v] ∧ Rep σ w a u ∧ Rep σ w b v := by
  cases h with
  | cons h1 h2 =>
    cases h2 with
    | cons h2 h3 => cases h3; exact ⟨_, _, rfl, h1, h2⟩
theorem calls_u8 {f : FuncId} {args : List AV} {vs : List Value} {w : World} (h : ACalls Tryd.prog f args u8St fun r σ' => r = .bool true ∧ σ' = u8St) (hs : Sim u8St w) (hr : Reps u8St w args vs) :
    Calls Tryd.prog f ⟨vs⟩ w fun e w' => e = .returned (.bool true) ∧ Ext w w' :=
  (h w vs hs hr).mono fun e w' ⟨u, r, σ', he, ⟨hrt, hst⟩, hle, _, hrep⟩ => by
    subst hrt hst
    cases hrep
    refine ⟨he, Ext.of_below ⟨hle.os, hle.tape, hle.output, hle.size, fun k hk => ?_⟩⟩
    cases hn : u8St k with
    | none => exact (hle.keep k hk hn).2
    | some r =>
      have hn' := hn
      unfold u8St at hn
      split at hn
      · injection hn with hn
        subst hn
        exact (hle.fix k _ hk hn').2
      · split at hn
        · injection hn with hn
          subst hn
          exact (hle.fix k _ hk hn').2
        · cases hn
end Go.Proofs.YtfjnahkcfdcbeaaDoor
