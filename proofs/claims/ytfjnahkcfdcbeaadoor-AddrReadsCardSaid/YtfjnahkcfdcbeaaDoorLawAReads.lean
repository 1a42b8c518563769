/- PROVED: for every text, reference and way AddrReads returns true. Condition: the library's table of powers of ten is laid as its text lays it (the card ties it). -/
import Derived.Test.YtfjnahkcfdcbeaaDoorXd
import Derived.Test.YtfjnahkcfdcbeaaDoorRows
import Derived.Test.YtfjnahkcfdcbeaaDoorCards
import Derived.Test.YtfjnahkcfdcbeaaDoorTie
import Derived.ProofKit
import Derived.LaidMore
import Derived.OpenShut
import Derived.Stop.LaidErr
import Derived.MakeChecks
import Derived.SevenTiedAt
namespace Go.Proofs.YtfjnahkcfdcbeaaDoor
open Go Go.ChangeShapes Go.WideShapes Go.ChangeAt Go.RowKit Go.A
set_option maxRecDepth 100000

theorem row_own : ownKnob Tryd.prog.godebug = none := by kernel_rfl
theorem row_laid : laidOutB Tryd.prog = true := by kernel_rfl
def laid3 : List (String × DataW Unit) := [("math/bits.deBruijn32tab", Rows.laid_math_bits_deBruijn32tab), ("math/bits.deBruijn64tab", Rows.laid_math_bits_deBruijn64tab), ("internal/strconv.uint64pow10", Rows.laid_internal_strconv_uint64pow10)]
theorem door_met (os : Os) (args : Array Value) : laidMetH Tryd.prog laid3 ((World.doorLaid Tryd.prog 4000 os).forCall (fun _ _ => 0) ⟨#[], args, []⟩).memory :=
  laidMetH_of_parts3 (fuel := 40) (laidMet_of_run' 40 (by kernel_rfl) (by kernel_rfl)) (by kernel_rfl) (by kernel_rfl)
theorem pow_of {W : World} (h : laidMetH Tryd.prog laid3 W) : Lib.TabIs Tryd.prog W "internal/strconv.uint64pow10" .u64 Lib.pow10Tab := by
  rw [MakeChecks.laidMetH_plain _ _ _ (by kernel_rfl)] at h
  have h2 : laidMet Tryd.prog (("internal/strconv.uint64pow10", Lib.tabData .u64 Lib.pow10Tab) :: []) W := h.tail.tail
  exact Lib.tabIs_of_head (g := 2) (t := 115) (e := 67) (n := 20) (by kernel_rfl) (by kernel_rfl) (by kernel_rfl) (by kernel_rfl) (by kernel_rfl) (by kernel_rfl) h2

/-- The store that knows the table. -/
def tabSt : ASt := fun b => if b = 2 then some (.fix (Lib.pow10Tab.map (AV.int .u64))) else none
theorem tab_tab : Tab tabSt := by simp [Tab, tabSt]
theorem ints_reps {σ : ASt} {w : World} {k : IntKind} : ∀ zs : List Int, Reps σ w (zs.map (AV.int k)) (zs.map (Value.int k))
  | [] => .nil
  | z :: zs => .cons (.int k z) (ints_reps zs)
theorem tab_sim {W : World} (h : Lib.TabIs Tryd.prog W "internal/strconv.uint64pow10" .u64 Lib.pow10Tab) : Sim tabSt W := by
  intro b r hb
  unfold tabSt at hb
  split at hb
  · rename_i hbb
    subst hbb
    injection hb with hb
    subst hb
    unfold Lib.TabIs World.var? at h
    rw [show Tryd.prog.globalNamed "internal/strconv.uint64pow10" = some 2 by kernel_rfl, Option.bind_some] at h
    split at h
    · rename_i cs T fr hheap
      injection h with h
      have hlt : 2 < W.heap.size := (Array.getElem?_eq_some_iff.1 hheap).1
      refine ⟨At.mk' (ints_reps _) (fun j _ => ⟨hlt, .inr (.inl ⟨_, by simp [tabSt]; rfl⟩)⟩) (fun j v hj => ?_), cs, T, fr, hheap, by rw [h]; simp⟩
      simp only [World.cell?, hheap, Nat.zero_add, h]
      simpa using hj
    · cases h
  · cases hb
theorem ref_rep {σ σ' : ASt} {w : World} {r : Ref} {v : Value} (h : Rep σ w (refAV r) v) : Rep σ' w (refAV r) v := by
  obtain ⟨a, b, c, d⟩ := r
  cases h with
  | agg h =>
  cases h with
  | cons h1 h =>
  cases h with
  | cons h2 h =>
  cases h with
  | cons h3 h =>
  cases h with
  | cons h4 h =>
  cases h
  cases h1; cases h2; cases h3; cases h4
  exact .agg (.cons (.int _ _) (.cons (.int _ _) (.cons (.bool _) (.cons (.bool _) .nil))))
theorem calls_tab {f : FuncId} {args : List AV} {vs : List Value} {w : World} (h : ACalls Tryd.prog f args tabSt fun r σ' => r = .bool true ∧ σ' = tabSt) (hs : Sim tabSt w) (hr : Reps tabSt w args vs) :
    Calls Tryd.prog f ⟨vs⟩ w fun e w' => e = .returned (.bool true) ∧ Ext w w' :=
  (h w vs hs hr).mono fun e w' ⟨u, r, σ', he, ⟨hrt, hst⟩, hle, _, hrep⟩ => by
    subst hrt hst
    cases hrep
    refine ⟨he, Ext.of_below ⟨hle.os, hle.tape, hle.output, hle.size, fun k hk => ?_⟩⟩
    cases hn : tabSt k with
    | none => exact (hle.keep k hk hn).2
    | some r =>
      have hn' := hn
      unfold tabSt at hn
      split at hn
      · injection hn with hn
        subst hn
        exact (hle.fix k _ hk hn').2
      · cases hn

theorem AddrReads_lifted (os : Os) (started : os.Started) (H : Type) (enc : TypeId × Value → H) :
    ReturnsInHanded {} Tryd.checked os 4 .any (fun w args => (Rows.addrReadsSpec.pre enc Tryd.prog Tryd.f4 [] false w args ∧ laidMetH Tryd.prog laid3 w) ∧ sizedMet enc Tryd.prog Tryd.f4 (OpenSpec.ofChange Rows.addrReadsSpec) false w args)
      (Rows.addrReadsSpec.post enc Tryd.prog Tryd.f4 false true false false) := by
  refine returnsInHanded_of_change_and (C := Tryd.checked) (X := fun w _ => laidMetH Tryd.prog laid3 w) (fun _ _ _ hh h => h.of_heap hh) row_own started (by kernel_rfl) Tryd.func4
    (ChangeSpec.witness_shaped (enc := enc) (C := Tryd.checked) (os := os) (X := fun w _ => laidMetH Tryd.prog laid3 w) false (World.doorLaid Tryd.prog 4000 os) #[.string ⟨#[]⟩, .agg #[.int .i64 0, .int .i64 0, .bool false, .bool false], .int .i64 0, .int .i64 0] 8 rfl (World.shaped_of_RefB (by kernel_rfl) (by kernel_rfl)) (by kernel_rfl) (by kernel_rfl) (by kernel_rfl) (door_met os _)) ?_
  intro W base args ds gs before hval0 hW _ _ hL _
  have hval : ∀ (j : Nat) t v, Tryd.f4.params[j]? = some t → args[j]? = some v → Value.okWide Tryd.prog W .any base t v := hval0
  have hW' := hW
  obtain ⟨p, q, hA0, hV, rfl, hfz, hnd⟩ := hW
  have hA : DataW.TrodAll enc Tryd.prog W 0 (fun _ => true) true Tryd.f4.params.toList args.toList ds p := hA0
  obtain ⟨rfl, rfl⟩ := trodVars_none hV
  clear hA0 hval0
  simp only [List.append_nil] at hW'
  have hlt : ∀ x ∈ p, x.block < W.heap.size := fun x hx => by simpa using hW'.lt x hx
  obtain ⟨avs, hr, hok⟩ := open_args (P := Tryd.prog) (τs := [.str, .pair (.int .i64) (.pair (.int .i64) (.pair .bool (.pair .bool .unit))), .int .i64, .int .i64]) (by kernel_rfl) hA fun j t v hj hj' => hval j t v (by simpa using hj) (by simpa using hj')
  have hlen : ds.length = 4 := (trod_len hA).trans (by kernel_rfl)
  obtain ⟨d0, d1, d2, d3, rfl⟩ : ∃ d0 d1 d2 d3, ds = [d0, d1, d2, d3] := by
    match ds, hlen with
    | [d0, d1, d2, d3], _ => exact ⟨d0, d1, d2, d3, rfl⟩
  obtain ⟨args⟩ := args
  obtain ⟨_, _, rfl, ⟨l, rfl, _⟩, _, _, rfl, ⟨_, _, rfl, ⟨r0, rfl, _⟩, _, _, rfl, ⟨c0, rfl, _⟩, _, _, rfl, ⟨ar0, rfl⟩, _, _, rfl, ⟨ac0, rfl⟩, rfl⟩, _, _, rfl, ⟨n1, rfl, _⟩, _, _, rfl, ⟨n2, rfl, _⟩, rfl⟩ := hok
  have hr' : Reps tabSt W [.str l, refAV ⟨r0, c0, ar0, ac0⟩, .int .i64 n1, .int .i64 n2] args := by
    cases hr with
    | cons h1 hr =>
    cases hr with
    | cons h2 hr =>
    cases hr with
    | cons h3 hr =>
    cases hr with
    | cons h4 hr =>
    cases hr
    cases h1
    cases h3
    cases h4
    exact .cons (.str _) (.cons (ref_rep h2) (.cons (.int _ _) (.cons (.int _ _) .nil)))
  refine (calls_tab (AddrReads_any tab_tab _ _ _ _) (tab_sim (pow_of hL)) hr').mono fun e W' ⟨he, hw⟩ => ?_
  subst he
  refine ⟨_, rfl, _, _, _, [], p, [], hW', ?_, ?_, rfl, hw.below.frame _, fun h => by cases h⟩
  · exact trodAll_mk1 (shut_bool (show Tryd.prog.underlying 4 = _ by kernel_rfl) _)
  · exact below_all row_laid (by kernel_rfl) hA hw.below hlt

theorem AddrReads_row : Rows.AddrReadsSaid :=
  OpenClaim.holds_of_wide 4 Tryd.f4 rfl rfl rfl rfl rfl rfl rfl ⟨rfl, rfl, rfl, rfl, rfl⟩ rfl rfl rfl rfl rfl (by kernel_rfl) Tryd.func4 (by kernel_rfl)
    (of_decide_eq_true (by kernel_rfl)) (by unfold Func.isWrapper; first | (rw [if_pos (by decide +kernel)]; kernel_rfl) | (rw [if_neg (by decide +kernel)]; exact ⟨rfl, rfl⟩))
    (fun os started H enc _ => AddrReads_lifted os started H enc)
/-- The tied card. -/
theorem AddrReads_holds : Rows.AddrReadsCardSaid :=
  Claim7.holds_tied_plain_at .later [] [.data, .data, .data] true (true, "96eaa18200a33649b1ceb4ccf20f1cbefa865ed854441f363875fa4956c29e71") false
    AddrReads_row (fun _ h => by cases h) (by kernel_rfl) (fun _ h => by cases h) addrReads_row_tie rfl ⟨rfl, rfl⟩ (by kernel_rfl) rfl
    (fun f fn hf hfn => by
      obtain rfl : f = 4 := (Option.some.inj ((show Tryd.prog.funcNamed "tabular/tabularlaw10.AddrReads" = some 4 by kernel_rfl).symm.trans hf)).symm
      obtain rfl : fn = Tryd.f4 := (Option.some.inj (Tryd.func4.symm.trans hfn)).symm
      exact ⟨by kernel_rfl, fun j t ht => by
        have hm : t ∈ Tryd.f4.params.toList := by simpa using Array.mem_of_getElem? ht
        have hall : (Tryd.f4.params.toList.all fun u => !Tryd.prog.wantsStandIn u) = true := by kernel_rfl
        exact (show Tryd.prog.wantsStandIn t = false by simpa using List.all_eq_true.1 hall t hm)⟩)
    (by kernel_rfl)
#print axioms AddrReads_holds
end Go.Proofs.YtfjnahkcfdcbeaaDoor
