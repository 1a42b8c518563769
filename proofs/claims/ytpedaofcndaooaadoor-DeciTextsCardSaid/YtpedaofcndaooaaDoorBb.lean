/- Operations that write or make memory, and calls, do what is said. -/
import Derived.Test.YtpedaofcndaooaaDoorBa
import Derived.Laws.MakeOwn
namespace Go.A
set_option linter.unusedSimpArgs false
set_option linter.unusedVariables false
section
variable {P : Program} {σ : ASt} {w : World}

theorem leaves_one : ∀ {xs : List AV} {vs : List Value}, Reps σ w xs vs → leaves xs = true → ∀ v ∈ vs, v.oneCell' = true
  | _, _, .nil, _, v, hv => by cases hv
  | _, _, .cons h1 h2, hl, v, hv => by
    simp only [leaves, Bool.and_eq_true] at hl
    rcases List.mem_cons.1 hv with rfl | hv
    · cases h1 <;> first | rfl | (simp [AV.leaf] at hl)
    · exact leaves_one h2 hl.2 v hv

theorem leaf_not_any {x : AV} (h : leaves x.cells = true) : x ≠ .any := by
  rintro rfl
  simp [AV.cells, leaves, AV.leaf] at h

/-- What an effect asks of the rest. -/
def Goes (P : Program) (o : Oper) (act : Act) (σ : ASt) (w : World) (K : AV → ASt → Prop) (next : Act → World → Prop) (Q : Exit → Act → World → Prop) : Prop :=
  (∀ v σ' u w', K v σ' → Le σ w σ' w' → Sim σ' w' → Rep σ' w' v u → next (act.put o.dst u) w') → o.wp P act w next Q

theorem splice_rep {cs : List AV} {us : List Value} (h : Reps σ w cs us) {xs : List AV} {vs : List Value} (hx : Reps σ w xs vs) (o : Nat) : Reps σ w (splice cs o xs.length xs) (us.take o ++ vs ++ us.drop (o + vs.length)) := by
  unfold splice
  rw [hx.length]
  exact ((h.take o).append hx).append (h.drop _)

theorem splice_take {cs : List AV} {cc : List Value} {xs : List AV} {vs : List Value} {off : Nat} (h : Reps σ w cs (cc.take cs.length)) (hx : Reps σ w xs vs) (hfit : off + xs.length ≤ cs.length) :
    Reps σ w (splice cs off xs.length xs) ((cc.take off ++ vs ++ cc.drop (off + vs.length)).take (splice cs off xs.length xs).length) := by
  have hcl : cs.length ≤ cc.length := by have := h.length; simp at this; omega
  have hsz : vs.length = xs.length := hx.length.symm
  have hlen : (splice cs off xs.length xs).length = cs.length := by simp [splice]; omega
  rw [hlen]
  have e : (cc.take off ++ vs ++ cc.drop (off + vs.length)).take cs.length = (cc.take cs.length).take off ++ vs ++ (cc.take cs.length).drop (off + vs.length) := by
    apply List.ext_getElem?
    intro j
    simp only [List.getElem?_take, List.getElem?_append, List.length_take, List.length_append, List.getElem?_drop, hsz]
    split <;> split <;> (try split) <;> (try split) <;> (try split) <;> (try split) <;> (try omega) <;> (try rfl) <;> (first | (congr 1; omega) | (simp; omega) | skip)
  rw [e]
  exact splice_rep h hx off
theorem goes_store {T : TypeId} {p x : Operand} {n : Nat} {o : Oper} {act : Act} {next : Act → World → Prop} {Q : Exit → Act → World → Prop} {K : AV → ASt → Prop} (ho : o.op = .store T p x) (hn : sizeT P T = some n) (hs : Sim σ w)
    {b off : Nat} (hp : act.eval p = .pointer (some ⟨b, off, none⟩)) {y : AV} (hy : Rep σ w y (act.eval x)) {cs : List AV} (hb : σ b = some (.obj cs)) (hl : leaves y.cells = true) (hyl : y.cells.length = n) (hfit : off + n ≤ cs.length)
    (hK : K .any (σ.set b (some (.obj (splice cs off n y.cells))))) : Goes P o act σ w K next Q := by
  intro hnext
  obtain ⟨i, hi, his⟩ := sizeT_spec hn
  obtain ⟨⟨c⟩, T', fr, h1, h2, h3⟩ := hs b _ hb
  have hyc := hy.cells (leaf_not_any hl)
  have hsz : (act.eval x).cells.toList.length = n := by rw [← hyc.length, hyl]
  have hcl : cs.length ≤ c.length := by have := h2.length; simp at this; omega
  have hst := run_storeCells_cells (P := P) b off (act.eval x).cells.toList 0 w (fun j hj => by
      simp only [World.cell?, h1, Nat.add_zero, Option.isSome_none, Bool.false_eq_true, if_false]
      rw [Array.getElem?_eq_getElem (by simp; omega)]
      rfl) (fun j hj => h3 _ (by simp; omega)) (leaves_one hyc hl)
  have hwr := Wrote.setCells (act.eval x).cells.toList off w c h1 (by omega)
  have hle := hwr.le_obj hb (some (.obj (splice cs off n y.cells)))
  have hrun : (execOp act.eval o).run P w = .ok .skip (w.setCells b off (act.eval x).cells.toList) := by
    simp only [execOp, ho, Sem.run_bind]
    unfold Instr.storeAt
    rw [hp, Sem.run_bind, run_sureAddr]
    simp only [Result.andThen]
    unfold storeVar
    rw [Sem.run_bind, run_so hi]
    simp only [Result.andThen]
    rw [if_neg (by simp; rw [← Array.length_toList, hsz, his])]
    rw [hst]
    rfl
  have h2' := h2.mono hle
  have hsim := hwr.sim hs hle ⟨_, _, _, hwr.new, by
    have := splice_rep h2' (hyc.mono hle) off
    rw [hyl] at this
    have hlen : (splice cs off n y.cells).length = cs.length := by simp [splice, hyl]; omega
    rw [hlen]
    have e : (c.take off ++ (act.eval x).cells.toList ++ c.drop (off + (act.eval x).cells.toList.length)).take cs.length = (c.take cs.length).take off ++ (act.eval x).cells.toList ++ (c.take cs.length).drop (off + (act.eval x).cells.toList.length) := by
      apply List.ext_getElem?
      intro j
      simp only [List.getElem?_take, List.getElem?_append, List.length_take, List.length_append, List.getElem?_drop, hsz]
      split <;> split <;> (try split) <;> (try split) <;> (try split) <;> (try split) <;> (try omega) <;> (try rfl) <;> (first | (congr 1; omega) | (simp; omega) | skip)
    show Reps _ _ _ ((c.take off ++ (act.eval x).cells.toList ++ c.drop (off + (act.eval x).cells.toList.length)).take cs.length)
    rw [e]
    exact this, fun j hj => by rw [hwr.frozen]; exact h3 j (by have := hwr.len; omega)⟩
  unfold Oper.wp
  rw [hrun]
  exact hnext _ _ _ _ hK hle hsim (.any _)

theorem new_role {w' : World} {ob : Obj} (hp : Pushed w w' ob) (hs : Sim σ w) {r : Role} (hr : ∀ {σ' : ASt}, Le σ w σ' w' → RoleOk σ' w' w.heap.size r) :
    Le σ w (σ.set w.heap.size (some r)) w' ∧ Sim (σ.set w.heap.size (some r)) w' ∧ σ w.heap.size = none := by
  have hle : Le σ w (σ.set w.heap.size (some r)) w' := hp.le fun b hb => by rw [ASt.set_ne (by omega)]
  refine ⟨hle, fun x q hx => ?_, hs.fresh (Nat.le_refl _)⟩
  by_cases hne : x = w.heap.size
  · subst hne
    rw [ASt.set_same] at hx
    injection hx with hx
    subst hx
    exact hr hle
  · rw [ASt.set_ne hne] at hx
    exact (hs x q hx).keep hle (hp.old (hs.lt hx))
theorem new_obj {o : Obj} {w' : World} {c : List Value} {T : TypeId} (hp : Pushed w w' (.cells ⟨c⟩ T)) (hs : Sim σ w) {cs : List AV} (hr : Reps σ w cs c) :
    Le σ w (σ.set w.heap.size (some (.obj cs))) w' ∧ Sim (σ.set w.heap.size (some (.obj cs))) w' ∧ σ w.heap.size = none :=
  new_role hp hs fun hle => ⟨⟨c⟩, T, (0, 0), hp.new, by
    rw [hr.length, List.take_length]; exact hr.mono hle, fun o _ => by
    simp only [World.frozen?, hp.new]
    simp⟩

theorem new_typ {w' : World} {c : List Value} {T : TypeId} (hp : Pushed w w' (.cells ⟨c⟩ T)) (hs : Sim σ w) :
    Le σ w (σ.set w.heap.size (some (.typ T c))) w' ∧ Sim (σ.set w.heap.size (some (.typ T c))) w' ∧ σ w.heap.size = none :=
  new_role hp hs fun hle => hp.new

theorem goes_s2b {T D e : TypeId} {x : Operand} {o : Oper} {act : Act} {next : Act → World → Prop} {Q : Exit → Act → World → Prop} {K : AV → ASt → Prop} (ho : o.op = .convert T D x) (hT : P.underlying T = some .string) (hD : P.underlying D = some (.slice e))
    (he : P.underlying e = some (.int .u8)) (hs : Sim σ w) {l : List UInt8} (hx : act.eval x = .string ⟨⟨l⟩⟩)
    (hK : K (.sl .shr (l.map fun c => .int .u8 c.toNat)) σ ∨ ∀ b c, σ b = none → l.length ≤ c → K (.msl b 0 l.length c) (σ.set b (some (.obj (l.map fun c => .int .u8 c.toNat))))) : Goes P o act σ w K next Q := by
  intro hnext
  rcases hK with hK | hK
  · obtain ⟨u, w', h1, h2, h3, h4⟩ := ok_s2b (P := P) hT hD he l hs
    have hrun : (execOp act.eval o).run P w = .ok (.value u) w' := by
      simp only [execOp, ho, hx]
      exact run_value h1
    unfold Oper.wp
    rw [hrun]
    exact hnext _ _ _ _ hK h2 h3 h4
  · have h := run_bytes_of_string (P := P) w T D e ⟨⟨l⟩⟩ hT hD he
    have hp := Pushed.drew w (.cells (bytesRow ⟨⟨l⟩⟩ (grownCap w l.length 0 e)) e ((bytesRow ⟨⟨l⟩⟩ (grownCap w l.length 0 e)).size, (bytesRow ⟨⟨l⟩⟩ (grownCap w l.length 0 e)).size + 1))
    obtain ⟨h1, h2, h3⟩ := new_role hp hs (r := .obj (l.map fun c => .int .u8 c.toNat)) fun hle => ⟨_, _, _, hp.new, by
      have : ((bytesRow ⟨⟨l⟩⟩ (grownCap w l.length 0 e)).toList.take (l.map fun c => AV.int .u8 c.toNat).length) = l.map fun c => Value.int .u8 c.toNat := by
        unfold bytesRow
        simp
      rw [this]
      exact Reps.bytes l, fun o ho => by
      simp only [World.frozen?, hp.new]
      simp
      omega⟩
    have hrun : (execOp act.eval o).run P w = .ok (.value (.slice (some ⟨w.heap.size, 0, none⟩) l.length (grownCap w l.length 0 e))) (w.drew.alloc (.cells (bytesRow ⟨⟨l⟩⟩ (grownCap w l.length 0 e)) e ((bytesRow ⟨⟨l⟩⟩ (grownCap w l.length 0 e)).size, (bytesRow ⟨⟨l⟩⟩ (grownCap w l.length 0 e)).size + 1))) := by
      simp only [execOp, ho, hx]
      exact run_value h
    unfold Oper.wp
    rw [hrun]
    exact hnext _ _ _ _ (hK _ _ h3 (grownCap_ge _ _ _ _)) h1 h2 (.msl _ _ _ _)

theorem goes_mks {T e : TypeId} {n m : Operand} {i : TypeInfo} {z : AV} {o : Oper} {act : Act} {next : Act → World → Prop} {Q : Exit → Act → World → Prop} {K : AV → ASt → Prop} (ho : o.op = .makeSlice T n m) (hT : P.underlying T = some (.slice e)) (hi : P.info? e = some i)
    (hz : zeroT P e = some z) (h1 : i.size = 1) (hzl : z.cells.length = 1) (hza : z.isAny = false) (hs : Sim σ w) {k k' : IntKind} {N M : Int} (hn : act.eval n = .int k N) (hm : act.eval m = .int k' M)
    (h0 : 0 ≤ N) (hNM : N ≤ M) (hM : M ≤ 4611686018427387904) (hb : (i.bytes : Int) * M ≤ 281474976710656)
    (hK : (∀ b, σ b = none → K (.msl b 0 N.toNat M.toNat) (σ.set b (some (.obj (List.replicate M.toNat (z.cells.headD .any)))))) ∨ (N = 0 ∧ ∀ b, σ b = none → K (.sl (.tok b 1 e) []) (σ.set b (some (.tok 0))))) : Goes P o act σ w K next Q := by
  intro hnext
  obtain ⟨i', v, hi', hv, hof⟩ := zeroT_spec hz
  rw [hi] at hi'
  injection hi' with hi'
  subst hi'
  have hzr := ofVal_rep (σ := σ) (w := w) hof
  have hyc := hzr.cells (by rintro rfl; cases hza)
  obtain ⟨x, hx⟩ : ∃ x, z.cells = [x] := by
    match hzc : z.cells, hzl with
    | [x], _ => exact ⟨x, rfl⟩
  rw [hx] at hyc
  obtain ⟨u, hu, hxr⟩ : ∃ u, v.cells.toList = [u] ∧ Rep σ w x u := by
    generalize v.cells.toList = cs at hyc
    cases hyc with
    | cons h3 h4 => cases h4; exact ⟨_, rfl, h3⟩
  have hvc : v.cells = #[u] := by apply Array.ext'; simpa using hu
  have hrun := run_make (P := P) w T e i v hT hi hv k k' N M h0 hNM hb (by omega)
  have hmade : (madeCells v.cells (M.toNat * i.size)).toList = List.replicate M.toNat u := by
    rw [h1, Nat.mul_one, hvc]
    unfold madeCells
    apply List.ext_getElem?
    intro j
    by_cases hj : j < M.toNat
    · simp [hj, Nat.mod_one]
    · simp [hj]
  have hp : Pushed w (w.alloc (.cells (madeCells v.cells (M.toNat * i.size)) e)) _ := Pushed.alloc w _
  have hrun' : (execOp act.eval o).run P w = .ok (.value (.slice (some ⟨w.heap.size, 0, none⟩) N.toNat M.toNat)) (w.alloc (.cells (madeCells v.cells (M.toNat * i.size)) e)) := by
    simp only [execOp, ho, hn, hm]
    exact run_value hrun
  have hmsz : (madeCells v.cells (M.toNat * i.size)).size = M.toNat := by rw [← Array.length_toList, hmade]; simp
  rcases hK with hK | ⟨rfl, hK⟩
  · obtain ⟨h2, h3, h4⟩ := new_role hp hs (r := .obj (List.replicate M.toNat (z.cells.headD .any))) fun hle => ⟨_, _, _, hp.new, by
      rw [hmade, hx]
      simp only [List.length_replicate, List.take_replicate, Nat.min_self, List.headD_cons]
      have : ∀ n, Reps σ w (List.replicate n x) (List.replicate n u) := by
        intro n
        induction n with
        | zero => exact .nil
        | succ n ih => exact .cons hxr ih
      exact (this _).mono hle, fun o _ => by
      simp only [World.frozen?, hp.new]
      simp⟩
    unfold Oper.wp
    rw [hrun']
    exact hnext _ _ _ _ (hK _ h4) h2 h3 (.msl _ _ _ _)
  · obtain ⟨h2, h3, h4⟩ := new_role hp hs (r := .tok 0) fun hle => ⟨_, _, _, hp.new, Nat.zero_le _, Nat.le_refl _⟩
    unfold Oper.wp
    rw [hrun']
    refine hnext _ _ _ _ (hK _ h4) h2 h3 (.sl (sz := 1) (.nil _ _ _) rfl (Nat.zero_le _) ⟨rfl, rfl, rfl, ?_, fun cs hcs => ?_, fun l p hcs => ?_, fun T2 cs2 hcs2 => by rw [ASt.set_same] at hcs2; cases hcs2⟩ (by rw [hp.size]; omega))
    · simp only [World.shape?, hp.new, Option.map_some, hmsz, Nat.mul_one]
    · rw [ASt.set_same] at hcs; cases hcs
    · rw [ASt.set_same] at hcs; cases hcs

theorem goes_rng {T : TypeId} {x : Operand} {o : Oper} {act : Act} {next : Act → World → Prop} {Q : Exit → Act → World → Prop} {K : AV → ASt → Prop} (ho : o.op = .range T x) (hT : P.underlying T = some .string) (hs : Sim σ w) {l : List UInt8} (hx : act.eval x = .string ⟨⟨l⟩⟩)
    (hK : ∀ b, σ b = none → K (.ptr b 0) (σ.set b (some (.iter l 0)))) : Goes P o act σ w K next Q := by
  intro hnext
  have hp : Pushed w (w.alloc (.stringIter ⟨⟨l⟩⟩ 0)) _ := Pushed.alloc w _
  obtain ⟨h1, h2, h3⟩ := new_role hp hs (r := .iter l 0) fun hle => hp.new
  have hrun : (execOp act.eval o).run P w = .ok (.value (.pointer (some ⟨w.heap.size, 0, none⟩))) (w.alloc (.stringIter ⟨⟨l⟩⟩ 0)) := by
    simp only [execOp, ho, hx]
    refine run_value ?_
    unfold Instr.range
    rw [Sem.run_bind, run_und hT]
    simp [Result.andThen]
  unfold Oper.wp
  rw [hrun]
  exact hnext _ _ _ _ (hK _ h3) h1 h2 (.ptr _ _)

theorem goes_nxt {x : Operand} {o : Oper} {act : Act} {next : Act → World → Prop} {Q : Exit → Act → World → Prop} {K : AV → ASt → Prop} (ho : o.op = .next x true) (hs : Sim σ w) {b : Nat} (hx : act.eval x = .pointer (some ⟨b, 0, none⟩)) {l : List UInt8} {p : Nat} (hb : σ b = some (.iter l p))
    (hK : if p < l.length then K (.tuple [.bool true, .int .i64 p, .int .i32 (Utf8.decode ⟨⟨l⟩⟩ p).1]) (σ.set b (some (.iter l (p + (Utf8.decode ⟨⟨l⟩⟩ p).2)))) else K (.tuple [.bool false]) σ) : Goes P o act σ w K next Q := by
  intro hnext
  have hr : w.heap[b]? = some (.stringIter ⟨⟨l⟩⟩ p) := hs b _ hb
  by_cases hp : p < l.length
  · rw [if_pos hp] at hK
    have hrun : (execOp act.eval o).run P w = .ok (.value (.tuple #[.bool true, goInt p, .int .i32 (Utf8.decode ⟨⟨l⟩⟩ p).1])) { w with heap := w.heap.setIfInBounds b (.stringIter ⟨⟨l⟩⟩ (p + (Utf8.decode ⟨⟨l⟩⟩ p).2)) } := by
      simp only [execOp, ho, hx]
      refine run_value ?_
      have : p < (⟨⟨l⟩⟩ : ByteArray).size := by simpa [ByteArray.size] using hp
      simp [Instr.next, getObj, setObj, Sem.run_bind, Sem.run, hr, Result.andThen, this, pure]
    have hlt := (Array.getElem?_eq_some_iff.1 hr).1
    have hle : Le σ w (σ.set b (some (.iter l (p + (Utf8.decode ⟨⟨l⟩⟩ p).2)))) { w with heap := w.heap.setIfInBounds b (.stringIter ⟨⟨l⟩⟩ (p + (Utf8.decode ⟨⟨l⟩⟩ p).2)) } := by
      have hoth : ∀ x, x ≠ b → (w.heap.setIfInBounds b (.stringIter ⟨⟨l⟩⟩ (p + (Utf8.decode ⟨⟨l⟩⟩ p).2)))[x]? = w.heap[x]? := fun x hx => by
        rw [Array.getElem?_setIfInBounds_ne (Ne.symm hx)]
      refine ⟨rfl, rfl, rfl, by simp, fun x hx hn => ?_, fun x cs hx hn => ?_, fun x f hx hn => ?_⟩
      · have hne : x ≠ b := by rintro rfl; rw [hb] at hn; cases hn
        rw [ASt.set_ne hne]; exact ⟨hn, hoth x hne⟩
      · have hne : x ≠ b := by rintro rfl; rw [hb] at hn; cases hn
        rw [ASt.set_ne hne]; exact ⟨.inr hn, hoth x hne⟩
      · have hne : x ≠ b := by rintro rfl; rw [hb] at hn; cases hn
        rw [ASt.set_ne hne]
        exact ⟨.inr ⟨f, Nat.le_refl _, hn⟩, shape_of_heap_eq (hoth x hne), fun o _ => cell_of_heap_eq (hoth x hne) o⟩
    have hsim : Sim (σ.set b (some (.iter l (p + (Utf8.decode ⟨⟨l⟩⟩ p).2)))) { w with heap := w.heap.setIfInBounds b (.stringIter ⟨⟨l⟩⟩ (p + (Utf8.decode ⟨⟨l⟩⟩ p).2)) } := by
      intro x q hx
      by_cases hne : x = b
      · subst hne
        rw [ASt.set_same] at hx
        injection hx with hx
        subst hx
        simp [RoleOk, hlt]
      · rw [ASt.set_ne hne] at hx
        exact (hs x q hx).keep hle (by simp [Array.getElem?_setIfInBounds_ne (Ne.symm hne)])
    unfold Oper.wp
    rw [hrun]
    exact hnext _ _ _ _ hK hle hsim (.tuple (.cons (.bool _) (.cons (.int _ _) (.cons (.int _ _) .nil))))
  · rw [if_neg hp] at hK
    have hrun : (execOp act.eval o).run P w = .ok (.value (.tuple #[.bool false])) w := by
      simp only [execOp, ho, hx]
      refine run_value ?_
      have : ¬ p < (⟨⟨l⟩⟩ : ByteArray).size := by simpa [ByteArray.size] using hp
      simp [Instr.next, getObj, Sem.run_bind, Sem.run, hr, Result.andThen, this, pure]
    unfold Oper.wp
    rw [hrun]
    exact hnext _ _ _ _ hK (Le.refl _ _) hs (.tuple (.cons (.bool _) .nil))

theorem goes_box {T : TypeId} {x : Operand} {o : Oper} {act : Act} {next : Act → World → Prop} {Q : Exit → Act → World → Prop} {K : AV → ASt → Prop} (ho : o.op = .box T x) (hs : Sim σ w) {y : AV} (hy : Rep σ w y (act.eval x)) (ha : y.isAny = false)
    (hK : ∀ b, σ b = none → K (.ptr b 0) (σ.set b (some (.obj y.cells)))) : Goes P o act σ w K next Q := by
  intro hnext
  have hyc := hy.cells (by rintro rfl; cases ha)
  have hp : Pushed w (w.alloc (.cells (act.eval x).cells T)) (.cells ⟨(act.eval x).cells.toList⟩ T) := Pushed.alloc w _
  obtain ⟨h1, h2, h3⟩ := new_obj (o := .cells #[] T) hp hs hyc
  have hrun : (execOp act.eval o).run P w = .ok (.value (.pointer (some ⟨w.heap.size, 0, none⟩))) (w.alloc (.cells (act.eval x).cells T)) := by
    simp only [execOp, ho]
    exact run_value (by simp [Instr.box, newVar, newRow])
  unfold Oper.wp
  rw [hrun]
  exact hnext _ _ _ _ (hK _ h3) h1 h2 (.ptr _ _)

theorem goes_alloc {T : TypeId} {z : AV} {o : Oper} {act : Act} {next : Act → World → Prop} {Q : Exit → Act → World → Prop} {K : AV → ASt → Prop} (ho : o.op = .alloc T) (hs : Sim σ w) (hz : zeroT P T = some z)
    (hK : ∀ b, σ b = none → K (.ptr b 0) (σ.set b (some (.obj z.cells)))) : Goes P o act σ w K next Q := by
  intro hnext
  obtain ⟨i, v, hi, hv, hof⟩ := zeroT_spec hz
  have hzr := ofVal_rep (σ := σ) (w := w) hof
  have hyc := hzr.cells (by
    rintro rfl
    unfold ofVal at hof
    split at hof
    · rename_i cs
      cases h : ofLeaves cs.toList <;> simp [h] at hof
    · unfold ofLeaf at hof
      split at hof <;> cases hof)
  have hp : Pushed w (w.alloc (.cells v.cells T)) (.cells ⟨v.cells.toList⟩ T) := Pushed.alloc w _
  obtain ⟨h1, h2, h3⟩ := new_obj (o := .cells #[] T) hp hs hyc
  have hrun : (execOp act.eval o).run P w = .ok (.value (.pointer (some ⟨w.heap.size, 0, none⟩))) (w.alloc (.cells v.cells T)) := by
    simp only [execOp, ho]
    exact run_value (by unfold Instr.alloc; rw [Sem.run_bind, run_zv hi hv]; simp [newVar, newRow])
  unfold Oper.wp
  rw [hrun]
  exact hnext _ _ _ _ (hK _ h3) h1 h2 (.ptr _ _)
theorem goes_allocT {T : TypeId} {o : Oper} {act : Act} {next : Act → World → Prop} {Q : Exit → Act → World → Prop} {K : AV → ASt → Prop} (ho : o.op = .alloc T) (hs : Sim σ w) {i : TypeInfo} (hi : P.info? T = some i) (hv : i.zero = some (.agg ⟨[.pointer none, .slice none 0 0]⟩))
    (hK : ∀ b, σ b = none → K (.ptr b 0) (σ.set b (some (.typ T [.pointer none, .slice none 0 0])))) : Goes P o act σ w K next Q := by
  intro hnext
  have hp : Pushed w (w.alloc (.cells ⟨[.pointer none, .slice none 0 0]⟩ T)) (.cells ⟨[.pointer none, .slice none 0 0]⟩ T) := Pushed.alloc w _
  obtain ⟨h1, h2, h3⟩ := new_typ hp hs
  have hrun : (execOp act.eval o).run P w = .ok (.value (.pointer (some ⟨w.heap.size, 0, none⟩))) (w.alloc (.cells ⟨[.pointer none, .slice none 0 0]⟩ T)) := by
    simp only [execOp, ho]
    exact run_value (by unfold Instr.alloc; rw [Sem.run_bind, run_zv hi hv]; simp [newVar, newRow, Value.cells])
  unfold Oper.wp
  rw [hrun]
  exact hnext _ _ _ _ (hK _ h3) h1 h2 (.ptr _ _)
end
end Go.A
