/- The operations that only look do come to what is said: each. -/
import Derived.Test.YtpedaofcndaooaaDoorAt
namespace Go.A
set_option linter.unusedSimpArgs false
set_option linter.unusedVariables false
section
variable {P : Program} {σ : ASt} {w : World}

theorem ok_fa {T : TypeId} {f o : Nat} {ft : TypeId} {n : Nat} (hf : fieldOf P T f = some (o, ft)) (hn : sizeT P ft = some (n + 1)) {b p : Nat} :
    (Instr.fieldAt T (.pointer (some ⟨b, p, none⟩)) f).run P w = .ok (.pointer (some ⟨b, p + o, none⟩)) w := by
  unfold fieldOf at hf
  split at hf
  · rename_i fs h1
    split at hf
    · rename_i fd h2
      injection hf with hf
      injection hf with hf1 hf2
      subst hf1 hf2
      unfold sizeT at hn
      cases hi : P.info? fd.type with
      | none => simp [hi] at hn
      | some i =>
        simp only [hi, Option.map_some, Option.some.injEq] at hn
        unfold Instr.fieldAt
        rw [Sem.run_bind, run_und h1]
        simp only [Result.andThen, h2]
        rw [Sem.run_bind, run_sureAddr]
        simp only [Result.andThen]
        unfold fieldPlace
        rw [Sem.run_bind, Sem.run_bind, run_so hi]
        simp only [Result.andThen, hn]
        rw [if_neg (by omega), addr_add']
        rfl
    · cases hf
  · cases hf

theorem ok_field {T : TypeId} {f o : Nat} {ft : TypeId} {n : Option Nat} (hf : fieldOf P T f = some (o, ft)) (hn : aggOf P ft = some n) {cs : List AV} {vs : List Value} (hr : Reps σ w cs vs) {r : AV} (h : fieldVal o n cs = some r) :
    ∃ u, (Instr.field T (.agg ⟨vs⟩) f).run P w = .ok u w ∧ Rep σ w r u := by
  unfold fieldOf at hf
  split at hf
  · rename_i fs h1
    split at hf
    · rename_i fd h2
      injection hf with hf
      injection hf with hf1 hf2
      subst hf1 hf2
      obtain ⟨u, h3, h4⟩ := run_part hn hr h
      refine ⟨u, ?_, h4⟩
      unfold Instr.field
      rw [Sem.run_bind, run_und h1]
      simp only [Result.andThen, h2]
      rw [Sem.run_bind]
      exact h3
    · cases hf
  · cases hf

theorem ok_ia {T e : TypeId} {s : Nat} (hT : P.underlying T = some (.slice e)) (hs : sizeT P e = some s) {b o n c : Nat} {k : IntKind} {i : Int} (h0 : 0 ≤ i) (h1 : i < n) :
    (Instr.indexAt T (.slice (some ⟨b, o, none⟩) n c) (.int k i)).run P w = .ok (.pointer (some ⟨b, o + i.toNat * s, none⟩)) w := by
  unfold sizeT at hs
  cases hi : P.info? e with
  | none => simp [hi] at hs
  | some ti =>
    simp only [hi, Option.map_some, Option.some.injEq] at hs
    subst hs
    unfold Instr.indexAt
    simp only [asIntOf, Sem.run_bind, Sem.run_pure, Result.andThen, run_und hT]
    rw [if_pos ⟨h0, h1⟩]
    rw [Sem.run_bind, run_so hi]
    simp only [Result.andThen, addr_add']
    rfl

theorem ok_iaa {T e : TypeId} {m s : Nat} (hT : P.underlying T = some (.array m e)) (hs : sizeT P e = some s) {b o : Nat} {k : IntKind} {i : Int} (h0 : 0 ≤ i) (h1 : i < m) :
    (Instr.indexAt T (.pointer (some ⟨b, o, none⟩)) (.int k i)).run P w = .ok (.pointer (some ⟨b, o + i.toNat * s, none⟩)) w := by
  unfold sizeT at hs
  cases hi : P.info? e with
  | none => simp [hi] at hs
  | some ti =>
    simp only [hi, Option.map_some, Option.some.injEq] at hs
    subst hs
    unfold Instr.indexAt
    simp only [asIntOf, Sem.run_bind, Sem.run_pure, Result.andThen, run_und hT, run_sureAddr]
    rw [if_pos ⟨h0, h1⟩]
    rw [Sem.run_bind, run_so hi]
    simp only [Result.andThen, addr_add']
    rfl

theorem ok_idx {T : TypeId} (hT : P.underlying T = some .string) {l : List UInt8} {k : IntKind} {i : Int} {c : UInt8} (h0 : 0 ≤ i) (h1 : l[i.toNat]? = some c) :
    (Instr.index T (.string ⟨⟨l⟩⟩) (.int k i)).run P w = .ok (.int .u8 c.toNat) w := by
  have h2 : (⟨⟨l⟩⟩ : ByteArray)[i.toNat]? = some c := by
    have hlt : i.toNat < l.length := (List.getElem?_eq_some_iff.1 h1).1
    have hlt' : i.toNat < (⟨⟨l⟩⟩ : ByteArray).size := hlt
    have h3 := (List.getElem?_eq_some_iff.1 h1).2
    have h4 : (⟨⟨l⟩⟩ : ByteArray)[i.toNat]? = some ((⟨⟨l⟩⟩ : ByteArray)[i.toNat]'hlt') := getElem?_pos (⟨⟨l⟩⟩ : ByteArray) i.toNat hlt'
    rw [h4]
    exact congrArg some h3
  unfold Instr.index
  simp only [asIntOf, Sem.run_bind, Sem.run_pure, Result.andThen, run_und hT]
  rw [if_pos h0, h2]
  rfl

/-- A new block. -/
structure Pushed (w w' : World) (o : Obj) : Prop where
  os : w'.os = w.os
  tape : w'.tape = w.tape
  output : w'.output = w.output
  heap : w'.heap = w.heap.push o
theorem Pushed.alloc (w : World) (o : Obj) : Pushed w (w.alloc o) o := ⟨rfl, rfl, rfl, rfl⟩
theorem Pushed.drew (w : World) (o : Obj) : Pushed w (w.drew.alloc o) o := ⟨rfl, rfl, rfl, rfl⟩
section
variable {w' : World} {ob : Obj} (hp : Pushed w w' ob)
include hp
theorem Pushed.size : w'.heap.size = w.heap.size + 1 := by rw [hp.heap]; simp
theorem Pushed.old {b : Nat} (hb : b < w.heap.size) : w'.heap[b]? = w.heap[b]? := by rw [hp.heap, Array.getElem?_push, if_neg (by omega)]
theorem Pushed.new : w'.heap[w.heap.size]? = some ob := by rw [hp.heap]; simp
theorem Pushed.le {σ' : ASt} (hσ : ∀ b, b < w.heap.size → σ' b = σ b) : Le σ w σ' w' where
  os := hp.os
  tape := hp.tape
  output := hp.output
  size := by rw [hp.size]; omega
  keep b hb hn := ⟨by rw [hσ b hb]; exact hn, hp.old hb⟩
  fix b cs hb hn := ⟨.inr (by rw [hσ b hb]; exact hn), hp.old hb⟩
  tok b f hb hn := ⟨.inr ⟨f, Nat.le_refl _, by rw [hσ b hb]; exact hn⟩, shape_of_heap_eq (hp.old hb), fun o _ => cell_of_heap_eq (hp.old hb) o⟩
end
theorem frozen_of_heap_eq {w w' : World} {b : Nat} (h : w'.heap[b]? = w.heap[b]?) (o : Nat) : w'.frozen? ⟨b, o, none⟩ = w.frozen? ⟨b, o, none⟩ := by
  simp only [World.frozen?, h]
theorem RoleOk.keep {σ' : ASt} {w' : World} (hl : Le σ w σ' w') {b : Nat} {r : Role} (hh : w'.heap[b]? = w.heap[b]?) (h : RoleOk σ w b r) : RoleOk σ' w' b r := by
  cases r with
  | obj cs =>
    obtain ⟨c, T, fr, h1, h2, h3⟩ := h
    exact ⟨c, T, fr, hh.trans h1, h2.mono hl, fun o ho => (frozen_of_heap_eq hh o).trans (h3 o ho)⟩
  | tok f =>
    obtain ⟨c, T, fr, h1, h2, h3⟩ := h
    exact ⟨c, T, fr, hh.trans h1, h2, h3⟩
  | fix cs =>
    obtain ⟨h0, c, T, fr, h1, h2⟩ := h
    exact ⟨h0.mono hl, c, T, fr, hh.trans h1, h2⟩
  | iter l p => exact hh.trans h
  | typ T vs => exact hh.trans h
theorem Pushed.sim {w' : World} {ob : Obj} (hp : Pushed w w' ob) (hs : Sim σ w) : Sim σ w' := fun b r hb =>
  (hs b r hb).keep (hp.le fun _ _ => rfl) (hp.old (hs.lt hb))
theorem Pushed.atNew {w' : World} {c : Array Value} {T : TypeId} {fr : Nat × Nat} (hp : Pushed w w' (.cells c T fr)) (hs : Sim σ w) {as : List AV} {vs : List Value} (hr : Reps σ w as vs)
    (hc : ∀ (j : Nat) (v : Value), vs[j]? = some v → c[j]? = some v) : At σ w' w.heap.size 0 as := by
  refine At.mk' (hr.mono (hp.le fun _ _ => rfl)) (fun j hj => ⟨by rw [hp.size]; omega, .inl (hs.fresh (Nat.le_refl _))⟩) (fun j v hj => ?_)
  simp only [World.cell?, hp.new, Nat.zero_add]
  simpa using hc j v hj

theorem flat_one : ∀ {xs : List AV}, (∀ x ∈ xs, x.cells = [x]) → xs.flatMap AV.cells = xs
  | [], _ => rfl
  | x :: xs, h => by
    rw [List.flatMap_cons, flat_one fun y hy => h y (by simp [hy]), h x (by simp)]
    rfl
theorem Reps.bytes (l : List UInt8) : Reps σ w (l.map fun c => .int .u8 c.toNat) (l.map fun c => Value.int .u8 c.toNat) := by
  induction l with
  | nil => exact .nil
  | cons c l ih => exact .cons (.int _ _) ih

theorem ok_s2b {T D e : TypeId} (hT : P.underlying T = some .string) (hD : P.underlying D = some (.slice e)) (he : P.underlying e = some (.int .u8)) (l : List UInt8) (hs : Sim σ w) :
    ∃ u w', (convert T D (.string ⟨⟨l⟩⟩)).run P w = .ok u w' ∧ Le σ w σ w' ∧ Sim σ w' ∧ Rep σ w' (.sl .shr (l.map fun c => .int .u8 c.toNat)) u := by
  have h := run_bytes_of_string (P := P) w T D e ⟨⟨l⟩⟩ hT hD he
  refine ⟨_, _, h, (Pushed.drew w _).le fun _ _ => rfl, (Pushed.drew w _).sim hs, ?_⟩
  have hA := (Pushed.drew w (.cells (bytesRow ⟨⟨l⟩⟩ (grownCap w l.length 0 e)) e ((bytesRow ⟨⟨l⟩⟩ (grownCap w l.length 0 e)).size, (bytesRow ⟨⟨l⟩⟩ (grownCap w l.length 0 e)).size + 1))).atNew hs (Reps.bytes l) (fun j v hj => by
    unfold bytesRow
    rw [Array.getElem?_append_left (by simpa using (List.getElem?_eq_some_iff.1 hj).1)]
    simpa using hj)
  refine .sl (sz := 1) (Row.unflat (by simp [AV.cells]) ?_) (by simp [ByteArray.size]) (grownCap_ge _ _ _ _) trivial (by simp)
  rw [flat_one (by simp [AV.cells])]
  exact hA

theorem bytesOf_spec : ∀ {xs : List AV} {l : List UInt8}, bytesOf xs = some l → ∃ ns : List Int, xs = ns.map (AV.int .u8) ∧ l = ns.map fun n => UInt8.ofNat n.toNat
  | [], l, h => ⟨[], rfl, by injection h with h; exact h.symm⟩
  | x :: xs, l, h => by
    unfold bytesOf at h
    split at h
    · injection h with h; subst h; rename_i h0; cases h0
    · rename_i n xs' he
      injection he with he1 he2
      subst he1 he2
      split at h
      · rename_i l' hl
        injection h with h; subst h
        obtain ⟨ns, h1, h2⟩ := bytesOf_spec hl
        exact ⟨n :: ns, by simp [h1], by simp [h2]⟩
      · cases h
    · cases h
theorem foldl_push : ∀ (ns : List Int) (s : ByteArray), ns.foldl (fun r n => r.push (UInt8.ofNat n.toNat)) s = ⟨⟨s.data.toList ++ ns.map fun n => UInt8.ofNat n.toNat⟩⟩
  | [], s => by simp
  | n :: ns, s => by
    rw [List.foldl_cons, foldl_push ns]
    simp [ByteArray.push]
theorem Reps.ints {k : IntKind} : ∀ {ns : List Int} {vs : List Value}, Reps σ w (ns.map (AV.int k)) vs → vs = ns.map (Value.int k)
  | [], _, .nil => rfl
  | _ :: _, _, .cons h1 h2 => by
    cases h1
    simp [h2.ints]
theorem flat_ints (k : IntKind) (ns : List Int) : (ns.map (AV.int k)).flatMap AV.cells = ns.map (AV.int k) := by
  exact flat_one (by simp [AV.cells])

theorem ok_b2s {T D e : TypeId} (hT : P.underlying T = some (.slice e)) (he : P.underlying e = some (.int .u8)) (hD : P.underlying D = some .string) {k : SK} {xs : List AV} {l : List UInt8} {v : Value}
    (hr : Rep σ w (.sl k xs) v) (h : bytesOf xs = some l) : (convert T D v).run P w = .ok (.string ⟨⟨l⟩⟩) w := by
  obtain ⟨ns, rfl, rfl⟩ := bytesOf_spec h
  have key : ∀ (A : Addr) (n c : Nat), (loadCells A n).run P w = .ok (ns.map (Value.int .u8)).toArray w → (convert T D (.slice (some A) n c)).run P w = .ok (.string ⟨⟨ns.map fun n => UInt8.ofNat n.toNat⟩⟩) w := by
    intro A n c hl
    rw [run_convert_bytes_string w T D e (some A) n c hT he hD, run_bytesToString w A n c ns hl, foldl_push]
    rfl
  generalize hxs : ns.map (AV.int .u8) = xs at hr
  cases hr with
  | slE A c =>
    have : ns = [] := by simpa using hxs
    subst this
    cases A with
    | none => rw [run_convert_bytes_string w T D e none 0 c hT he hD]; rfl
    | some A => exact key A 0 c rfl
  | slN =>
    have : ns = [] := by simpa using hxs
    subst this
    rw [run_convert_bytes_string w T D e none 0 0 hT he hD]; rfl
  | sl h1 h2 h3 h4 h5 =>
    subst hxs h2
    refine key _ _ _ ?_
    have hA := h1.flat.1
    rw [flat_ints] at hA
    obtain ⟨vs, hr, hc⟩ := hA.vals
    have := run_cells (P := P) (n := (ns.map (AV.int .u8)).length) hc (by rw [hr.length]; exact Nat.le_refl _)
    rw [this]
    obtain rfl := hr.ints
    rw [List.take_of_length_le (by simp)]

theorem ok_b2m {T D e : TypeId} (hT : P.underlying T = some (.slice e)) (he : P.underlying e = some (.int .u8)) (hD : P.underlying D = some .string) {b o n c : Nat} {cs : List AV} {l : List UInt8}
    (hs : Sim σ w) (hk : known σ b = some cs) (hl : o + n ≤ cs.length) (h : bytesOf ((cs.drop o).take n) = some l) : (convert T D (.slice (some ⟨b, o, none⟩) n c)).run P w = .ok (.string ⟨⟨l⟩⟩) w := by
  obtain ⟨ns, h1, rfl⟩ := bytesOf_spec h
  obtain ⟨vs, h2, h3⟩ := hs.known hk
  have h4 := (h2.drop o).take n
  rw [h1] at h4
  have h5 := h4.ints
  have hvl : vs.length = cs.length := h2.length.symm
  have := run_cells (P := P) (w := w) (b := b) (o := o) (n := n) (vs := vs.drop o) (fun j v hj => h3 (o + j) v (by simpa using hj)) (by simp; omega)
  rw [h5] at this
  rw [run_convert_bytes_string w T D e (some ⟨b, o, none⟩) n c hT he hD, run_bytesToString w ⟨b, o, none⟩ n c ns this, foldl_push]
  rfl

theorem run_lenS {T ty : TypeId} {l : List UInt8} (hT : P.underlying T = some .string) : (Builtin.len_ #[T] ty #[.string ⟨⟨l⟩⟩]).run P w = .ok (.int .i64 l.length) w := by
  simp [Builtin.len_, run_und hT, goInt]
  rfl
theorem run_lenL {T ty e : TypeId} {A : Option Addr} {n c : Nat} (hT : P.underlying T = some (.slice e)) : (Builtin.len_ #[T] ty #[.slice A n c]).run P w = .ok (.int .i64 n) w := by
  simp [Builtin.len_, run_und hT, goInt]

theorem run_bounds {isS : Bool} {n c : Nat} {lo hi : Option Value} {l h : Int} (hl : (lo = none ∧ l = 0) ∨ ∃ k, lo = some (.int k l)) (hh : (hi = none ∧ h = n) ∨ ∃ k, hi = some (.int k h))
    (h0 : 0 ≤ l) (h1 : l ≤ h) (h2 : h ≤ c) : (Instr.sliceBounds isS n c lo hi none).run P w = .ok (l.toNat, h.toNat, c) w := by
  have eh : (h.toNat : Int) = h := Int.toNat_of_nonneg (by omega)
  rcases hl with ⟨rfl, rfl⟩ | ⟨k, rfl⟩ <;> rcases hh with ⟨rfl, rfl⟩ | ⟨k', rfl⟩
  · simp [Instr.sliceBounds]
  · simp [Instr.sliceBounds, run_sliceBound, *]
  · simp [Instr.sliceBounds, run_sliceBound, *]
  · have : 0 ≤ h := by omega
    simp [Instr.sliceBounds, run_sliceBound, *]

theorem Row.drop' {b o sz s n : Nat} {xs : List AV} (h : Row σ w b o sz xs) (hs : allSz s xs = true) : Row σ w b (o + n * s) sz (xs.drop n) := by
  cases xs with
  | nil => simpa using .nil _ _ _
  | cons x xs =>
    have : x.cells.length = s := by
      simp only [allSz, List.all_cons, Bool.and_eq_true, beq_iff_eq] at hs
      exact hs.1
    have h2 := (h.at (i := 0) rfl).1
    obtain rfl : s = sz := by omega
    exact h.drop n

theorem ok_sl {T : TypeId} {s : Bool × Nat} {x r : AV} {v : Value} {lo hi : Option Value} {l h : Int} (hT : sliceSz P T = some s) (hx : Rep σ w x v)
    (hl : (lo = none ∧ l = 0) ∨ ∃ k, lo = some (.int k l)) (hh : (hi = none ∧ ∃ n, lenV x = some n ∧ h = n) ∨ ∃ k, hi = some (.int k h)) (hr : slV s x l h = some r) :
    ∃ u, (Instr.sliceAt T v lo hi none).run P w = .ok u w ∧ Rep σ w r u := by
  unfold slV at hr
  split at hr
  · cases hr
  · rename_i hb
    have h0 : 0 ≤ l := by omega
    have h1 : l ≤ h := by omega
    obtain ⟨str, s⟩ := s
    have hu0 : str = false → ∃ e ti, P.underlying T = some (.slice e) ∧ P.info? e = some ti ∧ ti.size = s := by
      rintro rfl
      unfold sliceSz at hT
      split at hT
      · simp at hT
      · rename_i e h1
        unfold sizeT at hT
        cases hi' : P.info? e with
        | none => simp [hi'] at hT
        | some ti => exact ⟨e, ti, h1, hi', by simpa [hi'] using hT⟩
      · cases hT
    have hu1 : str = true → P.underlying T = some .string := by
      rintro rfl
      unfold sliceSz at hT
      split at hT
      · assumption
      · rename_i e h1
        unfold sizeT at hT
        cases hi' : P.info? e with
        | none => simp [hi'] at hT
        | some ti => simp [hi'] at hT
      · cases hT
    have empty : ∀ (A : Option Addr) (c : Nat), (∃ k, x = .sl k []) → ∃ u, (Instr.sliceAt T (.slice A 0 c) lo hi none).run P w = Result.ok u w ∧ Rep σ w r u := by
      rintro A c ⟨k, rfl⟩
      cases str
      case true => simp only [reduceCtorEq] at hr
      obtain ⟨e, ti, hu, hi', rfl⟩ := hu0 rfl
      simp only at hr
      split at hr
      · rename_i hle
        have hl0 : l = 0 := by simp at hle; omega
        have hh0 : h = 0 := by simp at hle; omega
        subst hl0 hh0
        simp only [if_true, List.take_nil, Option.some.injEq] at hr
        subst hr
        have hbd := run_bounds (P := P) (w := w) (isS := true) (n := 0) (c := c) hl (h := 0) (by
          rcases hh with ⟨h3, n', h4, h5⟩ | h3
          · exact .inl ⟨h3, rfl⟩
          · exact .inr h3) h0 h1 (Int.natCast_nonneg _)
        refine ⟨_, ?_, .slE (if c = 0 then A else A.map fun a => a.add 0) c⟩
        simp [Instr.sliceAt, run_und hu, Instr.slice, hbd, run_so hi']
      · cases hr
    cases hx <;> cases str <;> simp only [reduceCtorEq] at hr
    case str.true lst =>
      split at hr
      · rename_i hle
        injection hr with hr; subst hr
        have hu := hu1 rfl
        have hbd := run_bounds (P := P) (w := w) (isS := false) (n := lst.length) (c := lst.length) hl (h := h) (by
          rcases hh with ⟨h3, n, h4, h5⟩ | h3
          · simp only [lenV, Option.some.injEq] at h4; exact .inl ⟨h3, by omega⟩
          · exact .inr h3) h0 h1 hle
        refine ⟨.string ⟨⟨(lst.take h.toNat).drop l.toNat⟩⟩, ?_, .str _⟩
        simp only [Instr.sliceAt, Sem.run_bind, run_und hu, Result.andThen, Instr.slice]
        have hsz : (⟨⟨lst⟩⟩ : ByteArray).size = lst.length := rfl
        simp only [hsz, Option.isSome, Bool.false_eq_true, if_false, Sem.run_pure, Sem.run_bind, hbd, Result.andThen]
        congr 2
        apply ByteArray.ext
        apply Array.ext'
        simp [List.drop_take]
      · cases hr
    case slE.false A c => exact empty A c ⟨_, rfl⟩
    case slN.false => exact empty none 0 ⟨_, rfl⟩
    case msl.false b o n c =>
      obtain ⟨e, ti, hu, hi', rfl⟩ := hu0 rfl
      split at hr
      · rename_i hle
        injection hr with hr; subst hr
        have hbd := run_bounds (P := P) (w := w) (isS := true) (n := n) (c := c) hl (h := h) (by
          rcases hh with ⟨h3, n', h4, h5⟩ | h3
          · simp only [lenV, Option.some.injEq] at h4; exact .inl ⟨h3, by omega⟩
          · exact .inr h3) h0 h1 hle
        refine ⟨_, ?_, .msl _ _ _ _⟩
        simp only [Instr.sliceAt, Sem.run_bind, run_und hu, Result.andThen, Instr.slice, hbd, run_so hi', Sem.run_pure]
        congr 2
        by_cases hlc : l = c
        · subst hlc; simp
        · have : ¬ (c = l.toNat) := by omega
          simp [hlc, this, addr_add']
      · cases hr
    case sl.false k xs b o n c sz h5 h6 h7 h8 h9 =>
      obtain ⟨e, ti, hu, hi', rfl⟩ := hu0 rfl
      subst h6
      split at hr
      · rename_i hle
        have hbd := run_bounds (P := P) (w := w) (isS := true) (n := xs.length) (c := c) hl (h := h) (by
          rcases hh with ⟨h3, n', h4, h5⟩ | h3
          · simp only [lenV, Option.some.injEq] at h4; exact .inl ⟨h3, by omega⟩
          · exact .inr h3) h0 h1 (by omega)
        have hrow : r = .sl .shr ((xs.take h.toNat).drop l.toNat) ∧ (l = 0 ∨ allSz ti.size xs = true) := by
          split at hr
          · rename_i hl0
            injection hr with hr
            subst hl0
            exact ⟨by simpa using hr.symm, .inl rfl⟩
          · split at hr
            · injection hr with hr; exact ⟨hr.symm, .inr (by assumption)⟩
            · cases hr
        obtain ⟨rfl, hsz⟩ := hrow
        refine ⟨.slice (if c = l.toNat then some ⟨b, o, none⟩ else some ⟨b, o + l.toNat * ti.size, none⟩) (h.toNat - l.toNat) (c - l.toNat), ?_, ?_⟩
        · simp only [Instr.sliceAt, Sem.run_bind, run_und hu, Result.andThen, Instr.slice, hbd, run_so hi', Sem.run_pure]
          congr 2
          split <;> simp [addr_add']
        · by_cases hcl : c = l.toNat
          · have e1 : (xs.take h.toNat).drop l.toNat = [] := by
              apply List.drop_eq_nil_of_le
              rw [List.length_take]; omega
            have e2 : h.toNat - l.toNat = 0 := by omega
            rw [e1, e2]
            exact .slE _ _
          · rw [if_neg hcl]
            refine .sl (sz := sz) ?_ (by rw [List.length_drop, List.length_take]; omega) (by omega) trivial h9
            rcases hsz with hl0 | hsz
            · subst hl0
              simpa using h5.take h.toNat
            · refine (h5.take h.toNat).drop' ?_
              simp only [allSz, List.all_eq_true] at hsz ⊢
              exact fun x hx => hsz x (List.mem_of_mem_take hx)
      · cases hr
end
end Go.A
