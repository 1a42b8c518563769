/- The plan of a region that draws its order, reckoned. -/
import Derived.Test.YtpedaofcndaooaaDoorBh
namespace Go.A
set_option linter.unusedSimpArgs false
set_option linter.unusedVariables false

def maskOf (m : List Nat) (o : Oper) : Nat := o.after.toList.foldr (fun e s => (if Region.binds .any e then 2 ^ e.on ||| m.getD e.on 0 else 0) ||| s) 0
def befs (l : List Oper) : List Nat := l.foldl (fun acc o => acc ++ [maskOf acc o]) []
def maskOk (l : List Oper) (m : List Nat) : Bool :=
  m.length == l.length && (List.range l.length).all fun j => match l[j]? with
    | some o => m.getD j 0 == maskOf m o && o.after.toList.all fun e => !Region.binds .any e || decide (e.on < j)
    | none => true
def bitOf (m : List Nat) (i j : Nat) : Bool := (m.getD i 0).testBit j
def dstOf (l : List Oper) (i : Nat) : Option Nat := (l[i]?).bind (·.dst)
def ordOk (N : Nat) (bit : Nat → Nat → Bool) (eff al : Nat → Bool) : List Nat → List Nat → Bool
  | _, [] => true
  | pre, i :: r => (List.range N).all (fun j => !bit i j || pre.contains j) && pre.all (fun e => !eff e || bit i e || (al e && al i)) && ordOk N bit eff al (i :: pre) r
def effOf (its : List AItem) (i : Nat) : Bool :=
  match its[i]? with
  | some { op := .e _, .. } => true
  | _ => false
def looksOf (l : List Oper) (its : List AItem) (i : Nat) : List Nat :=
  (match l[i]? with
    | some o => o.op.operands.toList.flatMap looksO
    | none => []) ++
  (match its[i]? with
    | some it => (match it.guard with
        | some (t, _) => [t]
        | none => []) ++ (match it.op with
        | .q q => q.looks
        | .e _ => [])
    | none => [])
def tempsOk (l : List Oper) (bit : Nat → Nat → Bool) (looks : Nat → List Nat) : Bool :=
  (List.range l.length).all fun i => (looks i).all fun t => (List.range l.length).all fun j => dstOf l j != some t || (j != i && (bit i j || bit j i))
def uniqOk (l : List Oper) : Bool :=
  (List.range l.length).all fun i => (List.range l.length).all fun j => i == j || (dstOf l i).isNone || dstOf l i != dstOf l j
def readsOf (its : List AItem) (i : Nat) : Option QOp :=
  match its[i]? with
  | some { op := .q q, .. } => if q.reads then some q else none
  | _ => none
def watchOf (l : List Oper) (its : List AItem) (bit : Nat → Nat → Bool) (e : Nat) : List Nat → List Watch
  | [] => []
  | i :: r => match readsOf its i, dstOf l i, its[i]? with
    | some q, some d, some it => if bit e i then watchOf l its bit e r else { guard := it.guard, q := q, dst := d } :: watchOf l its bit e r
    | _, _, _ => watchOf l its bit e r
/-- What was read ahead is known to stay readable. -/
def readOk (l : List Oper) (its : List AItem) (bit : Nat → Nat → Bool) (i : Nat) : Bool :=
  (readsOf its i).isNone || ((dstOf l i).isSome && (looksOf l its i).all fun t => (List.range l.length).all fun j => dstOf l j != some t || bit i j)
def itemOf (l : List Oper) (its : List AItem) (bit : Nat → Nat → Bool) (al : Nat → Bool) (π : List Nat) (i : Nat) : AItem :=
  match its[i]? with
  | some it => if effOf its i && !al i then { it with watch := watchOf l its bit i (π.takeWhile (· != i)) } else it
  | none => default
def planGo (N : Nat) (bit : Nat → Nat → Bool) (eff : Nat → Bool) : Nat → List Nat → List Nat
  | 0, _ => []
  | f + 1, dn =>
    let rd := (List.range N).filter fun i => !dn.contains i && (List.range N).all fun j => !bit i j || dn.contains j
    match rd.find? (fun i => !eff i) with
    | some i => i :: planGo N bit eff f (i :: dn)
    | none => match rd with
      | i :: _ => i :: planGo N bit eff f (i :: dn)
      | [] => []
def planOf (l : List Oper) (its : List AItem) : List Nat := planGo l.length (bitOf (befs l)) (effOf its) l.length []
/-- What only makes memory, and waits for nothing. -/
def isAl (it : AItem) : Bool :=
  match it.guard, it.op with
  | none, .e (.alloc _) => true
  | _, _ => false
def alOf (l : List Oper) (its : List AItem) (bit : Nat → Nat → Bool) (i : Nat) : Bool :=
  match its[i]? with
  | some it => isAl it && (List.range l.length).all fun j => !bit i j
  | none => false
def contOk (al : Nat → Bool) (π : List Nat) : Bool := ((π.dropWhile fun i => !al i).dropWhile al).all fun i => !al i
def planQ (N : Nat) (bit : Nat → Nat → Bool) (eff : Nat → Bool) : Nat → List Nat → List Nat
  | 0, _ => []
  | f + 1, dn =>
    match (List.range N).find? fun i => !dn.contains i && !eff i && (List.range N).all fun j => !bit i j || dn.contains j with
    | some i => i :: planQ N bit eff f (i :: dn)
    | none => []
def planAl (l : List Oper) (its : List AItem) : List Nat :=
  let bit := bitOf (befs l)
  let p := planQ l.length bit (effOf its) l.length [] ++ (List.range l.length).filter (alOf l its bit)
  p ++ planGo l.length bit (effOf its) l.length p.reverse

def nodupB : List Nat → Bool
  | [] => true
  | x :: xs => !xs.contains x && nodupB xs
def permOk (N : Nat) (π : List Nat) : Bool := π.all (fun i => decide (i < N)) && nodupB π && (List.range N).all fun i => π.contains i
/-- A region that draws, compiled. -/
def compRw (l : List Oper) (its : List AItem) (fl : Bool) (π : List Nat) : Option (List AItem) :=
  let bit := bitOf (befs l)
  let al := fun i => fl && alOf l its bit i
  if permOk l.length π && maskOk l (befs l) && ordOk l.length bit (effOf its) al [] π && tempsOk l bit (looksOf l its) && uniqOk l && (List.range l.length).all (readOk l its bit) && contOk al π then some (π.map (itemOf l its bit al π)) else none
def compR (P : Program) (n : Nat) (l : List Oper) : Option (List AItem) :=
  match compL P n l l with
  | some its =>
    match compRw l its false (planOf l its) with
    | some x => some x
    | none => compRw l its true (planAl l its)
  | none => none

section
variable {P : Program} {n : Nat} {l : List Oper}

theorem maskOf_bit {m : List Nat} {o : Oper} {i : Nat} (h : (maskOf m o).testBit i = true) : ∃ e ∈ o.after, Region.binds .any e = true ∧ (i = e.on ∨ (m.getD e.on 0).testBit i = true) := by
  unfold maskOf at h
  have key : ∀ es : List Edge, (es.foldr (fun e s => (if Region.binds .any e then 2 ^ e.on ||| m.getD e.on 0 else 0) ||| s) 0).testBit i = true → ∃ e ∈ es, Region.binds .any e = true ∧ (i = e.on ∨ (m.getD e.on 0).testBit i = true) := by
    intro es
    induction es with
    | nil => intro h; simp at h
    | cons e es ih =>
      intro h
      simp only [List.foldr_cons, Nat.testBit_or, Bool.or_eq_true] at h
      rcases h with h | h
      · split at h
        · rename_i hb
          simp only [Nat.testBit_or, Bool.or_eq_true, Nat.testBit_two_pow, decide_eq_true_eq] at h
          exact ⟨e, by simp, hb, h.imp (fun h => h.symm) id⟩
        · simp at h
      · obtain ⟨e', h1, h2⟩ := ih h
        exact ⟨e', by simp [h1], h2⟩
  obtain ⟨e, h1, h2⟩ := key _ h
  exact ⟨e, by simpa using h1, h2⟩

theorem maskOk_spec {m : List Nat} (h : maskOk l m = true) {j : Nat} {o : Oper} (ho : l[j]? = some o) : m.getD j 0 = maskOf m o ∧ ∀ e ∈ o.after, Region.binds .any e = true → e.on < j := by
  have hj := (List.getElem?_eq_some_iff.1 ho).1
  simp only [maskOk, Bool.and_eq_true] at h
  have := List.all_eq_true.1 h.2 j (List.mem_range.2 hj)
  simp only [ho, Bool.and_eq_true, beq_iff_eq, List.all_eq_true, Bool.or_eq_true, Bool.not_eq_true', decide_eq_true_eq] at this
  refine ⟨this.1, fun e he hb => ?_⟩
  rcases this.2 e (by simpa using he) with h1 | h1
  · rw [hb] at h1; cases h1
  · exact h1

theorem mask_listed {m : List Nat} (h : maskOk l m = true) {L : Array Bool} (hc : RegClosed .any l.toArray L) : ∀ (j : Nat) (o : Oper), l[j]? = some o → (∀ e ∈ o.after, Region.binds .any e = true → L.getD e.on false = true) →
    ∀ i, bitOf m j i = true → L.getD i false = true := by
  intro j
  induction j using Nat.strongRecOn with
  | _ j ih =>
    intro o ho hall i hb
    obtain ⟨h1, h2⟩ := maskOk_spec h ho
    unfold bitOf at hb
    rw [h1] at hb
    obtain ⟨e, he, hbn, hi⟩ := maskOf_bit hb
    have hL := hall e he hbn
    rcases hi with rfl | hi
    · exact hL
    · have hlt := h2 e he hbn
      have hjl := (List.getElem?_eq_some_iff.1 ho).1
      obtain ⟨o', ho'⟩ : ∃ o', l[e.on]? = some o' := ⟨l[e.on], by simp [show e.on < l.length by omega]⟩
      exact ih e.on hlt o' ho' (hc e.on o' (by simpa using ho') hL) i hi

theorem ordOk_spec {N : Nat} {bit : Nat → Nat → Bool} {eff al : Nat → Bool} (hbN : ∀ i j, bit i j = true → j < N) : ∀ {post pre : List Nat}, ordOk N bit eff al pre post = true → ∀ p i r, post = p ++ i :: r →
    (∀ j, bit i j = true → j ∈ pre ∨ j ∈ p) ∧ ∀ e, e ∈ pre ∨ e ∈ p → eff e = true → bit i e = true ∨ (al e = true ∧ al i = true)
  | [], pre, _, p, i, r, h => by simp at h
  | x :: post, pre, h, p, i, r, hp => by
    simp only [ordOk, Bool.and_eq_true, List.all_eq_true, Bool.or_eq_true, Bool.not_eq_true', or_assoc] at h
    obtain ⟨⟨h1, h2⟩, h3⟩ := h
    cases p with
    | nil =>
      simp only [List.nil_append, List.cons.injEq] at hp
      obtain ⟨rfl, rfl⟩ := hp
      refine ⟨fun j hj => ?_, fun e he hE => ?_⟩
      · rcases h1 j (List.mem_range.2 (hbN _ _ hj)) with h4 | h4
        · rw [hj] at h4; cases h4
        · exact .inl (by simpa using h4)
      · rcases he with he | he
        · rcases h2 e he with h4 | h4
          · rw [hE] at h4; cases h4
          · exact h4
        · cases he
    | cons y p =>
      simp only [List.cons_append, List.cons.injEq] at hp
      obtain ⟨rfl, hp⟩ := hp
      obtain ⟨h4, h5⟩ := ordOk_spec hbN h3 p i r hp
      refine ⟨fun j hj => ?_, fun e he hE => h5 e ?_ hE⟩
      · rcases h4 j hj with h6 | h6
        · rcases List.mem_cons.1 h6 with rfl | h6
          · exact .inr (by simp)
          · exact .inl h6
        · exact .inr (by simp [h6])
      · rcases he with he | he
        · exact .inl (by simp [he])
        · rcases List.mem_cons.1 he with rfl | he
          · exact .inl (by simp)
          · exact .inr he

theorem nodupB_spec : ∀ {xs : List Nat}, nodupB xs = true → xs.Nodup
  | [], _ => List.nodup_nil
  | x :: xs, h => by
    simp only [nodupB, Bool.and_eq_true, Bool.not_eq_true', List.contains_eq_mem, decide_eq_false_iff_not] at h
    exact List.nodup_cons.2 ⟨h.1, nodupB_spec h.2⟩
theorem permOk_spec {N : Nat} {π : List Nat} (h : permOk N π = true) : (∀ i, i ∈ π ↔ i < N) ∧ π.Nodup := by
  simp only [permOk, Bool.and_eq_true, List.all_eq_true, List.mem_range, decide_eq_true_eq] at h
  obtain ⟨⟨h1, h2⟩, h3⟩ := h
  exact ⟨fun i => ⟨h1 i, fun hi => by simpa using h3 i hi⟩, nodupB_spec h2⟩

theorem Dst_iff {i t : Nat} : Dst l i t ↔ dstOf l i = some t := by
  unfold Dst dstOf
  cases h : l[i]? with
  | none => simp
  | some o => simp

theorem compL_get : ∀ {os : List Oper} {its : List AItem}, compL P n l os = some its → its.length = os.length ∧ ∀ (i : Nat) (o : Oper), os[i]? = some o → ∃ it, its[i]? = some it ∧ compI P n l o = some it
  | [], its, h => by injection h with h; subst h; exact ⟨rfl, fun i o ho => by simp at ho⟩
  | x :: os, its, h => by
    unfold compL at h
    split at h
    · rename_i it its' h1 h2
      injection h with h; subst h
      obtain ⟨h3, h4⟩ := compL_get h2
      refine ⟨by simp [h3], fun i o ho => ?_⟩
      cases i with
      | zero => simp at ho; subst ho; exact ⟨it, rfl, h1⟩
      | succ i => simp only [List.getElem?_cons_succ] at ho ⊢; exact h4 i o ho
    · cases h

theorem takeWhile_pre {π pre post : List Nat} {e : Nat} (h : π = pre ++ e :: post) (hn : e ∉ pre) : π.takeWhile (· != e) = pre := by
  subst h
  rw [List.takeWhile_append_of_pos (fun x hx => by simp; rintro rfl; exact hn hx)]
  simp

theorem watchOf_mem {its : List AItem} {bit : Nat → Nat → Bool} {e i d : Nat} {q : QOp} {it : AItem} (h1 : readsOf its i = some q) (h2 : dstOf l i = some d) (h3 : its[i]? = some it) (h4 : bit e i = false) : ∀ {xs : List Nat}, i ∈ xs →
    ({ guard := it.guard, q := q, dst := d } : Watch) ∈ watchOf l its bit e xs
  | x :: xs, h => by
    unfold watchOf
    rcases List.mem_cons.1 h with rfl | h
    · rw [h1, h2, h3]
      simp [h4]
    · have ih := watchOf_mem h1 h2 h3 h4 h
      split
      · split
        · exact ih
        · exact List.mem_cons_of_mem _ ih
      · exact ih

theorem dropWhile_head {p : Nat → Bool} : ∀ {xs : List Nat} {u : Nat}, u ∈ xs.takeWhile p → p u = true
  | x :: xs, u, h => by
    rw [List.takeWhile_cons] at h
    split at h
    · rename_i hx
      rcases List.mem_cons.1 h with rfl | h
      · exact hx
      · exact dropWhile_head h
    · cases h
theorem contOk_spec {al : Nat → Bool} {π : List Nat} (h : contOk al π = true) : ∃ U V W, π = U ++ (V ++ W) ∧ (∀ v ∈ V, al v = true) ∧ (∀ u ∈ U, al u = false) ∧ ∀ u ∈ W, al u = false := by
  refine ⟨π.takeWhile fun i => !al i, (π.dropWhile fun i => !al i).takeWhile al, (π.dropWhile fun i => !al i).dropWhile al, ?_, fun v hv => dropWhile_head hv, fun u hu => ?_, fun u hu => ?_⟩
  · rw [List.takeWhile_append_dropWhile, List.takeWhile_append_dropWhile]
  · have := dropWhile_head hu
    simpa using this
  · simp only [contOk, List.all_eq_true, Bool.not_eq_true'] at h
    exact h u hu
theorem isAl_spec {it : AItem} (h : isAl it = true) (hw : it.watch = []) : ∃ d z, it = ⟨d, none, .e (.alloc z), []⟩ := by
  obtain ⟨d, g, op, ws⟩ := it
  unfold isAl at h
  split at h
  · rename_i z h1 h2
    simp only at h1 h2 hw
    subst h1; subst h2; subst hw
    exact ⟨d, z, rfl⟩
  · cases h
theorem compRw_sound {its : List AItem} {fl : Bool} {π : List Nat} {items : List AItem} (hits : compL P n l l = some its) (h : compRw l its fl π = some items) : ∃ π eff looks bit al item, PlanOk l π eff looks bit al ∧ ItemsOk P n l π eff looks bit al item ∧ items = π.map item := by
  unfold compRw at h
  · simp only at h
    split at h
    · rename_i hc
      injection h with h; subst h
      simp only [Bool.and_eq_true] at hc
      obtain ⟨⟨⟨⟨⟨⟨hperm, hmask⟩, hord⟩, htemps⟩, huniq⟩, hread⟩, hcont⟩ := hc
      obtain ⟨hmem, hnd⟩ := permOk_spec hperm
      obtain ⟨hlen, hget⟩ := compL_get hits
      generalize hm : befs l = m at *
      have hbN : ∀ i j, bitOf m i j = true → j < l.length := by
        intro i j hb
        rcases Nat.lt_or_ge i l.length with hi | hi
        · obtain ⟨o, ho⟩ : ∃ o, l[i]? = some o := ⟨l[i], by simp [hi]⟩
          obtain ⟨o', ho'⟩ : ∃ o', l[j]? = some o' ∨ l.length ≤ j := by
            rcases Nat.lt_or_ge j l.length with h | h
            · exact ⟨l[j], .inl (by simp [h])⟩
            · exact ⟨default, .inr h⟩
          rcases ho' with ho' | ho'
          · exact (List.getElem?_eq_some_iff.1 ho').1
          · exfalso
            have hcl : RegClosed .any l.toArray (Array.replicate l.length true) := by
              intro k ok hok hk e he hb
              have := (maskOk_spec hmask (by simpa using hok)).2 e he hb
              have hkl : k < l.length := by
                rcases Nat.lt_or_ge k l.length with h | h
                · exact h
                · simp [Array.getElem?_eq_none (xs := Array.replicate l.length true) (by simpa using h)] at hk
              simp [show e.on < l.length by omega]
            have := mask_listed hmask hcl i o ho (fun e he hb => by
              have := (maskOk_spec hmask ho).2 e he hb
              simp [show e.on < l.length by omega]) j hb
            simp [Array.getElem?_eq_none (xs := Array.replicate l.length true) (by simpa using ho')] at this
        · have hml : m.length = l.length := by
            simp only [maskOk, Bool.and_eq_true, beq_iff_eq] at hmask
            exact hmask.1
          simp only [bitOf, List.getD_eq_getElem?_getD, List.getElem?_eq_none (show m.length ≤ i by omega), Option.getD_none, Nat.zero_testBit, Bool.false_eq_true] at hb
      generalize hAL : (fun i => fl && alOf l its (bitOf m) i) = al at *
      have halOf : ∀ i, al i = true → alOf l its (bitOf m) i = true := by
        intro i hi
        rw [← hAL] at hi
        simp only [Bool.and_eq_true] at hi
        exact hi.2
      have hitem : ∀ (i : Nat) (it : AItem), its[i]? = some it → itemOf l its (bitOf m) al π i = (if effOf its i && !al i then { it with watch := watchOf l its (bitOf m) i (π.takeWhile (· != i)) } else it) := by
        intro i it hi
        simp only [itemOf, hi]
      have hgetI : ∀ i, i < l.length → ∃ o it, l[i]? = some o ∧ its[i]? = some it ∧ compI P n l o = some it := by
        intro i hi
        obtain ⟨o, ho⟩ : ∃ o, l[i]? = some o := ⟨l[i], by simp [hi]⟩
        obtain ⟨it, h1, h2⟩ := hget i o ho
        exact ⟨o, it, ho, h1, h2⟩
      have hfields : ∀ (i : Nat) (it : AItem), its[i]? = some it → (itemOf l its (bitOf m) al π i).dst = it.dst ∧ (itemOf l its (bitOf m) al π i).guard = it.guard ∧ (itemOf l its (bitOf m) al π i).op = it.op := by
        intro i it hi
        rw [hitem i it hi]
        split <;> exact ⟨rfl, rfl, rfl⟩
      have heffq : ∀ (i : Nat) (it : AItem), its[i]? = some it → (effOf its i = false ↔ ∃ q, it.op = .q q) := by
        intro i it hi
        obtain ⟨d, g, op, ws⟩ := it
        unfold effOf
        rw [hi]
        cases op <;> simp
      refine ⟨π, effOf its, looksOf l its, bitOf m, al, itemOf l its (bitOf m) al π, ?_, ?_, rfl⟩
      · refine ⟨hmem, hnd, fun L j o hcl ho hall i hb => mask_listed hmask hcl j o ho hall i hb, fun j o ho e he hb => (maskOk_spec hmask ho).2 e he hb, fun pre i post hp j hb => ?_, fun pre i post hp e he hE => ?_, fun i hi j => ?_, contOk_spec hcont, fun i j t o hi ht ho hd => ?_, fun i j t oi oj hoi hoj hdi hdj => ?_⟩
        · rcases (ordOk_spec hbN hord pre i post hp).1 j hb with h1 | h1
          · cases h1
          · exact h1
        · exact (ordOk_spec hbN hord pre i post hp).2 e (.inr he) hE
        · have h1 := halOf i hi
          unfold alOf at h1
          split at h1
          · simp only [Bool.and_eq_true, List.all_eq_true, List.mem_range, Bool.not_eq_true'] at h1
            cases hb : bitOf m i j with
            | false => rfl
            | true => rw [h1.2 j (hbN i j hb)] at hb; cases hb
          · cases h1
        · have h1 := List.all_eq_true.1 htemps i (List.mem_range.2 hi)
          have h2 := List.all_eq_true.1 h1 t ht
          have h3 := List.all_eq_true.1 h2 j (List.mem_range.2 (List.getElem?_eq_some_iff.1 ho).1)
          have h4 : dstOf l j = some t := Dst_iff.1 ⟨o, ho, hd⟩
          simp only [h4, Bool.or_eq_true, Bool.and_eq_true, bne_iff_ne, ne_eq, not_true_eq_false, false_or] at h3
          exact h3
        · have h1 := List.all_eq_true.1 huniq i (List.mem_range.2 (List.getElem?_eq_some_iff.1 hoi).1)
          have h2 := List.all_eq_true.1 h1 j (List.mem_range.2 (List.getElem?_eq_some_iff.1 hoj).1)
          have h3 : dstOf l i = some t := Dst_iff.1 ⟨oi, hoi, hdi⟩
          have h4 : dstOf l j = some t := Dst_iff.1 ⟨oj, hoj, hdj⟩
          simpa [h3, h4] using h2
      · refine ⟨fun i o ho => ?_, fun i hi => ?_, fun i hi he => ?_, fun i q hi hq t ht => ?_, fun i o t ho ht => ?_, fun i t b hi hg => ?_, fun i hi hal => ?_, fun pre e post hp he hale i hi q hq hr hb => ?_⟩
        · obtain ⟨it, h1, h2⟩ := hget i o ho
          rw [h2]
          have h3 := (compI_spec h2).2.2.2.1
          obtain ⟨h4, h5, h6⟩ := hfields i it h1
          show some it = some (AItem.mk (itemOf l its (bitOf m) al π i).dst (itemOf l its (bitOf m) al π i).guard (itemOf l its (bitOf m) al π i).op [])
          rw [h4, h5, h6]
          obtain ⟨d, g, op, ws⟩ := it
          simp only at h3
          subst h3
          rfl
        · obtain ⟨o, it, ho, h1, h2⟩ := hgetI i hi
          rw [heffq i it h1, (hfields i it h1).2.2]
        · obtain ⟨o, it, ho, h1, h2⟩ := hgetI i hi
          rw [hitem i it h1, he]
          exact (compI_spec h2).2.2.2.1
        · obtain ⟨o, it, ho, h1, h2⟩ := hgetI i hi
          rw [(hfields i it h1).2.2] at hq
          unfold looksOf
          simp only [h1, hq]
          simp [ht]
        · unfold looksOf
          simp only [ho]
          refine List.mem_append_left _ (List.mem_flatMap.2 ⟨_, ht, by simp [looksO]⟩)
        · obtain ⟨o, it, ho, h1, h2⟩ := hgetI i hi
          rw [(hfields i it h1).2.1] at hg
          unfold looksOf
          simp only [h1, hg]
          simp
        · obtain ⟨o, it, ho, h1, h2⟩ := hgetI i hi
          rw [hitem i it h1, hal, Bool.not_true, Bool.and_false, if_neg (by simp)]
          have h3 := halOf i hal
          unfold alOf at h3
          rw [h1] at h3
          simp only [Bool.and_eq_true] at h3
          exact isAl_spec h3.1 (compI_spec h2).2.2.2.1
        · have hil : i < l.length := (hmem i).1 (by rw [hp]; simp [hi])
          have hel : e < l.length := (hmem e).1 (by rw [hp]; simp)
          obtain ⟨o, it, ho, h1, h2⟩ := hgetI i hil
          obtain ⟨oe, ite, hoe, h1e, h2e⟩ := hgetI e hel
          rw [(hfields i it h1).2.2] at hq
          have hro : readsOf its i = some q := by
            obtain ⟨d, g, op, ws⟩ := it
            simp only at hq
            subst hq
            simp [readsOf, h1, hr]
          have h3 := List.all_eq_true.1 hread i (List.mem_range.2 hil)
          simp only [readOk, hro, Option.isNone_some, Bool.false_or, Bool.and_eq_true, List.all_eq_true, List.mem_range, Bool.or_eq_true, bne_iff_ne] at h3
          obtain ⟨h4, h5⟩ := h3
          obtain ⟨d, hd⟩ := Option.isSome_iff_exists.1 h4
          have hnd' : (pre ++ e :: post).Nodup := hp ▸ hnd
          have hepre : e ∉ pre := fun hm => by
            rw [List.nodup_append] at hnd'
            exact hnd'.2.2 e hm e (by simp) rfl
          refine ⟨⟨d, Dst_iff.2 hd, ?_⟩, fun t ht j hD => ?_⟩
          · rw [hitem e ite h1e, he, hale, Bool.not_false, Bool.and_true, if_pos rfl, takeWhile_pre hp hepre, (hfields i it h1).2.1]
            exact watchOf_mem hro hd h1 hb hi
          · rcases h5 t ht j hD.lt with h6 | h6
            · exact absurd (Dst_iff.1 hD) h6
            · exact h6
    · cases h
theorem compR_sound {items : List AItem} (h : compR P n l = some items) : ∃ π eff looks bit al item, PlanOk l π eff looks bit al ∧ ItemsOk P n l π eff looks bit al item ∧ items = π.map item := by
  unfold compR at h
  split at h
  · rename_i its hits
    split at h
    · rename_i x hx
      injection h with h; subst h
      exact compRw_sound hits hx
    · exact compRw_sound hits h
  · cases h
end
end Go.A
